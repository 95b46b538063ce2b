/- pace: Uses. -/
import Derived.Test.YtgmcdlfmifijlaaDPace1
set_option linter.unusedVariables false
set_option linter.unusedSimpArgs false
namespace Go.Proofs.Ytgmcdlfmifijlaa.Dev
open Go.RowKit

set_option maxRecDepth 100000 in
set_option maxHeartbeats 1000000 in
theorem c_pace_Uses (l : List Use) : Fn Try.prog 40 [(.c (cR 2 ((l).map rUse)))] (aG [cI (uses l).1, cI (uses l).2]) [] := by
  refine Fn.mk' 53 [(0, (aC (cR 2 ((l).map rUse))))] Try.func40 rfl rfl rfl rfl ?_
  intro W0 T0
  refine AC.len1 0 rfl (fun hlen0 => ?_)
  refine AC.seq ?_
  refine AC.region ?_
  refine AL.new (n' := 1) (Wanted.plain rfl) (g_alloc 0 rfl zv47 rfl rfl rfl) rfl rfl rfl ?_
  refine AL.nil ?_
  refine then_ok ?_
  refine AC.seq ?_
  refine AC.seq ?_
  refine AC.region ?_
  refine AL.fast 1 rfl ?_
  refine AL.val (Wanted.plain rfl) (g_lenM rfl rfl rfl rfl rfl Try.underlying42) rfl rfl ?_
  refine AL.val (Wanted.plain rfl) (g_binI rfl rfl rfl rfl) rfl rfl ?_
  refine AL.nil ?_
  refine then_ok ?_
  refine AC.cond rfl (fun hc1 => ?_) (fun hc1 => ?_)
  ·
    have hc1' := hc1; try simp only [sumB, Bool.not_eq_true', Bool.not_eq_false', Bool.or_eq_true, Bool.or_eq_false_iff, Bool.and_eq_true, Bool.and_eq_false_imp, decide_eq_true_eq, decide_eq_false_iff_not, Bool.not_not, Bool.not_true, Bool.not_false] at hc1'
    refine AC.seq ?_
    refine AC.region ?_
    refine AL.val (Wanted.plain rfl) (g_build (ys := [(0, (.c (cI 5)))]) rfl bld47 rfl ⟨⟨rfl, rfl⟩,  trivial⟩ rfl rfl) rfl rfl ?_
    refine AL.sto (h' := [(0, (.box 47 [(cI 5), (cI 0)]))]) (Wanted.plain rfl) (g_storeB rfl rfl rfl rfl rfl sz47 rfl (Nat.le_of_ble_eq_true rfl) rfl) rfl rfl rfl rfl ?_
    refine AL.nil ?_
    refine then_ok ?_
    refine AC.ret ?_
    refine then_ret ?_
    refine retQ_mk (av' := outOf [(.g [(cI 5), (cI 0)])]) (nb' := []) (retQ_ret ⟨[(2, (aC (.p 0 0 0 0)))], [(0, (.box 47 [(cI 5), (cI 0)]))], 1⟩ [.cell 2 47] [(.g [(cI 5), (cI 0)])] (Weak.ren id (⟨by first | rfl | (simp only [AV.map, GV.map, CV.map, AB.map', id]; done) | (congr 3; omega) | (congr 4; omega) | (simp only [List.length_append, List.length_cons, List.length_nil, List.length_set]; rfl),  trivial⟩) (⟨by first | rfl | (simp only [AV.map, GV.map, CV.map, AB.map', id]; done) | (congr 3; omega) | (congr 4; omega) | (simp only [List.length_append, List.length_cons, List.length_nil, List.length_set]; rfl),  trivial⟩) rfl) rfl ⟨.agg rfl rfl (fun _ => run_isAgg Try.underlying47) sz47, trivial⟩ trivial) ?_ ?_
    · (have h : uses l = (5, 0) := by (unfold uses; rw [if_pos (by omega)])); rw [h]; rfl
    · rfl
  ·
    have hc1' := hc1; try simp only [sumB, Bool.not_eq_true', Bool.not_eq_false', Bool.or_eq_true, Bool.or_eq_false_iff, Bool.and_eq_true, Bool.and_eq_false_imp, decide_eq_true_eq, decide_eq_false_iff_not, Bool.not_not, Bool.not_true, Bool.not_false] at hc1'
    refine AC.skip ?_
    refine then_ok ?_
    refine AC.seq ?_
    refine AC.seq ?_
    refine AC.region ?_
    refine AL.fast 1 rfl ?_
    refine AL.val (Wanted.plain rfl) (g_lenM rfl rfl rfl rfl rfl Try.underlying42) rfl rfl ?_
    refine AL.fast 1 rfl ?_
    refine AL.nil ?_
    refine then_ok ?_
    refine AC.block ?_
    refine AC.loop (β := Nat) (fun (q : Nat) => ⟨[(0, (aC (cR 2 ((l).map rUse)))), (2, (aC (.p 0 0 0 0))), (9, (aC (cR 2 ((l).map rUse)))), (10, (aI (↑l.length : Int))), (11, (aI (↑q : Int)))], [(0, (.box 47 [(cI 0), (cI 0)]))], 1⟩) (fun (q : Nat) => q ≤ l.length ∧ scan (uErr l) 0 l.length = scan (uErr l) q (l.length - q)) (fun (q : Nat) => l.length - q) 0 ?_ ?_ ?_
    · exact ⟨by omega, rfl⟩
    · exact Weak.ren id (⟨by first | rfl | (simp only [AV.map, GV.map, CV.map, AB.map', id]; done) | (congr 3; omega) | (congr 4; omega) | (simp only [List.length_append, List.length_cons, List.length_nil, List.length_set]; rfl), by first | rfl | (simp only [AV.map, GV.map, CV.map, AB.map', id]; done) | (congr 3; omega) | (congr 4; omega) | (simp only [List.length_append, List.length_cons, List.length_nil, List.length_set]; rfl), by first | rfl | (simp only [AV.map, GV.map, CV.map, AB.map', id]; done) | (congr 3; omega) | (congr 4; omega) | (simp only [List.length_append, List.length_cons, List.length_nil, List.length_set]; rfl), by first | rfl | (simp only [AV.map, GV.map, CV.map, AB.map', id]; done) | (congr 3; omega) | (congr 4; omega) | (simp only [List.length_append, List.length_cons, List.length_nil, List.length_set]; rfl), by first | rfl | (simp only [AV.map, GV.map, CV.map, AB.map', id]; done) | (congr 3; omega) | (congr 4; omega) | (simp only [List.length_append, List.length_cons, List.length_nil, List.length_set]; rfl),  trivial⟩) (⟨by first | rfl | (simp only [AV.map, GV.map, CV.map, AB.map', id]; done) | (congr 3; omega) | (congr 4; omega) | (simp only [List.length_append, List.length_cons, List.length_nil, List.length_set]; rfl),  trivial⟩) rfl
    ·
      rintro q ⟨hi0_0, hi0_1⟩
      refine AC.seq ?_
      refine AC.region ?_
      refine AL.val (Wanted.plain rfl) (g_binI rfl rfl rfl rfl) rfl rfl ?_
      refine AL.nil ?_
      refine then_ok ?_
      refine AC.seq ?_
      refine AC.cond rfl (fun hc2 => ?_) (fun hc2 => ?_)
      ·
        have hc2' := hc2; try simp only [sumB, Bool.not_eq_true', Bool.not_eq_false', Bool.or_eq_true, Bool.or_eq_false_iff, Bool.and_eq_true, Bool.and_eq_false_imp, decide_eq_true_eq, decide_eq_false_iff_not, Bool.not_not, Bool.not_true, Bool.not_false] at hc2'
        refine AC.skip ?_
        refine then_ok ?_
        refine AC.seq ?_
        refine AC.block ?_
        refine AC.seq ?_
        refine AC.region ?_
        refine AL.fast 1 rfl ?_
        obtain ⟨x1, hx1⟩ := exget (xs := l) (i := q) (by first | omega | (simp; done) | (simp; omega))
        refine AL.val (Wanted.plain rfl) (g_indexQ (i := q) rfl rfl rfl Try.underlying42 sz44 (by first | omega | (simp; done) | (simp; omega)) (getmap hx1)) rfl rfl ?_
        refine AL.val (Wanted.plain rfl) (g_loadQs rfl rfl Try.underlying44 rfl sz44 rfl rfl) rfl rfl ?_
        refine AL.new (n' := 2) (Wanted.plain rfl) (g_alloc 1 rfl zv44 rfl rfl rfl) rfl rfl rfl ?_
        refine AL.fast 1 rfl ?_
        refine AL.sto (h' := [(1, (.box 44 [(cI x1.time), (cI x1.sum)])), (0, (.box 47 [(cI 0), (cI 0)]))]) (Wanted.plain rfl) (g_storeB rfl rfl rfl rfl rfl sz44 rfl (Nat.le_of_ble_eq_true rfl) rfl) rfl rfl rfl rfl ?_
        refine AL.nil ?_
        refine then_ok ?_
        refine AC.seq ?_
        refine AC.cutB 33 ((((decide (x1.time < 0)) || (decide (x1.time > 1000000))) || (decide (x1.sum < 0))) || (decide (x1.sum > 1000000))) ?_ ?_
        ·
          refine AC.region ?_
          refine AL.val (Wanted.plain rfl) (g_fieldP rfl rfl Try.underlying44 rfl sz3 (by decide)) rfl rfl ?_
          refine AL.val (Wanted.plain rfl) (g_loadB rfl rfl rfl Try.underlying3 rfl rfl) rfl rfl ?_
          refine AL.val (Wanted.plain rfl) (g_binI rfl rfl rfl rfl) rfl rfl ?_
          refine AL.fast 1 rfl ?_
          refine AL.dec (t := 19) rfl (fun hb3 => ?_) (fun hb3 => ?_)
          ·
            have hb3' := hb3; try simp only [sumB, Bool.not_eq_true', Bool.not_eq_false', Bool.or_eq_true, Bool.or_eq_false_iff, Bool.and_eq_true, Bool.and_eq_false_imp, decide_eq_true_eq, decide_eq_false_iff_not, Bool.not_not, Bool.not_true, Bool.not_false] at hb3'
            refine AL.fast 14 rfl ?_
            refine AL.nil ?_
            refine then_ok ?_
            exact Weak.popB 19 rfl rfl (by first | (simp [hb3]; done) | (simp_all; done) | (exfalso; simp_all; done) | (simp_all; omega)) rfl
          ·
            have hb3' := hb3; try simp only [sumB, Bool.not_eq_true', Bool.not_eq_false', Bool.or_eq_true, Bool.or_eq_false_iff, Bool.and_eq_true, Bool.and_eq_false_imp, decide_eq_true_eq, decide_eq_false_iff_not, Bool.not_not, Bool.not_true, Bool.not_false] at hb3'
            refine AL.val (Wanted.yes rfl rfl rfl) (g_fieldP rfl rfl Try.underlying44 rfl sz3 (by decide)) rfl rfl ?_
            refine AL.val (Wanted.yes rfl rfl rfl) (g_loadB rfl rfl rfl Try.underlying3 rfl rfl) rfl rfl ?_
            refine AL.val (Wanted.yes rfl rfl rfl) (g_binI rfl rfl rfl rfl) rfl rfl ?_
            refine AL.fast 2 rfl ?_
            refine AL.dec (t := 24) rfl (fun hb4 => ?_) (fun hb4 => ?_)
            ·
              have hb4' := hb4; try simp only [sumB, Bool.not_eq_true', Bool.not_eq_false', Bool.or_eq_true, Bool.or_eq_false_iff, Bool.and_eq_true, Bool.and_eq_false_imp, decide_eq_true_eq, decide_eq_false_iff_not, Bool.not_not, Bool.not_true, Bool.not_false] at hb4'
              refine AL.fast 9 rfl ?_
              refine AL.nil ?_
              refine then_ok ?_
              exact Weak.popB 20 rfl rfl (by first | (simp [hb3, hb4]; done) | (simp_all; done) | (exfalso; simp_all; done) | (simp_all; omega)) rfl
            ·
              have hb4' := hb4; try simp only [sumB, Bool.not_eq_true', Bool.not_eq_false', Bool.or_eq_true, Bool.or_eq_false_iff, Bool.and_eq_true, Bool.and_eq_false_imp, decide_eq_true_eq, decide_eq_false_iff_not, Bool.not_not, Bool.not_true, Bool.not_false] at hb4'
              refine AL.val (Wanted.yes rfl rfl rfl) (g_fieldP rfl rfl Try.underlying44 rfl sz3 (by decide)) rfl rfl ?_
              refine AL.val (Wanted.yes rfl rfl rfl) (g_loadB rfl rfl rfl Try.underlying3 rfl rfl) rfl rfl ?_
              refine AL.val (Wanted.yes rfl rfl rfl) (g_binI rfl rfl rfl rfl) rfl rfl ?_
              refine AL.fast 2 rfl ?_
              refine AL.dec (t := 29) rfl (fun hb5 => ?_) (fun hb5 => ?_)
              ·
                have hb5' := hb5; try simp only [sumB, Bool.not_eq_true', Bool.not_eq_false', Bool.or_eq_true, Bool.or_eq_false_iff, Bool.and_eq_true, Bool.and_eq_false_imp, decide_eq_true_eq, decide_eq_false_iff_not, Bool.not_not, Bool.not_true, Bool.not_false] at hb5'
                refine AL.fast 4 rfl ?_
                refine AL.nil ?_
                refine then_ok ?_
                exact Weak.popB 21 rfl rfl (by first | (simp [hb3, hb4, hb5]; done) | (simp_all; done) | (exfalso; simp_all; done) | (simp_all; omega)) rfl
              ·
                have hb5' := hb5; try simp only [sumB, Bool.not_eq_true', Bool.not_eq_false', Bool.or_eq_true, Bool.or_eq_false_iff, Bool.and_eq_true, Bool.and_eq_false_imp, decide_eq_true_eq, decide_eq_false_iff_not, Bool.not_not, Bool.not_true, Bool.not_false] at hb5'
                refine AL.val (Wanted.yes rfl rfl rfl) (g_fieldP rfl rfl Try.underlying44 rfl sz3 (by decide)) rfl rfl ?_
                refine AL.val (Wanted.yes rfl rfl rfl) (g_loadB rfl rfl rfl Try.underlying3 rfl rfl) rfl rfl ?_
                refine AL.val (Wanted.yes rfl rfl rfl) (g_binI rfl rfl rfl rfl) rfl rfl ?_
                refine AL.fast 1 rfl ?_
                refine AL.nil ?_
                refine then_ok ?_
                exact Weak.popB 21 rfl rfl (by first | (simp [hb3, hb4, hb5]; done) | (simp_all; done) | (exfalso; simp_all; done) | (simp_all; omega)) rfl
        ·
          refine AC.cond rfl (fun hc6 => ?_) (fun hc6 => ?_)
          ·
            have hc6' := hc6; try simp only [sumB, Bool.not_eq_true', Bool.not_eq_false', Bool.or_eq_true, Bool.or_eq_false_iff, Bool.and_eq_true, Bool.and_eq_false_imp, decide_eq_true_eq, decide_eq_false_iff_not, Bool.not_not, Bool.not_true, Bool.not_false] at hc6'
            refine AC.seq ?_
            refine AC.region ?_
            refine AL.fast 1 rfl ?_
            refine AL.val (Wanted.plain rfl) (g_build (ys := [(0, (.c (cI 3))), (1, (.c (cI (↑q : Int))))]) rfl bld47 rfl ⟨⟨rfl, rfl⟩, ⟨rfl, rfl⟩,  trivial⟩ rfl rfl) rfl rfl ?_
            refine AL.sto (h' := [(1, (.box 44 [(cI x1.time), (cI x1.sum)])), (0, (.box 47 [(cI 3), (cI (↑q : Int))]))]) (Wanted.plain rfl) (g_storeB rfl rfl rfl rfl rfl sz47 rfl (Nat.le_of_ble_eq_true rfl) rfl) rfl rfl rfl rfl ?_
            refine AL.nil ?_
            refine then_ok ?_
            refine AC.ret ?_
            refine then_ret ?_
            refine block_ret ?_
            refine then_ret ?_
            refine then_ret ?_
            refine block_ret ?_
            refine then_ret ?_
            refine retQ_mk (av' := outOf [(.g [(cI 3), (cI (↑q : Int))])]) (nb' := []) (retQ_ret ⟨[(2, (aC (.p 0 0 0 0)))], [(0, (.box 47 [(cI 3), (cI (↑q : Int))]))], 1⟩ [.cell 2 47] [(.g [(cI 3), (cI (↑q : Int))])] (Weak.ren id (⟨by first | rfl | (simp only [AV.map, GV.map, CV.map, AB.map', id]; done) | (congr 3; omega) | (congr 4; omega) | (simp only [List.length_append, List.length_cons, List.length_nil, List.length_set]; rfl),  trivial⟩) (⟨by first | rfl | (simp only [AV.map, GV.map, CV.map, AB.map', id]; done) | (congr 3; omega) | (congr 4; omega) | (simp only [List.length_append, List.length_cons, List.length_nil, List.length_set]; rfl),  trivial⟩) rfl) rfl ⟨.agg rfl rfl (fun _ => run_isAgg Try.underlying47) sz47, trivial⟩ trivial) ?_ ?_
            · (have h : uses l = (3, (q : Int)) := by (unfold uses; rw [if_neg (by omega), hi0_1]; exact scan_bad (by omega) (show uErr l q = 3 by (unfold uErr; simp only [hx1]; rw [if_pos (by omega)])) (by decide))); rw [h]; rfl
            · rfl
          ·
            have hc6' := hc6; try simp only [sumB, Bool.not_eq_true', Bool.not_eq_false', Bool.or_eq_true, Bool.or_eq_false_iff, Bool.and_eq_true, Bool.and_eq_false_imp, decide_eq_true_eq, decide_eq_false_iff_not, Bool.not_not, Bool.not_true, Bool.not_false] at hc6'
            refine AC.skip ?_
            refine then_ok ?_
            refine AC.seq ?_
            rcases Bool.eq_false_or_eq_true (decide ((↑q : Int) > 0)) with hb7 | hb7
            ·
              have hb7' := hb7; try simp only [sumB, Bool.not_eq_true', Bool.not_eq_false', Bool.or_eq_true, Bool.or_eq_false_iff, Bool.and_eq_true, Bool.and_eq_false_imp, decide_eq_true_eq, decide_eq_false_iff_not, Bool.not_not, Bool.not_true, Bool.not_false] at hb7'
              obtain ⟨x2, hx2⟩ := exget (xs := l) (i := (q) - 1) (by first | omega | (simp; done) | (simp; omega))
              refine AC.weak (st' := ⟨[(0, (aC (cR 2 ((l).map rUse)))), (2, (aC (.p 0 0 0 0))), (9, (aC (cR 2 ((l).map rUse)))), (10, (aI (↑l.length : Int))), (11, (aI (↑q : Int))), (4, (aC (.p 1 0 0 0))), (3, (aI (↑q : Int)))], [(1, (.box 44 [(cI x1.time), (cI x1.sum)])), (0, (.box 47 [(cI 0), (cI 0)]))], 2⟩) (Weak.ren id (⟨by first | rfl | (simp only [AV.map, GV.map, CV.map, AB.map', id]; done) | (congr 3; omega) | (congr 4; omega) | (simp only [List.length_append, List.length_cons, List.length_nil, List.length_set]; rfl), by first | rfl | (simp only [AV.map, GV.map, CV.map, AB.map', id]; done) | (congr 3; omega) | (congr 4; omega) | (simp only [List.length_append, List.length_cons, List.length_nil, List.length_set]; rfl), by first | rfl | (simp only [AV.map, GV.map, CV.map, AB.map', id]; done) | (congr 3; omega) | (congr 4; omega) | (simp only [List.length_append, List.length_cons, List.length_nil, List.length_set]; rfl), by first | rfl | (simp only [AV.map, GV.map, CV.map, AB.map', id]; done) | (congr 3; omega) | (congr 4; omega) | (simp only [List.length_append, List.length_cons, List.length_nil, List.length_set]; rfl), by first | rfl | (simp only [AV.map, GV.map, CV.map, AB.map', id]; done) | (congr 3; omega) | (congr 4; omega) | (simp only [List.length_append, List.length_cons, List.length_nil, List.length_set]; rfl), by first | rfl | (simp only [AV.map, GV.map, CV.map, AB.map', id]; done) | (congr 3; omega) | (congr 4; omega) | (simp only [List.length_append, List.length_cons, List.length_nil, List.length_set]; rfl), by first | rfl | (simp only [AV.map, GV.map, CV.map, AB.map', id]; done) | (congr 3; omega) | (congr 4; omega) | (simp only [List.length_append, List.length_cons, List.length_nil, List.length_set]; rfl),  trivial⟩) (⟨by first | rfl | (simp only [AV.map, GV.map, CV.map, AB.map', id]; done) | (congr 3; omega) | (congr 4; omega) | (simp only [List.length_append, List.length_cons, List.length_nil, List.length_set]; rfl), by first | rfl | (simp only [AV.map, GV.map, CV.map, AB.map', id]; done) | (congr 3; omega) | (congr 4; omega) | (simp only [List.length_append, List.length_cons, List.length_nil, List.length_set]; rfl),  trivial⟩) rfl) ?_
              refine AC.draw [⟨some 36, (aI (↑q : Int)), [], [], [], [(3, (aI (↑q : Int)))], []⟩,
      ⟨some 37, (aB true), [], [], [0], [(36, (aI (↑q : Int)))], []⟩,
      ⟨some 38, (aB true), [], [], [1], [(37, (aB true))], []⟩,
      ⟨some 39, (aC (cR 2 ((l).map rUse))), [], [], [2], [(0, (aC (cR 2 ((l).map rUse)))), (38, (aB true))], []⟩,
      ⟨some 40, (aI (↑q : Int)), [], [], [2], [(3, (aI (↑q : Int))), (38, (aB true))], []⟩,
      ⟨some 41, (aI ((↑q : Int) - 1)), [], [], [2, 4], [(40, (aI (↑q : Int))), (38, (aB true))], []⟩,
      ⟨some 42, (aC (.q (rUse x2) 0)), [], [], [2, 3, 5], [(39, (aC (cR 2 ((l).map rUse)))), (41, (aI ((↑q : Int) - 1))), (38, (aB true))], []⟩,
      ⟨some 43, (aC (.q (rUse x2) 0)), [], [], [2, 6], [(42, (aC (.q (rUse x2) 0))), (38, (aB true))], []⟩,
      ⟨some 44, (aI x2.time), [], [], [2, 7], [(43, (aC (.q (rUse x2) 0))), (38, (aB true))], []⟩,
      ⟨some 45, (aC (.p 1 0 0 0)), [], [], [2], [(4, (aC (.p 1 0 0 0))), (38, (aB true))], [(1, (.box 44 [(cI x1.time), (cI x1.sum)]))]⟩,
      ⟨some 46, (aI x1.time), [], [], [2, 9], [(45, (aC (.p 1 0 0 0))), (38, (aB true))], [(1, (.box 44 [(cI x1.time), (cI x1.sum)]))]⟩,
      ⟨some 47, (aB (decide (x2.time > x1.time))), [], [], [2, 8, 10], [(44, (aI x2.time)), (46, (aI x1.time)), (38, (aB true))], []⟩,
      ⟨some 48, (aB (decide (x2.time > x1.time))), [], [], [2, 11], [(38, (aB true)), (47, (aB (decide (x2.time > x1.time))))], []⟩] ⟨[(0, (aC (cR 2 ((l).map rUse)))), (2, (aC (.p 0 0 0 0))), (9, (aC (cR 2 ((l).map rUse)))), (10, (aI (↑l.length : Int))), (11, (aI (↑q : Int))), (4, (aC (.p 1 0 0 0))), (3, (aI (↑q : Int))), (48, (aB (decide (x2.time > x1.time))))], [(1, (.box 44 [(cI x1.time), (cI x1.sum)])), (0, (.box 47 [(cI 0), (cI 0)]))], 2⟩ mixed (by kernel_rfl) ?_ ?_ ?_ ?_
              · exact ⟨.inl ⟨(Wanted.plain rfl), GOp.cast (g_move rfl rfl) rfl⟩,
      .inl ⟨(Wanted.plain rfl), GOp.cast (g_binI rfl rfl rfl (congrArg (fun b => some (Value.bool b)) hb7)) rfl⟩,
      .inl ⟨(Wanted.plain rfl), GOp.cast (g_move rfl rfl) rfl⟩,
      .inl ⟨(Wanted.yes rfl rfl rfl), GOp.cast (g_move rfl rfl) rfl⟩,
      .inl ⟨(Wanted.yes rfl rfl rfl), GOp.cast (g_move rfl rfl) rfl⟩,
      .inl ⟨(Wanted.yes rfl rfl rfl), GOp.cast (g_binI rfl rfl rfl (wrap_ok (by first | omega | (simp; done) | (simp; omega)))) rfl⟩,
      .inl ⟨(Wanted.yes rfl rfl rfl), GOp.cast (g_indexQ (i := (q) - 1) rfl rfl rfl Try.underlying42 sz44 (by first | omega | (simp; done) | (simp; omega)) (getmap hx2)) rfl⟩,
      .inl ⟨(Wanted.yes rfl rfl rfl), GOp.cast (g_fieldQ rfl rfl Try.underlying44 rfl sz3 (by decide)) rfl⟩,
      .inl ⟨(Wanted.yes rfl rfl rfl), GOp.cast (g_loadQ rfl rfl Try.underlying3 rfl rfl) rfl⟩,
      .inl ⟨(Wanted.yes rfl rfl rfl), GOp.cast (g_fieldP rfl rfl Try.underlying44 rfl sz3 (by decide)) rfl⟩,
      .inl ⟨(Wanted.yes rfl rfl rfl), GOp.cast (g_loadB rfl rfl rfl Try.underlying3 rfl rfl) rfl⟩,
      .inl ⟨(Wanted.yes rfl rfl rfl), GOp.cast (g_binI rfl rfl rfl rfl) rfl⟩,
      .inl ⟨(Wanted.plain rfl), GOp.cast (g_pick rfl rfl rfl) rfl⟩,
       trivial⟩
              · exact ⟨⟨⟨.inl rfl,  trivial⟩, trivial⟩, ⟨⟨.inr ⟨0, .head _, _, rfl, rfl, rfl⟩,  trivial⟩, trivial⟩, ⟨⟨.inr ⟨1, .head _, _, rfl, rfl, rfl⟩,  trivial⟩, trivial⟩, ⟨⟨.inl rfl, .inr ⟨2, .head _, _, rfl, rfl, rfl⟩,  trivial⟩, trivial⟩, ⟨⟨.inl rfl, .inr ⟨2, .head _, _, rfl, rfl, rfl⟩,  trivial⟩, trivial⟩, ⟨⟨.inr ⟨4, .tail _ (.head _), _, rfl, rfl, rfl⟩, .inr ⟨2, .head _, _, rfl, rfl, rfl⟩,  trivial⟩, trivial⟩, ⟨⟨.inr ⟨3, .tail _ (.head _), _, rfl, rfl, rfl⟩, .inr ⟨5, .tail _ (.tail _ (.head _)), _, rfl, rfl, rfl⟩, .inr ⟨2, .head _, _, rfl, rfl, rfl⟩,  trivial⟩, trivial⟩, ⟨⟨.inr ⟨6, .tail _ (.head _), _, rfl, rfl, rfl⟩, .inr ⟨2, .head _, _, rfl, rfl, rfl⟩,  trivial⟩, trivial⟩, ⟨⟨.inr ⟨7, .tail _ (.head _), _, rfl, rfl, rfl⟩, .inr ⟨2, .head _, _, rfl, rfl, rfl⟩,  trivial⟩, trivial⟩, ⟨⟨.inl rfl, .inr ⟨2, .head _, _, rfl, rfl, rfl⟩,  trivial⟩, ⟨.inl rfl,  trivial⟩⟩, ⟨⟨.inr ⟨9, .tail _ (.head _), _, rfl, rfl, rfl⟩, .inr ⟨2, .head _, _, rfl, rfl, rfl⟩,  trivial⟩, ⟨.inl rfl,  trivial⟩⟩, ⟨⟨.inr ⟨8, .tail _ (.head _), _, rfl, rfl, rfl⟩, .inr ⟨10, .tail _ (.tail _ (.head _)), _, rfl, rfl, rfl⟩, .inr ⟨2, .head _, _, rfl, rfl, rfl⟩,  trivial⟩, trivial⟩, ⟨⟨.inr ⟨2, .head _, _, rfl, rfl, rfl⟩, .inr ⟨11, .tail _ (.head _), _, rfl, rfl, rfl⟩,  trivial⟩, trivial⟩,  trivial⟩
              · exact ⟨⟨.inl rfl, .inl rfl, .inl rfl, .inl rfl, .inl rfl, .inl rfl, .inl rfl, .inr ⟨12, _, rfl, rfl, rfl⟩,  trivial⟩, ⟨.inl rfl, .inl rfl,  trivial⟩⟩
              ·
                refine AL.nil ?_
                refine then_ok ?_
                refine AC.cond rfl (fun hc8 => ?_) (fun hc8 => ?_)
                ·
                  have hc8' := hc8; try simp only [sumB, Bool.not_eq_true', Bool.not_eq_false', Bool.or_eq_true, Bool.or_eq_false_iff, Bool.and_eq_true, Bool.and_eq_false_imp, decide_eq_true_eq, decide_eq_false_iff_not, Bool.not_not, Bool.not_true, Bool.not_false] at hc8'
                  refine AC.seq ?_
                  refine AC.region ?_
                  refine AL.fast 1 rfl ?_
                  refine AL.val (Wanted.plain rfl) (g_build (ys := [(0, (.c (cI 2))), (1, (.c (cI (↑q : Int))))]) rfl bld47 rfl ⟨⟨rfl, rfl⟩, ⟨rfl, rfl⟩,  trivial⟩ rfl rfl) rfl rfl ?_
                  refine AL.sto (h' := [(1, (.box 44 [(cI x1.time), (cI x1.sum)])), (0, (.box 47 [(cI 2), (cI (↑q : Int))]))]) (Wanted.plain rfl) (g_storeB rfl rfl rfl rfl rfl sz47 rfl (Nat.le_of_ble_eq_true rfl) rfl) rfl rfl rfl rfl ?_
                  refine AL.nil ?_
                  refine then_ok ?_
                  refine AC.ret ?_
                  refine block_ret ?_
                  refine then_ret ?_
                  refine then_ret ?_
                  refine block_ret ?_
                  refine then_ret ?_
                  refine retQ_mk (av' := outOf [(.g [(cI 2), (cI (↑q : Int))])]) (nb' := []) (retQ_ret ⟨[(2, (aC (.p 0 0 0 0)))], [(0, (.box 47 [(cI 2), (cI (↑q : Int))]))], 1⟩ [.cell 2 47] [(.g [(cI 2), (cI (↑q : Int))])] (Weak.ren id (⟨by first | rfl | (simp only [AV.map, GV.map, CV.map, AB.map', id]; done) | (congr 3; omega) | (congr 4; omega) | (simp only [List.length_append, List.length_cons, List.length_nil, List.length_set]; rfl),  trivial⟩) (⟨by first | rfl | (simp only [AV.map, GV.map, CV.map, AB.map', id]; done) | (congr 3; omega) | (congr 4; omega) | (simp only [List.length_append, List.length_cons, List.length_nil, List.length_set]; rfl),  trivial⟩) rfl) rfl ⟨.agg rfl rfl (fun _ => run_isAgg Try.underlying47) sz47, trivial⟩ trivial) ?_ ?_
                  · (have h : uses l = (2, (q : Int)) := by (unfold uses; rw [if_neg (by omega), hi0_1]; exact scan_bad (by omega) (show uErr l q = 2 by (unfold uErr; simp only [hx1]; rw [if_neg (by omega), if_pos (by refine ⟨by omega, ?_⟩; rw [List.getD_eq_getElem?_getD, hx2]; simp only [Option.getD_some]; omega)])) (by decide))); rw [h]; rfl
                  · rfl
                ·
                  have hc8' := hc8; try simp only [sumB, Bool.not_eq_true', Bool.not_eq_false', Bool.or_eq_true, Bool.or_eq_false_iff, Bool.and_eq_true, Bool.and_eq_false_imp, decide_eq_true_eq, decide_eq_false_iff_not, Bool.not_not, Bool.not_true, Bool.not_false] at hc8'
                  refine AC.skip ?_
                  refine block_ok ?_
                  refine then_ok ?_
                  refine AC.region ?_
                  refine AL.val (Wanted.plain rfl) (g_binI rfl rfl rfl (wrap_ok (by first | omega | (simp; done) | (simp; omega)))) rfl rfl ?_
                  refine AL.fast 1 rfl ?_
                  refine AL.nil ?_
                  refine then_ok ?_
                  refine ⟨q + 1, ⟨by omega, by rw [hi0_1]; exact scan_ok (by omega) (by unfold uErr; simp only [hx1]; rw [if_neg (by omega), if_neg (by first | omega | (rw [List.getD_eq_getElem?_getD, hx2]; simp only [Option.getD_some]; omega))])⟩, by first | omega | (simp; done) | (simp; omega), Weak.ren id (⟨by first | rfl | (simp only [AV.map, GV.map, CV.map, AB.map', id]; done) | (congr 3; omega) | (congr 4; omega) | (simp only [List.length_append, List.length_cons, List.length_nil, List.length_set]; rfl), by first | rfl | (simp only [AV.map, GV.map, CV.map, AB.map', id]; done) | (congr 3; omega) | (congr 4; omega) | (simp only [List.length_append, List.length_cons, List.length_nil, List.length_set]; rfl), by first | rfl | (simp only [AV.map, GV.map, CV.map, AB.map', id]; done) | (congr 3; omega) | (congr 4; omega) | (simp only [List.length_append, List.length_cons, List.length_nil, List.length_set]; rfl), by first | rfl | (simp only [AV.map, GV.map, CV.map, AB.map', id]; done) | (congr 3; omega) | (congr 4; omega) | (simp only [List.length_append, List.length_cons, List.length_nil, List.length_set]; rfl), by first | rfl | (simp only [AV.map, GV.map, CV.map, AB.map', id]; done) | (congr 3; omega) | (congr 4; omega) | (simp only [List.length_append, List.length_cons, List.length_nil, List.length_set]; rfl),  trivial⟩) (⟨by first | rfl | (simp only [AV.map, GV.map, CV.map, AB.map', id]; done) | (congr 3; omega) | (congr 4; omega) | (simp only [List.length_append, List.length_cons, List.length_nil, List.length_set]; rfl),  trivial⟩) rfl⟩
            ·
              have hb7' := hb7; try simp only [sumB, Bool.not_eq_true', Bool.not_eq_false', Bool.or_eq_true, Bool.or_eq_false_iff, Bool.and_eq_true, Bool.and_eq_false_imp, decide_eq_true_eq, decide_eq_false_iff_not, Bool.not_not, Bool.not_true, Bool.not_false] at hb7'
              refine AC.weak (st' := ⟨[(0, (aC (cR 2 ((l).map rUse)))), (2, (aC (.p 0 0 0 0))), (9, (aC (cR 2 ((l).map rUse)))), (10, (aI (↑l.length : Int))), (11, (aI (↑q : Int))), (4, (aC (.p 1 0 0 0))), (3, (aI (↑q : Int)))], [(1, (.box 44 [(cI x1.time), (cI x1.sum)])), (0, (.box 47 [(cI 0), (cI 0)]))], 2⟩) (Weak.ren id (⟨by first | rfl | (simp only [AV.map, GV.map, CV.map, AB.map', id]; done) | (congr 3; omega) | (congr 4; omega) | (simp only [List.length_append, List.length_cons, List.length_nil, List.length_set]; rfl), by first | rfl | (simp only [AV.map, GV.map, CV.map, AB.map', id]; done) | (congr 3; omega) | (congr 4; omega) | (simp only [List.length_append, List.length_cons, List.length_nil, List.length_set]; rfl), by first | rfl | (simp only [AV.map, GV.map, CV.map, AB.map', id]; done) | (congr 3; omega) | (congr 4; omega) | (simp only [List.length_append, List.length_cons, List.length_nil, List.length_set]; rfl), by first | rfl | (simp only [AV.map, GV.map, CV.map, AB.map', id]; done) | (congr 3; omega) | (congr 4; omega) | (simp only [List.length_append, List.length_cons, List.length_nil, List.length_set]; rfl), by first | rfl | (simp only [AV.map, GV.map, CV.map, AB.map', id]; done) | (congr 3; omega) | (congr 4; omega) | (simp only [List.length_append, List.length_cons, List.length_nil, List.length_set]; rfl), by first | rfl | (simp only [AV.map, GV.map, CV.map, AB.map', id]; done) | (congr 3; omega) | (congr 4; omega) | (simp only [List.length_append, List.length_cons, List.length_nil, List.length_set]; rfl), by first | rfl | (simp only [AV.map, GV.map, CV.map, AB.map', id]; done) | (congr 3; omega) | (congr 4; omega) | (simp only [List.length_append, List.length_cons, List.length_nil, List.length_set]; rfl),  trivial⟩) (⟨by first | rfl | (simp only [AV.map, GV.map, CV.map, AB.map', id]; done) | (congr 3; omega) | (congr 4; omega) | (simp only [List.length_append, List.length_cons, List.length_nil, List.length_set]; rfl), by first | rfl | (simp only [AV.map, GV.map, CV.map, AB.map', id]; done) | (congr 3; omega) | (congr 4; omega) | (simp only [List.length_append, List.length_cons, List.length_nil, List.length_set]; rfl),  trivial⟩) rfl) ?_
              refine AC.draw [⟨some 36, (aI (↑q : Int)), [], [], [], [(3, (aI (↑q : Int)))], []⟩,
      ⟨some 37, (aB false), [], [], [0], [(36, (aI (↑q : Int)))], []⟩,
      ⟨some 38, (aB false), [], [], [1], [(37, (aB false))], []⟩,
      ⟨some 39, (.t []), [], [], [2], [(0, (aC (cR 2 ((l).map rUse)))), (38, (aB false))], []⟩,
      ⟨some 40, (.t []), [], [], [2], [(3, (aI (↑q : Int))), (38, (aB false))], []⟩,
      ⟨some 41, (.t []), [], [], [2, 4], [(40, (.t [])), (38, (aB false))], []⟩,
      ⟨some 42, (.t []), [], [], [2, 3, 5], [(39, (.t [])), (41, (.t [])), (38, (aB false))], []⟩,
      ⟨some 43, (.t []), [], [], [2, 6], [(42, (.t [])), (38, (aB false))], []⟩,
      ⟨some 44, (.t []), [], [], [2, 7], [(43, (.t [])), (38, (aB false))], []⟩,
      ⟨some 45, (.t []), [], [], [2], [(4, (aC (.p 1 0 0 0))), (38, (aB false))], []⟩,
      ⟨some 46, (.t []), [], [], [2, 9], [(45, (.t [])), (38, (aB false))], []⟩,
      ⟨some 47, (.t []), [], [], [2, 8, 10], [(44, (.t [])), (46, (.t [])), (38, (aB false))], []⟩,
      ⟨some 48, (aB false), [], [], [2, 11], [(38, (aB false)), (47, (.t []))], []⟩] ⟨[(0, (aC (cR 2 ((l).map rUse)))), (2, (aC (.p 0 0 0 0))), (9, (aC (cR 2 ((l).map rUse)))), (10, (aI (↑l.length : Int))), (11, (aI (↑q : Int))), (4, (aC (.p 1 0 0 0))), (3, (aI (↑q : Int))), (48, (aB false))], [(1, (.box 44 [(cI x1.time), (cI x1.sum)])), (0, (.box 47 [(cI 0), (cI 0)]))], 2⟩ mixed (by kernel_rfl) ?_ ?_ ?_ ?_
              · exact ⟨.inl ⟨(Wanted.plain rfl), GOp.cast (g_move rfl rfl) rfl⟩,
      .inl ⟨(Wanted.plain rfl), GOp.cast (g_binI rfl rfl rfl (congrArg (fun b => some (Value.bool b)) hb7)) rfl⟩,
      .inl ⟨(Wanted.plain rfl), GOp.cast (g_move rfl rfl) rfl⟩,
      .inr ⟨(Unwanted.no rfl rfl rfl), rfl, rfl, rfl⟩,
      .inr ⟨(Unwanted.no rfl rfl rfl), rfl, rfl, rfl⟩,
      .inr ⟨(Unwanted.no rfl rfl rfl), rfl, rfl, rfl⟩,
      .inr ⟨(Unwanted.no rfl rfl rfl), rfl, rfl, rfl⟩,
      .inr ⟨(Unwanted.no rfl rfl rfl), rfl, rfl, rfl⟩,
      .inr ⟨(Unwanted.no rfl rfl rfl), rfl, rfl, rfl⟩,
      .inr ⟨(Unwanted.no rfl rfl rfl), rfl, rfl, rfl⟩,
      .inr ⟨(Unwanted.no rfl rfl rfl), rfl, rfl, rfl⟩,
      .inr ⟨(Unwanted.no rfl rfl rfl), rfl, rfl, rfl⟩,
      .inl ⟨(Wanted.plain rfl), GOp.cast (g_pick rfl rfl rfl) rfl⟩,
       trivial⟩
              · exact ⟨⟨⟨.inl rfl,  trivial⟩, trivial⟩, ⟨⟨.inr ⟨0, .head _, _, rfl, rfl, rfl⟩,  trivial⟩, trivial⟩, ⟨⟨.inr ⟨1, .head _, _, rfl, rfl, rfl⟩,  trivial⟩, trivial⟩, ⟨⟨.inl rfl, .inr ⟨2, .head _, _, rfl, rfl, rfl⟩,  trivial⟩, trivial⟩, ⟨⟨.inl rfl, .inr ⟨2, .head _, _, rfl, rfl, rfl⟩,  trivial⟩, trivial⟩, ⟨⟨.inr ⟨4, .tail _ (.head _), _, rfl, rfl, rfl⟩, .inr ⟨2, .head _, _, rfl, rfl, rfl⟩,  trivial⟩, trivial⟩, ⟨⟨.inr ⟨3, .tail _ (.head _), _, rfl, rfl, rfl⟩, .inr ⟨5, .tail _ (.tail _ (.head _)), _, rfl, rfl, rfl⟩, .inr ⟨2, .head _, _, rfl, rfl, rfl⟩,  trivial⟩, trivial⟩, ⟨⟨.inr ⟨6, .tail _ (.head _), _, rfl, rfl, rfl⟩, .inr ⟨2, .head _, _, rfl, rfl, rfl⟩,  trivial⟩, trivial⟩, ⟨⟨.inr ⟨7, .tail _ (.head _), _, rfl, rfl, rfl⟩, .inr ⟨2, .head _, _, rfl, rfl, rfl⟩,  trivial⟩, trivial⟩, ⟨⟨.inl rfl, .inr ⟨2, .head _, _, rfl, rfl, rfl⟩,  trivial⟩, trivial⟩, ⟨⟨.inr ⟨9, .tail _ (.head _), _, rfl, rfl, rfl⟩, .inr ⟨2, .head _, _, rfl, rfl, rfl⟩,  trivial⟩, trivial⟩, ⟨⟨.inr ⟨8, .tail _ (.head _), _, rfl, rfl, rfl⟩, .inr ⟨10, .tail _ (.tail _ (.head _)), _, rfl, rfl, rfl⟩, .inr ⟨2, .head _, _, rfl, rfl, rfl⟩,  trivial⟩, trivial⟩, ⟨⟨.inr ⟨2, .head _, _, rfl, rfl, rfl⟩, .inr ⟨11, .tail _ (.head _), _, rfl, rfl, rfl⟩,  trivial⟩, trivial⟩,  trivial⟩
              · exact ⟨⟨.inl rfl, .inl rfl, .inl rfl, .inl rfl, .inl rfl, .inl rfl, .inl rfl, .inr ⟨12, _, rfl, rfl, rfl⟩,  trivial⟩, ⟨.inl rfl, .inl rfl,  trivial⟩⟩
              ·
                refine AL.nil ?_
                refine then_ok ?_
                refine AC.cond rfl (fun hno => by cases hno) (fun _ => ?_)
                refine AC.skip ?_
                refine block_ok ?_
                refine then_ok ?_
                refine AC.region ?_
                refine AL.val (Wanted.plain rfl) (g_binI rfl rfl rfl (wrap_ok (by first | omega | (simp; done) | (simp; omega)))) rfl rfl ?_
                refine AL.fast 1 rfl ?_
                refine AL.nil ?_
                refine then_ok ?_
                refine ⟨q + 1, ⟨by omega, by rw [hi0_1]; exact scan_ok (by omega) (by unfold uErr; simp only [hx1]; rw [if_neg (by omega), if_neg (by first | omega | (rw [List.getD_eq_getElem?_getD, hx2]; simp only [Option.getD_some]; omega))])⟩, by first | omega | (simp; done) | (simp; omega), Weak.ren id (⟨by first | rfl | (simp only [AV.map, GV.map, CV.map, AB.map', id]; done) | (congr 3; omega) | (congr 4; omega) | (simp only [List.length_append, List.length_cons, List.length_nil, List.length_set]; rfl), by first | rfl | (simp only [AV.map, GV.map, CV.map, AB.map', id]; done) | (congr 3; omega) | (congr 4; omega) | (simp only [List.length_append, List.length_cons, List.length_nil, List.length_set]; rfl), by first | rfl | (simp only [AV.map, GV.map, CV.map, AB.map', id]; done) | (congr 3; omega) | (congr 4; omega) | (simp only [List.length_append, List.length_cons, List.length_nil, List.length_set]; rfl), by first | rfl | (simp only [AV.map, GV.map, CV.map, AB.map', id]; done) | (congr 3; omega) | (congr 4; omega) | (simp only [List.length_append, List.length_cons, List.length_nil, List.length_set]; rfl), by first | rfl | (simp only [AV.map, GV.map, CV.map, AB.map', id]; done) | (congr 3; omega) | (congr 4; omega) | (simp only [List.length_append, List.length_cons, List.length_nil, List.length_set]; rfl),  trivial⟩) (⟨by first | rfl | (simp only [AV.map, GV.map, CV.map, AB.map', id]; done) | (congr 3; omega) | (congr 4; omega) | (simp only [List.length_append, List.length_cons, List.length_nil, List.length_set]; rfl),  trivial⟩) rfl⟩
      ·
        have hc2' := hc2; try simp only [sumB, Bool.not_eq_true', Bool.not_eq_false', Bool.or_eq_true, Bool.or_eq_false_iff, Bool.and_eq_true, Bool.and_eq_false_imp, decide_eq_true_eq, decide_eq_false_iff_not, Bool.not_not, Bool.not_true, Bool.not_false] at hc2'
        refine AC.exit ?_
        refine then_exit ?_
        refine then_exit ?_
        refine block_hit ?_
        refine then_ok ?_
        refine AC.seq ?_
        refine AC.region ?_
        refine AL.val (Wanted.plain rfl) (g_build (ys := []) rfl bld47 rfl trivial rfl rfl) rfl rfl ?_
        refine AL.sto (h' := [(0, (.box 47 [(cI 0), (cI 0)]))]) (Wanted.plain rfl) (g_storeB rfl rfl rfl rfl rfl sz47 rfl (Nat.le_of_ble_eq_true rfl) rfl) rfl rfl rfl rfl ?_
        refine AL.nil ?_
        refine then_ok ?_
        refine AC.ret ?_
        refine retQ_mk (av' := outOf [(.g [(cI 0), (cI 0)])]) (nb' := []) (retQ_ret ⟨[(2, (aC (.p 0 0 0 0)))], [(0, (.box 47 [(cI 0), (cI 0)]))], 1⟩ [.cell 2 47] [(.g [(cI 0), (cI 0)])] (Weak.ren id (⟨by first | rfl | (simp only [AV.map, GV.map, CV.map, AB.map', id]; done) | (congr 3; omega) | (congr 4; omega) | (simp only [List.length_append, List.length_cons, List.length_nil, List.length_set]; rfl),  trivial⟩) (⟨by first | rfl | (simp only [AV.map, GV.map, CV.map, AB.map', id]; done) | (congr 3; omega) | (congr 4; omega) | (simp only [List.length_append, List.length_cons, List.length_nil, List.length_set]; rfl),  trivial⟩) rfl) rfl ⟨.agg rfl rfl (fun _ => run_isAgg Try.underlying47) sz47, trivial⟩ trivial) ?_ ?_
        · (have h : uses l = (0, 0) := by (unfold uses; rw [if_neg (by omega), hi0_1, scan_end (by omega)])); rw [h]; rfl
        · rfl
set_option maxRecDepth 100000 in
set_option maxHeartbeats 1000000 in
theorem c_ref_WrongUses (l : List Use) : Fn Try.prog 41 [(.c (cR 2 ((l).map rUse)))] (aG [cI (uses l).1, cI (uses l).2]) [] := by
  refine Fn.mk' 49 [(0, (aC (cR 2 ((l).map rUse))))] Try.func41 rfl rfl rfl rfl ?_
  intro W0 T0
  refine AC.len1 0 rfl (fun hlen0 => ?_)
  refine AC.seq ?_
  refine AC.region ?_
  refine AL.new (n' := 1) (Wanted.plain rfl) (g_alloc 0 rfl zv47 rfl rfl rfl) rfl rfl rfl ?_
  refine AL.nil ?_
  refine then_ok ?_
  refine AC.seq ?_
  refine AC.seq ?_
  refine AC.region ?_
  refine AL.fast 1 rfl ?_
  refine AL.val (Wanted.plain rfl) (g_lenM rfl rfl rfl rfl rfl Try.underlying42) rfl rfl ?_
  refine AL.val (Wanted.plain rfl) (g_binI rfl rfl rfl rfl) rfl rfl ?_
  refine AL.nil ?_
  refine then_ok ?_
  refine AC.cond rfl (fun hc1 => ?_) (fun hc1 => ?_)
  ·
    have hc1' := hc1; try simp only [sumB, Bool.not_eq_true', Bool.not_eq_false', Bool.or_eq_true, Bool.or_eq_false_iff, Bool.and_eq_true, Bool.and_eq_false_imp, decide_eq_true_eq, decide_eq_false_iff_not, Bool.not_not, Bool.not_true, Bool.not_false] at hc1'
    refine AC.seq ?_
    refine AC.region ?_
    refine AL.val (Wanted.plain rfl) (g_build (ys := [(0, (.c (cI 5)))]) rfl bld47 rfl ⟨⟨rfl, rfl⟩,  trivial⟩ rfl rfl) rfl rfl ?_
    refine AL.sto (h' := [(0, (.box 47 [(cI 5), (cI 0)]))]) (Wanted.plain rfl) (g_storeB rfl rfl rfl rfl rfl sz47 rfl (Nat.le_of_ble_eq_true rfl) rfl) rfl rfl rfl rfl ?_
    refine AL.nil ?_
    refine then_ok ?_
    refine AC.ret ?_
    refine then_ret ?_
    refine retQ_mk (av' := outOf [(.g [(cI 5), (cI 0)])]) (nb' := []) (retQ_ret ⟨[(2, (aC (.p 0 0 0 0)))], [(0, (.box 47 [(cI 5), (cI 0)]))], 1⟩ [.cell 2 47] [(.g [(cI 5), (cI 0)])] (Weak.ren id (⟨by first | rfl | (simp only [AV.map, GV.map, CV.map, AB.map', id]; done) | (congr 3; omega) | (congr 4; omega) | (simp only [List.length_append, List.length_cons, List.length_nil, List.length_set]; rfl),  trivial⟩) (⟨by first | rfl | (simp only [AV.map, GV.map, CV.map, AB.map', id]; done) | (congr 3; omega) | (congr 4; omega) | (simp only [List.length_append, List.length_cons, List.length_nil, List.length_set]; rfl),  trivial⟩) rfl) rfl ⟨.agg rfl rfl (fun _ => run_isAgg Try.underlying47) sz47, trivial⟩ trivial) ?_ ?_
    · (have h : uses l = (5, 0) := by (unfold uses; rw [if_pos (by omega)])); rw [h]; rfl
    · rfl
  ·
    have hc1' := hc1; try simp only [sumB, Bool.not_eq_true', Bool.not_eq_false', Bool.or_eq_true, Bool.or_eq_false_iff, Bool.and_eq_true, Bool.and_eq_false_imp, decide_eq_true_eq, decide_eq_false_iff_not, Bool.not_not, Bool.not_true, Bool.not_false] at hc1'
    refine AC.skip ?_
    refine then_ok ?_
    refine AC.seq ?_
    refine AC.seq ?_
    refine AC.region ?_
    refine AL.fast 1 rfl ?_
    refine AL.val (Wanted.plain rfl) (g_lenM rfl rfl rfl rfl rfl Try.underlying42) rfl rfl ?_
    refine AL.fast 1 rfl ?_
    refine AL.nil ?_
    refine then_ok ?_
    refine AC.block ?_
    refine AC.loop (β := Nat) (fun (q : Nat) => ⟨[(0, (aC (cR 2 ((l).map rUse)))), (2, (aC (.p 0 0 0 0))), (9, (aC (cR 2 ((l).map rUse)))), (10, (aI (↑l.length : Int))), (11, (aI (↑q : Int)))], [(0, (.box 47 [(cI 0), (cI 0)]))], 1⟩) (fun (q : Nat) => q ≤ l.length ∧ scan (uErr l) 0 l.length = scan (uErr l) q (l.length - q)) (fun (q : Nat) => l.length - q) 0 ?_ ?_ ?_
    · exact ⟨by omega, rfl⟩
    · exact Weak.ren id (⟨by first | rfl | (simp only [AV.map, GV.map, CV.map, AB.map', id]; done) | (congr 3; omega) | (congr 4; omega) | (simp only [List.length_append, List.length_cons, List.length_nil, List.length_set]; rfl), by first | rfl | (simp only [AV.map, GV.map, CV.map, AB.map', id]; done) | (congr 3; omega) | (congr 4; omega) | (simp only [List.length_append, List.length_cons, List.length_nil, List.length_set]; rfl), by first | rfl | (simp only [AV.map, GV.map, CV.map, AB.map', id]; done) | (congr 3; omega) | (congr 4; omega) | (simp only [List.length_append, List.length_cons, List.length_nil, List.length_set]; rfl), by first | rfl | (simp only [AV.map, GV.map, CV.map, AB.map', id]; done) | (congr 3; omega) | (congr 4; omega) | (simp only [List.length_append, List.length_cons, List.length_nil, List.length_set]; rfl), by first | rfl | (simp only [AV.map, GV.map, CV.map, AB.map', id]; done) | (congr 3; omega) | (congr 4; omega) | (simp only [List.length_append, List.length_cons, List.length_nil, List.length_set]; rfl),  trivial⟩) (⟨by first | rfl | (simp only [AV.map, GV.map, CV.map, AB.map', id]; done) | (congr 3; omega) | (congr 4; omega) | (simp only [List.length_append, List.length_cons, List.length_nil, List.length_set]; rfl),  trivial⟩) rfl
    ·
      rintro q ⟨hi0_0, hi0_1⟩
      refine AC.seq ?_
      refine AC.region ?_
      refine AL.val (Wanted.plain rfl) (g_binI rfl rfl rfl rfl) rfl rfl ?_
      refine AL.nil ?_
      refine then_ok ?_
      refine AC.seq ?_
      refine AC.cond rfl (fun hc2 => ?_) (fun hc2 => ?_)
      ·
        have hc2' := hc2; try simp only [sumB, Bool.not_eq_true', Bool.not_eq_false', Bool.or_eq_true, Bool.or_eq_false_iff, Bool.and_eq_true, Bool.and_eq_false_imp, decide_eq_true_eq, decide_eq_false_iff_not, Bool.not_not, Bool.not_true, Bool.not_false] at hc2'
        refine AC.skip ?_
        refine then_ok ?_
        refine AC.seq ?_
        refine AC.block ?_
        refine AC.seq ?_
        refine AC.region ?_
        refine AL.fast 1 rfl ?_
        obtain ⟨x1, hx1⟩ := exget (xs := l) (i := q) (by first | omega | (simp; done) | (simp; omega))
        refine AL.val (Wanted.plain rfl) (g_indexQ (i := q) rfl rfl rfl Try.underlying42 sz44 (by first | omega | (simp; done) | (simp; omega)) (getmap hx1)) rfl rfl ?_
        refine AL.val (Wanted.plain rfl) (g_loadQs rfl rfl Try.underlying44 rfl sz44 rfl rfl) rfl rfl ?_
        refine AL.new (n' := 2) (Wanted.plain rfl) (g_alloc 1 rfl zv44 rfl rfl rfl) rfl rfl rfl ?_
        refine AL.fast 1 rfl ?_
        refine AL.sto (h' := [(1, (.box 44 [(cI x1.time), (cI x1.sum)])), (0, (.box 47 [(cI 0), (cI 0)]))]) (Wanted.plain rfl) (g_storeB rfl rfl rfl rfl rfl sz44 rfl (Nat.le_of_ble_eq_true rfl) rfl) rfl rfl rfl rfl ?_
        refine AL.nil ?_
        refine then_ok ?_
        refine AC.seq ?_
        refine AC.cutB 29 (((decide (x1.time < 0)) || (decide (x1.time > 1000000))) || (!(sumB x1.sum))) ?_ ?_
        ·
          refine AC.region ?_
          refine AL.val (Wanted.plain rfl) (g_fieldP rfl rfl Try.underlying44 rfl sz3 (by decide)) rfl rfl ?_
          refine AL.val (Wanted.plain rfl) (g_loadB rfl rfl rfl Try.underlying3 rfl rfl) rfl rfl ?_
          refine AL.val (Wanted.plain rfl) (g_binI rfl rfl rfl rfl) rfl rfl ?_
          refine AL.fast 1 rfl ?_
          refine AL.dec (t := 19) rfl (fun hb3 => ?_) (fun hb3 => ?_)
          ·
            have hb3' := hb3; try simp only [sumB, Bool.not_eq_true', Bool.not_eq_false', Bool.or_eq_true, Bool.or_eq_false_iff, Bool.and_eq_true, Bool.and_eq_false_imp, decide_eq_true_eq, decide_eq_false_iff_not, Bool.not_not, Bool.not_true, Bool.not_false] at hb3'
            refine AL.fast 10 rfl ?_
            refine AL.nil ?_
            refine then_ok ?_
            exact Weak.popB 15 rfl rfl (by first | (simp [hb3]; done) | (simp_all; done) | (exfalso; simp_all; done) | (simp_all; omega)) rfl
          ·
            have hb3' := hb3; try simp only [sumB, Bool.not_eq_true', Bool.not_eq_false', Bool.or_eq_true, Bool.or_eq_false_iff, Bool.and_eq_true, Bool.and_eq_false_imp, decide_eq_true_eq, decide_eq_false_iff_not, Bool.not_not, Bool.not_true, Bool.not_false] at hb3'
            refine AL.val (Wanted.yes rfl rfl rfl) (g_fieldP rfl rfl Try.underlying44 rfl sz3 (by decide)) rfl rfl ?_
            refine AL.val (Wanted.yes rfl rfl rfl) (g_loadB rfl rfl rfl Try.underlying3 rfl rfl) rfl rfl ?_
            refine AL.val (Wanted.yes rfl rfl rfl) (g_binI rfl rfl rfl rfl) rfl rfl ?_
            refine AL.fast 2 rfl ?_
            refine AL.dec (t := 24) rfl (fun hb4 => ?_) (fun hb4 => ?_)
            ·
              have hb4' := hb4; try simp only [sumB, Bool.not_eq_true', Bool.not_eq_false', Bool.or_eq_true, Bool.or_eq_false_iff, Bool.and_eq_true, Bool.and_eq_false_imp, decide_eq_true_eq, decide_eq_false_iff_not, Bool.not_not, Bool.not_true, Bool.not_false] at hb4'
              refine AL.fast 5 rfl ?_
              refine AL.nil ?_
              refine then_ok ?_
              exact Weak.popB 16 rfl rfl (by first | (simp [hb3, hb4]; done) | (simp_all; done) | (exfalso; simp_all; done) | (simp_all; omega)) rfl
            ·
              have hb4' := hb4; try simp only [sumB, Bool.not_eq_true', Bool.not_eq_false', Bool.or_eq_true, Bool.or_eq_false_iff, Bool.and_eq_true, Bool.and_eq_false_imp, decide_eq_true_eq, decide_eq_false_iff_not, Bool.not_not, Bool.not_true, Bool.not_false] at hb4'
              refine AL.val (Wanted.yes rfl rfl rfl) (g_fieldP rfl rfl Try.underlying44 rfl sz3 (by decide)) rfl rfl ?_
              refine AL.val (Wanted.yes rfl rfl rfl) (g_loadB rfl rfl rfl Try.underlying3 rfl rfl) rfl rfl ?_
              refine AL.call (n' := 2) (h' := [(1, (.box 44 [(cI x1.time), (cI x1.sum)])), (0, (.box 47 [(cI 0), (cI 0)]))]) (Wanted.yes rfl rfl rfl) (g_call 2 (c_sum x1.sum  ) en103 rfl rfl ⟨⟨_, rfl, .c (.d _)⟩,  trivial⟩ trivial trivial rfl rfl rfl rfl) rfl rfl rfl rfl rfl ?_
              refine AL.val (Wanted.yes rfl rfl rfl) (g_notB rfl rfl) rfl rfl ?_
              refine AL.fast 1 rfl ?_
              refine AL.nil ?_
              refine then_ok ?_
              exact Weak.popB 16 rfl rfl (by first | (simp [hb3, hb4]; done) | (simp_all; done) | (exfalso; simp_all; done) | (simp_all; omega)) rfl
        ·
          refine AC.cond rfl (fun hc5 => ?_) (fun hc5 => ?_)
          ·
            have hc5' := hc5; try simp only [sumB, Bool.not_eq_true', Bool.not_eq_false', Bool.or_eq_true, Bool.or_eq_false_iff, Bool.and_eq_true, Bool.and_eq_false_imp, decide_eq_true_eq, decide_eq_false_iff_not, Bool.not_not, Bool.not_true, Bool.not_false] at hc5'
            refine AC.seq ?_
            refine AC.region ?_
            refine AL.fast 1 rfl ?_
            refine AL.val (Wanted.plain rfl) (g_build (ys := [(0, (.c (cI 3))), (1, (.c (cI (↑q : Int))))]) rfl bld47 rfl ⟨⟨rfl, rfl⟩, ⟨rfl, rfl⟩,  trivial⟩ rfl rfl) rfl rfl ?_
            refine AL.sto (h' := [(1, (.box 44 [(cI x1.time), (cI x1.sum)])), (0, (.box 47 [(cI 3), (cI (↑q : Int))]))]) (Wanted.plain rfl) (g_storeB rfl rfl rfl rfl rfl sz47 rfl (Nat.le_of_ble_eq_true rfl) rfl) rfl rfl rfl rfl ?_
            refine AL.nil ?_
            refine then_ok ?_
            refine AC.ret ?_
            refine then_ret ?_
            refine block_ret ?_
            refine then_ret ?_
            refine then_ret ?_
            refine block_ret ?_
            refine then_ret ?_
            refine retQ_mk (av' := outOf [(.g [(cI 3), (cI (↑q : Int))])]) (nb' := []) (retQ_ret ⟨[(2, (aC (.p 0 0 0 0)))], [(0, (.box 47 [(cI 3), (cI (↑q : Int))]))], 1⟩ [.cell 2 47] [(.g [(cI 3), (cI (↑q : Int))])] (Weak.ren id (⟨by first | rfl | (simp only [AV.map, GV.map, CV.map, AB.map', id]; done) | (congr 3; omega) | (congr 4; omega) | (simp only [List.length_append, List.length_cons, List.length_nil, List.length_set]; rfl),  trivial⟩) (⟨by first | rfl | (simp only [AV.map, GV.map, CV.map, AB.map', id]; done) | (congr 3; omega) | (congr 4; omega) | (simp only [List.length_append, List.length_cons, List.length_nil, List.length_set]; rfl),  trivial⟩) rfl) rfl ⟨.agg rfl rfl (fun _ => run_isAgg Try.underlying47) sz47, trivial⟩ trivial) ?_ ?_
            · (have h : uses l = (3, (q : Int)) := by (unfold uses; rw [if_neg (by omega), hi0_1]; exact scan_bad (by omega) (show uErr l q = 3 by (unfold uErr; simp only [hx1]; rw [if_pos (by omega)])) (by decide))); rw [h]; rfl
            · rfl
          ·
            have hc5' := hc5; try simp only [sumB, Bool.not_eq_true', Bool.not_eq_false', Bool.or_eq_true, Bool.or_eq_false_iff, Bool.and_eq_true, Bool.and_eq_false_imp, decide_eq_true_eq, decide_eq_false_iff_not, Bool.not_not, Bool.not_true, Bool.not_false] at hc5'
            refine AC.skip ?_
            refine then_ok ?_
            refine AC.seq ?_
            rcases Bool.eq_false_or_eq_true (decide ((↑q : Int) > 0)) with hb6 | hb6
            ·
              have hb6' := hb6; try simp only [sumB, Bool.not_eq_true', Bool.not_eq_false', Bool.or_eq_true, Bool.or_eq_false_iff, Bool.and_eq_true, Bool.and_eq_false_imp, decide_eq_true_eq, decide_eq_false_iff_not, Bool.not_not, Bool.not_true, Bool.not_false] at hb6'
              obtain ⟨x2, hx2⟩ := exget (xs := l) (i := (q) - 1) (by first | omega | (simp; done) | (simp; omega))
              refine AC.weak (st' := ⟨[(0, (aC (cR 2 ((l).map rUse)))), (2, (aC (.p 0 0 0 0))), (9, (aC (cR 2 ((l).map rUse)))), (10, (aI (↑l.length : Int))), (11, (aI (↑q : Int))), (4, (aC (.p 1 0 0 0))), (3, (aI (↑q : Int)))], [(1, (.box 44 [(cI x1.time), (cI x1.sum)])), (0, (.box 47 [(cI 0), (cI 0)]))], 2⟩) (Weak.ren id (⟨by first | rfl | (simp only [AV.map, GV.map, CV.map, AB.map', id]; done) | (congr 3; omega) | (congr 4; omega) | (simp only [List.length_append, List.length_cons, List.length_nil, List.length_set]; rfl), by first | rfl | (simp only [AV.map, GV.map, CV.map, AB.map', id]; done) | (congr 3; omega) | (congr 4; omega) | (simp only [List.length_append, List.length_cons, List.length_nil, List.length_set]; rfl), by first | rfl | (simp only [AV.map, GV.map, CV.map, AB.map', id]; done) | (congr 3; omega) | (congr 4; omega) | (simp only [List.length_append, List.length_cons, List.length_nil, List.length_set]; rfl), by first | rfl | (simp only [AV.map, GV.map, CV.map, AB.map', id]; done) | (congr 3; omega) | (congr 4; omega) | (simp only [List.length_append, List.length_cons, List.length_nil, List.length_set]; rfl), by first | rfl | (simp only [AV.map, GV.map, CV.map, AB.map', id]; done) | (congr 3; omega) | (congr 4; omega) | (simp only [List.length_append, List.length_cons, List.length_nil, List.length_set]; rfl), by first | rfl | (simp only [AV.map, GV.map, CV.map, AB.map', id]; done) | (congr 3; omega) | (congr 4; omega) | (simp only [List.length_append, List.length_cons, List.length_nil, List.length_set]; rfl), by first | rfl | (simp only [AV.map, GV.map, CV.map, AB.map', id]; done) | (congr 3; omega) | (congr 4; omega) | (simp only [List.length_append, List.length_cons, List.length_nil, List.length_set]; rfl),  trivial⟩) (⟨by first | rfl | (simp only [AV.map, GV.map, CV.map, AB.map', id]; done) | (congr 3; omega) | (congr 4; omega) | (simp only [List.length_append, List.length_cons, List.length_nil, List.length_set]; rfl), by first | rfl | (simp only [AV.map, GV.map, CV.map, AB.map', id]; done) | (congr 3; omega) | (congr 4; omega) | (simp only [List.length_append, List.length_cons, List.length_nil, List.length_set]; rfl),  trivial⟩) rfl) ?_
              refine AC.draw [⟨some 32, (aI (↑q : Int)), [], [], [], [(3, (aI (↑q : Int)))], []⟩,
      ⟨some 33, (aB true), [], [], [0], [(32, (aI (↑q : Int)))], []⟩,
      ⟨some 34, (aB true), [], [], [1], [(33, (aB true))], []⟩,
      ⟨some 35, (aC (.p 1 0 0 0)), [], [], [2], [(4, (aC (.p 1 0 0 0))), (34, (aB true))], [(1, (.box 44 [(cI x1.time), (cI x1.sum)]))]⟩,
      ⟨some 36, (aI x1.time), [], [], [2, 3], [(35, (aC (.p 1 0 0 0))), (34, (aB true))], [(1, (.box 44 [(cI x1.time), (cI x1.sum)]))]⟩,
      ⟨some 37, (aC (cR 2 ((l).map rUse))), [], [], [2], [(0, (aC (cR 2 ((l).map rUse)))), (34, (aB true))], []⟩,
      ⟨some 38, (aI (↑q : Int)), [], [], [2], [(3, (aI (↑q : Int))), (34, (aB true))], []⟩,
      ⟨some 39, (aI ((↑q : Int) - 1)), [], [], [2, 6], [(38, (aI (↑q : Int))), (34, (aB true))], []⟩,
      ⟨some 40, (aC (.q (rUse x2) 0)), [], [], [2, 5, 7], [(37, (aC (cR 2 ((l).map rUse)))), (39, (aI ((↑q : Int) - 1))), (34, (aB true))], []⟩,
      ⟨some 41, (aC (.q (rUse x2) 0)), [], [], [2, 8], [(40, (aC (.q (rUse x2) 0))), (34, (aB true))], []⟩,
      ⟨some 42, (aI x2.time), [], [], [2, 9], [(41, (aC (.q (rUse x2) 0))), (34, (aB true))], []⟩,
      ⟨some 43, (aB (decide (x1.time < x2.time))), [], [], [2, 4, 10], [(36, (aI x1.time)), (42, (aI x2.time)), (34, (aB true))], []⟩,
      ⟨some 44, (aB (decide (x1.time < x2.time))), [], [], [2, 11], [(34, (aB true)), (43, (aB (decide (x1.time < x2.time))))], []⟩] ⟨[(0, (aC (cR 2 ((l).map rUse)))), (2, (aC (.p 0 0 0 0))), (9, (aC (cR 2 ((l).map rUse)))), (10, (aI (↑l.length : Int))), (11, (aI (↑q : Int))), (4, (aC (.p 1 0 0 0))), (3, (aI (↑q : Int))), (44, (aB (decide (x1.time < x2.time))))], [(1, (.box 44 [(cI x1.time), (cI x1.sum)])), (0, (.box 47 [(cI 0), (cI 0)]))], 2⟩ mixed (by kernel_rfl) ?_ ?_ ?_ ?_
              · exact ⟨.inl ⟨(Wanted.plain rfl), GOp.cast (g_move rfl rfl) rfl⟩,
      .inl ⟨(Wanted.plain rfl), GOp.cast (g_binI rfl rfl rfl (congrArg (fun b => some (Value.bool b)) hb6)) rfl⟩,
      .inl ⟨(Wanted.plain rfl), GOp.cast (g_move rfl rfl) rfl⟩,
      .inl ⟨(Wanted.yes rfl rfl rfl), GOp.cast (g_fieldP rfl rfl Try.underlying44 rfl sz3 (by decide)) rfl⟩,
      .inl ⟨(Wanted.yes rfl rfl rfl), GOp.cast (g_loadB rfl rfl rfl Try.underlying3 rfl rfl) rfl⟩,
      .inl ⟨(Wanted.yes rfl rfl rfl), GOp.cast (g_move rfl rfl) rfl⟩,
      .inl ⟨(Wanted.yes rfl rfl rfl), GOp.cast (g_move rfl rfl) rfl⟩,
      .inl ⟨(Wanted.yes rfl rfl rfl), GOp.cast (g_binI rfl rfl rfl (wrap_ok (by first | omega | (simp; done) | (simp; omega)))) rfl⟩,
      .inl ⟨(Wanted.yes rfl rfl rfl), GOp.cast (g_indexQ (i := (q) - 1) rfl rfl rfl Try.underlying42 sz44 (by first | omega | (simp; done) | (simp; omega)) (getmap hx2)) rfl⟩,
      .inl ⟨(Wanted.yes rfl rfl rfl), GOp.cast (g_fieldQ rfl rfl Try.underlying44 rfl sz3 (by decide)) rfl⟩,
      .inl ⟨(Wanted.yes rfl rfl rfl), GOp.cast (g_loadQ rfl rfl Try.underlying3 rfl rfl) rfl⟩,
      .inl ⟨(Wanted.yes rfl rfl rfl), GOp.cast (g_binI rfl rfl rfl rfl) rfl⟩,
      .inl ⟨(Wanted.plain rfl), GOp.cast (g_pick rfl rfl rfl) rfl⟩,
       trivial⟩
              · exact ⟨⟨⟨.inl rfl,  trivial⟩, trivial⟩, ⟨⟨.inr ⟨0, .head _, _, rfl, rfl, rfl⟩,  trivial⟩, trivial⟩, ⟨⟨.inr ⟨1, .head _, _, rfl, rfl, rfl⟩,  trivial⟩, trivial⟩, ⟨⟨.inl rfl, .inr ⟨2, .head _, _, rfl, rfl, rfl⟩,  trivial⟩, ⟨.inl rfl,  trivial⟩⟩, ⟨⟨.inr ⟨3, .tail _ (.head _), _, rfl, rfl, rfl⟩, .inr ⟨2, .head _, _, rfl, rfl, rfl⟩,  trivial⟩, ⟨.inl rfl,  trivial⟩⟩, ⟨⟨.inl rfl, .inr ⟨2, .head _, _, rfl, rfl, rfl⟩,  trivial⟩, trivial⟩, ⟨⟨.inl rfl, .inr ⟨2, .head _, _, rfl, rfl, rfl⟩,  trivial⟩, trivial⟩, ⟨⟨.inr ⟨6, .tail _ (.head _), _, rfl, rfl, rfl⟩, .inr ⟨2, .head _, _, rfl, rfl, rfl⟩,  trivial⟩, trivial⟩, ⟨⟨.inr ⟨5, .tail _ (.head _), _, rfl, rfl, rfl⟩, .inr ⟨7, .tail _ (.tail _ (.head _)), _, rfl, rfl, rfl⟩, .inr ⟨2, .head _, _, rfl, rfl, rfl⟩,  trivial⟩, trivial⟩, ⟨⟨.inr ⟨8, .tail _ (.head _), _, rfl, rfl, rfl⟩, .inr ⟨2, .head _, _, rfl, rfl, rfl⟩,  trivial⟩, trivial⟩, ⟨⟨.inr ⟨9, .tail _ (.head _), _, rfl, rfl, rfl⟩, .inr ⟨2, .head _, _, rfl, rfl, rfl⟩,  trivial⟩, trivial⟩, ⟨⟨.inr ⟨4, .tail _ (.head _), _, rfl, rfl, rfl⟩, .inr ⟨10, .tail _ (.tail _ (.head _)), _, rfl, rfl, rfl⟩, .inr ⟨2, .head _, _, rfl, rfl, rfl⟩,  trivial⟩, trivial⟩, ⟨⟨.inr ⟨2, .head _, _, rfl, rfl, rfl⟩, .inr ⟨11, .tail _ (.head _), _, rfl, rfl, rfl⟩,  trivial⟩, trivial⟩,  trivial⟩
              · exact ⟨⟨.inl rfl, .inl rfl, .inl rfl, .inl rfl, .inl rfl, .inl rfl, .inl rfl, .inr ⟨12, _, rfl, rfl, rfl⟩,  trivial⟩, ⟨.inl rfl, .inl rfl,  trivial⟩⟩
              ·
                refine AL.nil ?_
                refine then_ok ?_
                refine AC.cond rfl (fun hc7 => ?_) (fun hc7 => ?_)
                ·
                  have hc7' := hc7; try simp only [sumB, Bool.not_eq_true', Bool.not_eq_false', Bool.or_eq_true, Bool.or_eq_false_iff, Bool.and_eq_true, Bool.and_eq_false_imp, decide_eq_true_eq, decide_eq_false_iff_not, Bool.not_not, Bool.not_true, Bool.not_false] at hc7'
                  refine AC.seq ?_
                  refine AC.region ?_
                  refine AL.fast 1 rfl ?_
                  refine AL.val (Wanted.plain rfl) (g_build (ys := [(0, (.c (cI 2))), (1, (.c (cI (↑q : Int))))]) rfl bld47 rfl ⟨⟨rfl, rfl⟩, ⟨rfl, rfl⟩,  trivial⟩ rfl rfl) rfl rfl ?_
                  refine AL.sto (h' := [(1, (.box 44 [(cI x1.time), (cI x1.sum)])), (0, (.box 47 [(cI 2), (cI (↑q : Int))]))]) (Wanted.plain rfl) (g_storeB rfl rfl rfl rfl rfl sz47 rfl (Nat.le_of_ble_eq_true rfl) rfl) rfl rfl rfl rfl ?_
                  refine AL.nil ?_
                  refine then_ok ?_
                  refine AC.ret ?_
                  refine block_ret ?_
                  refine then_ret ?_
                  refine then_ret ?_
                  refine block_ret ?_
                  refine then_ret ?_
                  refine retQ_mk (av' := outOf [(.g [(cI 2), (cI (↑q : Int))])]) (nb' := []) (retQ_ret ⟨[(2, (aC (.p 0 0 0 0)))], [(0, (.box 47 [(cI 2), (cI (↑q : Int))]))], 1⟩ [.cell 2 47] [(.g [(cI 2), (cI (↑q : Int))])] (Weak.ren id (⟨by first | rfl | (simp only [AV.map, GV.map, CV.map, AB.map', id]; done) | (congr 3; omega) | (congr 4; omega) | (simp only [List.length_append, List.length_cons, List.length_nil, List.length_set]; rfl),  trivial⟩) (⟨by first | rfl | (simp only [AV.map, GV.map, CV.map, AB.map', id]; done) | (congr 3; omega) | (congr 4; omega) | (simp only [List.length_append, List.length_cons, List.length_nil, List.length_set]; rfl),  trivial⟩) rfl) rfl ⟨.agg rfl rfl (fun _ => run_isAgg Try.underlying47) sz47, trivial⟩ trivial) ?_ ?_
                  · (have h : uses l = (2, (q : Int)) := by (unfold uses; rw [if_neg (by omega), hi0_1]; exact scan_bad (by omega) (show uErr l q = 2 by (unfold uErr; simp only [hx1]; rw [if_neg (by omega), if_pos (by refine ⟨by omega, ?_⟩; rw [List.getD_eq_getElem?_getD, hx2]; simp only [Option.getD_some]; omega)])) (by decide))); rw [h]; rfl
                  · rfl
                ·
                  have hc7' := hc7; try simp only [sumB, Bool.not_eq_true', Bool.not_eq_false', Bool.or_eq_true, Bool.or_eq_false_iff, Bool.and_eq_true, Bool.and_eq_false_imp, decide_eq_true_eq, decide_eq_false_iff_not, Bool.not_not, Bool.not_true, Bool.not_false] at hc7'
                  refine AC.skip ?_
                  refine block_ok ?_
                  refine then_ok ?_
                  refine AC.region ?_
                  refine AL.val (Wanted.plain rfl) (g_binI rfl rfl rfl (wrap_ok (by first | omega | (simp; done) | (simp; omega)))) rfl rfl ?_
                  refine AL.fast 1 rfl ?_
                  refine AL.nil ?_
                  refine then_ok ?_
                  refine ⟨q + 1, ⟨by omega, by rw [hi0_1]; exact scan_ok (by omega) (by unfold uErr; simp only [hx1]; rw [if_neg (by omega), if_neg (by first | omega | (rw [List.getD_eq_getElem?_getD, hx2]; simp only [Option.getD_some]; omega))])⟩, by first | omega | (simp; done) | (simp; omega), Weak.ren id (⟨by first | rfl | (simp only [AV.map, GV.map, CV.map, AB.map', id]; done) | (congr 3; omega) | (congr 4; omega) | (simp only [List.length_append, List.length_cons, List.length_nil, List.length_set]; rfl), by first | rfl | (simp only [AV.map, GV.map, CV.map, AB.map', id]; done) | (congr 3; omega) | (congr 4; omega) | (simp only [List.length_append, List.length_cons, List.length_nil, List.length_set]; rfl), by first | rfl | (simp only [AV.map, GV.map, CV.map, AB.map', id]; done) | (congr 3; omega) | (congr 4; omega) | (simp only [List.length_append, List.length_cons, List.length_nil, List.length_set]; rfl), by first | rfl | (simp only [AV.map, GV.map, CV.map, AB.map', id]; done) | (congr 3; omega) | (congr 4; omega) | (simp only [List.length_append, List.length_cons, List.length_nil, List.length_set]; rfl), by first | rfl | (simp only [AV.map, GV.map, CV.map, AB.map', id]; done) | (congr 3; omega) | (congr 4; omega) | (simp only [List.length_append, List.length_cons, List.length_nil, List.length_set]; rfl),  trivial⟩) (⟨by first | rfl | (simp only [AV.map, GV.map, CV.map, AB.map', id]; done) | (congr 3; omega) | (congr 4; omega) | (simp only [List.length_append, List.length_cons, List.length_nil, List.length_set]; rfl),  trivial⟩) rfl⟩
            ·
              have hb6' := hb6; try simp only [sumB, Bool.not_eq_true', Bool.not_eq_false', Bool.or_eq_true, Bool.or_eq_false_iff, Bool.and_eq_true, Bool.and_eq_false_imp, decide_eq_true_eq, decide_eq_false_iff_not, Bool.not_not, Bool.not_true, Bool.not_false] at hb6'
              refine AC.weak (st' := ⟨[(0, (aC (cR 2 ((l).map rUse)))), (2, (aC (.p 0 0 0 0))), (9, (aC (cR 2 ((l).map rUse)))), (10, (aI (↑l.length : Int))), (11, (aI (↑q : Int))), (4, (aC (.p 1 0 0 0))), (3, (aI (↑q : Int)))], [(1, (.box 44 [(cI x1.time), (cI x1.sum)])), (0, (.box 47 [(cI 0), (cI 0)]))], 2⟩) (Weak.ren id (⟨by first | rfl | (simp only [AV.map, GV.map, CV.map, AB.map', id]; done) | (congr 3; omega) | (congr 4; omega) | (simp only [List.length_append, List.length_cons, List.length_nil, List.length_set]; rfl), by first | rfl | (simp only [AV.map, GV.map, CV.map, AB.map', id]; done) | (congr 3; omega) | (congr 4; omega) | (simp only [List.length_append, List.length_cons, List.length_nil, List.length_set]; rfl), by first | rfl | (simp only [AV.map, GV.map, CV.map, AB.map', id]; done) | (congr 3; omega) | (congr 4; omega) | (simp only [List.length_append, List.length_cons, List.length_nil, List.length_set]; rfl), by first | rfl | (simp only [AV.map, GV.map, CV.map, AB.map', id]; done) | (congr 3; omega) | (congr 4; omega) | (simp only [List.length_append, List.length_cons, List.length_nil, List.length_set]; rfl), by first | rfl | (simp only [AV.map, GV.map, CV.map, AB.map', id]; done) | (congr 3; omega) | (congr 4; omega) | (simp only [List.length_append, List.length_cons, List.length_nil, List.length_set]; rfl), by first | rfl | (simp only [AV.map, GV.map, CV.map, AB.map', id]; done) | (congr 3; omega) | (congr 4; omega) | (simp only [List.length_append, List.length_cons, List.length_nil, List.length_set]; rfl), by first | rfl | (simp only [AV.map, GV.map, CV.map, AB.map', id]; done) | (congr 3; omega) | (congr 4; omega) | (simp only [List.length_append, List.length_cons, List.length_nil, List.length_set]; rfl),  trivial⟩) (⟨by first | rfl | (simp only [AV.map, GV.map, CV.map, AB.map', id]; done) | (congr 3; omega) | (congr 4; omega) | (simp only [List.length_append, List.length_cons, List.length_nil, List.length_set]; rfl), by first | rfl | (simp only [AV.map, GV.map, CV.map, AB.map', id]; done) | (congr 3; omega) | (congr 4; omega) | (simp only [List.length_append, List.length_cons, List.length_nil, List.length_set]; rfl),  trivial⟩) rfl) ?_
              refine AC.draw [⟨some 32, (aI (↑q : Int)), [], [], [], [(3, (aI (↑q : Int)))], []⟩,
      ⟨some 33, (aB false), [], [], [0], [(32, (aI (↑q : Int)))], []⟩,
      ⟨some 34, (aB false), [], [], [1], [(33, (aB false))], []⟩,
      ⟨some 35, (.t []), [], [], [2], [(4, (aC (.p 1 0 0 0))), (34, (aB false))], []⟩,
      ⟨some 36, (.t []), [], [], [2, 3], [(35, (.t [])), (34, (aB false))], []⟩,
      ⟨some 37, (.t []), [], [], [2], [(0, (aC (cR 2 ((l).map rUse)))), (34, (aB false))], []⟩,
      ⟨some 38, (.t []), [], [], [2], [(3, (aI (↑q : Int))), (34, (aB false))], []⟩,
      ⟨some 39, (.t []), [], [], [2, 6], [(38, (.t [])), (34, (aB false))], []⟩,
      ⟨some 40, (.t []), [], [], [2, 5, 7], [(37, (.t [])), (39, (.t [])), (34, (aB false))], []⟩,
      ⟨some 41, (.t []), [], [], [2, 8], [(40, (.t [])), (34, (aB false))], []⟩,
      ⟨some 42, (.t []), [], [], [2, 9], [(41, (.t [])), (34, (aB false))], []⟩,
      ⟨some 43, (.t []), [], [], [2, 4, 10], [(36, (.t [])), (42, (.t [])), (34, (aB false))], []⟩,
      ⟨some 44, (aB false), [], [], [2, 11], [(34, (aB false)), (43, (.t []))], []⟩] ⟨[(0, (aC (cR 2 ((l).map rUse)))), (2, (aC (.p 0 0 0 0))), (9, (aC (cR 2 ((l).map rUse)))), (10, (aI (↑l.length : Int))), (11, (aI (↑q : Int))), (4, (aC (.p 1 0 0 0))), (3, (aI (↑q : Int))), (44, (aB false))], [(1, (.box 44 [(cI x1.time), (cI x1.sum)])), (0, (.box 47 [(cI 0), (cI 0)]))], 2⟩ mixed (by kernel_rfl) ?_ ?_ ?_ ?_
              · exact ⟨.inl ⟨(Wanted.plain rfl), GOp.cast (g_move rfl rfl) rfl⟩,
      .inl ⟨(Wanted.plain rfl), GOp.cast (g_binI rfl rfl rfl (congrArg (fun b => some (Value.bool b)) hb6)) rfl⟩,
      .inl ⟨(Wanted.plain rfl), GOp.cast (g_move rfl rfl) rfl⟩,
      .inr ⟨(Unwanted.no rfl rfl rfl), rfl, rfl, rfl⟩,
      .inr ⟨(Unwanted.no rfl rfl rfl), rfl, rfl, rfl⟩,
      .inr ⟨(Unwanted.no rfl rfl rfl), rfl, rfl, rfl⟩,
      .inr ⟨(Unwanted.no rfl rfl rfl), rfl, rfl, rfl⟩,
      .inr ⟨(Unwanted.no rfl rfl rfl), rfl, rfl, rfl⟩,
      .inr ⟨(Unwanted.no rfl rfl rfl), rfl, rfl, rfl⟩,
      .inr ⟨(Unwanted.no rfl rfl rfl), rfl, rfl, rfl⟩,
      .inr ⟨(Unwanted.no rfl rfl rfl), rfl, rfl, rfl⟩,
      .inr ⟨(Unwanted.no rfl rfl rfl), rfl, rfl, rfl⟩,
      .inl ⟨(Wanted.plain rfl), GOp.cast (g_pick rfl rfl rfl) rfl⟩,
       trivial⟩
              · exact ⟨⟨⟨.inl rfl,  trivial⟩, trivial⟩, ⟨⟨.inr ⟨0, .head _, _, rfl, rfl, rfl⟩,  trivial⟩, trivial⟩, ⟨⟨.inr ⟨1, .head _, _, rfl, rfl, rfl⟩,  trivial⟩, trivial⟩, ⟨⟨.inl rfl, .inr ⟨2, .head _, _, rfl, rfl, rfl⟩,  trivial⟩, trivial⟩, ⟨⟨.inr ⟨3, .tail _ (.head _), _, rfl, rfl, rfl⟩, .inr ⟨2, .head _, _, rfl, rfl, rfl⟩,  trivial⟩, trivial⟩, ⟨⟨.inl rfl, .inr ⟨2, .head _, _, rfl, rfl, rfl⟩,  trivial⟩, trivial⟩, ⟨⟨.inl rfl, .inr ⟨2, .head _, _, rfl, rfl, rfl⟩,  trivial⟩, trivial⟩, ⟨⟨.inr ⟨6, .tail _ (.head _), _, rfl, rfl, rfl⟩, .inr ⟨2, .head _, _, rfl, rfl, rfl⟩,  trivial⟩, trivial⟩, ⟨⟨.inr ⟨5, .tail _ (.head _), _, rfl, rfl, rfl⟩, .inr ⟨7, .tail _ (.tail _ (.head _)), _, rfl, rfl, rfl⟩, .inr ⟨2, .head _, _, rfl, rfl, rfl⟩,  trivial⟩, trivial⟩, ⟨⟨.inr ⟨8, .tail _ (.head _), _, rfl, rfl, rfl⟩, .inr ⟨2, .head _, _, rfl, rfl, rfl⟩,  trivial⟩, trivial⟩, ⟨⟨.inr ⟨9, .tail _ (.head _), _, rfl, rfl, rfl⟩, .inr ⟨2, .head _, _, rfl, rfl, rfl⟩,  trivial⟩, trivial⟩, ⟨⟨.inr ⟨4, .tail _ (.head _), _, rfl, rfl, rfl⟩, .inr ⟨10, .tail _ (.tail _ (.head _)), _, rfl, rfl, rfl⟩, .inr ⟨2, .head _, _, rfl, rfl, rfl⟩,  trivial⟩, trivial⟩, ⟨⟨.inr ⟨2, .head _, _, rfl, rfl, rfl⟩, .inr ⟨11, .tail _ (.head _), _, rfl, rfl, rfl⟩,  trivial⟩, trivial⟩,  trivial⟩
              · exact ⟨⟨.inl rfl, .inl rfl, .inl rfl, .inl rfl, .inl rfl, .inl rfl, .inl rfl, .inr ⟨12, _, rfl, rfl, rfl⟩,  trivial⟩, ⟨.inl rfl, .inl rfl,  trivial⟩⟩
              ·
                refine AL.nil ?_
                refine then_ok ?_
                refine AC.cond rfl (fun hno => by cases hno) (fun _ => ?_)
                refine AC.skip ?_
                refine block_ok ?_
                refine then_ok ?_
                refine AC.region ?_
                refine AL.val (Wanted.plain rfl) (g_binI rfl rfl rfl (wrap_ok (by first | omega | (simp; done) | (simp; omega)))) rfl rfl ?_
                refine AL.fast 1 rfl ?_
                refine AL.nil ?_
                refine then_ok ?_
                refine ⟨q + 1, ⟨by omega, by rw [hi0_1]; exact scan_ok (by omega) (by unfold uErr; simp only [hx1]; rw [if_neg (by omega), if_neg (by first | omega | (rw [List.getD_eq_getElem?_getD, hx2]; simp only [Option.getD_some]; omega))])⟩, by first | omega | (simp; done) | (simp; omega), Weak.ren id (⟨by first | rfl | (simp only [AV.map, GV.map, CV.map, AB.map', id]; done) | (congr 3; omega) | (congr 4; omega) | (simp only [List.length_append, List.length_cons, List.length_nil, List.length_set]; rfl), by first | rfl | (simp only [AV.map, GV.map, CV.map, AB.map', id]; done) | (congr 3; omega) | (congr 4; omega) | (simp only [List.length_append, List.length_cons, List.length_nil, List.length_set]; rfl), by first | rfl | (simp only [AV.map, GV.map, CV.map, AB.map', id]; done) | (congr 3; omega) | (congr 4; omega) | (simp only [List.length_append, List.length_cons, List.length_nil, List.length_set]; rfl), by first | rfl | (simp only [AV.map, GV.map, CV.map, AB.map', id]; done) | (congr 3; omega) | (congr 4; omega) | (simp only [List.length_append, List.length_cons, List.length_nil, List.length_set]; rfl), by first | rfl | (simp only [AV.map, GV.map, CV.map, AB.map', id]; done) | (congr 3; omega) | (congr 4; omega) | (simp only [List.length_append, List.length_cons, List.length_nil, List.length_set]; rfl),  trivial⟩) (⟨by first | rfl | (simp only [AV.map, GV.map, CV.map, AB.map', id]; done) | (congr 3; omega) | (congr 4; omega) | (simp only [List.length_append, List.length_cons, List.length_nil, List.length_set]; rfl),  trivial⟩) rfl⟩
      ·
        have hc2' := hc2; try simp only [sumB, Bool.not_eq_true', Bool.not_eq_false', Bool.or_eq_true, Bool.or_eq_false_iff, Bool.and_eq_true, Bool.and_eq_false_imp, decide_eq_true_eq, decide_eq_false_iff_not, Bool.not_not, Bool.not_true, Bool.not_false] at hc2'
        refine AC.exit ?_
        refine then_exit ?_
        refine then_exit ?_
        refine block_hit ?_
        refine then_ok ?_
        refine AC.seq ?_
        refine AC.region ?_
        refine AL.val (Wanted.plain rfl) (g_build (ys := []) rfl bld47 rfl trivial rfl rfl) rfl rfl ?_
        refine AL.sto (h' := [(0, (.box 47 [(cI 0), (cI 0)]))]) (Wanted.plain rfl) (g_storeB rfl rfl rfl rfl rfl sz47 rfl (Nat.le_of_ble_eq_true rfl) rfl) rfl rfl rfl rfl ?_
        refine AL.nil ?_
        refine then_ok ?_
        refine AC.ret ?_
        refine retQ_mk (av' := outOf [(.g [(cI 0), (cI 0)])]) (nb' := []) (retQ_ret ⟨[(2, (aC (.p 0 0 0 0)))], [(0, (.box 47 [(cI 0), (cI 0)]))], 1⟩ [.cell 2 47] [(.g [(cI 0), (cI 0)])] (Weak.ren id (⟨by first | rfl | (simp only [AV.map, GV.map, CV.map, AB.map', id]; done) | (congr 3; omega) | (congr 4; omega) | (simp only [List.length_append, List.length_cons, List.length_nil, List.length_set]; rfl),  trivial⟩) (⟨by first | rfl | (simp only [AV.map, GV.map, CV.map, AB.map', id]; done) | (congr 3; omega) | (congr 4; omega) | (simp only [List.length_append, List.length_cons, List.length_nil, List.length_set]; rfl),  trivial⟩) rfl) rfl ⟨.agg rfl rfl (fun _ => run_isAgg Try.underlying47) sz47, trivial⟩ trivial) ?_ ?_
        · (have h : uses l = (0, 0) := by (unfold uses; rw [if_neg (by omega), hi0_1, scan_end (by omega)])); rw [h]; rfl
        · rfl
end Go.Proofs.Ytgmcdlfmifijlaa.Dev
