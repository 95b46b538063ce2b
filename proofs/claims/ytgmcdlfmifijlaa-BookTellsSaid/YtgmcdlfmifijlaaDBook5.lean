/- book.Wrong, payref1.Wrong. -/
import Derived.Test.YtgmcdlfmifijlaaDPlBook
import Derived.Test.YtgmcdlfmifijlaaDSh20
import Derived.Test.YtgmcdlfmifijlaaDCom
set_option linter.unusedVariables false
set_option linter.unusedSimpArgs false
namespace Go.Proofs.Ytgmcdlfmifijlaa.Dev
open Go.RowKit

theorem sz149 : (Try.prog.info? 149).map (fun i => i.size) = some 58 := by kernel_rfl
theorem zv149 : (Try.prog.info? 149).bind (fun i => i.zero) = some (.agg #[.int .i64 0, .int .i64 0, .int .i64 0, .int .i64 0, .int .i64 0, .int .i64 0, .int .i64 0, .int .i64 0, .int .i64 0, .int .i64 0, .int .i64 0, .int .i64 0, .int .i64 0, .int .i64 0, .int .i64 0, .int .i64 0, .int .i64 0, .int .i64 0, .int .i64 0, .int .i64 0, .int .i64 0, .int .i64 0, .int .i64 0, .int .i64 0, .int .i64 0, .int .i64 0, .int .i64 0, .int .i64 0, .int .i64 0, .int .i64 0, .int .i64 0, .int .i64 0, .int .i64 0, .int .i64 0, .int .i64 0, .int .i64 0, .int .i64 0, .int .i64 0, .int .i64 0, .int .i64 0, .int .i64 0, .int .i64 0, .int .i64 0, .int .i64 0, .int .i64 0, .int .i64 0, .int .i64 0, .int .i64 0, .int .i64 0, .int .i64 0, .int .i64 0, .int .i64 0, .int .i64 0, .int .i64 0, .int .i64 0, .int .i64 0, .int .i64 0, .int .i64 0]) := by kernel_rfl
set_option maxRecDepth 100000 in
set_option maxHeartbeats 1000000 in
theorem c_book_Wrong (l : List Entry) (f : Fault) (hr : wrongB l = f) : Fn Try.prog 79 [(.c (cR 2 ((l).map rEntry)))] (.v (.g [(cI f.err), (cI f.at_)])) [] := by
  refine Fn.mk' 64 [(0, (aC (cR 2 ((l).map rEntry))))] Try.func79 rfl rfl rfl rfl ?_
  intro W0 T0
  refine AC.len1 0 rfl (fun hlen0 => ?_)
  refine AC.seq ?_
  refine AC.region ?_
  refine AL.new (n' := 1) (Wanted.plain rfl) (g_alloc 0 rfl zv47 rfl rfl rfl) rfl rfl rfl ?_
  refine AL.nil ?_
  refine then_ok ?_
  refine AC.seq ?_
  refine AC.region ?_
  refine AL.fast 1 rfl ?_
  refine AL.nil ?_
  refine then_ok ?_
  refine AC.seq ?_
  refine AC.seq ?_
  refine AC.region ?_
  refine AL.fast 1 rfl ?_
  refine AL.val (Wanted.plain rfl) (g_lenM rfl rfl rfl rfl rfl Try.underlying102) rfl rfl ?_
  refine AL.fast 1 rfl ?_
  refine AL.nil ?_
  refine then_ok ?_
  refine AC.block ?_
  refine AC.loop (β := Nat) (fun (q : Nat) => ⟨[(0, (aC (cR 2 ((l).map rEntry)))), (2, (aC (.p 0 0 0 0))), (3, (aI (sumE (l.take q)))), (6, (aC (cR 2 ((l).map rEntry)))), (7, (aI (↑l.length : Int))), (8, (aI (↑q : Int)))], [(0, (.box 47 [(cI 0), (cI 0)]))], 1⟩) (fun (q : Nat) => q ≤ l.length ∧ scan (bErr l) 0 l.length = scan (bErr l) q (l.length - q) ∧ (q : Int) - 1 ≤ lastA l q ∧ lastA l q ≤ 57 ∧ -1000000000000 * (q : Int) ≤ sumE (l.take q) ∧ sumE (l.take q) ≤ 1000000000000 * (q : Int)) (fun (q : Nat) => l.length - q) 0 ?_ ?_ ?_
  · (have h1 : lastA l 0 = -1 := rfl); (have h2 : sumE (l.take 0) = 0 := rfl); exact ⟨by omega, rfl, by omega, by omega⟩
  · exact Weak.ren id (⟨by first | rfl | (simp only [AV.map, GV.map, CV.map, AB.map', id]; done) | (congr 3; omega) | (congr 4; omega) | (simp only [List.length_append, List.length_cons, List.length_nil, List.length_set]; rfl), by first | rfl | (simp only [AV.map, GV.map, CV.map, AB.map', id]; done) | (congr 3; omega) | (congr 4; omega) | (simp only [List.length_append, List.length_cons, List.length_nil, List.length_set]; rfl), by first | rfl | (simp only [AV.map, GV.map, CV.map, AB.map', id]; done) | (congr 3; omega) | (congr 4; omega) | (simp only [List.length_append, List.length_cons, List.length_nil, List.length_set]; rfl), by first | rfl | (simp only [AV.map, GV.map, CV.map, AB.map', id]; done) | (congr 3; omega) | (congr 4; omega) | (simp only [List.length_append, List.length_cons, List.length_nil, List.length_set]; rfl), by first | rfl | (simp only [AV.map, GV.map, CV.map, AB.map', id]; done) | (congr 3; omega) | (congr 4; omega) | (simp only [List.length_append, List.length_cons, List.length_nil, List.length_set]; rfl), by first | rfl | (simp only [AV.map, GV.map, CV.map, AB.map', id]; done) | (congr 3; omega) | (congr 4; omega) | (simp only [List.length_append, List.length_cons, List.length_nil, List.length_set]; rfl),  trivial⟩) (⟨by first | rfl | (simp only [AV.map, GV.map, CV.map, AB.map', id]; done) | (congr 3; omega) | (congr 4; omega) | (simp only [List.length_append, List.length_cons, List.length_nil, List.length_set]; rfl),  trivial⟩) rfl
  ·
    rintro q ⟨hi0_0, hi0_1, hi0_2, hi0_3⟩
    refine AC.seq ?_
    refine AC.region ?_
    refine AL.val (Wanted.plain rfl) (g_binI rfl rfl rfl rfl) rfl rfl ?_
    refine AL.nil ?_
    refine then_ok ?_
    refine AC.seq ?_
    refine AC.cond rfl (fun hc1 => ?_) (fun hc1 => ?_)
    ·
      have hc1' := hc1; try simp only [sumB, Bool.not_eq_true', Bool.not_eq_false', Bool.or_eq_true, Bool.or_eq_false_iff, Bool.and_eq_true, Bool.and_eq_false_imp, decide_eq_true_eq, decide_eq_false_iff_not, Bool.not_not, Bool.not_true, Bool.not_false] at hc1'
      refine AC.skip ?_
      refine then_ok ?_
      refine AC.seq ?_
      refine AC.block ?_
      refine AC.seq ?_
      refine AC.region ?_
      refine AL.fast 1 rfl ?_
      obtain ⟨x1, hx1⟩ := exget (xs := l) (i := q) (by first | omega | (simp; done) | (simp; omega))
      refine AL.val (Wanted.plain rfl) (g_indexQ (i := q) rfl rfl rfl Try.underlying102 sz111 (by first | omega | (simp; done) | (simp; omega)) (getmap hx1)) rfl rfl ?_
      refine AL.val (Wanted.plain rfl) (g_loadQs rfl rfl Try.underlying111 rfl sz111 rfl rfl) rfl rfl ?_
      refine AL.new (n' := 2) (Wanted.plain rfl) (g_alloc 1 rfl zv111 rfl rfl rfl) rfl rfl rfl ?_
      refine AL.fast 1 rfl ?_
      refine AL.sto (h' := [(1, (.box 111 [(cI x1.account), (cI x1.sum)])), (0, (.box 47 [(cI 0), (cI 0)]))]) (Wanted.plain rfl) (g_storeB rfl rfl rfl rfl rfl sz111 rfl (Nat.le_of_ble_eq_true rfl) rfl) rfl rfl rfl rfl ?_
      refine AL.nil ?_
      refine then_ok ?_
      refine AC.seq ?_
      refine AC.block ?_
      refine AC.cutB 13 ((((decide (x1.account < 0)) || (decide (x1.account ≥ 58))) || (decide (x1.sum < (-1000000000000)))) || (decide (x1.sum > 1000000000000))) ?_ ?_
      ·
        refine AC.region ?_
        refine AL.val (Wanted.plain rfl) (g_fieldP rfl rfl Try.underlying111 rfl sz3 (by decide)) rfl rfl ?_
        refine AL.val (Wanted.plain rfl) (g_loadB rfl rfl rfl Try.underlying3 rfl rfl) rfl rfl ?_
        refine AL.val (Wanted.plain rfl) (g_binI rfl rfl rfl rfl) rfl rfl ?_
        refine AL.fast 1 rfl ?_
        refine AL.dec (t := 17) rfl (fun hb2 => ?_) (fun hb2 => ?_)
        ·
          have hb2' := hb2; try simp only [sumB, Bool.not_eq_true', Bool.not_eq_false', Bool.or_eq_true, Bool.or_eq_false_iff, Bool.and_eq_true, Bool.and_eq_false_imp, decide_eq_true_eq, decide_eq_false_iff_not, Bool.not_not, Bool.not_true, Bool.not_false] at hb2'
          refine AL.fast 15 rfl ?_
          refine AL.nil ?_
          refine then_ok ?_
          exact Weak.popB 20 rfl rfl (by first | (simp [hb2]; done) | (simp_all; done) | (exfalso; simp_all; done) | (simp_all; omega)) rfl
        ·
          have hb2' := hb2; try simp only [sumB, Bool.not_eq_true', Bool.not_eq_false', Bool.or_eq_true, Bool.or_eq_false_iff, Bool.and_eq_true, Bool.and_eq_false_imp, decide_eq_true_eq, decide_eq_false_iff_not, Bool.not_not, Bool.not_true, Bool.not_false] at hb2'
          refine AL.val (Wanted.yes rfl rfl rfl) (g_fieldP rfl rfl Try.underlying111 rfl sz3 (by decide)) rfl rfl ?_
          refine AL.val (Wanted.yes rfl rfl rfl) (g_loadB rfl rfl rfl Try.underlying3 rfl rfl) rfl rfl ?_
          refine AL.val (Wanted.yes rfl rfl rfl) (g_binI rfl rfl rfl rfl) rfl rfl ?_
          refine AL.fast 2 rfl ?_
          refine AL.dec (t := 22) rfl (fun hb3 => ?_) (fun hb3 => ?_)
          ·
            have hb3' := hb3; try simp only [sumB, Bool.not_eq_true', Bool.not_eq_false', Bool.or_eq_true, Bool.or_eq_false_iff, Bool.and_eq_true, Bool.and_eq_false_imp, decide_eq_true_eq, decide_eq_false_iff_not, Bool.not_not, Bool.not_true, Bool.not_false] at hb3'
            refine AL.fast 10 rfl ?_
            refine AL.nil ?_
            refine then_ok ?_
            exact Weak.popB 21 rfl rfl (by first | (simp [hb2, hb3]; done) | (simp_all; done) | (exfalso; simp_all; done) | (simp_all; omega)) rfl
          ·
            have hb3' := hb3; try simp only [sumB, Bool.not_eq_true', Bool.not_eq_false', Bool.or_eq_true, Bool.or_eq_false_iff, Bool.and_eq_true, Bool.and_eq_false_imp, decide_eq_true_eq, decide_eq_false_iff_not, Bool.not_not, Bool.not_true, Bool.not_false] at hb3'
            refine AL.val (Wanted.yes rfl rfl rfl) (g_fieldP rfl rfl Try.underlying111 rfl sz3 (by decide)) rfl rfl ?_
            refine AL.val (Wanted.yes rfl rfl rfl) (g_loadB rfl rfl rfl Try.underlying3 rfl rfl) rfl rfl ?_
            refine AL.val (Wanted.yes rfl rfl rfl) (g_binI rfl rfl rfl rfl) rfl rfl ?_
            refine AL.fast 2 rfl ?_
            refine AL.dec (t := 27) rfl (fun hb4 => ?_) (fun hb4 => ?_)
            ·
              have hb4' := hb4; try simp only [sumB, Bool.not_eq_true', Bool.not_eq_false', Bool.or_eq_true, Bool.or_eq_false_iff, Bool.and_eq_true, Bool.and_eq_false_imp, decide_eq_true_eq, decide_eq_false_iff_not, Bool.not_not, Bool.not_true, Bool.not_false] at hb4'
              refine AL.fast 5 rfl ?_
              refine AL.nil ?_
              refine then_ok ?_
              exact Weak.popB 22 rfl rfl (by first | (simp [hb2, hb3, hb4]; done) | (simp_all; done) | (exfalso; simp_all; done) | (simp_all; omega)) rfl
            ·
              have hb4' := hb4; try simp only [sumB, Bool.not_eq_true', Bool.not_eq_false', Bool.or_eq_true, Bool.or_eq_false_iff, Bool.and_eq_true, Bool.and_eq_false_imp, decide_eq_true_eq, decide_eq_false_iff_not, Bool.not_not, Bool.not_true, Bool.not_false] at hb4'
              refine AL.val (Wanted.yes rfl rfl rfl) (g_fieldP rfl rfl Try.underlying111 rfl sz3 (by decide)) rfl rfl ?_
              refine AL.val (Wanted.yes rfl rfl rfl) (g_loadB rfl rfl rfl Try.underlying3 rfl rfl) rfl rfl ?_
              refine AL.val (Wanted.yes rfl rfl rfl) (g_binI rfl rfl rfl rfl) rfl rfl ?_
              refine AL.fast 2 rfl ?_
              refine AL.nil ?_
              refine then_ok ?_
              exact Weak.popB 22 rfl rfl (by first | (simp [hb2, hb3, hb4]; done) | (simp_all; done) | (exfalso; simp_all; done) | (simp_all; omega)) rfl
      ·
        refine AC.cond rfl (fun hc5 => ?_) (fun hc5 => ?_)
        ·
          have hc5' := hc5; try simp only [sumB, Bool.not_eq_true', Bool.not_eq_false', Bool.or_eq_true, Bool.or_eq_false_iff, Bool.and_eq_true, Bool.and_eq_false_imp, decide_eq_true_eq, decide_eq_false_iff_not, Bool.not_not, Bool.not_true, Bool.not_false] at hc5'
          refine AC.seq ?_
          refine AC.region ?_
          refine AL.fast 1 rfl ?_
          refine AL.val (Wanted.plain rfl) (g_build (ys := [(0, (.c (cI 3))), (1, (.c (cI (↑q : Int))))]) rfl bld47 rfl ⟨⟨rfl, rfl⟩, ⟨rfl, rfl⟩,  trivial⟩ rfl rfl) rfl rfl ?_
          refine AL.sto (h' := [(1, (.box 111 [(cI x1.account), (cI x1.sum)])), (0, (.box 47 [(cI 3), (cI (↑q : Int))]))]) (Wanted.plain rfl) (g_storeB rfl rfl rfl rfl rfl sz47 rfl (Nat.le_of_ble_eq_true rfl) rfl) rfl rfl rfl rfl ?_
          refine AL.nil ?_
          refine then_ok ?_
          refine AC.ret ?_
          refine block_ret ?_
          refine then_ret ?_
          refine block_ret ?_
          refine then_ret ?_
          refine then_ret ?_
          refine block_ret ?_
          refine then_ret ?_
          have hX : wrongB l = (⟨3, (↑q : Int)⟩ : Fault) := by
            (have hb : badE x1 := by unfold badE; omega); (have h0 := scan_bad (e := bErr l) (q := q) (n := l.length) (by omega) (by rw [bErr_some hx1, if_pos hb]) (by decide : (3 : Int) ≠ 0)); (unfold wrongB; rw [hi0_1, h0]; rfl)
          rw [hX] at hr; clear hX
          subst hr
          refine retQ_mk (av' := outOf [(.g [(cI 3), (cI (↑q : Int))])]) (nb' := []) (retQ_ret ⟨[(2, (aC (.p 0 0 0 0)))], [(0, (.box 47 [(cI 3), (cI (↑q : Int))]))], 1⟩ [.cell 2 47] [(.g [(cI 3), (cI (↑q : Int))])] (Weak.ren id (⟨by first | rfl | (simp only [AV.map, GV.map, CV.map, AB.map', id]; done) | (congr 3; omega) | (congr 4; omega) | (simp only [List.length_append, List.length_cons, List.length_nil, List.length_set]; rfl),  trivial⟩) (⟨by first | rfl | (simp only [AV.map, GV.map, CV.map, AB.map', id]; done) | (congr 3; omega) | (congr 4; omega) | (simp only [List.length_append, List.length_cons, List.length_nil, List.length_set]; rfl),  trivial⟩) rfl) rfl ⟨.agg rfl rfl (fun _ => run_isAgg Try.underlying47) sz47, trivial⟩ trivial) ?_ ?_
          · first | rfl | (simp [outOf, aC]; done) | (simp [outOf, aC]; omega)
          · first | rfl | (simp; done) | (simp; omega)
        ·
          have hc5' := hc5; try simp only [sumB, Bool.not_eq_true', Bool.not_eq_false', Bool.or_eq_true, Bool.or_eq_false_iff, Bool.and_eq_true, Bool.and_eq_false_imp, decide_eq_true_eq, decide_eq_false_iff_not, Bool.not_not, Bool.not_true, Bool.not_false] at hc5'
          refine AC.seq ?_
          rcases Bool.eq_false_or_eq_true (decide ((↑q : Int) > 0)) with hb6 | hb6
          ·
            have hb6' := hb6; try simp only [sumB, Bool.not_eq_true', Bool.not_eq_false', Bool.or_eq_true, Bool.or_eq_false_iff, Bool.and_eq_true, Bool.and_eq_false_imp, decide_eq_true_eq, decide_eq_false_iff_not, Bool.not_not, Bool.not_true, Bool.not_false] at hb6'
            obtain ⟨x2, hx2⟩ := exget (xs := l) (i := (q) - 1) (by first | omega | (simp; done) | (simp; omega))
            rcases Bool.eq_false_or_eq_true (decide (x2.account ≥ x1.account)) with hb7 | hb7
            ·
              have hb7' := hb7; try simp only [sumB, Bool.not_eq_true', Bool.not_eq_false', Bool.or_eq_true, Bool.or_eq_false_iff, Bool.and_eq_true, Bool.and_eq_false_imp, decide_eq_true_eq, decide_eq_false_iff_not, Bool.not_not, Bool.not_true, Bool.not_false] at hb7'
              refine AC.weak (st' := ⟨[(0, (aC (cR 2 ((l).map rEntry)))), (2, (aC (.p 0 0 0 0))), (3, (aI (sumE (l.take q)))), (6, (aC (cR 2 ((l).map rEntry)))), (7, (aI (↑l.length : Int))), (8, (aI (↑q : Int))), (5, (aC (.p 1 0 0 0))), (4, (aI (↑q : Int)))], [(1, (.box 111 [(cI x1.account), (cI x1.sum)])), (0, (.box 47 [(cI 0), (cI 0)]))], 2⟩) (Weak.ren id (⟨by first | rfl | (simp only [AV.map, GV.map, CV.map, AB.map', id]; done) | (congr 3; omega) | (congr 4; omega) | (simp only [List.length_append, List.length_cons, List.length_nil, List.length_set]; rfl), by first | rfl | (simp only [AV.map, GV.map, CV.map, AB.map', id]; done) | (congr 3; omega) | (congr 4; omega) | (simp only [List.length_append, List.length_cons, List.length_nil, List.length_set]; rfl), by first | rfl | (simp only [AV.map, GV.map, CV.map, AB.map', id]; done) | (congr 3; omega) | (congr 4; omega) | (simp only [List.length_append, List.length_cons, List.length_nil, List.length_set]; rfl), by first | rfl | (simp only [AV.map, GV.map, CV.map, AB.map', id]; done) | (congr 3; omega) | (congr 4; omega) | (simp only [List.length_append, List.length_cons, List.length_nil, List.length_set]; rfl), by first | rfl | (simp only [AV.map, GV.map, CV.map, AB.map', id]; done) | (congr 3; omega) | (congr 4; omega) | (simp only [List.length_append, List.length_cons, List.length_nil, List.length_set]; rfl), by first | rfl | (simp only [AV.map, GV.map, CV.map, AB.map', id]; done) | (congr 3; omega) | (congr 4; omega) | (simp only [List.length_append, List.length_cons, List.length_nil, List.length_set]; rfl), by first | rfl | (simp only [AV.map, GV.map, CV.map, AB.map', id]; done) | (congr 3; omega) | (congr 4; omega) | (simp only [List.length_append, List.length_cons, List.length_nil, List.length_set]; rfl), by first | rfl | (simp only [AV.map, GV.map, CV.map, AB.map', id]; done) | (congr 3; omega) | (congr 4; omega) | (simp only [List.length_append, List.length_cons, List.length_nil, List.length_set]; rfl),  trivial⟩) (⟨by first | rfl | (simp only [AV.map, GV.map, CV.map, AB.map', id]; done) | (congr 3; omega) | (congr 4; omega) | (simp only [List.length_append, List.length_cons, List.length_nil, List.length_set]; rfl), by first | rfl | (simp only [AV.map, GV.map, CV.map, AB.map', id]; done) | (congr 3; omega) | (congr 4; omega) | (simp only [List.length_append, List.length_cons, List.length_nil, List.length_set]; rfl),  trivial⟩) rfl) ?_
              refine AC.draw [⟨some 35, (aI (↑q : Int)), [], [], [], [(4, (aI (↑q : Int)))], []⟩,
      ⟨some 36, (aB true), [], [], [0], [(35, (aI (↑q : Int)))], []⟩,
      ⟨some 37, (aB true), [], [], [1], [(36, (aB true))], []⟩,
      ⟨some 38, (aC (cR 2 ((l).map rEntry))), [], [], [2], [(0, (aC (cR 2 ((l).map rEntry)))), (37, (aB true))], []⟩,
      ⟨some 39, (aI (↑q : Int)), [], [], [2], [(4, (aI (↑q : Int))), (37, (aB true))], []⟩,
      ⟨some 40, (aI ((↑q : Int) - 1)), [], [], [2, 4], [(39, (aI (↑q : Int))), (37, (aB true))], []⟩,
      ⟨some 41, (aC (.q (rEntry x2) 0)), [], [], [2, 3, 5], [(38, (aC (cR 2 ((l).map rEntry)))), (40, (aI ((↑q : Int) - 1))), (37, (aB true))], []⟩,
      ⟨some 42, (aC (.q (rEntry x2) 0)), [], [], [2, 6], [(41, (aC (.q (rEntry x2) 0))), (37, (aB true))], []⟩,
      ⟨some 43, (aI x2.account), [], [], [2, 7], [(42, (aC (.q (rEntry x2) 0))), (37, (aB true))], []⟩,
      ⟨some 44, (aC (.p 1 0 0 0)), [], [], [2], [(5, (aC (.p 1 0 0 0))), (37, (aB true))], [(1, (.box 111 [(cI x1.account), (cI x1.sum)]))]⟩,
      ⟨some 45, (aI x1.account), [], [], [2, 9], [(44, (aC (.p 1 0 0 0))), (37, (aB true))], [(1, (.box 111 [(cI x1.account), (cI x1.sum)]))]⟩,
      ⟨some 46, (aB true), [], [], [2, 8, 10], [(43, (aI x2.account)), (45, (aI x1.account)), (37, (aB true))], []⟩,
      ⟨some 47, (aB true), [], [], [2, 11], [(37, (aB true)), (46, (aB true))], []⟩,
      ⟨some 48, (aB true), [], [], [12], [(47, (aB true))], []⟩,
      ⟨some 49, (.t []), [], [], [13], [(5, (aC (.p 1 0 0 0))), (48, (aB true))], []⟩,
      ⟨some 50, (.t []), [], [], [13, 14], [(49, (.t [])), (48, (aB true))], []⟩,
      ⟨some 51, (.t []), [], [], [13, 15], [(50, (.t [])), (48, (aB true))], []⟩,
      ⟨some 52, (aB true), [], [], [13, 16], [(48, (aB true)), (51, (.t []))], []⟩,
      ⟨some 34, (aB true), [], [], [17], [(52, (aB true))], []⟩] ⟨[(0, (aC (cR 2 ((l).map rEntry)))), (2, (aC (.p 0 0 0 0))), (3, (aI (sumE (l.take q)))), (6, (aC (cR 2 ((l).map rEntry)))), (7, (aI (↑l.length : Int))), (8, (aI (↑q : Int))), (5, (aC (.p 1 0 0 0))), (4, (aI (↑q : Int))), (34, (aB true))], [(1, (.box 111 [(cI x1.account), (cI x1.sum)])), (0, (.box 47 [(cI 0), (cI 0)]))], 2⟩ mixed (by kernel_rfl) ?_ ?_ ?_ ?_
              · exact ⟨.inl ⟨(Wanted.plain rfl), GOp.cast (g_move rfl rfl) rfl⟩,
      .inl ⟨(Wanted.plain rfl), GOp.cast (g_binI rfl rfl rfl (congrArg (fun b => some (Value.bool b)) hb6)) rfl⟩,
      .inl ⟨(Wanted.plain rfl), GOp.cast (g_move rfl rfl) rfl⟩,
      .inl ⟨(Wanted.yes rfl rfl rfl), GOp.cast (g_move rfl rfl) rfl⟩,
      .inl ⟨(Wanted.yes rfl rfl rfl), GOp.cast (g_move rfl rfl) rfl⟩,
      .inl ⟨(Wanted.yes rfl rfl rfl), GOp.cast (g_binI rfl rfl rfl (wrap_ok (by first | omega | (simp; done) | (simp; omega)))) rfl⟩,
      .inl ⟨(Wanted.yes rfl rfl rfl), GOp.cast (g_indexQ (i := (q) - 1) rfl rfl rfl Try.underlying102 sz111 (by first | omega | (simp; done) | (simp; omega)) (getmap hx2)) rfl⟩,
      .inl ⟨(Wanted.yes rfl rfl rfl), GOp.cast (g_fieldQ rfl rfl Try.underlying111 rfl sz3 (by decide)) rfl⟩,
      .inl ⟨(Wanted.yes rfl rfl rfl), GOp.cast (g_loadQ rfl rfl Try.underlying3 rfl rfl) rfl⟩,
      .inl ⟨(Wanted.yes rfl rfl rfl), GOp.cast (g_fieldP rfl rfl Try.underlying111 rfl sz3 (by decide)) rfl⟩,
      .inl ⟨(Wanted.yes rfl rfl rfl), GOp.cast (g_loadB rfl rfl rfl Try.underlying3 rfl rfl) rfl⟩,
      .inl ⟨(Wanted.yes rfl rfl rfl), GOp.cast (g_binI rfl rfl rfl (congrArg (fun b => some (Value.bool b)) hb7)) rfl⟩,
      .inl ⟨(Wanted.plain rfl), GOp.cast (g_pick rfl rfl rfl) rfl⟩,
      .inl ⟨(Wanted.plain rfl), GOp.cast (g_move rfl rfl) rfl⟩,
      .inr ⟨(Unwanted.no rfl rfl rfl), rfl, rfl, rfl⟩,
      .inr ⟨(Unwanted.no rfl rfl rfl), rfl, rfl, rfl⟩,
      .inr ⟨(Unwanted.no rfl rfl rfl), rfl, rfl, rfl⟩,
      .inl ⟨(Wanted.plain rfl), GOp.cast (g_pick rfl rfl rfl) rfl⟩,
      .inl ⟨(Wanted.plain rfl), GOp.cast (g_assign rfl rfl) rfl⟩,
       trivial⟩
              · exact ⟨⟨⟨.inl rfl,  trivial⟩, trivial⟩, ⟨⟨.inr ⟨0, .head _, _, rfl, rfl, rfl⟩,  trivial⟩, trivial⟩, ⟨⟨.inr ⟨1, .head _, _, rfl, rfl, rfl⟩,  trivial⟩, trivial⟩, ⟨⟨.inl rfl, .inr ⟨2, .head _, _, rfl, rfl, rfl⟩,  trivial⟩, trivial⟩, ⟨⟨.inl rfl, .inr ⟨2, .head _, _, rfl, rfl, rfl⟩,  trivial⟩, trivial⟩, ⟨⟨.inr ⟨4, .tail _ (.head _), _, rfl, rfl, rfl⟩, .inr ⟨2, .head _, _, rfl, rfl, rfl⟩,  trivial⟩, trivial⟩, ⟨⟨.inr ⟨3, .tail _ (.head _), _, rfl, rfl, rfl⟩, .inr ⟨5, .tail _ (.tail _ (.head _)), _, rfl, rfl, rfl⟩, .inr ⟨2, .head _, _, rfl, rfl, rfl⟩,  trivial⟩, trivial⟩, ⟨⟨.inr ⟨6, .tail _ (.head _), _, rfl, rfl, rfl⟩, .inr ⟨2, .head _, _, rfl, rfl, rfl⟩,  trivial⟩, trivial⟩, ⟨⟨.inr ⟨7, .tail _ (.head _), _, rfl, rfl, rfl⟩, .inr ⟨2, .head _, _, rfl, rfl, rfl⟩,  trivial⟩, trivial⟩, ⟨⟨.inl rfl, .inr ⟨2, .head _, _, rfl, rfl, rfl⟩,  trivial⟩, ⟨.inl rfl,  trivial⟩⟩, ⟨⟨.inr ⟨9, .tail _ (.head _), _, rfl, rfl, rfl⟩, .inr ⟨2, .head _, _, rfl, rfl, rfl⟩,  trivial⟩, ⟨.inl rfl,  trivial⟩⟩, ⟨⟨.inr ⟨8, .tail _ (.head _), _, rfl, rfl, rfl⟩, .inr ⟨10, .tail _ (.tail _ (.head _)), _, rfl, rfl, rfl⟩, .inr ⟨2, .head _, _, rfl, rfl, rfl⟩,  trivial⟩, trivial⟩, ⟨⟨.inr ⟨2, .head _, _, rfl, rfl, rfl⟩, .inr ⟨11, .tail _ (.head _), _, rfl, rfl, rfl⟩,  trivial⟩, trivial⟩, ⟨⟨.inr ⟨12, .head _, _, rfl, rfl, rfl⟩,  trivial⟩, trivial⟩, ⟨⟨.inl rfl, .inr ⟨13, .head _, _, rfl, rfl, rfl⟩,  trivial⟩, trivial⟩, ⟨⟨.inr ⟨14, .tail _ (.head _), _, rfl, rfl, rfl⟩, .inr ⟨13, .head _, _, rfl, rfl, rfl⟩,  trivial⟩, trivial⟩, ⟨⟨.inr ⟨15, .tail _ (.head _), _, rfl, rfl, rfl⟩, .inr ⟨13, .head _, _, rfl, rfl, rfl⟩,  trivial⟩, trivial⟩, ⟨⟨.inr ⟨13, .head _, _, rfl, rfl, rfl⟩, .inr ⟨16, .tail _ (.head _), _, rfl, rfl, rfl⟩,  trivial⟩, trivial⟩, ⟨⟨.inr ⟨17, .head _, _, rfl, rfl, rfl⟩,  trivial⟩, trivial⟩,  trivial⟩
              · exact ⟨⟨.inl rfl, .inl rfl, .inl rfl, .inl rfl, .inl rfl, .inl rfl, .inl rfl, .inl rfl, .inr ⟨18, _, rfl, rfl, rfl⟩,  trivial⟩, ⟨.inl rfl, .inl rfl,  trivial⟩⟩
              ·
                refine AL.nil ?_
                refine then_ok ?_
                refine AC.cond rfl (fun _ => ?_) (fun hno => by cases hno)
                refine AC.seq ?_
                refine AC.region ?_
                refine AL.fast 1 rfl ?_
                refine AL.val (Wanted.plain rfl) (g_build (ys := [(0, (.c (cI 2))), (1, (.c (cI (↑q : Int))))]) rfl bld47 rfl ⟨⟨rfl, rfl⟩, ⟨rfl, rfl⟩,  trivial⟩ rfl rfl) rfl rfl ?_
                refine AL.sto (h' := [(1, (.box 111 [(cI x1.account), (cI x1.sum)])), (0, (.box 47 [(cI 2), (cI (↑q : Int))]))]) (Wanted.plain rfl) (g_storeB rfl rfl rfl rfl rfl sz47 rfl (Nat.le_of_ble_eq_true rfl) rfl) rfl rfl rfl rfl ?_
                refine AL.nil ?_
                refine then_ok ?_
                refine AC.ret ?_
                refine block_ret ?_
                refine then_ret ?_
                refine block_ret ?_
                refine then_ret ?_
                refine then_ret ?_
                refine block_ret ?_
                refine then_ret ?_
                have hX : wrongB l = (⟨2, (↑q : Int)⟩ : Fault) := by
                  (have hb : ¬ badE x1 := by unfold badE; omega); (have hla := lastA_pos (by omega) hx2); (have h0 := scan_bad (e := bErr l) (q := q) (n := l.length) (by omega) (by rw [bErr_some hx1, if_neg hb, if_pos (by omega)]) (by decide : (2 : Int) ≠ 0)); (unfold wrongB; rw [hi0_1, h0]; rfl)
                rw [hX] at hr; clear hX
                subst hr
                refine retQ_mk (av' := outOf [(.g [(cI 2), (cI (↑q : Int))])]) (nb' := []) (retQ_ret ⟨[(2, (aC (.p 0 0 0 0)))], [(0, (.box 47 [(cI 2), (cI (↑q : Int))]))], 1⟩ [.cell 2 47] [(.g [(cI 2), (cI (↑q : Int))])] (Weak.ren id (⟨by first | rfl | (simp only [AV.map, GV.map, CV.map, AB.map', id]; done) | (congr 3; omega) | (congr 4; omega) | (simp only [List.length_append, List.length_cons, List.length_nil, List.length_set]; rfl),  trivial⟩) (⟨by first | rfl | (simp only [AV.map, GV.map, CV.map, AB.map', id]; done) | (congr 3; omega) | (congr 4; omega) | (simp only [List.length_append, List.length_cons, List.length_nil, List.length_set]; rfl),  trivial⟩) rfl) rfl ⟨.agg rfl rfl (fun _ => run_isAgg Try.underlying47) sz47, trivial⟩ trivial) ?_ ?_
                · first | rfl | (simp [outOf, aC]; done) | (simp [outOf, aC]; omega)
                · first | rfl | (simp; done) | (simp; omega)
            ·
              have hb7' := hb7; try simp only [sumB, Bool.not_eq_true', Bool.not_eq_false', Bool.or_eq_true, Bool.or_eq_false_iff, Bool.and_eq_true, Bool.and_eq_false_imp, decide_eq_true_eq, decide_eq_false_iff_not, Bool.not_not, Bool.not_true, Bool.not_false] at hb7'
              refine AC.weak (st' := ⟨[(0, (aC (cR 2 ((l).map rEntry)))), (2, (aC (.p 0 0 0 0))), (3, (aI (sumE (l.take q)))), (6, (aC (cR 2 ((l).map rEntry)))), (7, (aI (↑l.length : Int))), (8, (aI (↑q : Int))), (5, (aC (.p 1 0 0 0))), (4, (aI (↑q : Int)))], [(1, (.box 111 [(cI x1.account), (cI x1.sum)])), (0, (.box 47 [(cI 0), (cI 0)]))], 2⟩) (Weak.ren id (⟨by first | rfl | (simp only [AV.map, GV.map, CV.map, AB.map', id]; done) | (congr 3; omega) | (congr 4; omega) | (simp only [List.length_append, List.length_cons, List.length_nil, List.length_set]; rfl), by first | rfl | (simp only [AV.map, GV.map, CV.map, AB.map', id]; done) | (congr 3; omega) | (congr 4; omega) | (simp only [List.length_append, List.length_cons, List.length_nil, List.length_set]; rfl), by first | rfl | (simp only [AV.map, GV.map, CV.map, AB.map', id]; done) | (congr 3; omega) | (congr 4; omega) | (simp only [List.length_append, List.length_cons, List.length_nil, List.length_set]; rfl), by first | rfl | (simp only [AV.map, GV.map, CV.map, AB.map', id]; done) | (congr 3; omega) | (congr 4; omega) | (simp only [List.length_append, List.length_cons, List.length_nil, List.length_set]; rfl), by first | rfl | (simp only [AV.map, GV.map, CV.map, AB.map', id]; done) | (congr 3; omega) | (congr 4; omega) | (simp only [List.length_append, List.length_cons, List.length_nil, List.length_set]; rfl), by first | rfl | (simp only [AV.map, GV.map, CV.map, AB.map', id]; done) | (congr 3; omega) | (congr 4; omega) | (simp only [List.length_append, List.length_cons, List.length_nil, List.length_set]; rfl), by first | rfl | (simp only [AV.map, GV.map, CV.map, AB.map', id]; done) | (congr 3; omega) | (congr 4; omega) | (simp only [List.length_append, List.length_cons, List.length_nil, List.length_set]; rfl), by first | rfl | (simp only [AV.map, GV.map, CV.map, AB.map', id]; done) | (congr 3; omega) | (congr 4; omega) | (simp only [List.length_append, List.length_cons, List.length_nil, List.length_set]; rfl),  trivial⟩) (⟨by first | rfl | (simp only [AV.map, GV.map, CV.map, AB.map', id]; done) | (congr 3; omega) | (congr 4; omega) | (simp only [List.length_append, List.length_cons, List.length_nil, List.length_set]; rfl), by first | rfl | (simp only [AV.map, GV.map, CV.map, AB.map', id]; done) | (congr 3; omega) | (congr 4; omega) | (simp only [List.length_append, List.length_cons, List.length_nil, List.length_set]; rfl),  trivial⟩) rfl) ?_
              refine AC.draw [⟨some 35, (aI (↑q : Int)), [], [], [], [(4, (aI (↑q : Int)))], []⟩,
      ⟨some 36, (aB true), [], [], [0], [(35, (aI (↑q : Int)))], []⟩,
      ⟨some 37, (aB true), [], [], [1], [(36, (aB true))], []⟩,
      ⟨some 38, (aC (cR 2 ((l).map rEntry))), [], [], [2], [(0, (aC (cR 2 ((l).map rEntry)))), (37, (aB true))], []⟩,
      ⟨some 39, (aI (↑q : Int)), [], [], [2], [(4, (aI (↑q : Int))), (37, (aB true))], []⟩,
      ⟨some 40, (aI ((↑q : Int) - 1)), [], [], [2, 4], [(39, (aI (↑q : Int))), (37, (aB true))], []⟩,
      ⟨some 41, (aC (.q (rEntry x2) 0)), [], [], [2, 3, 5], [(38, (aC (cR 2 ((l).map rEntry)))), (40, (aI ((↑q : Int) - 1))), (37, (aB true))], []⟩,
      ⟨some 42, (aC (.q (rEntry x2) 0)), [], [], [2, 6], [(41, (aC (.q (rEntry x2) 0))), (37, (aB true))], []⟩,
      ⟨some 43, (aI x2.account), [], [], [2, 7], [(42, (aC (.q (rEntry x2) 0))), (37, (aB true))], []⟩,
      ⟨some 44, (aC (.p 1 0 0 0)), [], [], [2], [(5, (aC (.p 1 0 0 0))), (37, (aB true))], [(1, (.box 111 [(cI x1.account), (cI x1.sum)]))]⟩,
      ⟨some 45, (aI x1.account), [], [], [2, 9], [(44, (aC (.p 1 0 0 0))), (37, (aB true))], [(1, (.box 111 [(cI x1.account), (cI x1.sum)]))]⟩,
      ⟨some 46, (aB false), [], [], [2, 8, 10], [(43, (aI x2.account)), (45, (aI x1.account)), (37, (aB true))], []⟩,
      ⟨some 47, (aB false), [], [], [2, 11], [(37, (aB true)), (46, (aB false))], []⟩,
      ⟨some 48, (aB false), [], [], [12], [(47, (aB false))], []⟩,
      ⟨some 49, (aC (.p 1 0 0 1)), [], [], [13], [(5, (aC (.p 1 0 0 0))), (48, (aB false))], [(1, (.box 111 [(cI x1.account), (cI x1.sum)]))]⟩,
      ⟨some 50, (aI x1.sum), [], [], [13, 14], [(49, (aC (.p 1 0 0 1))), (48, (aB false))], [(1, (.box 111 [(cI x1.account), (cI x1.sum)]))]⟩,
      ⟨some 51, (aB (decide (x1.sum = 0))), [], [], [13, 15], [(50, (aI x1.sum)), (48, (aB false))], []⟩,
      ⟨some 52, (aB (decide (x1.sum = 0))), [], [], [13, 16], [(48, (aB false)), (51, (aB (decide (x1.sum = 0))))], []⟩,
      ⟨some 34, (aB (decide (x1.sum = 0))), [], [], [17], [(52, (aB (decide (x1.sum = 0))))], []⟩] ⟨[(0, (aC (cR 2 ((l).map rEntry)))), (2, (aC (.p 0 0 0 0))), (3, (aI (sumE (l.take q)))), (6, (aC (cR 2 ((l).map rEntry)))), (7, (aI (↑l.length : Int))), (8, (aI (↑q : Int))), (5, (aC (.p 1 0 0 0))), (4, (aI (↑q : Int))), (34, (aB (decide (x1.sum = 0))))], [(1, (.box 111 [(cI x1.account), (cI x1.sum)])), (0, (.box 47 [(cI 0), (cI 0)]))], 2⟩ mixed (by kernel_rfl) ?_ ?_ ?_ ?_
              · exact ⟨.inl ⟨(Wanted.plain rfl), GOp.cast (g_move rfl rfl) rfl⟩,
      .inl ⟨(Wanted.plain rfl), GOp.cast (g_binI rfl rfl rfl (congrArg (fun b => some (Value.bool b)) hb6)) rfl⟩,
      .inl ⟨(Wanted.plain rfl), GOp.cast (g_move rfl rfl) rfl⟩,
      .inl ⟨(Wanted.yes rfl rfl rfl), GOp.cast (g_move rfl rfl) rfl⟩,
      .inl ⟨(Wanted.yes rfl rfl rfl), GOp.cast (g_move rfl rfl) rfl⟩,
      .inl ⟨(Wanted.yes rfl rfl rfl), GOp.cast (g_binI rfl rfl rfl (wrap_ok (by first | omega | (simp; done) | (simp; omega)))) rfl⟩,
      .inl ⟨(Wanted.yes rfl rfl rfl), GOp.cast (g_indexQ (i := (q) - 1) rfl rfl rfl Try.underlying102 sz111 (by first | omega | (simp; done) | (simp; omega)) (getmap hx2)) rfl⟩,
      .inl ⟨(Wanted.yes rfl rfl rfl), GOp.cast (g_fieldQ rfl rfl Try.underlying111 rfl sz3 (by decide)) rfl⟩,
      .inl ⟨(Wanted.yes rfl rfl rfl), GOp.cast (g_loadQ rfl rfl Try.underlying3 rfl rfl) rfl⟩,
      .inl ⟨(Wanted.yes rfl rfl rfl), GOp.cast (g_fieldP rfl rfl Try.underlying111 rfl sz3 (by decide)) rfl⟩,
      .inl ⟨(Wanted.yes rfl rfl rfl), GOp.cast (g_loadB rfl rfl rfl Try.underlying3 rfl rfl) rfl⟩,
      .inl ⟨(Wanted.yes rfl rfl rfl), GOp.cast (g_binI rfl rfl rfl (congrArg (fun b => some (Value.bool b)) hb7)) rfl⟩,
      .inl ⟨(Wanted.plain rfl), GOp.cast (g_pick rfl rfl rfl) rfl⟩,
      .inl ⟨(Wanted.plain rfl), GOp.cast (g_move rfl rfl) rfl⟩,
      .inl ⟨(Wanted.yes rfl rfl rfl), GOp.cast (g_fieldP rfl rfl Try.underlying111 rfl sz3 (by decide)) rfl⟩,
      .inl ⟨(Wanted.yes rfl rfl rfl), GOp.cast (g_loadB rfl rfl rfl Try.underlying3 rfl rfl) rfl⟩,
      .inl ⟨(Wanted.yes rfl rfl rfl), GOp.cast (g_binI rfl rfl rfl rfl) rfl⟩,
      .inl ⟨(Wanted.plain rfl), GOp.cast (g_pick rfl rfl rfl) rfl⟩,
      .inl ⟨(Wanted.plain rfl), GOp.cast (g_assign rfl rfl) rfl⟩,
       trivial⟩
              · exact ⟨⟨⟨.inl rfl,  trivial⟩, trivial⟩, ⟨⟨.inr ⟨0, .head _, _, rfl, rfl, rfl⟩,  trivial⟩, trivial⟩, ⟨⟨.inr ⟨1, .head _, _, rfl, rfl, rfl⟩,  trivial⟩, trivial⟩, ⟨⟨.inl rfl, .inr ⟨2, .head _, _, rfl, rfl, rfl⟩,  trivial⟩, trivial⟩, ⟨⟨.inl rfl, .inr ⟨2, .head _, _, rfl, rfl, rfl⟩,  trivial⟩, trivial⟩, ⟨⟨.inr ⟨4, .tail _ (.head _), _, rfl, rfl, rfl⟩, .inr ⟨2, .head _, _, rfl, rfl, rfl⟩,  trivial⟩, trivial⟩, ⟨⟨.inr ⟨3, .tail _ (.head _), _, rfl, rfl, rfl⟩, .inr ⟨5, .tail _ (.tail _ (.head _)), _, rfl, rfl, rfl⟩, .inr ⟨2, .head _, _, rfl, rfl, rfl⟩,  trivial⟩, trivial⟩, ⟨⟨.inr ⟨6, .tail _ (.head _), _, rfl, rfl, rfl⟩, .inr ⟨2, .head _, _, rfl, rfl, rfl⟩,  trivial⟩, trivial⟩, ⟨⟨.inr ⟨7, .tail _ (.head _), _, rfl, rfl, rfl⟩, .inr ⟨2, .head _, _, rfl, rfl, rfl⟩,  trivial⟩, trivial⟩, ⟨⟨.inl rfl, .inr ⟨2, .head _, _, rfl, rfl, rfl⟩,  trivial⟩, ⟨.inl rfl,  trivial⟩⟩, ⟨⟨.inr ⟨9, .tail _ (.head _), _, rfl, rfl, rfl⟩, .inr ⟨2, .head _, _, rfl, rfl, rfl⟩,  trivial⟩, ⟨.inl rfl,  trivial⟩⟩, ⟨⟨.inr ⟨8, .tail _ (.head _), _, rfl, rfl, rfl⟩, .inr ⟨10, .tail _ (.tail _ (.head _)), _, rfl, rfl, rfl⟩, .inr ⟨2, .head _, _, rfl, rfl, rfl⟩,  trivial⟩, trivial⟩, ⟨⟨.inr ⟨2, .head _, _, rfl, rfl, rfl⟩, .inr ⟨11, .tail _ (.head _), _, rfl, rfl, rfl⟩,  trivial⟩, trivial⟩, ⟨⟨.inr ⟨12, .head _, _, rfl, rfl, rfl⟩,  trivial⟩, trivial⟩, ⟨⟨.inl rfl, .inr ⟨13, .head _, _, rfl, rfl, rfl⟩,  trivial⟩, ⟨.inl rfl,  trivial⟩⟩, ⟨⟨.inr ⟨14, .tail _ (.head _), _, rfl, rfl, rfl⟩, .inr ⟨13, .head _, _, rfl, rfl, rfl⟩,  trivial⟩, ⟨.inl rfl,  trivial⟩⟩, ⟨⟨.inr ⟨15, .tail _ (.head _), _, rfl, rfl, rfl⟩, .inr ⟨13, .head _, _, rfl, rfl, rfl⟩,  trivial⟩, trivial⟩, ⟨⟨.inr ⟨13, .head _, _, rfl, rfl, rfl⟩, .inr ⟨16, .tail _ (.head _), _, rfl, rfl, rfl⟩,  trivial⟩, trivial⟩, ⟨⟨.inr ⟨17, .head _, _, rfl, rfl, rfl⟩,  trivial⟩, trivial⟩,  trivial⟩
              · exact ⟨⟨.inl rfl, .inl rfl, .inl rfl, .inl rfl, .inl rfl, .inl rfl, .inl rfl, .inl rfl, .inr ⟨18, _, rfl, rfl, rfl⟩,  trivial⟩, ⟨.inl rfl, .inl rfl,  trivial⟩⟩
              ·
                refine AL.nil ?_
                refine then_ok ?_
                refine AC.cond rfl (fun hc9 => ?_) (fun hc9 => ?_)
                ·
                  have hc9' := hc9; try simp only [sumB, Bool.not_eq_true', Bool.not_eq_false', Bool.or_eq_true, Bool.or_eq_false_iff, Bool.and_eq_true, Bool.and_eq_false_imp, decide_eq_true_eq, decide_eq_false_iff_not, Bool.not_not, Bool.not_true, Bool.not_false] at hc9'
                  refine AC.seq ?_
                  refine AC.region ?_
                  refine AL.fast 1 rfl ?_
                  refine AL.val (Wanted.plain rfl) (g_build (ys := [(0, (.c (cI 2))), (1, (.c (cI (↑q : Int))))]) rfl bld47 rfl ⟨⟨rfl, rfl⟩, ⟨rfl, rfl⟩,  trivial⟩ rfl rfl) rfl rfl ?_
                  refine AL.sto (h' := [(1, (.box 111 [(cI x1.account), (cI x1.sum)])), (0, (.box 47 [(cI 2), (cI (↑q : Int))]))]) (Wanted.plain rfl) (g_storeB rfl rfl rfl rfl rfl sz47 rfl (Nat.le_of_ble_eq_true rfl) rfl) rfl rfl rfl rfl ?_
                  refine AL.nil ?_
                  refine then_ok ?_
                  refine AC.ret ?_
                  refine block_ret ?_
                  refine then_ret ?_
                  refine block_ret ?_
                  refine then_ret ?_
                  refine then_ret ?_
                  refine block_ret ?_
                  refine then_ret ?_
                  have hX : wrongB l = (⟨2, (↑q : Int)⟩ : Fault) := by
                    (have hb : ¬ badE x1 := by unfold badE; omega); (have hla := lastA_pos (by omega) hx2); (have h0 := scan_bad (e := bErr l) (q := q) (n := l.length) (by omega) (by rw [bErr_some hx1, if_neg hb, if_pos (by omega)]) (by decide : (2 : Int) ≠ 0)); (unfold wrongB; rw [hi0_1, h0]; rfl)
                  rw [hX] at hr; clear hX
                  subst hr
                  refine retQ_mk (av' := outOf [(.g [(cI 2), (cI (↑q : Int))])]) (nb' := []) (retQ_ret ⟨[(2, (aC (.p 0 0 0 0)))], [(0, (.box 47 [(cI 2), (cI (↑q : Int))]))], 1⟩ [.cell 2 47] [(.g [(cI 2), (cI (↑q : Int))])] (Weak.ren id (⟨by first | rfl | (simp only [AV.map, GV.map, CV.map, AB.map', id]; done) | (congr 3; omega) | (congr 4; omega) | (simp only [List.length_append, List.length_cons, List.length_nil, List.length_set]; rfl),  trivial⟩) (⟨by first | rfl | (simp only [AV.map, GV.map, CV.map, AB.map', id]; done) | (congr 3; omega) | (congr 4; omega) | (simp only [List.length_append, List.length_cons, List.length_nil, List.length_set]; rfl),  trivial⟩) rfl) rfl ⟨.agg rfl rfl (fun _ => run_isAgg Try.underlying47) sz47, trivial⟩ trivial) ?_ ?_
                  · first | rfl | (simp [outOf, aC]; done) | (simp [outOf, aC]; omega)
                  · first | rfl | (simp; done) | (simp; omega)
                ·
                  have hc9' := hc9; try simp only [sumB, Bool.not_eq_true', Bool.not_eq_false', Bool.or_eq_true, Bool.or_eq_false_iff, Bool.and_eq_true, Bool.and_eq_false_imp, decide_eq_true_eq, decide_eq_false_iff_not, Bool.not_not, Bool.not_true, Bool.not_false] at hc9'
                  refine AC.skip ?_
                  refine block_ok ?_
                  refine then_ok ?_
                  refine AC.region ?_
                  refine AL.fast 1 rfl ?_
                  refine AL.val (Wanted.plain rfl) (g_fieldP rfl rfl Try.underlying111 rfl sz3 (by decide)) rfl rfl ?_
                  refine AL.val (Wanted.plain rfl) (g_loadB rfl rfl rfl Try.underlying3 rfl rfl) rfl rfl ?_
                  refine AL.val (Wanted.plain rfl) (g_binI rfl rfl rfl (wrap_ok (by first | omega | (simp; done) | (simp; omega)))) rfl rfl ?_
                  refine AL.fast 1 rfl ?_
                  refine AL.nil ?_
                  refine block_ok ?_
                  refine then_ok ?_
                  refine AC.region ?_
                  refine AL.val (Wanted.plain rfl) (g_binI rfl rfl rfl (wrap_ok (by first | omega | (simp; done) | (simp; omega)))) rfl rfl ?_
                  refine AL.fast 1 rfl ?_
                  refine AL.nil ?_
                  refine then_ok ?_
                  refine ⟨q + 1, ⟨by omega, by rw [hi0_1]; exact scan_ok (by omega) (by have hla := lastA_pos (by omega) hx2; rw [bErr_some hx1, if_neg (by unfold badE; omega), if_neg (by omega)]), by rw [lastA_succ hx1]; have hla := lastA_pos (by omega) hx2; omega, by rw [lastA_succ hx1, sumE_take hx1]; omega⟩, by first | omega | (simp; done) | (simp; omega), Weak.ren id (⟨by first | rfl | (simp only [AV.map, GV.map, CV.map, AB.map', id]; done) | (congr 3; omega) | (congr 4; omega) | (simp only [List.length_append, List.length_cons, List.length_nil, List.length_set]; rfl) | (rw [sumE_take hx1]; rfl), by first | rfl | (simp only [AV.map, GV.map, CV.map, AB.map', id]; done) | (congr 3; omega) | (congr 4; omega) | (simp only [List.length_append, List.length_cons, List.length_nil, List.length_set]; rfl) | (rw [sumE_take hx1]; rfl), by first | rfl | (simp only [AV.map, GV.map, CV.map, AB.map', id]; done) | (congr 3; omega) | (congr 4; omega) | (simp only [List.length_append, List.length_cons, List.length_nil, List.length_set]; rfl) | (rw [sumE_take hx1]; rfl), by first | rfl | (simp only [AV.map, GV.map, CV.map, AB.map', id]; done) | (congr 3; omega) | (congr 4; omega) | (simp only [List.length_append, List.length_cons, List.length_nil, List.length_set]; rfl) | (rw [sumE_take hx1]; rfl), by first | rfl | (simp only [AV.map, GV.map, CV.map, AB.map', id]; done) | (congr 3; omega) | (congr 4; omega) | (simp only [List.length_append, List.length_cons, List.length_nil, List.length_set]; rfl) | (rw [sumE_take hx1]; rfl), by first | rfl | (simp only [AV.map, GV.map, CV.map, AB.map', id]; done) | (congr 3; omega) | (congr 4; omega) | (simp only [List.length_append, List.length_cons, List.length_nil, List.length_set]; rfl) | (rw [sumE_take hx1]; rfl),  trivial⟩) (⟨by first | rfl | (simp only [AV.map, GV.map, CV.map, AB.map', id]; done) | (congr 3; omega) | (congr 4; omega) | (simp only [List.length_append, List.length_cons, List.length_nil, List.length_set]; rfl),  trivial⟩) rfl⟩
          ·
            have hb6' := hb6; try simp only [sumB, Bool.not_eq_true', Bool.not_eq_false', Bool.or_eq_true, Bool.or_eq_false_iff, Bool.and_eq_true, Bool.and_eq_false_imp, decide_eq_true_eq, decide_eq_false_iff_not, Bool.not_not, Bool.not_true, Bool.not_false] at hb6'
            refine AC.weak (st' := ⟨[(0, (aC (cR 2 ((l).map rEntry)))), (2, (aC (.p 0 0 0 0))), (3, (aI (sumE (l.take q)))), (6, (aC (cR 2 ((l).map rEntry)))), (7, (aI (↑l.length : Int))), (8, (aI (↑q : Int))), (5, (aC (.p 1 0 0 0))), (4, (aI (↑q : Int)))], [(1, (.box 111 [(cI x1.account), (cI x1.sum)])), (0, (.box 47 [(cI 0), (cI 0)]))], 2⟩) (Weak.ren id (⟨by first | rfl | (simp only [AV.map, GV.map, CV.map, AB.map', id]; done) | (congr 3; omega) | (congr 4; omega) | (simp only [List.length_append, List.length_cons, List.length_nil, List.length_set]; rfl), by first | rfl | (simp only [AV.map, GV.map, CV.map, AB.map', id]; done) | (congr 3; omega) | (congr 4; omega) | (simp only [List.length_append, List.length_cons, List.length_nil, List.length_set]; rfl), by first | rfl | (simp only [AV.map, GV.map, CV.map, AB.map', id]; done) | (congr 3; omega) | (congr 4; omega) | (simp only [List.length_append, List.length_cons, List.length_nil, List.length_set]; rfl), by first | rfl | (simp only [AV.map, GV.map, CV.map, AB.map', id]; done) | (congr 3; omega) | (congr 4; omega) | (simp only [List.length_append, List.length_cons, List.length_nil, List.length_set]; rfl), by first | rfl | (simp only [AV.map, GV.map, CV.map, AB.map', id]; done) | (congr 3; omega) | (congr 4; omega) | (simp only [List.length_append, List.length_cons, List.length_nil, List.length_set]; rfl), by first | rfl | (simp only [AV.map, GV.map, CV.map, AB.map', id]; done) | (congr 3; omega) | (congr 4; omega) | (simp only [List.length_append, List.length_cons, List.length_nil, List.length_set]; rfl), by first | rfl | (simp only [AV.map, GV.map, CV.map, AB.map', id]; done) | (congr 3; omega) | (congr 4; omega) | (simp only [List.length_append, List.length_cons, List.length_nil, List.length_set]; rfl), by first | rfl | (simp only [AV.map, GV.map, CV.map, AB.map', id]; done) | (congr 3; omega) | (congr 4; omega) | (simp only [List.length_append, List.length_cons, List.length_nil, List.length_set]; rfl),  trivial⟩) (⟨by first | rfl | (simp only [AV.map, GV.map, CV.map, AB.map', id]; done) | (congr 3; omega) | (congr 4; omega) | (simp only [List.length_append, List.length_cons, List.length_nil, List.length_set]; rfl), by first | rfl | (simp only [AV.map, GV.map, CV.map, AB.map', id]; done) | (congr 3; omega) | (congr 4; omega) | (simp only [List.length_append, List.length_cons, List.length_nil, List.length_set]; rfl),  trivial⟩) rfl) ?_
            refine AC.draw [⟨some 35, (aI (↑q : Int)), [], [], [], [(4, (aI (↑q : Int)))], []⟩,
      ⟨some 36, (aB false), [], [], [0], [(35, (aI (↑q : Int)))], []⟩,
      ⟨some 37, (aB false), [], [], [1], [(36, (aB false))], []⟩,
      ⟨some 38, (.t []), [], [], [2], [(0, (aC (cR 2 ((l).map rEntry)))), (37, (aB false))], []⟩,
      ⟨some 39, (.t []), [], [], [2], [(4, (aI (↑q : Int))), (37, (aB false))], []⟩,
      ⟨some 40, (.t []), [], [], [2, 4], [(39, (.t [])), (37, (aB false))], []⟩,
      ⟨some 41, (.t []), [], [], [2, 3, 5], [(38, (.t [])), (40, (.t [])), (37, (aB false))], []⟩,
      ⟨some 42, (.t []), [], [], [2, 6], [(41, (.t [])), (37, (aB false))], []⟩,
      ⟨some 43, (.t []), [], [], [2, 7], [(42, (.t [])), (37, (aB false))], []⟩,
      ⟨some 44, (.t []), [], [], [2], [(5, (aC (.p 1 0 0 0))), (37, (aB false))], []⟩,
      ⟨some 45, (.t []), [], [], [2, 9], [(44, (.t [])), (37, (aB false))], []⟩,
      ⟨some 46, (.t []), [], [], [2, 8, 10], [(43, (.t [])), (45, (.t [])), (37, (aB false))], []⟩,
      ⟨some 47, (aB false), [], [], [2, 11], [(37, (aB false)), (46, (.t []))], []⟩,
      ⟨some 48, (aB false), [], [], [12], [(47, (aB false))], []⟩,
      ⟨some 49, (aC (.p 1 0 0 1)), [], [], [13], [(5, (aC (.p 1 0 0 0))), (48, (aB false))], [(1, (.box 111 [(cI x1.account), (cI x1.sum)]))]⟩,
      ⟨some 50, (aI x1.sum), [], [], [13, 14], [(49, (aC (.p 1 0 0 1))), (48, (aB false))], [(1, (.box 111 [(cI x1.account), (cI x1.sum)]))]⟩,
      ⟨some 51, (aB (decide (x1.sum = 0))), [], [], [13, 15], [(50, (aI x1.sum)), (48, (aB false))], []⟩,
      ⟨some 52, (aB (decide (x1.sum = 0))), [], [], [13, 16], [(48, (aB false)), (51, (aB (decide (x1.sum = 0))))], []⟩,
      ⟨some 34, (aB (decide (x1.sum = 0))), [], [], [17], [(52, (aB (decide (x1.sum = 0))))], []⟩] ⟨[(0, (aC (cR 2 ((l).map rEntry)))), (2, (aC (.p 0 0 0 0))), (3, (aI (sumE (l.take q)))), (6, (aC (cR 2 ((l).map rEntry)))), (7, (aI (↑l.length : Int))), (8, (aI (↑q : Int))), (5, (aC (.p 1 0 0 0))), (4, (aI (↑q : Int))), (34, (aB (decide (x1.sum = 0))))], [(1, (.box 111 [(cI x1.account), (cI x1.sum)])), (0, (.box 47 [(cI 0), (cI 0)]))], 2⟩ mixed (by kernel_rfl) ?_ ?_ ?_ ?_
            · exact ⟨.inl ⟨(Wanted.plain rfl), GOp.cast (g_move rfl rfl) rfl⟩,
      .inl ⟨(Wanted.plain rfl), GOp.cast (g_binI rfl rfl rfl (congrArg (fun b => some (Value.bool b)) hb6)) rfl⟩,
      .inl ⟨(Wanted.plain rfl), GOp.cast (g_move rfl rfl) rfl⟩,
      .inr ⟨(Unwanted.no rfl rfl rfl), rfl, rfl, rfl⟩,
      .inr ⟨(Unwanted.no rfl rfl rfl), rfl, rfl, rfl⟩,
      .inr ⟨(Unwanted.no rfl rfl rfl), rfl, rfl, rfl⟩,
      .inr ⟨(Unwanted.no rfl rfl rfl), rfl, rfl, rfl⟩,
      .inr ⟨(Unwanted.no rfl rfl rfl), rfl, rfl, rfl⟩,
      .inr ⟨(Unwanted.no rfl rfl rfl), rfl, rfl, rfl⟩,
      .inr ⟨(Unwanted.no rfl rfl rfl), rfl, rfl, rfl⟩,
      .inr ⟨(Unwanted.no rfl rfl rfl), rfl, rfl, rfl⟩,
      .inr ⟨(Unwanted.no rfl rfl rfl), rfl, rfl, rfl⟩,
      .inl ⟨(Wanted.plain rfl), GOp.cast (g_pick rfl rfl rfl) rfl⟩,
      .inl ⟨(Wanted.plain rfl), GOp.cast (g_move rfl rfl) rfl⟩,
      .inl ⟨(Wanted.yes rfl rfl rfl), GOp.cast (g_fieldP rfl rfl Try.underlying111 rfl sz3 (by decide)) rfl⟩,
      .inl ⟨(Wanted.yes rfl rfl rfl), GOp.cast (g_loadB rfl rfl rfl Try.underlying3 rfl rfl) rfl⟩,
      .inl ⟨(Wanted.yes rfl rfl rfl), GOp.cast (g_binI rfl rfl rfl rfl) rfl⟩,
      .inl ⟨(Wanted.plain rfl), GOp.cast (g_pick rfl rfl rfl) rfl⟩,
      .inl ⟨(Wanted.plain rfl), GOp.cast (g_assign rfl rfl) rfl⟩,
       trivial⟩
            · exact ⟨⟨⟨.inl rfl,  trivial⟩, trivial⟩, ⟨⟨.inr ⟨0, .head _, _, rfl, rfl, rfl⟩,  trivial⟩, trivial⟩, ⟨⟨.inr ⟨1, .head _, _, rfl, rfl, rfl⟩,  trivial⟩, trivial⟩, ⟨⟨.inl rfl, .inr ⟨2, .head _, _, rfl, rfl, rfl⟩,  trivial⟩, trivial⟩, ⟨⟨.inl rfl, .inr ⟨2, .head _, _, rfl, rfl, rfl⟩,  trivial⟩, trivial⟩, ⟨⟨.inr ⟨4, .tail _ (.head _), _, rfl, rfl, rfl⟩, .inr ⟨2, .head _, _, rfl, rfl, rfl⟩,  trivial⟩, trivial⟩, ⟨⟨.inr ⟨3, .tail _ (.head _), _, rfl, rfl, rfl⟩, .inr ⟨5, .tail _ (.tail _ (.head _)), _, rfl, rfl, rfl⟩, .inr ⟨2, .head _, _, rfl, rfl, rfl⟩,  trivial⟩, trivial⟩, ⟨⟨.inr ⟨6, .tail _ (.head _), _, rfl, rfl, rfl⟩, .inr ⟨2, .head _, _, rfl, rfl, rfl⟩,  trivial⟩, trivial⟩, ⟨⟨.inr ⟨7, .tail _ (.head _), _, rfl, rfl, rfl⟩, .inr ⟨2, .head _, _, rfl, rfl, rfl⟩,  trivial⟩, trivial⟩, ⟨⟨.inl rfl, .inr ⟨2, .head _, _, rfl, rfl, rfl⟩,  trivial⟩, trivial⟩, ⟨⟨.inr ⟨9, .tail _ (.head _), _, rfl, rfl, rfl⟩, .inr ⟨2, .head _, _, rfl, rfl, rfl⟩,  trivial⟩, trivial⟩, ⟨⟨.inr ⟨8, .tail _ (.head _), _, rfl, rfl, rfl⟩, .inr ⟨10, .tail _ (.tail _ (.head _)), _, rfl, rfl, rfl⟩, .inr ⟨2, .head _, _, rfl, rfl, rfl⟩,  trivial⟩, trivial⟩, ⟨⟨.inr ⟨2, .head _, _, rfl, rfl, rfl⟩, .inr ⟨11, .tail _ (.head _), _, rfl, rfl, rfl⟩,  trivial⟩, trivial⟩, ⟨⟨.inr ⟨12, .head _, _, rfl, rfl, rfl⟩,  trivial⟩, trivial⟩, ⟨⟨.inl rfl, .inr ⟨13, .head _, _, rfl, rfl, rfl⟩,  trivial⟩, ⟨.inl rfl,  trivial⟩⟩, ⟨⟨.inr ⟨14, .tail _ (.head _), _, rfl, rfl, rfl⟩, .inr ⟨13, .head _, _, rfl, rfl, rfl⟩,  trivial⟩, ⟨.inl rfl,  trivial⟩⟩, ⟨⟨.inr ⟨15, .tail _ (.head _), _, rfl, rfl, rfl⟩, .inr ⟨13, .head _, _, rfl, rfl, rfl⟩,  trivial⟩, trivial⟩, ⟨⟨.inr ⟨13, .head _, _, rfl, rfl, rfl⟩, .inr ⟨16, .tail _ (.head _), _, rfl, rfl, rfl⟩,  trivial⟩, trivial⟩, ⟨⟨.inr ⟨17, .head _, _, rfl, rfl, rfl⟩,  trivial⟩, trivial⟩,  trivial⟩
            · exact ⟨⟨.inl rfl, .inl rfl, .inl rfl, .inl rfl, .inl rfl, .inl rfl, .inl rfl, .inl rfl, .inr ⟨18, _, rfl, rfl, rfl⟩,  trivial⟩, ⟨.inl rfl, .inl rfl,  trivial⟩⟩
            ·
              refine AL.nil ?_
              refine then_ok ?_
              refine AC.cond rfl (fun hc10 => ?_) (fun hc10 => ?_)
              ·
                have hc10' := hc10; try simp only [sumB, Bool.not_eq_true', Bool.not_eq_false', Bool.or_eq_true, Bool.or_eq_false_iff, Bool.and_eq_true, Bool.and_eq_false_imp, decide_eq_true_eq, decide_eq_false_iff_not, Bool.not_not, Bool.not_true, Bool.not_false] at hc10'
                refine AC.seq ?_
                refine AC.region ?_
                refine AL.fast 1 rfl ?_
                refine AL.val (Wanted.plain rfl) (g_build (ys := [(0, (.c (cI 2))), (1, (.c (cI (↑q : Int))))]) rfl bld47 rfl ⟨⟨rfl, rfl⟩, ⟨rfl, rfl⟩,  trivial⟩ rfl rfl) rfl rfl ?_
                refine AL.sto (h' := [(1, (.box 111 [(cI x1.account), (cI x1.sum)])), (0, (.box 47 [(cI 2), (cI (↑q : Int))]))]) (Wanted.plain rfl) (g_storeB rfl rfl rfl rfl rfl sz47 rfl (Nat.le_of_ble_eq_true rfl) rfl) rfl rfl rfl rfl ?_
                refine AL.nil ?_
                refine then_ok ?_
                refine AC.ret ?_
                refine block_ret ?_
                refine then_ret ?_
                refine block_ret ?_
                refine then_ret ?_
                refine then_ret ?_
                refine block_ret ?_
                refine then_ret ?_
                have hX : wrongB l = (⟨2, (↑q : Int)⟩ : Fault) := by
                  (have hb : ¬ badE x1 := by unfold badE; omega); (have h0 := scan_bad (e := bErr l) (q := q) (n := l.length) (by omega) (by rw [bErr_some hx1, if_neg hb, if_pos (by omega)]) (by decide : (2 : Int) ≠ 0)); (unfold wrongB; rw [hi0_1, h0]; rfl)
                rw [hX] at hr; clear hX
                subst hr
                refine retQ_mk (av' := outOf [(.g [(cI 2), (cI (↑q : Int))])]) (nb' := []) (retQ_ret ⟨[(2, (aC (.p 0 0 0 0)))], [(0, (.box 47 [(cI 2), (cI (↑q : Int))]))], 1⟩ [.cell 2 47] [(.g [(cI 2), (cI (↑q : Int))])] (Weak.ren id (⟨by first | rfl | (simp only [AV.map, GV.map, CV.map, AB.map', id]; done) | (congr 3; omega) | (congr 4; omega) | (simp only [List.length_append, List.length_cons, List.length_nil, List.length_set]; rfl),  trivial⟩) (⟨by first | rfl | (simp only [AV.map, GV.map, CV.map, AB.map', id]; done) | (congr 3; omega) | (congr 4; omega) | (simp only [List.length_append, List.length_cons, List.length_nil, List.length_set]; rfl),  trivial⟩) rfl) rfl ⟨.agg rfl rfl (fun _ => run_isAgg Try.underlying47) sz47, trivial⟩ trivial) ?_ ?_
                · first | rfl | (simp [outOf, aC]; done) | (simp [outOf, aC]; omega)
                · first | rfl | (simp; done) | (simp; omega)
              ·
                have hc10' := hc10; try simp only [sumB, Bool.not_eq_true', Bool.not_eq_false', Bool.or_eq_true, Bool.or_eq_false_iff, Bool.and_eq_true, Bool.and_eq_false_imp, decide_eq_true_eq, decide_eq_false_iff_not, Bool.not_not, Bool.not_true, Bool.not_false] at hc10'
                refine AC.skip ?_
                refine block_ok ?_
                refine then_ok ?_
                refine AC.region ?_
                refine AL.fast 1 rfl ?_
                refine AL.val (Wanted.plain rfl) (g_fieldP rfl rfl Try.underlying111 rfl sz3 (by decide)) rfl rfl ?_
                refine AL.val (Wanted.plain rfl) (g_loadB rfl rfl rfl Try.underlying3 rfl rfl) rfl rfl ?_
                refine AL.val (Wanted.plain rfl) (g_binI rfl rfl rfl (wrap_ok (by first | omega | (simp; done) | (simp; omega)))) rfl rfl ?_
                refine AL.fast 1 rfl ?_
                refine AL.nil ?_
                refine block_ok ?_
                refine then_ok ?_
                refine AC.region ?_
                refine AL.val (Wanted.plain rfl) (g_binI rfl rfl rfl (wrap_ok (by first | omega | (simp; done) | (simp; omega)))) rfl rfl ?_
                refine AL.fast 1 rfl ?_
                refine AL.nil ?_
                refine then_ok ?_
                refine ⟨q + 1, ⟨by omega, by rw [hi0_1]; exact scan_ok (by omega) (by have hla : lastA l q = -1 := (by unfold lastA; rw [if_pos (by omega)]); rw [bErr_some hx1, if_neg (by unfold badE; omega), if_neg (by omega)]), by rw [lastA_succ hx1]; have hla : lastA l q = -1 := (by unfold lastA; rw [if_pos (by omega)]); omega, by rw [lastA_succ hx1, sumE_take hx1]; omega⟩, by first | omega | (simp; done) | (simp; omega), Weak.ren id (⟨by first | rfl | (simp only [AV.map, GV.map, CV.map, AB.map', id]; done) | (congr 3; omega) | (congr 4; omega) | (simp only [List.length_append, List.length_cons, List.length_nil, List.length_set]; rfl) | (rw [sumE_take hx1]; rfl), by first | rfl | (simp only [AV.map, GV.map, CV.map, AB.map', id]; done) | (congr 3; omega) | (congr 4; omega) | (simp only [List.length_append, List.length_cons, List.length_nil, List.length_set]; rfl) | (rw [sumE_take hx1]; rfl), by first | rfl | (simp only [AV.map, GV.map, CV.map, AB.map', id]; done) | (congr 3; omega) | (congr 4; omega) | (simp only [List.length_append, List.length_cons, List.length_nil, List.length_set]; rfl) | (rw [sumE_take hx1]; rfl), by first | rfl | (simp only [AV.map, GV.map, CV.map, AB.map', id]; done) | (congr 3; omega) | (congr 4; omega) | (simp only [List.length_append, List.length_cons, List.length_nil, List.length_set]; rfl) | (rw [sumE_take hx1]; rfl), by first | rfl | (simp only [AV.map, GV.map, CV.map, AB.map', id]; done) | (congr 3; omega) | (congr 4; omega) | (simp only [List.length_append, List.length_cons, List.length_nil, List.length_set]; rfl) | (rw [sumE_take hx1]; rfl), by first | rfl | (simp only [AV.map, GV.map, CV.map, AB.map', id]; done) | (congr 3; omega) | (congr 4; omega) | (simp only [List.length_append, List.length_cons, List.length_nil, List.length_set]; rfl) | (rw [sumE_take hx1]; rfl),  trivial⟩) (⟨by first | rfl | (simp only [AV.map, GV.map, CV.map, AB.map', id]; done) | (congr 3; omega) | (congr 4; omega) | (simp only [List.length_append, List.length_cons, List.length_nil, List.length_set]; rfl),  trivial⟩) rfl⟩
    ·
      have hc1' := hc1; try simp only [sumB, Bool.not_eq_true', Bool.not_eq_false', Bool.or_eq_true, Bool.or_eq_false_iff, Bool.and_eq_true, Bool.and_eq_false_imp, decide_eq_true_eq, decide_eq_false_iff_not, Bool.not_not, Bool.not_true, Bool.not_false] at hc1'
      refine AC.exit ?_
      refine then_exit ?_
      refine then_exit ?_
      refine block_hit ?_
      refine then_ok ?_
      refine AC.seq ?_
      refine AC.seq ?_
      refine AC.region ?_
      refine AL.fast 1 rfl ?_
      refine AL.val (Wanted.plain rfl) (g_binI rfl rfl rfl rfl) rfl rfl ?_
      refine AL.nil ?_
      refine then_ok ?_
      refine AC.cond rfl (fun hc11 => ?_) (fun hc11 => ?_)
      ·
        have hc11' := hc11; try simp only [sumB, Bool.not_eq_true', Bool.not_eq_false', Bool.or_eq_true, Bool.or_eq_false_iff, Bool.and_eq_true, Bool.and_eq_false_imp, decide_eq_true_eq, decide_eq_false_iff_not, Bool.not_not, Bool.not_true, Bool.not_false] at hc11'
        refine AC.seq ?_
        refine AC.region ?_
        refine AL.val (Wanted.plain rfl) (g_build (ys := [(0, (.c (cI 8)))]) rfl bld47 rfl ⟨⟨rfl, rfl⟩,  trivial⟩ rfl rfl) rfl rfl ?_
        refine AL.sto (h' := [(0, (.box 47 [(cI 8), (cI 0)]))]) (Wanted.plain rfl) (g_storeB rfl rfl rfl rfl rfl sz47 rfl (Nat.le_of_ble_eq_true rfl) rfl) rfl rfl rfl rfl ?_
        refine AL.nil ?_
        refine then_ok ?_
        refine AC.ret ?_
        refine then_ret ?_
        have hX : wrongB l = (⟨8, 0⟩ : Fault) := by
          (obtain rfl : q = l.length := by omega); rw [List.take_length] at *; (unfold wrongB; rw [hi0_1, scan_end (by omega)]; rw [if_neg (by decide), if_pos (by omega)])
        rw [hX] at hr; clear hX
        subst hr
        refine retQ_mk (av' := outOf [(.g [(cI 8), (cI 0)])]) (nb' := []) (retQ_ret ⟨[(2, (aC (.p 0 0 0 0)))], [(0, (.box 47 [(cI 8), (cI 0)]))], 1⟩ [.cell 2 47] [(.g [(cI 8), (cI 0)])] (Weak.ren id (⟨by first | rfl | (simp only [AV.map, GV.map, CV.map, AB.map', id]; done) | (congr 3; omega) | (congr 4; omega) | (simp only [List.length_append, List.length_cons, List.length_nil, List.length_set]; rfl),  trivial⟩) (⟨by first | rfl | (simp only [AV.map, GV.map, CV.map, AB.map', id]; done) | (congr 3; omega) | (congr 4; omega) | (simp only [List.length_append, List.length_cons, List.length_nil, List.length_set]; rfl),  trivial⟩) rfl) rfl ⟨.agg rfl rfl (fun _ => run_isAgg Try.underlying47) sz47, trivial⟩ trivial) ?_ ?_
        · first | rfl | (simp [outOf, aC]; done) | (simp [outOf, aC]; omega)
        · first | rfl | (simp; done) | (simp; omega)
      ·
        have hc11' := hc11; try simp only [sumB, Bool.not_eq_true', Bool.not_eq_false', Bool.or_eq_true, Bool.or_eq_false_iff, Bool.and_eq_true, Bool.and_eq_false_imp, decide_eq_true_eq, decide_eq_false_iff_not, Bool.not_not, Bool.not_true, Bool.not_false] at hc11'
        refine AC.skip ?_
        refine then_ok ?_
        refine AC.seq ?_
        refine AC.region ?_
        refine AL.val (Wanted.plain rfl) (g_build (ys := []) rfl bld47 rfl trivial rfl rfl) rfl rfl ?_
        refine AL.sto (h' := [(0, (.box 47 [(cI 0), (cI 0)]))]) (Wanted.plain rfl) (g_storeB rfl rfl rfl rfl rfl sz47 rfl (Nat.le_of_ble_eq_true rfl) rfl) rfl rfl rfl rfl ?_
        refine AL.nil ?_
        refine then_ok ?_
        refine AC.ret ?_
        have hX : wrongB l = (⟨0, 0⟩ : Fault) := by
          (obtain rfl : q = l.length := by omega); rw [List.take_length] at *; (unfold wrongB; rw [hi0_1, scan_end (by omega)]; rw [if_neg (by decide), if_neg (by omega)])
        rw [hX] at hr; clear hX
        subst hr
        refine retQ_mk (av' := outOf [(.g [(cI 0), (cI 0)])]) (nb' := []) (retQ_ret ⟨[(2, (aC (.p 0 0 0 0)))], [(0, (.box 47 [(cI 0), (cI 0)]))], 1⟩ [.cell 2 47] [(.g [(cI 0), (cI 0)])] (Weak.ren id (⟨by first | rfl | (simp only [AV.map, GV.map, CV.map, AB.map', id]; done) | (congr 3; omega) | (congr 4; omega) | (simp only [List.length_append, List.length_cons, List.length_nil, List.length_set]; rfl),  trivial⟩) (⟨by first | rfl | (simp only [AV.map, GV.map, CV.map, AB.map', id]; done) | (congr 3; omega) | (congr 4; omega) | (simp only [List.length_append, List.length_cons, List.length_nil, List.length_set]; rfl),  trivial⟩) rfl) rfl ⟨.agg rfl rfl (fun _ => run_isAgg Try.underlying47) sz47, trivial⟩ trivial) ?_ ?_
        · first | rfl | (simp [outOf, aC]; done) | (simp [outOf, aC]; omega)
        · first | rfl | (simp; done) | (simp; omega)
set_option maxRecDepth 100000 in
set_option maxHeartbeats 1000000 in
theorem c_ref_Wrong (l : List Entry) (f : Fault) (hr : wrongB l = f) : Fn Try.prog 80 [(.c (cR 2 ((l).map rEntry)))] (.v (.g [(cI f.err), (cI f.at_)])) [] := by
  refine Fn.mk' 62 [(0, (aC (cR 2 ((l).map rEntry))))] Try.func80 rfl rfl rfl rfl ?_
  intro W0 T0
  refine AC.len1 0 rfl (fun hlen0 => ?_)
  refine AC.seq ?_
  refine AC.region ?_
  refine AL.new (n' := 1) (Wanted.plain rfl) (g_alloc 0 rfl zv47 rfl rfl rfl) rfl rfl rfl ?_
  refine AL.nil ?_
  refine then_ok ?_
  refine AC.seq ?_
  refine AC.region ?_
  refine AL.fast 1 rfl ?_
  refine AL.nil ?_
  refine then_ok ?_
  refine AC.seq ?_
  refine AC.seq ?_
  refine AC.region ?_
  refine AL.fast 1 rfl ?_
  refine AL.val (Wanted.plain rfl) (g_lenM rfl rfl rfl rfl rfl Try.underlying102) rfl rfl ?_
  refine AL.fast 1 rfl ?_
  refine AL.nil ?_
  refine then_ok ?_
  refine AC.block ?_
  refine AC.loop (β := Nat) (fun (q : Nat) => ⟨[(0, (aC (cR 2 ((l).map rEntry)))), (2, (aC (.p 0 0 0 0))), (3, (aI (sumE (l.take q)))), (6, (aC (cR 2 ((l).map rEntry)))), (7, (aI (↑l.length : Int))), (8, (aI (↑q : Int)))], [(0, (.box 47 [(cI 0), (cI 0)]))], 1⟩) (fun (q : Nat) => q ≤ l.length ∧ scan (bErr l) 0 l.length = scan (bErr l) q (l.length - q) ∧ (q : Int) - 1 ≤ lastA l q ∧ lastA l q ≤ 57 ∧ -1000000000000 * (q : Int) ≤ sumE (l.take q) ∧ sumE (l.take q) ≤ 1000000000000 * (q : Int)) (fun (q : Nat) => l.length - q) 0 ?_ ?_ ?_
  · (have h1 : lastA l 0 = -1 := rfl); (have h2 : sumE (l.take 0) = 0 := rfl); exact ⟨by omega, rfl, by omega, by omega⟩
  · exact Weak.ren id (⟨by first | rfl | (simp only [AV.map, GV.map, CV.map, AB.map', id]; done) | (congr 3; omega) | (congr 4; omega) | (simp only [List.length_append, List.length_cons, List.length_nil, List.length_set]; rfl), by first | rfl | (simp only [AV.map, GV.map, CV.map, AB.map', id]; done) | (congr 3; omega) | (congr 4; omega) | (simp only [List.length_append, List.length_cons, List.length_nil, List.length_set]; rfl), by first | rfl | (simp only [AV.map, GV.map, CV.map, AB.map', id]; done) | (congr 3; omega) | (congr 4; omega) | (simp only [List.length_append, List.length_cons, List.length_nil, List.length_set]; rfl), by first | rfl | (simp only [AV.map, GV.map, CV.map, AB.map', id]; done) | (congr 3; omega) | (congr 4; omega) | (simp only [List.length_append, List.length_cons, List.length_nil, List.length_set]; rfl), by first | rfl | (simp only [AV.map, GV.map, CV.map, AB.map', id]; done) | (congr 3; omega) | (congr 4; omega) | (simp only [List.length_append, List.length_cons, List.length_nil, List.length_set]; rfl), by first | rfl | (simp only [AV.map, GV.map, CV.map, AB.map', id]; done) | (congr 3; omega) | (congr 4; omega) | (simp only [List.length_append, List.length_cons, List.length_nil, List.length_set]; rfl),  trivial⟩) (⟨by first | rfl | (simp only [AV.map, GV.map, CV.map, AB.map', id]; done) | (congr 3; omega) | (congr 4; omega) | (simp only [List.length_append, List.length_cons, List.length_nil, List.length_set]; rfl),  trivial⟩) rfl
  ·
    rintro q ⟨hi0_0, hi0_1, hi0_2, hi0_3⟩
    refine AC.seq ?_
    refine AC.region ?_
    refine AL.val (Wanted.plain rfl) (g_binI rfl rfl rfl rfl) rfl rfl ?_
    refine AL.nil ?_
    refine then_ok ?_
    refine AC.seq ?_
    refine AC.cond rfl (fun hc1 => ?_) (fun hc1 => ?_)
    ·
      have hc1' := hc1; try simp only [sumB, Bool.not_eq_true', Bool.not_eq_false', Bool.or_eq_true, Bool.or_eq_false_iff, Bool.and_eq_true, Bool.and_eq_false_imp, decide_eq_true_eq, decide_eq_false_iff_not, Bool.not_not, Bool.not_true, Bool.not_false] at hc1'
      refine AC.skip ?_
      refine then_ok ?_
      refine AC.seq ?_
      refine AC.block ?_
      refine AC.seq ?_
      refine AC.region ?_
      refine AL.fast 1 rfl ?_
      obtain ⟨x1, hx1⟩ := exget (xs := l) (i := q) (by first | omega | (simp; done) | (simp; omega))
      refine AL.val (Wanted.plain rfl) (g_indexQ (i := q) rfl rfl rfl Try.underlying102 sz111 (by first | omega | (simp; done) | (simp; omega)) (getmap hx1)) rfl rfl ?_
      refine AL.val (Wanted.plain rfl) (g_loadQs rfl rfl Try.underlying111 rfl sz111 rfl rfl) rfl rfl ?_
      refine AL.new (n' := 2) (Wanted.plain rfl) (g_alloc 1 rfl zv111 rfl rfl rfl) rfl rfl rfl ?_
      refine AL.fast 1 rfl ?_
      refine AL.sto (h' := [(1, (.box 111 [(cI x1.account), (cI x1.sum)])), (0, (.box 47 [(cI 0), (cI 0)]))]) (Wanted.plain rfl) (g_storeB rfl rfl rfl rfl rfl sz111 rfl (Nat.le_of_ble_eq_true rfl) rfl) rfl rfl rfl rfl ?_
      refine AL.nil ?_
      refine then_ok ?_
      refine AC.seq ?_
      refine AC.cutB 30 ((((decide (x1.account < 0)) || (decide (x1.account > 57))) || (decide (x1.sum > 1000000000000))) || (decide (x1.sum < (-1000000000000)))) ?_ ?_
      ·
        refine AC.region ?_
        refine AL.val (Wanted.plain rfl) (g_fieldP rfl rfl Try.underlying111 rfl sz3 (by decide)) rfl rfl ?_
        refine AL.val (Wanted.plain rfl) (g_loadB rfl rfl rfl Try.underlying3 rfl rfl) rfl rfl ?_
        refine AL.val (Wanted.plain rfl) (g_binI rfl rfl rfl rfl) rfl rfl ?_
        refine AL.fast 1 rfl ?_
        refine AL.dec (t := 16) rfl (fun hb2 => ?_) (fun hb2 => ?_)
        ·
          have hb2' := hb2; try simp only [sumB, Bool.not_eq_true', Bool.not_eq_false', Bool.or_eq_true, Bool.or_eq_false_iff, Bool.and_eq_true, Bool.and_eq_false_imp, decide_eq_true_eq, decide_eq_false_iff_not, Bool.not_not, Bool.not_true, Bool.not_false] at hb2'
          refine AL.fast 14 rfl ?_
          refine AL.nil ?_
          refine then_ok ?_
          exact Weak.popB 19 rfl rfl (by first | (simp [hb2]; done) | (simp_all; done) | (exfalso; simp_all; done) | (simp_all; omega)) rfl
        ·
          have hb2' := hb2; try simp only [sumB, Bool.not_eq_true', Bool.not_eq_false', Bool.or_eq_true, Bool.or_eq_false_iff, Bool.and_eq_true, Bool.and_eq_false_imp, decide_eq_true_eq, decide_eq_false_iff_not, Bool.not_not, Bool.not_true, Bool.not_false] at hb2'
          refine AL.val (Wanted.yes rfl rfl rfl) (g_fieldP rfl rfl Try.underlying111 rfl sz3 (by decide)) rfl rfl ?_
          refine AL.val (Wanted.yes rfl rfl rfl) (g_loadB rfl rfl rfl Try.underlying3 rfl rfl) rfl rfl ?_
          refine AL.val (Wanted.yes rfl rfl rfl) (g_binI rfl rfl rfl rfl) rfl rfl ?_
          refine AL.fast 2 rfl ?_
          refine AL.dec (t := 21) rfl (fun hb3 => ?_) (fun hb3 => ?_)
          ·
            have hb3' := hb3; try simp only [sumB, Bool.not_eq_true', Bool.not_eq_false', Bool.or_eq_true, Bool.or_eq_false_iff, Bool.and_eq_true, Bool.and_eq_false_imp, decide_eq_true_eq, decide_eq_false_iff_not, Bool.not_not, Bool.not_true, Bool.not_false] at hb3'
            refine AL.fast 9 rfl ?_
            refine AL.nil ?_
            refine then_ok ?_
            exact Weak.popB 20 rfl rfl (by first | (simp [hb2, hb3]; done) | (simp_all; done) | (exfalso; simp_all; done) | (simp_all; omega)) rfl
          ·
            have hb3' := hb3; try simp only [sumB, Bool.not_eq_true', Bool.not_eq_false', Bool.or_eq_true, Bool.or_eq_false_iff, Bool.and_eq_true, Bool.and_eq_false_imp, decide_eq_true_eq, decide_eq_false_iff_not, Bool.not_not, Bool.not_true, Bool.not_false] at hb3'
            refine AL.val (Wanted.yes rfl rfl rfl) (g_fieldP rfl rfl Try.underlying111 rfl sz3 (by decide)) rfl rfl ?_
            refine AL.val (Wanted.yes rfl rfl rfl) (g_loadB rfl rfl rfl Try.underlying3 rfl rfl) rfl rfl ?_
            refine AL.val (Wanted.yes rfl rfl rfl) (g_binI rfl rfl rfl rfl) rfl rfl ?_
            refine AL.fast 2 rfl ?_
            refine AL.dec (t := 26) rfl (fun hb4 => ?_) (fun hb4 => ?_)
            ·
              have hb4' := hb4; try simp only [sumB, Bool.not_eq_true', Bool.not_eq_false', Bool.or_eq_true, Bool.or_eq_false_iff, Bool.and_eq_true, Bool.and_eq_false_imp, decide_eq_true_eq, decide_eq_false_iff_not, Bool.not_not, Bool.not_true, Bool.not_false] at hb4'
              refine AL.fast 4 rfl ?_
              refine AL.nil ?_
              refine then_ok ?_
              exact Weak.popB 21 rfl rfl (by first | (simp [hb2, hb3, hb4]; done) | (simp_all; done) | (exfalso; simp_all; done) | (simp_all; omega)) rfl
            ·
              have hb4' := hb4; try simp only [sumB, Bool.not_eq_true', Bool.not_eq_false', Bool.or_eq_true, Bool.or_eq_false_iff, Bool.and_eq_true, Bool.and_eq_false_imp, decide_eq_true_eq, decide_eq_false_iff_not, Bool.not_not, Bool.not_true, Bool.not_false] at hb4'
              refine AL.val (Wanted.yes rfl rfl rfl) (g_fieldP rfl rfl Try.underlying111 rfl sz3 (by decide)) rfl rfl ?_
              refine AL.val (Wanted.yes rfl rfl rfl) (g_loadB rfl rfl rfl Try.underlying3 rfl rfl) rfl rfl ?_
              refine AL.val (Wanted.yes rfl rfl rfl) (g_binI rfl rfl rfl rfl) rfl rfl ?_
              refine AL.fast 1 rfl ?_
              refine AL.nil ?_
              refine then_ok ?_
              exact Weak.popB 21 rfl rfl (by first | (simp [hb2, hb3, hb4]; done) | (simp_all; done) | (exfalso; simp_all; done) | (simp_all; omega)) rfl
      ·
        refine AC.cond rfl (fun hc5 => ?_) (fun hc5 => ?_)
        ·
          have hc5' := hc5; try simp only [sumB, Bool.not_eq_true', Bool.not_eq_false', Bool.or_eq_true, Bool.or_eq_false_iff, Bool.and_eq_true, Bool.and_eq_false_imp, decide_eq_true_eq, decide_eq_false_iff_not, Bool.not_not, Bool.not_true, Bool.not_false] at hc5'
          refine AC.seq ?_
          refine AC.region ?_
          refine AL.fast 1 rfl ?_
          refine AL.val (Wanted.plain rfl) (g_build (ys := [(0, (.c (cI 3))), (1, (.c (cI (↑q : Int))))]) rfl bld47 rfl ⟨⟨rfl, rfl⟩, ⟨rfl, rfl⟩,  trivial⟩ rfl rfl) rfl rfl ?_
          refine AL.sto (h' := [(1, (.box 111 [(cI x1.account), (cI x1.sum)])), (0, (.box 47 [(cI 3), (cI (↑q : Int))]))]) (Wanted.plain rfl) (g_storeB rfl rfl rfl rfl rfl sz47 rfl (Nat.le_of_ble_eq_true rfl) rfl) rfl rfl rfl rfl ?_
          refine AL.nil ?_
          refine then_ok ?_
          refine AC.ret ?_
          refine then_ret ?_
          refine block_ret ?_
          refine then_ret ?_
          refine then_ret ?_
          refine block_ret ?_
          refine then_ret ?_
          have hX : wrongB l = (⟨3, (↑q : Int)⟩ : Fault) := by
            (have hb : badE x1 := by unfold badE; omega); (have h0 := scan_bad (e := bErr l) (q := q) (n := l.length) (by omega) (by rw [bErr_some hx1, if_pos hb]) (by decide : (3 : Int) ≠ 0)); (unfold wrongB; rw [hi0_1, h0]; rfl)
          rw [hX] at hr; clear hX
          subst hr
          refine retQ_mk (av' := outOf [(.g [(cI 3), (cI (↑q : Int))])]) (nb' := []) (retQ_ret ⟨[(2, (aC (.p 0 0 0 0)))], [(0, (.box 47 [(cI 3), (cI (↑q : Int))]))], 1⟩ [.cell 2 47] [(.g [(cI 3), (cI (↑q : Int))])] (Weak.ren id (⟨by first | rfl | (simp only [AV.map, GV.map, CV.map, AB.map', id]; done) | (congr 3; omega) | (congr 4; omega) | (simp only [List.length_append, List.length_cons, List.length_nil, List.length_set]; rfl),  trivial⟩) (⟨by first | rfl | (simp only [AV.map, GV.map, CV.map, AB.map', id]; done) | (congr 3; omega) | (congr 4; omega) | (simp only [List.length_append, List.length_cons, List.length_nil, List.length_set]; rfl),  trivial⟩) rfl) rfl ⟨.agg rfl rfl (fun _ => run_isAgg Try.underlying47) sz47, trivial⟩ trivial) ?_ ?_
          · first | rfl | (simp [outOf, aC]; done) | (simp [outOf, aC]; omega)
          · first | rfl | (simp; done) | (simp; omega)
        ·
          have hc5' := hc5; try simp only [sumB, Bool.not_eq_true', Bool.not_eq_false', Bool.or_eq_true, Bool.or_eq_false_iff, Bool.and_eq_true, Bool.and_eq_false_imp, decide_eq_true_eq, decide_eq_false_iff_not, Bool.not_not, Bool.not_true, Bool.not_false] at hc5'
          refine AC.skip ?_
          refine then_ok ?_
          refine AC.seq ?_
          refine AC.seq ?_
          rcases Bool.eq_false_or_eq_true (decide (x1.sum = 0)) with hb6 | hb6
          ·
            have hb6' := hb6; try simp only [sumB, Bool.not_eq_true', Bool.not_eq_false', Bool.or_eq_true, Bool.or_eq_false_iff, Bool.and_eq_true, Bool.and_eq_false_imp, decide_eq_true_eq, decide_eq_false_iff_not, Bool.not_not, Bool.not_true, Bool.not_false] at hb6'
            refine AC.weak (st' := ⟨[(0, (aC (cR 2 ((l).map rEntry)))), (2, (aC (.p 0 0 0 0))), (3, (aI (sumE (l.take q)))), (6, (aC (cR 2 ((l).map rEntry)))), (7, (aI (↑l.length : Int))), (8, (aI (↑q : Int))), (5, (aC (.p 1 0 0 0))), (4, (aI (↑q : Int)))], [(1, (.box 111 [(cI x1.account), (cI x1.sum)])), (0, (.box 47 [(cI 0), (cI 0)]))], 2⟩) (Weak.ren id (⟨by first | rfl | (simp only [AV.map, GV.map, CV.map, AB.map', id]; done) | (congr 3; omega) | (congr 4; omega) | (simp only [List.length_append, List.length_cons, List.length_nil, List.length_set]; rfl), by first | rfl | (simp only [AV.map, GV.map, CV.map, AB.map', id]; done) | (congr 3; omega) | (congr 4; omega) | (simp only [List.length_append, List.length_cons, List.length_nil, List.length_set]; rfl), by first | rfl | (simp only [AV.map, GV.map, CV.map, AB.map', id]; done) | (congr 3; omega) | (congr 4; omega) | (simp only [List.length_append, List.length_cons, List.length_nil, List.length_set]; rfl), by first | rfl | (simp only [AV.map, GV.map, CV.map, AB.map', id]; done) | (congr 3; omega) | (congr 4; omega) | (simp only [List.length_append, List.length_cons, List.length_nil, List.length_set]; rfl), by first | rfl | (simp only [AV.map, GV.map, CV.map, AB.map', id]; done) | (congr 3; omega) | (congr 4; omega) | (simp only [List.length_append, List.length_cons, List.length_nil, List.length_set]; rfl), by first | rfl | (simp only [AV.map, GV.map, CV.map, AB.map', id]; done) | (congr 3; omega) | (congr 4; omega) | (simp only [List.length_append, List.length_cons, List.length_nil, List.length_set]; rfl), by first | rfl | (simp only [AV.map, GV.map, CV.map, AB.map', id]; done) | (congr 3; omega) | (congr 4; omega) | (simp only [List.length_append, List.length_cons, List.length_nil, List.length_set]; rfl), by first | rfl | (simp only [AV.map, GV.map, CV.map, AB.map', id]; done) | (congr 3; omega) | (congr 4; omega) | (simp only [List.length_append, List.length_cons, List.length_nil, List.length_set]; rfl),  trivial⟩) (⟨by first | rfl | (simp only [AV.map, GV.map, CV.map, AB.map', id]; done) | (congr 3; omega) | (congr 4; omega) | (simp only [List.length_append, List.length_cons, List.length_nil, List.length_set]; rfl), by first | rfl | (simp only [AV.map, GV.map, CV.map, AB.map', id]; done) | (congr 3; omega) | (congr 4; omega) | (simp only [List.length_append, List.length_cons, List.length_nil, List.length_set]; rfl),  trivial⟩) rfl) ?_
            refine AC.draw [⟨some 33, (aC (.p 1 0 0 1)), [], [], [], [(5, (aC (.p 1 0 0 0)))], [(1, (.box 111 [(cI x1.account), (cI x1.sum)]))]⟩,
      ⟨some 34, (aI x1.sum), [], [], [0], [(33, (aC (.p 1 0 0 1)))], [(1, (.box 111 [(cI x1.account), (cI x1.sum)]))]⟩,
      ⟨some 35, (aB true), [], [], [1], [(34, (aI x1.sum))], []⟩,
      ⟨some 36, (aB true), [], [], [2], [(35, (aB true))], []⟩,
      ⟨some 37, (.t []), [], [], [3], [(4, (aI (↑q : Int))), (36, (aB true))], []⟩,
      ⟨some 38, (.t []), [], [], [3, 4], [(37, (.t [])), (36, (aB true))], []⟩,
      ⟨some 39, (.t []), [], [], [3, 5], [(38, (.t [])), (36, (aB true))], []⟩,
      ⟨some 40, (.t []), [], [], [6], [(5, (aC (.p 1 0 0 0))), (39, (.t []))], []⟩,
      ⟨some 41, (.t []), [], [], [6, 7], [(40, (.t [])), (39, (.t []))], []⟩,
      ⟨some 42, (.t []), [], [], [6], [(0, (aC (cR 2 ((l).map rEntry)))), (39, (.t []))], []⟩,
      ⟨some 43, (.t []), [], [], [6], [(4, (aI (↑q : Int))), (39, (.t []))], []⟩,
      ⟨some 44, (.t []), [], [], [6, 10], [(43, (.t [])), (39, (.t []))], []⟩,
      ⟨some 45, (.t []), [], [], [6, 9, 11], [(42, (.t [])), (44, (.t [])), (39, (.t []))], []⟩,
      ⟨some 46, (.t []), [], [], [6, 12], [(45, (.t [])), (39, (.t []))], []⟩,
      ⟨some 47, (.t []), [], [], [6, 13], [(46, (.t [])), (39, (.t []))], []⟩,
      ⟨some 48, (.t []), [], [], [6, 8, 14], [(41, (.t [])), (47, (.t [])), (39, (.t []))], []⟩,
      ⟨some 49, (.t []), [], [], [3, 6, 15], [(39, (.t [])), (48, (.t [])), (36, (aB true))], []⟩,
      ⟨some 50, (aB true), [], [], [3, 16], [(36, (aB true)), (49, (.t []))], []⟩] ⟨[(0, (aC (cR 2 ((l).map rEntry)))), (2, (aC (.p 0 0 0 0))), (3, (aI (sumE (l.take q)))), (6, (aC (cR 2 ((l).map rEntry)))), (7, (aI (↑l.length : Int))), (8, (aI (↑q : Int))), (5, (aC (.p 1 0 0 0))), (4, (aI (↑q : Int))), (50, (aB true))], [(1, (.box 111 [(cI x1.account), (cI x1.sum)])), (0, (.box 47 [(cI 0), (cI 0)]))], 2⟩ mixed (by kernel_rfl) ?_ ?_ ?_ ?_
            · exact ⟨.inl ⟨(Wanted.plain rfl), GOp.cast (g_fieldP rfl rfl Try.underlying111 rfl sz3 (by decide)) rfl⟩,
      .inl ⟨(Wanted.plain rfl), GOp.cast (g_loadB rfl rfl rfl Try.underlying3 rfl rfl) rfl⟩,
      .inl ⟨(Wanted.plain rfl), GOp.cast (g_binI rfl rfl rfl (congrArg (fun b => some (Value.bool b)) hb6)) rfl⟩,
      .inl ⟨(Wanted.plain rfl), GOp.cast (g_move rfl rfl) rfl⟩,
      .inr ⟨(Unwanted.no rfl rfl rfl), rfl, rfl, rfl⟩,
      .inr ⟨(Unwanted.no rfl rfl rfl), rfl, rfl, rfl⟩,
      .inr ⟨(Unwanted.no rfl rfl rfl), rfl, rfl, rfl⟩,
      .inr ⟨(Unwanted.un rfl rfl rfl), rfl, rfl, rfl⟩,
      .inr ⟨(Unwanted.un rfl rfl rfl), rfl, rfl, rfl⟩,
      .inr ⟨(Unwanted.un rfl rfl rfl), rfl, rfl, rfl⟩,
      .inr ⟨(Unwanted.un rfl rfl rfl), rfl, rfl, rfl⟩,
      .inr ⟨(Unwanted.un rfl rfl rfl), rfl, rfl, rfl⟩,
      .inr ⟨(Unwanted.un rfl rfl rfl), rfl, rfl, rfl⟩,
      .inr ⟨(Unwanted.un rfl rfl rfl), rfl, rfl, rfl⟩,
      .inr ⟨(Unwanted.un rfl rfl rfl), rfl, rfl, rfl⟩,
      .inr ⟨(Unwanted.un rfl rfl rfl), rfl, rfl, rfl⟩,
      .inr ⟨(Unwanted.no rfl rfl rfl), rfl, rfl, rfl⟩,
      .inl ⟨(Wanted.plain rfl), GOp.cast (g_pick rfl rfl rfl) rfl⟩,
       trivial⟩
            · exact ⟨⟨⟨.inl rfl,  trivial⟩, ⟨.inl rfl,  trivial⟩⟩, ⟨⟨.inr ⟨0, .head _, _, rfl, rfl, rfl⟩,  trivial⟩, ⟨.inl rfl,  trivial⟩⟩, ⟨⟨.inr ⟨1, .head _, _, rfl, rfl, rfl⟩,  trivial⟩, trivial⟩, ⟨⟨.inr ⟨2, .head _, _, rfl, rfl, rfl⟩,  trivial⟩, trivial⟩, ⟨⟨.inl rfl, .inr ⟨3, .head _, _, rfl, rfl, rfl⟩,  trivial⟩, trivial⟩, ⟨⟨.inr ⟨4, .tail _ (.head _), _, rfl, rfl, rfl⟩, .inr ⟨3, .head _, _, rfl, rfl, rfl⟩,  trivial⟩, trivial⟩, ⟨⟨.inr ⟨5, .tail _ (.head _), _, rfl, rfl, rfl⟩, .inr ⟨3, .head _, _, rfl, rfl, rfl⟩,  trivial⟩, trivial⟩, ⟨⟨.inl rfl, .inr ⟨6, .head _, _, rfl, rfl, rfl⟩,  trivial⟩, trivial⟩, ⟨⟨.inr ⟨7, .tail _ (.head _), _, rfl, rfl, rfl⟩, .inr ⟨6, .head _, _, rfl, rfl, rfl⟩,  trivial⟩, trivial⟩, ⟨⟨.inl rfl, .inr ⟨6, .head _, _, rfl, rfl, rfl⟩,  trivial⟩, trivial⟩, ⟨⟨.inl rfl, .inr ⟨6, .head _, _, rfl, rfl, rfl⟩,  trivial⟩, trivial⟩, ⟨⟨.inr ⟨10, .tail _ (.head _), _, rfl, rfl, rfl⟩, .inr ⟨6, .head _, _, rfl, rfl, rfl⟩,  trivial⟩, trivial⟩, ⟨⟨.inr ⟨9, .tail _ (.head _), _, rfl, rfl, rfl⟩, .inr ⟨11, .tail _ (.tail _ (.head _)), _, rfl, rfl, rfl⟩, .inr ⟨6, .head _, _, rfl, rfl, rfl⟩,  trivial⟩, trivial⟩, ⟨⟨.inr ⟨12, .tail _ (.head _), _, rfl, rfl, rfl⟩, .inr ⟨6, .head _, _, rfl, rfl, rfl⟩,  trivial⟩, trivial⟩, ⟨⟨.inr ⟨13, .tail _ (.head _), _, rfl, rfl, rfl⟩, .inr ⟨6, .head _, _, rfl, rfl, rfl⟩,  trivial⟩, trivial⟩, ⟨⟨.inr ⟨8, .tail _ (.head _), _, rfl, rfl, rfl⟩, .inr ⟨14, .tail _ (.tail _ (.head _)), _, rfl, rfl, rfl⟩, .inr ⟨6, .head _, _, rfl, rfl, rfl⟩,  trivial⟩, trivial⟩, ⟨⟨.inr ⟨6, .tail _ (.head _), _, rfl, rfl, rfl⟩, .inr ⟨15, .tail _ (.tail _ (.head _)), _, rfl, rfl, rfl⟩, .inr ⟨3, .head _, _, rfl, rfl, rfl⟩,  trivial⟩, trivial⟩, ⟨⟨.inr ⟨3, .head _, _, rfl, rfl, rfl⟩, .inr ⟨16, .tail _ (.head _), _, rfl, rfl, rfl⟩,  trivial⟩, trivial⟩,  trivial⟩
            · exact ⟨⟨.inl rfl, .inl rfl, .inl rfl, .inl rfl, .inl rfl, .inl rfl, .inl rfl, .inl rfl, .inr ⟨17, _, rfl, rfl, rfl⟩,  trivial⟩, ⟨.inl rfl, .inl rfl,  trivial⟩⟩
            ·
              refine AL.nil ?_
              refine then_ok ?_
              refine AC.cond rfl (fun _ => ?_) (fun hno => by cases hno)
              refine AC.seq ?_
              refine AC.region ?_
              refine AL.fast 1 rfl ?_
              refine AL.val (Wanted.plain rfl) (g_build (ys := [(0, (.c (cI 2))), (1, (.c (cI (↑q : Int))))]) rfl bld47 rfl ⟨⟨rfl, rfl⟩, ⟨rfl, rfl⟩,  trivial⟩ rfl rfl) rfl rfl ?_
              refine AL.sto (h' := [(1, (.box 111 [(cI x1.account), (cI x1.sum)])), (0, (.box 47 [(cI 2), (cI (↑q : Int))]))]) (Wanted.plain rfl) (g_storeB rfl rfl rfl rfl rfl sz47 rfl (Nat.le_of_ble_eq_true rfl) rfl) rfl rfl rfl rfl ?_
              refine AL.nil ?_
              refine then_ok ?_
              refine AC.ret ?_
              refine then_ret ?_
              refine block_ret ?_
              refine then_ret ?_
              refine then_ret ?_
              refine block_ret ?_
              refine then_ret ?_
              have hX : wrongB l = (⟨2, (↑q : Int)⟩ : Fault) := by
                (have hb : ¬ badE x1 := by unfold badE; omega); (have h0 := scan_bad (e := bErr l) (q := q) (n := l.length) (by omega) (by rw [bErr_some hx1, if_neg hb, if_pos (by omega)]) (by decide : (2 : Int) ≠ 0)); (unfold wrongB; rw [hi0_1, h0]; rfl)
              rw [hX] at hr; clear hX
              subst hr
              refine retQ_mk (av' := outOf [(.g [(cI 2), (cI (↑q : Int))])]) (nb' := []) (retQ_ret ⟨[(2, (aC (.p 0 0 0 0)))], [(0, (.box 47 [(cI 2), (cI (↑q : Int))]))], 1⟩ [.cell 2 47] [(.g [(cI 2), (cI (↑q : Int))])] (Weak.ren id (⟨by first | rfl | (simp only [AV.map, GV.map, CV.map, AB.map', id]; done) | (congr 3; omega) | (congr 4; omega) | (simp only [List.length_append, List.length_cons, List.length_nil, List.length_set]; rfl),  trivial⟩) (⟨by first | rfl | (simp only [AV.map, GV.map, CV.map, AB.map', id]; done) | (congr 3; omega) | (congr 4; omega) | (simp only [List.length_append, List.length_cons, List.length_nil, List.length_set]; rfl),  trivial⟩) rfl) rfl ⟨.agg rfl rfl (fun _ => run_isAgg Try.underlying47) sz47, trivial⟩ trivial) ?_ ?_
              · first | rfl | (simp [outOf, aC]; done) | (simp [outOf, aC]; omega)
              · first | rfl | (simp; done) | (simp; omega)
          ·
            have hb6' := hb6; try simp only [sumB, Bool.not_eq_true', Bool.not_eq_false', Bool.or_eq_true, Bool.or_eq_false_iff, Bool.and_eq_true, Bool.and_eq_false_imp, decide_eq_true_eq, decide_eq_false_iff_not, Bool.not_not, Bool.not_true, Bool.not_false] at hb6'
            rcases Bool.eq_false_or_eq_true (decide ((↑q : Int) > 0)) with hb8 | hb8
            ·
              have hb8' := hb8; try simp only [sumB, Bool.not_eq_true', Bool.not_eq_false', Bool.or_eq_true, Bool.or_eq_false_iff, Bool.and_eq_true, Bool.and_eq_false_imp, decide_eq_true_eq, decide_eq_false_iff_not, Bool.not_not, Bool.not_true, Bool.not_false] at hb8'
              obtain ⟨x2, hx2⟩ := exget (xs := l) (i := (q) - 1) (by first | omega | (simp; done) | (simp; omega))
              refine AC.weak (st' := ⟨[(0, (aC (cR 2 ((l).map rEntry)))), (2, (aC (.p 0 0 0 0))), (3, (aI (sumE (l.take q)))), (6, (aC (cR 2 ((l).map rEntry)))), (7, (aI (↑l.length : Int))), (8, (aI (↑q : Int))), (5, (aC (.p 1 0 0 0))), (4, (aI (↑q : Int)))], [(1, (.box 111 [(cI x1.account), (cI x1.sum)])), (0, (.box 47 [(cI 0), (cI 0)]))], 2⟩) (Weak.ren id (⟨by first | rfl | (simp only [AV.map, GV.map, CV.map, AB.map', id]; done) | (congr 3; omega) | (congr 4; omega) | (simp only [List.length_append, List.length_cons, List.length_nil, List.length_set]; rfl), by first | rfl | (simp only [AV.map, GV.map, CV.map, AB.map', id]; done) | (congr 3; omega) | (congr 4; omega) | (simp only [List.length_append, List.length_cons, List.length_nil, List.length_set]; rfl), by first | rfl | (simp only [AV.map, GV.map, CV.map, AB.map', id]; done) | (congr 3; omega) | (congr 4; omega) | (simp only [List.length_append, List.length_cons, List.length_nil, List.length_set]; rfl), by first | rfl | (simp only [AV.map, GV.map, CV.map, AB.map', id]; done) | (congr 3; omega) | (congr 4; omega) | (simp only [List.length_append, List.length_cons, List.length_nil, List.length_set]; rfl), by first | rfl | (simp only [AV.map, GV.map, CV.map, AB.map', id]; done) | (congr 3; omega) | (congr 4; omega) | (simp only [List.length_append, List.length_cons, List.length_nil, List.length_set]; rfl), by first | rfl | (simp only [AV.map, GV.map, CV.map, AB.map', id]; done) | (congr 3; omega) | (congr 4; omega) | (simp only [List.length_append, List.length_cons, List.length_nil, List.length_set]; rfl), by first | rfl | (simp only [AV.map, GV.map, CV.map, AB.map', id]; done) | (congr 3; omega) | (congr 4; omega) | (simp only [List.length_append, List.length_cons, List.length_nil, List.length_set]; rfl), by first | rfl | (simp only [AV.map, GV.map, CV.map, AB.map', id]; done) | (congr 3; omega) | (congr 4; omega) | (simp only [List.length_append, List.length_cons, List.length_nil, List.length_set]; rfl),  trivial⟩) (⟨by first | rfl | (simp only [AV.map, GV.map, CV.map, AB.map', id]; done) | (congr 3; omega) | (congr 4; omega) | (simp only [List.length_append, List.length_cons, List.length_nil, List.length_set]; rfl), by first | rfl | (simp only [AV.map, GV.map, CV.map, AB.map', id]; done) | (congr 3; omega) | (congr 4; omega) | (simp only [List.length_append, List.length_cons, List.length_nil, List.length_set]; rfl),  trivial⟩) rfl) ?_
              refine AC.draw [⟨some 33, (aC (.p 1 0 0 1)), [], [], [], [(5, (aC (.p 1 0 0 0)))], [(1, (.box 111 [(cI x1.account), (cI x1.sum)]))]⟩,
      ⟨some 34, (aI x1.sum), [], [], [0], [(33, (aC (.p 1 0 0 1)))], [(1, (.box 111 [(cI x1.account), (cI x1.sum)]))]⟩,
      ⟨some 35, (aB false), [], [], [1], [(34, (aI x1.sum))], []⟩,
      ⟨some 36, (aB false), [], [], [2], [(35, (aB false))], []⟩,
      ⟨some 37, (aI (↑q : Int)), [], [], [3], [(4, (aI (↑q : Int))), (36, (aB false))], []⟩,
      ⟨some 38, (aB true), [], [], [3, 4], [(37, (aI (↑q : Int))), (36, (aB false))], []⟩,
      ⟨some 39, (aB true), [], [], [3, 5], [(38, (aB true)), (36, (aB false))], []⟩,
      ⟨some 40, (aC (.p 1 0 0 0)), [], [], [6], [(5, (aC (.p 1 0 0 0))), (39, (aB true))], [(1, (.box 111 [(cI x1.account), (cI x1.sum)]))]⟩,
      ⟨some 41, (aI x1.account), [], [], [6, 7], [(40, (aC (.p 1 0 0 0))), (39, (aB true))], [(1, (.box 111 [(cI x1.account), (cI x1.sum)]))]⟩,
      ⟨some 42, (aC (cR 2 ((l).map rEntry))), [], [], [6], [(0, (aC (cR 2 ((l).map rEntry)))), (39, (aB true))], []⟩,
      ⟨some 43, (aI (↑q : Int)), [], [], [6], [(4, (aI (↑q : Int))), (39, (aB true))], []⟩,
      ⟨some 44, (aI ((↑q : Int) - 1)), [], [], [6, 10], [(43, (aI (↑q : Int))), (39, (aB true))], []⟩,
      ⟨some 45, (aC (.q (rEntry x2) 0)), [], [], [6, 9, 11], [(42, (aC (cR 2 ((l).map rEntry)))), (44, (aI ((↑q : Int) - 1))), (39, (aB true))], []⟩,
      ⟨some 46, (aC (.q (rEntry x2) 0)), [], [], [6, 12], [(45, (aC (.q (rEntry x2) 0))), (39, (aB true))], []⟩,
      ⟨some 47, (aI x2.account), [], [], [6, 13], [(46, (aC (.q (rEntry x2) 0))), (39, (aB true))], []⟩,
      ⟨some 48, (aB (decide (x1.account ≤ x2.account))), [], [], [6, 8, 14], [(41, (aI x1.account)), (47, (aI x2.account)), (39, (aB true))], []⟩,
      ⟨some 49, (aB (decide (x1.account ≤ x2.account))), [], [], [3, 6, 15], [(39, (aB true)), (48, (aB (decide (x1.account ≤ x2.account)))), (36, (aB false))], []⟩,
      ⟨some 50, (aB (decide (x1.account ≤ x2.account))), [], [], [3, 16], [(36, (aB false)), (49, (aB (decide (x1.account ≤ x2.account))))], []⟩] ⟨[(0, (aC (cR 2 ((l).map rEntry)))), (2, (aC (.p 0 0 0 0))), (3, (aI (sumE (l.take q)))), (6, (aC (cR 2 ((l).map rEntry)))), (7, (aI (↑l.length : Int))), (8, (aI (↑q : Int))), (5, (aC (.p 1 0 0 0))), (4, (aI (↑q : Int))), (50, (aB (decide (x1.account ≤ x2.account))))], [(1, (.box 111 [(cI x1.account), (cI x1.sum)])), (0, (.box 47 [(cI 0), (cI 0)]))], 2⟩ mixed (by kernel_rfl) ?_ ?_ ?_ ?_
              · exact ⟨.inl ⟨(Wanted.plain rfl), GOp.cast (g_fieldP rfl rfl Try.underlying111 rfl sz3 (by decide)) rfl⟩,
      .inl ⟨(Wanted.plain rfl), GOp.cast (g_loadB rfl rfl rfl Try.underlying3 rfl rfl) rfl⟩,
      .inl ⟨(Wanted.plain rfl), GOp.cast (g_binI rfl rfl rfl (congrArg (fun b => some (Value.bool b)) hb6)) rfl⟩,
      .inl ⟨(Wanted.plain rfl), GOp.cast (g_move rfl rfl) rfl⟩,
      .inl ⟨(Wanted.yes rfl rfl rfl), GOp.cast (g_move rfl rfl) rfl⟩,
      .inl ⟨(Wanted.yes rfl rfl rfl), GOp.cast (g_binI rfl rfl rfl (congrArg (fun b => some (Value.bool b)) hb8)) rfl⟩,
      .inl ⟨(Wanted.yes rfl rfl rfl), GOp.cast (g_move rfl rfl) rfl⟩,
      .inl ⟨(Wanted.yes rfl rfl rfl), GOp.cast (g_fieldP rfl rfl Try.underlying111 rfl sz3 (by decide)) rfl⟩,
      .inl ⟨(Wanted.yes rfl rfl rfl), GOp.cast (g_loadB rfl rfl rfl Try.underlying3 rfl rfl) rfl⟩,
      .inl ⟨(Wanted.yes rfl rfl rfl), GOp.cast (g_move rfl rfl) rfl⟩,
      .inl ⟨(Wanted.yes rfl rfl rfl), GOp.cast (g_move rfl rfl) rfl⟩,
      .inl ⟨(Wanted.yes rfl rfl rfl), GOp.cast (g_binI rfl rfl rfl (wrap_ok (by first | omega | (simp; done) | (simp; omega)))) rfl⟩,
      .inl ⟨(Wanted.yes rfl rfl rfl), GOp.cast (g_indexQ (i := (q) - 1) rfl rfl rfl Try.underlying102 sz111 (by first | omega | (simp; done) | (simp; omega)) (getmap hx2)) rfl⟩,
      .inl ⟨(Wanted.yes rfl rfl rfl), GOp.cast (g_fieldQ rfl rfl Try.underlying111 rfl sz3 (by decide)) rfl⟩,
      .inl ⟨(Wanted.yes rfl rfl rfl), GOp.cast (g_loadQ rfl rfl Try.underlying3 rfl rfl) rfl⟩,
      .inl ⟨(Wanted.yes rfl rfl rfl), GOp.cast (g_binI rfl rfl rfl rfl) rfl⟩,
      .inl ⟨(Wanted.yes rfl rfl rfl), GOp.cast (g_pick rfl rfl rfl) rfl⟩,
      .inl ⟨(Wanted.plain rfl), GOp.cast (g_pick rfl rfl rfl) rfl⟩,
       trivial⟩
              · exact ⟨⟨⟨.inl rfl,  trivial⟩, ⟨.inl rfl,  trivial⟩⟩, ⟨⟨.inr ⟨0, .head _, _, rfl, rfl, rfl⟩,  trivial⟩, ⟨.inl rfl,  trivial⟩⟩, ⟨⟨.inr ⟨1, .head _, _, rfl, rfl, rfl⟩,  trivial⟩, trivial⟩, ⟨⟨.inr ⟨2, .head _, _, rfl, rfl, rfl⟩,  trivial⟩, trivial⟩, ⟨⟨.inl rfl, .inr ⟨3, .head _, _, rfl, rfl, rfl⟩,  trivial⟩, trivial⟩, ⟨⟨.inr ⟨4, .tail _ (.head _), _, rfl, rfl, rfl⟩, .inr ⟨3, .head _, _, rfl, rfl, rfl⟩,  trivial⟩, trivial⟩, ⟨⟨.inr ⟨5, .tail _ (.head _), _, rfl, rfl, rfl⟩, .inr ⟨3, .head _, _, rfl, rfl, rfl⟩,  trivial⟩, trivial⟩, ⟨⟨.inl rfl, .inr ⟨6, .head _, _, rfl, rfl, rfl⟩,  trivial⟩, ⟨.inl rfl,  trivial⟩⟩, ⟨⟨.inr ⟨7, .tail _ (.head _), _, rfl, rfl, rfl⟩, .inr ⟨6, .head _, _, rfl, rfl, rfl⟩,  trivial⟩, ⟨.inl rfl,  trivial⟩⟩, ⟨⟨.inl rfl, .inr ⟨6, .head _, _, rfl, rfl, rfl⟩,  trivial⟩, trivial⟩, ⟨⟨.inl rfl, .inr ⟨6, .head _, _, rfl, rfl, rfl⟩,  trivial⟩, trivial⟩, ⟨⟨.inr ⟨10, .tail _ (.head _), _, rfl, rfl, rfl⟩, .inr ⟨6, .head _, _, rfl, rfl, rfl⟩,  trivial⟩, trivial⟩, ⟨⟨.inr ⟨9, .tail _ (.head _), _, rfl, rfl, rfl⟩, .inr ⟨11, .tail _ (.tail _ (.head _)), _, rfl, rfl, rfl⟩, .inr ⟨6, .head _, _, rfl, rfl, rfl⟩,  trivial⟩, trivial⟩, ⟨⟨.inr ⟨12, .tail _ (.head _), _, rfl, rfl, rfl⟩, .inr ⟨6, .head _, _, rfl, rfl, rfl⟩,  trivial⟩, trivial⟩, ⟨⟨.inr ⟨13, .tail _ (.head _), _, rfl, rfl, rfl⟩, .inr ⟨6, .head _, _, rfl, rfl, rfl⟩,  trivial⟩, trivial⟩, ⟨⟨.inr ⟨8, .tail _ (.head _), _, rfl, rfl, rfl⟩, .inr ⟨14, .tail _ (.tail _ (.head _)), _, rfl, rfl, rfl⟩, .inr ⟨6, .head _, _, rfl, rfl, rfl⟩,  trivial⟩, trivial⟩, ⟨⟨.inr ⟨6, .tail _ (.head _), _, rfl, rfl, rfl⟩, .inr ⟨15, .tail _ (.tail _ (.head _)), _, rfl, rfl, rfl⟩, .inr ⟨3, .head _, _, rfl, rfl, rfl⟩,  trivial⟩, trivial⟩, ⟨⟨.inr ⟨3, .head _, _, rfl, rfl, rfl⟩, .inr ⟨16, .tail _ (.head _), _, rfl, rfl, rfl⟩,  trivial⟩, trivial⟩,  trivial⟩
              · exact ⟨⟨.inl rfl, .inl rfl, .inl rfl, .inl rfl, .inl rfl, .inl rfl, .inl rfl, .inl rfl, .inr ⟨17, _, rfl, rfl, rfl⟩,  trivial⟩, ⟨.inl rfl, .inl rfl,  trivial⟩⟩
              ·
                refine AL.nil ?_
                refine then_ok ?_
                refine AC.cond rfl (fun hc9 => ?_) (fun hc9 => ?_)
                ·
                  have hc9' := hc9; try simp only [sumB, Bool.not_eq_true', Bool.not_eq_false', Bool.or_eq_true, Bool.or_eq_false_iff, Bool.and_eq_true, Bool.and_eq_false_imp, decide_eq_true_eq, decide_eq_false_iff_not, Bool.not_not, Bool.not_true, Bool.not_false] at hc9'
                  refine AC.seq ?_
                  refine AC.region ?_
                  refine AL.fast 1 rfl ?_
                  refine AL.val (Wanted.plain rfl) (g_build (ys := [(0, (.c (cI 2))), (1, (.c (cI (↑q : Int))))]) rfl bld47 rfl ⟨⟨rfl, rfl⟩, ⟨rfl, rfl⟩,  trivial⟩ rfl rfl) rfl rfl ?_
                  refine AL.sto (h' := [(1, (.box 111 [(cI x1.account), (cI x1.sum)])), (0, (.box 47 [(cI 2), (cI (↑q : Int))]))]) (Wanted.plain rfl) (g_storeB rfl rfl rfl rfl rfl sz47 rfl (Nat.le_of_ble_eq_true rfl) rfl) rfl rfl rfl rfl ?_
                  refine AL.nil ?_
                  refine then_ok ?_
                  refine AC.ret ?_
                  refine then_ret ?_
                  refine block_ret ?_
                  refine then_ret ?_
                  refine then_ret ?_
                  refine block_ret ?_
                  refine then_ret ?_
                  have hX : wrongB l = (⟨2, (↑q : Int)⟩ : Fault) := by
                    (have hb : ¬ badE x1 := by unfold badE; omega); (have hla := lastA_pos (by omega) hx2); (have h0 := scan_bad (e := bErr l) (q := q) (n := l.length) (by omega) (by rw [bErr_some hx1, if_neg hb, if_pos (by omega)]) (by decide : (2 : Int) ≠ 0)); (unfold wrongB; rw [hi0_1, h0]; rfl)
                  rw [hX] at hr; clear hX
                  subst hr
                  refine retQ_mk (av' := outOf [(.g [(cI 2), (cI (↑q : Int))])]) (nb' := []) (retQ_ret ⟨[(2, (aC (.p 0 0 0 0)))], [(0, (.box 47 [(cI 2), (cI (↑q : Int))]))], 1⟩ [.cell 2 47] [(.g [(cI 2), (cI (↑q : Int))])] (Weak.ren id (⟨by first | rfl | (simp only [AV.map, GV.map, CV.map, AB.map', id]; done) | (congr 3; omega) | (congr 4; omega) | (simp only [List.length_append, List.length_cons, List.length_nil, List.length_set]; rfl),  trivial⟩) (⟨by first | rfl | (simp only [AV.map, GV.map, CV.map, AB.map', id]; done) | (congr 3; omega) | (congr 4; omega) | (simp only [List.length_append, List.length_cons, List.length_nil, List.length_set]; rfl),  trivial⟩) rfl) rfl ⟨.agg rfl rfl (fun _ => run_isAgg Try.underlying47) sz47, trivial⟩ trivial) ?_ ?_
                  · first | rfl | (simp [outOf, aC]; done) | (simp [outOf, aC]; omega)
                  · first | rfl | (simp; done) | (simp; omega)
                ·
                  have hc9' := hc9; try simp only [sumB, Bool.not_eq_true', Bool.not_eq_false', Bool.or_eq_true, Bool.or_eq_false_iff, Bool.and_eq_true, Bool.and_eq_false_imp, decide_eq_true_eq, decide_eq_false_iff_not, Bool.not_not, Bool.not_true, Bool.not_false] at hc9'
                  refine AC.skip ?_
                  refine then_ok ?_
                  refine AC.region ?_
                  refine AL.fast 1 rfl ?_
                  refine AL.val (Wanted.plain rfl) (g_fieldP rfl rfl Try.underlying111 rfl sz3 (by decide)) rfl rfl ?_
                  refine AL.val (Wanted.plain rfl) (g_loadB rfl rfl rfl Try.underlying3 rfl rfl) rfl rfl ?_
                  refine AL.val (Wanted.plain rfl) (g_binI rfl rfl rfl (wrap_ok (by first | omega | (simp; done) | (simp; omega)))) rfl rfl ?_
                  refine AL.fast 1 rfl ?_
                  refine AL.nil ?_
                  refine block_ok ?_
                  refine then_ok ?_
                  refine AC.region ?_
                  refine AL.val (Wanted.plain rfl) (g_binI rfl rfl rfl (wrap_ok (by first | omega | (simp; done) | (simp; omega)))) rfl rfl ?_
                  refine AL.fast 1 rfl ?_
                  refine AL.nil ?_
                  refine then_ok ?_
                  refine ⟨q + 1, ⟨by omega, by rw [hi0_1]; exact scan_ok (by omega) (by have hla := lastA_pos (by omega) hx2; rw [bErr_some hx1, if_neg (by unfold badE; omega), if_neg (by omega)]), by rw [lastA_succ hx1]; have hla := lastA_pos (by omega) hx2; omega, by rw [lastA_succ hx1, sumE_take hx1]; omega⟩, by first | omega | (simp; done) | (simp; omega), Weak.ren id (⟨by first | rfl | (simp only [AV.map, GV.map, CV.map, AB.map', id]; done) | (congr 3; omega) | (congr 4; omega) | (simp only [List.length_append, List.length_cons, List.length_nil, List.length_set]; rfl) | (rw [sumE_take hx1]; rfl), by first | rfl | (simp only [AV.map, GV.map, CV.map, AB.map', id]; done) | (congr 3; omega) | (congr 4; omega) | (simp only [List.length_append, List.length_cons, List.length_nil, List.length_set]; rfl) | (rw [sumE_take hx1]; rfl), by first | rfl | (simp only [AV.map, GV.map, CV.map, AB.map', id]; done) | (congr 3; omega) | (congr 4; omega) | (simp only [List.length_append, List.length_cons, List.length_nil, List.length_set]; rfl) | (rw [sumE_take hx1]; rfl), by first | rfl | (simp only [AV.map, GV.map, CV.map, AB.map', id]; done) | (congr 3; omega) | (congr 4; omega) | (simp only [List.length_append, List.length_cons, List.length_nil, List.length_set]; rfl) | (rw [sumE_take hx1]; rfl), by first | rfl | (simp only [AV.map, GV.map, CV.map, AB.map', id]; done) | (congr 3; omega) | (congr 4; omega) | (simp only [List.length_append, List.length_cons, List.length_nil, List.length_set]; rfl) | (rw [sumE_take hx1]; rfl), by first | rfl | (simp only [AV.map, GV.map, CV.map, AB.map', id]; done) | (congr 3; omega) | (congr 4; omega) | (simp only [List.length_append, List.length_cons, List.length_nil, List.length_set]; rfl) | (rw [sumE_take hx1]; rfl),  trivial⟩) (⟨by first | rfl | (simp only [AV.map, GV.map, CV.map, AB.map', id]; done) | (congr 3; omega) | (congr 4; omega) | (simp only [List.length_append, List.length_cons, List.length_nil, List.length_set]; rfl),  trivial⟩) rfl⟩
            ·
              have hb8' := hb8; try simp only [sumB, Bool.not_eq_true', Bool.not_eq_false', Bool.or_eq_true, Bool.or_eq_false_iff, Bool.and_eq_true, Bool.and_eq_false_imp, decide_eq_true_eq, decide_eq_false_iff_not, Bool.not_not, Bool.not_true, Bool.not_false] at hb8'
              refine AC.weak (st' := ⟨[(0, (aC (cR 2 ((l).map rEntry)))), (2, (aC (.p 0 0 0 0))), (3, (aI (sumE (l.take q)))), (6, (aC (cR 2 ((l).map rEntry)))), (7, (aI (↑l.length : Int))), (8, (aI (↑q : Int))), (5, (aC (.p 1 0 0 0))), (4, (aI (↑q : Int)))], [(1, (.box 111 [(cI x1.account), (cI x1.sum)])), (0, (.box 47 [(cI 0), (cI 0)]))], 2⟩) (Weak.ren id (⟨by first | rfl | (simp only [AV.map, GV.map, CV.map, AB.map', id]; done) | (congr 3; omega) | (congr 4; omega) | (simp only [List.length_append, List.length_cons, List.length_nil, List.length_set]; rfl), by first | rfl | (simp only [AV.map, GV.map, CV.map, AB.map', id]; done) | (congr 3; omega) | (congr 4; omega) | (simp only [List.length_append, List.length_cons, List.length_nil, List.length_set]; rfl), by first | rfl | (simp only [AV.map, GV.map, CV.map, AB.map', id]; done) | (congr 3; omega) | (congr 4; omega) | (simp only [List.length_append, List.length_cons, List.length_nil, List.length_set]; rfl), by first | rfl | (simp only [AV.map, GV.map, CV.map, AB.map', id]; done) | (congr 3; omega) | (congr 4; omega) | (simp only [List.length_append, List.length_cons, List.length_nil, List.length_set]; rfl), by first | rfl | (simp only [AV.map, GV.map, CV.map, AB.map', id]; done) | (congr 3; omega) | (congr 4; omega) | (simp only [List.length_append, List.length_cons, List.length_nil, List.length_set]; rfl), by first | rfl | (simp only [AV.map, GV.map, CV.map, AB.map', id]; done) | (congr 3; omega) | (congr 4; omega) | (simp only [List.length_append, List.length_cons, List.length_nil, List.length_set]; rfl), by first | rfl | (simp only [AV.map, GV.map, CV.map, AB.map', id]; done) | (congr 3; omega) | (congr 4; omega) | (simp only [List.length_append, List.length_cons, List.length_nil, List.length_set]; rfl), by first | rfl | (simp only [AV.map, GV.map, CV.map, AB.map', id]; done) | (congr 3; omega) | (congr 4; omega) | (simp only [List.length_append, List.length_cons, List.length_nil, List.length_set]; rfl),  trivial⟩) (⟨by first | rfl | (simp only [AV.map, GV.map, CV.map, AB.map', id]; done) | (congr 3; omega) | (congr 4; omega) | (simp only [List.length_append, List.length_cons, List.length_nil, List.length_set]; rfl), by first | rfl | (simp only [AV.map, GV.map, CV.map, AB.map', id]; done) | (congr 3; omega) | (congr 4; omega) | (simp only [List.length_append, List.length_cons, List.length_nil, List.length_set]; rfl),  trivial⟩) rfl) ?_
              refine AC.draw [⟨some 33, (aC (.p 1 0 0 1)), [], [], [], [(5, (aC (.p 1 0 0 0)))], [(1, (.box 111 [(cI x1.account), (cI x1.sum)]))]⟩,
      ⟨some 34, (aI x1.sum), [], [], [0], [(33, (aC (.p 1 0 0 1)))], [(1, (.box 111 [(cI x1.account), (cI x1.sum)]))]⟩,
      ⟨some 35, (aB false), [], [], [1], [(34, (aI x1.sum))], []⟩,
      ⟨some 36, (aB false), [], [], [2], [(35, (aB false))], []⟩,
      ⟨some 37, (aI (↑q : Int)), [], [], [3], [(4, (aI (↑q : Int))), (36, (aB false))], []⟩,
      ⟨some 38, (aB false), [], [], [3, 4], [(37, (aI (↑q : Int))), (36, (aB false))], []⟩,
      ⟨some 39, (aB false), [], [], [3, 5], [(38, (aB false)), (36, (aB false))], []⟩,
      ⟨some 40, (.t []), [], [], [6], [(5, (aC (.p 1 0 0 0))), (39, (aB false))], []⟩,
      ⟨some 41, (.t []), [], [], [6, 7], [(40, (.t [])), (39, (aB false))], []⟩,
      ⟨some 42, (.t []), [], [], [6], [(0, (aC (cR 2 ((l).map rEntry)))), (39, (aB false))], []⟩,
      ⟨some 43, (.t []), [], [], [6], [(4, (aI (↑q : Int))), (39, (aB false))], []⟩,
      ⟨some 44, (.t []), [], [], [6, 10], [(43, (.t [])), (39, (aB false))], []⟩,
      ⟨some 45, (.t []), [], [], [6, 9, 11], [(42, (.t [])), (44, (.t [])), (39, (aB false))], []⟩,
      ⟨some 46, (.t []), [], [], [6, 12], [(45, (.t [])), (39, (aB false))], []⟩,
      ⟨some 47, (.t []), [], [], [6, 13], [(46, (.t [])), (39, (aB false))], []⟩,
      ⟨some 48, (.t []), [], [], [6, 8, 14], [(41, (.t [])), (47, (.t [])), (39, (aB false))], []⟩,
      ⟨some 49, (aB false), [], [], [3, 6, 15], [(39, (aB false)), (48, (.t [])), (36, (aB false))], []⟩,
      ⟨some 50, (aB false), [], [], [3, 16], [(36, (aB false)), (49, (aB false))], []⟩] ⟨[(0, (aC (cR 2 ((l).map rEntry)))), (2, (aC (.p 0 0 0 0))), (3, (aI (sumE (l.take q)))), (6, (aC (cR 2 ((l).map rEntry)))), (7, (aI (↑l.length : Int))), (8, (aI (↑q : Int))), (5, (aC (.p 1 0 0 0))), (4, (aI (↑q : Int))), (50, (aB false))], [(1, (.box 111 [(cI x1.account), (cI x1.sum)])), (0, (.box 47 [(cI 0), (cI 0)]))], 2⟩ mixed (by kernel_rfl) ?_ ?_ ?_ ?_
              · exact ⟨.inl ⟨(Wanted.plain rfl), GOp.cast (g_fieldP rfl rfl Try.underlying111 rfl sz3 (by decide)) rfl⟩,
      .inl ⟨(Wanted.plain rfl), GOp.cast (g_loadB rfl rfl rfl Try.underlying3 rfl rfl) rfl⟩,
      .inl ⟨(Wanted.plain rfl), GOp.cast (g_binI rfl rfl rfl (congrArg (fun b => some (Value.bool b)) hb6)) rfl⟩,
      .inl ⟨(Wanted.plain rfl), GOp.cast (g_move rfl rfl) rfl⟩,
      .inl ⟨(Wanted.yes rfl rfl rfl), GOp.cast (g_move rfl rfl) rfl⟩,
      .inl ⟨(Wanted.yes rfl rfl rfl), GOp.cast (g_binI rfl rfl rfl (congrArg (fun b => some (Value.bool b)) hb8)) rfl⟩,
      .inl ⟨(Wanted.yes rfl rfl rfl), GOp.cast (g_move rfl rfl) rfl⟩,
      .inr ⟨(Unwanted.no rfl rfl rfl), rfl, rfl, rfl⟩,
      .inr ⟨(Unwanted.no rfl rfl rfl), rfl, rfl, rfl⟩,
      .inr ⟨(Unwanted.no rfl rfl rfl), rfl, rfl, rfl⟩,
      .inr ⟨(Unwanted.no rfl rfl rfl), rfl, rfl, rfl⟩,
      .inr ⟨(Unwanted.no rfl rfl rfl), rfl, rfl, rfl⟩,
      .inr ⟨(Unwanted.no rfl rfl rfl), rfl, rfl, rfl⟩,
      .inr ⟨(Unwanted.no rfl rfl rfl), rfl, rfl, rfl⟩,
      .inr ⟨(Unwanted.no rfl rfl rfl), rfl, rfl, rfl⟩,
      .inr ⟨(Unwanted.no rfl rfl rfl), rfl, rfl, rfl⟩,
      .inl ⟨(Wanted.yes rfl rfl rfl), GOp.cast (g_pick rfl rfl rfl) rfl⟩,
      .inl ⟨(Wanted.plain rfl), GOp.cast (g_pick rfl rfl rfl) rfl⟩,
       trivial⟩
              · exact ⟨⟨⟨.inl rfl,  trivial⟩, ⟨.inl rfl,  trivial⟩⟩, ⟨⟨.inr ⟨0, .head _, _, rfl, rfl, rfl⟩,  trivial⟩, ⟨.inl rfl,  trivial⟩⟩, ⟨⟨.inr ⟨1, .head _, _, rfl, rfl, rfl⟩,  trivial⟩, trivial⟩, ⟨⟨.inr ⟨2, .head _, _, rfl, rfl, rfl⟩,  trivial⟩, trivial⟩, ⟨⟨.inl rfl, .inr ⟨3, .head _, _, rfl, rfl, rfl⟩,  trivial⟩, trivial⟩, ⟨⟨.inr ⟨4, .tail _ (.head _), _, rfl, rfl, rfl⟩, .inr ⟨3, .head _, _, rfl, rfl, rfl⟩,  trivial⟩, trivial⟩, ⟨⟨.inr ⟨5, .tail _ (.head _), _, rfl, rfl, rfl⟩, .inr ⟨3, .head _, _, rfl, rfl, rfl⟩,  trivial⟩, trivial⟩, ⟨⟨.inl rfl, .inr ⟨6, .head _, _, rfl, rfl, rfl⟩,  trivial⟩, trivial⟩, ⟨⟨.inr ⟨7, .tail _ (.head _), _, rfl, rfl, rfl⟩, .inr ⟨6, .head _, _, rfl, rfl, rfl⟩,  trivial⟩, trivial⟩, ⟨⟨.inl rfl, .inr ⟨6, .head _, _, rfl, rfl, rfl⟩,  trivial⟩, trivial⟩, ⟨⟨.inl rfl, .inr ⟨6, .head _, _, rfl, rfl, rfl⟩,  trivial⟩, trivial⟩, ⟨⟨.inr ⟨10, .tail _ (.head _), _, rfl, rfl, rfl⟩, .inr ⟨6, .head _, _, rfl, rfl, rfl⟩,  trivial⟩, trivial⟩, ⟨⟨.inr ⟨9, .tail _ (.head _), _, rfl, rfl, rfl⟩, .inr ⟨11, .tail _ (.tail _ (.head _)), _, rfl, rfl, rfl⟩, .inr ⟨6, .head _, _, rfl, rfl, rfl⟩,  trivial⟩, trivial⟩, ⟨⟨.inr ⟨12, .tail _ (.head _), _, rfl, rfl, rfl⟩, .inr ⟨6, .head _, _, rfl, rfl, rfl⟩,  trivial⟩, trivial⟩, ⟨⟨.inr ⟨13, .tail _ (.head _), _, rfl, rfl, rfl⟩, .inr ⟨6, .head _, _, rfl, rfl, rfl⟩,  trivial⟩, trivial⟩, ⟨⟨.inr ⟨8, .tail _ (.head _), _, rfl, rfl, rfl⟩, .inr ⟨14, .tail _ (.tail _ (.head _)), _, rfl, rfl, rfl⟩, .inr ⟨6, .head _, _, rfl, rfl, rfl⟩,  trivial⟩, trivial⟩, ⟨⟨.inr ⟨6, .tail _ (.head _), _, rfl, rfl, rfl⟩, .inr ⟨15, .tail _ (.tail _ (.head _)), _, rfl, rfl, rfl⟩, .inr ⟨3, .head _, _, rfl, rfl, rfl⟩,  trivial⟩, trivial⟩, ⟨⟨.inr ⟨3, .head _, _, rfl, rfl, rfl⟩, .inr ⟨16, .tail _ (.head _), _, rfl, rfl, rfl⟩,  trivial⟩, trivial⟩,  trivial⟩
              · exact ⟨⟨.inl rfl, .inl rfl, .inl rfl, .inl rfl, .inl rfl, .inl rfl, .inl rfl, .inl rfl, .inr ⟨17, _, rfl, rfl, rfl⟩,  trivial⟩, ⟨.inl rfl, .inl rfl,  trivial⟩⟩
              ·
                refine AL.nil ?_
                refine then_ok ?_
                refine AC.cond rfl (fun hno => by cases hno) (fun _ => ?_)
                refine AC.skip ?_
                refine then_ok ?_
                refine AC.region ?_
                refine AL.fast 1 rfl ?_
                refine AL.val (Wanted.plain rfl) (g_fieldP rfl rfl Try.underlying111 rfl sz3 (by decide)) rfl rfl ?_
                refine AL.val (Wanted.plain rfl) (g_loadB rfl rfl rfl Try.underlying3 rfl rfl) rfl rfl ?_
                refine AL.val (Wanted.plain rfl) (g_binI rfl rfl rfl (wrap_ok (by first | omega | (simp; done) | (simp; omega)))) rfl rfl ?_
                refine AL.fast 1 rfl ?_
                refine AL.nil ?_
                refine block_ok ?_
                refine then_ok ?_
                refine AC.region ?_
                refine AL.val (Wanted.plain rfl) (g_binI rfl rfl rfl (wrap_ok (by first | omega | (simp; done) | (simp; omega)))) rfl rfl ?_
                refine AL.fast 1 rfl ?_
                refine AL.nil ?_
                refine then_ok ?_
                refine ⟨q + 1, ⟨by omega, by rw [hi0_1]; exact scan_ok (by omega) (by have hla : lastA l q = -1 := (by unfold lastA; rw [if_pos (by omega)]); rw [bErr_some hx1, if_neg (by unfold badE; omega), if_neg (by omega)]), by rw [lastA_succ hx1]; have hla : lastA l q = -1 := (by unfold lastA; rw [if_pos (by omega)]); omega, by rw [lastA_succ hx1, sumE_take hx1]; omega⟩, by first | omega | (simp; done) | (simp; omega), Weak.ren id (⟨by first | rfl | (simp only [AV.map, GV.map, CV.map, AB.map', id]; done) | (congr 3; omega) | (congr 4; omega) | (simp only [List.length_append, List.length_cons, List.length_nil, List.length_set]; rfl) | (rw [sumE_take hx1]; rfl), by first | rfl | (simp only [AV.map, GV.map, CV.map, AB.map', id]; done) | (congr 3; omega) | (congr 4; omega) | (simp only [List.length_append, List.length_cons, List.length_nil, List.length_set]; rfl) | (rw [sumE_take hx1]; rfl), by first | rfl | (simp only [AV.map, GV.map, CV.map, AB.map', id]; done) | (congr 3; omega) | (congr 4; omega) | (simp only [List.length_append, List.length_cons, List.length_nil, List.length_set]; rfl) | (rw [sumE_take hx1]; rfl), by first | rfl | (simp only [AV.map, GV.map, CV.map, AB.map', id]; done) | (congr 3; omega) | (congr 4; omega) | (simp only [List.length_append, List.length_cons, List.length_nil, List.length_set]; rfl) | (rw [sumE_take hx1]; rfl), by first | rfl | (simp only [AV.map, GV.map, CV.map, AB.map', id]; done) | (congr 3; omega) | (congr 4; omega) | (simp only [List.length_append, List.length_cons, List.length_nil, List.length_set]; rfl) | (rw [sumE_take hx1]; rfl), by first | rfl | (simp only [AV.map, GV.map, CV.map, AB.map', id]; done) | (congr 3; omega) | (congr 4; omega) | (simp only [List.length_append, List.length_cons, List.length_nil, List.length_set]; rfl) | (rw [sumE_take hx1]; rfl),  trivial⟩) (⟨by first | rfl | (simp only [AV.map, GV.map, CV.map, AB.map', id]; done) | (congr 3; omega) | (congr 4; omega) | (simp only [List.length_append, List.length_cons, List.length_nil, List.length_set]; rfl),  trivial⟩) rfl⟩
    ·
      have hc1' := hc1; try simp only [sumB, Bool.not_eq_true', Bool.not_eq_false', Bool.or_eq_true, Bool.or_eq_false_iff, Bool.and_eq_true, Bool.and_eq_false_imp, decide_eq_true_eq, decide_eq_false_iff_not, Bool.not_not, Bool.not_true, Bool.not_false] at hc1'
      refine AC.exit ?_
      refine then_exit ?_
      refine then_exit ?_
      refine block_hit ?_
      refine then_ok ?_
      refine AC.seq ?_
      refine AC.seq ?_
      refine AC.region ?_
      refine AL.fast 1 rfl ?_
      refine AL.val (Wanted.plain rfl) (g_binI rfl rfl rfl rfl) rfl rfl ?_
      refine AL.nil ?_
      refine then_ok ?_
      refine AC.cond rfl (fun hc11 => ?_) (fun hc11 => ?_)
      ·
        have hc11' := hc11; try simp only [sumB, Bool.not_eq_true', Bool.not_eq_false', Bool.or_eq_true, Bool.or_eq_false_iff, Bool.and_eq_true, Bool.and_eq_false_imp, decide_eq_true_eq, decide_eq_false_iff_not, Bool.not_not, Bool.not_true, Bool.not_false] at hc11'
        refine AC.seq ?_
        refine AC.region ?_
        refine AL.val (Wanted.plain rfl) (g_build (ys := [(0, (.c (cI 8)))]) rfl bld47 rfl ⟨⟨rfl, rfl⟩,  trivial⟩ rfl rfl) rfl rfl ?_
        refine AL.sto (h' := [(0, (.box 47 [(cI 8), (cI 0)]))]) (Wanted.plain rfl) (g_storeB rfl rfl rfl rfl rfl sz47 rfl (Nat.le_of_ble_eq_true rfl) rfl) rfl rfl rfl rfl ?_
        refine AL.nil ?_
        refine then_ok ?_
        refine AC.ret ?_
        refine then_ret ?_
        have hX : wrongB l = (⟨8, 0⟩ : Fault) := by
          (obtain rfl : q = l.length := by omega); rw [List.take_length] at *; (unfold wrongB; rw [hi0_1, scan_end (by omega)]; rw [if_neg (by decide), if_pos (by omega)])
        rw [hX] at hr; clear hX
        subst hr
        refine retQ_mk (av' := outOf [(.g [(cI 8), (cI 0)])]) (nb' := []) (retQ_ret ⟨[(2, (aC (.p 0 0 0 0)))], [(0, (.box 47 [(cI 8), (cI 0)]))], 1⟩ [.cell 2 47] [(.g [(cI 8), (cI 0)])] (Weak.ren id (⟨by first | rfl | (simp only [AV.map, GV.map, CV.map, AB.map', id]; done) | (congr 3; omega) | (congr 4; omega) | (simp only [List.length_append, List.length_cons, List.length_nil, List.length_set]; rfl),  trivial⟩) (⟨by first | rfl | (simp only [AV.map, GV.map, CV.map, AB.map', id]; done) | (congr 3; omega) | (congr 4; omega) | (simp only [List.length_append, List.length_cons, List.length_nil, List.length_set]; rfl),  trivial⟩) rfl) rfl ⟨.agg rfl rfl (fun _ => run_isAgg Try.underlying47) sz47, trivial⟩ trivial) ?_ ?_
        · first | rfl | (simp [outOf, aC]; done) | (simp [outOf, aC]; omega)
        · first | rfl | (simp; done) | (simp; omega)
      ·
        have hc11' := hc11; try simp only [sumB, Bool.not_eq_true', Bool.not_eq_false', Bool.or_eq_true, Bool.or_eq_false_iff, Bool.and_eq_true, Bool.and_eq_false_imp, decide_eq_true_eq, decide_eq_false_iff_not, Bool.not_not, Bool.not_true, Bool.not_false] at hc11'
        refine AC.skip ?_
        refine then_ok ?_
        refine AC.seq ?_
        refine AC.region ?_
        refine AL.val (Wanted.plain rfl) (g_build (ys := []) rfl bld47 rfl trivial rfl rfl) rfl rfl ?_
        refine AL.sto (h' := [(0, (.box 47 [(cI 0), (cI 0)]))]) (Wanted.plain rfl) (g_storeB rfl rfl rfl rfl rfl sz47 rfl (Nat.le_of_ble_eq_true rfl) rfl) rfl rfl rfl rfl ?_
        refine AL.nil ?_
        refine then_ok ?_
        refine AC.ret ?_
        have hX : wrongB l = (⟨0, 0⟩ : Fault) := by
          (obtain rfl : q = l.length := by omega); rw [List.take_length] at *; (unfold wrongB; rw [hi0_1, scan_end (by omega)]; rw [if_neg (by decide), if_neg (by omega)])
        rw [hX] at hr; clear hX
        subst hr
        refine retQ_mk (av' := outOf [(.g [(cI 0), (cI 0)])]) (nb' := []) (retQ_ret ⟨[(2, (aC (.p 0 0 0 0)))], [(0, (.box 47 [(cI 0), (cI 0)]))], 1⟩ [.cell 2 47] [(.g [(cI 0), (cI 0)])] (Weak.ren id (⟨by first | rfl | (simp only [AV.map, GV.map, CV.map, AB.map', id]; done) | (congr 3; omega) | (congr 4; omega) | (simp only [List.length_append, List.length_cons, List.length_nil, List.length_set]; rfl),  trivial⟩) (⟨by first | rfl | (simp only [AV.map, GV.map, CV.map, AB.map', id]; done) | (congr 3; omega) | (congr 4; omega) | (simp only [List.length_append, List.length_cons, List.length_nil, List.length_set]; rfl),  trivial⟩) rfl) rfl ⟨.agg rfl rfl (fun _ => run_isAgg Try.underlying47) sz47, trivial⟩ trivial) ?_ ?_
        · first | rfl | (simp [outOf, aC]; done) | (simp [outOf, aC]; omega)
        · first | rfl | (simp; done) | (simp; omega)
end Go.Proofs.Ytgmcdlfmifijlaa.Dev
