/- day.Wrong, payref1.WrongRecords, SameRecords. -/
import Derived.Test.YtgmcdlfmifijlaaDPlSorts
import Derived.Test.YtgmcdlfmifijlaaDSorts
import Derived.Test.YtgmcdlfmifijlaaDSh22
set_option linter.unusedVariables false
set_option linter.unusedSimpArgs false
namespace Go.Proofs.Ytgmcdlfmifijlaa.Dev
open Go.RowKit

set_option maxRecDepth 100000 in
set_option maxHeartbeats 1000000 in
theorem c_day_Wrong (l : List Record) (f : Fault) (hr : wrongR l = f) : Fn Try.prog 91 [(.c (cR 4 ((l).map rRecord)))] (.v (.g [(cI f.err), (cI f.at_)])) [] := by
  refine Fn.mk' 58 [(0, (aC (cR 4 ((l).map rRecord))))] Try.func91 rfl rfl rfl rfl ?_
  intro W0 T0
  refine AC.len1 0 rfl (fun hlen0 => ?_)
  refine AC.seq ?_
  refine AC.region ?_
  refine AL.new (n' := 1) (Wanted.plain rfl) (g_alloc 0 rfl zv47 rfl rfl rfl) rfl rfl rfl ?_
  refine AL.nil ?_
  refine then_ok ?_
  refine AC.seq ?_
  refine AC.seq ?_
  refine AC.region ?_
  refine AL.fast 1 rfl ?_
  refine AL.val (Wanted.plain rfl) (g_lenM rfl rfl rfl rfl rfl Try.underlying114) rfl rfl ?_
  refine AL.val (Wanted.plain rfl) (g_binI rfl rfl rfl rfl) rfl rfl ?_
  refine AL.nil ?_
  refine then_ok ?_
  refine AC.cond rfl (fun hc1 => ?_) (fun hc1 => ?_)
  ·
    have hc1' := hc1; try simp only [sumB, Bool.not_eq_true', Bool.not_eq_false', Bool.or_eq_true, Bool.or_eq_false_iff, Bool.and_eq_true, Bool.and_eq_false_imp, decide_eq_true_eq, decide_eq_false_iff_not, Bool.not_not, Bool.not_true, Bool.not_false] at hc1'
    refine AC.seq ?_
    refine AC.region ?_
    refine AL.val (Wanted.plain rfl) (g_build (ys := [(0, (.c (cI 5)))]) rfl bld47 rfl ⟨⟨rfl, rfl⟩,  trivial⟩ rfl rfl) rfl rfl ?_
    refine AL.sto (h' := [(0, (.box 47 [(cI 5), (cI 0)]))]) (Wanted.plain rfl) (g_storeB rfl rfl rfl rfl rfl sz47 rfl (Nat.le_of_ble_eq_true rfl) rfl) rfl rfl rfl rfl ?_
    refine AL.nil ?_
    refine then_ok ?_
    refine AC.ret ?_
    refine then_ret ?_
    have hX : wrongR l = (⟨5, 0⟩ : Fault) := by
      unfold wrongR; rw [if_pos (by omega)]
    rw [hX] at hr; clear hX
    subst hr
    refine retQ_mk (av' := outOf [(.g [(cI 5), (cI 0)])]) (nb' := []) (retQ_ret ⟨[(2, (aC (.p 0 0 0 0)))], [(0, (.box 47 [(cI 5), (cI 0)]))], 1⟩ [.cell 2 47] [(.g [(cI 5), (cI 0)])] (Weak.ren id (⟨by first | rfl | (simp only [AV.map, GV.map, CV.map, AB.map', id]; done) | (congr 3; omega) | (congr 4; omega) | (simp only [List.length_append, List.length_cons, List.length_nil, List.length_set]; rfl), trivial⟩) (⟨by first | rfl | (simp only [AV.map, GV.map, CV.map, AB.map', id]; done) | (congr 3; omega) | (congr 4; omega) | (simp only [List.length_append, List.length_cons, List.length_nil, List.length_set]; rfl), trivial⟩) rfl) rfl ⟨.agg rfl rfl (fun _ => run_isAgg Try.underlying47) sz47, trivial⟩ trivial) ?_ ?_
    · first | rfl | (simp [outOf, aC]; done) | (simp [outOf, aC]; omega)
    · first | rfl | (simp; done) | (simp; omega)
  ·
    have hc1' := hc1; try simp only [sumB, Bool.not_eq_true', Bool.not_eq_false', Bool.or_eq_true, Bool.or_eq_false_iff, Bool.and_eq_true, Bool.and_eq_false_imp, decide_eq_true_eq, decide_eq_false_iff_not, Bool.not_not, Bool.not_true, Bool.not_false] at hc1'
    refine AC.skip ?_
    refine then_ok ?_
    refine AC.seq ?_
    refine AC.seq ?_
    refine AC.region ?_
    refine AL.fast 1 rfl ?_
    refine AL.val (Wanted.plain rfl) (g_lenM rfl rfl rfl rfl rfl Try.underlying114) rfl rfl ?_
    refine AL.fast 1 rfl ?_
    refine AL.nil ?_
    refine then_ok ?_
    refine AC.block ?_
    refine AC.loop (β := Nat) (fun (q : Nat) => ⟨[(2, (aC (.p 0 0 0 0))), (9, (aC (cR 4 ((l).map rRecord)))), (10, (aI (↑l.length : Int))), (11, (aI (↑q : Int)))], [(0, (.box 47 [(cI 0), (cI 0)]))], 1⟩) (fun (q : Nat) => q ≤ l.length ∧ rErr l 0 = rErr (l.drop q) q) (fun (q : Nat) => l.length - q) 0 ?_ ?_ ?_
    · exact ⟨by omega, rfl⟩
    · exact Weak.ren id (by refine ⟨?_, ?_, ?_, ?_,  trivial⟩ <;> first | rfl | (simp only [AV.map, GV.map, CV.map, AB.map', id]; done) | (congr 3; omega) | (congr 4; omega) | (simp only [List.length_append, List.length_cons, List.length_nil, List.length_set]; rfl)) (⟨by first | rfl | (simp only [AV.map, GV.map, CV.map, AB.map', id]; done) | (congr 3; omega) | (congr 4; omega) | (simp only [List.length_append, List.length_cons, List.length_nil, List.length_set]; rfl), trivial⟩) rfl
    ·
      rintro q ⟨hi0_0, hi0_1⟩
      refine AC.seq ?_
      refine AC.region ?_
      refine AL.val (Wanted.plain rfl) (g_binI rfl rfl rfl rfl) rfl rfl ?_
      refine AL.nil ?_
      refine then_ok ?_
      refine AC.seq ?_
      refine AC.cond rfl (fun hc2 => ?_) (fun hc2 => ?_)
      ·
        have hc2' := hc2; try simp only [sumB, Bool.not_eq_true', Bool.not_eq_false', Bool.or_eq_true, Bool.or_eq_false_iff, Bool.and_eq_true, Bool.and_eq_false_imp, decide_eq_true_eq, decide_eq_false_iff_not, Bool.not_not, Bool.not_true, Bool.not_false] at hc2'
        refine AC.skip ?_
        refine then_ok ?_
        refine AC.seq ?_
        refine AC.block ?_
        refine AC.seq ?_
        refine AC.region ?_
        refine AL.fast 1 rfl ?_
        obtain ⟨x1, hx1⟩ := exget (xs := l) (i := q) (by first | omega | (simp; done) | (simp; omega))
        refine AL.val (Wanted.plain rfl) (g_indexQ (i := q) rfl rfl rfl Try.underlying114 sz127 (by first | omega | (simp; done) | (simp; omega)) (getmap hx1)) rfl rfl ?_
        refine AL.val (Wanted.plain rfl) (g_loadQs rfl rfl Try.underlying127 rfl sz127 rfl rfl) rfl rfl ?_
        refine AL.new (n' := 2) (Wanted.plain rfl) (g_alloc 1 rfl zv127 rfl rfl rfl) rfl rfl rfl ?_
        refine AL.fast 1 rfl ?_
        refine AL.sto (h' := [(1, (.box 127 [(cI x1.shop), (cI x1.auth), (cI x1.kind), (cI x1.sum)])), (0, (.box 47 [(cI 0), (cI 0)]))]) (Wanted.plain rfl) (g_storeB rfl rfl rfl rfl rfl sz127 rfl (Nat.le_of_ble_eq_true rfl) rfl) rfl rfl rfl rfl ?_
        refine AL.nil ?_
        refine then_ok ?_
        refine AC.seq ?_
        refine AC.cutB 23 ((decide (x1.kind < 1)) || (decide (x1.kind > 8))) ?_ ?_
        ·
          refine AC.region ?_
          refine AL.val (Wanted.plain rfl) (g_fieldP rfl rfl Try.underlying127 rfl sz3 (by decide)) rfl rfl ?_
          refine AL.val (Wanted.plain rfl) (g_loadB rfl rfl rfl Try.underlying3 rfl rfl) rfl rfl ?_
          refine AL.val (Wanted.plain rfl) (g_binI rfl rfl rfl rfl) rfl rfl ?_
          refine AL.fast 1 rfl ?_
          refine AL.dec (t := 19) rfl (fun hb3 => ?_) (fun hb3 => ?_)
          ·
            have hb3' := hb3; try simp only [sumB, Bool.not_eq_true', Bool.not_eq_false', Bool.or_eq_true, Bool.or_eq_false_iff, Bool.and_eq_true, Bool.and_eq_false_imp, decide_eq_true_eq, decide_eq_false_iff_not, Bool.not_not, Bool.not_true, Bool.not_false] at hb3'
            refine AL.fast 4 rfl ?_
            refine AL.nil ?_
            refine then_ok ?_
            exact Weak.popB 9 rfl rfl (by first | (simp [hb3]; done) | (simp_all; done) | (exfalso; simp_all; done) | (simp_all; omega)) rfl
          ·
            have hb3' := hb3; try simp only [sumB, Bool.not_eq_true', Bool.not_eq_false', Bool.or_eq_true, Bool.or_eq_false_iff, Bool.and_eq_true, Bool.and_eq_false_imp, decide_eq_true_eq, decide_eq_false_iff_not, Bool.not_not, Bool.not_true, Bool.not_false] at hb3'
            refine AL.val (Wanted.yes rfl rfl rfl) (g_fieldP rfl rfl Try.underlying127 rfl sz3 (by decide)) rfl rfl ?_
            refine AL.val (Wanted.yes rfl rfl rfl) (g_loadB rfl rfl rfl Try.underlying3 rfl rfl) rfl rfl ?_
            refine AL.val (Wanted.yes rfl rfl rfl) (g_binI rfl rfl rfl rfl) rfl rfl ?_
            refine AL.fast 1 rfl ?_
            refine AL.nil ?_
            refine then_ok ?_
            exact Weak.popB 9 rfl rfl (by first | (simp [hb3]; done) | (simp_all; done) | (exfalso; simp_all; done) | (simp_all; omega)) rfl
        ·
          refine AC.cond rfl (fun hc4 => ?_) (fun hc4 => ?_)
          ·
            have hc4' := hc4; try simp only [sumB, Bool.not_eq_true', Bool.not_eq_false', Bool.or_eq_true, Bool.or_eq_false_iff, Bool.and_eq_true, Bool.and_eq_false_imp, decide_eq_true_eq, decide_eq_false_iff_not, Bool.not_not, Bool.not_true, Bool.not_false] at hc4'
            refine AC.seq ?_
            refine AC.region ?_
            refine AL.fast 1 rfl ?_
            refine AL.val (Wanted.plain rfl) (g_build (ys := [(0, (.c (cI 1))), (1, (.c (cI (↑q : Int))))]) rfl bld47 rfl ⟨⟨rfl, rfl⟩, ⟨rfl, rfl⟩,  trivial⟩ rfl rfl) rfl rfl ?_
            refine AL.sto (h' := [(1, (.box 127 [(cI x1.shop), (cI x1.auth), (cI x1.kind), (cI x1.sum)])), (0, (.box 47 [(cI 1), (cI (↑q : Int))]))]) (Wanted.plain rfl) (g_storeB rfl rfl rfl rfl rfl sz47 rfl (Nat.le_of_ble_eq_true rfl) rfl) rfl rfl rfl rfl ?_
            refine AL.nil ?_
            refine then_ok ?_
            refine AC.ret ?_
            refine then_ret ?_
            refine block_ret ?_
            refine then_ret ?_
            refine then_ret ?_
            refine block_ret ?_
            refine then_ret ?_
            have hX : wrongR l = (⟨1, (↑q : Int)⟩ : Fault) := by
              unfold wrongR; rw [if_neg (by omega), hi0_1, rErr_drop hx1, if_pos (by unfold badK; omega)]
            rw [hX] at hr; clear hX
            subst hr
            refine retQ_mk (av' := outOf [(.g [(cI 1), (cI (↑q : Int))])]) (nb' := []) (retQ_ret ⟨[(2, (aC (.p 0 0 0 0)))], [(0, (.box 47 [(cI 1), (cI (↑q : Int))]))], 1⟩ [.cell 2 47] [(.g [(cI 1), (cI (↑q : Int))])] (Weak.ren id (⟨by first | rfl | (simp only [AV.map, GV.map, CV.map, AB.map', id]; done) | (congr 3; omega) | (congr 4; omega) | (simp only [List.length_append, List.length_cons, List.length_nil, List.length_set]; rfl), trivial⟩) (⟨by first | rfl | (simp only [AV.map, GV.map, CV.map, AB.map', id]; done) | (congr 3; omega) | (congr 4; omega) | (simp only [List.length_append, List.length_cons, List.length_nil, List.length_set]; rfl), trivial⟩) rfl) rfl ⟨.agg rfl rfl (fun _ => run_isAgg Try.underlying47) sz47, trivial⟩ trivial) ?_ ?_
            · first | rfl | (simp [outOf, aC]; done) | (simp [outOf, aC]; omega)
            · first | rfl | (simp; done) | (simp; omega)
          ·
            have hc4' := hc4; try simp only [sumB, Bool.not_eq_true', Bool.not_eq_false', Bool.or_eq_true, Bool.or_eq_false_iff, Bool.and_eq_true, Bool.and_eq_false_imp, decide_eq_true_eq, decide_eq_false_iff_not, Bool.not_not, Bool.not_true, Bool.not_false] at hc4'
            refine AC.skip ?_
            refine then_ok ?_
            refine AC.cutB 53 ((((((decide (x1.shop < 0)) || (decide (x1.shop ≥ 8))) || (decide (x1.auth < 0))) || (decide (x1.auth ≥ 30))) || (decide (x1.sum < 1))) || (decide (x1.sum > 1000000))) ?_ ?_
            ·
              refine AC.region ?_
              refine AL.val (Wanted.plain rfl) (g_fieldP rfl rfl Try.underlying127 rfl sz3 (by decide)) rfl rfl ?_
              refine AL.val (Wanted.plain rfl) (g_loadB rfl rfl rfl Try.underlying3 rfl rfl) rfl rfl ?_
              refine AL.val (Wanted.plain rfl) (g_binI rfl rfl rfl rfl) rfl rfl ?_
              refine AL.fast 1 rfl ?_
              refine AL.dec (t := 29) rfl (fun hb5 => ?_) (fun hb5 => ?_)
              ·
                have hb5' := hb5; try simp only [sumB, Bool.not_eq_true', Bool.not_eq_false', Bool.or_eq_true, Bool.or_eq_false_iff, Bool.and_eq_true, Bool.and_eq_false_imp, decide_eq_true_eq, decide_eq_false_iff_not, Bool.not_not, Bool.not_true, Bool.not_false] at hb5'
                refine AL.fast 24 rfl ?_
                refine AL.nil ?_
                refine then_ok ?_
                exact Weak.popB 29 rfl rfl (by first | (simp [hb5]; done) | (simp_all; done) | (exfalso; simp_all; done) | (simp_all; omega)) rfl
              ·
                have hb5' := hb5; try simp only [sumB, Bool.not_eq_true', Bool.not_eq_false', Bool.or_eq_true, Bool.or_eq_false_iff, Bool.and_eq_true, Bool.and_eq_false_imp, decide_eq_true_eq, decide_eq_false_iff_not, Bool.not_not, Bool.not_true, Bool.not_false] at hb5'
                refine AL.val (Wanted.yes rfl rfl rfl) (g_fieldP rfl rfl Try.underlying127 rfl sz3 (by decide)) rfl rfl ?_
                refine AL.val (Wanted.yes rfl rfl rfl) (g_loadB rfl rfl rfl Try.underlying3 rfl rfl) rfl rfl ?_
                refine AL.val (Wanted.yes rfl rfl rfl) (g_binI rfl rfl rfl rfl) rfl rfl ?_
                refine AL.fast 2 rfl ?_
                refine AL.dec (t := 34) rfl (fun hb6 => ?_) (fun hb6 => ?_)
                ·
                  have hb6' := hb6; try simp only [sumB, Bool.not_eq_true', Bool.not_eq_false', Bool.or_eq_true, Bool.or_eq_false_iff, Bool.and_eq_true, Bool.and_eq_false_imp, decide_eq_true_eq, decide_eq_false_iff_not, Bool.not_not, Bool.not_true, Bool.not_false] at hb6'
                  refine AL.fast 19 rfl ?_
                  refine AL.nil ?_
                  refine then_ok ?_
                  exact Weak.popB 30 rfl rfl (by first | (simp [hb5, hb6]; done) | (simp_all; done) | (exfalso; simp_all; done) | (simp_all; omega)) rfl
                ·
                  have hb6' := hb6; try simp only [sumB, Bool.not_eq_true', Bool.not_eq_false', Bool.or_eq_true, Bool.or_eq_false_iff, Bool.and_eq_true, Bool.and_eq_false_imp, decide_eq_true_eq, decide_eq_false_iff_not, Bool.not_not, Bool.not_true, Bool.not_false] at hb6'
                  refine AL.val (Wanted.yes rfl rfl rfl) (g_fieldP rfl rfl Try.underlying127 rfl sz3 (by decide)) rfl rfl ?_
                  refine AL.val (Wanted.yes rfl rfl rfl) (g_loadB rfl rfl rfl Try.underlying3 rfl rfl) rfl rfl ?_
                  refine AL.val (Wanted.yes rfl rfl rfl) (g_binI rfl rfl rfl rfl) rfl rfl ?_
                  refine AL.fast 2 rfl ?_
                  refine AL.dec (t := 39) rfl (fun hb7 => ?_) (fun hb7 => ?_)
                  ·
                    have hb7' := hb7; try simp only [sumB, Bool.not_eq_true', Bool.not_eq_false', Bool.or_eq_true, Bool.or_eq_false_iff, Bool.and_eq_true, Bool.and_eq_false_imp, decide_eq_true_eq, decide_eq_false_iff_not, Bool.not_not, Bool.not_true, Bool.not_false] at hb7'
                    refine AL.fast 14 rfl ?_
                    refine AL.nil ?_
                    refine then_ok ?_
                    exact Weak.popB 31 rfl rfl (by first | (simp [hb5, hb6, hb7]; done) | (simp_all; done) | (exfalso; simp_all; done) | (simp_all; omega)) rfl
                  ·
                    have hb7' := hb7; try simp only [sumB, Bool.not_eq_true', Bool.not_eq_false', Bool.or_eq_true, Bool.or_eq_false_iff, Bool.and_eq_true, Bool.and_eq_false_imp, decide_eq_true_eq, decide_eq_false_iff_not, Bool.not_not, Bool.not_true, Bool.not_false] at hb7'
                    refine AL.val (Wanted.yes rfl rfl rfl) (g_fieldP rfl rfl Try.underlying127 rfl sz3 (by decide)) rfl rfl ?_
                    refine AL.val (Wanted.yes rfl rfl rfl) (g_loadB rfl rfl rfl Try.underlying3 rfl rfl) rfl rfl ?_
                    refine AL.val (Wanted.yes rfl rfl rfl) (g_binI rfl rfl rfl rfl) rfl rfl ?_
                    refine AL.fast 2 rfl ?_
                    refine AL.dec (t := 44) rfl (fun hb8 => ?_) (fun hb8 => ?_)
                    ·
                      have hb8' := hb8; try simp only [sumB, Bool.not_eq_true', Bool.not_eq_false', Bool.or_eq_true, Bool.or_eq_false_iff, Bool.and_eq_true, Bool.and_eq_false_imp, decide_eq_true_eq, decide_eq_false_iff_not, Bool.not_not, Bool.not_true, Bool.not_false] at hb8'
                      refine AL.fast 9 rfl ?_
                      refine AL.nil ?_
                      refine then_ok ?_
                      exact Weak.popB 32 rfl rfl (by first | (simp [hb5, hb6, hb7, hb8]; done) | (simp_all; done) | (exfalso; simp_all; done) | (simp_all; omega)) rfl
                    ·
                      have hb8' := hb8; try simp only [sumB, Bool.not_eq_true', Bool.not_eq_false', Bool.or_eq_true, Bool.or_eq_false_iff, Bool.and_eq_true, Bool.and_eq_false_imp, decide_eq_true_eq, decide_eq_false_iff_not, Bool.not_not, Bool.not_true, Bool.not_false] at hb8'
                      refine AL.val (Wanted.yes rfl rfl rfl) (g_fieldP rfl rfl Try.underlying127 rfl sz3 (by decide)) rfl rfl ?_
                      refine AL.val (Wanted.yes rfl rfl rfl) (g_loadB rfl rfl rfl Try.underlying3 rfl rfl) rfl rfl ?_
                      refine AL.val (Wanted.yes rfl rfl rfl) (g_binI rfl rfl rfl rfl) rfl rfl ?_
                      refine AL.fast 2 rfl ?_
                      refine AL.dec (t := 49) rfl (fun hb9 => ?_) (fun hb9 => ?_)
                      ·
                        have hb9' := hb9; try simp only [sumB, Bool.not_eq_true', Bool.not_eq_false', Bool.or_eq_true, Bool.or_eq_false_iff, Bool.and_eq_true, Bool.and_eq_false_imp, decide_eq_true_eq, decide_eq_false_iff_not, Bool.not_not, Bool.not_true, Bool.not_false] at hb9'
                        refine AL.fast 4 rfl ?_
                        refine AL.nil ?_
                        refine then_ok ?_
                        exact Weak.popB 33 rfl rfl (by first | (simp [hb5, hb6, hb7, hb8, hb9]; done) | (simp_all; done) | (exfalso; simp_all; done) | (simp_all; omega)) rfl
                      ·
                        have hb9' := hb9; try simp only [sumB, Bool.not_eq_true', Bool.not_eq_false', Bool.or_eq_true, Bool.or_eq_false_iff, Bool.and_eq_true, Bool.and_eq_false_imp, decide_eq_true_eq, decide_eq_false_iff_not, Bool.not_not, Bool.not_true, Bool.not_false] at hb9'
                        refine AL.val (Wanted.yes rfl rfl rfl) (g_fieldP rfl rfl Try.underlying127 rfl sz3 (by decide)) rfl rfl ?_
                        refine AL.val (Wanted.yes rfl rfl rfl) (g_loadB rfl rfl rfl Try.underlying3 rfl rfl) rfl rfl ?_
                        refine AL.val (Wanted.yes rfl rfl rfl) (g_binI rfl rfl rfl rfl) rfl rfl ?_
                        refine AL.fast 1 rfl ?_
                        refine AL.nil ?_
                        refine then_ok ?_
                        exact Weak.popB 33 rfl rfl (by first | (simp [hb5, hb6, hb7, hb8, hb9]; done) | (simp_all; done) | (exfalso; simp_all; done) | (simp_all; omega)) rfl
            ·
              refine AC.cond rfl (fun hc10 => ?_) (fun hc10 => ?_)
              ·
                have hc10' := hc10; try simp only [sumB, Bool.not_eq_true', Bool.not_eq_false', Bool.or_eq_true, Bool.or_eq_false_iff, Bool.and_eq_true, Bool.and_eq_false_imp, decide_eq_true_eq, decide_eq_false_iff_not, Bool.not_not, Bool.not_true, Bool.not_false] at hc10'
                refine AC.seq ?_
                refine AC.region ?_
                refine AL.fast 1 rfl ?_
                refine AL.val (Wanted.plain rfl) (g_build (ys := [(0, (.c (cI 3))), (1, (.c (cI (↑q : Int))))]) rfl bld47 rfl ⟨⟨rfl, rfl⟩, ⟨rfl, rfl⟩,  trivial⟩ rfl rfl) rfl rfl ?_
                refine AL.sto (h' := [(1, (.box 127 [(cI x1.shop), (cI x1.auth), (cI x1.kind), (cI x1.sum)])), (0, (.box 47 [(cI 3), (cI (↑q : Int))]))]) (Wanted.plain rfl) (g_storeB rfl rfl rfl rfl rfl sz47 rfl (Nat.le_of_ble_eq_true rfl) rfl) rfl rfl rfl rfl ?_
                refine AL.nil ?_
                refine then_ok ?_
                refine AC.ret ?_
                refine block_ret ?_
                refine then_ret ?_
                refine then_ret ?_
                refine block_ret ?_
                refine then_ret ?_
                have hX : wrongR l = (⟨3, (↑q : Int)⟩ : Fault) := by
                  unfold wrongR; rw [if_neg (by omega), hi0_1, rErr_drop hx1, if_neg (by unfold badK; omega), if_pos (by unfold badR; omega)]
                rw [hX] at hr; clear hX
                subst hr
                refine retQ_mk (av' := outOf [(.g [(cI 3), (cI (↑q : Int))])]) (nb' := []) (retQ_ret ⟨[(2, (aC (.p 0 0 0 0)))], [(0, (.box 47 [(cI 3), (cI (↑q : Int))]))], 1⟩ [.cell 2 47] [(.g [(cI 3), (cI (↑q : Int))])] (Weak.ren id (⟨by first | rfl | (simp only [AV.map, GV.map, CV.map, AB.map', id]; done) | (congr 3; omega) | (congr 4; omega) | (simp only [List.length_append, List.length_cons, List.length_nil, List.length_set]; rfl), trivial⟩) (⟨by first | rfl | (simp only [AV.map, GV.map, CV.map, AB.map', id]; done) | (congr 3; omega) | (congr 4; omega) | (simp only [List.length_append, List.length_cons, List.length_nil, List.length_set]; rfl), trivial⟩) rfl) rfl ⟨.agg rfl rfl (fun _ => run_isAgg Try.underlying47) sz47, trivial⟩ trivial) ?_ ?_
                · first | rfl | (simp [outOf, aC]; done) | (simp [outOf, aC]; omega)
                · first | rfl | (simp; done) | (simp; omega)
              ·
                have hc10' := hc10; try simp only [sumB, Bool.not_eq_true', Bool.not_eq_false', Bool.or_eq_true, Bool.or_eq_false_iff, Bool.and_eq_true, Bool.and_eq_false_imp, decide_eq_true_eq, decide_eq_false_iff_not, Bool.not_not, Bool.not_true, Bool.not_false] at hc10'
                refine AC.skip ?_
                refine block_ok ?_
                refine then_ok ?_
                refine AC.region ?_
                refine AL.val (Wanted.plain rfl) (g_binI rfl rfl rfl (wrap_ok (by first | omega | (simp; done) | (simp; omega)))) rfl rfl ?_
                refine AL.fast 1 rfl ?_
                refine AL.nil ?_
                refine then_ok ?_
                refine ⟨q + 1, ⟨by omega, by rw [hi0_1, rErr_drop hx1, if_neg (by unfold badK; omega), if_neg (by unfold badR; omega)]⟩, by first | omega | (simp; done) | (simp; omega), Weak.ren id (by refine ⟨?_, ?_, ?_, ?_,  trivial⟩ <;> first | rfl | (simp only [AV.map, GV.map, CV.map, AB.map', id]; done) | (congr 3; omega) | (congr 4; omega) | (simp only [List.length_append, List.length_cons, List.length_nil, List.length_set]; rfl)) (⟨by first | rfl | (simp only [AV.map, GV.map, CV.map, AB.map', id]; done) | (congr 3; omega) | (congr 4; omega) | (simp only [List.length_append, List.length_cons, List.length_nil, List.length_set]; rfl), trivial⟩) rfl⟩
      ·
        have hc2' := hc2; try simp only [sumB, Bool.not_eq_true', Bool.not_eq_false', Bool.or_eq_true, Bool.or_eq_false_iff, Bool.and_eq_true, Bool.and_eq_false_imp, decide_eq_true_eq, decide_eq_false_iff_not, Bool.not_not, Bool.not_true, Bool.not_false] at hc2'
        refine AC.exit ?_
        refine then_exit ?_
        refine then_exit ?_
        refine block_hit ?_
        refine then_ok ?_
        refine AC.seq ?_
        refine AC.region ?_
        refine AL.val (Wanted.plain rfl) (g_build (ys := []) rfl bld47 rfl trivial rfl rfl) rfl rfl ?_
        refine AL.sto (h' := [(0, (.box 47 [(cI 0), (cI 0)]))]) (Wanted.plain rfl) (g_storeB rfl rfl rfl rfl rfl sz47 rfl (Nat.le_of_ble_eq_true rfl) rfl) rfl rfl rfl rfl ?_
        refine AL.nil ?_
        refine then_ok ?_
        refine AC.ret ?_
        have hX : wrongR l = (⟨0, 0⟩ : Fault) := by
          unfold wrongR; rw [if_neg (by omega), hi0_1, rErr_over (by omega)]
        rw [hX] at hr; clear hX
        subst hr
        refine retQ_mk (av' := outOf [(.g [(cI 0), (cI 0)])]) (nb' := []) (retQ_ret ⟨[(2, (aC (.p 0 0 0 0)))], [(0, (.box 47 [(cI 0), (cI 0)]))], 1⟩ [.cell 2 47] [(.g [(cI 0), (cI 0)])] (Weak.ren id (⟨by first | rfl | (simp only [AV.map, GV.map, CV.map, AB.map', id]; done) | (congr 3; omega) | (congr 4; omega) | (simp only [List.length_append, List.length_cons, List.length_nil, List.length_set]; rfl), trivial⟩) (⟨by first | rfl | (simp only [AV.map, GV.map, CV.map, AB.map', id]; done) | (congr 3; omega) | (congr 4; omega) | (simp only [List.length_append, List.length_cons, List.length_nil, List.length_set]; rfl), trivial⟩) rfl) rfl ⟨.agg rfl rfl (fun _ => run_isAgg Try.underlying47) sz47, trivial⟩ trivial) ?_ ?_
        · first | rfl | (simp [outOf, aC]; done) | (simp [outOf, aC]; omega)
        · first | rfl | (simp; done) | (simp; omega)
set_option maxRecDepth 100000 in
set_option maxHeartbeats 1000000 in
theorem c_ref_WrongR (l : List Record) (f : Fault) (hr : wrongR l = f) : Fn Try.prog 92 [(.c (cR 4 ((l).map rRecord)))] (.v (.g [(cI f.err), (cI f.at_)])) [] := by
  refine Fn.mk' 59 [(0, (aC (cR 4 ((l).map rRecord))))] Try.func92 rfl rfl rfl rfl ?_
  intro W0 T0
  refine AC.len1 0 rfl (fun hlen0 => ?_)
  refine AC.seq ?_
  refine AC.region ?_
  refine AL.new (n' := 1) (Wanted.plain rfl) (g_alloc 0 rfl zv47 rfl rfl rfl) rfl rfl rfl ?_
  refine AL.nil ?_
  refine then_ok ?_
  refine AC.seq ?_
  refine AC.seq ?_
  refine AC.region ?_
  refine AL.fast 1 rfl ?_
  refine AL.val (Wanted.plain rfl) (g_lenM rfl rfl rfl rfl rfl Try.underlying114) rfl rfl ?_
  refine AL.val (Wanted.plain rfl) (g_binI rfl rfl rfl rfl) rfl rfl ?_
  refine AL.nil ?_
  refine then_ok ?_
  refine AC.cond rfl (fun hc1 => ?_) (fun hc1 => ?_)
  ·
    have hc1' := hc1; try simp only [sumB, Bool.not_eq_true', Bool.not_eq_false', Bool.or_eq_true, Bool.or_eq_false_iff, Bool.and_eq_true, Bool.and_eq_false_imp, decide_eq_true_eq, decide_eq_false_iff_not, Bool.not_not, Bool.not_true, Bool.not_false] at hc1'
    refine AC.seq ?_
    refine AC.region ?_
    refine AL.val (Wanted.plain rfl) (g_build (ys := [(0, (.c (cI 5)))]) rfl bld47 rfl ⟨⟨rfl, rfl⟩,  trivial⟩ rfl rfl) rfl rfl ?_
    refine AL.sto (h' := [(0, (.box 47 [(cI 5), (cI 0)]))]) (Wanted.plain rfl) (g_storeB rfl rfl rfl rfl rfl sz47 rfl (Nat.le_of_ble_eq_true rfl) rfl) rfl rfl rfl rfl ?_
    refine AL.nil ?_
    refine then_ok ?_
    refine AC.ret ?_
    refine then_ret ?_
    have hX : wrongR l = (⟨5, 0⟩ : Fault) := by
      unfold wrongR; rw [if_pos (by omega)]
    rw [hX] at hr; clear hX
    subst hr
    refine retQ_mk (av' := outOf [(.g [(cI 5), (cI 0)])]) (nb' := []) (retQ_ret ⟨[(2, (aC (.p 0 0 0 0)))], [(0, (.box 47 [(cI 5), (cI 0)]))], 1⟩ [.cell 2 47] [(.g [(cI 5), (cI 0)])] (Weak.ren id (⟨by first | rfl | (simp only [AV.map, GV.map, CV.map, AB.map', id]; done) | (congr 3; omega) | (congr 4; omega) | (simp only [List.length_append, List.length_cons, List.length_nil, List.length_set]; rfl), trivial⟩) (⟨by first | rfl | (simp only [AV.map, GV.map, CV.map, AB.map', id]; done) | (congr 3; omega) | (congr 4; omega) | (simp only [List.length_append, List.length_cons, List.length_nil, List.length_set]; rfl), trivial⟩) rfl) rfl ⟨.agg rfl rfl (fun _ => run_isAgg Try.underlying47) sz47, trivial⟩ trivial) ?_ ?_
    · first | rfl | (simp [outOf, aC]; done) | (simp [outOf, aC]; omega)
    · first | rfl | (simp; done) | (simp; omega)
  ·
    have hc1' := hc1; try simp only [sumB, Bool.not_eq_true', Bool.not_eq_false', Bool.or_eq_true, Bool.or_eq_false_iff, Bool.and_eq_true, Bool.and_eq_false_imp, decide_eq_true_eq, decide_eq_false_iff_not, Bool.not_not, Bool.not_true, Bool.not_false] at hc1'
    refine AC.skip ?_
    refine then_ok ?_
    refine AC.seq ?_
    refine AC.seq ?_
    refine AC.region ?_
    refine AL.fast 1 rfl ?_
    refine AL.val (Wanted.plain rfl) (g_lenM rfl rfl rfl rfl rfl Try.underlying114) rfl rfl ?_
    refine AL.fast 1 rfl ?_
    refine AL.nil ?_
    refine then_ok ?_
    refine AC.block ?_
    refine AC.loop (β := Nat) (fun (q : Nat) => ⟨[(2, (aC (.p 0 0 0 0))), (9, (aC (cR 4 ((l).map rRecord)))), (10, (aI (↑l.length : Int))), (11, (aI (↑q : Int)))], [(0, (.box 47 [(cI 0), (cI 0)]))], 1⟩) (fun (q : Nat) => q ≤ l.length ∧ rErr l 0 = rErr (l.drop q) q) (fun (q : Nat) => l.length - q) 0 ?_ ?_ ?_
    · exact ⟨by omega, rfl⟩
    · exact Weak.ren id (by refine ⟨?_, ?_, ?_, ?_,  trivial⟩ <;> first | rfl | (simp only [AV.map, GV.map, CV.map, AB.map', id]; done) | (congr 3; omega) | (congr 4; omega) | (simp only [List.length_append, List.length_cons, List.length_nil, List.length_set]; rfl)) (⟨by first | rfl | (simp only [AV.map, GV.map, CV.map, AB.map', id]; done) | (congr 3; omega) | (congr 4; omega) | (simp only [List.length_append, List.length_cons, List.length_nil, List.length_set]; rfl), trivial⟩) rfl
    ·
      rintro q ⟨hi0_0, hi0_1⟩
      refine AC.seq ?_
      refine AC.region ?_
      refine AL.val (Wanted.plain rfl) (g_binI rfl rfl rfl rfl) rfl rfl ?_
      refine AL.nil ?_
      refine then_ok ?_
      refine AC.seq ?_
      refine AC.cond rfl (fun hc2 => ?_) (fun hc2 => ?_)
      ·
        have hc2' := hc2; try simp only [sumB, Bool.not_eq_true', Bool.not_eq_false', Bool.or_eq_true, Bool.or_eq_false_iff, Bool.and_eq_true, Bool.and_eq_false_imp, decide_eq_true_eq, decide_eq_false_iff_not, Bool.not_not, Bool.not_true, Bool.not_false] at hc2'
        refine AC.skip ?_
        refine then_ok ?_
        refine AC.seq ?_
        refine AC.block ?_
        refine AC.seq ?_
        refine AC.region ?_
        refine AL.fast 1 rfl ?_
        obtain ⟨x1, hx1⟩ := exget (xs := l) (i := q) (by first | omega | (simp; done) | (simp; omega))
        refine AL.val (Wanted.plain rfl) (g_indexQ (i := q) rfl rfl rfl Try.underlying114 sz127 (by first | omega | (simp; done) | (simp; omega)) (getmap hx1)) rfl rfl ?_
        refine AL.val (Wanted.plain rfl) (g_loadQs rfl rfl Try.underlying127 rfl sz127 rfl rfl) rfl rfl ?_
        refine AL.new (n' := 2) (Wanted.plain rfl) (g_alloc 1 rfl zv127 rfl rfl rfl) rfl rfl rfl ?_
        refine AL.fast 1 rfl ?_
        refine AL.sto (h' := [(1, (.box 127 [(cI x1.shop), (cI x1.auth), (cI x1.kind), (cI x1.sum)])), (0, (.box 47 [(cI 0), (cI 0)]))]) (Wanted.plain rfl) (g_storeB rfl rfl rfl rfl rfl sz127 rfl (Nat.le_of_ble_eq_true rfl) rfl) rfl rfl rfl rfl ?_
        refine AL.nil ?_
        refine then_ok ?_
        refine AC.seq ?_
        refine AC.cutB 23 ((decide (x1.kind < 1)) || (decide (x1.kind > 8))) ?_ ?_
        ·
          refine AC.region ?_
          refine AL.val (Wanted.plain rfl) (g_fieldP rfl rfl Try.underlying127 rfl sz3 (by decide)) rfl rfl ?_
          refine AL.val (Wanted.plain rfl) (g_loadB rfl rfl rfl Try.underlying3 rfl rfl) rfl rfl ?_
          refine AL.val (Wanted.plain rfl) (g_binI rfl rfl rfl rfl) rfl rfl ?_
          refine AL.fast 1 rfl ?_
          refine AL.dec (t := 19) rfl (fun hb3 => ?_) (fun hb3 => ?_)
          ·
            have hb3' := hb3; try simp only [sumB, Bool.not_eq_true', Bool.not_eq_false', Bool.or_eq_true, Bool.or_eq_false_iff, Bool.and_eq_true, Bool.and_eq_false_imp, decide_eq_true_eq, decide_eq_false_iff_not, Bool.not_not, Bool.not_true, Bool.not_false] at hb3'
            refine AL.fast 4 rfl ?_
            refine AL.nil ?_
            refine then_ok ?_
            exact Weak.popB 9 rfl rfl (by first | (simp [hb3]; done) | (simp_all; done) | (exfalso; simp_all; done) | (simp_all; omega)) rfl
          ·
            have hb3' := hb3; try simp only [sumB, Bool.not_eq_true', Bool.not_eq_false', Bool.or_eq_true, Bool.or_eq_false_iff, Bool.and_eq_true, Bool.and_eq_false_imp, decide_eq_true_eq, decide_eq_false_iff_not, Bool.not_not, Bool.not_true, Bool.not_false] at hb3'
            refine AL.val (Wanted.yes rfl rfl rfl) (g_fieldP rfl rfl Try.underlying127 rfl sz3 (by decide)) rfl rfl ?_
            refine AL.val (Wanted.yes rfl rfl rfl) (g_loadB rfl rfl rfl Try.underlying3 rfl rfl) rfl rfl ?_
            refine AL.val (Wanted.yes rfl rfl rfl) (g_binI rfl rfl rfl rfl) rfl rfl ?_
            refine AL.fast 1 rfl ?_
            refine AL.nil ?_
            refine then_ok ?_
            exact Weak.popB 9 rfl rfl (by first | (simp [hb3]; done) | (simp_all; done) | (exfalso; simp_all; done) | (simp_all; omega)) rfl
        ·
          refine AC.cond rfl (fun hc4 => ?_) (fun hc4 => ?_)
          ·
            have hc4' := hc4; try simp only [sumB, Bool.not_eq_true', Bool.not_eq_false', Bool.or_eq_true, Bool.or_eq_false_iff, Bool.and_eq_true, Bool.and_eq_false_imp, decide_eq_true_eq, decide_eq_false_iff_not, Bool.not_not, Bool.not_true, Bool.not_false] at hc4'
            refine AC.seq ?_
            refine AC.region ?_
            refine AL.fast 1 rfl ?_
            refine AL.val (Wanted.plain rfl) (g_build (ys := [(0, (.c (cI 1))), (1, (.c (cI (↑q : Int))))]) rfl bld47 rfl ⟨⟨rfl, rfl⟩, ⟨rfl, rfl⟩,  trivial⟩ rfl rfl) rfl rfl ?_
            refine AL.sto (h' := [(1, (.box 127 [(cI x1.shop), (cI x1.auth), (cI x1.kind), (cI x1.sum)])), (0, (.box 47 [(cI 1), (cI (↑q : Int))]))]) (Wanted.plain rfl) (g_storeB rfl rfl rfl rfl rfl sz47 rfl (Nat.le_of_ble_eq_true rfl) rfl) rfl rfl rfl rfl ?_
            refine AL.nil ?_
            refine then_ok ?_
            refine AC.ret ?_
            refine then_ret ?_
            refine block_ret ?_
            refine then_ret ?_
            refine then_ret ?_
            refine block_ret ?_
            refine then_ret ?_
            have hX : wrongR l = (⟨1, (↑q : Int)⟩ : Fault) := by
              unfold wrongR; rw [if_neg (by omega), hi0_1, rErr_drop hx1, if_pos (by unfold badK; omega)]
            rw [hX] at hr; clear hX
            subst hr
            refine retQ_mk (av' := outOf [(.g [(cI 1), (cI (↑q : Int))])]) (nb' := []) (retQ_ret ⟨[(2, (aC (.p 0 0 0 0)))], [(0, (.box 47 [(cI 1), (cI (↑q : Int))]))], 1⟩ [.cell 2 47] [(.g [(cI 1), (cI (↑q : Int))])] (Weak.ren id (⟨by first | rfl | (simp only [AV.map, GV.map, CV.map, AB.map', id]; done) | (congr 3; omega) | (congr 4; omega) | (simp only [List.length_append, List.length_cons, List.length_nil, List.length_set]; rfl), trivial⟩) (⟨by first | rfl | (simp only [AV.map, GV.map, CV.map, AB.map', id]; done) | (congr 3; omega) | (congr 4; omega) | (simp only [List.length_append, List.length_cons, List.length_nil, List.length_set]; rfl), trivial⟩) rfl) rfl ⟨.agg rfl rfl (fun _ => run_isAgg Try.underlying47) sz47, trivial⟩ trivial) ?_ ?_
            · first | rfl | (simp [outOf, aC]; done) | (simp [outOf, aC]; omega)
            · first | rfl | (simp; done) | (simp; omega)
          ·
            have hc4' := hc4; try simp only [sumB, Bool.not_eq_true', Bool.not_eq_false', Bool.or_eq_true, Bool.or_eq_false_iff, Bool.and_eq_true, Bool.and_eq_false_imp, decide_eq_true_eq, decide_eq_false_iff_not, Bool.not_not, Bool.not_true, Bool.not_false] at hc4'
            refine AC.skip ?_
            refine then_ok ?_
            refine AC.cutB 54 ((((((decide (x1.shop < 0)) || (decide (x1.shop > 7))) || (decide (x1.auth < 0))) || (decide (x1.auth > 29))) || (decide (x1.sum < 1))) || (!(sumB x1.sum))) ?_ ?_
            ·
              refine AC.region ?_
              refine AL.val (Wanted.plain rfl) (g_fieldP rfl rfl Try.underlying127 rfl sz3 (by decide)) rfl rfl ?_
              refine AL.val (Wanted.plain rfl) (g_loadB rfl rfl rfl Try.underlying3 rfl rfl) rfl rfl ?_
              refine AL.val (Wanted.plain rfl) (g_binI rfl rfl rfl rfl) rfl rfl ?_
              refine AL.fast 1 rfl ?_
              refine AL.dec (t := 29) rfl (fun hb5 => ?_) (fun hb5 => ?_)
              ·
                have hb5' := hb5; try simp only [sumB, Bool.not_eq_true', Bool.not_eq_false', Bool.or_eq_true, Bool.or_eq_false_iff, Bool.and_eq_true, Bool.and_eq_false_imp, decide_eq_true_eq, decide_eq_false_iff_not, Bool.not_not, Bool.not_true, Bool.not_false] at hb5'
                refine AL.fast 25 rfl ?_
                refine AL.nil ?_
                refine then_ok ?_
                exact Weak.popB 30 rfl rfl (by first | (simp [hb5]; done) | (simp_all; done) | (exfalso; simp_all; done) | (simp_all; omega)) rfl
              ·
                have hb5' := hb5; try simp only [sumB, Bool.not_eq_true', Bool.not_eq_false', Bool.or_eq_true, Bool.or_eq_false_iff, Bool.and_eq_true, Bool.and_eq_false_imp, decide_eq_true_eq, decide_eq_false_iff_not, Bool.not_not, Bool.not_true, Bool.not_false] at hb5'
                refine AL.val (Wanted.yes rfl rfl rfl) (g_fieldP rfl rfl Try.underlying127 rfl sz3 (by decide)) rfl rfl ?_
                refine AL.val (Wanted.yes rfl rfl rfl) (g_loadB rfl rfl rfl Try.underlying3 rfl rfl) rfl rfl ?_
                refine AL.val (Wanted.yes rfl rfl rfl) (g_binI rfl rfl rfl rfl) rfl rfl ?_
                refine AL.fast 2 rfl ?_
                refine AL.dec (t := 34) rfl (fun hb6 => ?_) (fun hb6 => ?_)
                ·
                  have hb6' := hb6; try simp only [sumB, Bool.not_eq_true', Bool.not_eq_false', Bool.or_eq_true, Bool.or_eq_false_iff, Bool.and_eq_true, Bool.and_eq_false_imp, decide_eq_true_eq, decide_eq_false_iff_not, Bool.not_not, Bool.not_true, Bool.not_false] at hb6'
                  refine AL.fast 20 rfl ?_
                  refine AL.nil ?_
                  refine then_ok ?_
                  exact Weak.popB 31 rfl rfl (by first | (simp [hb5, hb6]; done) | (simp_all; done) | (exfalso; simp_all; done) | (simp_all; omega)) rfl
                ·
                  have hb6' := hb6; try simp only [sumB, Bool.not_eq_true', Bool.not_eq_false', Bool.or_eq_true, Bool.or_eq_false_iff, Bool.and_eq_true, Bool.and_eq_false_imp, decide_eq_true_eq, decide_eq_false_iff_not, Bool.not_not, Bool.not_true, Bool.not_false] at hb6'
                  refine AL.val (Wanted.yes rfl rfl rfl) (g_fieldP rfl rfl Try.underlying127 rfl sz3 (by decide)) rfl rfl ?_
                  refine AL.val (Wanted.yes rfl rfl rfl) (g_loadB rfl rfl rfl Try.underlying3 rfl rfl) rfl rfl ?_
                  refine AL.val (Wanted.yes rfl rfl rfl) (g_binI rfl rfl rfl rfl) rfl rfl ?_
                  refine AL.fast 2 rfl ?_
                  refine AL.dec (t := 39) rfl (fun hb7 => ?_) (fun hb7 => ?_)
                  ·
                    have hb7' := hb7; try simp only [sumB, Bool.not_eq_true', Bool.not_eq_false', Bool.or_eq_true, Bool.or_eq_false_iff, Bool.and_eq_true, Bool.and_eq_false_imp, decide_eq_true_eq, decide_eq_false_iff_not, Bool.not_not, Bool.not_true, Bool.not_false] at hb7'
                    refine AL.fast 15 rfl ?_
                    refine AL.nil ?_
                    refine then_ok ?_
                    exact Weak.popB 32 rfl rfl (by first | (simp [hb5, hb6, hb7]; done) | (simp_all; done) | (exfalso; simp_all; done) | (simp_all; omega)) rfl
                  ·
                    have hb7' := hb7; try simp only [sumB, Bool.not_eq_true', Bool.not_eq_false', Bool.or_eq_true, Bool.or_eq_false_iff, Bool.and_eq_true, Bool.and_eq_false_imp, decide_eq_true_eq, decide_eq_false_iff_not, Bool.not_not, Bool.not_true, Bool.not_false] at hb7'
                    refine AL.val (Wanted.yes rfl rfl rfl) (g_fieldP rfl rfl Try.underlying127 rfl sz3 (by decide)) rfl rfl ?_
                    refine AL.val (Wanted.yes rfl rfl rfl) (g_loadB rfl rfl rfl Try.underlying3 rfl rfl) rfl rfl ?_
                    refine AL.val (Wanted.yes rfl rfl rfl) (g_binI rfl rfl rfl rfl) rfl rfl ?_
                    refine AL.fast 2 rfl ?_
                    refine AL.dec (t := 44) rfl (fun hb8 => ?_) (fun hb8 => ?_)
                    ·
                      have hb8' := hb8; try simp only [sumB, Bool.not_eq_true', Bool.not_eq_false', Bool.or_eq_true, Bool.or_eq_false_iff, Bool.and_eq_true, Bool.and_eq_false_imp, decide_eq_true_eq, decide_eq_false_iff_not, Bool.not_not, Bool.not_true, Bool.not_false] at hb8'
                      refine AL.fast 10 rfl ?_
                      refine AL.nil ?_
                      refine then_ok ?_
                      exact Weak.popB 33 rfl rfl (by first | (simp [hb5, hb6, hb7, hb8]; done) | (simp_all; done) | (exfalso; simp_all; done) | (simp_all; omega)) rfl
                    ·
                      have hb8' := hb8; try simp only [sumB, Bool.not_eq_true', Bool.not_eq_false', Bool.or_eq_true, Bool.or_eq_false_iff, Bool.and_eq_true, Bool.and_eq_false_imp, decide_eq_true_eq, decide_eq_false_iff_not, Bool.not_not, Bool.not_true, Bool.not_false] at hb8'
                      refine AL.val (Wanted.yes rfl rfl rfl) (g_fieldP rfl rfl Try.underlying127 rfl sz3 (by decide)) rfl rfl ?_
                      refine AL.val (Wanted.yes rfl rfl rfl) (g_loadB rfl rfl rfl Try.underlying3 rfl rfl) rfl rfl ?_
                      refine AL.val (Wanted.yes rfl rfl rfl) (g_binI rfl rfl rfl rfl) rfl rfl ?_
                      refine AL.fast 2 rfl ?_
                      refine AL.dec (t := 49) rfl (fun hb9 => ?_) (fun hb9 => ?_)
                      ·
                        have hb9' := hb9; try simp only [sumB, Bool.not_eq_true', Bool.not_eq_false', Bool.or_eq_true, Bool.or_eq_false_iff, Bool.and_eq_true, Bool.and_eq_false_imp, decide_eq_true_eq, decide_eq_false_iff_not, Bool.not_not, Bool.not_true, Bool.not_false] at hb9'
                        refine AL.fast 5 rfl ?_
                        refine AL.nil ?_
                        refine then_ok ?_
                        exact Weak.popB 34 rfl rfl (by first | (simp [hb5, hb6, hb7, hb8, hb9]; done) | (simp_all; done) | (exfalso; simp_all; done) | (simp_all; omega)) rfl
                      ·
                        have hb9' := hb9; try simp only [sumB, Bool.not_eq_true', Bool.not_eq_false', Bool.or_eq_true, Bool.or_eq_false_iff, Bool.and_eq_true, Bool.and_eq_false_imp, decide_eq_true_eq, decide_eq_false_iff_not, Bool.not_not, Bool.not_true, Bool.not_false] at hb9'
                        refine AL.val (Wanted.yes rfl rfl rfl) (g_fieldP rfl rfl Try.underlying127 rfl sz3 (by decide)) rfl rfl ?_
                        refine AL.val (Wanted.yes rfl rfl rfl) (g_loadB rfl rfl rfl Try.underlying3 rfl rfl) rfl rfl ?_
                        refine AL.call (n' := 2) (h' := [(1, (.box 127 [(cI x1.shop), (cI x1.auth), (cI x1.kind), (cI x1.sum)])), (0, (.box 47 [(cI 0), (cI 0)]))]) (Wanted.yes rfl rfl rfl) (g_call 2 (c_sum x1.sum  ) en103 rfl rfl ⟨⟨_, rfl, .c (.d _)⟩,  trivial⟩ trivial trivial rfl rfl rfl rfl) rfl rfl rfl rfl rfl ?_
                        refine AL.val (Wanted.yes rfl rfl rfl) (g_notB rfl rfl) rfl rfl ?_
                        refine AL.fast 1 rfl ?_
                        refine AL.nil ?_
                        refine then_ok ?_
                        exact Weak.popB 34 rfl rfl (by first | (simp [hb5, hb6, hb7, hb8, hb9]; done) | (simp_all; done) | (exfalso; simp_all; done) | (simp_all; omega)) rfl
            ·
              refine AC.cond rfl (fun hc10 => ?_) (fun hc10 => ?_)
              ·
                have hc10' := hc10; try simp only [sumB, Bool.not_eq_true', Bool.not_eq_false', Bool.or_eq_true, Bool.or_eq_false_iff, Bool.and_eq_true, Bool.and_eq_false_imp, decide_eq_true_eq, decide_eq_false_iff_not, Bool.not_not, Bool.not_true, Bool.not_false] at hc10'
                refine AC.seq ?_
                refine AC.region ?_
                refine AL.fast 1 rfl ?_
                refine AL.val (Wanted.plain rfl) (g_build (ys := [(0, (.c (cI 3))), (1, (.c (cI (↑q : Int))))]) rfl bld47 rfl ⟨⟨rfl, rfl⟩, ⟨rfl, rfl⟩,  trivial⟩ rfl rfl) rfl rfl ?_
                refine AL.sto (h' := [(1, (.box 127 [(cI x1.shop), (cI x1.auth), (cI x1.kind), (cI x1.sum)])), (0, (.box 47 [(cI 3), (cI (↑q : Int))]))]) (Wanted.plain rfl) (g_storeB rfl rfl rfl rfl rfl sz47 rfl (Nat.le_of_ble_eq_true rfl) rfl) rfl rfl rfl rfl ?_
                refine AL.nil ?_
                refine then_ok ?_
                refine AC.ret ?_
                refine block_ret ?_
                refine then_ret ?_
                refine then_ret ?_
                refine block_ret ?_
                refine then_ret ?_
                have hX : wrongR l = (⟨3, (↑q : Int)⟩ : Fault) := by
                  unfold wrongR; rw [if_neg (by omega), hi0_1, rErr_drop hx1, if_neg (by unfold badK; omega), if_pos (by unfold badR; omega)]
                rw [hX] at hr; clear hX
                subst hr
                refine retQ_mk (av' := outOf [(.g [(cI 3), (cI (↑q : Int))])]) (nb' := []) (retQ_ret ⟨[(2, (aC (.p 0 0 0 0)))], [(0, (.box 47 [(cI 3), (cI (↑q : Int))]))], 1⟩ [.cell 2 47] [(.g [(cI 3), (cI (↑q : Int))])] (Weak.ren id (⟨by first | rfl | (simp only [AV.map, GV.map, CV.map, AB.map', id]; done) | (congr 3; omega) | (congr 4; omega) | (simp only [List.length_append, List.length_cons, List.length_nil, List.length_set]; rfl), trivial⟩) (⟨by first | rfl | (simp only [AV.map, GV.map, CV.map, AB.map', id]; done) | (congr 3; omega) | (congr 4; omega) | (simp only [List.length_append, List.length_cons, List.length_nil, List.length_set]; rfl), trivial⟩) rfl) rfl ⟨.agg rfl rfl (fun _ => run_isAgg Try.underlying47) sz47, trivial⟩ trivial) ?_ ?_
                · first | rfl | (simp [outOf, aC]; done) | (simp [outOf, aC]; omega)
                · first | rfl | (simp; done) | (simp; omega)
              ·
                have hc10' := hc10; try simp only [sumB, Bool.not_eq_true', Bool.not_eq_false', Bool.or_eq_true, Bool.or_eq_false_iff, Bool.and_eq_true, Bool.and_eq_false_imp, decide_eq_true_eq, decide_eq_false_iff_not, Bool.not_not, Bool.not_true, Bool.not_false] at hc10'
                refine AC.skip ?_
                refine block_ok ?_
                refine then_ok ?_
                refine AC.region ?_
                refine AL.val (Wanted.plain rfl) (g_binI rfl rfl rfl (wrap_ok (by first | omega | (simp; done) | (simp; omega)))) rfl rfl ?_
                refine AL.fast 1 rfl ?_
                refine AL.nil ?_
                refine then_ok ?_
                refine ⟨q + 1, ⟨by omega, by rw [hi0_1, rErr_drop hx1, if_neg (by unfold badK; omega), if_neg (by unfold badR; omega)]⟩, by first | omega | (simp; done) | (simp; omega), Weak.ren id (by refine ⟨?_, ?_, ?_, ?_,  trivial⟩ <;> first | rfl | (simp only [AV.map, GV.map, CV.map, AB.map', id]; done) | (congr 3; omega) | (congr 4; omega) | (simp only [List.length_append, List.length_cons, List.length_nil, List.length_set]; rfl)) (⟨by first | rfl | (simp only [AV.map, GV.map, CV.map, AB.map', id]; done) | (congr 3; omega) | (congr 4; omega) | (simp only [List.length_append, List.length_cons, List.length_nil, List.length_set]; rfl), trivial⟩) rfl⟩
      ·
        have hc2' := hc2; try simp only [sumB, Bool.not_eq_true', Bool.not_eq_false', Bool.or_eq_true, Bool.or_eq_false_iff, Bool.and_eq_true, Bool.and_eq_false_imp, decide_eq_true_eq, decide_eq_false_iff_not, Bool.not_not, Bool.not_true, Bool.not_false] at hc2'
        refine AC.exit ?_
        refine then_exit ?_
        refine then_exit ?_
        refine block_hit ?_
        refine then_ok ?_
        refine AC.seq ?_
        refine AC.region ?_
        refine AL.val (Wanted.plain rfl) (g_build (ys := []) rfl bld47 rfl trivial rfl rfl) rfl rfl ?_
        refine AL.sto (h' := [(0, (.box 47 [(cI 0), (cI 0)]))]) (Wanted.plain rfl) (g_storeB rfl rfl rfl rfl rfl sz47 rfl (Nat.le_of_ble_eq_true rfl) rfl) rfl rfl rfl rfl ?_
        refine AL.nil ?_
        refine then_ok ?_
        refine AC.ret ?_
        have hX : wrongR l = (⟨0, 0⟩ : Fault) := by
          unfold wrongR; rw [if_neg (by omega), hi0_1, rErr_over (by omega)]
        rw [hX] at hr; clear hX
        subst hr
        refine retQ_mk (av' := outOf [(.g [(cI 0), (cI 0)])]) (nb' := []) (retQ_ret ⟨[(2, (aC (.p 0 0 0 0)))], [(0, (.box 47 [(cI 0), (cI 0)]))], 1⟩ [.cell 2 47] [(.g [(cI 0), (cI 0)])] (Weak.ren id (⟨by first | rfl | (simp only [AV.map, GV.map, CV.map, AB.map', id]; done) | (congr 3; omega) | (congr 4; omega) | (simp only [List.length_append, List.length_cons, List.length_nil, List.length_set]; rfl), trivial⟩) (⟨by first | rfl | (simp only [AV.map, GV.map, CV.map, AB.map', id]; done) | (congr 3; omega) | (congr 4; omega) | (simp only [List.length_append, List.length_cons, List.length_nil, List.length_set]; rfl), trivial⟩) rfl) rfl ⟨.agg rfl rfl (fun _ => run_isAgg Try.underlying47) sz47, trivial⟩ trivial) ?_ ?_
        · first | rfl | (simp [outOf, aC]; done) | (simp [outOf, aC]; omega)
        · first | rfl | (simp; done) | (simp; omega)
set_option maxRecDepth 100000 in
set_option maxHeartbeats 1000000 in
theorem c_SameRecords (a b : List Record) (r : Bool) (hr : sameList a b = r) : Fn Try.prog 93 [(.c (cR 4 ((a).map rRecord))), (.c (cR 4 ((b).map rRecord)))] (.v (.c (cB r))) [] := by
  refine Fn.mk' 26 [(0, (aC (cR 4 ((a).map rRecord)))), (1, (aC (cR 4 ((b).map rRecord))))] Try.func93 rfl rfl rfl rfl ?_
  intro W0 T0
  refine AC.len1 0 rfl (fun hlen0 => ?_)
  refine AC.len1 1 rfl (fun hlen1 => ?_)
  refine AC.seq ?_
  refine AC.region ?_
  refine AL.fast 1 rfl ?_
  refine AL.nil ?_
  refine then_ok ?_
  refine AC.seq ?_
  refine AC.seq ?_
  refine AC.region ?_
  refine AL.fast 1 rfl ?_
  refine AL.val (Wanted.plain rfl) (g_lenM rfl rfl rfl rfl rfl Try.underlying114) rfl rfl ?_
  refine AL.fast 1 rfl ?_
  refine AL.val (Wanted.plain rfl) (g_lenM rfl rfl rfl rfl rfl Try.underlying114) rfl rfl ?_
  refine AL.val (Wanted.plain rfl) (g_binI rfl rfl rfl rfl) rfl rfl ?_
  refine AL.nil ?_
  refine then_ok ?_
  refine AC.cond rfl (fun hc1 => ?_) (fun hc1 => ?_)
  ·
    have hc1' := hc1; try simp only [sumB, Bool.not_eq_true', Bool.not_eq_false', Bool.or_eq_true, Bool.or_eq_false_iff, Bool.and_eq_true, Bool.and_eq_false_imp, decide_eq_true_eq, decide_eq_false_iff_not, Bool.not_not, Bool.not_true, Bool.not_false] at hc1'
    refine AC.seq ?_
    refine AC.region ?_
    refine AL.fast 1 rfl ?_
    refine AL.nil ?_
    refine then_ok ?_
    refine AC.ret ?_
    refine then_ret ?_
    have hX : sameList a b = false := by
      exact same_no (by omega)
    rw [hX] at hr; clear hX
    subst hr
    refine retQ_mk (av' := outOf [(.c (cB false))]) (nb' := []) (retQ_ret ⟨[(4, (aB false))], [], 0⟩ [.tmp 4] [(.c (cB false))] (Weak.ren id (⟨by first | rfl | (simp only [AV.map, GV.map, CV.map, AB.map', id]; done) | (congr 3; omega) | (congr 4; omega) | (simp only [List.length_append, List.length_cons, List.length_nil, List.length_set]; rfl), trivial⟩) (trivial) rfl) rfl ⟨.tmp rfl, trivial⟩ trivial) ?_ ?_
    · first | rfl | (simp [outOf, aC]; done) | (simp [outOf, aC]; omega)
    · first | rfl | (simp; done) | (simp; omega)
  ·
    have hc1' := hc1; try simp only [sumB, Bool.not_eq_true', Bool.not_eq_false', Bool.or_eq_true, Bool.or_eq_false_iff, Bool.and_eq_true, Bool.and_eq_false_imp, decide_eq_true_eq, decide_eq_false_iff_not, Bool.not_not, Bool.not_true, Bool.not_false] at hc1'
    refine AC.skip ?_
    refine then_ok ?_
    refine AC.seq ?_
    refine AC.seq ?_
    refine AC.region ?_
    refine AL.fast 1 rfl ?_
    refine AL.val (Wanted.plain rfl) (g_lenM rfl rfl rfl rfl rfl Try.underlying114) rfl rfl ?_
    refine AL.fast 1 rfl ?_
    refine AL.nil ?_
    refine then_ok ?_
    refine AC.block ?_
    refine AC.loop (β := Nat) (fun (q : Nat) => ⟨[(0, (aC (cR 4 ((a).map rRecord)))), (1, (aC (cR 4 ((b).map rRecord)))), (12, (aI (↑a.length : Int))), (13, (aI (↑q : Int)))], [], 0⟩) (fun (q : Nat) => q ≤ a.length ∧ a.take q = b.take q) (fun (q : Nat) => a.length - q) 0 ?_ ?_ ?_
    · exact ⟨by omega, rfl⟩
    · exact Weak.ren id (by refine ⟨?_, ?_, ?_, ?_,  trivial⟩ <;> first | rfl | (simp only [AV.map, GV.map, CV.map, AB.map', id]; done) | (congr 3; omega) | (congr 4; omega) | (simp only [List.length_append, List.length_cons, List.length_nil, List.length_set]; rfl)) (trivial) rfl
    ·
      rintro q ⟨hi0_0, hi0_1⟩
      refine AC.seq ?_
      refine AC.region ?_
      refine AL.val (Wanted.plain rfl) (g_binI rfl rfl rfl rfl) rfl rfl ?_
      refine AL.nil ?_
      refine then_ok ?_
      refine AC.seq ?_
      refine AC.cond rfl (fun hc2 => ?_) (fun hc2 => ?_)
      ·
        have hc2' := hc2; try simp only [sumB, Bool.not_eq_true', Bool.not_eq_false', Bool.or_eq_true, Bool.or_eq_false_iff, Bool.and_eq_true, Bool.and_eq_false_imp, decide_eq_true_eq, decide_eq_false_iff_not, Bool.not_not, Bool.not_true, Bool.not_false] at hc2'
        refine AC.skip ?_
        refine then_ok ?_
        refine AC.seq ?_
        refine AC.block ?_
        refine AC.seq ?_
        refine AC.region ?_
        refine AL.fast 2 rfl ?_
        refine AL.nil ?_
        refine then_ok ?_
        refine AC.seq ?_
        obtain ⟨x1, hx1⟩ := exget (xs := a) (i := q) (by first | omega | (simp; done) | (simp; omega))
        obtain ⟨x2, hx2⟩ := exget (xs := b) (i := q) (by first | omega | (simp; done) | (simp; omega))
        refine AC.weak (st' := ⟨[(0, (aC (cR 4 ((a).map rRecord)))), (1, (aC (cR 4 ((b).map rRecord)))), (12, (aI (↑a.length : Int))), (13, (aI (↑q : Int))), (5, (aI (↑q : Int)))], [], 0⟩) (Weak.ren id (by refine ⟨?_, ?_, ?_, ?_, ?_,  trivial⟩ <;> first | rfl | (simp only [AV.map, GV.map, CV.map, AB.map', id]; done) | (congr 3; omega) | (congr 4; omega) | (simp only [List.length_append, List.length_cons, List.length_nil, List.length_set]; rfl)) (trivial) rfl) ?_
        refine AC.draw [⟨some 16, (aC (cR 4 ((a).map rRecord))), [], [], [], [(0, (aC (cR 4 ((a).map rRecord))))], []⟩,
      ⟨some 17, (aI (↑q : Int)), [], [], [], [(5, (aI (↑q : Int)))], []⟩,
      ⟨some 18, (aC (.q (rRecord x1) 0)), [], [], [0, 1], [(16, (aC (cR 4 ((a).map rRecord)))), (17, (aI (↑q : Int)))], []⟩,
      ⟨some 19, (aG [(cI x1.shop), (cI x1.auth), (cI x1.kind), (cI x1.sum)]), [], [], [2], [(18, (aC (.q (rRecord x1) 0)))], []⟩,
      ⟨some 20, (aC (cR 4 ((b).map rRecord))), [], [], [], [(1, (aC (cR 4 ((b).map rRecord))))], []⟩,
      ⟨some 21, (aI (↑q : Int)), [], [], [], [(5, (aI (↑q : Int)))], []⟩,
      ⟨some 22, (aC (.q (rRecord x2) 0)), [], [], [4, 5], [(20, (aC (cR 4 ((b).map rRecord)))), (21, (aI (↑q : Int)))], []⟩,
      ⟨some 23, (aG [(cI x2.shop), (cI x2.auth), (cI x2.kind), (cI x2.sum)]), [], [], [6], [(22, (aC (.q (rRecord x2) 0)))], []⟩,
      ⟨some 24, (aB (!(sameL [.int .i64 x1.shop, .int .i64 x1.auth, .int .i64 x1.kind, .int .i64 x1.sum] [.int .i64 x2.shop, .int .i64 x2.auth, .int .i64 x2.kind, .int .i64 x2.sum]))), [], [], [3, 7], [(19, (aG [(cI x1.shop), (cI x1.auth), (cI x1.kind), (cI x1.sum)])), (23, (aG [(cI x2.shop), (cI x2.auth), (cI x2.kind), (cI x2.sum)]))], []⟩] ⟨[(0, (aC (cR 4 ((a).map rRecord)))), (1, (aC (cR 4 ((b).map rRecord)))), (12, (aI (↑a.length : Int))), (13, (aI (↑q : Int))), (5, (aI (↑q : Int))), (24, (aB (!(sameL [.int .i64 x1.shop, .int .i64 x1.auth, .int .i64 x1.kind, .int .i64 x1.sum] [.int .i64 x2.shop, .int .i64 x2.auth, .int .i64 x2.kind, .int .i64 x2.sum]))))], [], 0⟩ mixed (by kernel_rfl) ?_ ?_ ?_ ?_
        · exact ⟨.inl ⟨(Wanted.plain rfl), GOp.cast (g_move rfl rfl) rfl⟩,
      .inl ⟨(Wanted.plain rfl), GOp.cast (g_move rfl rfl) rfl⟩,
      .inl ⟨(Wanted.plain rfl), GOp.cast (g_indexQ (i := q) rfl rfl rfl Try.underlying114 sz127 (by first | omega | (simp; done) | (simp; omega)) (getmap hx1)) rfl⟩,
      .inl ⟨(Wanted.plain rfl), GOp.cast (g_loadQs rfl rfl Try.underlying127 rfl sz127 rfl rfl) rfl⟩,
      .inl ⟨(Wanted.plain rfl), GOp.cast (g_move rfl rfl) rfl⟩,
      .inl ⟨(Wanted.plain rfl), GOp.cast (g_move rfl rfl) rfl⟩,
      .inl ⟨(Wanted.plain rfl), GOp.cast (g_indexQ (i := q) rfl rfl rfl Try.underlying114 sz127 (by first | omega | (simp; done) | (simp; omega)) (getmap hx2)) rfl⟩,
      .inl ⟨(Wanted.plain rfl), GOp.cast (g_loadQs rfl rfl Try.underlying127 rfl sz127 rfl rfl) rfl⟩,
      .inl ⟨(Wanted.plain rfl), GOp.cast (g_neq (cmp127 _ _ _ _ _ _ _ _) rfl rfl rfl rfl rfl rfl) rfl⟩,
       trivial⟩
        · exact ⟨⟨⟨.inl rfl,  trivial⟩, trivial⟩, ⟨⟨.inl rfl,  trivial⟩, trivial⟩, ⟨⟨.inr ⟨0, .head _, _, rfl, rfl, rfl⟩, .inr ⟨1, .tail _ (.head _), _, rfl, rfl, rfl⟩,  trivial⟩, trivial⟩, ⟨⟨.inr ⟨2, .head _, _, rfl, rfl, rfl⟩,  trivial⟩, trivial⟩, ⟨⟨.inl rfl,  trivial⟩, trivial⟩, ⟨⟨.inl rfl,  trivial⟩, trivial⟩, ⟨⟨.inr ⟨4, .head _, _, rfl, rfl, rfl⟩, .inr ⟨5, .tail _ (.head _), _, rfl, rfl, rfl⟩,  trivial⟩, trivial⟩, ⟨⟨.inr ⟨6, .head _, _, rfl, rfl, rfl⟩,  trivial⟩, trivial⟩, ⟨⟨.inr ⟨3, .head _, _, rfl, rfl, rfl⟩, .inr ⟨7, .tail _ (.head _), _, rfl, rfl, rfl⟩,  trivial⟩, trivial⟩,  trivial⟩
        · exact ⟨⟨.inl rfl, .inl rfl, .inl rfl, .inl rfl, .inl rfl, .inr ⟨8, _, rfl, rfl, rfl⟩,  trivial⟩, trivial⟩
        ·
          refine AL.nil ?_
          refine then_ok ?_
          refine AC.cond rfl (fun hc3 => ?_) (fun hc3 => ?_)
          ·
            have hc3' := hc3; try simp only [sumB, Bool.not_eq_true', Bool.not_eq_false', Bool.or_eq_true, Bool.or_eq_false_iff, Bool.and_eq_true, Bool.and_eq_false_imp, decide_eq_true_eq, decide_eq_false_iff_not, Bool.not_not, Bool.not_true, Bool.not_false] at hc3'
            refine AC.seq ?_
            refine AC.region ?_
            refine AL.fast 1 rfl ?_
            refine AL.nil ?_
            refine then_ok ?_
            refine AC.ret ?_
            refine block_ret ?_
            refine then_ret ?_
            refine then_ret ?_
            refine block_ret ?_
            refine then_ret ?_
            have hX : sameList a b = false := by
              refine same_no' hx1 hx2 ?_; simp_all [same127]
            rw [hX] at hr; clear hX
            subst hr
            refine retQ_mk (av' := outOf [(.c (cB false))]) (nb' := []) (retQ_ret ⟨[(4, (aB false))], [], 0⟩ [.tmp 4] [(.c (cB false))] (Weak.ren id (⟨by first | rfl | (simp only [AV.map, GV.map, CV.map, AB.map', id]; done) | (congr 3; omega) | (congr 4; omega) | (simp only [List.length_append, List.length_cons, List.length_nil, List.length_set]; rfl), trivial⟩) (trivial) rfl) rfl ⟨.tmp rfl, trivial⟩ trivial) ?_ ?_
            · first | rfl | (simp [outOf, aC]; done) | (simp [outOf, aC]; omega)
            · first | rfl | (simp; done) | (simp; omega)
          ·
            have hc3' := hc3; try simp only [sumB, Bool.not_eq_true', Bool.not_eq_false', Bool.or_eq_true, Bool.or_eq_false_iff, Bool.and_eq_true, Bool.and_eq_false_imp, decide_eq_true_eq, decide_eq_false_iff_not, Bool.not_not, Bool.not_true, Bool.not_false] at hc3'
            refine AC.skip ?_
            refine block_ok ?_
            refine then_ok ?_
            refine AC.region ?_
            refine AL.val (Wanted.plain rfl) (g_binI rfl rfl rfl (wrap_ok (by first | omega | (simp; done) | (simp; omega)))) rfl rfl ?_
            refine AL.fast 1 rfl ?_
            refine AL.nil ?_
            refine then_ok ?_
            refine ⟨q + 1, ⟨by omega, by rw [take_get hx1, take_get hx2, hi0_1, show x1 = x2 by simp_all [same127]]⟩, by first | omega | (simp; done) | (simp; omega), Weak.ren id (by refine ⟨?_, ?_, ?_, ?_,  trivial⟩ <;> first | rfl | (simp only [AV.map, GV.map, CV.map, AB.map', id]; done) | (congr 3; omega) | (congr 4; omega) | (simp only [List.length_append, List.length_cons, List.length_nil, List.length_set]; rfl)) (trivial) rfl⟩
      ·
        have hc2' := hc2; try simp only [sumB, Bool.not_eq_true', Bool.not_eq_false', Bool.or_eq_true, Bool.or_eq_false_iff, Bool.and_eq_true, Bool.and_eq_false_imp, decide_eq_true_eq, decide_eq_false_iff_not, Bool.not_not, Bool.not_true, Bool.not_false] at hc2'
        refine AC.exit ?_
        refine then_exit ?_
        refine then_exit ?_
        refine block_hit ?_
        refine then_ok ?_
        refine AC.seq ?_
        refine AC.region ?_
        refine AL.fast 1 rfl ?_
        refine AL.nil ?_
        refine then_ok ?_
        refine AC.ret ?_
        have hX : sameList a b = true := by
          exact same_yes (q := q) (by omega) (by omega) hi0_1
        rw [hX] at hr; clear hX
        subst hr
        refine retQ_mk (av' := outOf [(.c (cB true))]) (nb' := []) (retQ_ret ⟨[(4, (aB true))], [], 0⟩ [.tmp 4] [(.c (cB true))] (Weak.ren id (⟨by first | rfl | (simp only [AV.map, GV.map, CV.map, AB.map', id]; done) | (congr 3; omega) | (congr 4; omega) | (simp only [List.length_append, List.length_cons, List.length_nil, List.length_set]; rfl), trivial⟩) (trivial) rfl) rfl ⟨.tmp rfl, trivial⟩ trivial) ?_ ?_
        · first | rfl | (simp [outOf, aC]; done) | (simp [outOf, aC]; omega)
        · first | rfl | (simp; done) | (simp; omega)
end Go.Proofs.Ytgmcdlfmifijlaa.Dev
