/- stand.Wrong. -/
import Derived.Test.YtgmcdlfmifijlaaDCom
import Derived.Test.YtgmcdlfmifijlaaDPlStand
set_option linter.unusedVariables false
set_option linter.unusedSimpArgs false
namespace Go.Proofs.Ytgmcdlfmifijlaa.Dev
open Go.RowKit

set_option maxRecDepth 100000 in
set_option maxHeartbeats 1000000 in
theorem c_stand_Wrong (cap : Int) (used : List Int) (advs : List Advice) : Fn Try.prog 33 [(.g [(cI cap), (cR 1 ((used).map rI)), (cR 4 ((advs).map rAdvice))])] (aI (wrongStand ⟨cap, used, advs⟩)) [] := by
  refine Fn.mk' 109 [(0, (aG [(cI cap), (cR 1 ((used).map rI)), (cR 4 ((advs).map rAdvice))]))] Try.func33 rfl rfl rfl rfl ?_
  intro W0 T0
  refine AC.lenG 0 1 rfl rfl (fun hlen0_1 => ?_)
  refine AC.lenG 0 2 rfl rfl (fun hlen0_2 => ?_)
  refine AC.seq ?_
  refine AC.region ?_
  refine AL.new (n' := 1) (Wanted.plain rfl) (g_boxS 0 rfl rfl) rfl rfl rfl ?_
  refine AL.fast 1 rfl ?_
  refine AL.nil ?_
  refine then_ok ?_
  refine AC.seq ?_
  refine AC.cutB 17 ((decide ((↑used.length : Int) > 8)) || (decide ((↑advs.length : Int) > 20))) ?_ ?_
  ·
    refine AC.region ?_
    refine AL.val (Wanted.plain rfl) (g_fieldP rfl rfl Try.underlying26 rfl sz24 (by decide)) rfl rfl ?_
    refine AL.val (Wanted.plain rfl) (g_loadB rfl rfl rfl Try.underlying24 rfl rfl) rfl rfl ?_
    refine AL.val (Wanted.plain rfl) (g_lenM rfl rfl rfl rfl rfl Try.underlying24) rfl rfl ?_
    refine AL.val (Wanted.plain rfl) (g_binI rfl rfl rfl rfl) rfl rfl ?_
    refine AL.fast 1 rfl ?_
    refine AL.dec (t := 12) rfl (fun hb1 => ?_) (fun hb1 => ?_)
    ·
      have hb1' := hb1; try simp only [Bool.not_eq_true', Bool.not_eq_false', Bool.or_eq_true, Bool.or_eq_false_iff, Bool.and_eq_true, Bool.and_eq_false_imp, decide_eq_true_eq, decide_eq_false_iff_not, Bool.not_not, Bool.not_true, Bool.not_false] at hb1'
      refine AL.fast 5 rfl ?_
      refine AL.nil ?_
      refine then_ok ?_
      exact Weak.popB 11 rfl rfl (by simp [hb1]) rfl
    ·
      have hb1' := hb1; try simp only [Bool.not_eq_true', Bool.not_eq_false', Bool.or_eq_true, Bool.or_eq_false_iff, Bool.and_eq_true, Bool.and_eq_false_imp, decide_eq_true_eq, decide_eq_false_iff_not, Bool.not_not, Bool.not_true, Bool.not_false] at hb1'
      refine AL.val (Wanted.yes rfl rfl rfl) (g_fieldP rfl rfl Try.underlying26 rfl sz22 (by decide)) rfl rfl ?_
      refine AL.val (Wanted.yes rfl rfl rfl) (g_loadB rfl rfl rfl Try.underlying22 rfl rfl) rfl rfl ?_
      refine AL.val (Wanted.yes rfl rfl rfl) (g_lenM rfl rfl rfl rfl rfl Try.underlying22) rfl rfl ?_
      refine AL.val (Wanted.yes rfl rfl rfl) (g_binI rfl rfl rfl rfl) rfl rfl ?_
      refine AL.fast 1 rfl ?_
      refine AL.nil ?_
      refine then_ok ?_
      exact Weak.popB 11 rfl rfl (by simp [hb1]) rfl
  ·
    refine AC.cond rfl (fun hc2 => ?_) (fun hc2 => ?_)
    ·
      have hc2' := hc2; try simp only [Bool.not_eq_true', Bool.not_eq_false', Bool.or_eq_true, Bool.or_eq_false_iff, Bool.and_eq_true, Bool.and_eq_false_imp, decide_eq_true_eq, decide_eq_false_iff_not, Bool.not_not, Bool.not_true, Bool.not_false] at hc2'
      refine AC.seq ?_
      refine AC.region ?_
      refine AL.fast 1 rfl ?_
      refine AL.nil ?_
      refine then_ok ?_
      refine AC.ret ?_
      refine then_ret ?_
      refine retQ_mk (av' := outOf [(.c (cI 5))]) (nb' := []) (retQ_ret ⟨[(2, (aI 5))], [], 0⟩ [.tmp 2] [(.c (cI 5))] (Weak.ren id (⟨by first | rfl | (simp only [AV.map, GV.map, CV.map, AB.map', id]; done) | (congr 3; omega) | (congr 4; omega),  trivial⟩) (trivial) rfl) rfl ⟨.tmp rfl, trivial⟩ trivial) ?_ ?_
      · (have h := wrongStand_5 (s := ⟨cap, used, advs⟩) (show 8 < used.length ∨ 20 < advs.length by omega)); show aI _ = aI _; rw [h]
      · rfl
    ·
      have hc2' := hc2; try simp only [Bool.not_eq_true', Bool.not_eq_false', Bool.or_eq_true, Bool.or_eq_false_iff, Bool.and_eq_true, Bool.and_eq_false_imp, decide_eq_true_eq, decide_eq_false_iff_not, Bool.not_not, Bool.not_true, Bool.not_false] at hc2'
      refine AC.skip ?_
      refine then_ok ?_
      refine AC.seq ?_
      refine AC.cutB 25 ((decide (cap < 0)) || (decide (cap > 1000000))) ?_ ?_
      ·
        refine AC.region ?_
        refine AL.val (Wanted.plain rfl) (g_fieldP rfl rfl Try.underlying26 rfl sz3 (by decide)) rfl rfl ?_
        refine AL.val (Wanted.plain rfl) (g_loadB rfl rfl rfl Try.underlying3 rfl rfl) rfl rfl ?_
        refine AL.val (Wanted.plain rfl) (g_binI rfl rfl rfl rfl) rfl rfl ?_
        refine AL.fast 1 rfl ?_
        refine AL.dec (t := 21) rfl (fun hb3 => ?_) (fun hb3 => ?_)
        ·
          have hb3' := hb3; try simp only [Bool.not_eq_true', Bool.not_eq_false', Bool.or_eq_true, Bool.or_eq_false_iff, Bool.and_eq_true, Bool.and_eq_false_imp, decide_eq_true_eq, decide_eq_false_iff_not, Bool.not_not, Bool.not_true, Bool.not_false] at hb3'
          refine AL.fast 4 rfl ?_
          refine AL.nil ?_
          refine then_ok ?_
          exact Weak.popB 9 rfl rfl (by simp [hb3]) rfl
        ·
          have hb3' := hb3; try simp only [Bool.not_eq_true', Bool.not_eq_false', Bool.or_eq_true, Bool.or_eq_false_iff, Bool.and_eq_true, Bool.and_eq_false_imp, decide_eq_true_eq, decide_eq_false_iff_not, Bool.not_not, Bool.not_true, Bool.not_false] at hb3'
          refine AL.val (Wanted.yes rfl rfl rfl) (g_fieldP rfl rfl Try.underlying26 rfl sz3 (by decide)) rfl rfl ?_
          refine AL.val (Wanted.yes rfl rfl rfl) (g_loadB rfl rfl rfl Try.underlying3 rfl rfl) rfl rfl ?_
          refine AL.val (Wanted.yes rfl rfl rfl) (g_binI rfl rfl rfl rfl) rfl rfl ?_
          refine AL.fast 1 rfl ?_
          refine AL.nil ?_
          refine then_ok ?_
          exact Weak.popB 9 rfl rfl (by simp [hb3]) rfl
      ·
        refine AC.cond rfl (fun hc4 => ?_) (fun hc4 => ?_)
        ·
          have hc4' := hc4; try simp only [Bool.not_eq_true', Bool.not_eq_false', Bool.or_eq_true, Bool.or_eq_false_iff, Bool.and_eq_true, Bool.and_eq_false_imp, decide_eq_true_eq, decide_eq_false_iff_not, Bool.not_not, Bool.not_true, Bool.not_false] at hc4'
          refine AC.seq ?_
          refine AC.region ?_
          refine AL.fast 1 rfl ?_
          refine AL.nil ?_
          refine then_ok ?_
          refine AC.ret ?_
          refine then_ret ?_
          refine retQ_mk (av' := outOf [(.c (cI 3))]) (nb' := []) (retQ_ret ⟨[(2, (aI 3))], [], 0⟩ [.tmp 2] [(.c (cI 3))] (Weak.ren id (⟨by first | rfl | (simp only [AV.map, GV.map, CV.map, AB.map', id]; done) | (congr 3; omega) | (congr 4; omega),  trivial⟩) (trivial) rfl) rfl ⟨.tmp rfl, trivial⟩ trivial) ?_ ?_
          · (have h := wrongStand_cap (s := ⟨cap, used, advs⟩) (show ¬ (8 < (⟨cap, used, advs⟩ : Stand).used.length ∨ 20 < (⟨cap, used, advs⟩ : Stand).advices.length) by simp only; omega) (show capB cap = false by simp only [capB, decide_eq_false_iff_not]; omega)); show aI _ = aI _; rw [h]
          · rfl
        ·
          have hc4' := hc4; try simp only [Bool.not_eq_true', Bool.not_eq_false', Bool.or_eq_true, Bool.or_eq_false_iff, Bool.and_eq_true, Bool.and_eq_false_imp, decide_eq_true_eq, decide_eq_false_iff_not, Bool.not_not, Bool.not_true, Bool.not_false] at hc4'
          refine AC.skip ?_
          refine then_ok ?_
          refine AC.seq ?_
          refine AC.region ?_
          refine AL.val (Wanted.plain rfl) (g_fieldP rfl rfl Try.underlying26 rfl sz24 (by decide)) rfl rfl ?_
          refine AL.val (Wanted.plain rfl) (g_loadB rfl rfl rfl Try.underlying24 rfl rfl) rfl rfl ?_
          refine AL.val (Wanted.plain rfl) (g_lenM rfl rfl rfl rfl rfl Try.underlying24) rfl rfl ?_
          refine AL.new (n' := 2) (Wanted.plain rfl) (g_makeI 1 sl24 zv3 rfl rfl rfl (n := used.length) (by first | omega | (simp; omega) | (simp [sumsL_length]; omega)) (by first | omega | (simp; omega) | (simp [sumsL_length]; omega)) (by first | omega | (simp; omega) | (simp [sumsL_length]; omega)) (by first | omega | (simp; omega) | (simp [sumsL_length]; omega))) rfl rfl rfl ?_
          refine AL.fast 1 rfl ?_
          refine AL.nil ?_
          refine then_ok ?_
          refine AC.seq ?_
          refine AC.seq ?_
          refine AC.region ?_
          refine AL.val (Wanted.plain rfl) (g_fieldP rfl rfl Try.underlying26 rfl sz22 (by decide)) rfl rfl ?_
          refine AL.val (Wanted.plain rfl) (g_loadB rfl rfl rfl Try.underlying22 rfl rfl) rfl rfl ?_
          refine AL.val (Wanted.plain rfl) (g_lenM rfl rfl rfl rfl rfl Try.underlying22) rfl rfl ?_
          refine AL.fast 1 rfl ?_
          refine AL.nil ?_
          refine then_ok ?_
          refine AC.block ?_
          refine AC.loop (β := Nat) (fun (q : Nat) => ⟨[(1, (aC (.p 0 0 0 0))), (3, (aC (.s 1 0 1 used.length))), (31, (aC (cR 4 ((advs).map rAdvice)))), (32, (aI (↑advs.length : Int))), (33, (aI (↑q : Int)))], [(1, (.arr 3 1 ((sumsL used.length (advs.take q)).map rI))), (0, (.box 26 [(cI cap), (cR 1 ((used).map rI)), (cR 4 ((advs).map rAdvice))]))], 2⟩) (fun (q : Nat) => q ≤ advs.length ∧ (advs.take q).all (okAdv used.length) = true) (fun (q : Nat) => advs.length - q) 0 ?_ ?_ ?_
          · exact ⟨by omega, by simp⟩
          · exact Weak.ren id (⟨by first | rfl | (simp only [AV.map, GV.map, CV.map, AB.map', id]; done) | (congr 3; omega) | (congr 4; omega), by first | rfl | (simp only [AV.map, GV.map, CV.map, AB.map', id]; done) | (congr 3; omega) | (congr 4; omega), by first | rfl | (simp only [AV.map, GV.map, CV.map, AB.map', id]; done) | (congr 3; omega) | (congr 4; omega), by first | rfl | (simp only [AV.map, GV.map, CV.map, AB.map', id]; done) | (congr 3; omega) | (congr 4; omega), by first | rfl | (simp only [AV.map, GV.map, CV.map, AB.map', id]; done) | (congr 3; omega) | (congr 4; omega),  trivial⟩) (⟨by first | rfl | ((rw [List.take_zero, ← sumsL_nil]; rfl)), by first | rfl | ((rw [List.take_zero, ← sumsL_nil]; rfl)),  trivial⟩) rfl
          ·
            rintro q ⟨hi0_0, hi0_1⟩
            refine AC.seq ?_
            refine AC.region ?_
            refine AL.val (Wanted.plain rfl) (g_binI rfl rfl rfl rfl) rfl rfl ?_
            refine AL.nil ?_
            refine then_ok ?_
            refine AC.seq ?_
            refine AC.cond rfl (fun hc5 => ?_) (fun hc5 => ?_)
            ·
              have hc5' := hc5; try simp only [Bool.not_eq_true', Bool.not_eq_false', Bool.or_eq_true, Bool.or_eq_false_iff, Bool.and_eq_true, Bool.and_eq_false_imp, decide_eq_true_eq, decide_eq_false_iff_not, Bool.not_not, Bool.not_true, Bool.not_false] at hc5'
              refine AC.skip ?_
              refine then_ok ?_
              refine AC.seq ?_
              refine AC.block ?_
              refine AC.seq ?_
              refine AC.region ?_
              obtain ⟨x1, hx1⟩ := exget (xs := advs) (i := q) (by first | omega | (simp [sumsL_length]; omega))
              refine AL.val (Wanted.plain rfl) (g_indexQ (i := q) rfl rfl rfl Try.underlying22 sz32 (by first | omega | (simp; omega) | (simp [sumsL_length]; omega)) (getmap hx1)) rfl rfl ?_
              refine AL.val (Wanted.plain rfl) (g_loadQs rfl rfl Try.underlying32 rfl sz32 rfl rfl) rfl rfl ?_
              refine AL.new (n' := 3) (Wanted.plain rfl) (g_alloc 2 rfl zv32 rfl rfl rfl) rfl rfl rfl ?_
              refine AL.sto (h' := [(2, (.box 32 [(cI x1.card), (cI x1.shop), (cI x1.sum), (cI x1.time)])), (1, (.arr 3 1 ((sumsL used.length (advs.take q)).map rI))), (0, (.box 26 [(cI cap), (cR 1 ((used).map rI)), (cR 4 ((advs).map rAdvice))]))]) (Wanted.plain rfl) (g_storeB rfl rfl rfl rfl rfl sz32 rfl (Nat.le_of_ble_eq_true rfl) rfl) rfl rfl rfl rfl ?_
              refine AL.nil ?_
              refine then_ok ?_
              refine AC.seq ?_
              refine AC.cutB 77 ((((((((decide (x1.card < 0)) || (decide (x1.card ≥ (↑used.length : Int)))) || (decide (x1.shop < 0))) || (decide (x1.shop ≥ 8))) || (decide (x1.sum < 1))) || (decide (x1.sum > 1000000))) || (decide (x1.time < 0))) || (decide (x1.time > 1000000))) ?_ ?_
              ·
                refine AC.region ?_
                refine AL.val (Wanted.plain rfl) (g_fieldP rfl rfl Try.underlying32 rfl sz3 (by decide)) rfl rfl ?_
                refine AL.val (Wanted.plain rfl) (g_loadB rfl rfl rfl Try.underlying3 rfl rfl) rfl rfl ?_
                refine AL.val (Wanted.plain rfl) (g_binI rfl rfl rfl rfl) rfl rfl ?_
                refine AL.fast 1 rfl ?_
                refine AL.dec (t := 40) rfl (fun hb6 => ?_) (fun hb6 => ?_)
                ·
                  have hb6' := hb6; try simp only [Bool.not_eq_true', Bool.not_eq_false', Bool.or_eq_true, Bool.or_eq_false_iff, Bool.and_eq_true, Bool.and_eq_false_imp, decide_eq_true_eq, decide_eq_false_iff_not, Bool.not_not, Bool.not_true, Bool.not_false] at hb6'
                  refine AL.fast 37 rfl ?_
                  refine AL.nil ?_
                  refine then_ok ?_
                  exact Weak.popB 42 rfl rfl (by simp [hb6]) rfl
                ·
                  have hb6' := hb6; try simp only [Bool.not_eq_true', Bool.not_eq_false', Bool.or_eq_true, Bool.or_eq_false_iff, Bool.and_eq_true, Bool.and_eq_false_imp, decide_eq_true_eq, decide_eq_false_iff_not, Bool.not_not, Bool.not_true, Bool.not_false] at hb6'
                  refine AL.val (Wanted.yes rfl rfl rfl) (g_fieldP rfl rfl Try.underlying32 rfl sz3 (by decide)) rfl rfl ?_
                  refine AL.val (Wanted.yes rfl rfl rfl) (g_loadB rfl rfl rfl Try.underlying3 rfl rfl) rfl rfl ?_
                  refine AL.val (Wanted.yes rfl rfl rfl) (g_fieldP rfl rfl Try.underlying26 rfl sz24 (by decide)) rfl rfl ?_
                  refine AL.val (Wanted.yes rfl rfl rfl) (g_loadB rfl rfl rfl Try.underlying24 rfl rfl) rfl rfl ?_
                  refine AL.val (Wanted.yes rfl rfl rfl) (g_lenM rfl rfl rfl rfl rfl Try.underlying24) rfl rfl ?_
                  refine AL.val (Wanted.yes rfl rfl rfl) (g_binI rfl rfl rfl rfl) rfl rfl ?_
                  refine AL.fast 2 rfl ?_
                  refine AL.dec (t := 48) rfl (fun hb7 => ?_) (fun hb7 => ?_)
                  ·
                    have hb7' := hb7; try simp only [Bool.not_eq_true', Bool.not_eq_false', Bool.or_eq_true, Bool.or_eq_false_iff, Bool.and_eq_true, Bool.and_eq_false_imp, decide_eq_true_eq, decide_eq_false_iff_not, Bool.not_not, Bool.not_true, Bool.not_false] at hb7'
                    refine AL.fast 29 rfl ?_
                    refine AL.nil ?_
                    refine then_ok ?_
                    exact Weak.popB 43 rfl rfl (by simp [hb6, hb7]) rfl
                  ·
                    have hb7' := hb7; try simp only [Bool.not_eq_true', Bool.not_eq_false', Bool.or_eq_true, Bool.or_eq_false_iff, Bool.and_eq_true, Bool.and_eq_false_imp, decide_eq_true_eq, decide_eq_false_iff_not, Bool.not_not, Bool.not_true, Bool.not_false] at hb7'
                    refine AL.val (Wanted.yes rfl rfl rfl) (g_fieldP rfl rfl Try.underlying32 rfl sz3 (by decide)) rfl rfl ?_
                    refine AL.val (Wanted.yes rfl rfl rfl) (g_loadB rfl rfl rfl Try.underlying3 rfl rfl) rfl rfl ?_
                    refine AL.val (Wanted.yes rfl rfl rfl) (g_binI rfl rfl rfl rfl) rfl rfl ?_
                    refine AL.fast 2 rfl ?_
                    refine AL.dec (t := 53) rfl (fun hb8 => ?_) (fun hb8 => ?_)
                    ·
                      have hb8' := hb8; try simp only [Bool.not_eq_true', Bool.not_eq_false', Bool.or_eq_true, Bool.or_eq_false_iff, Bool.and_eq_true, Bool.and_eq_false_imp, decide_eq_true_eq, decide_eq_false_iff_not, Bool.not_not, Bool.not_true, Bool.not_false] at hb8'
                      refine AL.fast 24 rfl ?_
                      refine AL.nil ?_
                      refine then_ok ?_
                      exact Weak.popB 44 rfl rfl (by simp [hb6, hb7, hb8]) rfl
                    ·
                      have hb8' := hb8; try simp only [Bool.not_eq_true', Bool.not_eq_false', Bool.or_eq_true, Bool.or_eq_false_iff, Bool.and_eq_true, Bool.and_eq_false_imp, decide_eq_true_eq, decide_eq_false_iff_not, Bool.not_not, Bool.not_true, Bool.not_false] at hb8'
                      refine AL.val (Wanted.yes rfl rfl rfl) (g_fieldP rfl rfl Try.underlying32 rfl sz3 (by decide)) rfl rfl ?_
                      refine AL.val (Wanted.yes rfl rfl rfl) (g_loadB rfl rfl rfl Try.underlying3 rfl rfl) rfl rfl ?_
                      refine AL.val (Wanted.yes rfl rfl rfl) (g_binI rfl rfl rfl rfl) rfl rfl ?_
                      refine AL.fast 2 rfl ?_
                      refine AL.dec (t := 58) rfl (fun hb9 => ?_) (fun hb9 => ?_)
                      ·
                        have hb9' := hb9; try simp only [Bool.not_eq_true', Bool.not_eq_false', Bool.or_eq_true, Bool.or_eq_false_iff, Bool.and_eq_true, Bool.and_eq_false_imp, decide_eq_true_eq, decide_eq_false_iff_not, Bool.not_not, Bool.not_true, Bool.not_false] at hb9'
                        refine AL.fast 19 rfl ?_
                        refine AL.nil ?_
                        refine then_ok ?_
                        exact Weak.popB 45 rfl rfl (by simp [hb6, hb7, hb8, hb9]) rfl
                      ·
                        have hb9' := hb9; try simp only [Bool.not_eq_true', Bool.not_eq_false', Bool.or_eq_true, Bool.or_eq_false_iff, Bool.and_eq_true, Bool.and_eq_false_imp, decide_eq_true_eq, decide_eq_false_iff_not, Bool.not_not, Bool.not_true, Bool.not_false] at hb9'
                        refine AL.val (Wanted.yes rfl rfl rfl) (g_fieldP rfl rfl Try.underlying32 rfl sz3 (by decide)) rfl rfl ?_
                        refine AL.val (Wanted.yes rfl rfl rfl) (g_loadB rfl rfl rfl Try.underlying3 rfl rfl) rfl rfl ?_
                        refine AL.val (Wanted.yes rfl rfl rfl) (g_binI rfl rfl rfl rfl) rfl rfl ?_
                        refine AL.fast 2 rfl ?_
                        refine AL.dec (t := 63) rfl (fun hb10 => ?_) (fun hb10 => ?_)
                        ·
                          have hb10' := hb10; try simp only [Bool.not_eq_true', Bool.not_eq_false', Bool.or_eq_true, Bool.or_eq_false_iff, Bool.and_eq_true, Bool.and_eq_false_imp, decide_eq_true_eq, decide_eq_false_iff_not, Bool.not_not, Bool.not_true, Bool.not_false] at hb10'
                          refine AL.fast 14 rfl ?_
                          refine AL.nil ?_
                          refine then_ok ?_
                          exact Weak.popB 46 rfl rfl (by simp [hb6, hb7, hb8, hb9, hb10]) rfl
                        ·
                          have hb10' := hb10; try simp only [Bool.not_eq_true', Bool.not_eq_false', Bool.or_eq_true, Bool.or_eq_false_iff, Bool.and_eq_true, Bool.and_eq_false_imp, decide_eq_true_eq, decide_eq_false_iff_not, Bool.not_not, Bool.not_true, Bool.not_false] at hb10'
                          refine AL.val (Wanted.yes rfl rfl rfl) (g_fieldP rfl rfl Try.underlying32 rfl sz3 (by decide)) rfl rfl ?_
                          refine AL.val (Wanted.yes rfl rfl rfl) (g_loadB rfl rfl rfl Try.underlying3 rfl rfl) rfl rfl ?_
                          refine AL.val (Wanted.yes rfl rfl rfl) (g_binI rfl rfl rfl rfl) rfl rfl ?_
                          refine AL.fast 2 rfl ?_
                          refine AL.dec (t := 68) rfl (fun hb11 => ?_) (fun hb11 => ?_)
                          ·
                            have hb11' := hb11; try simp only [Bool.not_eq_true', Bool.not_eq_false', Bool.or_eq_true, Bool.or_eq_false_iff, Bool.and_eq_true, Bool.and_eq_false_imp, decide_eq_true_eq, decide_eq_false_iff_not, Bool.not_not, Bool.not_true, Bool.not_false] at hb11'
                            refine AL.fast 9 rfl ?_
                            refine AL.nil ?_
                            refine then_ok ?_
                            exact Weak.popB 47 rfl rfl (by simp [hb6, hb7, hb8, hb9, hb10, hb11]) rfl
                          ·
                            have hb11' := hb11; try simp only [Bool.not_eq_true', Bool.not_eq_false', Bool.or_eq_true, Bool.or_eq_false_iff, Bool.and_eq_true, Bool.and_eq_false_imp, decide_eq_true_eq, decide_eq_false_iff_not, Bool.not_not, Bool.not_true, Bool.not_false] at hb11'
                            refine AL.val (Wanted.yes rfl rfl rfl) (g_fieldP rfl rfl Try.underlying32 rfl sz3 (by decide)) rfl rfl ?_
                            refine AL.val (Wanted.yes rfl rfl rfl) (g_loadB rfl rfl rfl Try.underlying3 rfl rfl) rfl rfl ?_
                            refine AL.val (Wanted.yes rfl rfl rfl) (g_binI rfl rfl rfl rfl) rfl rfl ?_
                            refine AL.fast 2 rfl ?_
                            refine AL.dec (t := 73) rfl (fun hb12 => ?_) (fun hb12 => ?_)
                            ·
                              have hb12' := hb12; try simp only [Bool.not_eq_true', Bool.not_eq_false', Bool.or_eq_true, Bool.or_eq_false_iff, Bool.and_eq_true, Bool.and_eq_false_imp, decide_eq_true_eq, decide_eq_false_iff_not, Bool.not_not, Bool.not_true, Bool.not_false] at hb12'
                              refine AL.fast 4 rfl ?_
                              refine AL.nil ?_
                              refine then_ok ?_
                              exact Weak.popB 48 rfl rfl (by simp [hb6, hb7, hb8, hb9, hb10, hb11, hb12]) rfl
                            ·
                              have hb12' := hb12; try simp only [Bool.not_eq_true', Bool.not_eq_false', Bool.or_eq_true, Bool.or_eq_false_iff, Bool.and_eq_true, Bool.and_eq_false_imp, decide_eq_true_eq, decide_eq_false_iff_not, Bool.not_not, Bool.not_true, Bool.not_false] at hb12'
                              refine AL.val (Wanted.yes rfl rfl rfl) (g_fieldP rfl rfl Try.underlying32 rfl sz3 (by decide)) rfl rfl ?_
                              refine AL.val (Wanted.yes rfl rfl rfl) (g_loadB rfl rfl rfl Try.underlying3 rfl rfl) rfl rfl ?_
                              refine AL.val (Wanted.yes rfl rfl rfl) (g_binI rfl rfl rfl rfl) rfl rfl ?_
                              refine AL.fast 1 rfl ?_
                              refine AL.nil ?_
                              refine then_ok ?_
                              exact Weak.popB 48 rfl rfl (by simp [hb6, hb7, hb8, hb9, hb10, hb11, hb12]) rfl
              ·
                refine AC.cond rfl (fun hc13 => ?_) (fun hc13 => ?_)
                ·
                  have hc13' := hc13; try simp only [Bool.not_eq_true', Bool.not_eq_false', Bool.or_eq_true, Bool.or_eq_false_iff, Bool.and_eq_true, Bool.and_eq_false_imp, decide_eq_true_eq, decide_eq_false_iff_not, Bool.not_not, Bool.not_true, Bool.not_false] at hc13'
                  refine AC.seq ?_
                  refine AC.region ?_
                  refine AL.fast 1 rfl ?_
                  refine AL.nil ?_
                  refine then_ok ?_
                  refine AC.ret ?_
                  refine then_ret ?_
                  refine block_ret ?_
                  refine then_ret ?_
                  refine then_ret ?_
                  refine block_ret ?_
                  refine then_ret ?_
                  refine retQ_mk (av' := outOf [(.c (cI 3))]) (nb' := []) (retQ_ret ⟨[(2, (aI 3))], [], 0⟩ [.tmp 2] [(.c (cI 3))] (Weak.ren id (⟨by first | rfl | (simp only [AV.map, GV.map, CV.map, AB.map', id]; done) | (congr 3; omega) | (congr 4; omega),  trivial⟩) (trivial) rfl) rfl ⟨.tmp rfl, trivial⟩ trivial) ?_ ?_
                  · (have h := wrongStand_adv (s := ⟨cap, used, advs⟩) (show ¬ (8 < (⟨cap, used, advs⟩ : Stand).used.length ∨ 20 < (⟨cap, used, advs⟩ : Stand).advices.length) by simp only; omega) (show capB (⟨cap, used, advs⟩ : Stand).cap = true by simp only [capB, decide_eq_true_eq]; omega) (all_no hx1 (by simp only [okAdv, decide_eq_false_iff_not]; omega))); show aI _ = aI _; rw [h]
                  · rfl
                ·
                  have hc13' := hc13; try simp only [Bool.not_eq_true', Bool.not_eq_false', Bool.or_eq_true, Bool.or_eq_false_iff, Bool.and_eq_true, Bool.and_eq_false_imp, decide_eq_true_eq, decide_eq_false_iff_not, Bool.not_not, Bool.not_true, Bool.not_false] at hc13'
                  refine AC.skip ?_
                  refine then_ok ?_
                  obtain ⟨x2, hx2⟩ := exget (xs := (sumsL used.length (advs.take q))) (i := Int.toNat (x1.card)) (by first | omega | (simp [sumsL_length]; omega))
                  have hx2v := sumsL_get hx2
                  have hgb := given_bound used.length (x1.card) (advs.take q) hi0_1
                  have hgl : (advs.take q).length ≤ q := List.length_take_le _ _
                  rw [Int.toNat_of_nonneg (by omega)] at hx2v
                  refine AC.weak (st' := ⟨[(1, (aC (.p 0 0 0 0))), (3, (aC (.s 1 0 1 used.length))), (31, (aC (cR 4 ((advs).map rAdvice)))), (32, (aI (↑advs.length : Int))), (33, (aI (↑q : Int))), (5, (aC (.p 2 0 0 0)))], [(2, (.box 32 [(cI x1.card), (cI x1.shop), (cI x1.sum), (cI x1.time)])), (1, (.arr 3 1 ((sumsL used.length (advs.take q)).map rI))), (0, (.box 26 [(cI cap), (cR 1 ((used).map rI)), (cR 4 ((advs).map rAdvice))]))], 3⟩) (Weak.ren id (⟨by first | rfl | (simp only [AV.map, GV.map, CV.map, AB.map', id]; done) | (congr 3; omega) | (congr 4; omega), by first | rfl | (simp only [AV.map, GV.map, CV.map, AB.map', id]; done) | (congr 3; omega) | (congr 4; omega), by first | rfl | (simp only [AV.map, GV.map, CV.map, AB.map', id]; done) | (congr 3; omega) | (congr 4; omega), by first | rfl | (simp only [AV.map, GV.map, CV.map, AB.map', id]; done) | (congr 3; omega) | (congr 4; omega), by first | rfl | (simp only [AV.map, GV.map, CV.map, AB.map', id]; done) | (congr 3; omega) | (congr 4; omega), by first | rfl | (simp only [AV.map, GV.map, CV.map, AB.map', id]; done) | (congr 3; omega) | (congr 4; omega),  trivial⟩) (⟨by first | rfl | (simp only [AV.map, GV.map, CV.map, AB.map', id]; done) | (congr 3; omega) | (congr 4; omega), by first | rfl | (simp only [AV.map, GV.map, CV.map, AB.map', id]; done) | (congr 3; omega) | (congr 4; omega), by first | rfl | (simp only [AV.map, GV.map, CV.map, AB.map', id]; done) | (congr 3; omega) | (congr 4; omega),  trivial⟩) rfl) ?_
                  refine AC.draw [⟨some 78, (aC (.s 1 0 1 used.length)), [], [], [], [(3, (aC (.s 1 0 1 used.length)))], [(1, (.arr 3 1 ((sumsL used.length (advs.take q)).map rI)))]⟩,
      ⟨some 79, (aC (.p 2 0 0 0)), [], [], [], [(5, (aC (.p 2 0 0 0)))], [(2, (.box 32 [(cI x1.card), (cI x1.shop), (cI x1.sum), (cI x1.time)]))]⟩,
      ⟨some 80, (aI x1.card), [], [], [1], [(79, (aC (.p 2 0 0 0)))], [(2, (.box 32 [(cI x1.card), (cI x1.shop), (cI x1.sum), (cI x1.time)]))]⟩,
      ⟨some 81, (aC (.p 1 (Int.toNat (x1.card)) 1 0)), [], [], [0, 2], [(78, (aC (.s 1 0 1 used.length))), (80, (aI x1.card))], [(1, (.arr 3 1 ((sumsL used.length (advs.take q)).map rI)))]⟩,
      ⟨some 82, (aI x2), [], [], [3], [(81, (aC (.p 1 (Int.toNat (x1.card)) 1 0)))], [(1, (.arr 3 1 ((sumsL used.length (advs.take q)).map rI)))]⟩,
      ⟨some 83, (aC (.p 2 0 0 2)), [], [], [], [(5, (aC (.p 2 0 0 0)))], [(2, (.box 32 [(cI x1.card), (cI x1.shop), (cI x1.sum), (cI x1.time)]))]⟩,
      ⟨some 84, (aI x1.sum), [], [], [5], [(83, (aC (.p 2 0 0 2)))], [(2, (.box 32 [(cI x1.card), (cI x1.shop), (cI x1.sum), (cI x1.time)]))]⟩,
      ⟨some 85, (aI (x2 + x1.sum)), [], [], [4, 6], [(82, (aI x2)), (84, (aI x1.sum))], []⟩,
      ⟨some 86, (aC (.p 1 (Int.toNat (x1.card)) 1 0)), [], [], [0, 2], [(78, (aC (.s 1 0 1 used.length))), (80, (aI x1.card))], [(1, (.arr 3 1 ((sumsL used.length (advs.take q)).map rI)))]⟩] ⟨[(1, (aC (.p 0 0 0 0))), (3, (aC (.s 1 0 1 used.length))), (31, (aC (cR 4 ((advs).map rAdvice)))), (32, (aI (↑advs.length : Int))), (33, (aI (↑q : Int))), (5, (aC (.p 2 0 0 0))), (85, (aI (x2 + x1.sum))), (86, (aC (.p 1 (Int.toNat (x1.card)) 1 0)))], [(2, (.box 32 [(cI x1.card), (cI x1.shop), (cI x1.sum), (cI x1.time)])), (1, (.arr 3 1 ((sumsL used.length (advs.take q)).map rI))), (0, (.box 26 [(cI cap), (cR 1 ((used).map rI)), (cR 4 ((advs).map rAdvice))]))], 3⟩ mixed (by kernel_rfl) ?_ ?_ ?_ ?_
                  · exact ⟨.inl ⟨(Wanted.plain rfl), GOp.cast (g_move rfl rfl) rfl⟩,
      .inl ⟨(Wanted.plain rfl), GOp.cast (g_fieldP rfl rfl Try.underlying32 rfl sz3 (by decide)) rfl⟩,
      .inl ⟨(Wanted.plain rfl), GOp.cast (g_loadB rfl rfl rfl Try.underlying3 rfl rfl) rfl⟩,
      .inl ⟨(Wanted.plain rfl), GOp.cast (g_indexP0 (i := Int.toNat (x1.card)) rfl rfl rfl Try.underlying24 sz3 (by first | omega | (simp; omega) | (simp [sumsL_length]; omega)) (by first | omega | (simp; omega) | (simp [sumsL_length]; omega))) rfl⟩,
      .inl ⟨(Wanted.plain rfl), GOp.cast (g_loadA rfl rfl rfl Try.underlying3 rfl (getmap hx2) rfl) rfl⟩,
      .inl ⟨(Wanted.plain rfl), GOp.cast (g_fieldP rfl rfl Try.underlying32 rfl sz3 (by decide)) rfl⟩,
      .inl ⟨(Wanted.plain rfl), GOp.cast (g_loadB rfl rfl rfl Try.underlying3 rfl rfl) rfl⟩,
      .inl ⟨(Wanted.plain rfl), GOp.cast (g_binI rfl rfl rfl (wrap_ok (by first | omega | (simp; omega) | (simp [sumsL_length]; omega)))) rfl⟩,
      .inl ⟨(Wanted.plain rfl), GOp.cast (g_indexP0 (i := Int.toNat (x1.card)) rfl rfl rfl Try.underlying24 sz3 (by first | omega | (simp; omega) | (simp [sumsL_length]; omega)) (by first | omega | (simp; omega) | (simp [sumsL_length]; omega))) rfl⟩,
       trivial⟩
                  · exact ⟨⟨⟨.inl rfl,  trivial⟩, ⟨.inl rfl,  trivial⟩⟩, ⟨⟨.inl rfl,  trivial⟩, ⟨.inl rfl,  trivial⟩⟩, ⟨⟨.inr ⟨1, .head _, _, rfl, rfl, rfl⟩,  trivial⟩, ⟨.inl rfl,  trivial⟩⟩, ⟨⟨.inr ⟨0, .head _, _, rfl, rfl, rfl⟩, .inr ⟨2, .tail _ (.head _), _, rfl, rfl, rfl⟩,  trivial⟩, ⟨.inl rfl,  trivial⟩⟩, ⟨⟨.inr ⟨3, .head _, _, rfl, rfl, rfl⟩,  trivial⟩, ⟨.inl rfl,  trivial⟩⟩, ⟨⟨.inl rfl,  trivial⟩, ⟨.inl rfl,  trivial⟩⟩, ⟨⟨.inr ⟨5, .head _, _, rfl, rfl, rfl⟩,  trivial⟩, ⟨.inl rfl,  trivial⟩⟩, ⟨⟨.inr ⟨4, .head _, _, rfl, rfl, rfl⟩, .inr ⟨6, .tail _ (.head _), _, rfl, rfl, rfl⟩,  trivial⟩, trivial⟩, ⟨⟨.inr ⟨0, .head _, _, rfl, rfl, rfl⟩, .inr ⟨2, .tail _ (.head _), _, rfl, rfl, rfl⟩,  trivial⟩, ⟨.inl rfl,  trivial⟩⟩,  trivial⟩
                  · exact ⟨⟨.inl rfl, .inl rfl, .inl rfl, .inl rfl, .inl rfl, .inl rfl, .inr ⟨7, _, rfl, rfl, rfl⟩, .inr ⟨8, _, rfl, rfl, rfl⟩,  trivial⟩, ⟨.inl rfl, .inl rfl, .inl rfl,  trivial⟩⟩
                  ·
                    refine AL.sto (h' := [(2, (.box 32 [(cI x1.card), (cI x1.shop), (cI x1.sum), (cI x1.time)])), (1, (.arr 3 1 (((sumsL used.length (advs.take q)).set (Int.toNat (x1.card)) (x2 + x1.sum)).map rI))), (0, (.box 26 [(cI cap), (cR 1 ((used).map rI)), (cR 4 ((advs).map rAdvice))]))]) (Wanted.plain rfl) (g_storeA (ds := [(dI (x2 + x1.sum))]) rfl rfl rfl rfl rfl sz3 rfl (Nat.le_of_ble_eq_true rfl) (getmap hx2) rfl (setmap (x' := x2 + x1.sum) rfl)) rfl rfl rfl rfl ?_
                    refine AL.nil ?_
                    refine block_ok ?_
                    refine then_ok ?_
                    refine AC.region ?_
                    refine AL.val (Wanted.plain rfl) (g_binI rfl rfl rfl (wrap_ok (by first | omega | (simp; omega) | (simp [sumsL_length]; omega)))) rfl rfl ?_
                    refine AL.fast 1 rfl ?_
                    refine AL.nil ?_
                    refine then_ok ?_
                    refine ⟨q + 1, ⟨by omega, all_yes hi0_1 hx1 (by simp only [okAdv, decide_eq_true_eq]; omega)⟩, by first | omega | (simp; done) | (simp; omega), Weak.ren id (⟨by first | rfl | (simp only [AV.map, GV.map, CV.map, AB.map', id]; done) | (congr 3; omega) | (congr 4; omega), by first | rfl | (simp only [AV.map, GV.map, CV.map, AB.map', id]; done) | (congr 3; omega) | (congr 4; omega), by first | rfl | (simp only [AV.map, GV.map, CV.map, AB.map', id]; done) | (congr 3; omega) | (congr 4; omega), by first | rfl | (simp only [AV.map, GV.map, CV.map, AB.map', id]; done) | (congr 3; omega) | (congr 4; omega), by first | rfl | (simp only [AV.map, GV.map, CV.map, AB.map', id]; done) | (congr 3; omega) | (congr 4; omega),  trivial⟩) (⟨by first | rfl | ((rw [take_get hx1, ← sumsL_set (i := Int.toNat x1.card) (v := x2 + x1.sum) (by omega) (by omega) (by rw [hx2v])]; rfl)), by first | rfl | ((rw [take_get hx1, ← sumsL_set (i := Int.toNat x1.card) (v := x2 + x1.sum) (by omega) (by omega) (by rw [hx2v])]; rfl)),  trivial⟩) rfl⟩
            ·
              have hc5' := hc5; try simp only [Bool.not_eq_true', Bool.not_eq_false', Bool.or_eq_true, Bool.or_eq_false_iff, Bool.and_eq_true, Bool.and_eq_false_imp, decide_eq_true_eq, decide_eq_false_iff_not, Bool.not_not, Bool.not_true, Bool.not_false] at hc5'
              refine AC.exit ?_
              refine then_exit ?_
              refine then_exit ?_
              refine block_hit ?_
              refine then_ok ?_
              refine AC.seq ?_
              refine AC.seq ?_
              refine AC.region ?_
              refine AL.val (Wanted.plain rfl) (g_fieldP rfl rfl Try.underlying26 rfl sz24 (by decide)) rfl rfl ?_
              refine AL.val (Wanted.plain rfl) (g_loadB rfl rfl rfl Try.underlying24 rfl rfl) rfl rfl ?_
              refine AL.val (Wanted.plain rfl) (g_lenM rfl rfl rfl rfl rfl Try.underlying24) rfl rfl ?_
              refine AL.fast 1 rfl ?_
              refine AL.nil ?_
              refine then_ok ?_
              refine AC.block ?_
              have hta : advs.take q = advs := List.take_of_length_le (by omega)
              have hall : advs.all (okAdv used.length) = true := by rw [← hta]; exact hi0_1
              rw [hta]
              refine AC.loop (β := Nat) (fun (p : Nat) => ⟨[(1, (aC (.p 0 0 0 0))), (3, (aC (.s 1 0 1 used.length))), (31, (aC (cR 4 ((advs).map rAdvice)))), (32, (aI (↑advs.length : Int))), (33, (aI (↑q : Int))), (89, (aC (cR 1 ((used).map rI)))), (90, (aI (↑used.length : Int))), (91, (aI (↑p : Int)))], [(1, (.arr 3 1 ((sumsL used.length advs).map rI))), (0, (.box 26 [(cI cap), (cR 1 ((used).map rI)), (cR 4 ((advs).map rAdvice))]))], 2⟩) (fun (p : Nat) => p ≤ used.length ∧ fitUsed cap advs 0 used = fitUsed cap advs p (used.drop p)) (fun (p : Nat) => used.length - p) 0 ?_ ?_ ?_
              · exact ⟨by omega, rfl⟩
              · exact Weak.ren id (⟨by first | rfl | (simp only [AV.map, GV.map, CV.map, AB.map', id]; done) | (congr 3; omega) | (congr 4; omega), by first | rfl | (simp only [AV.map, GV.map, CV.map, AB.map', id]; done) | (congr 3; omega) | (congr 4; omega), by first | rfl | (simp only [AV.map, GV.map, CV.map, AB.map', id]; done) | (congr 3; omega) | (congr 4; omega), by first | rfl | (simp only [AV.map, GV.map, CV.map, AB.map', id]; done) | (congr 3; omega) | (congr 4; omega), by first | rfl | (simp only [AV.map, GV.map, CV.map, AB.map', id]; done) | (congr 3; omega) | (congr 4; omega), by first | rfl | (simp only [AV.map, GV.map, CV.map, AB.map', id]; done) | (congr 3; omega) | (congr 4; omega), by first | rfl | (simp only [AV.map, GV.map, CV.map, AB.map', id]; done) | (congr 3; omega) | (congr 4; omega), by first | rfl | (simp only [AV.map, GV.map, CV.map, AB.map', id]; done) | (congr 3; omega) | (congr 4; omega),  trivial⟩) (⟨by first | rfl | (simp only [AV.map, GV.map, CV.map, AB.map', id]; done) | (congr 3; omega) | (congr 4; omega), by first | rfl | (simp only [AV.map, GV.map, CV.map, AB.map', id]; done) | (congr 3; omega) | (congr 4; omega),  trivial⟩) rfl
              ·
                rintro p ⟨hi1_0, hi1_1⟩
                refine AC.seq ?_
                refine AC.region ?_
                refine AL.val (Wanted.plain rfl) (g_binI rfl rfl rfl rfl) rfl rfl ?_
                refine AL.nil ?_
                refine then_ok ?_
                refine AC.seq ?_
                refine AC.cond rfl (fun hc14 => ?_) (fun hc14 => ?_)
                ·
                  have hc14' := hc14; try simp only [Bool.not_eq_true', Bool.not_eq_false', Bool.or_eq_true, Bool.or_eq_false_iff, Bool.and_eq_true, Bool.and_eq_false_imp, decide_eq_true_eq, decide_eq_false_iff_not, Bool.not_not, Bool.not_true, Bool.not_false] at hc14'
                  refine AC.skip ?_
                  refine then_ok ?_
                  refine AC.seq ?_
                  refine AC.block ?_
                  refine AC.seq ?_
                  refine AC.region ?_
                  refine AL.fast 1 rfl ?_
                  obtain ⟨x1, hx1⟩ := exget (xs := used) (i := p) (by first | omega | (simp [sumsL_length]; omega))
                  refine AL.val (Wanted.plain rfl) (g_indexQ (i := p) rfl rfl rfl Try.underlying24 sz3 (by first | omega | (simp; omega) | (simp [sumsL_length]; omega)) (getmap hx1)) rfl rfl ?_
                  refine AL.val (Wanted.plain rfl) (g_loadQ rfl rfl Try.underlying3 rfl rfl) rfl rfl ?_
                  refine AL.fast 2 rfl ?_
                  refine AL.nil ?_
                  refine then_ok ?_
                  refine AC.seq ?_
                  refine AC.region ?_
                  refine AL.fast 3 rfl ?_
                  refine AL.val (Wanted.plain rfl) (g_indexP0 (i := p) rfl rfl rfl Try.underlying24 sz3 (by first | omega | (simp; omega) | (simp [sumsL_length]; omega)) (by first | omega | (simp; omega) | (simp [sumsL_length]; omega))) rfl rfl ?_
                  obtain ⟨x2, hx2⟩ := exget (xs := (sumsL used.length advs)) (i := p) (by first | omega | (simp [sumsL_length]; omega))
                  have hx2v := sumsL_get hx2
                  refine AL.val (Wanted.plain rfl) (g_loadA rfl rfl rfl Try.underlying3 rfl (getmap hx2) rfl) rfl rfl ?_
                  refine AL.val (Wanted.plain rfl) (g_binI rfl rfl rfl rfl) rfl rfl ?_
                  refine AL.fast 1 rfl ?_
                  refine AL.dec (t := 102) rfl (fun hb15 => ?_) (fun hb15 => ?_)
                  ·
                    have hb15' := hb15; try simp only [Bool.not_eq_true', Bool.not_eq_false', Bool.or_eq_true, Bool.or_eq_false_iff, Bool.and_eq_true, Bool.and_eq_false_imp, decide_eq_true_eq, decide_eq_false_iff_not, Bool.not_not, Bool.not_true, Bool.not_false] at hb15'
                    refine AL.fast 5 rfl ?_
                    refine AL.nil ?_
                    refine then_ok ?_
                    refine AC.cond rfl (fun _ => ?_) (fun hno => by cases hno)
                    refine AC.seq ?_
                    refine AC.region ?_
                    refine AL.fast 1 rfl ?_
                    refine AL.nil ?_
                    refine then_ok ?_
                    refine AC.ret ?_
                    refine block_ret ?_
                    refine then_ret ?_
                    refine then_ret ?_
                    refine block_ret ?_
                    refine then_ret ?_
                    refine retQ_mk (av' := outOf [(.c (cI 8))]) (nb' := []) (retQ_ret ⟨[(2, (aI 8))], [], 0⟩ [.tmp 2] [(.c (cI 8))] (Weak.ren id (⟨by first | rfl | (simp only [AV.map, GV.map, CV.map, AB.map', id]; done) | (congr 3; omega) | (congr 4; omega),  trivial⟩) (trivial) rfl) rfl ⟨.tmp rfl, trivial⟩ trivial) ?_ ?_
                    · (have h := wrongStand_fit (s := ⟨cap, used, advs⟩) (show ¬ (8 < (⟨cap, used, advs⟩ : Stand).used.length ∨ 20 < (⟨cap, used, advs⟩ : Stand).advices.length) by simp only; omega) (show capB (⟨cap, used, advs⟩ : Stand).cap = true by simp only [capB, decide_eq_true_eq]; omega) hall); show aI _ = aI _; rw [h]; show aI _ = aI (fitUsed cap advs 0 used); rw [hi1_1, drop_get hx1, fitUsed, if_neg (by omega)]
                    · rfl
                  ·
                    have hb15' := hb15; try simp only [Bool.not_eq_true', Bool.not_eq_false', Bool.or_eq_true, Bool.or_eq_false_iff, Bool.and_eq_true, Bool.and_eq_false_imp, decide_eq_true_eq, decide_eq_false_iff_not, Bool.not_not, Bool.not_true, Bool.not_false] at hb15'
                    refine AL.fast 1 rfl ?_
                    refine AL.val (Wanted.yes rfl rfl rfl) (g_fieldP rfl rfl Try.underlying26 rfl sz3 (by decide)) rfl rfl ?_
                    refine AL.val (Wanted.yes rfl rfl rfl) (g_loadB rfl rfl rfl Try.underlying3 rfl rfl) rfl rfl ?_
                    refine AL.val (Wanted.yes rfl rfl rfl) (g_binI rfl rfl rfl rfl) rfl rfl ?_
                    refine AL.fast 1 rfl ?_
                    refine AL.nil ?_
                    refine then_ok ?_
                    refine AC.cond rfl (fun hc17 => ?_) (fun hc17 => ?_)
                    ·
                      have hc17' := hc17; try simp only [Bool.not_eq_true', Bool.not_eq_false', Bool.or_eq_true, Bool.or_eq_false_iff, Bool.and_eq_true, Bool.and_eq_false_imp, decide_eq_true_eq, decide_eq_false_iff_not, Bool.not_not, Bool.not_true, Bool.not_false] at hc17'
                      refine AC.seq ?_
                      refine AC.region ?_
                      refine AL.fast 1 rfl ?_
                      refine AL.nil ?_
                      refine then_ok ?_
                      refine AC.ret ?_
                      refine block_ret ?_
                      refine then_ret ?_
                      refine then_ret ?_
                      refine block_ret ?_
                      refine then_ret ?_
                      refine retQ_mk (av' := outOf [(.c (cI 8))]) (nb' := []) (retQ_ret ⟨[(2, (aI 8))], [], 0⟩ [.tmp 2] [(.c (cI 8))] (Weak.ren id (⟨by first | rfl | (simp only [AV.map, GV.map, CV.map, AB.map', id]; done) | (congr 3; omega) | (congr 4; omega),  trivial⟩) (trivial) rfl) rfl ⟨.tmp rfl, trivial⟩ trivial) ?_ ?_
                      · (have h := wrongStand_fit (s := ⟨cap, used, advs⟩) (show ¬ (8 < (⟨cap, used, advs⟩ : Stand).used.length ∨ 20 < (⟨cap, used, advs⟩ : Stand).advices.length) by simp only; omega) (show capB (⟨cap, used, advs⟩ : Stand).cap = true by simp only [capB, decide_eq_true_eq]; omega) hall); show aI _ = aI _; rw [h]; show aI _ = aI (fitUsed cap advs 0 used); rw [hi1_1, drop_get hx1, fitUsed, if_neg (by omega)]
                      · rfl
                    ·
                      have hc17' := hc17; try simp only [Bool.not_eq_true', Bool.not_eq_false', Bool.or_eq_true, Bool.or_eq_false_iff, Bool.and_eq_true, Bool.and_eq_false_imp, decide_eq_true_eq, decide_eq_false_iff_not, Bool.not_not, Bool.not_true, Bool.not_false] at hc17'
                      refine AC.skip ?_
                      refine block_ok ?_
                      refine then_ok ?_
                      refine AC.region ?_
                      refine AL.val (Wanted.plain rfl) (g_binI rfl rfl rfl (wrap_ok (by first | omega | (simp; omega) | (simp [sumsL_length]; omega)))) rfl rfl ?_
                      refine AL.fast 1 rfl ?_
                      refine AL.nil ?_
                      refine then_ok ?_
                      refine ⟨p + 1, ⟨by omega, by rw [hi1_1, drop_get hx1, fitUsed, if_pos (by omega), Int.natCast_add]; rfl⟩, by first | omega | (simp; done) | (simp; omega), Weak.ren id (⟨by first | rfl | (simp only [AV.map, GV.map, CV.map, AB.map', id]; done) | (congr 3; omega) | (congr 4; omega), by first | rfl | (simp only [AV.map, GV.map, CV.map, AB.map', id]; done) | (congr 3; omega) | (congr 4; omega), by first | rfl | (simp only [AV.map, GV.map, CV.map, AB.map', id]; done) | (congr 3; omega) | (congr 4; omega), by first | rfl | (simp only [AV.map, GV.map, CV.map, AB.map', id]; done) | (congr 3; omega) | (congr 4; omega), by first | rfl | (simp only [AV.map, GV.map, CV.map, AB.map', id]; done) | (congr 3; omega) | (congr 4; omega), by first | rfl | (simp only [AV.map, GV.map, CV.map, AB.map', id]; done) | (congr 3; omega) | (congr 4; omega), by first | rfl | (simp only [AV.map, GV.map, CV.map, AB.map', id]; done) | (congr 3; omega) | (congr 4; omega), by first | rfl | (simp only [AV.map, GV.map, CV.map, AB.map', id]; done) | (congr 3; omega) | (congr 4; omega),  trivial⟩) (⟨by first | rfl | (simp only [AV.map, GV.map, CV.map, AB.map', id]; done) | (congr 3; omega) | (congr 4; omega), by first | rfl | (simp only [AV.map, GV.map, CV.map, AB.map', id]; done) | (congr 3; omega) | (congr 4; omega),  trivial⟩) rfl⟩
                ·
                  have hc14' := hc14; try simp only [Bool.not_eq_true', Bool.not_eq_false', Bool.or_eq_true, Bool.or_eq_false_iff, Bool.and_eq_true, Bool.and_eq_false_imp, decide_eq_true_eq, decide_eq_false_iff_not, Bool.not_not, Bool.not_true, Bool.not_false] at hc14'
                  refine AC.exit ?_
                  refine then_exit ?_
                  refine then_exit ?_
                  refine block_hit ?_
                  refine then_ok ?_
                  refine AC.seq ?_
                  refine AC.region ?_
                  refine AL.fast 1 rfl ?_
                  refine AL.nil ?_
                  refine then_ok ?_
                  refine AC.ret ?_
                  refine retQ_mk (av' := outOf [(.c (cI 0))]) (nb' := []) (retQ_ret ⟨[(2, (aI 0))], [], 0⟩ [.tmp 2] [(.c (cI 0))] (Weak.ren id (⟨by first | rfl | (simp only [AV.map, GV.map, CV.map, AB.map', id]; done) | (congr 3; omega) | (congr 4; omega),  trivial⟩) (trivial) rfl) rfl ⟨.tmp rfl, trivial⟩ trivial) ?_ ?_
                  · (have h := wrongStand_fit (s := ⟨cap, used, advs⟩) (show ¬ (8 < (⟨cap, used, advs⟩ : Stand).used.length ∨ 20 < (⟨cap, used, advs⟩ : Stand).advices.length) by simp only; omega) (show capB (⟨cap, used, advs⟩ : Stand).cap = true by simp only [capB, decide_eq_true_eq]; omega) hall); show aI _ = aI _; rw [h]; show aI _ = aI (fitUsed cap advs 0 used); rw [hi1_1, List.drop_of_length_le (by omega)]; rfl
                  · rfl
end Go.Proofs.Ytgmcdlfmifijlaa.Dev
