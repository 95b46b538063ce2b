/- payref1.WrongStand. -/
import Derived.Test.YtgmcdlfmifijlaaDStand2
set_option linter.unusedVariables false
set_option linter.unusedSimpArgs false
namespace Go.Proofs.Ytgmcdlfmifijlaa.Dev
open Go.RowKit

set_option maxRecDepth 100000 in
set_option maxHeartbeats 1000000 in
theorem c_ref_WrongStand (s : Stand) (e : Int) (hr : wrongStand s = e) : Fn Try.prog 35 [(.g [(cI s.cap), (cR 1 ((s.used).map rI)), (cR 4 ((s.advices).map rAdvice))])] (.v (.c (cI e))) [] := by
  refine Fn.mk' 108 [(0, (aG [(cI s.cap), (cR 1 ((s.used).map rI)), (cR 4 ((s.advices).map rAdvice))]))] Try.func35 rfl rfl rfl rfl ?_
  intro W0 T0
  refine AC.lenG 0 1 rfl rfl (fun hlen0_1 => ?_)
  refine AC.lenG 0 2 rfl rfl (fun hlen0_2 => ?_)
  refine AC.seq ?_
  refine AC.region ?_
  refine AL.new (n' := 1) (Wanted.plain rfl) (g_boxS 0 rfl rfl) rfl rfl rfl ?_
  refine AL.fast 1 rfl ?_
  refine AL.nil ?_
  refine then_ok ?_
  refine AC.seq ?_
  refine AC.cutB 19 ((decide ((↑s.used.length : Int) > 8)) || (decide ((↑s.advices.length : Int) > 20))) ?_ ?_
  ·
    refine AC.region ?_
    refine AL.val (Wanted.plain rfl) (g_fieldP rfl rfl Try.underlying26 rfl sz24 (by decide)) rfl rfl ?_
    refine AL.val (Wanted.plain rfl) (g_loadB rfl rfl rfl Try.underlying24 rfl rfl) rfl rfl ?_
    refine AL.val (Wanted.plain rfl) (g_lenM rfl rfl rfl rfl rfl Try.underlying24) rfl rfl ?_
    refine AL.val (Wanted.plain rfl) (g_binI rfl rfl rfl rfl) rfl rfl ?_
    refine AL.fast 1 rfl ?_
    refine AL.dec (t := 14) rfl (fun hb1 => ?_) (fun hb1 => ?_)
    ·
      have hb1' := hb1; try simp only [Bool.not_eq_true', Bool.not_eq_false', Bool.or_eq_true, Bool.or_eq_false_iff, Bool.and_eq_true, Bool.and_eq_false_imp, decide_eq_true_eq, decide_eq_false_iff_not, Bool.not_not, Bool.not_true, Bool.not_false] at hb1'
      refine AL.fast 5 rfl ?_
      refine AL.nil ?_
      refine then_ok ?_
      exact Weak.popB 11 rfl rfl (by simp [hb1]) rfl
    ·
      have hb1' := hb1; try simp only [Bool.not_eq_true', Bool.not_eq_false', Bool.or_eq_true, Bool.or_eq_false_iff, Bool.and_eq_true, Bool.and_eq_false_imp, decide_eq_true_eq, decide_eq_false_iff_not, Bool.not_not, Bool.not_true, Bool.not_false] at hb1'
      refine AL.val (Wanted.yes rfl rfl rfl) (g_fieldP rfl rfl Try.underlying26 rfl sz22 (by decide)) rfl rfl ?_
      refine AL.val (Wanted.yes rfl rfl rfl) (g_loadB rfl rfl rfl Try.underlying22 rfl rfl) rfl rfl ?_
      refine AL.val (Wanted.yes rfl rfl rfl) (g_lenM rfl rfl rfl rfl rfl Try.underlying22) rfl rfl ?_
      refine AL.val (Wanted.yes rfl rfl rfl) (g_binI rfl rfl rfl rfl) rfl rfl ?_
      refine AL.fast 1 rfl ?_
      refine AL.nil ?_
      refine then_ok ?_
      exact Weak.popB 11 rfl rfl (by simp [hb1]) rfl
  ·
    refine AC.cond rfl (fun hc2 => ?_) (fun hc2 => ?_)
    ·
      have hc2' := hc2; try simp only [Bool.not_eq_true', Bool.not_eq_false', Bool.or_eq_true, Bool.or_eq_false_iff, Bool.and_eq_true, Bool.and_eq_false_imp, decide_eq_true_eq, decide_eq_false_iff_not, Bool.not_not, Bool.not_true, Bool.not_false] at hc2'
      refine AC.seq ?_
      refine AC.region ?_
      refine AL.fast 1 rfl ?_
      refine AL.nil ?_
      refine then_ok ?_
      refine AC.ret ?_
      refine then_ret ?_
      have hX : wrongStand s = 5 := by
        exact wrongStand_5 (by omega)
      rw [hX] at hr; clear hX
      subst hr
      refine retQ_mk (av' := outOf [(.c (cI 5))]) (nb' := []) (retQ_ret ⟨[(2, (aI 5))], [], 0⟩ [.tmp 2] [(.c (cI 5))] (Weak.ren id (⟨by first | rfl | (simp only [AV.map, GV.map, CV.map, AB.map', id]; done) | (congr 3; omega) | (congr 4; omega),  trivial⟩) (trivial) rfl) rfl ⟨.tmp rfl, trivial⟩ trivial) ?_ ?_
      · first | rfl | (simp [outOf, aC]; done)
      · first | rfl | (simp; done)
    ·
      have hc2' := hc2; try simp only [Bool.not_eq_true', Bool.not_eq_false', Bool.or_eq_true, Bool.or_eq_false_iff, Bool.and_eq_true, Bool.and_eq_false_imp, decide_eq_true_eq, decide_eq_false_iff_not, Bool.not_not, Bool.not_true, Bool.not_false] at hc2'
      refine AC.skip ?_
      refine then_ok ?_
      refine AC.seq ?_
      refine AC.seq ?_
      refine AC.region ?_
      refine AL.val (Wanted.plain rfl) (g_fieldP rfl rfl Try.underlying26 rfl sz3 (by decide)) rfl rfl ?_
      refine AL.val (Wanted.plain rfl) (g_loadB rfl rfl rfl Try.underlying3 rfl rfl) rfl rfl ?_
      refine AL.call (n' := 1) (h' := [(0, (.box 26 [(cI s.cap), (cR 1 ((s.used).map rI)), (cR 4 ((s.advices).map rAdvice))]))]) (Wanted.plain rfl) (g_call 1 (c_sum s.cap  ) en103 rfl rfl ⟨⟨_, rfl, .c (.d _)⟩,  trivial⟩ trivial trivial rfl rfl rfl rfl) rfl rfl rfl rfl rfl ?_
      refine AL.val (Wanted.plain rfl) (g_notB rfl rfl) rfl rfl ?_
      refine AL.nil ?_
      refine then_ok ?_
      refine AC.cond rfl (fun hc3 => ?_) (fun hc3 => ?_)
      ·
        have hc3' := hc3; try simp only [Bool.not_eq_true', Bool.not_eq_false', Bool.or_eq_true, Bool.or_eq_false_iff, Bool.and_eq_true, Bool.and_eq_false_imp, decide_eq_true_eq, decide_eq_false_iff_not, Bool.not_not, Bool.not_true, Bool.not_false] at hc3'
        refine AC.seq ?_
        refine AC.region ?_
        refine AL.fast 1 rfl ?_
        refine AL.nil ?_
        refine then_ok ?_
        refine AC.ret ?_
        refine then_ret ?_
        have hX : wrongStand s = 3 := by
          exact wrongStand_cap (by omega) (by simp only [capB, decide_eq_false_iff_not]; simp_all [sumB] <;> omega)
        rw [hX] at hr; clear hX
        subst hr
        refine retQ_mk (av' := outOf [(.c (cI 3))]) (nb' := []) (retQ_ret ⟨[(2, (aI 3))], [], 0⟩ [.tmp 2] [(.c (cI 3))] (Weak.ren id (⟨by first | rfl | (simp only [AV.map, GV.map, CV.map, AB.map', id]; done) | (congr 3; omega) | (congr 4; omega),  trivial⟩) (trivial) rfl) rfl ⟨.tmp rfl, trivial⟩ trivial) ?_ ?_
        · first | rfl | (simp [outOf, aC]; done)
        · first | rfl | (simp; done)
      ·
        have hc3' := hc3; try simp only [Bool.not_eq_true', Bool.not_eq_false', Bool.or_eq_true, Bool.or_eq_false_iff, Bool.and_eq_true, Bool.and_eq_false_imp, decide_eq_true_eq, decide_eq_false_iff_not, Bool.not_not, Bool.not_true, Bool.not_false] at hc3'
        refine AC.skip ?_
        refine then_ok ?_
        refine AC.seq ?_
        refine AC.seq ?_
        refine AC.region ?_
        refine AL.val (Wanted.plain rfl) (g_fieldP rfl rfl Try.underlying26 rfl sz22 (by decide)) rfl rfl ?_
        refine AL.val (Wanted.plain rfl) (g_loadB rfl rfl rfl Try.underlying22 rfl rfl) rfl rfl ?_
        refine AL.val (Wanted.plain rfl) (g_lenM rfl rfl rfl rfl rfl Try.underlying22) rfl rfl ?_
        refine AL.fast 1 rfl ?_
        refine AL.nil ?_
        refine then_ok ?_
        refine AC.block ?_
        refine AC.loop (β := Nat) (fun (q : Nat) => ⟨[(1, (aC (.p 0 0 0 0))), (25, (aC (cR 4 ((s.advices).map rAdvice)))), (26, (aI (↑s.advices.length : Int))), (27, (aI (↑q : Int)))], [(0, (.box 26 [(cI s.cap), (cR 1 ((s.used).map rI)), (cR 4 ((s.advices).map rAdvice))]))], 1⟩) (fun (q : Nat) => q ≤ s.advices.length ∧ (s.advices.take q).all (okAdv s.used.length) = true) (fun (q : Nat) => s.advices.length - q) 0 ?_ ?_ ?_
        · exact ⟨by omega, by simp⟩
        · exact Weak.ren id (⟨by first | rfl | (simp only [AV.map, GV.map, CV.map, AB.map', id]; done) | (congr 3; omega) | (congr 4; omega), by first | rfl | (simp only [AV.map, GV.map, CV.map, AB.map', id]; done) | (congr 3; omega) | (congr 4; omega), by first | rfl | (simp only [AV.map, GV.map, CV.map, AB.map', id]; done) | (congr 3; omega) | (congr 4; omega), by first | rfl | (simp only [AV.map, GV.map, CV.map, AB.map', id]; done) | (congr 3; omega) | (congr 4; omega),  trivial⟩) (⟨by first | rfl | (simp only [AV.map, GV.map, CV.map, AB.map', id]; done) | (congr 3; omega) | (congr 4; omega),  trivial⟩) rfl
        ·
          rintro q ⟨hi0_0, hi0_1⟩
          refine AC.seq ?_
          refine AC.region ?_
          refine AL.val (Wanted.plain rfl) (g_binI rfl rfl rfl rfl) rfl rfl ?_
          refine AL.nil ?_
          refine then_ok ?_
          refine AC.seq ?_
          refine AC.cond rfl (fun hc4 => ?_) (fun hc4 => ?_)
          ·
            have hc4' := hc4; try simp only [Bool.not_eq_true', Bool.not_eq_false', Bool.or_eq_true, Bool.or_eq_false_iff, Bool.and_eq_true, Bool.and_eq_false_imp, decide_eq_true_eq, decide_eq_false_iff_not, Bool.not_not, Bool.not_true, Bool.not_false] at hc4'
            refine AC.skip ?_
            refine then_ok ?_
            refine AC.seq ?_
            refine AC.block ?_
            refine AC.seq ?_
            refine AC.region ?_
            obtain ⟨x1, hx1⟩ := exget (xs := s.advices) (i := q) (by first | omega | (simp; done) | (simp; omega))
            refine AL.val (Wanted.plain rfl) (g_indexQ (i := q) rfl rfl rfl Try.underlying22 sz32 (by first | omega | (simp; done) | (simp; omega)) (getmap hx1)) rfl rfl ?_
            refine AL.val (Wanted.plain rfl) (g_loadQs rfl rfl Try.underlying32 rfl sz32 rfl rfl) rfl rfl ?_
            refine AL.new (n' := 2) (Wanted.plain rfl) (g_alloc 1 rfl zv32 rfl rfl rfl) rfl rfl rfl ?_
            refine AL.sto (h' := [(1, (.box 32 [(cI x1.card), (cI x1.shop), (cI x1.sum), (cI x1.time)])), (0, (.box 26 [(cI s.cap), (cR 1 ((s.used).map rI)), (cR 4 ((s.advices).map rAdvice))]))]) (Wanted.plain rfl) (g_storeB rfl rfl rfl rfl rfl sz32 rfl (Nat.le_of_ble_eq_true rfl) rfl) rfl rfl rfl rfl ?_
            refine AL.nil ?_
            refine then_ok ?_
            refine AC.cutB 72 ((((((((decide (x1.card < 0)) || (decide (x1.card ≥ (↑s.used.length : Int)))) || (decide (x1.shop < 0))) || (decide (x1.shop > 7))) || (decide (x1.sum < 1))) || (!(sumB x1.sum))) || (decide (x1.time < 0))) || (decide (x1.time > 1000000))) ?_ ?_
            ·
              refine AC.region ?_
              refine AL.val (Wanted.plain rfl) (g_fieldP rfl rfl Try.underlying32 rfl sz3 (by decide)) rfl rfl ?_
              refine AL.val (Wanted.plain rfl) (g_loadB rfl rfl rfl Try.underlying3 rfl rfl) rfl rfl ?_
              refine AL.val (Wanted.plain rfl) (g_binI rfl rfl rfl rfl) rfl rfl ?_
              refine AL.fast 1 rfl ?_
              refine AL.dec (t := 34) rfl (fun hb5 => ?_) (fun hb5 => ?_)
              ·
                have hb5' := hb5; try simp only [Bool.not_eq_true', Bool.not_eq_false', Bool.or_eq_true, Bool.or_eq_false_iff, Bool.and_eq_true, Bool.and_eq_false_imp, decide_eq_true_eq, decide_eq_false_iff_not, Bool.not_not, Bool.not_true, Bool.not_false] at hb5'
                refine AL.fast 38 rfl ?_
                refine AL.nil ?_
                refine then_ok ?_
                exact Weak.popB 43 rfl rfl (by simp [hb5]) rfl
              ·
                have hb5' := hb5; try simp only [Bool.not_eq_true', Bool.not_eq_false', Bool.or_eq_true, Bool.or_eq_false_iff, Bool.and_eq_true, Bool.and_eq_false_imp, decide_eq_true_eq, decide_eq_false_iff_not, Bool.not_not, Bool.not_true, Bool.not_false] at hb5'
                refine AL.val (Wanted.yes rfl rfl rfl) (g_fieldP rfl rfl Try.underlying32 rfl sz3 (by decide)) rfl rfl ?_
                refine AL.val (Wanted.yes rfl rfl rfl) (g_loadB rfl rfl rfl Try.underlying3 rfl rfl) rfl rfl ?_
                refine AL.val (Wanted.yes rfl rfl rfl) (g_fieldP rfl rfl Try.underlying26 rfl sz24 (by decide)) rfl rfl ?_
                refine AL.val (Wanted.yes rfl rfl rfl) (g_loadB rfl rfl rfl Try.underlying24 rfl rfl) rfl rfl ?_
                refine AL.val (Wanted.yes rfl rfl rfl) (g_lenM rfl rfl rfl rfl rfl Try.underlying24) rfl rfl ?_
                refine AL.val (Wanted.yes rfl rfl rfl) (g_binI rfl rfl rfl rfl) rfl rfl ?_
                refine AL.fast 2 rfl ?_
                refine AL.dec (t := 42) rfl (fun hb6 => ?_) (fun hb6 => ?_)
                ·
                  have hb6' := hb6; try simp only [Bool.not_eq_true', Bool.not_eq_false', Bool.or_eq_true, Bool.or_eq_false_iff, Bool.and_eq_true, Bool.and_eq_false_imp, decide_eq_true_eq, decide_eq_false_iff_not, Bool.not_not, Bool.not_true, Bool.not_false] at hb6'
                  refine AL.fast 30 rfl ?_
                  refine AL.nil ?_
                  refine then_ok ?_
                  exact Weak.popB 44 rfl rfl (by simp [hb5, hb6]) rfl
                ·
                  have hb6' := hb6; try simp only [Bool.not_eq_true', Bool.not_eq_false', Bool.or_eq_true, Bool.or_eq_false_iff, Bool.and_eq_true, Bool.and_eq_false_imp, decide_eq_true_eq, decide_eq_false_iff_not, Bool.not_not, Bool.not_true, Bool.not_false] at hb6'
                  refine AL.val (Wanted.yes rfl rfl rfl) (g_fieldP rfl rfl Try.underlying32 rfl sz3 (by decide)) rfl rfl ?_
                  refine AL.val (Wanted.yes rfl rfl rfl) (g_loadB rfl rfl rfl Try.underlying3 rfl rfl) rfl rfl ?_
                  refine AL.val (Wanted.yes rfl rfl rfl) (g_binI rfl rfl rfl rfl) rfl rfl ?_
                  refine AL.fast 2 rfl ?_
                  refine AL.dec (t := 47) rfl (fun hb7 => ?_) (fun hb7 => ?_)
                  ·
                    have hb7' := hb7; try simp only [Bool.not_eq_true', Bool.not_eq_false', Bool.or_eq_true, Bool.or_eq_false_iff, Bool.and_eq_true, Bool.and_eq_false_imp, decide_eq_true_eq, decide_eq_false_iff_not, Bool.not_not, Bool.not_true, Bool.not_false] at hb7'
                    refine AL.fast 25 rfl ?_
                    refine AL.nil ?_
                    refine then_ok ?_
                    exact Weak.popB 45 rfl rfl (by simp [hb5, hb6, hb7]) rfl
                  ·
                    have hb7' := hb7; try simp only [Bool.not_eq_true', Bool.not_eq_false', Bool.or_eq_true, Bool.or_eq_false_iff, Bool.and_eq_true, Bool.and_eq_false_imp, decide_eq_true_eq, decide_eq_false_iff_not, Bool.not_not, Bool.not_true, Bool.not_false] at hb7'
                    refine AL.val (Wanted.yes rfl rfl rfl) (g_fieldP rfl rfl Try.underlying32 rfl sz3 (by decide)) rfl rfl ?_
                    refine AL.val (Wanted.yes rfl rfl rfl) (g_loadB rfl rfl rfl Try.underlying3 rfl rfl) rfl rfl ?_
                    refine AL.val (Wanted.yes rfl rfl rfl) (g_binI rfl rfl rfl rfl) rfl rfl ?_
                    refine AL.fast 2 rfl ?_
                    refine AL.dec (t := 52) rfl (fun hb8 => ?_) (fun hb8 => ?_)
                    ·
                      have hb8' := hb8; try simp only [Bool.not_eq_true', Bool.not_eq_false', Bool.or_eq_true, Bool.or_eq_false_iff, Bool.and_eq_true, Bool.and_eq_false_imp, decide_eq_true_eq, decide_eq_false_iff_not, Bool.not_not, Bool.not_true, Bool.not_false] at hb8'
                      refine AL.fast 20 rfl ?_
                      refine AL.nil ?_
                      refine then_ok ?_
                      exact Weak.popB 46 rfl rfl (by simp [hb5, hb6, hb7, hb8]) rfl
                    ·
                      have hb8' := hb8; try simp only [Bool.not_eq_true', Bool.not_eq_false', Bool.or_eq_true, Bool.or_eq_false_iff, Bool.and_eq_true, Bool.and_eq_false_imp, decide_eq_true_eq, decide_eq_false_iff_not, Bool.not_not, Bool.not_true, Bool.not_false] at hb8'
                      refine AL.val (Wanted.yes rfl rfl rfl) (g_fieldP rfl rfl Try.underlying32 rfl sz3 (by decide)) rfl rfl ?_
                      refine AL.val (Wanted.yes rfl rfl rfl) (g_loadB rfl rfl rfl Try.underlying3 rfl rfl) rfl rfl ?_
                      refine AL.val (Wanted.yes rfl rfl rfl) (g_binI rfl rfl rfl rfl) rfl rfl ?_
                      refine AL.fast 2 rfl ?_
                      refine AL.dec (t := 57) rfl (fun hb9 => ?_) (fun hb9 => ?_)
                      ·
                        have hb9' := hb9; try simp only [Bool.not_eq_true', Bool.not_eq_false', Bool.or_eq_true, Bool.or_eq_false_iff, Bool.and_eq_true, Bool.and_eq_false_imp, decide_eq_true_eq, decide_eq_false_iff_not, Bool.not_not, Bool.not_true, Bool.not_false] at hb9'
                        refine AL.fast 15 rfl ?_
                        refine AL.nil ?_
                        refine then_ok ?_
                        exact Weak.popB 47 rfl rfl (by simp [hb5, hb6, hb7, hb8, hb9]) rfl
                      ·
                        have hb9' := hb9; try simp only [Bool.not_eq_true', Bool.not_eq_false', Bool.or_eq_true, Bool.or_eq_false_iff, Bool.and_eq_true, Bool.and_eq_false_imp, decide_eq_true_eq, decide_eq_false_iff_not, Bool.not_not, Bool.not_true, Bool.not_false] at hb9'
                        refine AL.val (Wanted.yes rfl rfl rfl) (g_fieldP rfl rfl Try.underlying32 rfl sz3 (by decide)) rfl rfl ?_
                        refine AL.val (Wanted.yes rfl rfl rfl) (g_loadB rfl rfl rfl Try.underlying3 rfl rfl) rfl rfl ?_
                        refine AL.call (n' := 2) (h' := [(1, (.box 32 [(cI x1.card), (cI x1.shop), (cI x1.sum), (cI x1.time)])), (0, (.box 26 [(cI s.cap), (cR 1 ((s.used).map rI)), (cR 4 ((s.advices).map rAdvice))]))]) (Wanted.yes rfl rfl rfl) (g_call 2 (c_sum x1.sum  ) en103 rfl rfl ⟨⟨_, rfl, .c (.d _)⟩,  trivial⟩ trivial trivial rfl rfl rfl rfl) rfl rfl rfl rfl rfl ?_
                        refine AL.val (Wanted.yes rfl rfl rfl) (g_notB rfl rfl) rfl rfl ?_
                        refine AL.fast 2 rfl ?_
                        refine AL.dec (t := 63) rfl (fun hb10 => ?_) (fun hb10 => ?_)
                        ·
                          have hb10' := hb10; try simp only [Bool.not_eq_true', Bool.not_eq_false', Bool.or_eq_true, Bool.or_eq_false_iff, Bool.and_eq_true, Bool.and_eq_false_imp, decide_eq_true_eq, decide_eq_false_iff_not, Bool.not_not, Bool.not_true, Bool.not_false] at hb10'
                          refine AL.fast 9 rfl ?_
                          refine AL.nil ?_
                          refine then_ok ?_
                          exact Weak.popB 48 rfl rfl (by simp [hb5, hb6, hb7, hb8, hb9, hb10]) rfl
                        ·
                          have hb10' := hb10; try simp only [Bool.not_eq_true', Bool.not_eq_false', Bool.or_eq_true, Bool.or_eq_false_iff, Bool.and_eq_true, Bool.and_eq_false_imp, decide_eq_true_eq, decide_eq_false_iff_not, Bool.not_not, Bool.not_true, Bool.not_false] at hb10'
                          refine AL.val (Wanted.yes rfl rfl rfl) (g_fieldP rfl rfl Try.underlying32 rfl sz3 (by decide)) rfl rfl ?_
                          refine AL.val (Wanted.yes rfl rfl rfl) (g_loadB rfl rfl rfl Try.underlying3 rfl rfl) rfl rfl ?_
                          refine AL.val (Wanted.yes rfl rfl rfl) (g_binI rfl rfl rfl rfl) rfl rfl ?_
                          refine AL.fast 2 rfl ?_
                          refine AL.dec (t := 68) rfl (fun hb11 => ?_) (fun hb11 => ?_)
                          ·
                            have hb11' := hb11; try simp only [Bool.not_eq_true', Bool.not_eq_false', Bool.or_eq_true, Bool.or_eq_false_iff, Bool.and_eq_true, Bool.and_eq_false_imp, decide_eq_true_eq, decide_eq_false_iff_not, Bool.not_not, Bool.not_true, Bool.not_false] at hb11'
                            refine AL.fast 4 rfl ?_
                            refine AL.nil ?_
                            refine then_ok ?_
                            exact Weak.popB 49 rfl rfl (by simp [hb5, hb6, hb7, hb8, hb9, hb10, hb11]) rfl
                          ·
                            have hb11' := hb11; try simp only [Bool.not_eq_true', Bool.not_eq_false', Bool.or_eq_true, Bool.or_eq_false_iff, Bool.and_eq_true, Bool.and_eq_false_imp, decide_eq_true_eq, decide_eq_false_iff_not, Bool.not_not, Bool.not_true, Bool.not_false] at hb11'
                            refine AL.val (Wanted.yes rfl rfl rfl) (g_fieldP rfl rfl Try.underlying32 rfl sz3 (by decide)) rfl rfl ?_
                            refine AL.val (Wanted.yes rfl rfl rfl) (g_loadB rfl rfl rfl Try.underlying3 rfl rfl) rfl rfl ?_
                            refine AL.val (Wanted.yes rfl rfl rfl) (g_binI rfl rfl rfl rfl) rfl rfl ?_
                            refine AL.fast 1 rfl ?_
                            refine AL.nil ?_
                            refine then_ok ?_
                            exact Weak.popB 49 rfl rfl (by simp [hb5, hb6, hb7, hb8, hb9, hb10, hb11]) rfl
            ·
              refine AC.cond rfl (fun hc12 => ?_) (fun hc12 => ?_)
              ·
                have hc12' := hc12; try simp only [Bool.not_eq_true', Bool.not_eq_false', Bool.or_eq_true, Bool.or_eq_false_iff, Bool.and_eq_true, Bool.and_eq_false_imp, decide_eq_true_eq, decide_eq_false_iff_not, Bool.not_not, Bool.not_true, Bool.not_false] at hc12'
                refine AC.seq ?_
                refine AC.region ?_
                refine AL.fast 1 rfl ?_
                refine AL.nil ?_
                refine then_ok ?_
                refine AC.ret ?_
                refine block_ret ?_
                refine then_ret ?_
                refine then_ret ?_
                refine block_ret ?_
                refine then_ret ?_
                have hX : wrongStand s = 3 := by
                  exact wrongStand_adv (show ¬ (8 < s.used.length ∨ 20 < s.advices.length) by omega) (show capB s.cap = true by simp only [capB, decide_eq_true_eq]; simp_all [sumB]) (all_no hx1 (by simp only [okAdv, decide_eq_false_iff_not]; simp_all [sumB] <;> omega))
                rw [hX] at hr; clear hX
                subst hr
                refine retQ_mk (av' := outOf [(.c (cI 3))]) (nb' := []) (retQ_ret ⟨[(2, (aI 3))], [], 0⟩ [.tmp 2] [(.c (cI 3))] (Weak.ren id (⟨by first | rfl | (simp only [AV.map, GV.map, CV.map, AB.map', id]; done) | (congr 3; omega) | (congr 4; omega),  trivial⟩) (trivial) rfl) rfl ⟨.tmp rfl, trivial⟩ trivial) ?_ ?_
                · first | rfl | (simp [outOf, aC]; done)
                · first | rfl | (simp; done)
              ·
                have hc12' := hc12; try simp only [Bool.not_eq_true', Bool.not_eq_false', Bool.or_eq_true, Bool.or_eq_false_iff, Bool.and_eq_true, Bool.and_eq_false_imp, decide_eq_true_eq, decide_eq_false_iff_not, Bool.not_not, Bool.not_true, Bool.not_false] at hc12'
                refine AC.skip ?_
                refine block_ok ?_
                refine then_ok ?_
                refine AC.region ?_
                refine AL.val (Wanted.plain rfl) (g_binI rfl rfl rfl (wrap_ok (by first | omega | (simp; done) | (simp; omega)))) rfl rfl ?_
                refine AL.fast 1 rfl ?_
                refine AL.nil ?_
                refine then_ok ?_
                refine ⟨q + 1, ⟨by omega, all_yes hi0_1 hx1 (by simp only [okAdv, decide_eq_true_eq]; simp_all [sumB] <;> omega)⟩, by first | omega | (simp; done) | (simp; omega), Weak.ren id (⟨by first | rfl | (simp only [AV.map, GV.map, CV.map, AB.map', id]; done) | (congr 3; omega) | (congr 4; omega), by first | rfl | (simp only [AV.map, GV.map, CV.map, AB.map', id]; done) | (congr 3; omega) | (congr 4; omega), by first | rfl | (simp only [AV.map, GV.map, CV.map, AB.map', id]; done) | (congr 3; omega) | (congr 4; omega), by first | rfl | (simp only [AV.map, GV.map, CV.map, AB.map', id]; done) | (congr 3; omega) | (congr 4; omega),  trivial⟩) (⟨by first | rfl | (simp only [AV.map, GV.map, CV.map, AB.map', id]; done) | (congr 3; omega) | (congr 4; omega),  trivial⟩) rfl⟩
          ·
            have hc4' := hc4; try simp only [Bool.not_eq_true', Bool.not_eq_false', Bool.or_eq_true, Bool.or_eq_false_iff, Bool.and_eq_true, Bool.and_eq_false_imp, decide_eq_true_eq, decide_eq_false_iff_not, Bool.not_not, Bool.not_true, Bool.not_false] at hc4'
            refine AC.exit ?_
            refine then_exit ?_
            refine then_exit ?_
            refine block_hit ?_
            refine then_ok ?_
            refine AC.seq ?_
            refine AC.seq ?_
            refine AC.region ?_
            refine AL.val (Wanted.plain rfl) (g_fieldP rfl rfl Try.underlying26 rfl sz24 (by decide)) rfl rfl ?_
            refine AL.val (Wanted.plain rfl) (g_loadB rfl rfl rfl Try.underlying24 rfl rfl) rfl rfl ?_
            refine AL.val (Wanted.plain rfl) (g_lenM rfl rfl rfl rfl rfl Try.underlying24) rfl rfl ?_
            refine AL.fast 1 rfl ?_
            refine AL.nil ?_
            refine then_ok ?_
            refine AC.block ?_
            have hall : s.advices.all (okAdv s.used.length) = true := by rw [← List.take_of_length_le (l := s.advices) (i := q) (by omega)]; exact hi0_1
            refine AC.loop (β := Nat) (fun (p : Nat) => ⟨[(1, (aC (.p 0 0 0 0))), (25, (aC (cR 4 ((s.advices).map rAdvice)))), (26, (aI (↑s.advices.length : Int))), (27, (aI (↑q : Int))), (75, (aC (cR 1 ((s.used).map rI)))), (76, (aI (↑s.used.length : Int))), (77, (aI (↑p : Int)))], [(0, (.box 26 [(cI s.cap), (cR 1 ((s.used).map rI)), (cR 4 ((s.advices).map rAdvice))]))], 1⟩) (fun (p : Nat) => p ≤ s.used.length ∧ fitUsed s.cap s.advices 0 s.used = fitUsed s.cap s.advices p (s.used.drop p)) (fun (p : Nat) => s.used.length - p) 0 ?_ ?_ ?_
            · exact ⟨by omega, rfl⟩
            · exact Weak.ren id (⟨by first | rfl | (simp only [AV.map, GV.map, CV.map, AB.map', id]; done) | (congr 3; omega) | (congr 4; omega), by first | rfl | (simp only [AV.map, GV.map, CV.map, AB.map', id]; done) | (congr 3; omega) | (congr 4; omega), by first | rfl | (simp only [AV.map, GV.map, CV.map, AB.map', id]; done) | (congr 3; omega) | (congr 4; omega), by first | rfl | (simp only [AV.map, GV.map, CV.map, AB.map', id]; done) | (congr 3; omega) | (congr 4; omega), by first | rfl | (simp only [AV.map, GV.map, CV.map, AB.map', id]; done) | (congr 3; omega) | (congr 4; omega), by first | rfl | (simp only [AV.map, GV.map, CV.map, AB.map', id]; done) | (congr 3; omega) | (congr 4; omega), by first | rfl | (simp only [AV.map, GV.map, CV.map, AB.map', id]; done) | (congr 3; omega) | (congr 4; omega),  trivial⟩) (⟨by first | rfl | (simp only [AV.map, GV.map, CV.map, AB.map', id]; done) | (congr 3; omega) | (congr 4; omega),  trivial⟩) rfl
            ·
              rintro p ⟨hi1_0, hi1_1⟩
              refine AC.seq ?_
              refine AC.region ?_
              refine AL.val (Wanted.plain rfl) (g_binI rfl rfl rfl rfl) rfl rfl ?_
              refine AL.nil ?_
              refine then_ok ?_
              refine AC.seq ?_
              refine AC.cond rfl (fun hc13 => ?_) (fun hc13 => ?_)
              ·
                have hc13' := hc13; try simp only [Bool.not_eq_true', Bool.not_eq_false', Bool.or_eq_true, Bool.or_eq_false_iff, Bool.and_eq_true, Bool.and_eq_false_imp, decide_eq_true_eq, decide_eq_false_iff_not, Bool.not_not, Bool.not_true, Bool.not_false] at hc13'
                refine AC.skip ?_
                refine then_ok ?_
                refine AC.seq ?_
                refine AC.block ?_
                refine AC.seq ?_
                refine AC.region ?_
                refine AL.fast 1 rfl ?_
                obtain ⟨x1, hx1⟩ := exget (xs := s.used) (i := p) (by first | omega | (simp; done) | (simp; omega))
                refine AL.val (Wanted.plain rfl) (g_indexQ (i := p) rfl rfl rfl Try.underlying24 sz3 (by first | omega | (simp; done) | (simp; omega)) (getmap hx1)) rfl rfl ?_
                refine AL.val (Wanted.plain rfl) (g_loadQ rfl rfl Try.underlying3 rfl rfl) rfl rfl ?_
                refine AL.fast 2 rfl ?_
                refine AL.nil ?_
                refine then_ok ?_
                refine AC.seq ?_
                refine AC.region ?_
                refine AL.fast 1 rfl ?_
                refine AL.nil ?_
                refine then_ok ?_
                refine AC.seq ?_
                refine AC.seq ?_
                refine AC.region ?_
                refine AL.val (Wanted.plain rfl) (g_fieldP rfl rfl Try.underlying26 rfl sz22 (by decide)) rfl rfl ?_
                refine AL.val (Wanted.plain rfl) (g_loadB rfl rfl rfl Try.underlying22 rfl rfl) rfl rfl ?_
                refine AL.val (Wanted.plain rfl) (g_lenM rfl rfl rfl rfl rfl Try.underlying22) rfl rfl ?_
                refine AL.fast 1 rfl ?_
                refine AL.nil ?_
                refine then_ok ?_
                refine AC.block ?_
                refine AC.loop (β := Nat) (fun (k : Nat) => ⟨[(1, (aC (.p 0 0 0 0))), (25, (aC (cR 4 ((s.advices).map rAdvice)))), (26, (aI (↑s.advices.length : Int))), (27, (aI (↑q : Int))), (75, (aC (cR 1 ((s.used).map rI)))), (76, (aI (↑s.used.length : Int))), (77, (aI (↑p : Int))), (5, (aI (↑p : Int))), (6, (aI x1)), (7, (aI (given ↑p (s.advices.take k)))), (83, (aC (cR 4 ((s.advices).map rAdvice)))), (84, (aI (↑s.advices.length : Int))), (85, (aI (↑k : Int)))], [(0, (.box 26 [(cI s.cap), (cR 1 ((s.used).map rI)), (cR 4 ((s.advices).map rAdvice))]))], 1⟩) (fun (k : Nat) => k ≤ s.advices.length) (fun (k : Nat) => s.advices.length - k) 0 ?_ ?_ ?_
                · exact (by omega)
                · exact Weak.ren id (⟨by first | rfl | (simp only [AV.map, GV.map, CV.map, AB.map', id]; done) | (congr 3; omega) | (congr 4; omega), by first | rfl | (simp only [AV.map, GV.map, CV.map, AB.map', id]; done) | (congr 3; omega) | (congr 4; omega), by first | rfl | (simp only [AV.map, GV.map, CV.map, AB.map', id]; done) | (congr 3; omega) | (congr 4; omega), by first | rfl | (simp only [AV.map, GV.map, CV.map, AB.map', id]; done) | (congr 3; omega) | (congr 4; omega), by first | rfl | (simp only [AV.map, GV.map, CV.map, AB.map', id]; done) | (congr 3; omega) | (congr 4; omega), by first | rfl | (simp only [AV.map, GV.map, CV.map, AB.map', id]; done) | (congr 3; omega) | (congr 4; omega), by first | rfl | (simp only [AV.map, GV.map, CV.map, AB.map', id]; done) | (congr 3; omega) | (congr 4; omega), by first | rfl | (simp only [AV.map, GV.map, CV.map, AB.map', id]; done) | (congr 3; omega) | (congr 4; omega), by first | rfl | (simp only [AV.map, GV.map, CV.map, AB.map', id]; done) | (congr 3; omega) | (congr 4; omega), by first | rfl | (simp only [AV.map, GV.map, CV.map, AB.map', id]; done) | (congr 3; omega) | (congr 4; omega), by first | rfl | (simp only [AV.map, GV.map, CV.map, AB.map', id]; done) | (congr 3; omega) | (congr 4; omega), by first | rfl | (simp only [AV.map, GV.map, CV.map, AB.map', id]; done) | (congr 3; omega) | (congr 4; omega), by first | rfl | (simp only [AV.map, GV.map, CV.map, AB.map', id]; done) | (congr 3; omega) | (congr 4; omega),  trivial⟩) (⟨by first | rfl | (simp only [AV.map, GV.map, CV.map, AB.map', id]; done) | (congr 3; omega) | (congr 4; omega),  trivial⟩) rfl
                ·
                  rintro k hi2_0
                  have hgb := given_bound s.used.length p _ (all_take _ _ k hall)
                  have hgl : (s.advices.take k).length ≤ k := List.length_take_le _ _
                  have hl20 : s.advices.length ≤ 20 := by omega
                  refine AC.seq ?_
                  refine AC.region ?_
                  refine AL.val (Wanted.plain rfl) (g_binI rfl rfl rfl rfl) rfl rfl ?_
                  refine AL.nil ?_
                  refine then_ok ?_
                  refine AC.seq ?_
                  refine AC.cond rfl (fun hc14 => ?_) (fun hc14 => ?_)
                  ·
                    have hc14' := hc14; try simp only [Bool.not_eq_true', Bool.not_eq_false', Bool.or_eq_true, Bool.or_eq_false_iff, Bool.and_eq_true, Bool.and_eq_false_imp, decide_eq_true_eq, decide_eq_false_iff_not, Bool.not_not, Bool.not_true, Bool.not_false] at hc14'
                    refine AC.skip ?_
                    refine then_ok ?_
                    refine AC.seq ?_
                    refine AC.block ?_
                    refine AC.seq ?_
                    refine AC.region ?_
                    obtain ⟨x2, hx2⟩ := exget (xs := s.advices) (i := k) (by first | omega | (simp; done) | (simp; omega))
                    have hx2v := List.all_eq_true.1 hall x2 (List.mem_of_getElem? hx2)
                    simp only [okAdv, decide_eq_true_eq] at hx2v
                    refine AL.val (Wanted.plain rfl) (g_indexQ (i := k) rfl rfl rfl Try.underlying22 sz32 (by first | omega | (simp; done) | (simp; omega)) (getmap hx2)) rfl rfl ?_
                    refine AL.val (Wanted.plain rfl) (g_loadQs rfl rfl Try.underlying32 rfl sz32 rfl rfl) rfl rfl ?_
                    refine AL.new (n' := 2) (Wanted.plain rfl) (g_alloc 1 rfl zv32 rfl rfl rfl) rfl rfl rfl ?_
                    refine AL.sto (h' := [(1, (.box 32 [(cI x2.card), (cI x2.shop), (cI x2.sum), (cI x2.time)])), (0, (.box 26 [(cI s.cap), (cR 1 ((s.used).map rI)), (cR 4 ((s.advices).map rAdvice))]))]) (Wanted.plain rfl) (g_storeB rfl rfl rfl rfl rfl sz32 rfl (Nat.le_of_ble_eq_true rfl) rfl) rfl rfl rfl rfl ?_
                    refine AL.nil ?_
                    refine then_ok ?_
                    refine AC.seq ?_
                    refine AC.region ?_
                    refine AL.val (Wanted.plain rfl) (g_fieldP rfl rfl Try.underlying32 rfl sz3 (by decide)) rfl rfl ?_
                    refine AL.val (Wanted.plain rfl) (g_loadB rfl rfl rfl Try.underlying3 rfl rfl) rfl rfl ?_
                    refine AL.fast 1 rfl ?_
                    refine AL.val (Wanted.plain rfl) (g_binI rfl rfl rfl rfl) rfl rfl ?_
                    refine AL.nil ?_
                    refine then_ok ?_
                    refine AC.cond rfl (fun hc15 => ?_) (fun hc15 => ?_)
                    ·
                      have hc15' := hc15; try simp only [Bool.not_eq_true', Bool.not_eq_false', Bool.or_eq_true, Bool.or_eq_false_iff, Bool.and_eq_true, Bool.and_eq_false_imp, decide_eq_true_eq, decide_eq_false_iff_not, Bool.not_not, Bool.not_true, Bool.not_false] at hc15'
                      refine AC.region ?_
                      refine AL.fast 1 rfl ?_
                      refine AL.val (Wanted.plain rfl) (g_fieldP rfl rfl Try.underlying32 rfl sz3 (by decide)) rfl rfl ?_
                      refine AL.val (Wanted.plain rfl) (g_loadB rfl rfl rfl Try.underlying3 rfl rfl) rfl rfl ?_
                      refine AL.val (Wanted.plain rfl) (g_binI rfl rfl rfl (wrap_ok (by first | omega | (simp; done) | (simp; omega)))) rfl rfl ?_
                      refine AL.fast 1 rfl ?_
                      refine AL.nil ?_
                      refine block_ok ?_
                      refine then_ok ?_
                      refine AC.region ?_
                      refine AL.val (Wanted.plain rfl) (g_binI rfl rfl rfl (wrap_ok (by first | omega | (simp; done) | (simp; omega)))) rfl rfl ?_
                      refine AL.fast 1 rfl ?_
                      refine AL.nil ?_
                      refine then_ok ?_
                      refine ⟨k + 1, by first | omega | trivial, by first | omega | (simp; done) | (simp; omega), Weak.ren id (⟨by first | rfl | ((first | (rw [take_get hx2, given_snoc, if_pos (by omega)]; rfl) | (rw [take_get hx2, given_snoc, if_neg (by omega), Int.add_zero]; rfl))), by first | rfl | ((first | (rw [take_get hx2, given_snoc, if_pos (by omega)]; rfl) | (rw [take_get hx2, given_snoc, if_neg (by omega), Int.add_zero]; rfl))), by first | rfl | ((first | (rw [take_get hx2, given_snoc, if_pos (by omega)]; rfl) | (rw [take_get hx2, given_snoc, if_neg (by omega), Int.add_zero]; rfl))), by first | rfl | ((first | (rw [take_get hx2, given_snoc, if_pos (by omega)]; rfl) | (rw [take_get hx2, given_snoc, if_neg (by omega), Int.add_zero]; rfl))), by first | rfl | ((first | (rw [take_get hx2, given_snoc, if_pos (by omega)]; rfl) | (rw [take_get hx2, given_snoc, if_neg (by omega), Int.add_zero]; rfl))), by first | rfl | ((first | (rw [take_get hx2, given_snoc, if_pos (by omega)]; rfl) | (rw [take_get hx2, given_snoc, if_neg (by omega), Int.add_zero]; rfl))), by first | rfl | ((first | (rw [take_get hx2, given_snoc, if_pos (by omega)]; rfl) | (rw [take_get hx2, given_snoc, if_neg (by omega), Int.add_zero]; rfl))), by first | rfl | ((first | (rw [take_get hx2, given_snoc, if_pos (by omega)]; rfl) | (rw [take_get hx2, given_snoc, if_neg (by omega), Int.add_zero]; rfl))), by first | rfl | ((first | (rw [take_get hx2, given_snoc, if_pos (by omega)]; rfl) | (rw [take_get hx2, given_snoc, if_neg (by omega), Int.add_zero]; rfl))), by first | rfl | ((first | (rw [take_get hx2, given_snoc, if_pos (by omega)]; rfl) | (rw [take_get hx2, given_snoc, if_neg (by omega), Int.add_zero]; rfl))), by first | rfl | ((first | (rw [take_get hx2, given_snoc, if_pos (by omega)]; rfl) | (rw [take_get hx2, given_snoc, if_neg (by omega), Int.add_zero]; rfl))), by first | rfl | ((first | (rw [take_get hx2, given_snoc, if_pos (by omega)]; rfl) | (rw [take_get hx2, given_snoc, if_neg (by omega), Int.add_zero]; rfl))), by first | rfl | ((first | (rw [take_get hx2, given_snoc, if_pos (by omega)]; rfl) | (rw [take_get hx2, given_snoc, if_neg (by omega), Int.add_zero]; rfl))),  trivial⟩) (⟨by first | rfl | (simp only [AV.map, GV.map, CV.map, AB.map', id]; done) | (congr 3; omega) | (congr 4; omega),  trivial⟩) rfl⟩
                    ·
                      have hc15' := hc15; try simp only [Bool.not_eq_true', Bool.not_eq_false', Bool.or_eq_true, Bool.or_eq_false_iff, Bool.and_eq_true, Bool.and_eq_false_imp, decide_eq_true_eq, decide_eq_false_iff_not, Bool.not_not, Bool.not_true, Bool.not_false] at hc15'
                      refine AC.skip ?_
                      refine block_ok ?_
                      refine then_ok ?_
                      refine AC.region ?_
                      refine AL.val (Wanted.plain rfl) (g_binI rfl rfl rfl (wrap_ok (by first | omega | (simp; done) | (simp; omega)))) rfl rfl ?_
                      refine AL.fast 1 rfl ?_
                      refine AL.nil ?_
                      refine then_ok ?_
                      refine ⟨k + 1, by first | omega | trivial, by first | omega | (simp; done) | (simp; omega), Weak.ren id (⟨by first | rfl | ((first | (rw [take_get hx2, given_snoc, if_pos (by omega)]; rfl) | (rw [take_get hx2, given_snoc, if_neg (by omega), Int.add_zero]; rfl))), by first | rfl | ((first | (rw [take_get hx2, given_snoc, if_pos (by omega)]; rfl) | (rw [take_get hx2, given_snoc, if_neg (by omega), Int.add_zero]; rfl))), by first | rfl | ((first | (rw [take_get hx2, given_snoc, if_pos (by omega)]; rfl) | (rw [take_get hx2, given_snoc, if_neg (by omega), Int.add_zero]; rfl))), by first | rfl | ((first | (rw [take_get hx2, given_snoc, if_pos (by omega)]; rfl) | (rw [take_get hx2, given_snoc, if_neg (by omega), Int.add_zero]; rfl))), by first | rfl | ((first | (rw [take_get hx2, given_snoc, if_pos (by omega)]; rfl) | (rw [take_get hx2, given_snoc, if_neg (by omega), Int.add_zero]; rfl))), by first | rfl | ((first | (rw [take_get hx2, given_snoc, if_pos (by omega)]; rfl) | (rw [take_get hx2, given_snoc, if_neg (by omega), Int.add_zero]; rfl))), by first | rfl | ((first | (rw [take_get hx2, given_snoc, if_pos (by omega)]; rfl) | (rw [take_get hx2, given_snoc, if_neg (by omega), Int.add_zero]; rfl))), by first | rfl | ((first | (rw [take_get hx2, given_snoc, if_pos (by omega)]; rfl) | (rw [take_get hx2, given_snoc, if_neg (by omega), Int.add_zero]; rfl))), by first | rfl | ((first | (rw [take_get hx2, given_snoc, if_pos (by omega)]; rfl) | (rw [take_get hx2, given_snoc, if_neg (by omega), Int.add_zero]; rfl))), by first | rfl | ((first | (rw [take_get hx2, given_snoc, if_pos (by omega)]; rfl) | (rw [take_get hx2, given_snoc, if_neg (by omega), Int.add_zero]; rfl))), by first | rfl | ((first | (rw [take_get hx2, given_snoc, if_pos (by omega)]; rfl) | (rw [take_get hx2, given_snoc, if_neg (by omega), Int.add_zero]; rfl))), by first | rfl | ((first | (rw [take_get hx2, given_snoc, if_pos (by omega)]; rfl) | (rw [take_get hx2, given_snoc, if_neg (by omega), Int.add_zero]; rfl))), by first | rfl | ((first | (rw [take_get hx2, given_snoc, if_pos (by omega)]; rfl) | (rw [take_get hx2, given_snoc, if_neg (by omega), Int.add_zero]; rfl))),  trivial⟩) (⟨by first | rfl | (simp only [AV.map, GV.map, CV.map, AB.map', id]; done) | (congr 3; omega) | (congr 4; omega),  trivial⟩) rfl⟩
                  ·
                    have hc14' := hc14; try simp only [Bool.not_eq_true', Bool.not_eq_false', Bool.or_eq_true, Bool.or_eq_false_iff, Bool.and_eq_true, Bool.and_eq_false_imp, decide_eq_true_eq, decide_eq_false_iff_not, Bool.not_not, Bool.not_true, Bool.not_false] at hc14'
                    refine AC.exit ?_
                    refine then_exit ?_
                    refine then_exit ?_
                    refine block_hit ?_
                    refine then_ok ?_
                    refine AC.cutB 106 ((decide (¬ x1 = (given ↑p (s.advices.take k)))) || (decide (x1 > s.cap))) ?_ ?_
                    ·
                      refine AC.region ?_
                      refine AL.fast 2 rfl ?_
                      refine AL.val (Wanted.plain rfl) (g_binI rfl rfl rfl rfl) rfl rfl ?_
                      refine AL.fast 1 rfl ?_
                      refine AL.dec (t := 101) rfl (fun hb16 => ?_) (fun hb16 => ?_)
                      ·
                        have hb16' := hb16; try simp only [Bool.not_eq_true', Bool.not_eq_false', Bool.or_eq_true, Bool.or_eq_false_iff, Bool.and_eq_true, Bool.and_eq_false_imp, decide_eq_true_eq, decide_eq_false_iff_not, Bool.not_not, Bool.not_true, Bool.not_false] at hb16'
                        refine AL.fast 5 rfl ?_
                        refine AL.nil ?_
                        refine then_ok ?_
                        exact Weak.popB 10 rfl rfl (by simp [hb16]) rfl
                      ·
                        have hb16' := hb16; try simp only [Bool.not_eq_true', Bool.not_eq_false', Bool.or_eq_true, Bool.or_eq_false_iff, Bool.and_eq_true, Bool.and_eq_false_imp, decide_eq_true_eq, decide_eq_false_iff_not, Bool.not_not, Bool.not_true, Bool.not_false] at hb16'
                        refine AL.fast 1 rfl ?_
                        refine AL.val (Wanted.yes rfl rfl rfl) (g_fieldP rfl rfl Try.underlying26 rfl sz3 (by decide)) rfl rfl ?_
                        refine AL.val (Wanted.yes rfl rfl rfl) (g_loadB rfl rfl rfl Try.underlying3 rfl rfl) rfl rfl ?_
                        refine AL.val (Wanted.yes rfl rfl rfl) (g_binI rfl rfl rfl rfl) rfl rfl ?_
                        refine AL.fast 1 rfl ?_
                        refine AL.nil ?_
                        refine then_ok ?_
                        exact Weak.popB 10 rfl rfl (by simp [hb16]) rfl
                    ·
                      refine AC.cond rfl (fun hc17 => ?_) (fun hc17 => ?_)
                      ·
                        have hc17' := hc17; try simp only [Bool.not_eq_true', Bool.not_eq_false', Bool.or_eq_true, Bool.or_eq_false_iff, Bool.and_eq_true, Bool.and_eq_false_imp, decide_eq_true_eq, decide_eq_false_iff_not, Bool.not_not, Bool.not_true, Bool.not_false] at hc17'
                        refine AC.seq ?_
                        refine AC.region ?_
                        refine AL.fast 1 rfl ?_
                        refine AL.nil ?_
                        refine then_ok ?_
                        refine AC.ret ?_
                        refine block_ret ?_
                        refine then_ret ?_
                        refine then_ret ?_
                        refine block_ret ?_
                        refine then_ret ?_
                        have hX : wrongStand s = 8 := by
                          have hk : s.advices.take k = s.advices := List.take_of_length_le (by omega)
                          rw [hk] at hc17'
                          rw [wrongStand_fit (show ¬ (8 < s.used.length ∨ 20 < s.advices.length) by omega) (show capB s.cap = true by simp only [capB, decide_eq_true_eq]; simp_all [sumB]) hall, hi1_1, drop_get hx1, fitUsed, if_neg (by omega)]
                        rw [hX] at hr; clear hX
                        subst hr
                        refine retQ_mk (av' := outOf [(.c (cI 8))]) (nb' := []) (retQ_ret ⟨[(2, (aI 8))], [], 0⟩ [.tmp 2] [(.c (cI 8))] (Weak.ren id (⟨by first | rfl | (simp only [AV.map, GV.map, CV.map, AB.map', id]; done) | (congr 3; omega) | (congr 4; omega),  trivial⟩) (trivial) rfl) rfl ⟨.tmp rfl, trivial⟩ trivial) ?_ ?_
                        · first | rfl | (simp [outOf, aC]; done)
                        · first | rfl | (simp; done)
                      ·
                        have hc17' := hc17; try simp only [Bool.not_eq_true', Bool.not_eq_false', Bool.or_eq_true, Bool.or_eq_false_iff, Bool.and_eq_true, Bool.and_eq_false_imp, decide_eq_true_eq, decide_eq_false_iff_not, Bool.not_not, Bool.not_true, Bool.not_false] at hc17'
                        refine AC.skip ?_
                        refine block_ok ?_
                        refine then_ok ?_
                        refine AC.region ?_
                        refine AL.val (Wanted.plain rfl) (g_binI rfl rfl rfl (wrap_ok (by first | omega | (simp; done) | (simp; omega)))) rfl rfl ?_
                        refine AL.fast 1 rfl ?_
                        refine AL.nil ?_
                        refine then_ok ?_
                        have hk : s.advices.take k = s.advices := List.take_of_length_le (by omega)
                        rw [hk] at hc17'
                        refine ⟨p + 1, ⟨by omega, by rw [hi1_1, drop_get hx1, fitUsed, if_pos (by omega), Int.natCast_add]; rfl⟩, by first | omega | (simp; done) | (simp; omega), Weak.ren id (⟨by first | rfl | (simp only [AV.map, GV.map, CV.map, AB.map', id]; done) | (congr 3; omega) | (congr 4; omega), by first | rfl | (simp only [AV.map, GV.map, CV.map, AB.map', id]; done) | (congr 3; omega) | (congr 4; omega), by first | rfl | (simp only [AV.map, GV.map, CV.map, AB.map', id]; done) | (congr 3; omega) | (congr 4; omega), by first | rfl | (simp only [AV.map, GV.map, CV.map, AB.map', id]; done) | (congr 3; omega) | (congr 4; omega), by first | rfl | (simp only [AV.map, GV.map, CV.map, AB.map', id]; done) | (congr 3; omega) | (congr 4; omega), by first | rfl | (simp only [AV.map, GV.map, CV.map, AB.map', id]; done) | (congr 3; omega) | (congr 4; omega), by first | rfl | (simp only [AV.map, GV.map, CV.map, AB.map', id]; done) | (congr 3; omega) | (congr 4; omega),  trivial⟩) (⟨by first | rfl | (simp only [AV.map, GV.map, CV.map, AB.map', id]; done) | (congr 3; omega) | (congr 4; omega),  trivial⟩) rfl⟩
              ·
                have hc13' := hc13; try simp only [Bool.not_eq_true', Bool.not_eq_false', Bool.or_eq_true, Bool.or_eq_false_iff, Bool.and_eq_true, Bool.and_eq_false_imp, decide_eq_true_eq, decide_eq_false_iff_not, Bool.not_not, Bool.not_true, Bool.not_false] at hc13'
                refine AC.exit ?_
                refine then_exit ?_
                refine then_exit ?_
                refine block_hit ?_
                refine then_ok ?_
                refine AC.seq ?_
                refine AC.region ?_
                refine AL.fast 1 rfl ?_
                refine AL.nil ?_
                refine then_ok ?_
                refine AC.ret ?_
                have hX : wrongStand s = 0 := by
                  rw [wrongStand_fit (show ¬ (8 < s.used.length ∨ 20 < s.advices.length) by omega) (show capB s.cap = true by simp only [capB, decide_eq_true_eq]; simp_all [sumB]) hall, hi1_1, List.drop_of_length_le (by omega)]; rfl
                rw [hX] at hr; clear hX
                subst hr
                refine retQ_mk (av' := outOf [(.c (cI 0))]) (nb' := []) (retQ_ret ⟨[(2, (aI 0))], [], 0⟩ [.tmp 2] [(.c (cI 0))] (Weak.ren id (⟨by first | rfl | (simp only [AV.map, GV.map, CV.map, AB.map', id]; done) | (congr 3; omega) | (congr 4; omega),  trivial⟩) (trivial) rfl) rfl ⟨.tmp rfl, trivial⟩ trivial) ?_ ?_
                · first | rfl | (simp [outOf, aC]; done)
                · first | rfl | (simp; done)
end Go.Proofs.Ytgmcdlfmifijlaa.Dev
