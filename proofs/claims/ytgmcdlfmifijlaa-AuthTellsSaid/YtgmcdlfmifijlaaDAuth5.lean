/- payref1: WrongAuth, New, Hold, Late. -/
import Derived.Test.YtgmcdlfmifijlaaDAuth4
import Derived.Test.YtgmcdlfmifijlaaDSh16
import Derived.Test.YtgmcdlfmifijlaaDCom
set_option linter.unusedVariables false
set_option linter.unusedSimpArgs false
namespace Go.Proofs.Ytgmcdlfmifijlaa.Dev
open Go.RowKit

set_option maxRecDepth 100000 in
set_option maxHeartbeats 1000000 in
theorem c_ref_WrongAuth (a : Auth) (e : Int) (hr : wrongAuth a = e) : Fn Try.prog 58 [(.g [(cI a.card), (cI a.shop), (cI a.sum), (cI a.captured), (cI a.refunded), (cI a.disputed), (cI a.till), (cB a.shut)])] (.v (.c (cI e))) [] := by
  refine Fn.mk' 70 [(0, (aG [(cI a.card), (cI a.shop), (cI a.sum), (cI a.captured), (cI a.refunded), (cI a.disputed), (cI a.till), (cB a.shut)]))] Try.func58 rfl rfl rfl rfl ?_
  intro W0 T0
  refine AC.seq ?_
  refine AC.region ?_
  refine AL.new (n' := 1) (Wanted.plain rfl) (g_boxS 0 rfl rfl) rfl rfl rfl ?_
  refine AL.fast 1 rfl ?_
  refine AL.nil ?_
  refine then_ok ?_
  refine AC.seq ?_
  refine AC.cutB 54 ((((((((((!(sumB a.sum)) || (!(sumB a.captured))) || (!(sumB a.refunded))) || (!(sumB a.disputed))) || (decide (a.card < 0))) || (decide (a.card > 7))) || (decide (a.shop < 0))) || (decide (a.shop > 7))) || (decide (a.till < 0))) || (decide (a.till > 1000100))) ?_ ?_
  ·
    refine AC.region ?_
    refine AL.val (Wanted.plain rfl) (g_fieldP rfl rfl Try.underlying75 rfl sz3 (by decide)) rfl rfl ?_
    refine AL.val (Wanted.plain rfl) (g_loadB rfl rfl rfl Try.underlying3 rfl rfl) rfl rfl ?_
    refine AL.call (n' := 1) (h' := [(0, (.box 75 [(cI a.card), (cI a.shop), (cI a.sum), (cI a.captured), (cI a.refunded), (cI a.disputed), (cI a.till), (cB a.shut)]))]) (Wanted.plain rfl) (g_call 1 (c_sum a.sum  ) en103 rfl rfl ⟨⟨_, rfl, .c (.d _)⟩,  trivial⟩ trivial trivial rfl rfl rfl rfl) rfl rfl rfl rfl rfl ?_
    refine AL.val (Wanted.plain rfl) (g_notB rfl rfl) rfl rfl ?_
    refine AL.fast 1 rfl ?_
    refine AL.dec (t := 7) rfl (fun hb1 => ?_) (fun hb1 => ?_)
    ·
      have hb1' := hb1; try simp only [sumB, Bool.not_eq_true', Bool.not_eq_false', Bool.or_eq_true, Bool.or_eq_false_iff, Bool.and_eq_true, Bool.and_eq_false_imp, decide_eq_true_eq, decide_eq_false_iff_not, Bool.not_not, Bool.not_true, Bool.not_false] at hb1'
      refine AL.fast 47 rfl ?_
      refine AL.nil ?_
      refine then_ok ?_
      exact Weak.popB 53 rfl rfl (by first | (simp [hb1]; done) | (simp_all; done) | (exfalso; simp_all; done) | (simp_all; omega)) rfl
    ·
      have hb1' := hb1; try simp only [sumB, Bool.not_eq_true', Bool.not_eq_false', Bool.or_eq_true, Bool.or_eq_false_iff, Bool.and_eq_true, Bool.and_eq_false_imp, decide_eq_true_eq, decide_eq_false_iff_not, Bool.not_not, Bool.not_true, Bool.not_false] at hb1'
      refine AL.val (Wanted.yes rfl rfl rfl) (g_fieldP rfl rfl Try.underlying75 rfl sz3 (by decide)) rfl rfl ?_
      refine AL.val (Wanted.yes rfl rfl rfl) (g_loadB rfl rfl rfl Try.underlying3 rfl rfl) rfl rfl ?_
      refine AL.call (n' := 1) (h' := [(0, (.box 75 [(cI a.card), (cI a.shop), (cI a.sum), (cI a.captured), (cI a.refunded), (cI a.disputed), (cI a.till), (cB a.shut)]))]) (Wanted.yes rfl rfl rfl) (g_call 1 (c_sum a.captured  ) en103 rfl rfl ⟨⟨_, rfl, .c (.d _)⟩,  trivial⟩ trivial trivial rfl rfl rfl rfl) rfl rfl rfl rfl rfl ?_
      refine AL.val (Wanted.yes rfl rfl rfl) (g_notB rfl rfl) rfl rfl ?_
      refine AL.fast 2 rfl ?_
      refine AL.dec (t := 13) rfl (fun hb2 => ?_) (fun hb2 => ?_)
      ·
        have hb2' := hb2; try simp only [sumB, Bool.not_eq_true', Bool.not_eq_false', Bool.or_eq_true, Bool.or_eq_false_iff, Bool.and_eq_true, Bool.and_eq_false_imp, decide_eq_true_eq, decide_eq_false_iff_not, Bool.not_not, Bool.not_true, Bool.not_false] at hb2'
        refine AL.fast 41 rfl ?_
        refine AL.nil ?_
        refine then_ok ?_
        exact Weak.popB 54 rfl rfl (by first | (simp [hb1, hb2]; done) | (simp_all; done) | (exfalso; simp_all; done) | (simp_all; omega)) rfl
      ·
        have hb2' := hb2; try simp only [sumB, Bool.not_eq_true', Bool.not_eq_false', Bool.or_eq_true, Bool.or_eq_false_iff, Bool.and_eq_true, Bool.and_eq_false_imp, decide_eq_true_eq, decide_eq_false_iff_not, Bool.not_not, Bool.not_true, Bool.not_false] at hb2'
        refine AL.val (Wanted.yes rfl rfl rfl) (g_fieldP rfl rfl Try.underlying75 rfl sz3 (by decide)) rfl rfl ?_
        refine AL.val (Wanted.yes rfl rfl rfl) (g_loadB rfl rfl rfl Try.underlying3 rfl rfl) rfl rfl ?_
        refine AL.call (n' := 1) (h' := [(0, (.box 75 [(cI a.card), (cI a.shop), (cI a.sum), (cI a.captured), (cI a.refunded), (cI a.disputed), (cI a.till), (cB a.shut)]))]) (Wanted.yes rfl rfl rfl) (g_call 1 (c_sum a.refunded  ) en103 rfl rfl ⟨⟨_, rfl, .c (.d _)⟩,  trivial⟩ trivial trivial rfl rfl rfl rfl) rfl rfl rfl rfl rfl ?_
        refine AL.val (Wanted.yes rfl rfl rfl) (g_notB rfl rfl) rfl rfl ?_
        refine AL.fast 2 rfl ?_
        refine AL.dec (t := 19) rfl (fun hb3 => ?_) (fun hb3 => ?_)
        ·
          have hb3' := hb3; try simp only [sumB, Bool.not_eq_true', Bool.not_eq_false', Bool.or_eq_true, Bool.or_eq_false_iff, Bool.and_eq_true, Bool.and_eq_false_imp, decide_eq_true_eq, decide_eq_false_iff_not, Bool.not_not, Bool.not_true, Bool.not_false] at hb3'
          refine AL.fast 35 rfl ?_
          refine AL.nil ?_
          refine then_ok ?_
          exact Weak.popB 55 rfl rfl (by first | (simp [hb1, hb2, hb3]; done) | (simp_all; done) | (exfalso; simp_all; done) | (simp_all; omega)) rfl
        ·
          have hb3' := hb3; try simp only [sumB, Bool.not_eq_true', Bool.not_eq_false', Bool.or_eq_true, Bool.or_eq_false_iff, Bool.and_eq_true, Bool.and_eq_false_imp, decide_eq_true_eq, decide_eq_false_iff_not, Bool.not_not, Bool.not_true, Bool.not_false] at hb3'
          refine AL.val (Wanted.yes rfl rfl rfl) (g_fieldP rfl rfl Try.underlying75 rfl sz3 (by decide)) rfl rfl ?_
          refine AL.val (Wanted.yes rfl rfl rfl) (g_loadB rfl rfl rfl Try.underlying3 rfl rfl) rfl rfl ?_
          refine AL.call (n' := 1) (h' := [(0, (.box 75 [(cI a.card), (cI a.shop), (cI a.sum), (cI a.captured), (cI a.refunded), (cI a.disputed), (cI a.till), (cB a.shut)]))]) (Wanted.yes rfl rfl rfl) (g_call 1 (c_sum a.disputed  ) en103 rfl rfl ⟨⟨_, rfl, .c (.d _)⟩,  trivial⟩ trivial trivial rfl rfl rfl rfl) rfl rfl rfl rfl rfl ?_
          refine AL.val (Wanted.yes rfl rfl rfl) (g_notB rfl rfl) rfl rfl ?_
          refine AL.fast 2 rfl ?_
          refine AL.dec (t := 25) rfl (fun hb4 => ?_) (fun hb4 => ?_)
          ·
            have hb4' := hb4; try simp only [sumB, Bool.not_eq_true', Bool.not_eq_false', Bool.or_eq_true, Bool.or_eq_false_iff, Bool.and_eq_true, Bool.and_eq_false_imp, decide_eq_true_eq, decide_eq_false_iff_not, Bool.not_not, Bool.not_true, Bool.not_false] at hb4'
            refine AL.fast 29 rfl ?_
            refine AL.nil ?_
            refine then_ok ?_
            exact Weak.popB 56 rfl rfl (by first | (simp [hb1, hb2, hb3, hb4]; done) | (simp_all; done) | (exfalso; simp_all; done) | (simp_all; omega)) rfl
          ·
            have hb4' := hb4; try simp only [sumB, Bool.not_eq_true', Bool.not_eq_false', Bool.or_eq_true, Bool.or_eq_false_iff, Bool.and_eq_true, Bool.and_eq_false_imp, decide_eq_true_eq, decide_eq_false_iff_not, Bool.not_not, Bool.not_true, Bool.not_false] at hb4'
            refine AL.val (Wanted.yes rfl rfl rfl) (g_fieldP rfl rfl Try.underlying75 rfl sz3 (by decide)) rfl rfl ?_
            refine AL.val (Wanted.yes rfl rfl rfl) (g_loadB rfl rfl rfl Try.underlying3 rfl rfl) rfl rfl ?_
            refine AL.val (Wanted.yes rfl rfl rfl) (g_binI rfl rfl rfl rfl) rfl rfl ?_
            refine AL.fast 2 rfl ?_
            refine AL.dec (t := 30) rfl (fun hb5 => ?_) (fun hb5 => ?_)
            ·
              have hb5' := hb5; try simp only [sumB, Bool.not_eq_true', Bool.not_eq_false', Bool.or_eq_true, Bool.or_eq_false_iff, Bool.and_eq_true, Bool.and_eq_false_imp, decide_eq_true_eq, decide_eq_false_iff_not, Bool.not_not, Bool.not_true, Bool.not_false] at hb5'
              refine AL.fast 24 rfl ?_
              refine AL.nil ?_
              refine then_ok ?_
              exact Weak.popB 57 rfl rfl (by first | (simp [hb1, hb2, hb3, hb4, hb5]; done) | (simp_all; done) | (exfalso; simp_all; done) | (simp_all; omega)) rfl
            ·
              have hb5' := hb5; try simp only [sumB, Bool.not_eq_true', Bool.not_eq_false', Bool.or_eq_true, Bool.or_eq_false_iff, Bool.and_eq_true, Bool.and_eq_false_imp, decide_eq_true_eq, decide_eq_false_iff_not, Bool.not_not, Bool.not_true, Bool.not_false] at hb5'
              refine AL.val (Wanted.yes rfl rfl rfl) (g_fieldP rfl rfl Try.underlying75 rfl sz3 (by decide)) rfl rfl ?_
              refine AL.val (Wanted.yes rfl rfl rfl) (g_loadB rfl rfl rfl Try.underlying3 rfl rfl) rfl rfl ?_
              refine AL.val (Wanted.yes rfl rfl rfl) (g_binI rfl rfl rfl rfl) rfl rfl ?_
              refine AL.fast 2 rfl ?_
              refine AL.dec (t := 35) rfl (fun hb6 => ?_) (fun hb6 => ?_)
              ·
                have hb6' := hb6; try simp only [sumB, Bool.not_eq_true', Bool.not_eq_false', Bool.or_eq_true, Bool.or_eq_false_iff, Bool.and_eq_true, Bool.and_eq_false_imp, decide_eq_true_eq, decide_eq_false_iff_not, Bool.not_not, Bool.not_true, Bool.not_false] at hb6'
                refine AL.fast 19 rfl ?_
                refine AL.nil ?_
                refine then_ok ?_
                exact Weak.popB 58 rfl rfl (by first | (simp [hb1, hb2, hb3, hb4, hb5, hb6]; done) | (simp_all; done) | (exfalso; simp_all; done) | (simp_all; omega)) rfl
              ·
                have hb6' := hb6; try simp only [sumB, Bool.not_eq_true', Bool.not_eq_false', Bool.or_eq_true, Bool.or_eq_false_iff, Bool.and_eq_true, Bool.and_eq_false_imp, decide_eq_true_eq, decide_eq_false_iff_not, Bool.not_not, Bool.not_true, Bool.not_false] at hb6'
                refine AL.val (Wanted.yes rfl rfl rfl) (g_fieldP rfl rfl Try.underlying75 rfl sz3 (by decide)) rfl rfl ?_
                refine AL.val (Wanted.yes rfl rfl rfl) (g_loadB rfl rfl rfl Try.underlying3 rfl rfl) rfl rfl ?_
                refine AL.val (Wanted.yes rfl rfl rfl) (g_binI rfl rfl rfl rfl) rfl rfl ?_
                refine AL.fast 2 rfl ?_
                refine AL.dec (t := 40) rfl (fun hb7 => ?_) (fun hb7 => ?_)
                ·
                  have hb7' := hb7; try simp only [sumB, Bool.not_eq_true', Bool.not_eq_false', Bool.or_eq_true, Bool.or_eq_false_iff, Bool.and_eq_true, Bool.and_eq_false_imp, decide_eq_true_eq, decide_eq_false_iff_not, Bool.not_not, Bool.not_true, Bool.not_false] at hb7'
                  refine AL.fast 14 rfl ?_
                  refine AL.nil ?_
                  refine then_ok ?_
                  exact Weak.popB 59 rfl rfl (by first | (simp [hb1, hb2, hb3, hb4, hb5, hb6, hb7]; done) | (simp_all; done) | (exfalso; simp_all; done) | (simp_all; omega)) rfl
                ·
                  have hb7' := hb7; try simp only [sumB, Bool.not_eq_true', Bool.not_eq_false', Bool.or_eq_true, Bool.or_eq_false_iff, Bool.and_eq_true, Bool.and_eq_false_imp, decide_eq_true_eq, decide_eq_false_iff_not, Bool.not_not, Bool.not_true, Bool.not_false] at hb7'
                  refine AL.val (Wanted.yes rfl rfl rfl) (g_fieldP rfl rfl Try.underlying75 rfl sz3 (by decide)) rfl rfl ?_
                  refine AL.val (Wanted.yes rfl rfl rfl) (g_loadB rfl rfl rfl Try.underlying3 rfl rfl) rfl rfl ?_
                  refine AL.val (Wanted.yes rfl rfl rfl) (g_binI rfl rfl rfl rfl) rfl rfl ?_
                  refine AL.fast 2 rfl ?_
                  refine AL.dec (t := 45) rfl (fun hb8 => ?_) (fun hb8 => ?_)
                  ·
                    have hb8' := hb8; try simp only [sumB, Bool.not_eq_true', Bool.not_eq_false', Bool.or_eq_true, Bool.or_eq_false_iff, Bool.and_eq_true, Bool.and_eq_false_imp, decide_eq_true_eq, decide_eq_false_iff_not, Bool.not_not, Bool.not_true, Bool.not_false] at hb8'
                    refine AL.fast 9 rfl ?_
                    refine AL.nil ?_
                    refine then_ok ?_
                    exact Weak.popB 60 rfl rfl (by first | (simp [hb1, hb2, hb3, hb4, hb5, hb6, hb7, hb8]; done) | (simp_all; done) | (exfalso; simp_all; done) | (simp_all; omega)) rfl
                  ·
                    have hb8' := hb8; try simp only [sumB, Bool.not_eq_true', Bool.not_eq_false', Bool.or_eq_true, Bool.or_eq_false_iff, Bool.and_eq_true, Bool.and_eq_false_imp, decide_eq_true_eq, decide_eq_false_iff_not, Bool.not_not, Bool.not_true, Bool.not_false] at hb8'
                    refine AL.val (Wanted.yes rfl rfl rfl) (g_fieldP rfl rfl Try.underlying75 rfl sz3 (by decide)) rfl rfl ?_
                    refine AL.val (Wanted.yes rfl rfl rfl) (g_loadB rfl rfl rfl Try.underlying3 rfl rfl) rfl rfl ?_
                    refine AL.val (Wanted.yes rfl rfl rfl) (g_binI rfl rfl rfl rfl) rfl rfl ?_
                    refine AL.fast 2 rfl ?_
                    refine AL.dec (t := 50) rfl (fun hb9 => ?_) (fun hb9 => ?_)
                    ·
                      have hb9' := hb9; try simp only [sumB, Bool.not_eq_true', Bool.not_eq_false', Bool.or_eq_true, Bool.or_eq_false_iff, Bool.and_eq_true, Bool.and_eq_false_imp, decide_eq_true_eq, decide_eq_false_iff_not, Bool.not_not, Bool.not_true, Bool.not_false] at hb9'
                      refine AL.fast 4 rfl ?_
                      refine AL.nil ?_
                      refine then_ok ?_
                      exact Weak.popB 61 rfl rfl (by first | (simp [hb1, hb2, hb3, hb4, hb5, hb6, hb7, hb8, hb9]; done) | (simp_all; done) | (exfalso; simp_all; done) | (simp_all; omega)) rfl
                    ·
                      have hb9' := hb9; try simp only [sumB, Bool.not_eq_true', Bool.not_eq_false', Bool.or_eq_true, Bool.or_eq_false_iff, Bool.and_eq_true, Bool.and_eq_false_imp, decide_eq_true_eq, decide_eq_false_iff_not, Bool.not_not, Bool.not_true, Bool.not_false] at hb9'
                      refine AL.val (Wanted.yes rfl rfl rfl) (g_fieldP rfl rfl Try.underlying75 rfl sz3 (by decide)) rfl rfl ?_
                      refine AL.val (Wanted.yes rfl rfl rfl) (g_loadB rfl rfl rfl Try.underlying3 rfl rfl) rfl rfl ?_
                      refine AL.val (Wanted.yes rfl rfl rfl) (g_binI rfl rfl rfl rfl) rfl rfl ?_
                      refine AL.fast 1 rfl ?_
                      refine AL.nil ?_
                      refine then_ok ?_
                      exact Weak.popB 61 rfl rfl (by first | (simp [hb1, hb2, hb3, hb4, hb5, hb6, hb7, hb8, hb9]; done) | (simp_all; done) | (exfalso; simp_all; done) | (simp_all; omega)) rfl
  ·
    refine AC.cond rfl (fun hc10 => ?_) (fun hc10 => ?_)
    ·
      have hc10' := hc10; try simp only [sumB, Bool.not_eq_true', Bool.not_eq_false', Bool.or_eq_true, Bool.or_eq_false_iff, Bool.and_eq_true, Bool.and_eq_false_imp, decide_eq_true_eq, decide_eq_false_iff_not, Bool.not_not, Bool.not_true, Bool.not_false] at hc10'
      refine AC.seq ?_
      refine AC.region ?_
      refine AL.fast 1 rfl ?_
      refine AL.nil ?_
      refine then_ok ?_
      refine AC.ret ?_
      refine then_ret ?_
      have hX : wrongAuth a = 3 := by
        (unfold wrongAuth; try dsimp only); (repeat' split) <;> first | rfl | omega | (exfalso; omega) | (subst_vars; rfl) | (simp_all; done) | (simp_all; omega)
      rw [hX] at hr; clear hX
      subst hr
      refine retQ_mk (av' := outOf [(.c (cI 3))]) (nb' := []) (retQ_ret ⟨[(2, (aI 3))], [], 0⟩ [.tmp 2] [(.c (cI 3))] (Weak.ren id (⟨by first | rfl | (simp only [AV.map, GV.map, CV.map, AB.map', id]; done) | (congr 3; omega) | (congr 4; omega) | (simp only [List.length_append, List.length_cons, List.length_nil, List.length_set]; rfl),  trivial⟩) (trivial) rfl) rfl ⟨.tmp rfl, trivial⟩ trivial) ?_ ?_
      · first | rfl | (simp [outOf, aC]; done) | (simp [outOf, aC]; omega)
      · first | rfl | (simp; done) | (simp; omega)
    ·
      have hc10' := hc10; try simp only [sumB, Bool.not_eq_true', Bool.not_eq_false', Bool.or_eq_true, Bool.or_eq_false_iff, Bool.and_eq_true, Bool.and_eq_false_imp, decide_eq_true_eq, decide_eq_false_iff_not, Bool.not_not, Bool.not_true, Bool.not_false] at hc10'
      refine AC.skip ?_
      refine then_ok ?_
      refine AC.seq ?_
      refine AC.cutB 69 ((decide (a.sum < a.captured)) || (decide (a.captured < (a.refunded + a.disputed)))) ?_ ?_
      ·
        refine AC.region ?_
        refine AL.val (Wanted.plain rfl) (g_fieldP rfl rfl Try.underlying75 rfl sz3 (by decide)) rfl rfl ?_
        refine AL.val (Wanted.plain rfl) (g_loadB rfl rfl rfl Try.underlying3 rfl rfl) rfl rfl ?_
        refine AL.val (Wanted.plain rfl) (g_fieldP rfl rfl Try.underlying75 rfl sz3 (by decide)) rfl rfl ?_
        refine AL.val (Wanted.plain rfl) (g_loadB rfl rfl rfl Try.underlying3 rfl rfl) rfl rfl ?_
        refine AL.val (Wanted.plain rfl) (g_binI rfl rfl rfl rfl) rfl rfl ?_
        refine AL.fast 1 rfl ?_
        refine AL.dec (t := 60) rfl (fun hb11 => ?_) (fun hb11 => ?_)
        ·
          have hb11' := hb11; try simp only [sumB, Bool.not_eq_true', Bool.not_eq_false', Bool.or_eq_true, Bool.or_eq_false_iff, Bool.and_eq_true, Bool.and_eq_false_imp, decide_eq_true_eq, decide_eq_false_iff_not, Bool.not_not, Bool.not_true, Bool.not_false] at hb11'
          refine AL.fast 9 rfl ?_
          refine AL.nil ?_
          refine then_ok ?_
          exact Weak.popB 16 rfl rfl (by first | (simp [hb11]; done) | (simp_all; done) | (exfalso; simp_all; done) | (simp_all; omega)) rfl
        ·
          have hb11' := hb11; try simp only [sumB, Bool.not_eq_true', Bool.not_eq_false', Bool.or_eq_true, Bool.or_eq_false_iff, Bool.and_eq_true, Bool.and_eq_false_imp, decide_eq_true_eq, decide_eq_false_iff_not, Bool.not_not, Bool.not_true, Bool.not_false] at hb11'
          refine AL.val (Wanted.yes rfl rfl rfl) (g_fieldP rfl rfl Try.underlying75 rfl sz3 (by decide)) rfl rfl ?_
          refine AL.val (Wanted.yes rfl rfl rfl) (g_loadB rfl rfl rfl Try.underlying3 rfl rfl) rfl rfl ?_
          refine AL.val (Wanted.yes rfl rfl rfl) (g_fieldP rfl rfl Try.underlying75 rfl sz3 (by decide)) rfl rfl ?_
          refine AL.val (Wanted.yes rfl rfl rfl) (g_loadB rfl rfl rfl Try.underlying3 rfl rfl) rfl rfl ?_
          refine AL.val (Wanted.yes rfl rfl rfl) (g_fieldP rfl rfl Try.underlying75 rfl sz3 (by decide)) rfl rfl ?_
          refine AL.val (Wanted.yes rfl rfl rfl) (g_loadB rfl rfl rfl Try.underlying3 rfl rfl) rfl rfl ?_
          refine AL.val (Wanted.yes rfl rfl rfl) (g_binI rfl rfl rfl (wrap_ok (by first | omega | (simp; done) | (simp; omega)))) rfl rfl ?_
          refine AL.val (Wanted.yes rfl rfl rfl) (g_binI rfl rfl rfl rfl) rfl rfl ?_
          refine AL.fast 1 rfl ?_
          refine AL.nil ?_
          refine then_ok ?_
          exact Weak.popB 16 rfl rfl (by first | (simp [hb11]; done) | (simp_all; done) | (exfalso; simp_all; done) | (simp_all; omega)) rfl
      ·
        refine AC.cond rfl (fun hc12 => ?_) (fun hc12 => ?_)
        ·
          have hc12' := hc12; try simp only [sumB, Bool.not_eq_true', Bool.not_eq_false', Bool.or_eq_true, Bool.or_eq_false_iff, Bool.and_eq_true, Bool.and_eq_false_imp, decide_eq_true_eq, decide_eq_false_iff_not, Bool.not_not, Bool.not_true, Bool.not_false] at hc12'
          refine AC.seq ?_
          refine AC.region ?_
          refine AL.fast 1 rfl ?_
          refine AL.nil ?_
          refine then_ok ?_
          refine AC.ret ?_
          refine then_ret ?_
          have hX : wrongAuth a = 8 := by
            (unfold wrongAuth; try dsimp only); (repeat' split) <;> first | rfl | omega | (exfalso; omega) | (subst_vars; rfl) | (simp_all; done) | (simp_all; omega)
          rw [hX] at hr; clear hX
          subst hr
          refine retQ_mk (av' := outOf [(.c (cI 8))]) (nb' := []) (retQ_ret ⟨[(2, (aI 8))], [], 0⟩ [.tmp 2] [(.c (cI 8))] (Weak.ren id (⟨by first | rfl | (simp only [AV.map, GV.map, CV.map, AB.map', id]; done) | (congr 3; omega) | (congr 4; omega) | (simp only [List.length_append, List.length_cons, List.length_nil, List.length_set]; rfl),  trivial⟩) (trivial) rfl) rfl ⟨.tmp rfl, trivial⟩ trivial) ?_ ?_
          · first | rfl | (simp [outOf, aC]; done) | (simp [outOf, aC]; omega)
          · first | rfl | (simp; done) | (simp; omega)
        ·
          have hc12' := hc12; try simp only [sumB, Bool.not_eq_true', Bool.not_eq_false', Bool.or_eq_true, Bool.or_eq_false_iff, Bool.and_eq_true, Bool.and_eq_false_imp, decide_eq_true_eq, decide_eq_false_iff_not, Bool.not_not, Bool.not_true, Bool.not_false] at hc12'
          refine AC.skip ?_
          refine then_ok ?_
          refine AC.seq ?_
          refine AC.region ?_
          refine AL.fast 1 rfl ?_
          refine AL.nil ?_
          refine then_ok ?_
          refine AC.ret ?_
          have hX : wrongAuth a = 0 := by
            (unfold wrongAuth; try dsimp only); (repeat' split) <;> first | rfl | omega | (exfalso; omega) | (subst_vars; rfl) | (simp_all; done) | (simp_all; omega)
          rw [hX] at hr; clear hX
          subst hr
          refine retQ_mk (av' := outOf [(.c (cI 0))]) (nb' := []) (retQ_ret ⟨[(2, (aI 0))], [], 0⟩ [.tmp 2] [(.c (cI 0))] (Weak.ren id (⟨by first | rfl | (simp only [AV.map, GV.map, CV.map, AB.map', id]; done) | (congr 3; omega) | (congr 4; omega) | (simp only [List.length_append, List.length_cons, List.length_nil, List.length_set]; rfl),  trivial⟩) (trivial) rfl) rfl ⟨.tmp rfl, trivial⟩ trivial) ?_ ?_
          · first | rfl | (simp [outOf, aC]; done) | (simp [outOf, aC]; omega)
          · first | rfl | (simp; done) | (simp; omega)
set_option maxRecDepth 100000 in
set_option maxHeartbeats 1000000 in
theorem c_ref_New (card shop n time : Int) (b : Auth) (e : Int) (hr : newAuth card shop n time = (b, e)) : Fn Try.prog 64 [(.c (cI card)), (.c (cI shop)), (.c (cI n)), (.c (cI time))] (.t [(.g [(cI b.card), (cI b.shop), (cI b.sum), (cI b.captured), (cI b.refunded), (cI b.disputed), (cI b.till), (cB b.shut)]), (.c (cI e))]) [] := by
  refine Fn.mk' 35 [(0, (aI card)), (1, (aI shop)), (2, (aI n)), (3, (aI time))] Try.func64 rfl rfl rfl rfl ?_
  intro W0 T0
  refine AC.seq ?_
  refine AC.region ?_
  refine AL.new (n' := 1) (Wanted.plain rfl) (g_alloc 0 rfl zv75 rfl rfl rfl) rfl rfl rfl ?_
  refine AL.fast 1 rfl ?_
  refine AL.nil ?_
  refine then_ok ?_
  refine AC.seq ?_
  refine AC.region ?_
  refine AL.fast 3 rfl ?_
  refine AL.val (Wanted.plain rfl) (g_build (ys := [(0, (.c (cI card))), (1, (.c (cI shop))), (2, (.c (cI n))), (6, (.c (cI 100)))]) rfl bld75 rfl ⟨⟨rfl, rfl⟩, ⟨rfl, rfl⟩, ⟨rfl, rfl⟩, ⟨rfl, rfl⟩,  trivial⟩ rfl rfl) rfl rfl ?_
  refine AL.new (n' := 2) (Wanted.plain rfl) (g_alloc 1 rfl zv75 rfl rfl rfl) rfl rfl rfl ?_
  refine AL.sto (h' := [(1, (.box 75 [(cI card), (cI shop), (cI n), (cI 0), (cI 0), (cI 0), (cI 100), (cB false)])), (0, (.box 75 [(cI 0), (cI 0), (cI 0), (cI 0), (cI 0), (cI 0), (cI 0), (cB false)]))]) (Wanted.plain rfl) (g_storeB rfl rfl rfl rfl rfl sz75 rfl (Nat.le_of_ble_eq_true rfl) rfl) rfl rfl rfl rfl ?_
  refine AL.nil ?_
  refine then_ok ?_
  refine AC.seq ?_
  obtain ⟨e0, hr0⟩ : ∃ (e0 : Int), wrongAuth (⟨card, shop, n, 0, 0, 0, 100, false⟩ : Auth) = e0 := ⟨_, rfl⟩
  refine AC.cutB 29 ((((decide (n < 1)) || (decide (time < 0))) || (decide (time > 1000000))) || (decide (¬ e0 = 0))) ?_ ?_
  ·
    refine AC.region ?_
    refine AL.fast 1 rfl ?_
    refine AL.val (Wanted.plain rfl) (g_binI rfl rfl rfl rfl) rfl rfl ?_
    refine AL.fast 1 rfl ?_
    refine AL.dec (t := 17) rfl (fun hb1 => ?_) (fun hb1 => ?_)
    ·
      have hb1' := hb1; try simp only [sumB, Bool.not_eq_true', Bool.not_eq_false', Bool.or_eq_true, Bool.or_eq_false_iff, Bool.and_eq_true, Bool.and_eq_false_imp, decide_eq_true_eq, decide_eq_false_iff_not, Bool.not_not, Bool.not_true, Bool.not_false] at hb1'
      refine AL.fast 12 rfl ?_
      refine AL.nil ?_
      refine then_ok ?_
      exact Weak.popB 16 rfl rfl (by first | (simp [hb1]; done) | (simp_all; done) | (exfalso; simp_all; done) | (simp_all; omega)) rfl
    ·
      have hb1' := hb1; try simp only [sumB, Bool.not_eq_true', Bool.not_eq_false', Bool.or_eq_true, Bool.or_eq_false_iff, Bool.and_eq_true, Bool.and_eq_false_imp, decide_eq_true_eq, decide_eq_false_iff_not, Bool.not_not, Bool.not_true, Bool.not_false] at hb1'
      refine AL.fast 1 rfl ?_
      refine AL.val (Wanted.yes rfl rfl rfl) (g_binI rfl rfl rfl rfl) rfl rfl ?_
      refine AL.fast 2 rfl ?_
      refine AL.dec (t := 21) rfl (fun hb2 => ?_) (fun hb2 => ?_)
      ·
        have hb2' := hb2; try simp only [sumB, Bool.not_eq_true', Bool.not_eq_false', Bool.or_eq_true, Bool.or_eq_false_iff, Bool.and_eq_true, Bool.and_eq_false_imp, decide_eq_true_eq, decide_eq_false_iff_not, Bool.not_not, Bool.not_true, Bool.not_false] at hb2'
        refine AL.fast 8 rfl ?_
        refine AL.nil ?_
        refine then_ok ?_
        exact Weak.popB 17 rfl rfl (by first | (simp [hb1, hb2]; done) | (simp_all; done) | (exfalso; simp_all; done) | (simp_all; omega)) rfl
      ·
        have hb2' := hb2; try simp only [sumB, Bool.not_eq_true', Bool.not_eq_false', Bool.or_eq_true, Bool.or_eq_false_iff, Bool.and_eq_true, Bool.and_eq_false_imp, decide_eq_true_eq, decide_eq_false_iff_not, Bool.not_not, Bool.not_true, Bool.not_false] at hb2'
        refine AL.fast 1 rfl ?_
        refine AL.val (Wanted.yes rfl rfl rfl) (g_binI rfl rfl rfl rfl) rfl rfl ?_
        refine AL.fast 2 rfl ?_
        refine AL.dec (t := 25) rfl (fun hb3 => ?_) (fun hb3 => ?_)
        ·
          have hb3' := hb3; try simp only [sumB, Bool.not_eq_true', Bool.not_eq_false', Bool.or_eq_true, Bool.or_eq_false_iff, Bool.and_eq_true, Bool.and_eq_false_imp, decide_eq_true_eq, decide_eq_false_iff_not, Bool.not_not, Bool.not_true, Bool.not_false] at hb3'
          refine AL.fast 4 rfl ?_
          refine AL.nil ?_
          refine then_ok ?_
          exact Weak.popB 18 rfl rfl (by first | (simp [hb1, hb2, hb3]; done) | (simp_all; done) | (exfalso; simp_all; done) | (simp_all; omega)) rfl
        ·
          have hb3' := hb3; try simp only [sumB, Bool.not_eq_true', Bool.not_eq_false', Bool.or_eq_true, Bool.or_eq_false_iff, Bool.and_eq_true, Bool.and_eq_false_imp, decide_eq_true_eq, decide_eq_false_iff_not, Bool.not_not, Bool.not_true, Bool.not_false] at hb3'
          refine AL.val (Wanted.yes rfl rfl rfl) (g_loadBs rfl rfl rfl Try.underlying75 rfl sz75 rfl rfl) rfl rfl ?_
          refine AL.call (n' := 2) (h' := [(1, (.box 75 [(cI card), (cI shop), (cI n), (cI 0), (cI 0), (cI 0), (cI 100), (cB false)])), (0, (.box 75 [(cI 0), (cI 0), (cI 0), (cI 0), (cI 0), (cI 0), (cI 0), (cB false)]))]) (Wanted.yes rfl rfl rfl) (g_call 2 (c_ref_WrongAuth (⟨card, shop, n, 0, 0, 0, 100, false⟩ : Auth)  e0 hr0) en58 rfl rfl ⟨⟨_, rfl, .g ⟨.d _, .d _, .d _, .d _, .d _, .d _, .d _, .d _,  trivial⟩⟩,  trivial⟩ trivial trivial rfl rfl rfl rfl) rfl rfl rfl rfl rfl ?_
          refine AL.val (Wanted.yes rfl rfl rfl) (g_binI rfl rfl rfl rfl) rfl rfl ?_
          refine AL.fast 1 rfl ?_
          refine AL.nil ?_
          refine then_ok ?_
          exact Weak.popB 18 rfl rfl (by first | (simp [hb1, hb2, hb3]; done) | (simp_all; done) | (exfalso; simp_all; done) | (simp_all; omega)) rfl
  ·
    refine AC.cond rfl (fun hc4 => ?_) (fun hc4 => ?_)
    ·
      have hc4' := hc4; try simp only [sumB, Bool.not_eq_true', Bool.not_eq_false', Bool.or_eq_true, Bool.or_eq_false_iff, Bool.and_eq_true, Bool.and_eq_false_imp, decide_eq_true_eq, decide_eq_false_iff_not, Bool.not_not, Bool.not_true, Bool.not_false] at hc4'
      refine AC.seq ?_
      refine AC.region ?_
      refine AL.val (Wanted.plain rfl) (g_build (ys := []) rfl bld75 rfl trivial rfl rfl) rfl rfl ?_
      refine AL.sto (h' := [(1, (.box 75 [(cI card), (cI shop), (cI n), (cI 0), (cI 0), (cI 0), (cI 100), (cB false)])), (0, (.box 75 [(cI 0), (cI 0), (cI 0), (cI 0), (cI 0), (cI 0), (cI 0), (cB false)]))]) (Wanted.plain rfl) (g_storeB rfl rfl rfl rfl rfl sz75 rfl (Nat.le_of_ble_eq_true rfl) rfl) rfl rfl rfl rfl ?_
      refine AL.fast 1 rfl ?_
      refine AL.nil ?_
      refine then_ok ?_
      refine AC.ret ?_
      refine then_ret ?_
      have hX : newAuth card shop n time = ((⟨0, 0, 0, 0, 0, 0, 0, false⟩ : Auth), 3) := by
        (try (unfold wrongAuth at hr0; dsimp only at hr0; (repeat' split at hr0))) <;> ((unfold newAuth; try dsimp only); (repeat' split) <;> first | rfl | omega | (exfalso; omega) | (subst_vars; rfl) | (simp_all; done) | (simp_all; omega))
      rw [hX] at hr; clear hX
      simp only [Prod.mk.injEq] at hr; obtain ⟨rfl, rfl⟩ := hr
      refine retQ_mk (av' := outOf [(.g [(cI 0), (cI 0), (cI 0), (cI 0), (cI 0), (cI 0), (cI 0), (cB false)]), (.c (cI 3))]) (nb' := []) (retQ_ret ⟨[(8, (aC (.p 0 0 0 0))), (9, (aI 3))], [(0, (.box 75 [(cI 0), (cI 0), (cI 0), (cI 0), (cI 0), (cI 0), (cI 0), (cB false)]))], 1⟩ [.cell 8 75, .tmp 9] [(.g [(cI 0), (cI 0), (cI 0), (cI 0), (cI 0), (cI 0), (cI 0), (cB false)]), (.c (cI 3))] (Weak.ren id (⟨by first | rfl | (simp only [AV.map, GV.map, CV.map, AB.map', id]; done) | (congr 3; omega) | (congr 4; omega) | (simp only [List.length_append, List.length_cons, List.length_nil, List.length_set]; rfl), by first | rfl | (simp only [AV.map, GV.map, CV.map, AB.map', id]; done) | (congr 3; omega) | (congr 4; omega) | (simp only [List.length_append, List.length_cons, List.length_nil, List.length_set]; rfl),  trivial⟩) (⟨by first | rfl | (simp only [AV.map, GV.map, CV.map, AB.map', id]; done) | (congr 3; omega) | (congr 4; omega) | (simp only [List.length_append, List.length_cons, List.length_nil, List.length_set]; rfl),  trivial⟩) rfl) rfl ⟨.agg rfl rfl (fun _ => run_isAgg Try.underlying75) sz75, .tmp rfl, trivial⟩ trivial) ?_ ?_
      · first | rfl | (simp [outOf, aC]; done) | (simp [outOf, aC]; omega)
      · first | rfl | (simp; done) | (simp; omega)
    ·
      have hc4' := hc4; try simp only [sumB, Bool.not_eq_true', Bool.not_eq_false', Bool.or_eq_true, Bool.or_eq_false_iff, Bool.and_eq_true, Bool.and_eq_false_imp, decide_eq_true_eq, decide_eq_false_iff_not, Bool.not_not, Bool.not_true, Bool.not_false] at hc4'
      refine AC.skip ?_
      refine then_ok ?_
      refine AC.seq ?_
      refine AC.region ?_
      refine AL.fast 1 rfl ?_
      refine AL.val (Wanted.plain rfl) (g_binI rfl rfl rfl (wrap_ok (by first | omega | (simp; done) | (simp; omega)))) rfl rfl ?_
      refine AL.val (Wanted.plain rfl) (g_fieldP rfl rfl Try.underlying75 rfl sz3 (by decide)) rfl rfl ?_
      refine AL.sto (h' := [(1, (.box 75 [(cI card), (cI shop), (cI n), (cI 0), (cI 0), (cI 0), (cI (time + 100)), (cB false)])), (0, (.box 75 [(cI 0), (cI 0), (cI 0), (cI 0), (cI 0), (cI 0), (cI 0), (cB false)]))]) (Wanted.plain rfl) (g_storeB rfl rfl rfl rfl rfl sz3 rfl (Nat.le_of_ble_eq_true rfl) rfl) rfl rfl rfl rfl ?_
      refine AL.nil ?_
      refine then_ok ?_
      refine AC.seq ?_
      refine AC.region ?_
      refine AL.val (Wanted.plain rfl) (g_loadBs rfl rfl rfl Try.underlying75 rfl sz75 rfl rfl) rfl rfl ?_
      refine AL.sto (h' := [(1, (.box 75 [(cI card), (cI shop), (cI n), (cI 0), (cI 0), (cI 0), (cI (time + 100)), (cB false)])), (0, (.box 75 [(cI card), (cI shop), (cI n), (cI 0), (cI 0), (cI 0), (cI (time + 100)), (cB false)]))]) (Wanted.plain rfl) (g_storeB rfl rfl rfl rfl rfl sz75 rfl (Nat.le_of_ble_eq_true rfl) rfl) rfl rfl rfl rfl ?_
      refine AL.fast 1 rfl ?_
      refine AL.nil ?_
      refine then_ok ?_
      refine AC.ret ?_
      have hX : newAuth card shop n time = ((⟨card, shop, n, 0, 0, 0, time + 100, false⟩ : Auth), 0) := by
        (try (unfold wrongAuth at hr0; dsimp only at hr0; (repeat' split at hr0))) <;> ((unfold newAuth; try dsimp only); (repeat' split) <;> first | rfl | omega | (exfalso; omega) | (subst_vars; rfl) | (simp_all; done) | (simp_all; omega))
      rw [hX] at hr; clear hX
      simp only [Prod.mk.injEq] at hr; obtain ⟨rfl, rfl⟩ := hr
      refine retQ_mk (av' := outOf [(.g [(cI card), (cI shop), (cI n), (cI 0), (cI 0), (cI 0), (cI (time + 100)), (cB false)]), (.c (cI 0))]) (nb' := []) (retQ_ret ⟨[(8, (aC (.p 0 0 0 0))), (9, (aI 0))], [(0, (.box 75 [(cI card), (cI shop), (cI n), (cI 0), (cI 0), (cI 0), (cI (time + 100)), (cB false)]))], 1⟩ [.cell 8 75, .tmp 9] [(.g [(cI card), (cI shop), (cI n), (cI 0), (cI 0), (cI 0), (cI (time + 100)), (cB false)]), (.c (cI 0))] (Weak.ren id (⟨by first | rfl | (simp only [AV.map, GV.map, CV.map, AB.map', id]; done) | (congr 3; omega) | (congr 4; omega) | (simp only [List.length_append, List.length_cons, List.length_nil, List.length_set]; rfl), by first | rfl | (simp only [AV.map, GV.map, CV.map, AB.map', id]; done) | (congr 3; omega) | (congr 4; omega) | (simp only [List.length_append, List.length_cons, List.length_nil, List.length_set]; rfl),  trivial⟩) (⟨by first | rfl | (simp only [AV.map, GV.map, CV.map, AB.map', id]; done) | (congr 3; omega) | (congr 4; omega) | (simp only [List.length_append, List.length_cons, List.length_nil, List.length_set]; rfl),  trivial⟩) rfl) rfl ⟨.agg rfl rfl (fun _ => run_isAgg Try.underlying75) sz75, .tmp rfl, trivial⟩ trivial) ?_ ?_
      · first | rfl | (simp [outOf, aC]; done) | (simp [outOf, aC]; omega)
      · first | rfl | (simp; done) | (simp; omega)
set_option maxRecDepth 100000 in
set_option maxHeartbeats 1000000 in
theorem c_ref_Hold (a : Auth) (ha : wrongAuth a = 0) (e : Int) (hr : holdAuth a = e) : Fn Try.prog 62 [(.g [(cI a.card), (cI a.shop), (cI a.sum), (cI a.captured), (cI a.refunded), (cI a.disputed), (cI a.till), (cB a.shut)])] (.v (.c (cI e))) [] := by
  refine Fn.mk' 12 [(0, (aG [(cI a.card), (cI a.shop), (cI a.sum), (cI a.captured), (cI a.refunded), (cI a.disputed), (cI a.till), (cB a.shut)]))] Try.func62 rfl rfl rfl rfl ?_
  intro W0 T0
  have hw := rightAuth ha
  refine AC.seq ?_
  refine AC.region ?_
  refine AL.new (n' := 1) (Wanted.plain rfl) (g_boxS 0 rfl rfl) rfl rfl rfl ?_
  refine AL.fast 1 rfl ?_
  refine AL.nil ?_
  refine then_ok ?_
  refine AC.seq ?_
  refine AC.region ?_
  refine AL.val (Wanted.plain rfl) (g_fieldP rfl rfl Try.underlying75 rfl sz3 (by decide)) rfl rfl ?_
  refine AL.val (Wanted.plain rfl) (g_loadB rfl rfl rfl Try.underlying3 rfl rfl) rfl rfl ?_
  refine AL.val (Wanted.plain rfl) (g_fieldP rfl rfl Try.underlying75 rfl sz3 (by decide)) rfl rfl ?_
  refine AL.val (Wanted.plain rfl) (g_loadB rfl rfl rfl Try.underlying3 rfl rfl) rfl rfl ?_
  refine AL.val (Wanted.plain rfl) (g_binI rfl rfl rfl (wrap_ok (by first | omega | (simp; done) | (simp; omega)))) rfl rfl ?_
  refine AL.fast 1 rfl ?_
  refine AL.nil ?_
  refine then_ok ?_
  refine AC.seq ?_
  refine AC.seq ?_
  refine AC.region ?_
  refine AL.val (Wanted.plain rfl) (g_fieldP rfl rfl Try.underlying75 rfl sz4 (by decide)) rfl rfl ?_
  refine AL.val (Wanted.plain rfl) (g_loadB rfl rfl rfl Try.underlying4 rfl rfl) rfl rfl ?_
  refine AL.nil ?_
  refine then_ok ?_
  refine AC.cond rfl (fun hc1 => ?_) (fun hc1 => ?_)
  ·
    have hc1' := hc1; try simp only [sumB, Bool.not_eq_true', Bool.not_eq_false', Bool.or_eq_true, Bool.or_eq_false_iff, Bool.and_eq_true, Bool.and_eq_false_imp, decide_eq_true_eq, decide_eq_false_iff_not, Bool.not_not, Bool.not_true, Bool.not_false] at hc1'
    refine AC.region ?_
    refine AL.fast 1 rfl ?_
    refine AL.nil ?_
    refine then_ok ?_
    refine AC.seq ?_
    refine AC.region ?_
    refine AL.fast 2 rfl ?_
    refine AL.nil ?_
    refine then_ok ?_
    refine AC.ret ?_
    have hX : holdAuth a = 0 := by
      (unfold holdAuth; try dsimp only); (repeat' split) <;> first | rfl | omega | (exfalso; omega) | (subst_vars; rfl) | (simp_all; done) | (simp_all; omega)
    rw [hX] at hr; clear hX
    subst hr
    refine retQ_mk (av' := outOf [(.c (cI 0))]) (nb' := []) (retQ_ret ⟨[(2, (aI 0))], [], 0⟩ [.tmp 2] [(.c (cI 0))] (Weak.ren id (⟨by first | rfl | (simp only [AV.map, GV.map, CV.map, AB.map', id]; done) | (congr 3; omega) | (congr 4; omega) | (simp only [List.length_append, List.length_cons, List.length_nil, List.length_set]; rfl),  trivial⟩) (trivial) rfl) rfl ⟨.tmp rfl, trivial⟩ trivial) ?_ ?_
    · first | rfl | (simp [outOf, aC]; done) | (simp [outOf, aC]; omega)
    · first | rfl | (simp; done) | (simp; omega)
  ·
    have hc1' := hc1; try simp only [sumB, Bool.not_eq_true', Bool.not_eq_false', Bool.or_eq_true, Bool.or_eq_false_iff, Bool.and_eq_true, Bool.and_eq_false_imp, decide_eq_true_eq, decide_eq_false_iff_not, Bool.not_not, Bool.not_true, Bool.not_false] at hc1'
    refine AC.skip ?_
    refine then_ok ?_
    refine AC.seq ?_
    refine AC.region ?_
    refine AL.fast 2 rfl ?_
    refine AL.nil ?_
    refine then_ok ?_
    refine AC.ret ?_
    have hX : holdAuth a = (a.sum - a.captured) := by
      (unfold holdAuth; try dsimp only); (repeat' split) <;> first | rfl | omega | (exfalso; omega) | (subst_vars; rfl) | (simp_all; done) | (simp_all; omega)
    rw [hX] at hr; clear hX
    subst hr
    refine retQ_mk (av' := outOf [(.c (cI (a.sum - a.captured)))]) (nb' := []) (retQ_ret ⟨[(2, (aI (a.sum - a.captured)))], [], 0⟩ [.tmp 2] [(.c (cI (a.sum - a.captured)))] (Weak.ren id (⟨by first | rfl | (simp only [AV.map, GV.map, CV.map, AB.map', id]; done) | (congr 3; omega) | (congr 4; omega) | (simp only [List.length_append, List.length_cons, List.length_nil, List.length_set]; rfl),  trivial⟩) (trivial) rfl) rfl ⟨.tmp rfl, trivial⟩ trivial) ?_ ?_
    · first | rfl | (simp [outOf, aC]; done) | (simp [outOf, aC]; omega)
    · first | rfl | (simp; done) | (simp; omega)
set_option maxRecDepth 100000 in
set_option maxHeartbeats 1000000 in
theorem c_ref_Late (a : Auth) (t : Int) (b : Auth) (hr : lateAuth a t = b) : Fn Try.prog 60 [(.g [(cI a.card), (cI a.shop), (cI a.sum), (cI a.captured), (cI a.refunded), (cI a.disputed), (cI a.till), (cB a.shut)]), (.c (cI t))] (.v (.g [(cI b.card), (cI b.shop), (cI b.sum), (cI b.captured), (cI b.refunded), (cI b.disputed), (cI b.till), (cB b.shut)])) [] := by
  refine Fn.mk' 15 [(0, (aG [(cI a.card), (cI a.shop), (cI a.sum), (cI a.captured), (cI a.refunded), (cI a.disputed), (cI a.till), (cB a.shut)])), (1, (aI t))] Try.func60 rfl rfl rfl rfl ?_
  intro W0 T0
  refine AC.seq ?_
  refine AC.region ?_
  refine AL.new (n' := 1) (Wanted.plain rfl) (g_boxS 0 rfl rfl) rfl rfl rfl ?_
  refine AL.new (n' := 2) (Wanted.plain rfl) (g_alloc 1 rfl zv75 rfl rfl rfl) rfl rfl rfl ?_
  refine AL.nil ?_
  refine then_ok ?_
  refine AC.seq ?_
  refine AC.region ?_
  refine AL.val (Wanted.plain rfl) (g_fieldP rfl rfl Try.underlying75 rfl sz4 (by decide)) rfl rfl ?_
  refine AL.val (Wanted.plain rfl) (g_loadB rfl rfl rfl Try.underlying4 rfl rfl) rfl rfl ?_
  refine AL.fast 1 rfl ?_
  refine AL.dec (t := 7) rfl (fun hb1 => ?_) (fun hb1 => ?_)
  ·
    have hb1' := hb1; try simp only [sumB, Bool.not_eq_true', Bool.not_eq_false', Bool.or_eq_true, Bool.or_eq_false_iff, Bool.and_eq_true, Bool.and_eq_false_imp, decide_eq_true_eq, decide_eq_false_iff_not, Bool.not_not, Bool.not_true, Bool.not_false] at hb1'
    refine AL.fast 5 rfl ?_
    refine AL.val (Wanted.plain rfl) (g_fieldP rfl rfl Try.underlying75 rfl sz4 (by decide)) rfl rfl ?_
    refine AL.sto (h' := [(1, (.box 75 [(cI 0), (cI 0), (cI 0), (cI 0), (cI 0), (cI 0), (cI 0), (cB false)])), (0, (.box 75 [(cI a.card), (cI a.shop), (cI a.sum), (cI a.captured), (cI a.refunded), (cI a.disputed), (cI a.till), (cB true)]))]) (Wanted.plain rfl) (g_storeB rfl rfl rfl rfl rfl sz4 rfl (Nat.le_of_ble_eq_true rfl) rfl) rfl rfl rfl rfl ?_
    refine AL.nil ?_
    refine then_ok ?_
    refine AC.seq ?_
    refine AC.region ?_
    refine AL.val (Wanted.plain rfl) (g_loadBs rfl rfl rfl Try.underlying75 rfl sz75 rfl rfl) rfl rfl ?_
    refine AL.sto (h' := [(1, (.box 75 [(cI a.card), (cI a.shop), (cI a.sum), (cI a.captured), (cI a.refunded), (cI a.disputed), (cI a.till), (cB true)])), (0, (.box 75 [(cI a.card), (cI a.shop), (cI a.sum), (cI a.captured), (cI a.refunded), (cI a.disputed), (cI a.till), (cB true)]))]) (Wanted.plain rfl) (g_storeB rfl rfl rfl rfl rfl sz75 rfl (Nat.le_of_ble_eq_true rfl) rfl) rfl rfl rfl rfl ?_
    refine AL.nil ?_
    refine then_ok ?_
    refine AC.ret ?_
    have hX : lateAuth a t = (⟨a.card, a.shop, a.sum, a.captured, a.refunded, a.disputed, a.till, true⟩ : Auth) := by
      refine auth_ext rfl rfl rfl rfl rfl rfl rfl ?_; by_cases hT : a.till ≤ t <;> first | (exfalso; omega) | (simp [lateAuth, hT]; done) | (clear hr; simp_all [lateAuth, hT])
    rw [hX] at hr; clear hX
    subst hr
    refine retQ_mk (av' := outOf [(.g [(cI a.card), (cI a.shop), (cI a.sum), (cI a.captured), (cI a.refunded), (cI a.disputed), (cI a.till), (cB true)])]) (nb' := []) (retQ_ret ⟨[(4, (aC (.p 1 0 0 0)))], [(1, (.box 75 [(cI a.card), (cI a.shop), (cI a.sum), (cI a.captured), (cI a.refunded), (cI a.disputed), (cI a.till), (cB true)]))], 2⟩ [.cell 4 75] [(.g [(cI a.card), (cI a.shop), (cI a.sum), (cI a.captured), (cI a.refunded), (cI a.disputed), (cI a.till), (cB true)])] (Weak.ren id (⟨by first | rfl | (simp only [AV.map, GV.map, CV.map, AB.map', id]; done) | (congr 3; omega) | (congr 4; omega) | (simp only [List.length_append, List.length_cons, List.length_nil, List.length_set]; rfl),  trivial⟩) (⟨by first | rfl | (simp only [AV.map, GV.map, CV.map, AB.map', id]; done) | (congr 3; omega) | (congr 4; omega) | (simp only [List.length_append, List.length_cons, List.length_nil, List.length_set]; rfl),  trivial⟩) rfl) rfl ⟨.agg rfl rfl (fun _ => run_isAgg Try.underlying75) sz75, trivial⟩ trivial) ?_ ?_
    · first | rfl | (simp [outOf, aC]; done) | (simp [outOf, aC]; omega)
    · first | rfl | (simp; done) | (simp; omega)
  ·
    have hb1' := hb1; try simp only [sumB, Bool.not_eq_true', Bool.not_eq_false', Bool.or_eq_true, Bool.or_eq_false_iff, Bool.and_eq_true, Bool.and_eq_false_imp, decide_eq_true_eq, decide_eq_false_iff_not, Bool.not_not, Bool.not_true, Bool.not_false] at hb1'
    refine AL.val (Wanted.yes rfl rfl rfl) (g_fieldP rfl rfl Try.underlying75 rfl sz3 (by decide)) rfl rfl ?_
    refine AL.val (Wanted.yes rfl rfl rfl) (g_loadB rfl rfl rfl Try.underlying3 rfl rfl) rfl rfl ?_
    refine AL.fast 1 rfl ?_
    refine AL.val (Wanted.yes rfl rfl rfl) (g_binI rfl rfl rfl rfl) rfl rfl ?_
    refine AL.fast 1 rfl ?_
    refine AL.val (Wanted.plain rfl) (g_fieldP rfl rfl Try.underlying75 rfl sz4 (by decide)) rfl rfl ?_
    refine AL.sto (h' := [(1, (.box 75 [(cI 0), (cI 0), (cI 0), (cI 0), (cI 0), (cI 0), (cI 0), (cB false)])), (0, (.box 75 [(cI a.card), (cI a.shop), (cI a.sum), (cI a.captured), (cI a.refunded), (cI a.disputed), (cI a.till), (cB (decide (a.till ≤ t)))]))]) (Wanted.plain rfl) (g_storeB rfl rfl rfl rfl rfl sz4 rfl (Nat.le_of_ble_eq_true rfl) rfl) rfl rfl rfl rfl ?_
    refine AL.nil ?_
    refine then_ok ?_
    refine AC.seq ?_
    refine AC.region ?_
    refine AL.val (Wanted.plain rfl) (g_loadBs rfl rfl rfl Try.underlying75 rfl sz75 rfl rfl) rfl rfl ?_
    refine AL.sto (h' := [(1, (.box 75 [(cI a.card), (cI a.shop), (cI a.sum), (cI a.captured), (cI a.refunded), (cI a.disputed), (cI a.till), (cB (decide (a.till ≤ t)))])), (0, (.box 75 [(cI a.card), (cI a.shop), (cI a.sum), (cI a.captured), (cI a.refunded), (cI a.disputed), (cI a.till), (cB (decide (a.till ≤ t)))]))]) (Wanted.plain rfl) (g_storeB rfl rfl rfl rfl rfl sz75 rfl (Nat.le_of_ble_eq_true rfl) rfl) rfl rfl rfl rfl ?_
    refine AL.nil ?_
    refine then_ok ?_
    refine AC.ret ?_
    have hX : lateAuth a t = (⟨a.card, a.shop, a.sum, a.captured, a.refunded, a.disputed, a.till, decide (a.till ≤ t)⟩ : Auth) := by
      refine auth_ext rfl rfl rfl rfl rfl rfl rfl ?_; by_cases hT : a.till ≤ t <;> first | (exfalso; omega) | (simp [lateAuth, hT]; done) | (clear hr; simp_all [lateAuth, hT])
    rw [hX] at hr; clear hX
    subst hr
    refine retQ_mk (av' := outOf [(.g [(cI a.card), (cI a.shop), (cI a.sum), (cI a.captured), (cI a.refunded), (cI a.disputed), (cI a.till), (cB (decide (a.till ≤ t)))])]) (nb' := []) (retQ_ret ⟨[(4, (aC (.p 1 0 0 0)))], [(1, (.box 75 [(cI a.card), (cI a.shop), (cI a.sum), (cI a.captured), (cI a.refunded), (cI a.disputed), (cI a.till), (cB (decide (a.till ≤ t)))]))], 2⟩ [.cell 4 75] [(.g [(cI a.card), (cI a.shop), (cI a.sum), (cI a.captured), (cI a.refunded), (cI a.disputed), (cI a.till), (cB (decide (a.till ≤ t)))])] (Weak.ren id (⟨by first | rfl | (simp only [AV.map, GV.map, CV.map, AB.map', id]; done) | (congr 3; omega) | (congr 4; omega) | (simp only [List.length_append, List.length_cons, List.length_nil, List.length_set]; rfl),  trivial⟩) (⟨by first | rfl | (simp only [AV.map, GV.map, CV.map, AB.map', id]; done) | (congr 3; omega) | (congr 4; omega) | (simp only [List.length_append, List.length_cons, List.length_nil, List.length_set]; rfl),  trivial⟩) rfl) rfl ⟨.agg rfl rfl (fun _ => run_isAgg Try.underlying75) sz75, trivial⟩ trivial) ?_ ?_
    · first | rfl | (simp [outOf, aC]; done) | (simp [outOf, aC]; omega)
    · first | rfl | (simp; done) | (simp; omega)
end Go.Proofs.Ytgmcdlfmifijlaa.Dev
