/- auth: Wrong, New. -/
import Derived.Test.YtgmcdlfmifijlaaDTy
import Derived.Test.YtgmcdlfmifijlaaDPlAuth
import Derived.Test.YtgmcdlfmifijlaaDOpn
set_option linter.unusedVariables false
set_option linter.unusedSimpArgs false
namespace Go.Proofs.Ytgmcdlfmifijlaa.Dev
open Go.RowKit


theorem get4 {a b c d x : Int} {q : Nat} (h : [a, b, c, d][q]? = some x) : (q = 0 ∧ x = a) ∨ (q = 1 ∧ x = b) ∨ (q = 2 ∧ x = c) ∨ (q = 3 ∧ x = d) := by
  match q with
  | 0 => left; simp_all
  | 1 => right; left; simp_all
  | 2 => right; right; left; simp_all
  | 3 => right; right; right; simp_all
  | q + 4 => simp at h

set_option maxRecDepth 100000 in
set_option maxHeartbeats 1000000 in
theorem c_auth_Wrong (a : Auth) (e : Int) (hr : wrongAuth a = e) : Fn Try.prog 57 [(.g [(cI a.card), (cI a.shop), (cI a.sum), (cI a.captured), (cI a.refunded), (cI a.disputed), (cI a.till), (cB a.shut)])] (.v (.c (cI e))) [] := by
  refine Fn.mk' 71 [(0, (aG [(cI a.card), (cI a.shop), (cI a.sum), (cI a.captured), (cI a.refunded), (cI a.disputed), (cI a.till), (cB a.shut)]))] Try.func57 rfl rfl rfl rfl ?_
  intro W0 T0
  refine AC.seq ?_
  refine AC.region ?_
  refine AL.new (n' := 1) (Wanted.plain rfl) (g_boxS 0 rfl rfl) rfl rfl rfl ?_
  refine AL.fast 1 rfl ?_
  refine AL.nil ?_
  refine then_ok ?_
  refine AC.seq ?_
  refine AC.seq ?_
  refine AC.region ?_
  refine AL.val (Wanted.plain rfl) (g_fieldP rfl rfl Try.underlying75 rfl sz3 (by decide)) rfl rfl ?_
  refine AL.val (Wanted.plain rfl) (g_loadB rfl rfl rfl Try.underlying3 rfl rfl) rfl rfl ?_
  refine AL.val (Wanted.plain rfl) (g_fieldP rfl rfl Try.underlying75 rfl sz3 (by decide)) rfl rfl ?_
  refine AL.val (Wanted.plain rfl) (g_loadB rfl rfl rfl Try.underlying3 rfl rfl) rfl rfl ?_
  refine AL.val (Wanted.plain rfl) (g_fieldP rfl rfl Try.underlying75 rfl sz3 (by decide)) rfl rfl ?_
  refine AL.val (Wanted.plain rfl) (g_loadB rfl rfl rfl Try.underlying3 rfl rfl) rfl rfl ?_
  refine AL.val (Wanted.plain rfl) (g_fieldP rfl rfl Try.underlying75 rfl sz3 (by decide)) rfl rfl ?_
  refine AL.val (Wanted.plain rfl) (g_loadB rfl rfl rfl Try.underlying3 rfl rfl) rfl rfl ?_
  refine AL.new (n' := 2) (Wanted.plain rfl) (g_lit (ys := [(0, (.c (cI a.sum))), (1, (.c (cI a.captured))), (2, (.c (cI a.refunded))), (3, (.c (cI a.disputed)))]) (rows := ([a.sum, a.captured, a.refunded, a.disputed]).map rI) 1 sl24 rfl (by decide) ⟨⟨rfl, rfl⟩, ⟨rfl, rfl⟩, ⟨rfl, rfl⟩, ⟨rfl, rfl⟩,  trivial⟩ rfl rfl rfl rfl) rfl rfl rfl ?_
  refine AL.val (Wanted.plain rfl) (g_lenS rfl rfl rfl rfl rfl Try.underlying24) rfl rfl ?_
  refine AL.fast 1 rfl ?_
  refine AL.nil ?_
  refine then_ok ?_
  refine AC.block ?_
  refine AC.loop (β := Nat) (fun (q : Nat) => ⟨[(1, (aC (.p 0 0 0 0))), (13, (aC (.s 1 0 1 4))), (14, (aI 4)), (15, (aI (↑q : Int)))], [(1, (.arr 3 1 (([a.sum, a.captured, a.refunded, a.disputed]).map rI))), (0, (.box 75 [(cI a.card), (cI a.shop), (cI a.sum), (cI a.captured), (cI a.refunded), (cI a.disputed), (cI a.till), (cB a.shut)]))], 2⟩) (fun (q : Nat) => q ≤ 4 ∧ (0 < q → 0 ≤ a.sum ∧ a.sum ≤ 1000000) ∧ (1 < q → 0 ≤ a.captured ∧ a.captured ≤ 1000000) ∧ (2 < q → 0 ≤ a.refunded ∧ a.refunded ≤ 1000000) ∧ (3 < q → 0 ≤ a.disputed ∧ a.disputed ≤ 1000000)) (fun (q : Nat) => 4 - q) 0 ?_ ?_ ?_
  · exact ⟨by omega, by omega, by omega, by omega, by omega⟩
  · exact Weak.ren id (⟨by first | rfl | (simp only [AV.map, GV.map, CV.map, AB.map', id]; done) | (congr 3; omega) | (congr 4; omega) | (simp only [List.length_append, List.length_cons, List.length_nil, List.length_set]; rfl), by first | rfl | (simp only [AV.map, GV.map, CV.map, AB.map', id]; done) | (congr 3; omega) | (congr 4; omega) | (simp only [List.length_append, List.length_cons, List.length_nil, List.length_set]; rfl), by first | rfl | (simp only [AV.map, GV.map, CV.map, AB.map', id]; done) | (congr 3; omega) | (congr 4; omega) | (simp only [List.length_append, List.length_cons, List.length_nil, List.length_set]; rfl), by first | rfl | (simp only [AV.map, GV.map, CV.map, AB.map', id]; done) | (congr 3; omega) | (congr 4; omega) | (simp only [List.length_append, List.length_cons, List.length_nil, List.length_set]; rfl),  trivial⟩) (⟨by first | rfl | (simp only [AV.map, GV.map, CV.map, AB.map', id]; done) | (congr 3; omega) | (congr 4; omega) | (simp only [List.length_append, List.length_cons, List.length_nil, List.length_set]; rfl), by first | rfl | (simp only [AV.map, GV.map, CV.map, AB.map', id]; done) | (congr 3; omega) | (congr 4; omega) | (simp only [List.length_append, List.length_cons, List.length_nil, List.length_set]; rfl),  trivial⟩) rfl
  ·
    rintro q ⟨hi0_0, hi0_1, hi0_2, hi0_3, hi0_4⟩
    refine AC.seq ?_
    refine AC.region ?_
    refine AL.val (Wanted.plain rfl) (g_binI rfl rfl rfl rfl) rfl rfl ?_
    refine AL.nil ?_
    refine then_ok ?_
    refine AC.seq ?_
    refine AC.cond rfl (fun hc1 => ?_) (fun hc1 => ?_)
    ·
      have hc1' := hc1; try simp only [sumB, Bool.not_eq_true', Bool.not_eq_false', Bool.or_eq_true, Bool.or_eq_false_iff, Bool.and_eq_true, Bool.and_eq_false_imp, decide_eq_true_eq, decide_eq_false_iff_not, Bool.not_not, Bool.not_true, Bool.not_false] at hc1'
      refine AC.skip ?_
      refine then_ok ?_
      refine AC.seq ?_
      refine AC.block ?_
      refine AC.seq ?_
      refine AC.region ?_
      refine AL.val (Wanted.plain rfl) (g_indexP0 (i := q) rfl rfl rfl Try.underlying24 sz3 (by first | omega | (simp; done) | (simp; omega)) (by first | omega | (simp; done) | (simp; omega))) rfl rfl ?_
      obtain ⟨x1, hx1⟩ := exget (xs := ([a.sum, a.captured, a.refunded, a.disputed] : List Int)) (i := q) (by first | omega | (simp; done) | (simp; omega))
      have hx1v := get4 hx1
      refine AL.val (Wanted.plain rfl) (g_loadA rfl rfl rfl Try.underlying3 rfl (getmap hx1) rfl) rfl rfl ?_
      refine AL.fast 1 rfl ?_
      refine AL.nil ?_
      refine then_ok ?_
      refine AC.cutB 24 ((decide (x1 < 0)) || (decide (x1 > 1000000))) ?_ ?_
      ·
        refine AC.region ?_
        refine AL.fast 1 rfl ?_
        refine AL.val (Wanted.plain rfl) (g_binI rfl rfl rfl rfl) rfl rfl ?_
        refine AL.fast 1 rfl ?_
        refine AL.dec (t := 21) rfl (fun hb2 => ?_) (fun hb2 => ?_)
        ·
          have hb2' := hb2; try simp only [sumB, Bool.not_eq_true', Bool.not_eq_false', Bool.or_eq_true, Bool.or_eq_false_iff, Bool.and_eq_true, Bool.and_eq_false_imp, decide_eq_true_eq, decide_eq_false_iff_not, Bool.not_not, Bool.not_true, Bool.not_false] at hb2'
          refine AL.fast 3 rfl ?_
          refine AL.nil ?_
          refine then_ok ?_
          exact Weak.popB 7 rfl rfl (by first | (simp [hb2]; done) | (simp_all; done) | (exfalso; simp_all; done) | (simp_all; omega)) rfl
        ·
          have hb2' := hb2; try simp only [sumB, Bool.not_eq_true', Bool.not_eq_false', Bool.or_eq_true, Bool.or_eq_false_iff, Bool.and_eq_true, Bool.and_eq_false_imp, decide_eq_true_eq, decide_eq_false_iff_not, Bool.not_not, Bool.not_true, Bool.not_false] at hb2'
          refine AL.fast 1 rfl ?_
          refine AL.val (Wanted.yes rfl rfl rfl) (g_binI rfl rfl rfl rfl) rfl rfl ?_
          refine AL.fast 1 rfl ?_
          refine AL.nil ?_
          refine then_ok ?_
          exact Weak.popB 7 rfl rfl (by first | (simp [hb2]; done) | (simp_all; done) | (exfalso; simp_all; done) | (simp_all; omega)) rfl
      ·
        refine AC.cond rfl (fun hc3 => ?_) (fun hc3 => ?_)
        ·
          have hc3' := hc3; try simp only [sumB, Bool.not_eq_true', Bool.not_eq_false', Bool.or_eq_true, Bool.or_eq_false_iff, Bool.and_eq_true, Bool.and_eq_false_imp, decide_eq_true_eq, decide_eq_false_iff_not, Bool.not_not, Bool.not_true, Bool.not_false] at hc3'
          refine AC.seq ?_
          refine AC.region ?_
          refine AL.fast 1 rfl ?_
          refine AL.nil ?_
          refine then_ok ?_
          refine AC.ret ?_
          refine block_ret ?_
          refine then_ret ?_
          refine then_ret ?_
          refine block_ret ?_
          refine then_ret ?_
          have hX : wrongAuth a = 3 := by
            (unfold wrongAuth; try dsimp only); (repeat' split) <;> first | rfl | omega | (exfalso; omega) | (subst_vars; rfl) | (simp_all; done) | (simp_all; omega)
          rw [hX] at hr; clear hX
          subst hr
          refine retQ_mk (av' := outOf [(.c (cI 3))]) (nb' := []) (retQ_ret ⟨[(2, (aI 3))], [], 0⟩ [.tmp 2] [(.c (cI 3))] (Weak.ren id (⟨by first | rfl | (simp only [AV.map, GV.map, CV.map, AB.map', id]; done) | (congr 3; omega) | (congr 4; omega) | (simp only [List.length_append, List.length_cons, List.length_nil, List.length_set]; rfl),  trivial⟩) (trivial) rfl) rfl ⟨.tmp rfl, trivial⟩ trivial) ?_ ?_
          · first | rfl | (simp [outOf, aC]; done) | (simp [outOf, aC]; omega)
          · first | rfl | (simp; done) | (simp; omega)
        ·
          have hc3' := hc3; try simp only [sumB, Bool.not_eq_true', Bool.not_eq_false', Bool.or_eq_true, Bool.or_eq_false_iff, Bool.and_eq_true, Bool.and_eq_false_imp, decide_eq_true_eq, decide_eq_false_iff_not, Bool.not_not, Bool.not_true, Bool.not_false] at hc3'
          refine AC.skip ?_
          refine block_ok ?_
          refine then_ok ?_
          refine AC.region ?_
          refine AL.val (Wanted.plain rfl) (g_binI rfl rfl rfl (wrap_ok (by first | omega | (simp; done) | (simp; omega)))) rfl rfl ?_
          refine AL.fast 1 rfl ?_
          refine AL.nil ?_
          refine then_ok ?_
          refine ⟨q + 1, ⟨by omega, by omega, by omega, by omega, by omega⟩, by first | omega | (simp; done) | (simp; omega), Weak.ren id (⟨by first | rfl | (simp only [AV.map, GV.map, CV.map, AB.map', id]; done) | (congr 3; omega) | (congr 4; omega) | (simp only [List.length_append, List.length_cons, List.length_nil, List.length_set]; rfl), by first | rfl | (simp only [AV.map, GV.map, CV.map, AB.map', id]; done) | (congr 3; omega) | (congr 4; omega) | (simp only [List.length_append, List.length_cons, List.length_nil, List.length_set]; rfl), by first | rfl | (simp only [AV.map, GV.map, CV.map, AB.map', id]; done) | (congr 3; omega) | (congr 4; omega) | (simp only [List.length_append, List.length_cons, List.length_nil, List.length_set]; rfl), by first | rfl | (simp only [AV.map, GV.map, CV.map, AB.map', id]; done) | (congr 3; omega) | (congr 4; omega) | (simp only [List.length_append, List.length_cons, List.length_nil, List.length_set]; rfl),  trivial⟩) (⟨by first | rfl | (simp only [AV.map, GV.map, CV.map, AB.map', id]; done) | (congr 3; omega) | (congr 4; omega) | (simp only [List.length_append, List.length_cons, List.length_nil, List.length_set]; rfl), by first | rfl | (simp only [AV.map, GV.map, CV.map, AB.map', id]; done) | (congr 3; omega) | (congr 4; omega) | (simp only [List.length_append, List.length_cons, List.length_nil, List.length_set]; rfl),  trivial⟩) rfl⟩
    ·
      have hc1' := hc1; try simp only [sumB, Bool.not_eq_true', Bool.not_eq_false', Bool.or_eq_true, Bool.or_eq_false_iff, Bool.and_eq_true, Bool.and_eq_false_imp, decide_eq_true_eq, decide_eq_false_iff_not, Bool.not_not, Bool.not_true, Bool.not_false] at hc1'
      refine AC.exit ?_
      refine then_exit ?_
      refine then_exit ?_
      refine block_hit ?_
      refine then_ok ?_
      refine AC.seq ?_
      refine AC.block ?_
      refine AC.cutB 26 ((((((decide (a.card < 0)) || (decide (a.card ≥ 8))) || (decide (a.shop < 0))) || (decide (a.shop ≥ 8))) || (decide (a.till < 0))) || (decide (a.till > 1000100))) ?_ ?_
      ·
        refine AC.region ?_
        refine AL.val (Wanted.plain rfl) (g_fieldP rfl rfl Try.underlying75 rfl sz3 (by decide)) rfl rfl ?_
        refine AL.val (Wanted.plain rfl) (g_loadB rfl rfl rfl Try.underlying3 rfl rfl) rfl rfl ?_
        refine AL.val (Wanted.plain rfl) (g_binI rfl rfl rfl rfl) rfl rfl ?_
        refine AL.fast 1 rfl ?_
        refine AL.dec (t := 30) rfl (fun hb4 => ?_) (fun hb4 => ?_)
        ·
          have hb4' := hb4; try simp only [sumB, Bool.not_eq_true', Bool.not_eq_false', Bool.or_eq_true, Bool.or_eq_false_iff, Bool.and_eq_true, Bool.and_eq_false_imp, decide_eq_true_eq, decide_eq_false_iff_not, Bool.not_not, Bool.not_true, Bool.not_false] at hb4'
          refine AL.fast 25 rfl ?_
          refine AL.nil ?_
          refine then_ok ?_
          exact Weak.popB 30 rfl rfl (by first | (simp [hb4]; done) | (simp_all; done) | (exfalso; simp_all; done) | (simp_all; omega)) rfl
        ·
          have hb4' := hb4; try simp only [sumB, Bool.not_eq_true', Bool.not_eq_false', Bool.or_eq_true, Bool.or_eq_false_iff, Bool.and_eq_true, Bool.and_eq_false_imp, decide_eq_true_eq, decide_eq_false_iff_not, Bool.not_not, Bool.not_true, Bool.not_false] at hb4'
          refine AL.val (Wanted.yes rfl rfl rfl) (g_fieldP rfl rfl Try.underlying75 rfl sz3 (by decide)) rfl rfl ?_
          refine AL.val (Wanted.yes rfl rfl rfl) (g_loadB rfl rfl rfl Try.underlying3 rfl rfl) rfl rfl ?_
          refine AL.val (Wanted.yes rfl rfl rfl) (g_binI rfl rfl rfl rfl) rfl rfl ?_
          refine AL.fast 2 rfl ?_
          refine AL.dec (t := 35) rfl (fun hb5 => ?_) (fun hb5 => ?_)
          ·
            have hb5' := hb5; try simp only [sumB, Bool.not_eq_true', Bool.not_eq_false', Bool.or_eq_true, Bool.or_eq_false_iff, Bool.and_eq_true, Bool.and_eq_false_imp, decide_eq_true_eq, decide_eq_false_iff_not, Bool.not_not, Bool.not_true, Bool.not_false] at hb5'
            refine AL.fast 20 rfl ?_
            refine AL.nil ?_
            refine then_ok ?_
            exact Weak.popB 31 rfl rfl (by first | (simp [hb4, hb5]; done) | (simp_all; done) | (exfalso; simp_all; done) | (simp_all; omega)) rfl
          ·
            have hb5' := hb5; try simp only [sumB, Bool.not_eq_true', Bool.not_eq_false', Bool.or_eq_true, Bool.or_eq_false_iff, Bool.and_eq_true, Bool.and_eq_false_imp, decide_eq_true_eq, decide_eq_false_iff_not, Bool.not_not, Bool.not_true, Bool.not_false] at hb5'
            refine AL.val (Wanted.yes rfl rfl rfl) (g_fieldP rfl rfl Try.underlying75 rfl sz3 (by decide)) rfl rfl ?_
            refine AL.val (Wanted.yes rfl rfl rfl) (g_loadB rfl rfl rfl Try.underlying3 rfl rfl) rfl rfl ?_
            refine AL.val (Wanted.yes rfl rfl rfl) (g_binI rfl rfl rfl rfl) rfl rfl ?_
            refine AL.fast 2 rfl ?_
            refine AL.dec (t := 40) rfl (fun hb6 => ?_) (fun hb6 => ?_)
            ·
              have hb6' := hb6; try simp only [sumB, Bool.not_eq_true', Bool.not_eq_false', Bool.or_eq_true, Bool.or_eq_false_iff, Bool.and_eq_true, Bool.and_eq_false_imp, decide_eq_true_eq, decide_eq_false_iff_not, Bool.not_not, Bool.not_true, Bool.not_false] at hb6'
              refine AL.fast 15 rfl ?_
              refine AL.nil ?_
              refine then_ok ?_
              exact Weak.popB 32 rfl rfl (by first | (simp [hb4, hb5, hb6]; done) | (simp_all; done) | (exfalso; simp_all; done) | (simp_all; omega)) rfl
            ·
              have hb6' := hb6; try simp only [sumB, Bool.not_eq_true', Bool.not_eq_false', Bool.or_eq_true, Bool.or_eq_false_iff, Bool.and_eq_true, Bool.and_eq_false_imp, decide_eq_true_eq, decide_eq_false_iff_not, Bool.not_not, Bool.not_true, Bool.not_false] at hb6'
              refine AL.val (Wanted.yes rfl rfl rfl) (g_fieldP rfl rfl Try.underlying75 rfl sz3 (by decide)) rfl rfl ?_
              refine AL.val (Wanted.yes rfl rfl rfl) (g_loadB rfl rfl rfl Try.underlying3 rfl rfl) rfl rfl ?_
              refine AL.val (Wanted.yes rfl rfl rfl) (g_binI rfl rfl rfl rfl) rfl rfl ?_
              refine AL.fast 2 rfl ?_
              refine AL.dec (t := 45) rfl (fun hb7 => ?_) (fun hb7 => ?_)
              ·
                have hb7' := hb7; try simp only [sumB, Bool.not_eq_true', Bool.not_eq_false', Bool.or_eq_true, Bool.or_eq_false_iff, Bool.and_eq_true, Bool.and_eq_false_imp, decide_eq_true_eq, decide_eq_false_iff_not, Bool.not_not, Bool.not_true, Bool.not_false] at hb7'
                refine AL.fast 10 rfl ?_
                refine AL.nil ?_
                refine then_ok ?_
                exact Weak.popB 33 rfl rfl (by first | (simp [hb4, hb5, hb6, hb7]; done) | (simp_all; done) | (exfalso; simp_all; done) | (simp_all; omega)) rfl
              ·
                have hb7' := hb7; try simp only [sumB, Bool.not_eq_true', Bool.not_eq_false', Bool.or_eq_true, Bool.or_eq_false_iff, Bool.and_eq_true, Bool.and_eq_false_imp, decide_eq_true_eq, decide_eq_false_iff_not, Bool.not_not, Bool.not_true, Bool.not_false] at hb7'
                refine AL.val (Wanted.yes rfl rfl rfl) (g_fieldP rfl rfl Try.underlying75 rfl sz3 (by decide)) rfl rfl ?_
                refine AL.val (Wanted.yes rfl rfl rfl) (g_loadB rfl rfl rfl Try.underlying3 rfl rfl) rfl rfl ?_
                refine AL.val (Wanted.yes rfl rfl rfl) (g_binI rfl rfl rfl rfl) rfl rfl ?_
                refine AL.fast 2 rfl ?_
                refine AL.dec (t := 50) rfl (fun hb8 => ?_) (fun hb8 => ?_)
                ·
                  have hb8' := hb8; try simp only [sumB, Bool.not_eq_true', Bool.not_eq_false', Bool.or_eq_true, Bool.or_eq_false_iff, Bool.and_eq_true, Bool.and_eq_false_imp, decide_eq_true_eq, decide_eq_false_iff_not, Bool.not_not, Bool.not_true, Bool.not_false] at hb8'
                  refine AL.fast 5 rfl ?_
                  refine AL.nil ?_
                  refine then_ok ?_
                  exact Weak.popB 34 rfl rfl (by first | (simp [hb4, hb5, hb6, hb7, hb8]; done) | (simp_all; done) | (exfalso; simp_all; done) | (simp_all; omega)) rfl
                ·
                  have hb8' := hb8; try simp only [sumB, Bool.not_eq_true', Bool.not_eq_false', Bool.or_eq_true, Bool.or_eq_false_iff, Bool.and_eq_true, Bool.and_eq_false_imp, decide_eq_true_eq, decide_eq_false_iff_not, Bool.not_not, Bool.not_true, Bool.not_false] at hb8'
                  refine AL.val (Wanted.yes rfl rfl rfl) (g_fieldP rfl rfl Try.underlying75 rfl sz3 (by decide)) rfl rfl ?_
                  refine AL.val (Wanted.yes rfl rfl rfl) (g_loadB rfl rfl rfl Try.underlying3 rfl rfl) rfl rfl ?_
                  refine AL.val (Wanted.yes rfl rfl rfl) (g_binI rfl rfl rfl rfl) rfl rfl ?_
                  refine AL.fast 2 rfl ?_
                  refine AL.nil ?_
                  refine then_ok ?_
                  exact Weak.popB 34 rfl rfl (by first | (simp [hb4, hb5, hb6, hb7, hb8]; done) | (simp_all; done) | (exfalso; simp_all; done) | (simp_all; omega)) rfl
      ·
        refine AC.cond rfl (fun hc9 => ?_) (fun hc9 => ?_)
        ·
          have hc9' := hc9; try simp only [sumB, Bool.not_eq_true', Bool.not_eq_false', Bool.or_eq_true, Bool.or_eq_false_iff, Bool.and_eq_true, Bool.and_eq_false_imp, decide_eq_true_eq, decide_eq_false_iff_not, Bool.not_not, Bool.not_true, Bool.not_false] at hc9'
          refine AC.seq ?_
          refine AC.region ?_
          refine AL.fast 1 rfl ?_
          refine AL.nil ?_
          refine then_ok ?_
          refine AC.ret ?_
          refine block_ret ?_
          refine then_ret ?_
          have hX : wrongAuth a = 3 := by
            (unfold wrongAuth; try dsimp only); (repeat' split) <;> first | rfl | omega | (exfalso; omega) | (subst_vars; rfl) | (simp_all; done) | (simp_all; omega)
          rw [hX] at hr; clear hX
          subst hr
          refine retQ_mk (av' := outOf [(.c (cI 3))]) (nb' := []) (retQ_ret ⟨[(2, (aI 3))], [], 0⟩ [.tmp 2] [(.c (cI 3))] (Weak.ren id (⟨by first | rfl | (simp only [AV.map, GV.map, CV.map, AB.map', id]; done) | (congr 3; omega) | (congr 4; omega) | (simp only [List.length_append, List.length_cons, List.length_nil, List.length_set]; rfl),  trivial⟩) (trivial) rfl) rfl ⟨.tmp rfl, trivial⟩ trivial) ?_ ?_
          · first | rfl | (simp [outOf, aC]; done) | (simp [outOf, aC]; omega)
          · first | rfl | (simp; done) | (simp; omega)
        ·
          have hc9' := hc9; try simp only [sumB, Bool.not_eq_true', Bool.not_eq_false', Bool.or_eq_true, Bool.or_eq_false_iff, Bool.and_eq_true, Bool.and_eq_false_imp, decide_eq_true_eq, decide_eq_false_iff_not, Bool.not_not, Bool.not_true, Bool.not_false] at hc9'
          refine AC.cutB 55 ((decide (a.captured > a.sum)) || (decide ((a.refunded + a.disputed) > a.captured))) ?_ ?_
          ·
            refine AC.region ?_
            refine AL.val (Wanted.plain rfl) (g_fieldP rfl rfl Try.underlying75 rfl sz3 (by decide)) rfl rfl ?_
            refine AL.val (Wanted.plain rfl) (g_loadB rfl rfl rfl Try.underlying3 rfl rfl) rfl rfl ?_
            refine AL.val (Wanted.plain rfl) (g_fieldP rfl rfl Try.underlying75 rfl sz3 (by decide)) rfl rfl ?_
            refine AL.val (Wanted.plain rfl) (g_loadB rfl rfl rfl Try.underlying3 rfl rfl) rfl rfl ?_
            refine AL.val (Wanted.plain rfl) (g_binI rfl rfl rfl rfl) rfl rfl ?_
            refine AL.fast 1 rfl ?_
            refine AL.dec (t := 61) rfl (fun hb10 => ?_) (fun hb10 => ?_)
            ·
              have hb10' := hb10; try simp only [sumB, Bool.not_eq_true', Bool.not_eq_false', Bool.or_eq_true, Bool.or_eq_false_iff, Bool.and_eq_true, Bool.and_eq_false_imp, decide_eq_true_eq, decide_eq_false_iff_not, Bool.not_not, Bool.not_true, Bool.not_false] at hb10'
              refine AL.fast 10 rfl ?_
              refine AL.nil ?_
              refine then_ok ?_
              exact Weak.popB 17 rfl rfl (by first | (simp [hb10]; done) | (simp_all; done) | (exfalso; simp_all; done) | (simp_all; omega)) rfl
            ·
              have hb10' := hb10; try simp only [sumB, Bool.not_eq_true', Bool.not_eq_false', Bool.or_eq_true, Bool.or_eq_false_iff, Bool.and_eq_true, Bool.and_eq_false_imp, decide_eq_true_eq, decide_eq_false_iff_not, Bool.not_not, Bool.not_true, Bool.not_false] at hb10'
              refine AL.val (Wanted.yes rfl rfl rfl) (g_fieldP rfl rfl Try.underlying75 rfl sz3 (by decide)) rfl rfl ?_
              refine AL.val (Wanted.yes rfl rfl rfl) (g_loadB rfl rfl rfl Try.underlying3 rfl rfl) rfl rfl ?_
              refine AL.val (Wanted.yes rfl rfl rfl) (g_fieldP rfl rfl Try.underlying75 rfl sz3 (by decide)) rfl rfl ?_
              refine AL.val (Wanted.yes rfl rfl rfl) (g_loadB rfl rfl rfl Try.underlying3 rfl rfl) rfl rfl ?_
              refine AL.val (Wanted.yes rfl rfl rfl) (g_binI rfl rfl rfl (wrap_ok (by first | omega | (simp; done) | (simp; omega)))) rfl rfl ?_
              refine AL.val (Wanted.yes rfl rfl rfl) (g_fieldP rfl rfl Try.underlying75 rfl sz3 (by decide)) rfl rfl ?_
              refine AL.val (Wanted.yes rfl rfl rfl) (g_loadB rfl rfl rfl Try.underlying3 rfl rfl) rfl rfl ?_
              refine AL.val (Wanted.yes rfl rfl rfl) (g_binI rfl rfl rfl rfl) rfl rfl ?_
              refine AL.fast 2 rfl ?_
              refine AL.nil ?_
              refine then_ok ?_
              exact Weak.popB 17 rfl rfl (by first | (simp [hb10]; done) | (simp_all; done) | (exfalso; simp_all; done) | (simp_all; omega)) rfl
          ·
            refine AC.cond rfl (fun hc11 => ?_) (fun hc11 => ?_)
            ·
              have hc11' := hc11; try simp only [sumB, Bool.not_eq_true', Bool.not_eq_false', Bool.or_eq_true, Bool.or_eq_false_iff, Bool.and_eq_true, Bool.and_eq_false_imp, decide_eq_true_eq, decide_eq_false_iff_not, Bool.not_not, Bool.not_true, Bool.not_false] at hc11'
              refine AC.seq ?_
              refine AC.region ?_
              refine AL.fast 1 rfl ?_
              refine AL.nil ?_
              refine then_ok ?_
              refine AC.ret ?_
              refine block_ret ?_
              refine then_ret ?_
              have hX : wrongAuth a = 8 := by
                (unfold wrongAuth; try dsimp only); (repeat' split) <;> first | rfl | omega | (exfalso; omega) | (subst_vars; rfl) | (simp_all; done) | (simp_all; omega)
              rw [hX] at hr; clear hX
              subst hr
              refine retQ_mk (av' := outOf [(.c (cI 8))]) (nb' := []) (retQ_ret ⟨[(2, (aI 8))], [], 0⟩ [.tmp 2] [(.c (cI 8))] (Weak.ren id (⟨by first | rfl | (simp only [AV.map, GV.map, CV.map, AB.map', id]; done) | (congr 3; omega) | (congr 4; omega) | (simp only [List.length_append, List.length_cons, List.length_nil, List.length_set]; rfl),  trivial⟩) (trivial) rfl) rfl ⟨.tmp rfl, trivial⟩ trivial) ?_ ?_
              · first | rfl | (simp [outOf, aC]; done) | (simp [outOf, aC]; omega)
              · first | rfl | (simp; done) | (simp; omega)
            ·
              have hc11' := hc11; try simp only [sumB, Bool.not_eq_true', Bool.not_eq_false', Bool.or_eq_true, Bool.or_eq_false_iff, Bool.and_eq_true, Bool.and_eq_false_imp, decide_eq_true_eq, decide_eq_false_iff_not, Bool.not_not, Bool.not_true, Bool.not_false] at hc11'
              refine AC.skip ?_
              refine block_ok ?_
              refine then_ok ?_
              refine AC.seq ?_
              refine AC.region ?_
              refine AL.fast 1 rfl ?_
              refine AL.nil ?_
              refine then_ok ?_
              refine AC.ret ?_
              have hX : wrongAuth a = 0 := by
                (unfold wrongAuth; try dsimp only); (repeat' split) <;> first | rfl | omega | (exfalso; omega) | (subst_vars; rfl) | (simp_all; done) | (simp_all; omega)
              rw [hX] at hr; clear hX
              subst hr
              refine retQ_mk (av' := outOf [(.c (cI 0))]) (nb' := []) (retQ_ret ⟨[(2, (aI 0))], [], 0⟩ [.tmp 2] [(.c (cI 0))] (Weak.ren id (⟨by first | rfl | (simp only [AV.map, GV.map, CV.map, AB.map', id]; done) | (congr 3; omega) | (congr 4; omega) | (simp only [List.length_append, List.length_cons, List.length_nil, List.length_set]; rfl),  trivial⟩) (trivial) rfl) rfl ⟨.tmp rfl, trivial⟩ trivial) ?_ ?_
              · first | rfl | (simp [outOf, aC]; done) | (simp [outOf, aC]; omega)
              · first | rfl | (simp; done) | (simp; omega)
set_option maxRecDepth 100000 in
set_option maxHeartbeats 1000000 in
theorem c_auth_New (card shop n time : Int) (b : Auth) (e : Int) (hr : newAuth card shop n time = (b, e)) : Fn Try.prog 63 [(.c (cI card)), (.c (cI shop)), (.c (cI n)), (.c (cI time))] (.t [(.g [(cI b.card), (cI b.shop), (cI b.sum), (cI b.captured), (cI b.refunded), (cI b.disputed), (cI b.till), (cB b.shut)]), (.c (cI e))]) [] := by
  refine Fn.mk' 40 [(0, (aI card)), (1, (aI shop)), (2, (aI n)), (3, (aI time))] Try.func63 rfl rfl rfl rfl ?_
  intro W0 T0
  refine AC.seq ?_
  refine AC.region ?_
  refine AL.new (n' := 1) (Wanted.plain rfl) (g_alloc 0 rfl zv75 rfl rfl rfl) rfl rfl rfl ?_
  refine AL.fast 1 rfl ?_
  refine AL.nil ?_
  refine then_ok ?_
  refine AC.seq ?_
  refine AC.cutB 25 ((((decide (n < 1)) || (decide (n > 1000000))) || (decide (time < 0))) || (decide (time > 1000000))) ?_ ?_
  ·
    refine AC.region ?_
    refine AL.fast 1 rfl ?_
    refine AL.val (Wanted.plain rfl) (g_binI rfl rfl rfl rfl) rfl rfl ?_
    refine AL.fast 1 rfl ?_
    refine AL.dec (t := 14) rfl (fun hb1 => ?_) (fun hb1 => ?_)
    ·
      have hb1' := hb1; try simp only [sumB, Bool.not_eq_true', Bool.not_eq_false', Bool.or_eq_true, Bool.or_eq_false_iff, Bool.and_eq_true, Bool.and_eq_false_imp, decide_eq_true_eq, decide_eq_false_iff_not, Bool.not_not, Bool.not_true, Bool.not_false] at hb1'
      refine AL.fast 11 rfl ?_
      refine AL.nil ?_
      refine then_ok ?_
      exact Weak.popB 15 rfl rfl (by first | (simp [hb1]; done) | (simp_all; done) | (exfalso; simp_all; done) | (simp_all; omega)) rfl
    ·
      have hb1' := hb1; try simp only [sumB, Bool.not_eq_true', Bool.not_eq_false', Bool.or_eq_true, Bool.or_eq_false_iff, Bool.and_eq_true, Bool.and_eq_false_imp, decide_eq_true_eq, decide_eq_false_iff_not, Bool.not_not, Bool.not_true, Bool.not_false] at hb1'
      refine AL.fast 1 rfl ?_
      refine AL.val (Wanted.yes rfl rfl rfl) (g_binI rfl rfl rfl rfl) rfl rfl ?_
      refine AL.fast 2 rfl ?_
      refine AL.dec (t := 18) rfl (fun hb2 => ?_) (fun hb2 => ?_)
      ·
        have hb2' := hb2; try simp only [sumB, Bool.not_eq_true', Bool.not_eq_false', Bool.or_eq_true, Bool.or_eq_false_iff, Bool.and_eq_true, Bool.and_eq_false_imp, decide_eq_true_eq, decide_eq_false_iff_not, Bool.not_not, Bool.not_true, Bool.not_false] at hb2'
        refine AL.fast 7 rfl ?_
        refine AL.nil ?_
        refine then_ok ?_
        exact Weak.popB 16 rfl rfl (by first | (simp [hb1, hb2]; done) | (simp_all; done) | (exfalso; simp_all; done) | (simp_all; omega)) rfl
      ·
        have hb2' := hb2; try simp only [sumB, Bool.not_eq_true', Bool.not_eq_false', Bool.or_eq_true, Bool.or_eq_false_iff, Bool.and_eq_true, Bool.and_eq_false_imp, decide_eq_true_eq, decide_eq_false_iff_not, Bool.not_not, Bool.not_true, Bool.not_false] at hb2'
        refine AL.fast 1 rfl ?_
        refine AL.val (Wanted.yes rfl rfl rfl) (g_binI rfl rfl rfl rfl) rfl rfl ?_
        refine AL.fast 2 rfl ?_
        refine AL.dec (t := 22) rfl (fun hb3 => ?_) (fun hb3 => ?_)
        ·
          have hb3' := hb3; try simp only [sumB, Bool.not_eq_true', Bool.not_eq_false', Bool.or_eq_true, Bool.or_eq_false_iff, Bool.and_eq_true, Bool.and_eq_false_imp, decide_eq_true_eq, decide_eq_false_iff_not, Bool.not_not, Bool.not_true, Bool.not_false] at hb3'
          refine AL.fast 3 rfl ?_
          refine AL.nil ?_
          refine then_ok ?_
          exact Weak.popB 17 rfl rfl (by first | (simp [hb1, hb2, hb3]; done) | (simp_all; done) | (exfalso; simp_all; done) | (simp_all; omega)) rfl
        ·
          have hb3' := hb3; try simp only [sumB, Bool.not_eq_true', Bool.not_eq_false', Bool.or_eq_true, Bool.or_eq_false_iff, Bool.and_eq_true, Bool.and_eq_false_imp, decide_eq_true_eq, decide_eq_false_iff_not, Bool.not_not, Bool.not_true, Bool.not_false] at hb3'
          refine AL.fast 1 rfl ?_
          refine AL.val (Wanted.yes rfl rfl rfl) (g_binI rfl rfl rfl rfl) rfl rfl ?_
          refine AL.fast 1 rfl ?_
          refine AL.nil ?_
          refine then_ok ?_
          exact Weak.popB 17 rfl rfl (by first | (simp [hb1, hb2, hb3]; done) | (simp_all; done) | (exfalso; simp_all; done) | (simp_all; omega)) rfl
  ·
    refine AC.cond rfl (fun hc4 => ?_) (fun hc4 => ?_)
    ·
      have hc4' := hc4; try simp only [sumB, Bool.not_eq_true', Bool.not_eq_false', Bool.or_eq_true, Bool.or_eq_false_iff, Bool.and_eq_true, Bool.and_eq_false_imp, decide_eq_true_eq, decide_eq_false_iff_not, Bool.not_not, Bool.not_true, Bool.not_false] at hc4'
      refine AC.seq ?_
      refine AC.region ?_
      refine AL.val (Wanted.plain rfl) (g_build (ys := []) rfl bld75 rfl trivial rfl rfl) rfl rfl ?_
      refine AL.sto (h' := [(0, (.box 75 [(cI 0), (cI 0), (cI 0), (cI 0), (cI 0), (cI 0), (cI 0), (cB false)]))]) (Wanted.plain rfl) (g_storeB rfl rfl rfl rfl rfl sz75 rfl (Nat.le_of_ble_eq_true rfl) rfl) rfl rfl rfl rfl ?_
      refine AL.fast 1 rfl ?_
      refine AL.nil ?_
      refine then_ok ?_
      refine AC.ret ?_
      refine then_ret ?_
      have hX : newAuth card shop n time = ((⟨0, 0, 0, 0, 0, 0, 0, false⟩ : Auth), 3) := by
        (try (unfold wrongAuth at hr0; dsimp only at hr0; (repeat' split at hr0))) <;> ((unfold newAuth; try dsimp only); (repeat' split) <;> first | rfl | omega | (exfalso; omega) | (subst_vars; rfl) | (simp_all; done) | (simp_all; omega))
      rw [hX] at hr; clear hX
      simp only [Prod.mk.injEq] at hr; obtain ⟨rfl, rfl⟩ := hr
      refine retQ_mk (av' := outOf [(.g [(cI 0), (cI 0), (cI 0), (cI 0), (cI 0), (cI 0), (cI 0), (cB false)]), (.c (cI 3))]) (nb' := []) (retQ_ret ⟨[(8, (aC (.p 0 0 0 0))), (9, (aI 3))], [(0, (.box 75 [(cI 0), (cI 0), (cI 0), (cI 0), (cI 0), (cI 0), (cI 0), (cB false)]))], 1⟩ [.cell 8 75, .tmp 9] [(.g [(cI 0), (cI 0), (cI 0), (cI 0), (cI 0), (cI 0), (cI 0), (cB false)]), (.c (cI 3))] (Weak.ren id (⟨by first | rfl | (simp only [AV.map, GV.map, CV.map, AB.map', id]; done) | (congr 3; omega) | (congr 4; omega) | (simp only [List.length_append, List.length_cons, List.length_nil, List.length_set]; rfl), by first | rfl | (simp only [AV.map, GV.map, CV.map, AB.map', id]; done) | (congr 3; omega) | (congr 4; omega) | (simp only [List.length_append, List.length_cons, List.length_nil, List.length_set]; rfl),  trivial⟩) (⟨by first | rfl | (simp only [AV.map, GV.map, CV.map, AB.map', id]; done) | (congr 3; omega) | (congr 4; omega) | (simp only [List.length_append, List.length_cons, List.length_nil, List.length_set]; rfl),  trivial⟩) rfl) rfl ⟨.agg rfl rfl (fun _ => run_isAgg Try.underlying75) sz75, .tmp rfl, trivial⟩ trivial) ?_ ?_
      · first | rfl | (simp [outOf, aC]; done) | (simp [outOf, aC]; omega)
      · first | rfl | (simp; done) | (simp; omega)
    ·
      have hc4' := hc4; try simp only [sumB, Bool.not_eq_true', Bool.not_eq_false', Bool.or_eq_true, Bool.or_eq_false_iff, Bool.and_eq_true, Bool.and_eq_false_imp, decide_eq_true_eq, decide_eq_false_iff_not, Bool.not_not, Bool.not_true, Bool.not_false] at hc4'
      refine AC.skip ?_
      refine then_ok ?_
      refine AC.seq ?_
      refine AC.region ?_
      refine AL.fast 4 rfl ?_
      refine AL.val (Wanted.plain rfl) (g_binI rfl rfl rfl (wrap_ok (by first | omega | (simp; done) | (simp; omega)))) rfl rfl ?_
      refine AL.val (Wanted.plain rfl) (g_build (ys := [(0, (.c (cI card))), (1, (.c (cI shop))), (2, (.c (cI n))), (6, (.c (cI (time + 100))))]) rfl bld75 rfl ⟨⟨rfl, rfl⟩, ⟨rfl, rfl⟩, ⟨rfl, rfl⟩, ⟨rfl, rfl⟩,  trivial⟩ rfl rfl) rfl rfl ?_
      refine AL.new (n' := 2) (Wanted.plain rfl) (g_alloc 1 rfl zv75 rfl rfl rfl) rfl rfl rfl ?_
      refine AL.sto (h' := [(1, (.box 75 [(cI card), (cI shop), (cI n), (cI 0), (cI 0), (cI 0), (cI (time + 100)), (cB false)])), (0, (.box 75 [(cI 0), (cI 0), (cI 0), (cI 0), (cI 0), (cI 0), (cI 0), (cB false)]))]) (Wanted.plain rfl) (g_storeB rfl rfl rfl rfl rfl sz75 rfl (Nat.le_of_ble_eq_true rfl) rfl) rfl rfl rfl rfl ?_
      refine AL.nil ?_
      refine then_ok ?_
      refine AC.seq ?_
      refine AC.seq ?_
      refine AC.region ?_
      refine AL.val (Wanted.plain rfl) (g_loadBs rfl rfl rfl Try.underlying75 rfl sz75 rfl rfl) rfl rfl ?_
      obtain ⟨e0, hr0⟩ : ∃ (e0 : Int), wrongAuth (⟨card, shop, n, 0, 0, 0, time + 100, false⟩ : Auth) = e0 := ⟨_, rfl⟩
      refine AL.call (n' := 2) (h' := [(1, (.box 75 [(cI card), (cI shop), (cI n), (cI 0), (cI 0), (cI 0), (cI (time + 100)), (cB false)])), (0, (.box 75 [(cI 0), (cI 0), (cI 0), (cI 0), (cI 0), (cI 0), (cI 0), (cB false)]))]) (Wanted.plain rfl) (g_call 2 (c_auth_Wrong (⟨card, shop, n, 0, 0, 0, time + 100, false⟩ : Auth)  e0 hr0) en57 rfl rfl ⟨⟨_, rfl, .g ⟨.d _, .d _, .d _, .d _, .d _, .d _, .d _, .d _,  trivial⟩⟩,  trivial⟩ trivial trivial rfl rfl rfl rfl) rfl rfl rfl rfl rfl ?_
      refine AL.fast 1 rfl ?_
      refine AL.nil ?_
      refine then_ok ?_
      refine AC.seq ?_
      refine AC.region ?_
      refine AL.fast 1 rfl ?_
      refine AL.val (Wanted.plain rfl) (g_binI rfl rfl rfl rfl) rfl rfl ?_
      refine AL.nil ?_
      refine then_ok ?_
      refine AC.cond rfl (fun hc5 => ?_) (fun hc5 => ?_)
      ·
        have hc5' := hc5; try simp only [sumB, Bool.not_eq_true', Bool.not_eq_false', Bool.or_eq_true, Bool.or_eq_false_iff, Bool.and_eq_true, Bool.and_eq_false_imp, decide_eq_true_eq, decide_eq_false_iff_not, Bool.not_not, Bool.not_true, Bool.not_false] at hc5'
        refine AC.seq ?_
        refine AC.region ?_
        refine AL.val (Wanted.plain rfl) (g_build (ys := []) rfl bld75 rfl trivial rfl rfl) rfl rfl ?_
        refine AL.fast 1 rfl ?_
        refine AL.sto (h' := [(1, (.box 75 [(cI card), (cI shop), (cI n), (cI 0), (cI 0), (cI 0), (cI (time + 100)), (cB false)])), (0, (.box 75 [(cI 0), (cI 0), (cI 0), (cI 0), (cI 0), (cI 0), (cI 0), (cB false)]))]) (Wanted.plain rfl) (g_storeB rfl rfl rfl rfl rfl sz75 rfl (Nat.le_of_ble_eq_true rfl) rfl) rfl rfl rfl rfl ?_
        refine AL.fast 1 rfl ?_
        refine AL.nil ?_
        refine then_ok ?_
        refine AC.ret ?_
        refine then_ret ?_
        have hX : newAuth card shop n time = ((⟨0, 0, 0, 0, 0, 0, 0, false⟩ : Auth), e0) := by
          (try (unfold wrongAuth at hr0; dsimp only at hr0; (repeat' split at hr0))) <;> ((unfold newAuth; try dsimp only); (repeat' split) <;> first | rfl | omega | (exfalso; omega) | (subst_vars; rfl) | (simp_all; done) | (simp_all; omega))
        rw [hX] at hr; clear hX
        simp only [Prod.mk.injEq] at hr; obtain ⟨rfl, rfl⟩ := hr
        refine retQ_mk (av' := outOf [(.g [(cI 0), (cI 0), (cI 0), (cI 0), (cI 0), (cI 0), (cI 0), (cB false)]), (.c (cI e0))]) (nb' := []) (retQ_ret ⟨[(8, (aC (.p 0 0 0 0))), (9, (aI e0))], [(0, (.box 75 [(cI 0), (cI 0), (cI 0), (cI 0), (cI 0), (cI 0), (cI 0), (cB false)]))], 1⟩ [.cell 8 75, .tmp 9] [(.g [(cI 0), (cI 0), (cI 0), (cI 0), (cI 0), (cI 0), (cI 0), (cB false)]), (.c (cI e0))] (Weak.ren id (⟨by first | rfl | (simp only [AV.map, GV.map, CV.map, AB.map', id]; done) | (congr 3; omega) | (congr 4; omega) | (simp only [List.length_append, List.length_cons, List.length_nil, List.length_set]; rfl), by first | rfl | (simp only [AV.map, GV.map, CV.map, AB.map', id]; done) | (congr 3; omega) | (congr 4; omega) | (simp only [List.length_append, List.length_cons, List.length_nil, List.length_set]; rfl),  trivial⟩) (⟨by first | rfl | (simp only [AV.map, GV.map, CV.map, AB.map', id]; done) | (congr 3; omega) | (congr 4; omega) | (simp only [List.length_append, List.length_cons, List.length_nil, List.length_set]; rfl),  trivial⟩) rfl) rfl ⟨.agg rfl rfl (fun _ => run_isAgg Try.underlying75) sz75, .tmp rfl, trivial⟩ trivial) ?_ ?_
        · first | rfl | (simp [outOf, aC]; done) | (simp [outOf, aC]; omega)
        · first | rfl | (simp; done) | (simp; omega)
      ·
        have hc5' := hc5; try simp only [sumB, Bool.not_eq_true', Bool.not_eq_false', Bool.or_eq_true, Bool.or_eq_false_iff, Bool.and_eq_true, Bool.and_eq_false_imp, decide_eq_true_eq, decide_eq_false_iff_not, Bool.not_not, Bool.not_true, Bool.not_false] at hc5'
        refine AC.skip ?_
        refine then_ok ?_
        refine AC.seq ?_
        refine AC.region ?_
        refine AL.val (Wanted.plain rfl) (g_loadBs rfl rfl rfl Try.underlying75 rfl sz75 rfl rfl) rfl rfl ?_
        refine AL.sto (h' := [(1, (.box 75 [(cI card), (cI shop), (cI n), (cI 0), (cI 0), (cI 0), (cI (time + 100)), (cB false)])), (0, (.box 75 [(cI card), (cI shop), (cI n), (cI 0), (cI 0), (cI 0), (cI (time + 100)), (cB false)]))]) (Wanted.plain rfl) (g_storeB rfl rfl rfl rfl rfl sz75 rfl (Nat.le_of_ble_eq_true rfl) rfl) rfl rfl rfl rfl ?_
        refine AL.fast 1 rfl ?_
        refine AL.nil ?_
        refine then_ok ?_
        refine AC.ret ?_
        have hX : newAuth card shop n time = ((⟨card, shop, n, 0, 0, 0, time + 100, false⟩ : Auth), 0) := by
          (try (unfold wrongAuth at hr0; dsimp only at hr0; (repeat' split at hr0))) <;> ((unfold newAuth; try dsimp only); (repeat' split) <;> first | rfl | omega | (exfalso; omega) | (subst_vars; rfl) | (simp_all; done) | (simp_all; omega))
        rw [hX] at hr; clear hX
        simp only [Prod.mk.injEq] at hr; obtain ⟨rfl, rfl⟩ := hr
        refine retQ_mk (av' := outOf [(.g [(cI card), (cI shop), (cI n), (cI 0), (cI 0), (cI 0), (cI (time + 100)), (cB false)]), (.c (cI 0))]) (nb' := []) (retQ_ret ⟨[(8, (aC (.p 0 0 0 0))), (9, (aI 0))], [(0, (.box 75 [(cI card), (cI shop), (cI n), (cI 0), (cI 0), (cI 0), (cI (time + 100)), (cB false)]))], 1⟩ [.cell 8 75, .tmp 9] [(.g [(cI card), (cI shop), (cI n), (cI 0), (cI 0), (cI 0), (cI (time + 100)), (cB false)]), (.c (cI 0))] (Weak.ren id (⟨by first | rfl | (simp only [AV.map, GV.map, CV.map, AB.map', id]; done) | (congr 3; omega) | (congr 4; omega) | (simp only [List.length_append, List.length_cons, List.length_nil, List.length_set]; rfl), by first | rfl | (simp only [AV.map, GV.map, CV.map, AB.map', id]; done) | (congr 3; omega) | (congr 4; omega) | (simp only [List.length_append, List.length_cons, List.length_nil, List.length_set]; rfl),  trivial⟩) (⟨by first | rfl | (simp only [AV.map, GV.map, CV.map, AB.map', id]; done) | (congr 3; omega) | (congr 4; omega) | (simp only [List.length_append, List.length_cons, List.length_nil, List.length_set]; rfl),  trivial⟩) rfl) rfl ⟨.agg rfl rfl (fun _ => run_isAgg Try.underlying75) sz75, .tmp rfl, trivial⟩ trivial) ?_ ?_
        · first | rfl | (simp [outOf, aC]; done) | (simp [outOf, aC]; omega)
        · first | rfl | (simp; done) | (simp; omega)
end Go.Proofs.Ytgmcdlfmifijlaa.Dev
