/- payref1: Become. -/
import Derived.Test.YtgmcdlfmifijlaaDAuth5
set_option linter.unusedVariables false
set_option linter.unusedSimpArgs false
namespace Go.Proofs.Ytgmcdlfmifijlaa.Dev
open Go.RowKit


theorem mv5 {a : Auth} {n : Int} (hw : wrongAuth a = 0) (h1 : 1 ≤ n) (h2 : n ≤ 1000000) : moveAuth a 5 n = if n > a.captured - a.refunded - a.disputed then (noAuth, 10) else (⟨a.card, a.shop, a.sum, a.captured, a.refunded + n, a.disputed, a.till, a.shut⟩, 0) := by
  unfold moveAuth; rw [if_neg (by omega), if_neg (by omega), if_neg (by omega), if_pos rfl]
theorem mv6 {a : Auth} {n : Int} (hw : wrongAuth a = 0) (h1 : 1 ≤ n) (h2 : n ≤ 1000000) : moveAuth a 6 n = if n > a.captured - a.refunded - a.disputed then (noAuth, 10) else (⟨a.card, a.shop, a.sum, a.captured, a.refunded, a.disputed + n, a.till, a.shut⟩, 0) := by
  unfold moveAuth; rw [if_neg (by omega), if_neg (by omega), if_neg (by omega), if_neg (by omega), if_pos rfl]
theorem mv7 {a : Auth} {n : Int} (hw : wrongAuth a = 0) (h1 : 1 ≤ n) (h2 : n ≤ 1000000) : moveAuth a 7 n = if n > a.disputed then (noAuth, 10) else (⟨a.card, a.shop, a.sum, a.captured, a.refunded + n, a.disputed - n, a.till, a.shut⟩, 0) := by
  unfold moveAuth; rw [if_neg (by omega), if_neg (by omega), if_neg (by omega), if_neg (by omega), if_neg (by omega), if_pos rfl]
theorem mv8 {a : Auth} {n : Int} (hw : wrongAuth a = 0) (h1 : 1 ≤ n) (h2 : n ≤ 1000000) : moveAuth a 8 n = if n > a.disputed then (noAuth, 10) else (⟨a.card, a.shop, a.sum, a.captured, a.refunded, a.disputed - n, a.till, a.shut⟩, 0) := by
  unfold moveAuth; rw [if_neg (by omega), if_neg (by omega), if_neg (by omega), if_neg (by omega), if_neg (by omega), if_neg (by omega), if_pos rfl]
theorem mvO {a : Auth} {kind n : Int} (hw : wrongAuth a = 0) (h1 : 1 ≤ n) (h2 : n ≤ 1000000) (hk : 1 ≤ kind) (hk4 : kind ≤ 4) : moveAuth a kind n = if (openAuth a kind n).2 ≠ 0 then (noAuth, (openAuth a kind n).2) else openAuth a kind n := by
  unfold moveAuth; rw [if_neg (by omega), if_neg (by omega), if_neg (by omega), if_neg (by omega), if_neg (by omega), if_neg (by omega), if_neg (by omega)]
theorem mvS {a : Auth} {kind n : Int} (hw : wrongAuth a = 0) (h1 : 1 ≤ n) (h2 : n ≤ 1000000) (hk : 1 ≤ kind) (hk4 : kind ≤ 4) (hs : a.shut = true) : moveAuth a kind n = (noAuth, 9) := by
  rw [mvO hw h1 h2 hk hk4]; unfold openAuth; rw [if_pos hs]; rfl
theorem mv1 {a : Auth} {n : Int} (hw : wrongAuth a = 0) (h1 : 1 ≤ n) (h2 : n ≤ 1000000) (hs : a.shut = false) : moveAuth a 1 n = if n > 1000000 - a.sum then (noAuth, 4) else (⟨a.card, a.shop, a.sum + n, a.captured, a.refunded, a.disputed, a.till, a.shut⟩, 0) := by
  have ho : openAuth a 1 n = if n > 1000000 - a.sum then (a, 4) else (⟨a.card, a.shop, a.sum + n, a.captured, a.refunded, a.disputed, a.till, false⟩, 0) := by
    unfold openAuth; rw [if_neg (by simp [hs]), if_pos rfl]
  rw [mvO hw h1 h2 (by omega) (by omega), ho, hs]; by_cases hc : n > 1000000 - a.sum
  · rw [if_pos hc, if_pos hc]; rfl
  · rw [if_neg hc, if_neg hc]; rfl
theorem mv2 {a : Auth} {n : Int} (hw : wrongAuth a = 0) (h1 : 1 ≤ n) (h2 : n ≤ 1000000) (hs : a.shut = false) : moveAuth a 2 n = if n > a.sum - a.captured then (noAuth, 10) else (⟨a.card, a.shop, a.sum, a.captured + n, a.refunded, a.disputed, a.till, decide (a.sum = a.captured + n)⟩, 0) := by
  have ho : openAuth a 2 n = if n > a.sum - a.captured then (a, 10) else (⟨a.card, a.shop, a.sum, a.captured + n, a.refunded, a.disputed, a.till, decide (2 = 3) || decide (a.captured + n = a.sum)⟩, 0) := by
    unfold openAuth; rw [if_neg (by simp [hs]), if_neg (by omega)]; by_cases hc : n > a.sum - a.captured
    · rw [if_pos hc, if_pos hc]
    · rw [if_neg hc, if_neg hc]; simp
  rw [mvO hw h1 h2 (by omega) (by omega), ho]; by_cases hc : n > a.sum - a.captured
  · rw [if_pos hc, if_pos hc]; rfl
  · rw [if_neg hc, if_neg hc]; simp [eq_comm]
theorem mv3 {a : Auth} {n : Int} (hw : wrongAuth a = 0) (h1 : 1 ≤ n) (h2 : n ≤ 1000000) (hs : a.shut = false) : moveAuth a 3 n = if n > a.sum - a.captured then (noAuth, 10) else (⟨a.card, a.shop, a.sum, a.captured + n, a.refunded, a.disputed, a.till, true⟩, 0) := by
  have ho : openAuth a 3 n = if n > a.sum - a.captured then (a, 10) else (⟨a.card, a.shop, a.sum, a.captured + n, a.refunded, a.disputed, a.till, decide (3 = 3) || decide (a.captured + n = a.sum)⟩, 0) := by
    unfold openAuth; rw [if_neg (by simp [hs]), if_neg (by omega)]; by_cases hc : n > a.sum - a.captured
    · rw [if_pos hc, if_pos hc]
    · rw [if_neg hc, if_neg hc]; simp
  rw [mvO hw h1 h2 (by omega) (by omega), ho]; by_cases hc : n > a.sum - a.captured
  · rw [if_pos hc, if_pos hc]; rfl
  · rw [if_neg hc, if_neg hc]; simp
theorem mv4 {a : Auth} {n : Int} (hw : wrongAuth a = 0) (h1 : 1 ≤ n) (h2 : n ≤ 1000000) (hs : a.shut = false) : moveAuth a 4 n = if n > a.sum - a.captured then (noAuth, 10) else (⟨a.card, a.shop, a.sum - n, a.captured, a.refunded, a.disputed, a.till, decide (a.sum - n = a.captured)⟩, 0) := by
  have ho : openAuth a 4 n = if n > a.sum - a.captured then (a, 10) else (⟨a.card, a.shop, a.sum - n, a.captured, a.refunded, a.disputed, a.till, decide (a.sum - n = a.captured)⟩, 0) := by
    unfold openAuth; rw [if_neg (by simp [hs]), if_neg (by omega)]; by_cases hc : n > a.sum - a.captured
    · rw [if_pos hc, if_pos hc]
    · rw [if_neg hc, if_neg hc]; simp
  rw [mvO hw h1 h2 (by omega) (by omega), ho]; by_cases hc : n > a.sum - a.captured
  · rw [if_pos hc, if_pos hc]; rfl
  · rw [if_neg hc, if_neg hc]; simp

set_option maxRecDepth 100000 in
set_option maxHeartbeats 4000000 in
theorem c_ref_Become (a : Auth) (kind n : Int) (b : Auth) (e : Int) (hr : moveAuth a kind n = (b, e)) : Fn Try.prog 66 [(.g [(cI a.card), (cI a.shop), (cI a.sum), (cI a.captured), (cI a.refunded), (cI a.disputed), (cI a.till), (cB a.shut)]), (.c (cI kind)), (.c (cI n))] (.t [(.g [(cI b.card), (cI b.shop), (cI b.sum), (cI b.captured), (cI b.refunded), (cI b.disputed), (cI b.till), (cB b.shut)]), (.c (cI e))]) [] := by
  refine Fn.mk' 161 [(0, (aG [(cI a.card), (cI a.shop), (cI a.sum), (cI a.captured), (cI a.refunded), (cI a.disputed), (cI a.till), (cB a.shut)])), (1, (aI kind)), (2, (aI n))] Try.func66 rfl rfl rfl rfl ?_
  intro W0 T0
  refine AC.seq ?_
  refine AC.region ?_
  refine AL.new (n' := 1) (Wanted.plain rfl) (g_boxS 0 rfl rfl) rfl rfl rfl ?_
  refine AL.new (n' := 2) (Wanted.plain rfl) (g_alloc 1 rfl zv75 rfl rfl rfl) rfl rfl rfl ?_
  refine AL.fast 1 rfl ?_
  refine AL.nil ?_
  refine then_ok ?_
  refine AC.seq ?_
  refine AC.seq ?_
  refine AC.region ?_
  refine AL.val (Wanted.plain rfl) (g_loadBs rfl rfl rfl Try.underlying75 rfl sz75 rfl rfl) rfl rfl ?_
  obtain ⟨e0, hr0⟩ : ∃ (e0 : Int), wrongAuth a = e0 := ⟨_, rfl⟩
  refine AL.call (n' := 2) (h' := [(1, (.box 75 [(cI 0), (cI 0), (cI 0), (cI 0), (cI 0), (cI 0), (cI 0), (cB false)])), (0, (.box 75 [(cI a.card), (cI a.shop), (cI a.sum), (cI a.captured), (cI a.refunded), (cI a.disputed), (cI a.till), (cB a.shut)]))]) (Wanted.plain rfl) (g_call 2 (c_ref_WrongAuth a  e0 hr0) en58 rfl rfl ⟨⟨_, rfl, .g ⟨.d _, .d _, .d _, .d _, .d _, .d _, .d _, .d _,  trivial⟩⟩,  trivial⟩ trivial trivial rfl rfl rfl rfl) rfl rfl rfl rfl rfl ?_
  refine AL.fast 1 rfl ?_
  refine AL.nil ?_
  refine then_ok ?_
  refine AC.seq ?_
  refine AC.region ?_
  refine AL.fast 1 rfl ?_
  refine AL.val (Wanted.plain rfl) (g_binI rfl rfl rfl rfl) rfl rfl ?_
  refine AL.nil ?_
  refine then_ok ?_
  refine AC.cond rfl (fun hc1 => ?_) (fun hc1 => ?_)
  ·
    have hc1' := hc1; try simp only [sumB, Bool.not_eq_true', Bool.not_eq_false', Bool.or_eq_true, Bool.or_eq_false_iff, Bool.and_eq_true, Bool.and_eq_false_imp, decide_eq_true_eq, decide_eq_false_iff_not, Bool.not_not, Bool.not_true, Bool.not_false] at hc1'
    refine AC.seq ?_
    refine AC.region ?_
    refine AL.val (Wanted.plain rfl) (g_build (ys := []) rfl bld75 rfl trivial rfl rfl) rfl rfl ?_
    refine AL.fast 1 rfl ?_
    refine AL.sto (h' := [(1, (.box 75 [(cI 0), (cI 0), (cI 0), (cI 0), (cI 0), (cI 0), (cI 0), (cB false)])), (0, (.box 75 [(cI a.card), (cI a.shop), (cI a.sum), (cI a.captured), (cI a.refunded), (cI a.disputed), (cI a.till), (cB a.shut)]))]) (Wanted.plain rfl) (g_storeB rfl rfl rfl rfl rfl sz75 rfl (Nat.le_of_ble_eq_true rfl) rfl) rfl rfl rfl rfl ?_
    refine AL.fast 1 rfl ?_
    refine AL.nil ?_
    refine then_ok ?_
    refine AC.ret ?_
    refine then_ret ?_
    have hX : moveAuth a kind n = ((⟨0, 0, 0, 0, 0, 0, 0, false⟩ : Auth), e0) := by
      (unfold moveAuth; rw [if_pos (by omega), hr0]; rfl)
    rw [hX] at hr; clear hX
    simp only [Prod.mk.injEq] at hr; obtain ⟨rfl, rfl⟩ := hr
    refine retQ_mk (av' := outOf [(.g [(cI 0), (cI 0), (cI 0), (cI 0), (cI 0), (cI 0), (cI 0), (cB false)]), (.c (cI e0))]) (nb' := []) (retQ_ret ⟨[(6, (aC (.p 1 0 0 0))), (7, (aI e0))], [(1, (.box 75 [(cI 0), (cI 0), (cI 0), (cI 0), (cI 0), (cI 0), (cI 0), (cB false)]))], 2⟩ [.cell 6 75, .tmp 7] [(.g [(cI 0), (cI 0), (cI 0), (cI 0), (cI 0), (cI 0), (cI 0), (cB false)]), (.c (cI e0))] (Weak.ren id (⟨by first | rfl | (simp only [AV.map, GV.map, CV.map, AB.map', id]; done) | (congr 3; omega) | (congr 4; omega) | (simp only [List.length_append, List.length_cons, List.length_nil, List.length_set]; rfl), by first | rfl | (simp only [AV.map, GV.map, CV.map, AB.map', id]; done) | (congr 3; omega) | (congr 4; omega) | (simp only [List.length_append, List.length_cons, List.length_nil, List.length_set]; rfl),  trivial⟩) (⟨by first | rfl | (simp only [AV.map, GV.map, CV.map, AB.map', id]; done) | (congr 3; omega) | (congr 4; omega) | (simp only [List.length_append, List.length_cons, List.length_nil, List.length_set]; rfl),  trivial⟩) rfl) rfl ⟨.agg rfl rfl (fun _ => run_isAgg Try.underlying75) sz75, .tmp rfl, trivial⟩ trivial) ?_ ?_
    · first | rfl | (simp [outOf, aC]; done) | (simp [outOf, aC]; omega)
    · first | rfl | (simp; done) | (simp; omega)
  ·
    have hc1' := hc1; try simp only [sumB, Bool.not_eq_true', Bool.not_eq_false', Bool.or_eq_true, Bool.or_eq_false_iff, Bool.and_eq_true, Bool.and_eq_false_imp, decide_eq_true_eq, decide_eq_false_iff_not, Bool.not_not, Bool.not_true, Bool.not_false] at hc1'
    refine AC.skip ?_
    refine then_ok ?_
    refine AC.seq ?_
    refine AC.cutB 21 ((decide (kind < 1)) || (decide (kind > 8))) ?_ ?_
    ·
      refine AC.region ?_
      refine AL.fast 1 rfl ?_
      refine AL.val (Wanted.plain rfl) (g_binI rfl rfl rfl rfl) rfl rfl ?_
      refine AL.fast 1 rfl ?_
      refine AL.dec (t := 18) rfl (fun hb2 => ?_) (fun hb2 => ?_)
      ·
        have hb2' := hb2; try simp only [sumB, Bool.not_eq_true', Bool.not_eq_false', Bool.or_eq_true, Bool.or_eq_false_iff, Bool.and_eq_true, Bool.and_eq_false_imp, decide_eq_true_eq, decide_eq_false_iff_not, Bool.not_not, Bool.not_true, Bool.not_false] at hb2'
        refine AL.fast 3 rfl ?_
        refine AL.nil ?_
        refine then_ok ?_
        exact Weak.popB 7 rfl rfl (by first | (simp [hb2]; done) | (simp_all; done) | (exfalso; simp_all; done) | (simp_all; omega)) rfl
      ·
        have hb2' := hb2; try simp only [sumB, Bool.not_eq_true', Bool.not_eq_false', Bool.or_eq_true, Bool.or_eq_false_iff, Bool.and_eq_true, Bool.and_eq_false_imp, decide_eq_true_eq, decide_eq_false_iff_not, Bool.not_not, Bool.not_true, Bool.not_false] at hb2'
        refine AL.fast 1 rfl ?_
        refine AL.val (Wanted.yes rfl rfl rfl) (g_binI rfl rfl rfl rfl) rfl rfl ?_
        refine AL.fast 1 rfl ?_
        refine AL.nil ?_
        refine then_ok ?_
        exact Weak.popB 7 rfl rfl (by first | (simp [hb2]; done) | (simp_all; done) | (exfalso; simp_all; done) | (simp_all; omega)) rfl
    ·
      refine AC.cond rfl (fun hc3 => ?_) (fun hc3 => ?_)
      ·
        have hc3' := hc3; try simp only [sumB, Bool.not_eq_true', Bool.not_eq_false', Bool.or_eq_true, Bool.or_eq_false_iff, Bool.and_eq_true, Bool.and_eq_false_imp, decide_eq_true_eq, decide_eq_false_iff_not, Bool.not_not, Bool.not_true, Bool.not_false] at hc3'
        refine AC.seq ?_
        refine AC.region ?_
        refine AL.val (Wanted.plain rfl) (g_build (ys := []) rfl bld75 rfl trivial rfl rfl) rfl rfl ?_
        refine AL.sto (h' := [(1, (.box 75 [(cI 0), (cI 0), (cI 0), (cI 0), (cI 0), (cI 0), (cI 0), (cB false)])), (0, (.box 75 [(cI a.card), (cI a.shop), (cI a.sum), (cI a.captured), (cI a.refunded), (cI a.disputed), (cI a.till), (cB a.shut)]))]) (Wanted.plain rfl) (g_storeB rfl rfl rfl rfl rfl sz75 rfl (Nat.le_of_ble_eq_true rfl) rfl) rfl rfl rfl rfl ?_
        refine AL.fast 1 rfl ?_
        refine AL.nil ?_
        refine then_ok ?_
        refine AC.ret ?_
        refine then_ret ?_
        have hX : moveAuth a kind n = ((⟨0, 0, 0, 0, 0, 0, 0, false⟩ : Auth), 1) := by
          (unfold moveAuth; rw [if_neg (by omega), if_pos (by omega)]; rfl)
        rw [hX] at hr; clear hX
        simp only [Prod.mk.injEq] at hr; obtain ⟨rfl, rfl⟩ := hr
        refine retQ_mk (av' := outOf [(.g [(cI 0), (cI 0), (cI 0), (cI 0), (cI 0), (cI 0), (cI 0), (cB false)]), (.c (cI 1))]) (nb' := []) (retQ_ret ⟨[(6, (aC (.p 1 0 0 0))), (7, (aI 1))], [(1, (.box 75 [(cI 0), (cI 0), (cI 0), (cI 0), (cI 0), (cI 0), (cI 0), (cB false)]))], 2⟩ [.cell 6 75, .tmp 7] [(.g [(cI 0), (cI 0), (cI 0), (cI 0), (cI 0), (cI 0), (cI 0), (cB false)]), (.c (cI 1))] (Weak.ren id (⟨by first | rfl | (simp only [AV.map, GV.map, CV.map, AB.map', id]; done) | (congr 3; omega) | (congr 4; omega) | (simp only [List.length_append, List.length_cons, List.length_nil, List.length_set]; rfl), by first | rfl | (simp only [AV.map, GV.map, CV.map, AB.map', id]; done) | (congr 3; omega) | (congr 4; omega) | (simp only [List.length_append, List.length_cons, List.length_nil, List.length_set]; rfl),  trivial⟩) (⟨by first | rfl | (simp only [AV.map, GV.map, CV.map, AB.map', id]; done) | (congr 3; omega) | (congr 4; omega) | (simp only [List.length_append, List.length_cons, List.length_nil, List.length_set]; rfl),  trivial⟩) rfl) rfl ⟨.agg rfl rfl (fun _ => run_isAgg Try.underlying75) sz75, .tmp rfl, trivial⟩ trivial) ?_ ?_
        · first | rfl | (simp [outOf, aC]; done) | (simp [outOf, aC]; omega)
        · first | rfl | (simp; done) | (simp; omega)
      ·
        have hc3' := hc3; try simp only [sumB, Bool.not_eq_true', Bool.not_eq_false', Bool.or_eq_true, Bool.or_eq_false_iff, Bool.and_eq_true, Bool.and_eq_false_imp, decide_eq_true_eq, decide_eq_false_iff_not, Bool.not_not, Bool.not_true, Bool.not_false] at hc3'
        refine AC.skip ?_
        refine then_ok ?_
        refine AC.seq ?_
        refine AC.cutB 28 ((decide (n < 1)) || (decide (n > 1000000))) ?_ ?_
        ·
          refine AC.region ?_
          refine AL.fast 1 rfl ?_
          refine AL.val (Wanted.plain rfl) (g_binI rfl rfl rfl rfl) rfl rfl ?_
          refine AL.fast 1 rfl ?_
          refine AL.dec (t := 25) rfl (fun hb4 => ?_) (fun hb4 => ?_)
          ·
            have hb4' := hb4; try simp only [sumB, Bool.not_eq_true', Bool.not_eq_false', Bool.or_eq_true, Bool.or_eq_false_iff, Bool.and_eq_true, Bool.and_eq_false_imp, decide_eq_true_eq, decide_eq_false_iff_not, Bool.not_not, Bool.not_true, Bool.not_false] at hb4'
            refine AL.fast 3 rfl ?_
            refine AL.nil ?_
            refine then_ok ?_
            exact Weak.popB 7 rfl rfl (by first | (simp [hb4]; done) | (simp_all; done) | (exfalso; simp_all; done) | (simp_all; omega)) rfl
          ·
            have hb4' := hb4; try simp only [sumB, Bool.not_eq_true', Bool.not_eq_false', Bool.or_eq_true, Bool.or_eq_false_iff, Bool.and_eq_true, Bool.and_eq_false_imp, decide_eq_true_eq, decide_eq_false_iff_not, Bool.not_not, Bool.not_true, Bool.not_false] at hb4'
            refine AL.fast 1 rfl ?_
            refine AL.val (Wanted.yes rfl rfl rfl) (g_binI rfl rfl rfl rfl) rfl rfl ?_
            refine AL.fast 1 rfl ?_
            refine AL.nil ?_
            refine then_ok ?_
            exact Weak.popB 7 rfl rfl (by first | (simp [hb4]; done) | (simp_all; done) | (exfalso; simp_all; done) | (simp_all; omega)) rfl
        ·
          refine AC.cond rfl (fun hc5 => ?_) (fun hc5 => ?_)
          ·
            have hc5' := hc5; try simp only [sumB, Bool.not_eq_true', Bool.not_eq_false', Bool.or_eq_true, Bool.or_eq_false_iff, Bool.and_eq_true, Bool.and_eq_false_imp, decide_eq_true_eq, decide_eq_false_iff_not, Bool.not_not, Bool.not_true, Bool.not_false] at hc5'
            refine AC.seq ?_
            refine AC.region ?_
            refine AL.val (Wanted.plain rfl) (g_build (ys := []) rfl bld75 rfl trivial rfl rfl) rfl rfl ?_
            refine AL.sto (h' := [(1, (.box 75 [(cI 0), (cI 0), (cI 0), (cI 0), (cI 0), (cI 0), (cI 0), (cB false)])), (0, (.box 75 [(cI a.card), (cI a.shop), (cI a.sum), (cI a.captured), (cI a.refunded), (cI a.disputed), (cI a.till), (cB a.shut)]))]) (Wanted.plain rfl) (g_storeB rfl rfl rfl rfl rfl sz75 rfl (Nat.le_of_ble_eq_true rfl) rfl) rfl rfl rfl rfl ?_
            refine AL.fast 1 rfl ?_
            refine AL.nil ?_
            refine then_ok ?_
            refine AC.ret ?_
            refine then_ret ?_
            have hX : moveAuth a kind n = ((⟨0, 0, 0, 0, 0, 0, 0, false⟩ : Auth), 3) := by
              (unfold moveAuth; rw [if_neg (by omega), if_neg (by omega), if_pos (by omega)]; rfl)
            rw [hX] at hr; clear hX
            simp only [Prod.mk.injEq] at hr; obtain ⟨rfl, rfl⟩ := hr
            refine retQ_mk (av' := outOf [(.g [(cI 0), (cI 0), (cI 0), (cI 0), (cI 0), (cI 0), (cI 0), (cB false)]), (.c (cI 3))]) (nb' := []) (retQ_ret ⟨[(6, (aC (.p 1 0 0 0))), (7, (aI 3))], [(1, (.box 75 [(cI 0), (cI 0), (cI 0), (cI 0), (cI 0), (cI 0), (cI 0), (cB false)]))], 2⟩ [.cell 6 75, .tmp 7] [(.g [(cI 0), (cI 0), (cI 0), (cI 0), (cI 0), (cI 0), (cI 0), (cB false)]), (.c (cI 3))] (Weak.ren id (⟨by first | rfl | (simp only [AV.map, GV.map, CV.map, AB.map', id]; done) | (congr 3; omega) | (congr 4; omega) | (simp only [List.length_append, List.length_cons, List.length_nil, List.length_set]; rfl), by first | rfl | (simp only [AV.map, GV.map, CV.map, AB.map', id]; done) | (congr 3; omega) | (congr 4; omega) | (simp only [List.length_append, List.length_cons, List.length_nil, List.length_set]; rfl),  trivial⟩) (⟨by first | rfl | (simp only [AV.map, GV.map, CV.map, AB.map', id]; done) | (congr 3; omega) | (congr 4; omega) | (simp only [List.length_append, List.length_cons, List.length_nil, List.length_set]; rfl),  trivial⟩) rfl) rfl ⟨.agg rfl rfl (fun _ => run_isAgg Try.underlying75) sz75, .tmp rfl, trivial⟩ trivial) ?_ ?_
            · first | rfl | (simp [outOf, aC]; done) | (simp [outOf, aC]; omega)
            · first | rfl | (simp; done) | (simp; omega)
          ·
            have hc5' := hc5; try simp only [sumB, Bool.not_eq_true', Bool.not_eq_false', Bool.or_eq_true, Bool.or_eq_false_iff, Bool.and_eq_true, Bool.and_eq_false_imp, decide_eq_true_eq, decide_eq_false_iff_not, Bool.not_not, Bool.not_true, Bool.not_false] at hc5'
            refine AC.skip ?_
            refine then_ok ?_
            refine AC.seq ?_
            refine AC.cutB 35 ((decide (kind ≤ 4)) && a.shut) ?_ ?_
            ·
              refine AC.region ?_
              refine AL.fast 1 rfl ?_
              refine AL.val (Wanted.plain rfl) (g_binI rfl rfl rfl rfl) rfl rfl ?_
              refine AL.fast 1 rfl ?_
              refine AL.dec (t := 32) rfl (fun hb6 => ?_) (fun hb6 => ?_)
              ·
                have hb6' := hb6; try simp only [sumB, Bool.not_eq_true', Bool.not_eq_false', Bool.or_eq_true, Bool.or_eq_false_iff, Bool.and_eq_true, Bool.and_eq_false_imp, decide_eq_true_eq, decide_eq_false_iff_not, Bool.not_not, Bool.not_true, Bool.not_false] at hb6'
                refine AL.val (Wanted.yes rfl rfl rfl) (g_fieldP rfl rfl Try.underlying75 rfl sz4 (by decide)) rfl rfl ?_
                refine AL.val (Wanted.yes rfl rfl rfl) (g_loadB rfl rfl rfl Try.underlying4 rfl rfl) rfl rfl ?_
                refine AL.fast 1 rfl ?_
                refine AL.nil ?_
                refine then_ok ?_
                exact Weak.popB 7 rfl rfl (by first | (simp [hb6]; done) | (simp_all; done) | (exfalso; simp_all; done) | (simp_all; omega)) rfl
              ·
                have hb6' := hb6; try simp only [sumB, Bool.not_eq_true', Bool.not_eq_false', Bool.or_eq_true, Bool.or_eq_false_iff, Bool.and_eq_true, Bool.and_eq_false_imp, decide_eq_true_eq, decide_eq_false_iff_not, Bool.not_not, Bool.not_true, Bool.not_false] at hb6'
                refine AL.fast 3 rfl ?_
                refine AL.nil ?_
                refine then_ok ?_
                exact Weak.popB 7 rfl rfl (by first | (simp [hb6]; done) | (simp_all; done) | (exfalso; simp_all; done) | (simp_all; omega)) rfl
            ·
              refine AC.cond rfl (fun hc7 => ?_) (fun hc7 => ?_)
              ·
                have hc7' := hc7; try simp only [sumB, Bool.not_eq_true', Bool.not_eq_false', Bool.or_eq_true, Bool.or_eq_false_iff, Bool.and_eq_true, Bool.and_eq_false_imp, decide_eq_true_eq, decide_eq_false_iff_not, Bool.not_not, Bool.not_true, Bool.not_false] at hc7'
                refine AC.seq ?_
                refine AC.region ?_
                refine AL.val (Wanted.plain rfl) (g_build (ys := []) rfl bld75 rfl trivial rfl rfl) rfl rfl ?_
                refine AL.sto (h' := [(1, (.box 75 [(cI 0), (cI 0), (cI 0), (cI 0), (cI 0), (cI 0), (cI 0), (cB false)])), (0, (.box 75 [(cI a.card), (cI a.shop), (cI a.sum), (cI a.captured), (cI a.refunded), (cI a.disputed), (cI a.till), (cB a.shut)]))]) (Wanted.plain rfl) (g_storeB rfl rfl rfl rfl rfl sz75 rfl (Nat.le_of_ble_eq_true rfl) rfl) rfl rfl rfl rfl ?_
                refine AL.fast 1 rfl ?_
                refine AL.nil ?_
                refine then_ok ?_
                refine AC.ret ?_
                refine then_ret ?_
                have hX : moveAuth a kind n = ((⟨0, 0, 0, 0, 0, 0, 0, false⟩ : Auth), 9) := by
                  (obtain ⟨k4, ks⟩ := hc7'; exact mvS (hr0.trans (by omega)) (by omega) (by omega) (by omega) k4 ks)
                rw [hX] at hr; clear hX
                simp only [Prod.mk.injEq] at hr; obtain ⟨rfl, rfl⟩ := hr
                refine retQ_mk (av' := outOf [(.g [(cI 0), (cI 0), (cI 0), (cI 0), (cI 0), (cI 0), (cI 0), (cB false)]), (.c (cI 9))]) (nb' := []) (retQ_ret ⟨[(6, (aC (.p 1 0 0 0))), (7, (aI 9))], [(1, (.box 75 [(cI 0), (cI 0), (cI 0), (cI 0), (cI 0), (cI 0), (cI 0), (cB false)]))], 2⟩ [.cell 6 75, .tmp 7] [(.g [(cI 0), (cI 0), (cI 0), (cI 0), (cI 0), (cI 0), (cI 0), (cB false)]), (.c (cI 9))] (Weak.ren id (⟨by first | rfl | (simp only [AV.map, GV.map, CV.map, AB.map', id]; done) | (congr 3; omega) | (congr 4; omega) | (simp only [List.length_append, List.length_cons, List.length_nil, List.length_set]; rfl), by first | rfl | (simp only [AV.map, GV.map, CV.map, AB.map', id]; done) | (congr 3; omega) | (congr 4; omega) | (simp only [List.length_append, List.length_cons, List.length_nil, List.length_set]; rfl),  trivial⟩) (⟨by first | rfl | (simp only [AV.map, GV.map, CV.map, AB.map', id]; done) | (congr 3; omega) | (congr 4; omega) | (simp only [List.length_append, List.length_cons, List.length_nil, List.length_set]; rfl),  trivial⟩) rfl) rfl ⟨.agg rfl rfl (fun _ => run_isAgg Try.underlying75) sz75, .tmp rfl, trivial⟩ trivial) ?_ ?_
                · first | rfl | (simp [outOf, aC]; done) | (simp [outOf, aC]; omega)
                · first | rfl | (simp; done) | (simp; omega)
              ·
                have hc7' := hc7; try simp only [sumB, Bool.not_eq_true', Bool.not_eq_false', Bool.or_eq_true, Bool.or_eq_false_iff, Bool.and_eq_true, Bool.and_eq_false_imp, decide_eq_true_eq, decide_eq_false_iff_not, Bool.not_not, Bool.not_true, Bool.not_false] at hc7'
                refine AC.skip ?_
                refine then_ok ?_
                refine AC.seq ?_
                refine AC.region ?_
                refine AL.new (n' := 3) (Wanted.plain rfl) (g_makeMap 2 rfl) rfl rfl rfl ?_
                refine AL.val (Wanted.plain rfl) (g_fieldP rfl rfl Try.underlying75 rfl sz3 (by decide)) rfl rfl ?_
                refine AL.val (Wanted.plain rfl) (g_loadB rfl rfl rfl Try.underlying3 rfl rfl) rfl rfl ?_
                refine AL.val (Wanted.plain rfl) (g_binI rfl rfl rfl (wrap_ok (by first | omega | (simp; done) | (simp; omega) | (have hq := rightAuth (hr0.trans (by omega)); omega)))) rfl rfl ?_
                refine AL.sto (h' := [(2, (.map (mV [(1, 1000000 - a.sum)]) 1)), (1, (.box 75 [(cI 0), (cI 0), (cI 0), (cI 0), (cI 0), (cI 0), (cI 0), (cB false)])), (0, (.box 75 [(cI a.card), (cI a.shop), (cI a.sum), (cI a.captured), (cI a.refunded), (cI a.disputed), (cI a.till), (cB a.shut)]))]) (Wanted.plain rfl) (g_insert (ps' := [(1, 1000000 - a.sum)]) Try.underlying144 Try.underlying3 rfl rfl rfl rfl rfl rfl rfl) rfl rfl rfl rfl ?_
                refine AL.val (Wanted.plain rfl) (g_fieldP rfl rfl Try.underlying75 rfl sz3 (by decide)) rfl rfl ?_
                refine AL.val (Wanted.plain rfl) (g_loadB rfl rfl rfl Try.underlying3 rfl rfl) rfl rfl ?_
                refine AL.val (Wanted.plain rfl) (g_fieldP rfl rfl Try.underlying75 rfl sz3 (by decide)) rfl rfl ?_
                refine AL.val (Wanted.plain rfl) (g_loadB rfl rfl rfl Try.underlying3 rfl rfl) rfl rfl ?_
                refine AL.val (Wanted.plain rfl) (g_binI rfl rfl rfl (wrap_ok (by first | omega | (simp; done) | (simp; omega) | (have hq := rightAuth (hr0.trans (by omega)); omega)))) rfl rfl ?_
                refine AL.sto (h' := [(2, (.map (mV [(1, 1000000 - a.sum), (2, a.sum - a.captured)]) 2)), (1, (.box 75 [(cI 0), (cI 0), (cI 0), (cI 0), (cI 0), (cI 0), (cI 0), (cB false)])), (0, (.box 75 [(cI a.card), (cI a.shop), (cI a.sum), (cI a.captured), (cI a.refunded), (cI a.disputed), (cI a.till), (cB a.shut)]))]) (Wanted.plain rfl) (g_insert (ps' := [(1, 1000000 - a.sum), (2, a.sum - a.captured)]) Try.underlying144 Try.underlying3 rfl rfl rfl rfl rfl rfl rfl) rfl rfl rfl rfl ?_
                refine AL.val (Wanted.plain rfl) (g_fieldP rfl rfl Try.underlying75 rfl sz3 (by decide)) rfl rfl ?_
                refine AL.val (Wanted.plain rfl) (g_loadB rfl rfl rfl Try.underlying3 rfl rfl) rfl rfl ?_
                refine AL.val (Wanted.plain rfl) (g_fieldP rfl rfl Try.underlying75 rfl sz3 (by decide)) rfl rfl ?_
                refine AL.val (Wanted.plain rfl) (g_loadB rfl rfl rfl Try.underlying3 rfl rfl) rfl rfl ?_
                refine AL.val (Wanted.plain rfl) (g_binI rfl rfl rfl (wrap_ok (by first | omega | (simp; done) | (simp; omega) | (have hq := rightAuth (hr0.trans (by omega)); omega)))) rfl rfl ?_
                refine AL.sto (h' := [(2, (.map (mV [(1, 1000000 - a.sum), (2, a.sum - a.captured), (3, a.sum - a.captured)]) 3)), (1, (.box 75 [(cI 0), (cI 0), (cI 0), (cI 0), (cI 0), (cI 0), (cI 0), (cB false)])), (0, (.box 75 [(cI a.card), (cI a.shop), (cI a.sum), (cI a.captured), (cI a.refunded), (cI a.disputed), (cI a.till), (cB a.shut)]))]) (Wanted.plain rfl) (g_insert (ps' := [(1, 1000000 - a.sum), (2, a.sum - a.captured), (3, a.sum - a.captured)]) Try.underlying144 Try.underlying3 rfl rfl rfl rfl rfl rfl rfl) rfl rfl rfl rfl ?_
                refine AL.val (Wanted.plain rfl) (g_fieldP rfl rfl Try.underlying75 rfl sz3 (by decide)) rfl rfl ?_
                refine AL.val (Wanted.plain rfl) (g_loadB rfl rfl rfl Try.underlying3 rfl rfl) rfl rfl ?_
                refine AL.val (Wanted.plain rfl) (g_fieldP rfl rfl Try.underlying75 rfl sz3 (by decide)) rfl rfl ?_
                refine AL.val (Wanted.plain rfl) (g_loadB rfl rfl rfl Try.underlying3 rfl rfl) rfl rfl ?_
                refine AL.val (Wanted.plain rfl) (g_binI rfl rfl rfl (wrap_ok (by first | omega | (simp; done) | (simp; omega) | (have hq := rightAuth (hr0.trans (by omega)); omega)))) rfl rfl ?_
                refine AL.sto (h' := [(2, (.map (mV [(1, 1000000 - a.sum), (2, a.sum - a.captured), (3, a.sum - a.captured), (4, a.sum - a.captured)]) 4)), (1, (.box 75 [(cI 0), (cI 0), (cI 0), (cI 0), (cI 0), (cI 0), (cI 0), (cB false)])), (0, (.box 75 [(cI a.card), (cI a.shop), (cI a.sum), (cI a.captured), (cI a.refunded), (cI a.disputed), (cI a.till), (cB a.shut)]))]) (Wanted.plain rfl) (g_insert (ps' := [(1, 1000000 - a.sum), (2, a.sum - a.captured), (3, a.sum - a.captured), (4, a.sum - a.captured)]) Try.underlying144 Try.underlying3 rfl rfl rfl rfl rfl rfl rfl) rfl rfl rfl rfl ?_
                refine AL.val (Wanted.plain rfl) (g_fieldP rfl rfl Try.underlying75 rfl sz3 (by decide)) rfl rfl ?_
                refine AL.val (Wanted.plain rfl) (g_loadB rfl rfl rfl Try.underlying3 rfl rfl) rfl rfl ?_
                refine AL.val (Wanted.plain rfl) (g_fieldP rfl rfl Try.underlying75 rfl sz3 (by decide)) rfl rfl ?_
                refine AL.val (Wanted.plain rfl) (g_loadB rfl rfl rfl Try.underlying3 rfl rfl) rfl rfl ?_
                refine AL.val (Wanted.plain rfl) (g_binI rfl rfl rfl (wrap_ok (by first | omega | (simp; done) | (simp; omega) | (have hq := rightAuth (hr0.trans (by omega)); omega)))) rfl rfl ?_
                refine AL.val (Wanted.plain rfl) (g_fieldP rfl rfl Try.underlying75 rfl sz3 (by decide)) rfl rfl ?_
                refine AL.val (Wanted.plain rfl) (g_loadB rfl rfl rfl Try.underlying3 rfl rfl) rfl rfl ?_
                refine AL.val (Wanted.plain rfl) (g_binI rfl rfl rfl (wrap_ok (by first | omega | (simp; done) | (simp; omega) | (have hq := rightAuth (hr0.trans (by omega)); omega)))) rfl rfl ?_
                refine AL.sto (h' := [(2, (.map (mV [(1, 1000000 - a.sum), (2, a.sum - a.captured), (3, a.sum - a.captured), (4, a.sum - a.captured), (5, (a.captured - a.refunded) - a.disputed)]) 5)), (1, (.box 75 [(cI 0), (cI 0), (cI 0), (cI 0), (cI 0), (cI 0), (cI 0), (cB false)])), (0, (.box 75 [(cI a.card), (cI a.shop), (cI a.sum), (cI a.captured), (cI a.refunded), (cI a.disputed), (cI a.till), (cB a.shut)]))]) (Wanted.plain rfl) (g_insert (ps' := [(1, 1000000 - a.sum), (2, a.sum - a.captured), (3, a.sum - a.captured), (4, a.sum - a.captured), (5, (a.captured - a.refunded) - a.disputed)]) Try.underlying144 Try.underlying3 rfl rfl rfl rfl rfl rfl rfl) rfl rfl rfl rfl ?_
                refine AL.val (Wanted.plain rfl) (g_fieldP rfl rfl Try.underlying75 rfl sz3 (by decide)) rfl rfl ?_
                refine AL.val (Wanted.plain rfl) (g_loadB rfl rfl rfl Try.underlying3 rfl rfl) rfl rfl ?_
                refine AL.val (Wanted.plain rfl) (g_fieldP rfl rfl Try.underlying75 rfl sz3 (by decide)) rfl rfl ?_
                refine AL.val (Wanted.plain rfl) (g_loadB rfl rfl rfl Try.underlying3 rfl rfl) rfl rfl ?_
                refine AL.val (Wanted.plain rfl) (g_binI rfl rfl rfl (wrap_ok (by first | omega | (simp; done) | (simp; omega) | (have hq := rightAuth (hr0.trans (by omega)); omega)))) rfl rfl ?_
                refine AL.val (Wanted.plain rfl) (g_fieldP rfl rfl Try.underlying75 rfl sz3 (by decide)) rfl rfl ?_
                refine AL.val (Wanted.plain rfl) (g_loadB rfl rfl rfl Try.underlying3 rfl rfl) rfl rfl ?_
                refine AL.val (Wanted.plain rfl) (g_binI rfl rfl rfl (wrap_ok (by first | omega | (simp; done) | (simp; omega) | (have hq := rightAuth (hr0.trans (by omega)); omega)))) rfl rfl ?_
                refine AL.sto (h' := [(2, (.map (mV [(1, 1000000 - a.sum), (2, a.sum - a.captured), (3, a.sum - a.captured), (4, a.sum - a.captured), (5, (a.captured - a.refunded) - a.disputed), (6, (a.captured - a.refunded) - a.disputed)]) 6)), (1, (.box 75 [(cI 0), (cI 0), (cI 0), (cI 0), (cI 0), (cI 0), (cI 0), (cB false)])), (0, (.box 75 [(cI a.card), (cI a.shop), (cI a.sum), (cI a.captured), (cI a.refunded), (cI a.disputed), (cI a.till), (cB a.shut)]))]) (Wanted.plain rfl) (g_insert (ps' := [(1, 1000000 - a.sum), (2, a.sum - a.captured), (3, a.sum - a.captured), (4, a.sum - a.captured), (5, (a.captured - a.refunded) - a.disputed), (6, (a.captured - a.refunded) - a.disputed)]) Try.underlying144 Try.underlying3 rfl rfl rfl rfl rfl rfl rfl) rfl rfl rfl rfl ?_
                refine AL.val (Wanted.plain rfl) (g_fieldP rfl rfl Try.underlying75 rfl sz3 (by decide)) rfl rfl ?_
                refine AL.val (Wanted.plain rfl) (g_loadB rfl rfl rfl Try.underlying3 rfl rfl) rfl rfl ?_
                refine AL.sto (h' := [(2, (.map (mV [(1, 1000000 - a.sum), (2, a.sum - a.captured), (3, a.sum - a.captured), (4, a.sum - a.captured), (5, (a.captured - a.refunded) - a.disputed), (6, (a.captured - a.refunded) - a.disputed), (7, a.disputed)]) 7)), (1, (.box 75 [(cI 0), (cI 0), (cI 0), (cI 0), (cI 0), (cI 0), (cI 0), (cB false)])), (0, (.box 75 [(cI a.card), (cI a.shop), (cI a.sum), (cI a.captured), (cI a.refunded), (cI a.disputed), (cI a.till), (cB a.shut)]))]) (Wanted.plain rfl) (g_insert (ps' := [(1, 1000000 - a.sum), (2, a.sum - a.captured), (3, a.sum - a.captured), (4, a.sum - a.captured), (5, (a.captured - a.refunded) - a.disputed), (6, (a.captured - a.refunded) - a.disputed), (7, a.disputed)]) Try.underlying144 Try.underlying3 rfl rfl rfl rfl rfl rfl rfl) rfl rfl rfl rfl ?_
                refine AL.val (Wanted.plain rfl) (g_fieldP rfl rfl Try.underlying75 rfl sz3 (by decide)) rfl rfl ?_
                refine AL.val (Wanted.plain rfl) (g_loadB rfl rfl rfl Try.underlying3 rfl rfl) rfl rfl ?_
                refine AL.sto (h' := [(2, (.map (mV [(1, 1000000 - a.sum), (2, a.sum - a.captured), (3, a.sum - a.captured), (4, a.sum - a.captured), (5, (a.captured - a.refunded) - a.disputed), (6, (a.captured - a.refunded) - a.disputed), (7, a.disputed), (8, a.disputed)]) 8)), (1, (.box 75 [(cI 0), (cI 0), (cI 0), (cI 0), (cI 0), (cI 0), (cI 0), (cB false)])), (0, (.box 75 [(cI a.card), (cI a.shop), (cI a.sum), (cI a.captured), (cI a.refunded), (cI a.disputed), (cI a.till), (cB a.shut)]))]) (Wanted.plain rfl) (g_insert (ps' := [(1, 1000000 - a.sum), (2, a.sum - a.captured), (3, a.sum - a.captured), (4, a.sum - a.captured), (5, (a.captured - a.refunded) - a.disputed), (6, (a.captured - a.refunded) - a.disputed), (7, a.disputed), (8, a.disputed)]) Try.underlying144 Try.underlying3 rfl rfl rfl rfl rfl rfl rfl) rfl rfl rfl rfl ?_
                refine AL.fast 2 rfl ?_
                refine AL.val (Wanted.plain rfl) (g_lookup (ps := [(1, 1000000 - a.sum), (2, a.sum - a.captured), (3, a.sum - a.captured), (4, a.sum - a.captured), (5, (a.captured - a.refunded) - a.disputed), (6, (a.captured - a.refunded) - a.disputed), (7, a.disputed), (8, a.disputed)]) Try.underlying144 Try.underlying3 zv3 rfl rfl rfl rfl) rfl rfl ?_
                refine AL.fast 1 rfl ?_
                refine AL.nil ?_
                refine then_ok ?_
                refine AC.seq ?_
                refine AC.seq ?_
                refine AC.region ?_
                refine AL.fast 2 rfl ?_
                refine AL.val (Wanted.plain rfl) (g_binI rfl rfl rfl rfl) rfl rfl ?_
                refine AL.nil ?_
                refine then_ok ?_
                refine AC.cond rfl (fun hc8 => ?_) (fun hc8 => ?_)
                ·
                  have hc8' := hc8; try simp only [sumB, Bool.not_eq_true', Bool.not_eq_false', Bool.or_eq_true, Bool.or_eq_false_iff, Bool.and_eq_true, Bool.and_eq_false_imp, decide_eq_true_eq, decide_eq_false_iff_not, Bool.not_not, Bool.not_true, Bool.not_false] at hc8'
                  refine AC.seq ?_
                  refine AC.seq ?_
                  refine AC.region ?_
                  refine AL.fast 1 rfl ?_
                  refine AL.val (Wanted.plain rfl) (g_binI rfl rfl rfl rfl) rfl rfl ?_
                  refine AL.nil ?_
                  refine then_ok ?_
                  refine AC.cond rfl (fun hc9 => ?_) (fun hc9 => ?_)
                  ·
                    have hc9' := hc9; try simp only [sumB, Bool.not_eq_true', Bool.not_eq_false', Bool.or_eq_true, Bool.or_eq_false_iff, Bool.and_eq_true, Bool.and_eq_false_imp, decide_eq_true_eq, decide_eq_false_iff_not, Bool.not_not, Bool.not_true, Bool.not_false] at hc9'
                    refine AC.seq ?_
                    refine AC.region ?_
                    refine AL.val (Wanted.plain rfl) (g_build (ys := []) rfl bld75 rfl trivial rfl rfl) rfl rfl ?_
                    refine AL.sto (h' := [(2, (.map (mV [(1, 1000000 - a.sum), (2, a.sum - a.captured), (3, a.sum - a.captured), (4, a.sum - a.captured), (5, (a.captured - a.refunded) - a.disputed), (6, (a.captured - a.refunded) - a.disputed), (7, a.disputed), (8, a.disputed)]) 8)), (1, (.box 75 [(cI 0), (cI 0), (cI 0), (cI 0), (cI 0), (cI 0), (cI 0), (cB false)])), (0, (.box 75 [(cI a.card), (cI a.shop), (cI a.sum), (cI a.captured), (cI a.refunded), (cI a.disputed), (cI a.till), (cB a.shut)]))]) (Wanted.plain rfl) (g_storeB rfl rfl rfl rfl rfl sz75 rfl (Nat.le_of_ble_eq_true rfl) rfl) rfl rfl rfl rfl ?_
                    refine AL.fast 1 rfl ?_
                    refine AL.nil ?_
                    refine then_ok ?_
                    refine AC.ret ?_
                    refine then_ret ?_
                    refine then_ret ?_
                    have hX : moveAuth a kind n = ((⟨0, 0, 0, 0, 0, 0, 0, false⟩ : Auth), 4) := by
                      (have hq := rightAuth (hr0.trans (by omega)); have hk : kind = 1 ∨ kind = 2 ∨ kind = 3 ∨ kind = 4 ∨ kind = 5 ∨ kind = 6 ∨ kind = 7 ∨ kind = 8 := by omega); (rcases hk with rfl | rfl | rfl | rfl | rfl | rfl | rfl | rfl)
                      · first | (exfalso; omega) | (simp [mlook] at hc8'; have hs : a.shut = false := hc7' (by omega); rw [mv1 (hr0.trans (by omega)) (by omega) (by omega) hs]; first | (rw [if_pos (by omega)] <;> first | rfl | (rw [hs]; rfl)) | (rw [if_neg (by omega)] <;> first | rfl | (refine Prod.ext (auth_ext rfl rfl rfl rfl rfl rfl rfl ?_) rfl; first | (simp_all; done) | (simp_all; omega))))
                      · first | (exfalso; omega) | (simp [mlook] at hc8'; have hs : a.shut = false := hc7' (by omega); rw [mv2 (hr0.trans (by omega)) (by omega) (by omega) hs]; first | (rw [if_pos (by omega)] <;> first | rfl | (rw [hs]; rfl)) | (rw [if_neg (by omega)] <;> first | rfl | (refine Prod.ext (auth_ext rfl rfl rfl rfl rfl rfl rfl ?_) rfl; first | (simp_all; done) | (simp_all; omega))))
                      · first | (exfalso; omega) | (simp [mlook] at hc8'; have hs : a.shut = false := hc7' (by omega); rw [mv3 (hr0.trans (by omega)) (by omega) (by omega) hs]; first | (rw [if_pos (by omega)] <;> first | rfl | (rw [hs]; rfl)) | (rw [if_neg (by omega)] <;> first | rfl | (refine Prod.ext (auth_ext rfl rfl rfl rfl rfl rfl rfl ?_) rfl; first | (simp_all; done) | (simp_all; omega))))
                      · first | (exfalso; omega) | (simp [mlook] at hc8'; have hs : a.shut = false := hc7' (by omega); rw [mv4 (hr0.trans (by omega)) (by omega) (by omega) hs]; first | (rw [if_pos (by omega)] <;> first | rfl | (rw [hs]; rfl)) | (rw [if_neg (by omega)] <;> first | rfl | (refine Prod.ext (auth_ext rfl rfl rfl rfl rfl rfl rfl ?_) rfl; first | (simp_all; done) | (simp_all; omega))))
                      · first | (exfalso; omega) | (simp [mlook] at hc8'; rw [mv5 (hr0.trans (by omega)) (by omega) (by omega)]; first | (rw [if_pos (by omega)] <;> first | rfl | (rw [hs]; rfl)) | (rw [if_neg (by omega)] <;> first | rfl | (refine Prod.ext (auth_ext rfl rfl rfl rfl rfl rfl rfl ?_) rfl; first | (simp_all; done) | (simp_all; omega))))
                      · first | (exfalso; omega) | (simp [mlook] at hc8'; rw [mv6 (hr0.trans (by omega)) (by omega) (by omega)]; first | (rw [if_pos (by omega)] <;> first | rfl | (rw [hs]; rfl)) | (rw [if_neg (by omega)] <;> first | rfl | (refine Prod.ext (auth_ext rfl rfl rfl rfl rfl rfl rfl ?_) rfl; first | (simp_all; done) | (simp_all; omega))))
                      · first | (exfalso; omega) | (simp [mlook] at hc8'; rw [mv7 (hr0.trans (by omega)) (by omega) (by omega)]; first | (rw [if_pos (by omega)] <;> first | rfl | (rw [hs]; rfl)) | (rw [if_neg (by omega)] <;> first | rfl | (refine Prod.ext (auth_ext rfl rfl rfl rfl rfl rfl rfl ?_) rfl; first | (simp_all; done) | (simp_all; omega))))
                      · first | (exfalso; omega) | (simp [mlook] at hc8'; rw [mv8 (hr0.trans (by omega)) (by omega) (by omega)]; first | (rw [if_pos (by omega)] <;> first | rfl | (rw [hs]; rfl)) | (rw [if_neg (by omega)] <;> first | rfl | (refine Prod.ext (auth_ext rfl rfl rfl rfl rfl rfl rfl ?_) rfl; first | (simp_all; done) | (simp_all; omega))))
                    rw [hX] at hr; clear hX
                    simp only [Prod.mk.injEq] at hr; obtain ⟨rfl, rfl⟩ := hr
                    refine retQ_mk (av' := outOf [(.g [(cI 0), (cI 0), (cI 0), (cI 0), (cI 0), (cI 0), (cI 0), (cB false)]), (.c (cI 4))]) (nb' := []) (retQ_ret ⟨[(6, (aC (.p 1 0 0 0))), (7, (aI 4))], [(1, (.box 75 [(cI 0), (cI 0), (cI 0), (cI 0), (cI 0), (cI 0), (cI 0), (cB false)]))], 2⟩ [.cell 6 75, .tmp 7] [(.g [(cI 0), (cI 0), (cI 0), (cI 0), (cI 0), (cI 0), (cI 0), (cB false)]), (.c (cI 4))] (Weak.ren id (⟨by first | rfl | (simp only [AV.map, GV.map, CV.map, AB.map', id]; done) | (congr 3; omega) | (congr 4; omega) | (simp only [List.length_append, List.length_cons, List.length_nil, List.length_set]; rfl), by first | rfl | (simp only [AV.map, GV.map, CV.map, AB.map', id]; done) | (congr 3; omega) | (congr 4; omega) | (simp only [List.length_append, List.length_cons, List.length_nil, List.length_set]; rfl),  trivial⟩) (⟨by first | rfl | (simp only [AV.map, GV.map, CV.map, AB.map', id]; done) | (congr 3; omega) | (congr 4; omega) | (simp only [List.length_append, List.length_cons, List.length_nil, List.length_set]; rfl),  trivial⟩) rfl) rfl ⟨.agg rfl rfl (fun _ => run_isAgg Try.underlying75) sz75, .tmp rfl, trivial⟩ trivial) ?_ ?_
                    · first | rfl | (simp [outOf, aC]; done) | (simp [outOf, aC]; omega)
                    · first | rfl | (simp; done) | (simp; omega)
                  ·
                    have hc9' := hc9; try simp only [sumB, Bool.not_eq_true', Bool.not_eq_false', Bool.or_eq_true, Bool.or_eq_false_iff, Bool.and_eq_true, Bool.and_eq_false_imp, decide_eq_true_eq, decide_eq_false_iff_not, Bool.not_not, Bool.not_true, Bool.not_false] at hc9'
                    refine AC.skip ?_
                    refine then_ok ?_
                    refine AC.seq ?_
                    refine AC.region ?_
                    refine AL.val (Wanted.plain rfl) (g_build (ys := []) rfl bld75 rfl trivial rfl rfl) rfl rfl ?_
                    refine AL.sto (h' := [(2, (.map (mV [(1, 1000000 - a.sum), (2, a.sum - a.captured), (3, a.sum - a.captured), (4, a.sum - a.captured), (5, (a.captured - a.refunded) - a.disputed), (6, (a.captured - a.refunded) - a.disputed), (7, a.disputed), (8, a.disputed)]) 8)), (1, (.box 75 [(cI 0), (cI 0), (cI 0), (cI 0), (cI 0), (cI 0), (cI 0), (cB false)])), (0, (.box 75 [(cI a.card), (cI a.shop), (cI a.sum), (cI a.captured), (cI a.refunded), (cI a.disputed), (cI a.till), (cB a.shut)]))]) (Wanted.plain rfl) (g_storeB rfl rfl rfl rfl rfl sz75 rfl (Nat.le_of_ble_eq_true rfl) rfl) rfl rfl rfl rfl ?_
                    refine AL.fast 1 rfl ?_
                    refine AL.nil ?_
                    refine then_ok ?_
                    refine AC.ret ?_
                    refine then_ret ?_
                    have hX : moveAuth a kind n = ((⟨0, 0, 0, 0, 0, 0, 0, false⟩ : Auth), 10) := by
                      (have hq := rightAuth (hr0.trans (by omega)); have hk : kind = 1 ∨ kind = 2 ∨ kind = 3 ∨ kind = 4 ∨ kind = 5 ∨ kind = 6 ∨ kind = 7 ∨ kind = 8 := by omega); (rcases hk with rfl | rfl | rfl | rfl | rfl | rfl | rfl | rfl)
                      · first | (exfalso; omega) | (simp [mlook] at hc8'; have hs : a.shut = false := hc7' (by omega); rw [mv1 (hr0.trans (by omega)) (by omega) (by omega) hs]; first | (rw [if_pos (by omega)] <;> first | rfl | (rw [hs]; rfl)) | (rw [if_neg (by omega)] <;> first | rfl | (refine Prod.ext (auth_ext rfl rfl rfl rfl rfl rfl rfl ?_) rfl; first | (simp_all; done) | (simp_all; omega))))
                      · first | (exfalso; omega) | (simp [mlook] at hc8'; have hs : a.shut = false := hc7' (by omega); rw [mv2 (hr0.trans (by omega)) (by omega) (by omega) hs]; first | (rw [if_pos (by omega)] <;> first | rfl | (rw [hs]; rfl)) | (rw [if_neg (by omega)] <;> first | rfl | (refine Prod.ext (auth_ext rfl rfl rfl rfl rfl rfl rfl ?_) rfl; first | (simp_all; done) | (simp_all; omega))))
                      · first | (exfalso; omega) | (simp [mlook] at hc8'; have hs : a.shut = false := hc7' (by omega); rw [mv3 (hr0.trans (by omega)) (by omega) (by omega) hs]; first | (rw [if_pos (by omega)] <;> first | rfl | (rw [hs]; rfl)) | (rw [if_neg (by omega)] <;> first | rfl | (refine Prod.ext (auth_ext rfl rfl rfl rfl rfl rfl rfl ?_) rfl; first | (simp_all; done) | (simp_all; omega))))
                      · first | (exfalso; omega) | (simp [mlook] at hc8'; have hs : a.shut = false := hc7' (by omega); rw [mv4 (hr0.trans (by omega)) (by omega) (by omega) hs]; first | (rw [if_pos (by omega)] <;> first | rfl | (rw [hs]; rfl)) | (rw [if_neg (by omega)] <;> first | rfl | (refine Prod.ext (auth_ext rfl rfl rfl rfl rfl rfl rfl ?_) rfl; first | (simp_all; done) | (simp_all; omega))))
                      · first | (exfalso; omega) | (simp [mlook] at hc8'; rw [mv5 (hr0.trans (by omega)) (by omega) (by omega)]; first | (rw [if_pos (by omega)] <;> first | rfl | (rw [hs]; rfl)) | (rw [if_neg (by omega)] <;> first | rfl | (refine Prod.ext (auth_ext rfl rfl rfl rfl rfl rfl rfl ?_) rfl; first | (simp_all; done) | (simp_all; omega))))
                      · first | (exfalso; omega) | (simp [mlook] at hc8'; rw [mv6 (hr0.trans (by omega)) (by omega) (by omega)]; first | (rw [if_pos (by omega)] <;> first | rfl | (rw [hs]; rfl)) | (rw [if_neg (by omega)] <;> first | rfl | (refine Prod.ext (auth_ext rfl rfl rfl rfl rfl rfl rfl ?_) rfl; first | (simp_all; done) | (simp_all; omega))))
                      · first | (exfalso; omega) | (simp [mlook] at hc8'; rw [mv7 (hr0.trans (by omega)) (by omega) (by omega)]; first | (rw [if_pos (by omega)] <;> first | rfl | (rw [hs]; rfl)) | (rw [if_neg (by omega)] <;> first | rfl | (refine Prod.ext (auth_ext rfl rfl rfl rfl rfl rfl rfl ?_) rfl; first | (simp_all; done) | (simp_all; omega))))
                      · first | (exfalso; omega) | (simp [mlook] at hc8'; rw [mv8 (hr0.trans (by omega)) (by omega) (by omega)]; first | (rw [if_pos (by omega)] <;> first | rfl | (rw [hs]; rfl)) | (rw [if_neg (by omega)] <;> first | rfl | (refine Prod.ext (auth_ext rfl rfl rfl rfl rfl rfl rfl ?_) rfl; first | (simp_all; done) | (simp_all; omega))))
                    rw [hX] at hr; clear hX
                    simp only [Prod.mk.injEq] at hr; obtain ⟨rfl, rfl⟩ := hr
                    refine retQ_mk (av' := outOf [(.g [(cI 0), (cI 0), (cI 0), (cI 0), (cI 0), (cI 0), (cI 0), (cB false)]), (.c (cI 10))]) (nb' := []) (retQ_ret ⟨[(6, (aC (.p 1 0 0 0))), (7, (aI 10))], [(1, (.box 75 [(cI 0), (cI 0), (cI 0), (cI 0), (cI 0), (cI 0), (cI 0), (cB false)]))], 2⟩ [.cell 6 75, .tmp 7] [(.g [(cI 0), (cI 0), (cI 0), (cI 0), (cI 0), (cI 0), (cI 0), (cB false)]), (.c (cI 10))] (Weak.ren id (⟨by first | rfl | (simp only [AV.map, GV.map, CV.map, AB.map', id]; done) | (congr 3; omega) | (congr 4; omega) | (simp only [List.length_append, List.length_cons, List.length_nil, List.length_set]; rfl), by first | rfl | (simp only [AV.map, GV.map, CV.map, AB.map', id]; done) | (congr 3; omega) | (congr 4; omega) | (simp only [List.length_append, List.length_cons, List.length_nil, List.length_set]; rfl),  trivial⟩) (⟨by first | rfl | (simp only [AV.map, GV.map, CV.map, AB.map', id]; done) | (congr 3; omega) | (congr 4; omega) | (simp only [List.length_append, List.length_cons, List.length_nil, List.length_set]; rfl),  trivial⟩) rfl) rfl ⟨.agg rfl rfl (fun _ => run_isAgg Try.underlying75) sz75, .tmp rfl, trivial⟩ trivial) ?_ ?_
                    · first | rfl | (simp [outOf, aC]; done) | (simp [outOf, aC]; omega)
                    · first | rfl | (simp; done) | (simp; omega)
                ·
                  have hc8' := hc8; try simp only [sumB, Bool.not_eq_true', Bool.not_eq_false', Bool.or_eq_true, Bool.or_eq_false_iff, Bool.and_eq_true, Bool.and_eq_false_imp, decide_eq_true_eq, decide_eq_false_iff_not, Bool.not_not, Bool.not_true, Bool.not_false] at hc8'
                  refine AC.skip ?_
                  refine then_ok ?_
                  refine AC.seq ?_
                  refine AC.seq ?_
                  refine AC.region ?_
                  refine AL.fast 1 rfl ?_
                  refine AL.nil ?_
                  refine then_ok ?_
                  refine AC.block ?_
                  refine AC.seq ?_
                  refine AC.region ?_
                  refine AL.val (Wanted.plain rfl) (g_binI rfl rfl rfl rfl) rfl rfl ?_
                  refine AL.fast 1 rfl ?_
                  refine AL.nil ?_
                  refine then_ok ?_
                  refine AC.cond rfl (fun hc10 => ?_) (fun hc10 => ?_)
                  ·
                    have hc10' := hc10; try simp only [sumB, Bool.not_eq_true', Bool.not_eq_false', Bool.or_eq_true, Bool.or_eq_false_iff, Bool.and_eq_true, Bool.and_eq_false_imp, decide_eq_true_eq, decide_eq_false_iff_not, Bool.not_not, Bool.not_true, Bool.not_false] at hc10'
                    refine AC.region ?_
                    refine AL.val (Wanted.plain rfl) (g_fieldP rfl rfl Try.underlying75 rfl sz3 (by decide)) rfl rfl ?_
                    refine AL.val (Wanted.plain rfl) (g_loadB rfl rfl rfl Try.underlying3 rfl rfl) rfl rfl ?_
                    refine AL.fast 1 rfl ?_
                    refine AL.val (Wanted.plain rfl) (g_binI rfl rfl rfl (wrap_ok (by first | omega | (simp; done) | (simp; omega) | (have hq := rightAuth (hr0.trans (by omega)); omega)))) rfl rfl ?_
                    refine AL.val (Wanted.plain rfl) (g_fieldP rfl rfl Try.underlying75 rfl sz3 (by decide)) rfl rfl ?_
                    refine AL.sto (h' := [(2, (.map (mV [(1, 1000000 - a.sum), (2, a.sum - a.captured), (3, a.sum - a.captured), (4, a.sum - a.captured), (5, (a.captured - a.refunded) - a.disputed), (6, (a.captured - a.refunded) - a.disputed), (7, a.disputed), (8, a.disputed)]) 8)), (1, (.box 75 [(cI 0), (cI 0), (cI 0), (cI 0), (cI 0), (cI 0), (cI 0), (cB false)])), (0, (.box 75 [(cI a.card), (cI a.shop), (cI (a.sum + n)), (cI a.captured), (cI a.refunded), (cI a.disputed), (cI a.till), (cB a.shut)]))]) (Wanted.plain rfl) (g_storeB rfl rfl rfl rfl rfl sz3 rfl (Nat.le_of_ble_eq_true rfl) rfl) rfl rfl rfl rfl ?_
                    refine AL.nil ?_
                    refine block_ok ?_
                    refine then_ok ?_
                    refine AC.seq ?_
                    refine AC.cutB 158 ((decide (kind = 3)) || (((decide (kind = 2)) || (decide (kind = 4))) && (decide ((a.sum + n) = a.captured)))) ?_ ?_
                    ·
                      refine AC.region ?_
                      refine AL.fast 1 rfl ?_
                      refine AL.val (Wanted.plain rfl) (g_binI rfl rfl rfl rfl) rfl rfl ?_
                      refine AL.fast 1 rfl ?_
                      refine AL.dec (t := 144) rfl (fun hb11 => ?_) (fun hb11 => ?_)
                      ·
                        have hb11' := hb11; try simp only [sumB, Bool.not_eq_true', Bool.not_eq_false', Bool.or_eq_true, Bool.or_eq_false_iff, Bool.and_eq_true, Bool.and_eq_false_imp, decide_eq_true_eq, decide_eq_false_iff_not, Bool.not_not, Bool.not_true, Bool.not_false] at hb11'
                        refine AL.fast 14 rfl ?_
                        refine AL.nil ?_
                        refine then_ok ?_
                        exact Weak.popB 18 rfl rfl (by first | (simp [hb11]; done) | (simp_all; done) | (exfalso; simp_all; done) | (simp_all; omega)) rfl
                      ·
                        have hb11' := hb11; try simp only [sumB, Bool.not_eq_true', Bool.not_eq_false', Bool.or_eq_true, Bool.or_eq_false_iff, Bool.and_eq_true, Bool.and_eq_false_imp, decide_eq_true_eq, decide_eq_false_iff_not, Bool.not_not, Bool.not_true, Bool.not_false] at hb11'
                        refine AL.fast 1 rfl ?_
                        refine AL.val (Wanted.yes rfl rfl rfl) (g_binI rfl rfl rfl rfl) rfl rfl ?_
                        refine AL.fast 1 rfl ?_
                        refine AL.dec (t := 147) rfl (fun hb12 => ?_) (fun hb12 => ?_)
                        ·
                          have hb12' := hb12; try simp only [sumB, Bool.not_eq_true', Bool.not_eq_false', Bool.or_eq_true, Bool.or_eq_false_iff, Bool.and_eq_true, Bool.and_eq_false_imp, decide_eq_true_eq, decide_eq_false_iff_not, Bool.not_not, Bool.not_true, Bool.not_false] at hb12'
                          refine AL.fast 4 rfl ?_
                          refine AL.val (Wanted.yes rfl rfl rfl) (g_fieldP rfl rfl Try.underlying75 rfl sz3 (by decide)) rfl rfl ?_
                          refine AL.val (Wanted.yes rfl rfl rfl) (g_loadB rfl rfl rfl Try.underlying3 rfl rfl) rfl rfl ?_
                          refine AL.val (Wanted.yes rfl rfl rfl) (g_fieldP rfl rfl Try.underlying75 rfl sz3 (by decide)) rfl rfl ?_
                          refine AL.val (Wanted.yes rfl rfl rfl) (g_loadB rfl rfl rfl Try.underlying3 rfl rfl) rfl rfl ?_
                          refine AL.val (Wanted.yes rfl rfl rfl) (g_binI rfl rfl rfl rfl) rfl rfl ?_
                          refine AL.fast 2 rfl ?_
                          refine AL.nil ?_
                          refine then_ok ?_
                          exact Weak.popB 19 rfl rfl (by first | (simp [hb11, hb12]; done) | (simp_all; done) | (exfalso; simp_all; done) | (simp_all; omega)) rfl
                        ·
                          have hb12' := hb12; try simp only [sumB, Bool.not_eq_true', Bool.not_eq_false', Bool.or_eq_true, Bool.or_eq_false_iff, Bool.and_eq_true, Bool.and_eq_false_imp, decide_eq_true_eq, decide_eq_false_iff_not, Bool.not_not, Bool.not_true, Bool.not_false] at hb12'
                          refine AL.fast 1 rfl ?_
                          refine AL.val (Wanted.yes rfl rfl rfl) (g_binI rfl rfl rfl rfl) rfl rfl ?_
                          refine AL.fast 2 rfl ?_
                          refine AL.dec (t := 151) rfl (fun hb13 => ?_) (fun hb13 => ?_)
                          ·
                            have hb13' := hb13; try simp only [sumB, Bool.not_eq_true', Bool.not_eq_false', Bool.or_eq_true, Bool.or_eq_false_iff, Bool.and_eq_true, Bool.and_eq_false_imp, decide_eq_true_eq, decide_eq_false_iff_not, Bool.not_not, Bool.not_true, Bool.not_false] at hb13'
                            refine AL.val (Wanted.yes rfl rfl rfl) (g_fieldP rfl rfl Try.underlying75 rfl sz3 (by decide)) rfl rfl ?_
                            refine AL.val (Wanted.yes rfl rfl rfl) (g_loadB rfl rfl rfl Try.underlying3 rfl rfl) rfl rfl ?_
                            refine AL.val (Wanted.yes rfl rfl rfl) (g_fieldP rfl rfl Try.underlying75 rfl sz3 (by decide)) rfl rfl ?_
                            refine AL.val (Wanted.yes rfl rfl rfl) (g_loadB rfl rfl rfl Try.underlying3 rfl rfl) rfl rfl ?_
                            refine AL.val (Wanted.yes rfl rfl rfl) (g_binI rfl rfl rfl rfl) rfl rfl ?_
                            refine AL.fast 2 rfl ?_
                            refine AL.nil ?_
                            refine then_ok ?_
                            exact Weak.popB 20 rfl rfl (by first | (simp [hb11, hb12, hb13]; done) | (simp_all; done) | (exfalso; simp_all; done) | (simp_all; omega)) rfl
                          ·
                            have hb13' := hb13; try simp only [sumB, Bool.not_eq_true', Bool.not_eq_false', Bool.or_eq_true, Bool.or_eq_false_iff, Bool.and_eq_true, Bool.and_eq_false_imp, decide_eq_true_eq, decide_eq_false_iff_not, Bool.not_not, Bool.not_true, Bool.not_false] at hb13'
                            refine AL.fast 7 rfl ?_
                            refine AL.nil ?_
                            refine then_ok ?_
                            exact Weak.popB 20 rfl rfl (by first | (simp [hb11, hb12, hb13]; done) | (simp_all; done) | (exfalso; simp_all; done) | (simp_all; omega)) rfl
                    ·
                      refine AC.cond rfl (fun hc14 => ?_) (fun hc14 => ?_)
                      ·
                        have hc14' := hc14; try simp only [sumB, Bool.not_eq_true', Bool.not_eq_false', Bool.or_eq_true, Bool.or_eq_false_iff, Bool.and_eq_true, Bool.and_eq_false_imp, decide_eq_true_eq, decide_eq_false_iff_not, Bool.not_not, Bool.not_true, Bool.not_false] at hc14'
                        refine AC.region ?_
                        refine AL.val (Wanted.plain rfl) (g_fieldP rfl rfl Try.underlying75 rfl sz4 (by decide)) rfl rfl ?_
                        refine AL.sto (h' := [(2, (.map (mV [(1, 1000000 - a.sum), (2, a.sum - a.captured), (3, a.sum - a.captured), (4, a.sum - a.captured), (5, (a.captured - a.refunded) - a.disputed), (6, (a.captured - a.refunded) - a.disputed), (7, a.disputed), (8, a.disputed)]) 8)), (1, (.box 75 [(cI 0), (cI 0), (cI 0), (cI 0), (cI 0), (cI 0), (cI 0), (cB false)])), (0, (.box 75 [(cI a.card), (cI a.shop), (cI (a.sum + n)), (cI a.captured), (cI a.refunded), (cI a.disputed), (cI a.till), (cB true)]))]) (Wanted.plain rfl) (g_storeB rfl rfl rfl rfl rfl sz4 rfl (Nat.le_of_ble_eq_true rfl) rfl) rfl rfl rfl rfl ?_
                        refine AL.nil ?_
                        refine then_ok ?_
                        refine AC.seq ?_
                        refine AC.region ?_
                        refine AL.val (Wanted.plain rfl) (g_loadBs rfl rfl rfl Try.underlying75 rfl sz75 rfl rfl) rfl rfl ?_
                        refine AL.sto (h' := [(2, (.map (mV [(1, 1000000 - a.sum), (2, a.sum - a.captured), (3, a.sum - a.captured), (4, a.sum - a.captured), (5, (a.captured - a.refunded) - a.disputed), (6, (a.captured - a.refunded) - a.disputed), (7, a.disputed), (8, a.disputed)]) 8)), (1, (.box 75 [(cI a.card), (cI a.shop), (cI (a.sum + n)), (cI a.captured), (cI a.refunded), (cI a.disputed), (cI a.till), (cB true)])), (0, (.box 75 [(cI a.card), (cI a.shop), (cI (a.sum + n)), (cI a.captured), (cI a.refunded), (cI a.disputed), (cI a.till), (cB true)]))]) (Wanted.plain rfl) (g_storeB rfl rfl rfl rfl rfl sz75 rfl (Nat.le_of_ble_eq_true rfl) rfl) rfl rfl rfl rfl ?_
                        refine AL.fast 1 rfl ?_
                        refine AL.nil ?_
                        refine then_ok ?_
                        refine AC.ret ?_
                        have hX : moveAuth a kind n = ((⟨a.card, a.shop, a.sum + n, a.captured, a.refunded, a.disputed, a.till, true⟩ : Auth), 0) := by
                          (have hq := rightAuth (hr0.trans (by omega)); have hk : kind = 1 ∨ kind = 2 ∨ kind = 3 ∨ kind = 4 ∨ kind = 5 ∨ kind = 6 ∨ kind = 7 ∨ kind = 8 := by omega); (rcases hk with rfl | rfl | rfl | rfl | rfl | rfl | rfl | rfl)
                          · first | (exfalso; omega) | (simp [mlook] at hc8'; have hs : a.shut = false := hc7' (by omega); rw [mv1 (hr0.trans (by omega)) (by omega) (by omega) hs]; first | (rw [if_pos (by omega)] <;> first | rfl | (rw [hs]; rfl)) | (rw [if_neg (by omega)] <;> first | rfl | (refine Prod.ext (auth_ext rfl rfl rfl rfl rfl rfl rfl ?_) rfl; first | (simp_all; done) | (simp_all; omega))))
                          · first | (exfalso; omega) | (simp [mlook] at hc8'; have hs : a.shut = false := hc7' (by omega); rw [mv2 (hr0.trans (by omega)) (by omega) (by omega) hs]; first | (rw [if_pos (by omega)] <;> first | rfl | (rw [hs]; rfl)) | (rw [if_neg (by omega)] <;> first | rfl | (refine Prod.ext (auth_ext rfl rfl rfl rfl rfl rfl rfl ?_) rfl; first | (simp_all; done) | (simp_all; omega))))
                          · first | (exfalso; omega) | (simp [mlook] at hc8'; have hs : a.shut = false := hc7' (by omega); rw [mv3 (hr0.trans (by omega)) (by omega) (by omega) hs]; first | (rw [if_pos (by omega)] <;> first | rfl | (rw [hs]; rfl)) | (rw [if_neg (by omega)] <;> first | rfl | (refine Prod.ext (auth_ext rfl rfl rfl rfl rfl rfl rfl ?_) rfl; first | (simp_all; done) | (simp_all; omega))))
                          · first | (exfalso; omega) | (simp [mlook] at hc8'; have hs : a.shut = false := hc7' (by omega); rw [mv4 (hr0.trans (by omega)) (by omega) (by omega) hs]; first | (rw [if_pos (by omega)] <;> first | rfl | (rw [hs]; rfl)) | (rw [if_neg (by omega)] <;> first | rfl | (refine Prod.ext (auth_ext rfl rfl rfl rfl rfl rfl rfl ?_) rfl; first | (simp_all; done) | (simp_all; omega))))
                          · first | (exfalso; omega) | (simp [mlook] at hc8'; rw [mv5 (hr0.trans (by omega)) (by omega) (by omega)]; first | (rw [if_pos (by omega)] <;> first | rfl | (rw [hs]; rfl)) | (rw [if_neg (by omega)] <;> first | rfl | (refine Prod.ext (auth_ext rfl rfl rfl rfl rfl rfl rfl ?_) rfl; first | (simp_all; done) | (simp_all; omega))))
                          · first | (exfalso; omega) | (simp [mlook] at hc8'; rw [mv6 (hr0.trans (by omega)) (by omega) (by omega)]; first | (rw [if_pos (by omega)] <;> first | rfl | (rw [hs]; rfl)) | (rw [if_neg (by omega)] <;> first | rfl | (refine Prod.ext (auth_ext rfl rfl rfl rfl rfl rfl rfl ?_) rfl; first | (simp_all; done) | (simp_all; omega))))
                          · first | (exfalso; omega) | (simp [mlook] at hc8'; rw [mv7 (hr0.trans (by omega)) (by omega) (by omega)]; first | (rw [if_pos (by omega)] <;> first | rfl | (rw [hs]; rfl)) | (rw [if_neg (by omega)] <;> first | rfl | (refine Prod.ext (auth_ext rfl rfl rfl rfl rfl rfl rfl ?_) rfl; first | (simp_all; done) | (simp_all; omega))))
                          · first | (exfalso; omega) | (simp [mlook] at hc8'; rw [mv8 (hr0.trans (by omega)) (by omega) (by omega)]; first | (rw [if_pos (by omega)] <;> first | rfl | (rw [hs]; rfl)) | (rw [if_neg (by omega)] <;> first | rfl | (refine Prod.ext (auth_ext rfl rfl rfl rfl rfl rfl rfl ?_) rfl; first | (simp_all; done) | (simp_all; omega))))
                        rw [hX] at hr; clear hX
                        simp only [Prod.mk.injEq] at hr; obtain ⟨rfl, rfl⟩ := hr
                        refine retQ_mk (av' := outOf [(.g [(cI a.card), (cI a.shop), (cI (a.sum + n)), (cI a.captured), (cI a.refunded), (cI a.disputed), (cI a.till), (cB true)]), (.c (cI 0))]) (nb' := []) (retQ_ret ⟨[(6, (aC (.p 1 0 0 0))), (7, (aI 0))], [(1, (.box 75 [(cI a.card), (cI a.shop), (cI (a.sum + n)), (cI a.captured), (cI a.refunded), (cI a.disputed), (cI a.till), (cB true)]))], 2⟩ [.cell 6 75, .tmp 7] [(.g [(cI a.card), (cI a.shop), (cI (a.sum + n)), (cI a.captured), (cI a.refunded), (cI a.disputed), (cI a.till), (cB true)]), (.c (cI 0))] (Weak.ren id (⟨by first | rfl | (simp only [AV.map, GV.map, CV.map, AB.map', id]; done) | (congr 3; omega) | (congr 4; omega) | (simp only [List.length_append, List.length_cons, List.length_nil, List.length_set]; rfl), by first | rfl | (simp only [AV.map, GV.map, CV.map, AB.map', id]; done) | (congr 3; omega) | (congr 4; omega) | (simp only [List.length_append, List.length_cons, List.length_nil, List.length_set]; rfl),  trivial⟩) (⟨by first | rfl | (simp only [AV.map, GV.map, CV.map, AB.map', id]; done) | (congr 3; omega) | (congr 4; omega) | (simp only [List.length_append, List.length_cons, List.length_nil, List.length_set]; rfl),  trivial⟩) rfl) rfl ⟨.agg rfl rfl (fun _ => run_isAgg Try.underlying75) sz75, .tmp rfl, trivial⟩ trivial) ?_ ?_
                        · first | rfl | (simp [outOf, aC]; done) | (simp [outOf, aC]; omega)
                        · first | rfl | (simp; done) | (simp; omega)
                      ·
                        have hc14' := hc14; try simp only [sumB, Bool.not_eq_true', Bool.not_eq_false', Bool.or_eq_true, Bool.or_eq_false_iff, Bool.and_eq_true, Bool.and_eq_false_imp, decide_eq_true_eq, decide_eq_false_iff_not, Bool.not_not, Bool.not_true, Bool.not_false] at hc14'
                        refine AC.skip ?_
                        refine then_ok ?_
                        refine AC.seq ?_
                        refine AC.region ?_
                        refine AL.val (Wanted.plain rfl) (g_loadBs rfl rfl rfl Try.underlying75 rfl sz75 rfl rfl) rfl rfl ?_
                        refine AL.sto (h' := [(2, (.map (mV [(1, 1000000 - a.sum), (2, a.sum - a.captured), (3, a.sum - a.captured), (4, a.sum - a.captured), (5, (a.captured - a.refunded) - a.disputed), (6, (a.captured - a.refunded) - a.disputed), (7, a.disputed), (8, a.disputed)]) 8)), (1, (.box 75 [(cI a.card), (cI a.shop), (cI (a.sum + n)), (cI a.captured), (cI a.refunded), (cI a.disputed), (cI a.till), (cB a.shut)])), (0, (.box 75 [(cI a.card), (cI a.shop), (cI (a.sum + n)), (cI a.captured), (cI a.refunded), (cI a.disputed), (cI a.till), (cB a.shut)]))]) (Wanted.plain rfl) (g_storeB rfl rfl rfl rfl rfl sz75 rfl (Nat.le_of_ble_eq_true rfl) rfl) rfl rfl rfl rfl ?_
                        refine AL.fast 1 rfl ?_
                        refine AL.nil ?_
                        refine then_ok ?_
                        refine AC.ret ?_
                        have hX : moveAuth a kind n = ((⟨a.card, a.shop, a.sum + n, a.captured, a.refunded, a.disputed, a.till, a.shut⟩ : Auth), 0) := by
                          (have hq := rightAuth (hr0.trans (by omega)); have hk : kind = 1 ∨ kind = 2 ∨ kind = 3 ∨ kind = 4 ∨ kind = 5 ∨ kind = 6 ∨ kind = 7 ∨ kind = 8 := by omega); (rcases hk with rfl | rfl | rfl | rfl | rfl | rfl | rfl | rfl)
                          · first | (exfalso; omega) | (simp [mlook] at hc8'; have hs : a.shut = false := hc7' (by omega); rw [mv1 (hr0.trans (by omega)) (by omega) (by omega) hs]; first | (rw [if_pos (by omega)] <;> first | rfl | (rw [hs]; rfl)) | (rw [if_neg (by omega)] <;> first | rfl | (refine Prod.ext (auth_ext rfl rfl rfl rfl rfl rfl rfl ?_) rfl; first | (simp_all; done) | (simp_all; omega))))
                          · first | (exfalso; omega) | (simp [mlook] at hc8'; have hs : a.shut = false := hc7' (by omega); rw [mv2 (hr0.trans (by omega)) (by omega) (by omega) hs]; first | (rw [if_pos (by omega)] <;> first | rfl | (rw [hs]; rfl)) | (rw [if_neg (by omega)] <;> first | rfl | (refine Prod.ext (auth_ext rfl rfl rfl rfl rfl rfl rfl ?_) rfl; first | (simp_all; done) | (simp_all; omega))))
                          · first | (exfalso; omega) | (simp [mlook] at hc8'; have hs : a.shut = false := hc7' (by omega); rw [mv3 (hr0.trans (by omega)) (by omega) (by omega) hs]; first | (rw [if_pos (by omega)] <;> first | rfl | (rw [hs]; rfl)) | (rw [if_neg (by omega)] <;> first | rfl | (refine Prod.ext (auth_ext rfl rfl rfl rfl rfl rfl rfl ?_) rfl; first | (simp_all; done) | (simp_all; omega))))
                          · first | (exfalso; omega) | (simp [mlook] at hc8'; have hs : a.shut = false := hc7' (by omega); rw [mv4 (hr0.trans (by omega)) (by omega) (by omega) hs]; first | (rw [if_pos (by omega)] <;> first | rfl | (rw [hs]; rfl)) | (rw [if_neg (by omega)] <;> first | rfl | (refine Prod.ext (auth_ext rfl rfl rfl rfl rfl rfl rfl ?_) rfl; first | (simp_all; done) | (simp_all; omega))))
                          · first | (exfalso; omega) | (simp [mlook] at hc8'; rw [mv5 (hr0.trans (by omega)) (by omega) (by omega)]; first | (rw [if_pos (by omega)] <;> first | rfl | (rw [hs]; rfl)) | (rw [if_neg (by omega)] <;> first | rfl | (refine Prod.ext (auth_ext rfl rfl rfl rfl rfl rfl rfl ?_) rfl; first | (simp_all; done) | (simp_all; omega))))
                          · first | (exfalso; omega) | (simp [mlook] at hc8'; rw [mv6 (hr0.trans (by omega)) (by omega) (by omega)]; first | (rw [if_pos (by omega)] <;> first | rfl | (rw [hs]; rfl)) | (rw [if_neg (by omega)] <;> first | rfl | (refine Prod.ext (auth_ext rfl rfl rfl rfl rfl rfl rfl ?_) rfl; first | (simp_all; done) | (simp_all; omega))))
                          · first | (exfalso; omega) | (simp [mlook] at hc8'; rw [mv7 (hr0.trans (by omega)) (by omega) (by omega)]; first | (rw [if_pos (by omega)] <;> first | rfl | (rw [hs]; rfl)) | (rw [if_neg (by omega)] <;> first | rfl | (refine Prod.ext (auth_ext rfl rfl rfl rfl rfl rfl rfl ?_) rfl; first | (simp_all; done) | (simp_all; omega))))
                          · first | (exfalso; omega) | (simp [mlook] at hc8'; rw [mv8 (hr0.trans (by omega)) (by omega) (by omega)]; first | (rw [if_pos (by omega)] <;> first | rfl | (rw [hs]; rfl)) | (rw [if_neg (by omega)] <;> first | rfl | (refine Prod.ext (auth_ext rfl rfl rfl rfl rfl rfl rfl ?_) rfl; first | (simp_all; done) | (simp_all; omega))))
                        rw [hX] at hr; clear hX
                        simp only [Prod.mk.injEq] at hr; obtain ⟨rfl, rfl⟩ := hr
                        refine retQ_mk (av' := outOf [(.g [(cI a.card), (cI a.shop), (cI (a.sum + n)), (cI a.captured), (cI a.refunded), (cI a.disputed), (cI a.till), (cB a.shut)]), (.c (cI 0))]) (nb' := []) (retQ_ret ⟨[(6, (aC (.p 1 0 0 0))), (7, (aI 0))], [(1, (.box 75 [(cI a.card), (cI a.shop), (cI (a.sum + n)), (cI a.captured), (cI a.refunded), (cI a.disputed), (cI a.till), (cB a.shut)]))], 2⟩ [.cell 6 75, .tmp 7] [(.g [(cI a.card), (cI a.shop), (cI (a.sum + n)), (cI a.captured), (cI a.refunded), (cI a.disputed), (cI a.till), (cB a.shut)]), (.c (cI 0))] (Weak.ren id (⟨by first | rfl | (simp only [AV.map, GV.map, CV.map, AB.map', id]; done) | (congr 3; omega) | (congr 4; omega) | (simp only [List.length_append, List.length_cons, List.length_nil, List.length_set]; rfl), by first | rfl | (simp only [AV.map, GV.map, CV.map, AB.map', id]; done) | (congr 3; omega) | (congr 4; omega) | (simp only [List.length_append, List.length_cons, List.length_nil, List.length_set]; rfl),  trivial⟩) (⟨by first | rfl | (simp only [AV.map, GV.map, CV.map, AB.map', id]; done) | (congr 3; omega) | (congr 4; omega) | (simp only [List.length_append, List.length_cons, List.length_nil, List.length_set]; rfl),  trivial⟩) rfl) rfl ⟨.agg rfl rfl (fun _ => run_isAgg Try.underlying75) sz75, .tmp rfl, trivial⟩ trivial) ?_ ?_
                        · first | rfl | (simp [outOf, aC]; done) | (simp [outOf, aC]; omega)
                        · first | rfl | (simp; done) | (simp; omega)
                  ·
                    have hc10' := hc10; try simp only [sumB, Bool.not_eq_true', Bool.not_eq_false', Bool.or_eq_true, Bool.or_eq_false_iff, Bool.and_eq_true, Bool.and_eq_false_imp, decide_eq_true_eq, decide_eq_false_iff_not, Bool.not_not, Bool.not_true, Bool.not_false] at hc10'
                    refine AC.seq ?_
                    refine AC.region ?_
                    refine AL.val (Wanted.plain rfl) (g_binI rfl rfl rfl rfl) rfl rfl ?_
                    refine AL.fast 1 rfl ?_
                    refine AL.nil ?_
                    refine then_ok ?_
                    refine AC.cond rfl (fun hc15 => ?_) (fun hc15 => ?_)
                    ·
                      have hc15' := hc15; try simp only [sumB, Bool.not_eq_true', Bool.not_eq_false', Bool.or_eq_true, Bool.or_eq_false_iff, Bool.and_eq_true, Bool.and_eq_false_imp, decide_eq_true_eq, decide_eq_false_iff_not, Bool.not_not, Bool.not_true, Bool.not_false] at hc15'
                      refine AC.region ?_
                      refine AL.val (Wanted.plain rfl) (g_fieldP rfl rfl Try.underlying75 rfl sz3 (by decide)) rfl rfl ?_
                      refine AL.val (Wanted.plain rfl) (g_loadB rfl rfl rfl Try.underlying3 rfl rfl) rfl rfl ?_
                      refine AL.fast 1 rfl ?_
                      refine AL.val (Wanted.plain rfl) (g_binI rfl rfl rfl (wrap_ok (by first | omega | (simp; done) | (simp; omega) | (have hq := rightAuth (hr0.trans (by omega)); omega)))) rfl rfl ?_
                      refine AL.val (Wanted.plain rfl) (g_fieldP rfl rfl Try.underlying75 rfl sz3 (by decide)) rfl rfl ?_
                      refine AL.sto (h' := [(2, (.map (mV [(1, 1000000 - a.sum), (2, a.sum - a.captured), (3, a.sum - a.captured), (4, a.sum - a.captured), (5, (a.captured - a.refunded) - a.disputed), (6, (a.captured - a.refunded) - a.disputed), (7, a.disputed), (8, a.disputed)]) 8)), (1, (.box 75 [(cI 0), (cI 0), (cI 0), (cI 0), (cI 0), (cI 0), (cI 0), (cB false)])), (0, (.box 75 [(cI a.card), (cI a.shop), (cI (a.sum - n)), (cI a.captured), (cI a.refunded), (cI a.disputed), (cI a.till), (cB a.shut)]))]) (Wanted.plain rfl) (g_storeB rfl rfl rfl rfl rfl sz3 rfl (Nat.le_of_ble_eq_true rfl) rfl) rfl rfl rfl rfl ?_
                      refine AL.nil ?_
                      refine block_ok ?_
                      refine then_ok ?_
                      refine AC.seq ?_
                      refine AC.cutB 158 ((decide (kind = 3)) || (((decide (kind = 2)) || (decide (kind = 4))) && (decide ((a.sum - n) = a.captured)))) ?_ ?_
                      ·
                        refine AC.region ?_
                        refine AL.fast 1 rfl ?_
                        refine AL.val (Wanted.plain rfl) (g_binI rfl rfl rfl rfl) rfl rfl ?_
                        refine AL.fast 1 rfl ?_
                        refine AL.dec (t := 144) rfl (fun hb16 => ?_) (fun hb16 => ?_)
                        ·
                          have hb16' := hb16; try simp only [sumB, Bool.not_eq_true', Bool.not_eq_false', Bool.or_eq_true, Bool.or_eq_false_iff, Bool.and_eq_true, Bool.and_eq_false_imp, decide_eq_true_eq, decide_eq_false_iff_not, Bool.not_not, Bool.not_true, Bool.not_false] at hb16'
                          refine AL.fast 14 rfl ?_
                          refine AL.nil ?_
                          refine then_ok ?_
                          exact Weak.popB 18 rfl rfl (by first | (simp [hb16]; done) | (simp_all; done) | (exfalso; simp_all; done) | (simp_all; omega)) rfl
                        ·
                          have hb16' := hb16; try simp only [sumB, Bool.not_eq_true', Bool.not_eq_false', Bool.or_eq_true, Bool.or_eq_false_iff, Bool.and_eq_true, Bool.and_eq_false_imp, decide_eq_true_eq, decide_eq_false_iff_not, Bool.not_not, Bool.not_true, Bool.not_false] at hb16'
                          refine AL.fast 1 rfl ?_
                          refine AL.val (Wanted.yes rfl rfl rfl) (g_binI rfl rfl rfl rfl) rfl rfl ?_
                          refine AL.fast 1 rfl ?_
                          refine AL.dec (t := 147) rfl (fun hb17 => ?_) (fun hb17 => ?_)
                          ·
                            have hb17' := hb17; try simp only [sumB, Bool.not_eq_true', Bool.not_eq_false', Bool.or_eq_true, Bool.or_eq_false_iff, Bool.and_eq_true, Bool.and_eq_false_imp, decide_eq_true_eq, decide_eq_false_iff_not, Bool.not_not, Bool.not_true, Bool.not_false] at hb17'
                            refine AL.fast 4 rfl ?_
                            refine AL.val (Wanted.yes rfl rfl rfl) (g_fieldP rfl rfl Try.underlying75 rfl sz3 (by decide)) rfl rfl ?_
                            refine AL.val (Wanted.yes rfl rfl rfl) (g_loadB rfl rfl rfl Try.underlying3 rfl rfl) rfl rfl ?_
                            refine AL.val (Wanted.yes rfl rfl rfl) (g_fieldP rfl rfl Try.underlying75 rfl sz3 (by decide)) rfl rfl ?_
                            refine AL.val (Wanted.yes rfl rfl rfl) (g_loadB rfl rfl rfl Try.underlying3 rfl rfl) rfl rfl ?_
                            refine AL.val (Wanted.yes rfl rfl rfl) (g_binI rfl rfl rfl rfl) rfl rfl ?_
                            refine AL.fast 2 rfl ?_
                            refine AL.nil ?_
                            refine then_ok ?_
                            exact Weak.popB 19 rfl rfl (by first | (simp [hb16, hb17]; done) | (simp_all; done) | (exfalso; simp_all; done) | (simp_all; omega)) rfl
                          ·
                            have hb17' := hb17; try simp only [sumB, Bool.not_eq_true', Bool.not_eq_false', Bool.or_eq_true, Bool.or_eq_false_iff, Bool.and_eq_true, Bool.and_eq_false_imp, decide_eq_true_eq, decide_eq_false_iff_not, Bool.not_not, Bool.not_true, Bool.not_false] at hb17'
                            refine AL.fast 1 rfl ?_
                            refine AL.val (Wanted.yes rfl rfl rfl) (g_binI rfl rfl rfl rfl) rfl rfl ?_
                            refine AL.fast 2 rfl ?_
                            refine AL.dec (t := 151) rfl (fun _ => ?_) (fun hno => absurd (hc15.symm.trans hno) (by decide))
                            refine AL.val (Wanted.yes rfl rfl rfl) (g_fieldP rfl rfl Try.underlying75 rfl sz3 (by decide)) rfl rfl ?_
                            refine AL.val (Wanted.yes rfl rfl rfl) (g_loadB rfl rfl rfl Try.underlying3 rfl rfl) rfl rfl ?_
                            refine AL.val (Wanted.yes rfl rfl rfl) (g_fieldP rfl rfl Try.underlying75 rfl sz3 (by decide)) rfl rfl ?_
                            refine AL.val (Wanted.yes rfl rfl rfl) (g_loadB rfl rfl rfl Try.underlying3 rfl rfl) rfl rfl ?_
                            refine AL.val (Wanted.yes rfl rfl rfl) (g_binI rfl rfl rfl rfl) rfl rfl ?_
                            refine AL.fast 2 rfl ?_
                            refine AL.nil ?_
                            refine then_ok ?_
                            exact Weak.popB 20 rfl rfl (by first | (simp [hb16, hb17]; done) | (simp_all; done) | (exfalso; simp_all; done) | (simp_all; omega)) rfl
                      ·
                        refine AC.cond rfl (fun hc19 => ?_) (fun hc19 => ?_)
                        ·
                          have hc19' := hc19; try simp only [sumB, Bool.not_eq_true', Bool.not_eq_false', Bool.or_eq_true, Bool.or_eq_false_iff, Bool.and_eq_true, Bool.and_eq_false_imp, decide_eq_true_eq, decide_eq_false_iff_not, Bool.not_not, Bool.not_true, Bool.not_false] at hc19'
                          refine AC.region ?_
                          refine AL.val (Wanted.plain rfl) (g_fieldP rfl rfl Try.underlying75 rfl sz4 (by decide)) rfl rfl ?_
                          refine AL.sto (h' := [(2, (.map (mV [(1, 1000000 - a.sum), (2, a.sum - a.captured), (3, a.sum - a.captured), (4, a.sum - a.captured), (5, (a.captured - a.refunded) - a.disputed), (6, (a.captured - a.refunded) - a.disputed), (7, a.disputed), (8, a.disputed)]) 8)), (1, (.box 75 [(cI 0), (cI 0), (cI 0), (cI 0), (cI 0), (cI 0), (cI 0), (cB false)])), (0, (.box 75 [(cI a.card), (cI a.shop), (cI (a.sum - n)), (cI a.captured), (cI a.refunded), (cI a.disputed), (cI a.till), (cB true)]))]) (Wanted.plain rfl) (g_storeB rfl rfl rfl rfl rfl sz4 rfl (Nat.le_of_ble_eq_true rfl) rfl) rfl rfl rfl rfl ?_
                          refine AL.nil ?_
                          refine then_ok ?_
                          refine AC.seq ?_
                          refine AC.region ?_
                          refine AL.val (Wanted.plain rfl) (g_loadBs rfl rfl rfl Try.underlying75 rfl sz75 rfl rfl) rfl rfl ?_
                          refine AL.sto (h' := [(2, (.map (mV [(1, 1000000 - a.sum), (2, a.sum - a.captured), (3, a.sum - a.captured), (4, a.sum - a.captured), (5, (a.captured - a.refunded) - a.disputed), (6, (a.captured - a.refunded) - a.disputed), (7, a.disputed), (8, a.disputed)]) 8)), (1, (.box 75 [(cI a.card), (cI a.shop), (cI (a.sum - n)), (cI a.captured), (cI a.refunded), (cI a.disputed), (cI a.till), (cB true)])), (0, (.box 75 [(cI a.card), (cI a.shop), (cI (a.sum - n)), (cI a.captured), (cI a.refunded), (cI a.disputed), (cI a.till), (cB true)]))]) (Wanted.plain rfl) (g_storeB rfl rfl rfl rfl rfl sz75 rfl (Nat.le_of_ble_eq_true rfl) rfl) rfl rfl rfl rfl ?_
                          refine AL.fast 1 rfl ?_
                          refine AL.nil ?_
                          refine then_ok ?_
                          refine AC.ret ?_
                          have hX : moveAuth a kind n = ((⟨a.card, a.shop, a.sum - n, a.captured, a.refunded, a.disputed, a.till, true⟩ : Auth), 0) := by
                            (have hq := rightAuth (hr0.trans (by omega)); have hk : kind = 1 ∨ kind = 2 ∨ kind = 3 ∨ kind = 4 ∨ kind = 5 ∨ kind = 6 ∨ kind = 7 ∨ kind = 8 := by omega); (rcases hk with rfl | rfl | rfl | rfl | rfl | rfl | rfl | rfl)
                            · first | (exfalso; omega) | (simp [mlook] at hc8'; have hs : a.shut = false := hc7' (by omega); rw [mv1 (hr0.trans (by omega)) (by omega) (by omega) hs]; first | (rw [if_pos (by omega)] <;> first | rfl | (rw [hs]; rfl)) | (rw [if_neg (by omega)] <;> first | rfl | (refine Prod.ext (auth_ext rfl rfl rfl rfl rfl rfl rfl ?_) rfl; first | (simp_all; done) | (simp_all; omega))))
                            · first | (exfalso; omega) | (simp [mlook] at hc8'; have hs : a.shut = false := hc7' (by omega); rw [mv2 (hr0.trans (by omega)) (by omega) (by omega) hs]; first | (rw [if_pos (by omega)] <;> first | rfl | (rw [hs]; rfl)) | (rw [if_neg (by omega)] <;> first | rfl | (refine Prod.ext (auth_ext rfl rfl rfl rfl rfl rfl rfl ?_) rfl; first | (simp_all; done) | (simp_all; omega))))
                            · first | (exfalso; omega) | (simp [mlook] at hc8'; have hs : a.shut = false := hc7' (by omega); rw [mv3 (hr0.trans (by omega)) (by omega) (by omega) hs]; first | (rw [if_pos (by omega)] <;> first | rfl | (rw [hs]; rfl)) | (rw [if_neg (by omega)] <;> first | rfl | (refine Prod.ext (auth_ext rfl rfl rfl rfl rfl rfl rfl ?_) rfl; first | (simp_all; done) | (simp_all; omega))))
                            · first | (exfalso; omega) | (simp [mlook] at hc8'; have hs : a.shut = false := hc7' (by omega); rw [mv4 (hr0.trans (by omega)) (by omega) (by omega) hs]; first | (rw [if_pos (by omega)] <;> first | rfl | (rw [hs]; rfl)) | (rw [if_neg (by omega)] <;> first | rfl | (refine Prod.ext (auth_ext rfl rfl rfl rfl rfl rfl rfl ?_) rfl; first | (simp_all; done) | (simp_all; omega))))
                            · first | (exfalso; omega) | (simp [mlook] at hc8'; rw [mv5 (hr0.trans (by omega)) (by omega) (by omega)]; first | (rw [if_pos (by omega)] <;> first | rfl | (rw [hs]; rfl)) | (rw [if_neg (by omega)] <;> first | rfl | (refine Prod.ext (auth_ext rfl rfl rfl rfl rfl rfl rfl ?_) rfl; first | (simp_all; done) | (simp_all; omega))))
                            · first | (exfalso; omega) | (simp [mlook] at hc8'; rw [mv6 (hr0.trans (by omega)) (by omega) (by omega)]; first | (rw [if_pos (by omega)] <;> first | rfl | (rw [hs]; rfl)) | (rw [if_neg (by omega)] <;> first | rfl | (refine Prod.ext (auth_ext rfl rfl rfl rfl rfl rfl rfl ?_) rfl; first | (simp_all; done) | (simp_all; omega))))
                            · first | (exfalso; omega) | (simp [mlook] at hc8'; rw [mv7 (hr0.trans (by omega)) (by omega) (by omega)]; first | (rw [if_pos (by omega)] <;> first | rfl | (rw [hs]; rfl)) | (rw [if_neg (by omega)] <;> first | rfl | (refine Prod.ext (auth_ext rfl rfl rfl rfl rfl rfl rfl ?_) rfl; first | (simp_all; done) | (simp_all; omega))))
                            · first | (exfalso; omega) | (simp [mlook] at hc8'; rw [mv8 (hr0.trans (by omega)) (by omega) (by omega)]; first | (rw [if_pos (by omega)] <;> first | rfl | (rw [hs]; rfl)) | (rw [if_neg (by omega)] <;> first | rfl | (refine Prod.ext (auth_ext rfl rfl rfl rfl rfl rfl rfl ?_) rfl; first | (simp_all; done) | (simp_all; omega))))
                          rw [hX] at hr; clear hX
                          simp only [Prod.mk.injEq] at hr; obtain ⟨rfl, rfl⟩ := hr
                          refine retQ_mk (av' := outOf [(.g [(cI a.card), (cI a.shop), (cI (a.sum - n)), (cI a.captured), (cI a.refunded), (cI a.disputed), (cI a.till), (cB true)]), (.c (cI 0))]) (nb' := []) (retQ_ret ⟨[(6, (aC (.p 1 0 0 0))), (7, (aI 0))], [(1, (.box 75 [(cI a.card), (cI a.shop), (cI (a.sum - n)), (cI a.captured), (cI a.refunded), (cI a.disputed), (cI a.till), (cB true)]))], 2⟩ [.cell 6 75, .tmp 7] [(.g [(cI a.card), (cI a.shop), (cI (a.sum - n)), (cI a.captured), (cI a.refunded), (cI a.disputed), (cI a.till), (cB true)]), (.c (cI 0))] (Weak.ren id (⟨by first | rfl | (simp only [AV.map, GV.map, CV.map, AB.map', id]; done) | (congr 3; omega) | (congr 4; omega) | (simp only [List.length_append, List.length_cons, List.length_nil, List.length_set]; rfl), by first | rfl | (simp only [AV.map, GV.map, CV.map, AB.map', id]; done) | (congr 3; omega) | (congr 4; omega) | (simp only [List.length_append, List.length_cons, List.length_nil, List.length_set]; rfl),  trivial⟩) (⟨by first | rfl | (simp only [AV.map, GV.map, CV.map, AB.map', id]; done) | (congr 3; omega) | (congr 4; omega) | (simp only [List.length_append, List.length_cons, List.length_nil, List.length_set]; rfl),  trivial⟩) rfl) rfl ⟨.agg rfl rfl (fun _ => run_isAgg Try.underlying75) sz75, .tmp rfl, trivial⟩ trivial) ?_ ?_
                          · first | rfl | (simp [outOf, aC]; done) | (simp [outOf, aC]; omega)
                          · first | rfl | (simp; done) | (simp; omega)
                        ·
                          have hc19' := hc19; try simp only [sumB, Bool.not_eq_true', Bool.not_eq_false', Bool.or_eq_true, Bool.or_eq_false_iff, Bool.and_eq_true, Bool.and_eq_false_imp, decide_eq_true_eq, decide_eq_false_iff_not, Bool.not_not, Bool.not_true, Bool.not_false] at hc19'
                          refine AC.skip ?_
                          refine then_ok ?_
                          refine AC.seq ?_
                          refine AC.region ?_
                          refine AL.val (Wanted.plain rfl) (g_loadBs rfl rfl rfl Try.underlying75 rfl sz75 rfl rfl) rfl rfl ?_
                          refine AL.sto (h' := [(2, (.map (mV [(1, 1000000 - a.sum), (2, a.sum - a.captured), (3, a.sum - a.captured), (4, a.sum - a.captured), (5, (a.captured - a.refunded) - a.disputed), (6, (a.captured - a.refunded) - a.disputed), (7, a.disputed), (8, a.disputed)]) 8)), (1, (.box 75 [(cI a.card), (cI a.shop), (cI (a.sum - n)), (cI a.captured), (cI a.refunded), (cI a.disputed), (cI a.till), (cB a.shut)])), (0, (.box 75 [(cI a.card), (cI a.shop), (cI (a.sum - n)), (cI a.captured), (cI a.refunded), (cI a.disputed), (cI a.till), (cB a.shut)]))]) (Wanted.plain rfl) (g_storeB rfl rfl rfl rfl rfl sz75 rfl (Nat.le_of_ble_eq_true rfl) rfl) rfl rfl rfl rfl ?_
                          refine AL.fast 1 rfl ?_
                          refine AL.nil ?_
                          refine then_ok ?_
                          refine AC.ret ?_
                          have hX : moveAuth a kind n = ((⟨a.card, a.shop, a.sum - n, a.captured, a.refunded, a.disputed, a.till, a.shut⟩ : Auth), 0) := by
                            (have hq := rightAuth (hr0.trans (by omega)); have hk : kind = 1 ∨ kind = 2 ∨ kind = 3 ∨ kind = 4 ∨ kind = 5 ∨ kind = 6 ∨ kind = 7 ∨ kind = 8 := by omega); (rcases hk with rfl | rfl | rfl | rfl | rfl | rfl | rfl | rfl)
                            · first | (exfalso; omega) | (simp [mlook] at hc8'; have hs : a.shut = false := hc7' (by omega); rw [mv1 (hr0.trans (by omega)) (by omega) (by omega) hs]; first | (rw [if_pos (by omega)] <;> first | rfl | (rw [hs]; rfl)) | (rw [if_neg (by omega)] <;> first | rfl | (refine Prod.ext (auth_ext rfl rfl rfl rfl rfl rfl rfl ?_) rfl; first | (simp_all; done) | (simp_all; omega))))
                            · first | (exfalso; omega) | (simp [mlook] at hc8'; have hs : a.shut = false := hc7' (by omega); rw [mv2 (hr0.trans (by omega)) (by omega) (by omega) hs]; first | (rw [if_pos (by omega)] <;> first | rfl | (rw [hs]; rfl)) | (rw [if_neg (by omega)] <;> first | rfl | (refine Prod.ext (auth_ext rfl rfl rfl rfl rfl rfl rfl ?_) rfl; first | (simp_all; done) | (simp_all; omega))))
                            · first | (exfalso; omega) | (simp [mlook] at hc8'; have hs : a.shut = false := hc7' (by omega); rw [mv3 (hr0.trans (by omega)) (by omega) (by omega) hs]; first | (rw [if_pos (by omega)] <;> first | rfl | (rw [hs]; rfl)) | (rw [if_neg (by omega)] <;> first | rfl | (refine Prod.ext (auth_ext rfl rfl rfl rfl rfl rfl rfl ?_) rfl; first | (simp_all; done) | (simp_all; omega))))
                            · first | (exfalso; omega) | (simp [mlook] at hc8'; have hs : a.shut = false := hc7' (by omega); rw [mv4 (hr0.trans (by omega)) (by omega) (by omega) hs]; first | (rw [if_pos (by omega)] <;> first | rfl | (rw [hs]; rfl)) | (rw [if_neg (by omega)] <;> first | rfl | (refine Prod.ext (auth_ext rfl rfl rfl rfl rfl rfl rfl ?_) rfl; first | (simp_all; done) | (simp_all; omega))))
                            · first | (exfalso; omega) | (simp [mlook] at hc8'; rw [mv5 (hr0.trans (by omega)) (by omega) (by omega)]; first | (rw [if_pos (by omega)] <;> first | rfl | (rw [hs]; rfl)) | (rw [if_neg (by omega)] <;> first | rfl | (refine Prod.ext (auth_ext rfl rfl rfl rfl rfl rfl rfl ?_) rfl; first | (simp_all; done) | (simp_all; omega))))
                            · first | (exfalso; omega) | (simp [mlook] at hc8'; rw [mv6 (hr0.trans (by omega)) (by omega) (by omega)]; first | (rw [if_pos (by omega)] <;> first | rfl | (rw [hs]; rfl)) | (rw [if_neg (by omega)] <;> first | rfl | (refine Prod.ext (auth_ext rfl rfl rfl rfl rfl rfl rfl ?_) rfl; first | (simp_all; done) | (simp_all; omega))))
                            · first | (exfalso; omega) | (simp [mlook] at hc8'; rw [mv7 (hr0.trans (by omega)) (by omega) (by omega)]; first | (rw [if_pos (by omega)] <;> first | rfl | (rw [hs]; rfl)) | (rw [if_neg (by omega)] <;> first | rfl | (refine Prod.ext (auth_ext rfl rfl rfl rfl rfl rfl rfl ?_) rfl; first | (simp_all; done) | (simp_all; omega))))
                            · first | (exfalso; omega) | (simp [mlook] at hc8'; rw [mv8 (hr0.trans (by omega)) (by omega) (by omega)]; first | (rw [if_pos (by omega)] <;> first | rfl | (rw [hs]; rfl)) | (rw [if_neg (by omega)] <;> first | rfl | (refine Prod.ext (auth_ext rfl rfl rfl rfl rfl rfl rfl ?_) rfl; first | (simp_all; done) | (simp_all; omega))))
                          rw [hX] at hr; clear hX
                          simp only [Prod.mk.injEq] at hr; obtain ⟨rfl, rfl⟩ := hr
                          refine retQ_mk (av' := outOf [(.g [(cI a.card), (cI a.shop), (cI (a.sum - n)), (cI a.captured), (cI a.refunded), (cI a.disputed), (cI a.till), (cB a.shut)]), (.c (cI 0))]) (nb' := []) (retQ_ret ⟨[(6, (aC (.p 1 0 0 0))), (7, (aI 0))], [(1, (.box 75 [(cI a.card), (cI a.shop), (cI (a.sum - n)), (cI a.captured), (cI a.refunded), (cI a.disputed), (cI a.till), (cB a.shut)]))], 2⟩ [.cell 6 75, .tmp 7] [(.g [(cI a.card), (cI a.shop), (cI (a.sum - n)), (cI a.captured), (cI a.refunded), (cI a.disputed), (cI a.till), (cB a.shut)]), (.c (cI 0))] (Weak.ren id (⟨by first | rfl | (simp only [AV.map, GV.map, CV.map, AB.map', id]; done) | (congr 3; omega) | (congr 4; omega) | (simp only [List.length_append, List.length_cons, List.length_nil, List.length_set]; rfl), by first | rfl | (simp only [AV.map, GV.map, CV.map, AB.map', id]; done) | (congr 3; omega) | (congr 4; omega) | (simp only [List.length_append, List.length_cons, List.length_nil, List.length_set]; rfl),  trivial⟩) (⟨by first | rfl | (simp only [AV.map, GV.map, CV.map, AB.map', id]; done) | (congr 3; omega) | (congr 4; omega) | (simp only [List.length_append, List.length_cons, List.length_nil, List.length_set]; rfl),  trivial⟩) rfl) rfl ⟨.agg rfl rfl (fun _ => run_isAgg Try.underlying75) sz75, .tmp rfl, trivial⟩ trivial) ?_ ?_
                          · first | rfl | (simp [outOf, aC]; done) | (simp [outOf, aC]; omega)
                          · first | rfl | (simp; done) | (simp; omega)
                    ·
                      have hc15' := hc15; try simp only [sumB, Bool.not_eq_true', Bool.not_eq_false', Bool.or_eq_true, Bool.or_eq_false_iff, Bool.and_eq_true, Bool.and_eq_false_imp, decide_eq_true_eq, decide_eq_false_iff_not, Bool.not_not, Bool.not_true, Bool.not_false] at hc15'
                      refine AC.seq ?_
                      refine AC.seq ?_
                      refine AC.region ?_
                      refine AL.val (Wanted.plain rfl) (g_binI rfl rfl rfl rfl) rfl rfl ?_
                      refine AL.fast 1 rfl ?_
                      refine AL.nil ?_
                      refine then_ok ?_
                      refine AC.cond rfl (fun hc20 => ?_) (fun hc20 => ?_)
                      ·
                        have hc20' := hc20; try simp only [sumB, Bool.not_eq_true', Bool.not_eq_false', Bool.or_eq_true, Bool.or_eq_false_iff, Bool.and_eq_true, Bool.and_eq_false_imp, decide_eq_true_eq, decide_eq_false_iff_not, Bool.not_not, Bool.not_true, Bool.not_false] at hc20'
                        refine AC.skip ?_
                        refine then_ok ?_
                        refine AC.cond rfl (fun _ => ?_) (fun hno => absurd (hc20.symm.trans hno) (by decide))
                        refine AC.region ?_
                        refine AL.val (Wanted.plain rfl) (g_fieldP rfl rfl Try.underlying75 rfl sz3 (by decide)) rfl rfl ?_
                        refine AL.val (Wanted.plain rfl) (g_loadB rfl rfl rfl Try.underlying3 rfl rfl) rfl rfl ?_
                        refine AL.fast 1 rfl ?_
                        refine AL.val (Wanted.plain rfl) (g_binI rfl rfl rfl (wrap_ok (by first | omega | (simp; done) | (simp; omega) | (have hq := rightAuth (hr0.trans (by omega)); omega)))) rfl rfl ?_
                        refine AL.val (Wanted.plain rfl) (g_fieldP rfl rfl Try.underlying75 rfl sz3 (by decide)) rfl rfl ?_
                        refine AL.sto (h' := [(2, (.map (mV [(1, 1000000 - a.sum), (2, a.sum - a.captured), (3, a.sum - a.captured), (4, a.sum - a.captured), (5, (a.captured - a.refunded) - a.disputed), (6, (a.captured - a.refunded) - a.disputed), (7, a.disputed), (8, a.disputed)]) 8)), (1, (.box 75 [(cI 0), (cI 0), (cI 0), (cI 0), (cI 0), (cI 0), (cI 0), (cB false)])), (0, (.box 75 [(cI a.card), (cI a.shop), (cI a.sum), (cI (a.captured + n)), (cI a.refunded), (cI a.disputed), (cI a.till), (cB a.shut)]))]) (Wanted.plain rfl) (g_storeB rfl rfl rfl rfl rfl sz3 rfl (Nat.le_of_ble_eq_true rfl) rfl) rfl rfl rfl rfl ?_
                        refine AL.nil ?_
                        refine block_ok ?_
                        refine then_ok ?_
                        refine AC.seq ?_
                        refine AC.cutB 158 ((decide (kind = 3)) || (((decide (kind = 2)) || (decide (kind = 4))) && (decide (a.sum = (a.captured + n))))) ?_ ?_
                        ·
                          refine AC.region ?_
                          refine AL.fast 1 rfl ?_
                          refine AL.val (Wanted.plain rfl) (g_binI rfl rfl rfl rfl) rfl rfl ?_
                          refine AL.fast 1 rfl ?_
                          refine AL.dec (t := 144) rfl (fun hb22 => ?_) (fun hb22 => ?_)
                          ·
                            have hb22' := hb22; try simp only [sumB, Bool.not_eq_true', Bool.not_eq_false', Bool.or_eq_true, Bool.or_eq_false_iff, Bool.and_eq_true, Bool.and_eq_false_imp, decide_eq_true_eq, decide_eq_false_iff_not, Bool.not_not, Bool.not_true, Bool.not_false] at hb22'
                            refine AL.fast 14 rfl ?_
                            refine AL.nil ?_
                            refine then_ok ?_
                            exact Weak.popB 18 rfl rfl (by first | (simp [hb22]; done) | (simp_all; done) | (exfalso; simp_all; done) | (simp_all; omega)) rfl
                          ·
                            have hb22' := hb22; try simp only [sumB, Bool.not_eq_true', Bool.not_eq_false', Bool.or_eq_true, Bool.or_eq_false_iff, Bool.and_eq_true, Bool.and_eq_false_imp, decide_eq_true_eq, decide_eq_false_iff_not, Bool.not_not, Bool.not_true, Bool.not_false] at hb22'
                            refine AL.fast 1 rfl ?_
                            refine AL.val (Wanted.yes rfl rfl rfl) (g_binI rfl rfl rfl rfl) rfl rfl ?_
                            refine AL.fast 1 rfl ?_
                            refine AL.dec (t := 147) rfl (fun _ => ?_) (fun hno => absurd (hc20.symm.trans hno) (by decide))
                            refine AL.fast 4 rfl ?_
                            refine AL.val (Wanted.yes rfl rfl rfl) (g_fieldP rfl rfl Try.underlying75 rfl sz3 (by decide)) rfl rfl ?_
                            refine AL.val (Wanted.yes rfl rfl rfl) (g_loadB rfl rfl rfl Try.underlying3 rfl rfl) rfl rfl ?_
                            refine AL.val (Wanted.yes rfl rfl rfl) (g_fieldP rfl rfl Try.underlying75 rfl sz3 (by decide)) rfl rfl ?_
                            refine AL.val (Wanted.yes rfl rfl rfl) (g_loadB rfl rfl rfl Try.underlying3 rfl rfl) rfl rfl ?_
                            refine AL.val (Wanted.yes rfl rfl rfl) (g_binI rfl rfl rfl rfl) rfl rfl ?_
                            refine AL.fast 2 rfl ?_
                            refine AL.nil ?_
                            refine then_ok ?_
                            exact Weak.popB 19 rfl rfl (by first | (simp [hb22]; done) | (simp_all; done) | (exfalso; simp_all; done) | (simp_all; omega)) rfl
                        ·
                          refine AC.cond rfl (fun hc24 => ?_) (fun hc24 => ?_)
                          ·
                            have hc24' := hc24; try simp only [sumB, Bool.not_eq_true', Bool.not_eq_false', Bool.or_eq_true, Bool.or_eq_false_iff, Bool.and_eq_true, Bool.and_eq_false_imp, decide_eq_true_eq, decide_eq_false_iff_not, Bool.not_not, Bool.not_true, Bool.not_false] at hc24'
                            refine AC.region ?_
                            refine AL.val (Wanted.plain rfl) (g_fieldP rfl rfl Try.underlying75 rfl sz4 (by decide)) rfl rfl ?_
                            refine AL.sto (h' := [(2, (.map (mV [(1, 1000000 - a.sum), (2, a.sum - a.captured), (3, a.sum - a.captured), (4, a.sum - a.captured), (5, (a.captured - a.refunded) - a.disputed), (6, (a.captured - a.refunded) - a.disputed), (7, a.disputed), (8, a.disputed)]) 8)), (1, (.box 75 [(cI 0), (cI 0), (cI 0), (cI 0), (cI 0), (cI 0), (cI 0), (cB false)])), (0, (.box 75 [(cI a.card), (cI a.shop), (cI a.sum), (cI (a.captured + n)), (cI a.refunded), (cI a.disputed), (cI a.till), (cB true)]))]) (Wanted.plain rfl) (g_storeB rfl rfl rfl rfl rfl sz4 rfl (Nat.le_of_ble_eq_true rfl) rfl) rfl rfl rfl rfl ?_
                            refine AL.nil ?_
                            refine then_ok ?_
                            refine AC.seq ?_
                            refine AC.region ?_
                            refine AL.val (Wanted.plain rfl) (g_loadBs rfl rfl rfl Try.underlying75 rfl sz75 rfl rfl) rfl rfl ?_
                            refine AL.sto (h' := [(2, (.map (mV [(1, 1000000 - a.sum), (2, a.sum - a.captured), (3, a.sum - a.captured), (4, a.sum - a.captured), (5, (a.captured - a.refunded) - a.disputed), (6, (a.captured - a.refunded) - a.disputed), (7, a.disputed), (8, a.disputed)]) 8)), (1, (.box 75 [(cI a.card), (cI a.shop), (cI a.sum), (cI (a.captured + n)), (cI a.refunded), (cI a.disputed), (cI a.till), (cB true)])), (0, (.box 75 [(cI a.card), (cI a.shop), (cI a.sum), (cI (a.captured + n)), (cI a.refunded), (cI a.disputed), (cI a.till), (cB true)]))]) (Wanted.plain rfl) (g_storeB rfl rfl rfl rfl rfl sz75 rfl (Nat.le_of_ble_eq_true rfl) rfl) rfl rfl rfl rfl ?_
                            refine AL.fast 1 rfl ?_
                            refine AL.nil ?_
                            refine then_ok ?_
                            refine AC.ret ?_
                            have hX : moveAuth a kind n = ((⟨a.card, a.shop, a.sum, a.captured + n, a.refunded, a.disputed, a.till, true⟩ : Auth), 0) := by
                              (have hq := rightAuth (hr0.trans (by omega)); have hk : kind = 1 ∨ kind = 2 ∨ kind = 3 ∨ kind = 4 ∨ kind = 5 ∨ kind = 6 ∨ kind = 7 ∨ kind = 8 := by omega); (rcases hk with rfl | rfl | rfl | rfl | rfl | rfl | rfl | rfl)
                              · first | (exfalso; omega) | (simp [mlook] at hc8'; have hs : a.shut = false := hc7' (by omega); rw [mv1 (hr0.trans (by omega)) (by omega) (by omega) hs]; first | (rw [if_pos (by omega)] <;> first | rfl | (rw [hs]; rfl)) | (rw [if_neg (by omega)] <;> first | rfl | (refine Prod.ext (auth_ext rfl rfl rfl rfl rfl rfl rfl ?_) rfl; first | (simp_all; done) | (simp_all; omega))))
                              · first | (exfalso; omega) | (simp [mlook] at hc8'; have hs : a.shut = false := hc7' (by omega); rw [mv2 (hr0.trans (by omega)) (by omega) (by omega) hs]; first | (rw [if_pos (by omega)] <;> first | rfl | (rw [hs]; rfl)) | (rw [if_neg (by omega)] <;> first | rfl | (refine Prod.ext (auth_ext rfl rfl rfl rfl rfl rfl rfl ?_) rfl; first | (simp_all; done) | (simp_all; omega))))
                              · first | (exfalso; omega) | (simp [mlook] at hc8'; have hs : a.shut = false := hc7' (by omega); rw [mv3 (hr0.trans (by omega)) (by omega) (by omega) hs]; first | (rw [if_pos (by omega)] <;> first | rfl | (rw [hs]; rfl)) | (rw [if_neg (by omega)] <;> first | rfl | (refine Prod.ext (auth_ext rfl rfl rfl rfl rfl rfl rfl ?_) rfl; first | (simp_all; done) | (simp_all; omega))))
                              · first | (exfalso; omega) | (simp [mlook] at hc8'; have hs : a.shut = false := hc7' (by omega); rw [mv4 (hr0.trans (by omega)) (by omega) (by omega) hs]; first | (rw [if_pos (by omega)] <;> first | rfl | (rw [hs]; rfl)) | (rw [if_neg (by omega)] <;> first | rfl | (refine Prod.ext (auth_ext rfl rfl rfl rfl rfl rfl rfl ?_) rfl; first | (simp_all; done) | (simp_all; omega))))
                              · first | (exfalso; omega) | (simp [mlook] at hc8'; rw [mv5 (hr0.trans (by omega)) (by omega) (by omega)]; first | (rw [if_pos (by omega)] <;> first | rfl | (rw [hs]; rfl)) | (rw [if_neg (by omega)] <;> first | rfl | (refine Prod.ext (auth_ext rfl rfl rfl rfl rfl rfl rfl ?_) rfl; first | (simp_all; done) | (simp_all; omega))))
                              · first | (exfalso; omega) | (simp [mlook] at hc8'; rw [mv6 (hr0.trans (by omega)) (by omega) (by omega)]; first | (rw [if_pos (by omega)] <;> first | rfl | (rw [hs]; rfl)) | (rw [if_neg (by omega)] <;> first | rfl | (refine Prod.ext (auth_ext rfl rfl rfl rfl rfl rfl rfl ?_) rfl; first | (simp_all; done) | (simp_all; omega))))
                              · first | (exfalso; omega) | (simp [mlook] at hc8'; rw [mv7 (hr0.trans (by omega)) (by omega) (by omega)]; first | (rw [if_pos (by omega)] <;> first | rfl | (rw [hs]; rfl)) | (rw [if_neg (by omega)] <;> first | rfl | (refine Prod.ext (auth_ext rfl rfl rfl rfl rfl rfl rfl ?_) rfl; first | (simp_all; done) | (simp_all; omega))))
                              · first | (exfalso; omega) | (simp [mlook] at hc8'; rw [mv8 (hr0.trans (by omega)) (by omega) (by omega)]; first | (rw [if_pos (by omega)] <;> first | rfl | (rw [hs]; rfl)) | (rw [if_neg (by omega)] <;> first | rfl | (refine Prod.ext (auth_ext rfl rfl rfl rfl rfl rfl rfl ?_) rfl; first | (simp_all; done) | (simp_all; omega))))
                            rw [hX] at hr; clear hX
                            simp only [Prod.mk.injEq] at hr; obtain ⟨rfl, rfl⟩ := hr
                            refine retQ_mk (av' := outOf [(.g [(cI a.card), (cI a.shop), (cI a.sum), (cI (a.captured + n)), (cI a.refunded), (cI a.disputed), (cI a.till), (cB true)]), (.c (cI 0))]) (nb' := []) (retQ_ret ⟨[(6, (aC (.p 1 0 0 0))), (7, (aI 0))], [(1, (.box 75 [(cI a.card), (cI a.shop), (cI a.sum), (cI (a.captured + n)), (cI a.refunded), (cI a.disputed), (cI a.till), (cB true)]))], 2⟩ [.cell 6 75, .tmp 7] [(.g [(cI a.card), (cI a.shop), (cI a.sum), (cI (a.captured + n)), (cI a.refunded), (cI a.disputed), (cI a.till), (cB true)]), (.c (cI 0))] (Weak.ren id (⟨by first | rfl | (simp only [AV.map, GV.map, CV.map, AB.map', id]; done) | (congr 3; omega) | (congr 4; omega) | (simp only [List.length_append, List.length_cons, List.length_nil, List.length_set]; rfl), by first | rfl | (simp only [AV.map, GV.map, CV.map, AB.map', id]; done) | (congr 3; omega) | (congr 4; omega) | (simp only [List.length_append, List.length_cons, List.length_nil, List.length_set]; rfl),  trivial⟩) (⟨by first | rfl | (simp only [AV.map, GV.map, CV.map, AB.map', id]; done) | (congr 3; omega) | (congr 4; omega) | (simp only [List.length_append, List.length_cons, List.length_nil, List.length_set]; rfl),  trivial⟩) rfl) rfl ⟨.agg rfl rfl (fun _ => run_isAgg Try.underlying75) sz75, .tmp rfl, trivial⟩ trivial) ?_ ?_
                            · first | rfl | (simp [outOf, aC]; done) | (simp [outOf, aC]; omega)
                            · first | rfl | (simp; done) | (simp; omega)
                          ·
                            have hc24' := hc24; try simp only [sumB, Bool.not_eq_true', Bool.not_eq_false', Bool.or_eq_true, Bool.or_eq_false_iff, Bool.and_eq_true, Bool.and_eq_false_imp, decide_eq_true_eq, decide_eq_false_iff_not, Bool.not_not, Bool.not_true, Bool.not_false] at hc24'
                            refine AC.skip ?_
                            refine then_ok ?_
                            refine AC.seq ?_
                            refine AC.region ?_
                            refine AL.val (Wanted.plain rfl) (g_loadBs rfl rfl rfl Try.underlying75 rfl sz75 rfl rfl) rfl rfl ?_
                            refine AL.sto (h' := [(2, (.map (mV [(1, 1000000 - a.sum), (2, a.sum - a.captured), (3, a.sum - a.captured), (4, a.sum - a.captured), (5, (a.captured - a.refunded) - a.disputed), (6, (a.captured - a.refunded) - a.disputed), (7, a.disputed), (8, a.disputed)]) 8)), (1, (.box 75 [(cI a.card), (cI a.shop), (cI a.sum), (cI (a.captured + n)), (cI a.refunded), (cI a.disputed), (cI a.till), (cB a.shut)])), (0, (.box 75 [(cI a.card), (cI a.shop), (cI a.sum), (cI (a.captured + n)), (cI a.refunded), (cI a.disputed), (cI a.till), (cB a.shut)]))]) (Wanted.plain rfl) (g_storeB rfl rfl rfl rfl rfl sz75 rfl (Nat.le_of_ble_eq_true rfl) rfl) rfl rfl rfl rfl ?_
                            refine AL.fast 1 rfl ?_
                            refine AL.nil ?_
                            refine then_ok ?_
                            refine AC.ret ?_
                            have hX : moveAuth a kind n = ((⟨a.card, a.shop, a.sum, a.captured + n, a.refunded, a.disputed, a.till, a.shut⟩ : Auth), 0) := by
                              (have hq := rightAuth (hr0.trans (by omega)); have hk : kind = 1 ∨ kind = 2 ∨ kind = 3 ∨ kind = 4 ∨ kind = 5 ∨ kind = 6 ∨ kind = 7 ∨ kind = 8 := by omega); (rcases hk with rfl | rfl | rfl | rfl | rfl | rfl | rfl | rfl)
                              · first | (exfalso; omega) | (simp [mlook] at hc8'; have hs : a.shut = false := hc7' (by omega); rw [mv1 (hr0.trans (by omega)) (by omega) (by omega) hs]; first | (rw [if_pos (by omega)] <;> first | rfl | (rw [hs]; rfl)) | (rw [if_neg (by omega)] <;> first | rfl | (refine Prod.ext (auth_ext rfl rfl rfl rfl rfl rfl rfl ?_) rfl; first | (simp_all; done) | (simp_all; omega))))
                              · first | (exfalso; omega) | (simp [mlook] at hc8'; have hs : a.shut = false := hc7' (by omega); rw [mv2 (hr0.trans (by omega)) (by omega) (by omega) hs]; first | (rw [if_pos (by omega)] <;> first | rfl | (rw [hs]; rfl)) | (rw [if_neg (by omega)] <;> first | rfl | (refine Prod.ext (auth_ext rfl rfl rfl rfl rfl rfl rfl ?_) rfl; first | (simp_all; done) | (simp_all; omega))))
                              · first | (exfalso; omega) | (simp [mlook] at hc8'; have hs : a.shut = false := hc7' (by omega); rw [mv3 (hr0.trans (by omega)) (by omega) (by omega) hs]; first | (rw [if_pos (by omega)] <;> first | rfl | (rw [hs]; rfl)) | (rw [if_neg (by omega)] <;> first | rfl | (refine Prod.ext (auth_ext rfl rfl rfl rfl rfl rfl rfl ?_) rfl; first | (simp_all; done) | (simp_all; omega))))
                              · first | (exfalso; omega) | (simp [mlook] at hc8'; have hs : a.shut = false := hc7' (by omega); rw [mv4 (hr0.trans (by omega)) (by omega) (by omega) hs]; first | (rw [if_pos (by omega)] <;> first | rfl | (rw [hs]; rfl)) | (rw [if_neg (by omega)] <;> first | rfl | (refine Prod.ext (auth_ext rfl rfl rfl rfl rfl rfl rfl ?_) rfl; first | (simp_all; done) | (simp_all; omega))))
                              · first | (exfalso; omega) | (simp [mlook] at hc8'; rw [mv5 (hr0.trans (by omega)) (by omega) (by omega)]; first | (rw [if_pos (by omega)] <;> first | rfl | (rw [hs]; rfl)) | (rw [if_neg (by omega)] <;> first | rfl | (refine Prod.ext (auth_ext rfl rfl rfl rfl rfl rfl rfl ?_) rfl; first | (simp_all; done) | (simp_all; omega))))
                              · first | (exfalso; omega) | (simp [mlook] at hc8'; rw [mv6 (hr0.trans (by omega)) (by omega) (by omega)]; first | (rw [if_pos (by omega)] <;> first | rfl | (rw [hs]; rfl)) | (rw [if_neg (by omega)] <;> first | rfl | (refine Prod.ext (auth_ext rfl rfl rfl rfl rfl rfl rfl ?_) rfl; first | (simp_all; done) | (simp_all; omega))))
                              · first | (exfalso; omega) | (simp [mlook] at hc8'; rw [mv7 (hr0.trans (by omega)) (by omega) (by omega)]; first | (rw [if_pos (by omega)] <;> first | rfl | (rw [hs]; rfl)) | (rw [if_neg (by omega)] <;> first | rfl | (refine Prod.ext (auth_ext rfl rfl rfl rfl rfl rfl rfl ?_) rfl; first | (simp_all; done) | (simp_all; omega))))
                              · first | (exfalso; omega) | (simp [mlook] at hc8'; rw [mv8 (hr0.trans (by omega)) (by omega) (by omega)]; first | (rw [if_pos (by omega)] <;> first | rfl | (rw [hs]; rfl)) | (rw [if_neg (by omega)] <;> first | rfl | (refine Prod.ext (auth_ext rfl rfl rfl rfl rfl rfl rfl ?_) rfl; first | (simp_all; done) | (simp_all; omega))))
                            rw [hX] at hr; clear hX
                            simp only [Prod.mk.injEq] at hr; obtain ⟨rfl, rfl⟩ := hr
                            refine retQ_mk (av' := outOf [(.g [(cI a.card), (cI a.shop), (cI a.sum), (cI (a.captured + n)), (cI a.refunded), (cI a.disputed), (cI a.till), (cB a.shut)]), (.c (cI 0))]) (nb' := []) (retQ_ret ⟨[(6, (aC (.p 1 0 0 0))), (7, (aI 0))], [(1, (.box 75 [(cI a.card), (cI a.shop), (cI a.sum), (cI (a.captured + n)), (cI a.refunded), (cI a.disputed), (cI a.till), (cB a.shut)]))], 2⟩ [.cell 6 75, .tmp 7] [(.g [(cI a.card), (cI a.shop), (cI a.sum), (cI (a.captured + n)), (cI a.refunded), (cI a.disputed), (cI a.till), (cB a.shut)]), (.c (cI 0))] (Weak.ren id (⟨by first | rfl | (simp only [AV.map, GV.map, CV.map, AB.map', id]; done) | (congr 3; omega) | (congr 4; omega) | (simp only [List.length_append, List.length_cons, List.length_nil, List.length_set]; rfl), by first | rfl | (simp only [AV.map, GV.map, CV.map, AB.map', id]; done) | (congr 3; omega) | (congr 4; omega) | (simp only [List.length_append, List.length_cons, List.length_nil, List.length_set]; rfl),  trivial⟩) (⟨by first | rfl | (simp only [AV.map, GV.map, CV.map, AB.map', id]; done) | (congr 3; omega) | (congr 4; omega) | (simp only [List.length_append, List.length_cons, List.length_nil, List.length_set]; rfl),  trivial⟩) rfl) rfl ⟨.agg rfl rfl (fun _ => run_isAgg Try.underlying75) sz75, .tmp rfl, trivial⟩ trivial) ?_ ?_
                            · first | rfl | (simp [outOf, aC]; done) | (simp [outOf, aC]; omega)
                            · first | rfl | (simp; done) | (simp; omega)
                      ·
                        have hc20' := hc20; try simp only [sumB, Bool.not_eq_true', Bool.not_eq_false', Bool.or_eq_true, Bool.or_eq_false_iff, Bool.and_eq_true, Bool.and_eq_false_imp, decide_eq_true_eq, decide_eq_false_iff_not, Bool.not_not, Bool.not_true, Bool.not_false] at hc20'
                        refine AC.region ?_
                        refine AL.val (Wanted.plain rfl) (g_binI rfl rfl rfl rfl) rfl rfl ?_
                        refine AL.fast 1 rfl ?_
                        refine AL.nil ?_
                        refine then_ok ?_
                        refine AC.cond rfl (fun hc25 => ?_) (fun hc25 => ?_)
                        ·
                          have hc25' := hc25; try simp only [sumB, Bool.not_eq_true', Bool.not_eq_false', Bool.or_eq_true, Bool.or_eq_false_iff, Bool.and_eq_true, Bool.and_eq_false_imp, decide_eq_true_eq, decide_eq_false_iff_not, Bool.not_not, Bool.not_true, Bool.not_false] at hc25'
                          refine AC.region ?_
                          refine AL.val (Wanted.plain rfl) (g_fieldP rfl rfl Try.underlying75 rfl sz3 (by decide)) rfl rfl ?_
                          refine AL.val (Wanted.plain rfl) (g_loadB rfl rfl rfl Try.underlying3 rfl rfl) rfl rfl ?_
                          refine AL.fast 1 rfl ?_
                          refine AL.val (Wanted.plain rfl) (g_binI rfl rfl rfl (wrap_ok (by first | omega | (simp; done) | (simp; omega) | (have hq := rightAuth (hr0.trans (by omega)); omega)))) rfl rfl ?_
                          refine AL.val (Wanted.plain rfl) (g_fieldP rfl rfl Try.underlying75 rfl sz3 (by decide)) rfl rfl ?_
                          refine AL.sto (h' := [(2, (.map (mV [(1, 1000000 - a.sum), (2, a.sum - a.captured), (3, a.sum - a.captured), (4, a.sum - a.captured), (5, (a.captured - a.refunded) - a.disputed), (6, (a.captured - a.refunded) - a.disputed), (7, a.disputed), (8, a.disputed)]) 8)), (1, (.box 75 [(cI 0), (cI 0), (cI 0), (cI 0), (cI 0), (cI 0), (cI 0), (cB false)])), (0, (.box 75 [(cI a.card), (cI a.shop), (cI a.sum), (cI (a.captured + n)), (cI a.refunded), (cI a.disputed), (cI a.till), (cB a.shut)]))]) (Wanted.plain rfl) (g_storeB rfl rfl rfl rfl rfl sz3 rfl (Nat.le_of_ble_eq_true rfl) rfl) rfl rfl rfl rfl ?_
                          refine AL.nil ?_
                          refine block_ok ?_
                          refine then_ok ?_
                          refine AC.seq ?_
                          refine AC.cutB 158 ((decide (kind = 3)) || (((decide (kind = 2)) || (decide (kind = 4))) && (decide (a.sum = (a.captured + n))))) ?_ ?_
                          ·
                            refine AC.region ?_
                            refine AL.fast 1 rfl ?_
                            refine AL.val (Wanted.plain rfl) (g_binI rfl rfl rfl rfl) rfl rfl ?_
                            refine AL.fast 1 rfl ?_
                            refine AL.dec (t := 144) rfl (fun _ => ?_) (fun hno => absurd (hc25.symm.trans hno) (by decide))
                            refine AL.fast 14 rfl ?_
                            refine AL.nil ?_
                            refine then_ok ?_
                            exact Weak.popB 18 rfl rfl (by first | (simp []; done) | (simp_all; done) | (exfalso; simp_all; done) | (simp_all; omega)) rfl
                          ·
                            refine AC.cond rfl (fun hc27 => ?_) (fun hc27 => ?_)
                            ·
                              have hc27' := hc27; try simp only [sumB, Bool.not_eq_true', Bool.not_eq_false', Bool.or_eq_true, Bool.or_eq_false_iff, Bool.and_eq_true, Bool.and_eq_false_imp, decide_eq_true_eq, decide_eq_false_iff_not, Bool.not_not, Bool.not_true, Bool.not_false] at hc27'
                              refine AC.region ?_
                              refine AL.val (Wanted.plain rfl) (g_fieldP rfl rfl Try.underlying75 rfl sz4 (by decide)) rfl rfl ?_
                              refine AL.sto (h' := [(2, (.map (mV [(1, 1000000 - a.sum), (2, a.sum - a.captured), (3, a.sum - a.captured), (4, a.sum - a.captured), (5, (a.captured - a.refunded) - a.disputed), (6, (a.captured - a.refunded) - a.disputed), (7, a.disputed), (8, a.disputed)]) 8)), (1, (.box 75 [(cI 0), (cI 0), (cI 0), (cI 0), (cI 0), (cI 0), (cI 0), (cB false)])), (0, (.box 75 [(cI a.card), (cI a.shop), (cI a.sum), (cI (a.captured + n)), (cI a.refunded), (cI a.disputed), (cI a.till), (cB true)]))]) (Wanted.plain rfl) (g_storeB rfl rfl rfl rfl rfl sz4 rfl (Nat.le_of_ble_eq_true rfl) rfl) rfl rfl rfl rfl ?_
                              refine AL.nil ?_
                              refine then_ok ?_
                              refine AC.seq ?_
                              refine AC.region ?_
                              refine AL.val (Wanted.plain rfl) (g_loadBs rfl rfl rfl Try.underlying75 rfl sz75 rfl rfl) rfl rfl ?_
                              refine AL.sto (h' := [(2, (.map (mV [(1, 1000000 - a.sum), (2, a.sum - a.captured), (3, a.sum - a.captured), (4, a.sum - a.captured), (5, (a.captured - a.refunded) - a.disputed), (6, (a.captured - a.refunded) - a.disputed), (7, a.disputed), (8, a.disputed)]) 8)), (1, (.box 75 [(cI a.card), (cI a.shop), (cI a.sum), (cI (a.captured + n)), (cI a.refunded), (cI a.disputed), (cI a.till), (cB true)])), (0, (.box 75 [(cI a.card), (cI a.shop), (cI a.sum), (cI (a.captured + n)), (cI a.refunded), (cI a.disputed), (cI a.till), (cB true)]))]) (Wanted.plain rfl) (g_storeB rfl rfl rfl rfl rfl sz75 rfl (Nat.le_of_ble_eq_true rfl) rfl) rfl rfl rfl rfl ?_
                              refine AL.fast 1 rfl ?_
                              refine AL.nil ?_
                              refine then_ok ?_
                              refine AC.ret ?_
                              have hX : moveAuth a kind n = ((⟨a.card, a.shop, a.sum, a.captured + n, a.refunded, a.disputed, a.till, true⟩ : Auth), 0) := by
                                (have hq := rightAuth (hr0.trans (by omega)); have hk : kind = 1 ∨ kind = 2 ∨ kind = 3 ∨ kind = 4 ∨ kind = 5 ∨ kind = 6 ∨ kind = 7 ∨ kind = 8 := by omega); (rcases hk with rfl | rfl | rfl | rfl | rfl | rfl | rfl | rfl)
                                · first | (exfalso; omega) | (simp [mlook] at hc8'; have hs : a.shut = false := hc7' (by omega); rw [mv1 (hr0.trans (by omega)) (by omega) (by omega) hs]; first | (rw [if_pos (by omega)] <;> first | rfl | (rw [hs]; rfl)) | (rw [if_neg (by omega)] <;> first | rfl | (refine Prod.ext (auth_ext rfl rfl rfl rfl rfl rfl rfl ?_) rfl; first | (simp_all; done) | (simp_all; omega))))
                                · first | (exfalso; omega) | (simp [mlook] at hc8'; have hs : a.shut = false := hc7' (by omega); rw [mv2 (hr0.trans (by omega)) (by omega) (by omega) hs]; first | (rw [if_pos (by omega)] <;> first | rfl | (rw [hs]; rfl)) | (rw [if_neg (by omega)] <;> first | rfl | (refine Prod.ext (auth_ext rfl rfl rfl rfl rfl rfl rfl ?_) rfl; first | (simp_all; done) | (simp_all; omega))))
                                · first | (exfalso; omega) | (simp [mlook] at hc8'; have hs : a.shut = false := hc7' (by omega); rw [mv3 (hr0.trans (by omega)) (by omega) (by omega) hs]; first | (rw [if_pos (by omega)] <;> first | rfl | (rw [hs]; rfl)) | (rw [if_neg (by omega)] <;> first | rfl | (refine Prod.ext (auth_ext rfl rfl rfl rfl rfl rfl rfl ?_) rfl; first | (simp_all; done) | (simp_all; omega))))
                                · first | (exfalso; omega) | (simp [mlook] at hc8'; have hs : a.shut = false := hc7' (by omega); rw [mv4 (hr0.trans (by omega)) (by omega) (by omega) hs]; first | (rw [if_pos (by omega)] <;> first | rfl | (rw [hs]; rfl)) | (rw [if_neg (by omega)] <;> first | rfl | (refine Prod.ext (auth_ext rfl rfl rfl rfl rfl rfl rfl ?_) rfl; first | (simp_all; done) | (simp_all; omega))))
                                · first | (exfalso; omega) | (simp [mlook] at hc8'; rw [mv5 (hr0.trans (by omega)) (by omega) (by omega)]; first | (rw [if_pos (by omega)] <;> first | rfl | (rw [hs]; rfl)) | (rw [if_neg (by omega)] <;> first | rfl | (refine Prod.ext (auth_ext rfl rfl rfl rfl rfl rfl rfl ?_) rfl; first | (simp_all; done) | (simp_all; omega))))
                                · first | (exfalso; omega) | (simp [mlook] at hc8'; rw [mv6 (hr0.trans (by omega)) (by omega) (by omega)]; first | (rw [if_pos (by omega)] <;> first | rfl | (rw [hs]; rfl)) | (rw [if_neg (by omega)] <;> first | rfl | (refine Prod.ext (auth_ext rfl rfl rfl rfl rfl rfl rfl ?_) rfl; first | (simp_all; done) | (simp_all; omega))))
                                · first | (exfalso; omega) | (simp [mlook] at hc8'; rw [mv7 (hr0.trans (by omega)) (by omega) (by omega)]; first | (rw [if_pos (by omega)] <;> first | rfl | (rw [hs]; rfl)) | (rw [if_neg (by omega)] <;> first | rfl | (refine Prod.ext (auth_ext rfl rfl rfl rfl rfl rfl rfl ?_) rfl; first | (simp_all; done) | (simp_all; omega))))
                                · first | (exfalso; omega) | (simp [mlook] at hc8'; rw [mv8 (hr0.trans (by omega)) (by omega) (by omega)]; first | (rw [if_pos (by omega)] <;> first | rfl | (rw [hs]; rfl)) | (rw [if_neg (by omega)] <;> first | rfl | (refine Prod.ext (auth_ext rfl rfl rfl rfl rfl rfl rfl ?_) rfl; first | (simp_all; done) | (simp_all; omega))))
                              rw [hX] at hr; clear hX
                              simp only [Prod.mk.injEq] at hr; obtain ⟨rfl, rfl⟩ := hr
                              refine retQ_mk (av' := outOf [(.g [(cI a.card), (cI a.shop), (cI a.sum), (cI (a.captured + n)), (cI a.refunded), (cI a.disputed), (cI a.till), (cB true)]), (.c (cI 0))]) (nb' := []) (retQ_ret ⟨[(6, (aC (.p 1 0 0 0))), (7, (aI 0))], [(1, (.box 75 [(cI a.card), (cI a.shop), (cI a.sum), (cI (a.captured + n)), (cI a.refunded), (cI a.disputed), (cI a.till), (cB true)]))], 2⟩ [.cell 6 75, .tmp 7] [(.g [(cI a.card), (cI a.shop), (cI a.sum), (cI (a.captured + n)), (cI a.refunded), (cI a.disputed), (cI a.till), (cB true)]), (.c (cI 0))] (Weak.ren id (⟨by first | rfl | (simp only [AV.map, GV.map, CV.map, AB.map', id]; done) | (congr 3; omega) | (congr 4; omega) | (simp only [List.length_append, List.length_cons, List.length_nil, List.length_set]; rfl), by first | rfl | (simp only [AV.map, GV.map, CV.map, AB.map', id]; done) | (congr 3; omega) | (congr 4; omega) | (simp only [List.length_append, List.length_cons, List.length_nil, List.length_set]; rfl),  trivial⟩) (⟨by first | rfl | (simp only [AV.map, GV.map, CV.map, AB.map', id]; done) | (congr 3; omega) | (congr 4; omega) | (simp only [List.length_append, List.length_cons, List.length_nil, List.length_set]; rfl),  trivial⟩) rfl) rfl ⟨.agg rfl rfl (fun _ => run_isAgg Try.underlying75) sz75, .tmp rfl, trivial⟩ trivial) ?_ ?_
                              · first | rfl | (simp [outOf, aC]; done) | (simp [outOf, aC]; omega)
                              · first | rfl | (simp; done) | (simp; omega)
                            ·
                              have hc27' := hc27; try simp only [sumB, Bool.not_eq_true', Bool.not_eq_false', Bool.or_eq_true, Bool.or_eq_false_iff, Bool.and_eq_true, Bool.and_eq_false_imp, decide_eq_true_eq, decide_eq_false_iff_not, Bool.not_not, Bool.not_true, Bool.not_false] at hc27'
                              refine AC.skip ?_
                              refine then_ok ?_
                              refine AC.seq ?_
                              refine AC.region ?_
                              refine AL.val (Wanted.plain rfl) (g_loadBs rfl rfl rfl Try.underlying75 rfl sz75 rfl rfl) rfl rfl ?_
                              refine AL.sto (h' := [(2, (.map (mV [(1, 1000000 - a.sum), (2, a.sum - a.captured), (3, a.sum - a.captured), (4, a.sum - a.captured), (5, (a.captured - a.refunded) - a.disputed), (6, (a.captured - a.refunded) - a.disputed), (7, a.disputed), (8, a.disputed)]) 8)), (1, (.box 75 [(cI a.card), (cI a.shop), (cI a.sum), (cI (a.captured + n)), (cI a.refunded), (cI a.disputed), (cI a.till), (cB a.shut)])), (0, (.box 75 [(cI a.card), (cI a.shop), (cI a.sum), (cI (a.captured + n)), (cI a.refunded), (cI a.disputed), (cI a.till), (cB a.shut)]))]) (Wanted.plain rfl) (g_storeB rfl rfl rfl rfl rfl sz75 rfl (Nat.le_of_ble_eq_true rfl) rfl) rfl rfl rfl rfl ?_
                              refine AL.fast 1 rfl ?_
                              refine AL.nil ?_
                              refine then_ok ?_
                              refine AC.ret ?_
                              have hX : moveAuth a kind n = ((⟨a.card, a.shop, a.sum, a.captured + n, a.refunded, a.disputed, a.till, a.shut⟩ : Auth), 0) := by
                                (have hq := rightAuth (hr0.trans (by omega)); have hk : kind = 1 ∨ kind = 2 ∨ kind = 3 ∨ kind = 4 ∨ kind = 5 ∨ kind = 6 ∨ kind = 7 ∨ kind = 8 := by omega); (rcases hk with rfl | rfl | rfl | rfl | rfl | rfl | rfl | rfl)
                                · first | (exfalso; omega) | (simp [mlook] at hc8'; have hs : a.shut = false := hc7' (by omega); rw [mv1 (hr0.trans (by omega)) (by omega) (by omega) hs]; first | (rw [if_pos (by omega)] <;> first | rfl | (rw [hs]; rfl)) | (rw [if_neg (by omega)] <;> first | rfl | (refine Prod.ext (auth_ext rfl rfl rfl rfl rfl rfl rfl ?_) rfl; first | (simp_all; done) | (simp_all; omega))))
                                · first | (exfalso; omega) | (simp [mlook] at hc8'; have hs : a.shut = false := hc7' (by omega); rw [mv2 (hr0.trans (by omega)) (by omega) (by omega) hs]; first | (rw [if_pos (by omega)] <;> first | rfl | (rw [hs]; rfl)) | (rw [if_neg (by omega)] <;> first | rfl | (refine Prod.ext (auth_ext rfl rfl rfl rfl rfl rfl rfl ?_) rfl; first | (simp_all; done) | (simp_all; omega))))
                                · first | (exfalso; omega) | (simp [mlook] at hc8'; have hs : a.shut = false := hc7' (by omega); rw [mv3 (hr0.trans (by omega)) (by omega) (by omega) hs]; first | (rw [if_pos (by omega)] <;> first | rfl | (rw [hs]; rfl)) | (rw [if_neg (by omega)] <;> first | rfl | (refine Prod.ext (auth_ext rfl rfl rfl rfl rfl rfl rfl ?_) rfl; first | (simp_all; done) | (simp_all; omega))))
                                · first | (exfalso; omega) | (simp [mlook] at hc8'; have hs : a.shut = false := hc7' (by omega); rw [mv4 (hr0.trans (by omega)) (by omega) (by omega) hs]; first | (rw [if_pos (by omega)] <;> first | rfl | (rw [hs]; rfl)) | (rw [if_neg (by omega)] <;> first | rfl | (refine Prod.ext (auth_ext rfl rfl rfl rfl rfl rfl rfl ?_) rfl; first | (simp_all; done) | (simp_all; omega))))
                                · first | (exfalso; omega) | (simp [mlook] at hc8'; rw [mv5 (hr0.trans (by omega)) (by omega) (by omega)]; first | (rw [if_pos (by omega)] <;> first | rfl | (rw [hs]; rfl)) | (rw [if_neg (by omega)] <;> first | rfl | (refine Prod.ext (auth_ext rfl rfl rfl rfl rfl rfl rfl ?_) rfl; first | (simp_all; done) | (simp_all; omega))))
                                · first | (exfalso; omega) | (simp [mlook] at hc8'; rw [mv6 (hr0.trans (by omega)) (by omega) (by omega)]; first | (rw [if_pos (by omega)] <;> first | rfl | (rw [hs]; rfl)) | (rw [if_neg (by omega)] <;> first | rfl | (refine Prod.ext (auth_ext rfl rfl rfl rfl rfl rfl rfl ?_) rfl; first | (simp_all; done) | (simp_all; omega))))
                                · first | (exfalso; omega) | (simp [mlook] at hc8'; rw [mv7 (hr0.trans (by omega)) (by omega) (by omega)]; first | (rw [if_pos (by omega)] <;> first | rfl | (rw [hs]; rfl)) | (rw [if_neg (by omega)] <;> first | rfl | (refine Prod.ext (auth_ext rfl rfl rfl rfl rfl rfl rfl ?_) rfl; first | (simp_all; done) | (simp_all; omega))))
                                · first | (exfalso; omega) | (simp [mlook] at hc8'; rw [mv8 (hr0.trans (by omega)) (by omega) (by omega)]; first | (rw [if_pos (by omega)] <;> first | rfl | (rw [hs]; rfl)) | (rw [if_neg (by omega)] <;> first | rfl | (refine Prod.ext (auth_ext rfl rfl rfl rfl rfl rfl rfl ?_) rfl; first | (simp_all; done) | (simp_all; omega))))
                              rw [hX] at hr; clear hX
                              simp only [Prod.mk.injEq] at hr; obtain ⟨rfl, rfl⟩ := hr
                              refine retQ_mk (av' := outOf [(.g [(cI a.card), (cI a.shop), (cI a.sum), (cI (a.captured + n)), (cI a.refunded), (cI a.disputed), (cI a.till), (cB a.shut)]), (.c (cI 0))]) (nb' := []) (retQ_ret ⟨[(6, (aC (.p 1 0 0 0))), (7, (aI 0))], [(1, (.box 75 [(cI a.card), (cI a.shop), (cI a.sum), (cI (a.captured + n)), (cI a.refunded), (cI a.disputed), (cI a.till), (cB a.shut)]))], 2⟩ [.cell 6 75, .tmp 7] [(.g [(cI a.card), (cI a.shop), (cI a.sum), (cI (a.captured + n)), (cI a.refunded), (cI a.disputed), (cI a.till), (cB a.shut)]), (.c (cI 0))] (Weak.ren id (⟨by first | rfl | (simp only [AV.map, GV.map, CV.map, AB.map', id]; done) | (congr 3; omega) | (congr 4; omega) | (simp only [List.length_append, List.length_cons, List.length_nil, List.length_set]; rfl), by first | rfl | (simp only [AV.map, GV.map, CV.map, AB.map', id]; done) | (congr 3; omega) | (congr 4; omega) | (simp only [List.length_append, List.length_cons, List.length_nil, List.length_set]; rfl),  trivial⟩) (⟨by first | rfl | (simp only [AV.map, GV.map, CV.map, AB.map', id]; done) | (congr 3; omega) | (congr 4; omega) | (simp only [List.length_append, List.length_cons, List.length_nil, List.length_set]; rfl),  trivial⟩) rfl) rfl ⟨.agg rfl rfl (fun _ => run_isAgg Try.underlying75) sz75, .tmp rfl, trivial⟩ trivial) ?_ ?_
                              · first | rfl | (simp [outOf, aC]; done) | (simp [outOf, aC]; omega)
                              · first | rfl | (simp; done) | (simp; omega)
                        ·
                          have hc25' := hc25; try simp only [sumB, Bool.not_eq_true', Bool.not_eq_false', Bool.or_eq_true, Bool.or_eq_false_iff, Bool.and_eq_true, Bool.and_eq_false_imp, decide_eq_true_eq, decide_eq_false_iff_not, Bool.not_not, Bool.not_true, Bool.not_false] at hc25'
                          refine AC.seq ?_
                          refine AC.region ?_
                          refine AL.val (Wanted.plain rfl) (g_binI rfl rfl rfl rfl) rfl rfl ?_
                          refine AL.fast 1 rfl ?_
                          refine AL.nil ?_
                          refine then_ok ?_
                          refine AC.cond rfl (fun hc28 => ?_) (fun hc28 => ?_)
                          ·
                            have hc28' := hc28; try simp only [sumB, Bool.not_eq_true', Bool.not_eq_false', Bool.or_eq_true, Bool.or_eq_false_iff, Bool.and_eq_true, Bool.and_eq_false_imp, decide_eq_true_eq, decide_eq_false_iff_not, Bool.not_not, Bool.not_true, Bool.not_false] at hc28'
                            refine AC.region ?_
                            refine AL.val (Wanted.plain rfl) (g_fieldP rfl rfl Try.underlying75 rfl sz3 (by decide)) rfl rfl ?_
                            refine AL.val (Wanted.plain rfl) (g_loadB rfl rfl rfl Try.underlying3 rfl rfl) rfl rfl ?_
                            refine AL.fast 1 rfl ?_
                            refine AL.val (Wanted.plain rfl) (g_binI rfl rfl rfl (wrap_ok (by first | omega | (simp; done) | (simp; omega) | (have hq := rightAuth (hr0.trans (by omega)); omega)))) rfl rfl ?_
                            refine AL.val (Wanted.plain rfl) (g_fieldP rfl rfl Try.underlying75 rfl sz3 (by decide)) rfl rfl ?_
                            refine AL.sto (h' := [(2, (.map (mV [(1, 1000000 - a.sum), (2, a.sum - a.captured), (3, a.sum - a.captured), (4, a.sum - a.captured), (5, (a.captured - a.refunded) - a.disputed), (6, (a.captured - a.refunded) - a.disputed), (7, a.disputed), (8, a.disputed)]) 8)), (1, (.box 75 [(cI 0), (cI 0), (cI 0), (cI 0), (cI 0), (cI 0), (cI 0), (cB false)])), (0, (.box 75 [(cI a.card), (cI a.shop), (cI a.sum), (cI a.captured), (cI (a.refunded + n)), (cI a.disputed), (cI a.till), (cB a.shut)]))]) (Wanted.plain rfl) (g_storeB rfl rfl rfl rfl rfl sz3 rfl (Nat.le_of_ble_eq_true rfl) rfl) rfl rfl rfl rfl ?_
                            refine AL.nil ?_
                            refine block_ok ?_
                            refine then_ok ?_
                            refine AC.seq ?_
                            refine AC.cutB 158 ((decide (kind = 3)) || (((decide (kind = 2)) || (decide (kind = 4))) && (decide (a.sum = a.captured)))) ?_ ?_
                            ·
                              refine AC.region ?_
                              refine AL.fast 1 rfl ?_
                              refine AL.val (Wanted.plain rfl) (g_binI rfl rfl rfl rfl) rfl rfl ?_
                              refine AL.fast 1 rfl ?_
                              refine AL.dec (t := 144) rfl (fun hno => absurd (hc25.symm.trans hno) (by decide)) (fun _ => ?_)
                              refine AL.fast 1 rfl ?_
                              refine AL.val (Wanted.yes rfl rfl rfl) (g_binI rfl rfl rfl rfl) rfl rfl ?_
                              refine AL.fast 1 rfl ?_
                              refine AL.dec (t := 147) rfl (fun hno => absurd (hc20.symm.trans hno) (by decide)) (fun _ => ?_)
                              refine AL.fast 1 rfl ?_
                              refine AL.val (Wanted.yes rfl rfl rfl) (g_binI rfl rfl rfl rfl) rfl rfl ?_
                              refine AL.fast 2 rfl ?_
                              refine AL.dec (t := 151) rfl (fun hno => absurd (hc15.symm.trans hno) (by decide)) (fun _ => ?_)
                              refine AL.fast 7 rfl ?_
                              refine AL.nil ?_
                              refine then_ok ?_
                              exact Weak.popB 20 rfl rfl (by first | (simp []; done) | (simp_all; done) | (exfalso; simp_all; done) | (simp_all; omega)) rfl
                            ·
                              refine AC.cond rfl (fun hc32 => ?_) (fun hc32 => ?_)
                              ·
                                have hc32' := hc32; try simp only [sumB, Bool.not_eq_true', Bool.not_eq_false', Bool.or_eq_true, Bool.or_eq_false_iff, Bool.and_eq_true, Bool.and_eq_false_imp, decide_eq_true_eq, decide_eq_false_iff_not, Bool.not_not, Bool.not_true, Bool.not_false] at hc32'
                                refine AC.region ?_
                                refine AL.val (Wanted.plain rfl) (g_fieldP rfl rfl Try.underlying75 rfl sz4 (by decide)) rfl rfl ?_
                                refine AL.sto (h' := [(2, (.map (mV [(1, 1000000 - a.sum), (2, a.sum - a.captured), (3, a.sum - a.captured), (4, a.sum - a.captured), (5, (a.captured - a.refunded) - a.disputed), (6, (a.captured - a.refunded) - a.disputed), (7, a.disputed), (8, a.disputed)]) 8)), (1, (.box 75 [(cI 0), (cI 0), (cI 0), (cI 0), (cI 0), (cI 0), (cI 0), (cB false)])), (0, (.box 75 [(cI a.card), (cI a.shop), (cI a.sum), (cI a.captured), (cI (a.refunded + n)), (cI a.disputed), (cI a.till), (cB true)]))]) (Wanted.plain rfl) (g_storeB rfl rfl rfl rfl rfl sz4 rfl (Nat.le_of_ble_eq_true rfl) rfl) rfl rfl rfl rfl ?_
                                refine AL.nil ?_
                                refine then_ok ?_
                                refine AC.seq ?_
                                refine AC.region ?_
                                refine AL.val (Wanted.plain rfl) (g_loadBs rfl rfl rfl Try.underlying75 rfl sz75 rfl rfl) rfl rfl ?_
                                refine AL.sto (h' := [(2, (.map (mV [(1, 1000000 - a.sum), (2, a.sum - a.captured), (3, a.sum - a.captured), (4, a.sum - a.captured), (5, (a.captured - a.refunded) - a.disputed), (6, (a.captured - a.refunded) - a.disputed), (7, a.disputed), (8, a.disputed)]) 8)), (1, (.box 75 [(cI a.card), (cI a.shop), (cI a.sum), (cI a.captured), (cI (a.refunded + n)), (cI a.disputed), (cI a.till), (cB true)])), (0, (.box 75 [(cI a.card), (cI a.shop), (cI a.sum), (cI a.captured), (cI (a.refunded + n)), (cI a.disputed), (cI a.till), (cB true)]))]) (Wanted.plain rfl) (g_storeB rfl rfl rfl rfl rfl sz75 rfl (Nat.le_of_ble_eq_true rfl) rfl) rfl rfl rfl rfl ?_
                                refine AL.fast 1 rfl ?_
                                refine AL.nil ?_
                                refine then_ok ?_
                                refine AC.ret ?_
                                have hX : moveAuth a kind n = ((⟨a.card, a.shop, a.sum, a.captured, a.refunded + n, a.disputed, a.till, true⟩ : Auth), 0) := by
                                  (have hq := rightAuth (hr0.trans (by omega)); have hk : kind = 1 ∨ kind = 2 ∨ kind = 3 ∨ kind = 4 ∨ kind = 5 ∨ kind = 6 ∨ kind = 7 ∨ kind = 8 := by omega); (rcases hk with rfl | rfl | rfl | rfl | rfl | rfl | rfl | rfl)
                                  · first | (exfalso; omega) | (simp [mlook] at hc8'; have hs : a.shut = false := hc7' (by omega); rw [mv1 (hr0.trans (by omega)) (by omega) (by omega) hs]; first | (rw [if_pos (by omega)] <;> first | rfl | (rw [hs]; rfl)) | (rw [if_neg (by omega)] <;> first | rfl | (refine Prod.ext (auth_ext rfl rfl rfl rfl rfl rfl rfl ?_) rfl; first | (simp_all; done) | (simp_all; omega))))
                                  · first | (exfalso; omega) | (simp [mlook] at hc8'; have hs : a.shut = false := hc7' (by omega); rw [mv2 (hr0.trans (by omega)) (by omega) (by omega) hs]; first | (rw [if_pos (by omega)] <;> first | rfl | (rw [hs]; rfl)) | (rw [if_neg (by omega)] <;> first | rfl | (refine Prod.ext (auth_ext rfl rfl rfl rfl rfl rfl rfl ?_) rfl; first | (simp_all; done) | (simp_all; omega))))
                                  · first | (exfalso; omega) | (simp [mlook] at hc8'; have hs : a.shut = false := hc7' (by omega); rw [mv3 (hr0.trans (by omega)) (by omega) (by omega) hs]; first | (rw [if_pos (by omega)] <;> first | rfl | (rw [hs]; rfl)) | (rw [if_neg (by omega)] <;> first | rfl | (refine Prod.ext (auth_ext rfl rfl rfl rfl rfl rfl rfl ?_) rfl; first | (simp_all; done) | (simp_all; omega))))
                                  · first | (exfalso; omega) | (simp [mlook] at hc8'; have hs : a.shut = false := hc7' (by omega); rw [mv4 (hr0.trans (by omega)) (by omega) (by omega) hs]; first | (rw [if_pos (by omega)] <;> first | rfl | (rw [hs]; rfl)) | (rw [if_neg (by omega)] <;> first | rfl | (refine Prod.ext (auth_ext rfl rfl rfl rfl rfl rfl rfl ?_) rfl; first | (simp_all; done) | (simp_all; omega))))
                                  · first | (exfalso; omega) | (simp [mlook] at hc8'; rw [mv5 (hr0.trans (by omega)) (by omega) (by omega)]; first | (rw [if_pos (by omega)] <;> first | rfl | (rw [hs]; rfl)) | (rw [if_neg (by omega)] <;> first | rfl | (refine Prod.ext (auth_ext rfl rfl rfl rfl rfl rfl rfl ?_) rfl; first | (simp_all; done) | (simp_all; omega))))
                                  · first | (exfalso; omega) | (simp [mlook] at hc8'; rw [mv6 (hr0.trans (by omega)) (by omega) (by omega)]; first | (rw [if_pos (by omega)] <;> first | rfl | (rw [hs]; rfl)) | (rw [if_neg (by omega)] <;> first | rfl | (refine Prod.ext (auth_ext rfl rfl rfl rfl rfl rfl rfl ?_) rfl; first | (simp_all; done) | (simp_all; omega))))
                                  · first | (exfalso; omega) | (simp [mlook] at hc8'; rw [mv7 (hr0.trans (by omega)) (by omega) (by omega)]; first | (rw [if_pos (by omega)] <;> first | rfl | (rw [hs]; rfl)) | (rw [if_neg (by omega)] <;> first | rfl | (refine Prod.ext (auth_ext rfl rfl rfl rfl rfl rfl rfl ?_) rfl; first | (simp_all; done) | (simp_all; omega))))
                                  · first | (exfalso; omega) | (simp [mlook] at hc8'; rw [mv8 (hr0.trans (by omega)) (by omega) (by omega)]; first | (rw [if_pos (by omega)] <;> first | rfl | (rw [hs]; rfl)) | (rw [if_neg (by omega)] <;> first | rfl | (refine Prod.ext (auth_ext rfl rfl rfl rfl rfl rfl rfl ?_) rfl; first | (simp_all; done) | (simp_all; omega))))
                                rw [hX] at hr; clear hX
                                simp only [Prod.mk.injEq] at hr; obtain ⟨rfl, rfl⟩ := hr
                                refine retQ_mk (av' := outOf [(.g [(cI a.card), (cI a.shop), (cI a.sum), (cI a.captured), (cI (a.refunded + n)), (cI a.disputed), (cI a.till), (cB true)]), (.c (cI 0))]) (nb' := []) (retQ_ret ⟨[(6, (aC (.p 1 0 0 0))), (7, (aI 0))], [(1, (.box 75 [(cI a.card), (cI a.shop), (cI a.sum), (cI a.captured), (cI (a.refunded + n)), (cI a.disputed), (cI a.till), (cB true)]))], 2⟩ [.cell 6 75, .tmp 7] [(.g [(cI a.card), (cI a.shop), (cI a.sum), (cI a.captured), (cI (a.refunded + n)), (cI a.disputed), (cI a.till), (cB true)]), (.c (cI 0))] (Weak.ren id (⟨by first | rfl | (simp only [AV.map, GV.map, CV.map, AB.map', id]; done) | (congr 3; omega) | (congr 4; omega) | (simp only [List.length_append, List.length_cons, List.length_nil, List.length_set]; rfl), by first | rfl | (simp only [AV.map, GV.map, CV.map, AB.map', id]; done) | (congr 3; omega) | (congr 4; omega) | (simp only [List.length_append, List.length_cons, List.length_nil, List.length_set]; rfl),  trivial⟩) (⟨by first | rfl | (simp only [AV.map, GV.map, CV.map, AB.map', id]; done) | (congr 3; omega) | (congr 4; omega) | (simp only [List.length_append, List.length_cons, List.length_nil, List.length_set]; rfl),  trivial⟩) rfl) rfl ⟨.agg rfl rfl (fun _ => run_isAgg Try.underlying75) sz75, .tmp rfl, trivial⟩ trivial) ?_ ?_
                                · first | rfl | (simp [outOf, aC]; done) | (simp [outOf, aC]; omega)
                                · first | rfl | (simp; done) | (simp; omega)
                              ·
                                have hc32' := hc32; try simp only [sumB, Bool.not_eq_true', Bool.not_eq_false', Bool.or_eq_true, Bool.or_eq_false_iff, Bool.and_eq_true, Bool.and_eq_false_imp, decide_eq_true_eq, decide_eq_false_iff_not, Bool.not_not, Bool.not_true, Bool.not_false] at hc32'
                                refine AC.skip ?_
                                refine then_ok ?_
                                refine AC.seq ?_
                                refine AC.region ?_
                                refine AL.val (Wanted.plain rfl) (g_loadBs rfl rfl rfl Try.underlying75 rfl sz75 rfl rfl) rfl rfl ?_
                                refine AL.sto (h' := [(2, (.map (mV [(1, 1000000 - a.sum), (2, a.sum - a.captured), (3, a.sum - a.captured), (4, a.sum - a.captured), (5, (a.captured - a.refunded) - a.disputed), (6, (a.captured - a.refunded) - a.disputed), (7, a.disputed), (8, a.disputed)]) 8)), (1, (.box 75 [(cI a.card), (cI a.shop), (cI a.sum), (cI a.captured), (cI (a.refunded + n)), (cI a.disputed), (cI a.till), (cB a.shut)])), (0, (.box 75 [(cI a.card), (cI a.shop), (cI a.sum), (cI a.captured), (cI (a.refunded + n)), (cI a.disputed), (cI a.till), (cB a.shut)]))]) (Wanted.plain rfl) (g_storeB rfl rfl rfl rfl rfl sz75 rfl (Nat.le_of_ble_eq_true rfl) rfl) rfl rfl rfl rfl ?_
                                refine AL.fast 1 rfl ?_
                                refine AL.nil ?_
                                refine then_ok ?_
                                refine AC.ret ?_
                                have hX : moveAuth a kind n = ((⟨a.card, a.shop, a.sum, a.captured, a.refunded + n, a.disputed, a.till, a.shut⟩ : Auth), 0) := by
                                  (have hq := rightAuth (hr0.trans (by omega)); have hk : kind = 1 ∨ kind = 2 ∨ kind = 3 ∨ kind = 4 ∨ kind = 5 ∨ kind = 6 ∨ kind = 7 ∨ kind = 8 := by omega); (rcases hk with rfl | rfl | rfl | rfl | rfl | rfl | rfl | rfl)
                                  · first | (exfalso; omega) | (simp [mlook] at hc8'; have hs : a.shut = false := hc7' (by omega); rw [mv1 (hr0.trans (by omega)) (by omega) (by omega) hs]; first | (rw [if_pos (by omega)] <;> first | rfl | (rw [hs]; rfl)) | (rw [if_neg (by omega)] <;> first | rfl | (refine Prod.ext (auth_ext rfl rfl rfl rfl rfl rfl rfl ?_) rfl; first | (simp_all; done) | (simp_all; omega))))
                                  · first | (exfalso; omega) | (simp [mlook] at hc8'; have hs : a.shut = false := hc7' (by omega); rw [mv2 (hr0.trans (by omega)) (by omega) (by omega) hs]; first | (rw [if_pos (by omega)] <;> first | rfl | (rw [hs]; rfl)) | (rw [if_neg (by omega)] <;> first | rfl | (refine Prod.ext (auth_ext rfl rfl rfl rfl rfl rfl rfl ?_) rfl; first | (simp_all; done) | (simp_all; omega))))
                                  · first | (exfalso; omega) | (simp [mlook] at hc8'; have hs : a.shut = false := hc7' (by omega); rw [mv3 (hr0.trans (by omega)) (by omega) (by omega) hs]; first | (rw [if_pos (by omega)] <;> first | rfl | (rw [hs]; rfl)) | (rw [if_neg (by omega)] <;> first | rfl | (refine Prod.ext (auth_ext rfl rfl rfl rfl rfl rfl rfl ?_) rfl; first | (simp_all; done) | (simp_all; omega))))
                                  · first | (exfalso; omega) | (simp [mlook] at hc8'; have hs : a.shut = false := hc7' (by omega); rw [mv4 (hr0.trans (by omega)) (by omega) (by omega) hs]; first | (rw [if_pos (by omega)] <;> first | rfl | (rw [hs]; rfl)) | (rw [if_neg (by omega)] <;> first | rfl | (refine Prod.ext (auth_ext rfl rfl rfl rfl rfl rfl rfl ?_) rfl; first | (simp_all; done) | (simp_all; omega))))
                                  · first | (exfalso; omega) | (simp [mlook] at hc8'; rw [mv5 (hr0.trans (by omega)) (by omega) (by omega)]; first | (rw [if_pos (by omega)] <;> first | rfl | (rw [hs]; rfl)) | (rw [if_neg (by omega)] <;> first | rfl | (refine Prod.ext (auth_ext rfl rfl rfl rfl rfl rfl rfl ?_) rfl; first | (simp_all; done) | (simp_all; omega))))
                                  · first | (exfalso; omega) | (simp [mlook] at hc8'; rw [mv6 (hr0.trans (by omega)) (by omega) (by omega)]; first | (rw [if_pos (by omega)] <;> first | rfl | (rw [hs]; rfl)) | (rw [if_neg (by omega)] <;> first | rfl | (refine Prod.ext (auth_ext rfl rfl rfl rfl rfl rfl rfl ?_) rfl; first | (simp_all; done) | (simp_all; omega))))
                                  · first | (exfalso; omega) | (simp [mlook] at hc8'; rw [mv7 (hr0.trans (by omega)) (by omega) (by omega)]; first | (rw [if_pos (by omega)] <;> first | rfl | (rw [hs]; rfl)) | (rw [if_neg (by omega)] <;> first | rfl | (refine Prod.ext (auth_ext rfl rfl rfl rfl rfl rfl rfl ?_) rfl; first | (simp_all; done) | (simp_all; omega))))
                                  · first | (exfalso; omega) | (simp [mlook] at hc8'; rw [mv8 (hr0.trans (by omega)) (by omega) (by omega)]; first | (rw [if_pos (by omega)] <;> first | rfl | (rw [hs]; rfl)) | (rw [if_neg (by omega)] <;> first | rfl | (refine Prod.ext (auth_ext rfl rfl rfl rfl rfl rfl rfl ?_) rfl; first | (simp_all; done) | (simp_all; omega))))
                                rw [hX] at hr; clear hX
                                simp only [Prod.mk.injEq] at hr; obtain ⟨rfl, rfl⟩ := hr
                                refine retQ_mk (av' := outOf [(.g [(cI a.card), (cI a.shop), (cI a.sum), (cI a.captured), (cI (a.refunded + n)), (cI a.disputed), (cI a.till), (cB a.shut)]), (.c (cI 0))]) (nb' := []) (retQ_ret ⟨[(6, (aC (.p 1 0 0 0))), (7, (aI 0))], [(1, (.box 75 [(cI a.card), (cI a.shop), (cI a.sum), (cI a.captured), (cI (a.refunded + n)), (cI a.disputed), (cI a.till), (cB a.shut)]))], 2⟩ [.cell 6 75, .tmp 7] [(.g [(cI a.card), (cI a.shop), (cI a.sum), (cI a.captured), (cI (a.refunded + n)), (cI a.disputed), (cI a.till), (cB a.shut)]), (.c (cI 0))] (Weak.ren id (⟨by first | rfl | (simp only [AV.map, GV.map, CV.map, AB.map', id]; done) | (congr 3; omega) | (congr 4; omega) | (simp only [List.length_append, List.length_cons, List.length_nil, List.length_set]; rfl), by first | rfl | (simp only [AV.map, GV.map, CV.map, AB.map', id]; done) | (congr 3; omega) | (congr 4; omega) | (simp only [List.length_append, List.length_cons, List.length_nil, List.length_set]; rfl),  trivial⟩) (⟨by first | rfl | (simp only [AV.map, GV.map, CV.map, AB.map', id]; done) | (congr 3; omega) | (congr 4; omega) | (simp only [List.length_append, List.length_cons, List.length_nil, List.length_set]; rfl),  trivial⟩) rfl) rfl ⟨.agg rfl rfl (fun _ => run_isAgg Try.underlying75) sz75, .tmp rfl, trivial⟩ trivial) ?_ ?_
                                · first | rfl | (simp [outOf, aC]; done) | (simp [outOf, aC]; omega)
                                · first | rfl | (simp; done) | (simp; omega)
                          ·
                            have hc28' := hc28; try simp only [sumB, Bool.not_eq_true', Bool.not_eq_false', Bool.or_eq_true, Bool.or_eq_false_iff, Bool.and_eq_true, Bool.and_eq_false_imp, decide_eq_true_eq, decide_eq_false_iff_not, Bool.not_not, Bool.not_true, Bool.not_false] at hc28'
                            refine AC.seq ?_
                            refine AC.region ?_
                            refine AL.val (Wanted.plain rfl) (g_binI rfl rfl rfl rfl) rfl rfl ?_
                            refine AL.fast 1 rfl ?_
                            refine AL.nil ?_
                            refine then_ok ?_
                            refine AC.cond rfl (fun hc33 => ?_) (fun hc33 => ?_)
                            ·
                              have hc33' := hc33; try simp only [sumB, Bool.not_eq_true', Bool.not_eq_false', Bool.or_eq_true, Bool.or_eq_false_iff, Bool.and_eq_true, Bool.and_eq_false_imp, decide_eq_true_eq, decide_eq_false_iff_not, Bool.not_not, Bool.not_true, Bool.not_false] at hc33'
                              refine AC.region ?_
                              refine AL.val (Wanted.plain rfl) (g_fieldP rfl rfl Try.underlying75 rfl sz3 (by decide)) rfl rfl ?_
                              refine AL.val (Wanted.plain rfl) (g_loadB rfl rfl rfl Try.underlying3 rfl rfl) rfl rfl ?_
                              refine AL.fast 1 rfl ?_
                              refine AL.val (Wanted.plain rfl) (g_binI rfl rfl rfl (wrap_ok (by first | omega | (simp; done) | (simp; omega) | (have hq := rightAuth (hr0.trans (by omega)); omega)))) rfl rfl ?_
                              refine AL.val (Wanted.plain rfl) (g_fieldP rfl rfl Try.underlying75 rfl sz3 (by decide)) rfl rfl ?_
                              refine AL.sto (h' := [(2, (.map (mV [(1, 1000000 - a.sum), (2, a.sum - a.captured), (3, a.sum - a.captured), (4, a.sum - a.captured), (5, (a.captured - a.refunded) - a.disputed), (6, (a.captured - a.refunded) - a.disputed), (7, a.disputed), (8, a.disputed)]) 8)), (1, (.box 75 [(cI 0), (cI 0), (cI 0), (cI 0), (cI 0), (cI 0), (cI 0), (cB false)])), (0, (.box 75 [(cI a.card), (cI a.shop), (cI a.sum), (cI a.captured), (cI a.refunded), (cI (a.disputed + n)), (cI a.till), (cB a.shut)]))]) (Wanted.plain rfl) (g_storeB rfl rfl rfl rfl rfl sz3 rfl (Nat.le_of_ble_eq_true rfl) rfl) rfl rfl rfl rfl ?_
                              refine AL.nil ?_
                              refine block_ok ?_
                              refine then_ok ?_
                              refine AC.seq ?_
                              refine AC.cutB 158 ((decide (kind = 3)) || (((decide (kind = 2)) || (decide (kind = 4))) && (decide (a.sum = a.captured)))) ?_ ?_
                              ·
                                refine AC.region ?_
                                refine AL.fast 1 rfl ?_
                                refine AL.val (Wanted.plain rfl) (g_binI rfl rfl rfl rfl) rfl rfl ?_
                                refine AL.fast 1 rfl ?_
                                refine AL.dec (t := 144) rfl (fun hno => absurd (hc25.symm.trans hno) (by decide)) (fun _ => ?_)
                                refine AL.fast 1 rfl ?_
                                refine AL.val (Wanted.yes rfl rfl rfl) (g_binI rfl rfl rfl rfl) rfl rfl ?_
                                refine AL.fast 1 rfl ?_
                                refine AL.dec (t := 147) rfl (fun hno => absurd (hc20.symm.trans hno) (by decide)) (fun _ => ?_)
                                refine AL.fast 1 rfl ?_
                                refine AL.val (Wanted.yes rfl rfl rfl) (g_binI rfl rfl rfl rfl) rfl rfl ?_
                                refine AL.fast 2 rfl ?_
                                refine AL.dec (t := 151) rfl (fun hno => absurd (hc15.symm.trans hno) (by decide)) (fun _ => ?_)
                                refine AL.fast 7 rfl ?_
                                refine AL.nil ?_
                                refine then_ok ?_
                                exact Weak.popB 20 rfl rfl (by first | (simp []; done) | (simp_all; done) | (exfalso; simp_all; done) | (simp_all; omega)) rfl
                              ·
                                refine AC.cond rfl (fun hc37 => ?_) (fun hc37 => ?_)
                                ·
                                  have hc37' := hc37; try simp only [sumB, Bool.not_eq_true', Bool.not_eq_false', Bool.or_eq_true, Bool.or_eq_false_iff, Bool.and_eq_true, Bool.and_eq_false_imp, decide_eq_true_eq, decide_eq_false_iff_not, Bool.not_not, Bool.not_true, Bool.not_false] at hc37'
                                  refine AC.region ?_
                                  refine AL.val (Wanted.plain rfl) (g_fieldP rfl rfl Try.underlying75 rfl sz4 (by decide)) rfl rfl ?_
                                  refine AL.sto (h' := [(2, (.map (mV [(1, 1000000 - a.sum), (2, a.sum - a.captured), (3, a.sum - a.captured), (4, a.sum - a.captured), (5, (a.captured - a.refunded) - a.disputed), (6, (a.captured - a.refunded) - a.disputed), (7, a.disputed), (8, a.disputed)]) 8)), (1, (.box 75 [(cI 0), (cI 0), (cI 0), (cI 0), (cI 0), (cI 0), (cI 0), (cB false)])), (0, (.box 75 [(cI a.card), (cI a.shop), (cI a.sum), (cI a.captured), (cI a.refunded), (cI (a.disputed + n)), (cI a.till), (cB true)]))]) (Wanted.plain rfl) (g_storeB rfl rfl rfl rfl rfl sz4 rfl (Nat.le_of_ble_eq_true rfl) rfl) rfl rfl rfl rfl ?_
                                  refine AL.nil ?_
                                  refine then_ok ?_
                                  refine AC.seq ?_
                                  refine AC.region ?_
                                  refine AL.val (Wanted.plain rfl) (g_loadBs rfl rfl rfl Try.underlying75 rfl sz75 rfl rfl) rfl rfl ?_
                                  refine AL.sto (h' := [(2, (.map (mV [(1, 1000000 - a.sum), (2, a.sum - a.captured), (3, a.sum - a.captured), (4, a.sum - a.captured), (5, (a.captured - a.refunded) - a.disputed), (6, (a.captured - a.refunded) - a.disputed), (7, a.disputed), (8, a.disputed)]) 8)), (1, (.box 75 [(cI a.card), (cI a.shop), (cI a.sum), (cI a.captured), (cI a.refunded), (cI (a.disputed + n)), (cI a.till), (cB true)])), (0, (.box 75 [(cI a.card), (cI a.shop), (cI a.sum), (cI a.captured), (cI a.refunded), (cI (a.disputed + n)), (cI a.till), (cB true)]))]) (Wanted.plain rfl) (g_storeB rfl rfl rfl rfl rfl sz75 rfl (Nat.le_of_ble_eq_true rfl) rfl) rfl rfl rfl rfl ?_
                                  refine AL.fast 1 rfl ?_
                                  refine AL.nil ?_
                                  refine then_ok ?_
                                  refine AC.ret ?_
                                  have hX : moveAuth a kind n = ((⟨a.card, a.shop, a.sum, a.captured, a.refunded, a.disputed + n, a.till, true⟩ : Auth), 0) := by
                                    (have hq := rightAuth (hr0.trans (by omega)); have hk : kind = 1 ∨ kind = 2 ∨ kind = 3 ∨ kind = 4 ∨ kind = 5 ∨ kind = 6 ∨ kind = 7 ∨ kind = 8 := by omega); (rcases hk with rfl | rfl | rfl | rfl | rfl | rfl | rfl | rfl)
                                    · first | (exfalso; omega) | (simp [mlook] at hc8'; have hs : a.shut = false := hc7' (by omega); rw [mv1 (hr0.trans (by omega)) (by omega) (by omega) hs]; first | (rw [if_pos (by omega)] <;> first | rfl | (rw [hs]; rfl)) | (rw [if_neg (by omega)] <;> first | rfl | (refine Prod.ext (auth_ext rfl rfl rfl rfl rfl rfl rfl ?_) rfl; first | (simp_all; done) | (simp_all; omega))))
                                    · first | (exfalso; omega) | (simp [mlook] at hc8'; have hs : a.shut = false := hc7' (by omega); rw [mv2 (hr0.trans (by omega)) (by omega) (by omega) hs]; first | (rw [if_pos (by omega)] <;> first | rfl | (rw [hs]; rfl)) | (rw [if_neg (by omega)] <;> first | rfl | (refine Prod.ext (auth_ext rfl rfl rfl rfl rfl rfl rfl ?_) rfl; first | (simp_all; done) | (simp_all; omega))))
                                    · first | (exfalso; omega) | (simp [mlook] at hc8'; have hs : a.shut = false := hc7' (by omega); rw [mv3 (hr0.trans (by omega)) (by omega) (by omega) hs]; first | (rw [if_pos (by omega)] <;> first | rfl | (rw [hs]; rfl)) | (rw [if_neg (by omega)] <;> first | rfl | (refine Prod.ext (auth_ext rfl rfl rfl rfl rfl rfl rfl ?_) rfl; first | (simp_all; done) | (simp_all; omega))))
                                    · first | (exfalso; omega) | (simp [mlook] at hc8'; have hs : a.shut = false := hc7' (by omega); rw [mv4 (hr0.trans (by omega)) (by omega) (by omega) hs]; first | (rw [if_pos (by omega)] <;> first | rfl | (rw [hs]; rfl)) | (rw [if_neg (by omega)] <;> first | rfl | (refine Prod.ext (auth_ext rfl rfl rfl rfl rfl rfl rfl ?_) rfl; first | (simp_all; done) | (simp_all; omega))))
                                    · first | (exfalso; omega) | (simp [mlook] at hc8'; rw [mv5 (hr0.trans (by omega)) (by omega) (by omega)]; first | (rw [if_pos (by omega)] <;> first | rfl | (rw [hs]; rfl)) | (rw [if_neg (by omega)] <;> first | rfl | (refine Prod.ext (auth_ext rfl rfl rfl rfl rfl rfl rfl ?_) rfl; first | (simp_all; done) | (simp_all; omega))))
                                    · first | (exfalso; omega) | (simp [mlook] at hc8'; rw [mv6 (hr0.trans (by omega)) (by omega) (by omega)]; first | (rw [if_pos (by omega)] <;> first | rfl | (rw [hs]; rfl)) | (rw [if_neg (by omega)] <;> first | rfl | (refine Prod.ext (auth_ext rfl rfl rfl rfl rfl rfl rfl ?_) rfl; first | (simp_all; done) | (simp_all; omega))))
                                    · first | (exfalso; omega) | (simp [mlook] at hc8'; rw [mv7 (hr0.trans (by omega)) (by omega) (by omega)]; first | (rw [if_pos (by omega)] <;> first | rfl | (rw [hs]; rfl)) | (rw [if_neg (by omega)] <;> first | rfl | (refine Prod.ext (auth_ext rfl rfl rfl rfl rfl rfl rfl ?_) rfl; first | (simp_all; done) | (simp_all; omega))))
                                    · first | (exfalso; omega) | (simp [mlook] at hc8'; rw [mv8 (hr0.trans (by omega)) (by omega) (by omega)]; first | (rw [if_pos (by omega)] <;> first | rfl | (rw [hs]; rfl)) | (rw [if_neg (by omega)] <;> first | rfl | (refine Prod.ext (auth_ext rfl rfl rfl rfl rfl rfl rfl ?_) rfl; first | (simp_all; done) | (simp_all; omega))))
                                  rw [hX] at hr; clear hX
                                  simp only [Prod.mk.injEq] at hr; obtain ⟨rfl, rfl⟩ := hr
                                  refine retQ_mk (av' := outOf [(.g [(cI a.card), (cI a.shop), (cI a.sum), (cI a.captured), (cI a.refunded), (cI (a.disputed + n)), (cI a.till), (cB true)]), (.c (cI 0))]) (nb' := []) (retQ_ret ⟨[(6, (aC (.p 1 0 0 0))), (7, (aI 0))], [(1, (.box 75 [(cI a.card), (cI a.shop), (cI a.sum), (cI a.captured), (cI a.refunded), (cI (a.disputed + n)), (cI a.till), (cB true)]))], 2⟩ [.cell 6 75, .tmp 7] [(.g [(cI a.card), (cI a.shop), (cI a.sum), (cI a.captured), (cI a.refunded), (cI (a.disputed + n)), (cI a.till), (cB true)]), (.c (cI 0))] (Weak.ren id (⟨by first | rfl | (simp only [AV.map, GV.map, CV.map, AB.map', id]; done) | (congr 3; omega) | (congr 4; omega) | (simp only [List.length_append, List.length_cons, List.length_nil, List.length_set]; rfl), by first | rfl | (simp only [AV.map, GV.map, CV.map, AB.map', id]; done) | (congr 3; omega) | (congr 4; omega) | (simp only [List.length_append, List.length_cons, List.length_nil, List.length_set]; rfl),  trivial⟩) (⟨by first | rfl | (simp only [AV.map, GV.map, CV.map, AB.map', id]; done) | (congr 3; omega) | (congr 4; omega) | (simp only [List.length_append, List.length_cons, List.length_nil, List.length_set]; rfl),  trivial⟩) rfl) rfl ⟨.agg rfl rfl (fun _ => run_isAgg Try.underlying75) sz75, .tmp rfl, trivial⟩ trivial) ?_ ?_
                                  · first | rfl | (simp [outOf, aC]; done) | (simp [outOf, aC]; omega)
                                  · first | rfl | (simp; done) | (simp; omega)
                                ·
                                  have hc37' := hc37; try simp only [sumB, Bool.not_eq_true', Bool.not_eq_false', Bool.or_eq_true, Bool.or_eq_false_iff, Bool.and_eq_true, Bool.and_eq_false_imp, decide_eq_true_eq, decide_eq_false_iff_not, Bool.not_not, Bool.not_true, Bool.not_false] at hc37'
                                  refine AC.skip ?_
                                  refine then_ok ?_
                                  refine AC.seq ?_
                                  refine AC.region ?_
                                  refine AL.val (Wanted.plain rfl) (g_loadBs rfl rfl rfl Try.underlying75 rfl sz75 rfl rfl) rfl rfl ?_
                                  refine AL.sto (h' := [(2, (.map (mV [(1, 1000000 - a.sum), (2, a.sum - a.captured), (3, a.sum - a.captured), (4, a.sum - a.captured), (5, (a.captured - a.refunded) - a.disputed), (6, (a.captured - a.refunded) - a.disputed), (7, a.disputed), (8, a.disputed)]) 8)), (1, (.box 75 [(cI a.card), (cI a.shop), (cI a.sum), (cI a.captured), (cI a.refunded), (cI (a.disputed + n)), (cI a.till), (cB a.shut)])), (0, (.box 75 [(cI a.card), (cI a.shop), (cI a.sum), (cI a.captured), (cI a.refunded), (cI (a.disputed + n)), (cI a.till), (cB a.shut)]))]) (Wanted.plain rfl) (g_storeB rfl rfl rfl rfl rfl sz75 rfl (Nat.le_of_ble_eq_true rfl) rfl) rfl rfl rfl rfl ?_
                                  refine AL.fast 1 rfl ?_
                                  refine AL.nil ?_
                                  refine then_ok ?_
                                  refine AC.ret ?_
                                  have hX : moveAuth a kind n = ((⟨a.card, a.shop, a.sum, a.captured, a.refunded, a.disputed + n, a.till, a.shut⟩ : Auth), 0) := by
                                    (have hq := rightAuth (hr0.trans (by omega)); have hk : kind = 1 ∨ kind = 2 ∨ kind = 3 ∨ kind = 4 ∨ kind = 5 ∨ kind = 6 ∨ kind = 7 ∨ kind = 8 := by omega); (rcases hk with rfl | rfl | rfl | rfl | rfl | rfl | rfl | rfl)
                                    · first | (exfalso; omega) | (simp [mlook] at hc8'; have hs : a.shut = false := hc7' (by omega); rw [mv1 (hr0.trans (by omega)) (by omega) (by omega) hs]; first | (rw [if_pos (by omega)] <;> first | rfl | (rw [hs]; rfl)) | (rw [if_neg (by omega)] <;> first | rfl | (refine Prod.ext (auth_ext rfl rfl rfl rfl rfl rfl rfl ?_) rfl; first | (simp_all; done) | (simp_all; omega))))
                                    · first | (exfalso; omega) | (simp [mlook] at hc8'; have hs : a.shut = false := hc7' (by omega); rw [mv2 (hr0.trans (by omega)) (by omega) (by omega) hs]; first | (rw [if_pos (by omega)] <;> first | rfl | (rw [hs]; rfl)) | (rw [if_neg (by omega)] <;> first | rfl | (refine Prod.ext (auth_ext rfl rfl rfl rfl rfl rfl rfl ?_) rfl; first | (simp_all; done) | (simp_all; omega))))
                                    · first | (exfalso; omega) | (simp [mlook] at hc8'; have hs : a.shut = false := hc7' (by omega); rw [mv3 (hr0.trans (by omega)) (by omega) (by omega) hs]; first | (rw [if_pos (by omega)] <;> first | rfl | (rw [hs]; rfl)) | (rw [if_neg (by omega)] <;> first | rfl | (refine Prod.ext (auth_ext rfl rfl rfl rfl rfl rfl rfl ?_) rfl; first | (simp_all; done) | (simp_all; omega))))
                                    · first | (exfalso; omega) | (simp [mlook] at hc8'; have hs : a.shut = false := hc7' (by omega); rw [mv4 (hr0.trans (by omega)) (by omega) (by omega) hs]; first | (rw [if_pos (by omega)] <;> first | rfl | (rw [hs]; rfl)) | (rw [if_neg (by omega)] <;> first | rfl | (refine Prod.ext (auth_ext rfl rfl rfl rfl rfl rfl rfl ?_) rfl; first | (simp_all; done) | (simp_all; omega))))
                                    · first | (exfalso; omega) | (simp [mlook] at hc8'; rw [mv5 (hr0.trans (by omega)) (by omega) (by omega)]; first | (rw [if_pos (by omega)] <;> first | rfl | (rw [hs]; rfl)) | (rw [if_neg (by omega)] <;> first | rfl | (refine Prod.ext (auth_ext rfl rfl rfl rfl rfl rfl rfl ?_) rfl; first | (simp_all; done) | (simp_all; omega))))
                                    · first | (exfalso; omega) | (simp [mlook] at hc8'; rw [mv6 (hr0.trans (by omega)) (by omega) (by omega)]; first | (rw [if_pos (by omega)] <;> first | rfl | (rw [hs]; rfl)) | (rw [if_neg (by omega)] <;> first | rfl | (refine Prod.ext (auth_ext rfl rfl rfl rfl rfl rfl rfl ?_) rfl; first | (simp_all; done) | (simp_all; omega))))
                                    · first | (exfalso; omega) | (simp [mlook] at hc8'; rw [mv7 (hr0.trans (by omega)) (by omega) (by omega)]; first | (rw [if_pos (by omega)] <;> first | rfl | (rw [hs]; rfl)) | (rw [if_neg (by omega)] <;> first | rfl | (refine Prod.ext (auth_ext rfl rfl rfl rfl rfl rfl rfl ?_) rfl; first | (simp_all; done) | (simp_all; omega))))
                                    · first | (exfalso; omega) | (simp [mlook] at hc8'; rw [mv8 (hr0.trans (by omega)) (by omega) (by omega)]; first | (rw [if_pos (by omega)] <;> first | rfl | (rw [hs]; rfl)) | (rw [if_neg (by omega)] <;> first | rfl | (refine Prod.ext (auth_ext rfl rfl rfl rfl rfl rfl rfl ?_) rfl; first | (simp_all; done) | (simp_all; omega))))
                                  rw [hX] at hr; clear hX
                                  simp only [Prod.mk.injEq] at hr; obtain ⟨rfl, rfl⟩ := hr
                                  refine retQ_mk (av' := outOf [(.g [(cI a.card), (cI a.shop), (cI a.sum), (cI a.captured), (cI a.refunded), (cI (a.disputed + n)), (cI a.till), (cB a.shut)]), (.c (cI 0))]) (nb' := []) (retQ_ret ⟨[(6, (aC (.p 1 0 0 0))), (7, (aI 0))], [(1, (.box 75 [(cI a.card), (cI a.shop), (cI a.sum), (cI a.captured), (cI a.refunded), (cI (a.disputed + n)), (cI a.till), (cB a.shut)]))], 2⟩ [.cell 6 75, .tmp 7] [(.g [(cI a.card), (cI a.shop), (cI a.sum), (cI a.captured), (cI a.refunded), (cI (a.disputed + n)), (cI a.till), (cB a.shut)]), (.c (cI 0))] (Weak.ren id (⟨by first | rfl | (simp only [AV.map, GV.map, CV.map, AB.map', id]; done) | (congr 3; omega) | (congr 4; omega) | (simp only [List.length_append, List.length_cons, List.length_nil, List.length_set]; rfl), by first | rfl | (simp only [AV.map, GV.map, CV.map, AB.map', id]; done) | (congr 3; omega) | (congr 4; omega) | (simp only [List.length_append, List.length_cons, List.length_nil, List.length_set]; rfl),  trivial⟩) (⟨by first | rfl | (simp only [AV.map, GV.map, CV.map, AB.map', id]; done) | (congr 3; omega) | (congr 4; omega) | (simp only [List.length_append, List.length_cons, List.length_nil, List.length_set]; rfl),  trivial⟩) rfl) rfl ⟨.agg rfl rfl (fun _ => run_isAgg Try.underlying75) sz75, .tmp rfl, trivial⟩ trivial) ?_ ?_
                                  · first | rfl | (simp [outOf, aC]; done) | (simp [outOf, aC]; omega)
                                  · first | rfl | (simp; done) | (simp; omega)
                            ·
                              have hc33' := hc33; try simp only [sumB, Bool.not_eq_true', Bool.not_eq_false', Bool.or_eq_true, Bool.or_eq_false_iff, Bool.and_eq_true, Bool.and_eq_false_imp, decide_eq_true_eq, decide_eq_false_iff_not, Bool.not_not, Bool.not_true, Bool.not_false] at hc33'
                              refine AC.seq ?_
                              refine AC.region ?_
                              refine AL.val (Wanted.plain rfl) (g_binI rfl rfl rfl rfl) rfl rfl ?_
                              refine AL.fast 1 rfl ?_
                              refine AL.nil ?_
                              refine then_ok ?_
                              refine AC.cond rfl (fun hc38 => ?_) (fun hc38 => ?_)
                              ·
                                have hc38' := hc38; try simp only [sumB, Bool.not_eq_true', Bool.not_eq_false', Bool.or_eq_true, Bool.or_eq_false_iff, Bool.and_eq_true, Bool.and_eq_false_imp, decide_eq_true_eq, decide_eq_false_iff_not, Bool.not_not, Bool.not_true, Bool.not_false] at hc38'
                                refine AC.region ?_
                                refine AL.val (Wanted.plain rfl) (g_fieldP rfl rfl Try.underlying75 rfl sz3 (by decide)) rfl rfl ?_
                                refine AL.val (Wanted.plain rfl) (g_loadB rfl rfl rfl Try.underlying3 rfl rfl) rfl rfl ?_
                                refine AL.fast 1 rfl ?_
                                refine AL.val (Wanted.plain rfl) (g_binI rfl rfl rfl (wrap_ok (by first | omega | (simp; done) | (simp; omega) | (have hq := rightAuth (hr0.trans (by omega)); omega)))) rfl rfl ?_
                                refine AL.val (Wanted.plain rfl) (g_fieldP rfl rfl Try.underlying75 rfl sz3 (by decide)) rfl rfl ?_
                                refine AL.val (Wanted.plain rfl) (g_loadB rfl rfl rfl Try.underlying3 rfl rfl) rfl rfl ?_
                                refine AL.fast 1 rfl ?_
                                refine AL.val (Wanted.plain rfl) (g_binI rfl rfl rfl (wrap_ok (by first | omega | (simp; done) | (simp; omega) | (have hq := rightAuth (hr0.trans (by omega)); omega)))) rfl rfl ?_
                                refine AL.val (Wanted.plain rfl) (g_fieldP rfl rfl Try.underlying75 rfl sz3 (by decide)) rfl rfl ?_
                                refine AL.sto (h' := [(2, (.map (mV [(1, 1000000 - a.sum), (2, a.sum - a.captured), (3, a.sum - a.captured), (4, a.sum - a.captured), (5, (a.captured - a.refunded) - a.disputed), (6, (a.captured - a.refunded) - a.disputed), (7, a.disputed), (8, a.disputed)]) 8)), (1, (.box 75 [(cI 0), (cI 0), (cI 0), (cI 0), (cI 0), (cI 0), (cI 0), (cB false)])), (0, (.box 75 [(cI a.card), (cI a.shop), (cI a.sum), (cI a.captured), (cI a.refunded), (cI (a.disputed - n)), (cI a.till), (cB a.shut)]))]) (Wanted.plain rfl) (g_storeB rfl rfl rfl rfl rfl sz3 rfl (Nat.le_of_ble_eq_true rfl) rfl) rfl rfl rfl rfl ?_
                                refine AL.val (Wanted.plain rfl) (g_fieldP rfl rfl Try.underlying75 rfl sz3 (by decide)) rfl rfl ?_
                                refine AL.sto (h' := [(2, (.map (mV [(1, 1000000 - a.sum), (2, a.sum - a.captured), (3, a.sum - a.captured), (4, a.sum - a.captured), (5, (a.captured - a.refunded) - a.disputed), (6, (a.captured - a.refunded) - a.disputed), (7, a.disputed), (8, a.disputed)]) 8)), (1, (.box 75 [(cI 0), (cI 0), (cI 0), (cI 0), (cI 0), (cI 0), (cI 0), (cB false)])), (0, (.box 75 [(cI a.card), (cI a.shop), (cI a.sum), (cI a.captured), (cI (a.refunded + n)), (cI (a.disputed - n)), (cI a.till), (cB a.shut)]))]) (Wanted.plain rfl) (g_storeB rfl rfl rfl rfl rfl sz3 rfl (Nat.le_of_ble_eq_true rfl) rfl) rfl rfl rfl rfl ?_
                                refine AL.nil ?_
                                refine block_ok ?_
                                refine then_ok ?_
                                refine AC.seq ?_
                                refine AC.cutB 158 ((decide (kind = 3)) || (((decide (kind = 2)) || (decide (kind = 4))) && (decide (a.sum = a.captured)))) ?_ ?_
                                ·
                                  refine AC.region ?_
                                  refine AL.fast 1 rfl ?_
                                  refine AL.val (Wanted.plain rfl) (g_binI rfl rfl rfl rfl) rfl rfl ?_
                                  refine AL.fast 1 rfl ?_
                                  refine AL.dec (t := 144) rfl (fun hno => absurd (hc25.symm.trans hno) (by decide)) (fun _ => ?_)
                                  refine AL.fast 1 rfl ?_
                                  refine AL.val (Wanted.yes rfl rfl rfl) (g_binI rfl rfl rfl rfl) rfl rfl ?_
                                  refine AL.fast 1 rfl ?_
                                  refine AL.dec (t := 147) rfl (fun hno => absurd (hc20.symm.trans hno) (by decide)) (fun _ => ?_)
                                  refine AL.fast 1 rfl ?_
                                  refine AL.val (Wanted.yes rfl rfl rfl) (g_binI rfl rfl rfl rfl) rfl rfl ?_
                                  refine AL.fast 2 rfl ?_
                                  refine AL.dec (t := 151) rfl (fun hno => absurd (hc15.symm.trans hno) (by decide)) (fun _ => ?_)
                                  refine AL.fast 7 rfl ?_
                                  refine AL.nil ?_
                                  refine then_ok ?_
                                  exact Weak.popB 20 rfl rfl (by first | (simp []; done) | (simp_all; done) | (exfalso; simp_all; done) | (simp_all; omega)) rfl
                                ·
                                  refine AC.cond rfl (fun hc42 => ?_) (fun hc42 => ?_)
                                  ·
                                    have hc42' := hc42; try simp only [sumB, Bool.not_eq_true', Bool.not_eq_false', Bool.or_eq_true, Bool.or_eq_false_iff, Bool.and_eq_true, Bool.and_eq_false_imp, decide_eq_true_eq, decide_eq_false_iff_not, Bool.not_not, Bool.not_true, Bool.not_false] at hc42'
                                    refine AC.region ?_
                                    refine AL.val (Wanted.plain rfl) (g_fieldP rfl rfl Try.underlying75 rfl sz4 (by decide)) rfl rfl ?_
                                    refine AL.sto (h' := [(2, (.map (mV [(1, 1000000 - a.sum), (2, a.sum - a.captured), (3, a.sum - a.captured), (4, a.sum - a.captured), (5, (a.captured - a.refunded) - a.disputed), (6, (a.captured - a.refunded) - a.disputed), (7, a.disputed), (8, a.disputed)]) 8)), (1, (.box 75 [(cI 0), (cI 0), (cI 0), (cI 0), (cI 0), (cI 0), (cI 0), (cB false)])), (0, (.box 75 [(cI a.card), (cI a.shop), (cI a.sum), (cI a.captured), (cI (a.refunded + n)), (cI (a.disputed - n)), (cI a.till), (cB true)]))]) (Wanted.plain rfl) (g_storeB rfl rfl rfl rfl rfl sz4 rfl (Nat.le_of_ble_eq_true rfl) rfl) rfl rfl rfl rfl ?_
                                    refine AL.nil ?_
                                    refine then_ok ?_
                                    refine AC.seq ?_
                                    refine AC.region ?_
                                    refine AL.val (Wanted.plain rfl) (g_loadBs rfl rfl rfl Try.underlying75 rfl sz75 rfl rfl) rfl rfl ?_
                                    refine AL.sto (h' := [(2, (.map (mV [(1, 1000000 - a.sum), (2, a.sum - a.captured), (3, a.sum - a.captured), (4, a.sum - a.captured), (5, (a.captured - a.refunded) - a.disputed), (6, (a.captured - a.refunded) - a.disputed), (7, a.disputed), (8, a.disputed)]) 8)), (1, (.box 75 [(cI a.card), (cI a.shop), (cI a.sum), (cI a.captured), (cI (a.refunded + n)), (cI (a.disputed - n)), (cI a.till), (cB true)])), (0, (.box 75 [(cI a.card), (cI a.shop), (cI a.sum), (cI a.captured), (cI (a.refunded + n)), (cI (a.disputed - n)), (cI a.till), (cB true)]))]) (Wanted.plain rfl) (g_storeB rfl rfl rfl rfl rfl sz75 rfl (Nat.le_of_ble_eq_true rfl) rfl) rfl rfl rfl rfl ?_
                                    refine AL.fast 1 rfl ?_
                                    refine AL.nil ?_
                                    refine then_ok ?_
                                    refine AC.ret ?_
                                    have hX : moveAuth a kind n = ((⟨a.card, a.shop, a.sum, a.captured, a.refunded + n, a.disputed - n, a.till, true⟩ : Auth), 0) := by
                                      (have hq := rightAuth (hr0.trans (by omega)); have hk : kind = 1 ∨ kind = 2 ∨ kind = 3 ∨ kind = 4 ∨ kind = 5 ∨ kind = 6 ∨ kind = 7 ∨ kind = 8 := by omega); (rcases hk with rfl | rfl | rfl | rfl | rfl | rfl | rfl | rfl)
                                      · first | (exfalso; omega) | (simp [mlook] at hc8'; have hs : a.shut = false := hc7' (by omega); rw [mv1 (hr0.trans (by omega)) (by omega) (by omega) hs]; first | (rw [if_pos (by omega)] <;> first | rfl | (rw [hs]; rfl)) | (rw [if_neg (by omega)] <;> first | rfl | (refine Prod.ext (auth_ext rfl rfl rfl rfl rfl rfl rfl ?_) rfl; first | (simp_all; done) | (simp_all; omega))))
                                      · first | (exfalso; omega) | (simp [mlook] at hc8'; have hs : a.shut = false := hc7' (by omega); rw [mv2 (hr0.trans (by omega)) (by omega) (by omega) hs]; first | (rw [if_pos (by omega)] <;> first | rfl | (rw [hs]; rfl)) | (rw [if_neg (by omega)] <;> first | rfl | (refine Prod.ext (auth_ext rfl rfl rfl rfl rfl rfl rfl ?_) rfl; first | (simp_all; done) | (simp_all; omega))))
                                      · first | (exfalso; omega) | (simp [mlook] at hc8'; have hs : a.shut = false := hc7' (by omega); rw [mv3 (hr0.trans (by omega)) (by omega) (by omega) hs]; first | (rw [if_pos (by omega)] <;> first | rfl | (rw [hs]; rfl)) | (rw [if_neg (by omega)] <;> first | rfl | (refine Prod.ext (auth_ext rfl rfl rfl rfl rfl rfl rfl ?_) rfl; first | (simp_all; done) | (simp_all; omega))))
                                      · first | (exfalso; omega) | (simp [mlook] at hc8'; have hs : a.shut = false := hc7' (by omega); rw [mv4 (hr0.trans (by omega)) (by omega) (by omega) hs]; first | (rw [if_pos (by omega)] <;> first | rfl | (rw [hs]; rfl)) | (rw [if_neg (by omega)] <;> first | rfl | (refine Prod.ext (auth_ext rfl rfl rfl rfl rfl rfl rfl ?_) rfl; first | (simp_all; done) | (simp_all; omega))))
                                      · first | (exfalso; omega) | (simp [mlook] at hc8'; rw [mv5 (hr0.trans (by omega)) (by omega) (by omega)]; first | (rw [if_pos (by omega)] <;> first | rfl | (rw [hs]; rfl)) | (rw [if_neg (by omega)] <;> first | rfl | (refine Prod.ext (auth_ext rfl rfl rfl rfl rfl rfl rfl ?_) rfl; first | (simp_all; done) | (simp_all; omega))))
                                      · first | (exfalso; omega) | (simp [mlook] at hc8'; rw [mv6 (hr0.trans (by omega)) (by omega) (by omega)]; first | (rw [if_pos (by omega)] <;> first | rfl | (rw [hs]; rfl)) | (rw [if_neg (by omega)] <;> first | rfl | (refine Prod.ext (auth_ext rfl rfl rfl rfl rfl rfl rfl ?_) rfl; first | (simp_all; done) | (simp_all; omega))))
                                      · first | (exfalso; omega) | (simp [mlook] at hc8'; rw [mv7 (hr0.trans (by omega)) (by omega) (by omega)]; first | (rw [if_pos (by omega)] <;> first | rfl | (rw [hs]; rfl)) | (rw [if_neg (by omega)] <;> first | rfl | (refine Prod.ext (auth_ext rfl rfl rfl rfl rfl rfl rfl ?_) rfl; first | (simp_all; done) | (simp_all; omega))))
                                      · first | (exfalso; omega) | (simp [mlook] at hc8'; rw [mv8 (hr0.trans (by omega)) (by omega) (by omega)]; first | (rw [if_pos (by omega)] <;> first | rfl | (rw [hs]; rfl)) | (rw [if_neg (by omega)] <;> first | rfl | (refine Prod.ext (auth_ext rfl rfl rfl rfl rfl rfl rfl ?_) rfl; first | (simp_all; done) | (simp_all; omega))))
                                    rw [hX] at hr; clear hX
                                    simp only [Prod.mk.injEq] at hr; obtain ⟨rfl, rfl⟩ := hr
                                    refine retQ_mk (av' := outOf [(.g [(cI a.card), (cI a.shop), (cI a.sum), (cI a.captured), (cI (a.refunded + n)), (cI (a.disputed - n)), (cI a.till), (cB true)]), (.c (cI 0))]) (nb' := []) (retQ_ret ⟨[(6, (aC (.p 1 0 0 0))), (7, (aI 0))], [(1, (.box 75 [(cI a.card), (cI a.shop), (cI a.sum), (cI a.captured), (cI (a.refunded + n)), (cI (a.disputed - n)), (cI a.till), (cB true)]))], 2⟩ [.cell 6 75, .tmp 7] [(.g [(cI a.card), (cI a.shop), (cI a.sum), (cI a.captured), (cI (a.refunded + n)), (cI (a.disputed - n)), (cI a.till), (cB true)]), (.c (cI 0))] (Weak.ren id (⟨by first | rfl | (simp only [AV.map, GV.map, CV.map, AB.map', id]; done) | (congr 3; omega) | (congr 4; omega) | (simp only [List.length_append, List.length_cons, List.length_nil, List.length_set]; rfl), by first | rfl | (simp only [AV.map, GV.map, CV.map, AB.map', id]; done) | (congr 3; omega) | (congr 4; omega) | (simp only [List.length_append, List.length_cons, List.length_nil, List.length_set]; rfl),  trivial⟩) (⟨by first | rfl | (simp only [AV.map, GV.map, CV.map, AB.map', id]; done) | (congr 3; omega) | (congr 4; omega) | (simp only [List.length_append, List.length_cons, List.length_nil, List.length_set]; rfl),  trivial⟩) rfl) rfl ⟨.agg rfl rfl (fun _ => run_isAgg Try.underlying75) sz75, .tmp rfl, trivial⟩ trivial) ?_ ?_
                                    · first | rfl | (simp [outOf, aC]; done) | (simp [outOf, aC]; omega)
                                    · first | rfl | (simp; done) | (simp; omega)
                                  ·
                                    have hc42' := hc42; try simp only [sumB, Bool.not_eq_true', Bool.not_eq_false', Bool.or_eq_true, Bool.or_eq_false_iff, Bool.and_eq_true, Bool.and_eq_false_imp, decide_eq_true_eq, decide_eq_false_iff_not, Bool.not_not, Bool.not_true, Bool.not_false] at hc42'
                                    refine AC.skip ?_
                                    refine then_ok ?_
                                    refine AC.seq ?_
                                    refine AC.region ?_
                                    refine AL.val (Wanted.plain rfl) (g_loadBs rfl rfl rfl Try.underlying75 rfl sz75 rfl rfl) rfl rfl ?_
                                    refine AL.sto (h' := [(2, (.map (mV [(1, 1000000 - a.sum), (2, a.sum - a.captured), (3, a.sum - a.captured), (4, a.sum - a.captured), (5, (a.captured - a.refunded) - a.disputed), (6, (a.captured - a.refunded) - a.disputed), (7, a.disputed), (8, a.disputed)]) 8)), (1, (.box 75 [(cI a.card), (cI a.shop), (cI a.sum), (cI a.captured), (cI (a.refunded + n)), (cI (a.disputed - n)), (cI a.till), (cB a.shut)])), (0, (.box 75 [(cI a.card), (cI a.shop), (cI a.sum), (cI a.captured), (cI (a.refunded + n)), (cI (a.disputed - n)), (cI a.till), (cB a.shut)]))]) (Wanted.plain rfl) (g_storeB rfl rfl rfl rfl rfl sz75 rfl (Nat.le_of_ble_eq_true rfl) rfl) rfl rfl rfl rfl ?_
                                    refine AL.fast 1 rfl ?_
                                    refine AL.nil ?_
                                    refine then_ok ?_
                                    refine AC.ret ?_
                                    have hX : moveAuth a kind n = ((⟨a.card, a.shop, a.sum, a.captured, a.refunded + n, a.disputed - n, a.till, a.shut⟩ : Auth), 0) := by
                                      (have hq := rightAuth (hr0.trans (by omega)); have hk : kind = 1 ∨ kind = 2 ∨ kind = 3 ∨ kind = 4 ∨ kind = 5 ∨ kind = 6 ∨ kind = 7 ∨ kind = 8 := by omega); (rcases hk with rfl | rfl | rfl | rfl | rfl | rfl | rfl | rfl)
                                      · first | (exfalso; omega) | (simp [mlook] at hc8'; have hs : a.shut = false := hc7' (by omega); rw [mv1 (hr0.trans (by omega)) (by omega) (by omega) hs]; first | (rw [if_pos (by omega)] <;> first | rfl | (rw [hs]; rfl)) | (rw [if_neg (by omega)] <;> first | rfl | (refine Prod.ext (auth_ext rfl rfl rfl rfl rfl rfl rfl ?_) rfl; first | (simp_all; done) | (simp_all; omega))))
                                      · first | (exfalso; omega) | (simp [mlook] at hc8'; have hs : a.shut = false := hc7' (by omega); rw [mv2 (hr0.trans (by omega)) (by omega) (by omega) hs]; first | (rw [if_pos (by omega)] <;> first | rfl | (rw [hs]; rfl)) | (rw [if_neg (by omega)] <;> first | rfl | (refine Prod.ext (auth_ext rfl rfl rfl rfl rfl rfl rfl ?_) rfl; first | (simp_all; done) | (simp_all; omega))))
                                      · first | (exfalso; omega) | (simp [mlook] at hc8'; have hs : a.shut = false := hc7' (by omega); rw [mv3 (hr0.trans (by omega)) (by omega) (by omega) hs]; first | (rw [if_pos (by omega)] <;> first | rfl | (rw [hs]; rfl)) | (rw [if_neg (by omega)] <;> first | rfl | (refine Prod.ext (auth_ext rfl rfl rfl rfl rfl rfl rfl ?_) rfl; first | (simp_all; done) | (simp_all; omega))))
                                      · first | (exfalso; omega) | (simp [mlook] at hc8'; have hs : a.shut = false := hc7' (by omega); rw [mv4 (hr0.trans (by omega)) (by omega) (by omega) hs]; first | (rw [if_pos (by omega)] <;> first | rfl | (rw [hs]; rfl)) | (rw [if_neg (by omega)] <;> first | rfl | (refine Prod.ext (auth_ext rfl rfl rfl rfl rfl rfl rfl ?_) rfl; first | (simp_all; done) | (simp_all; omega))))
                                      · first | (exfalso; omega) | (simp [mlook] at hc8'; rw [mv5 (hr0.trans (by omega)) (by omega) (by omega)]; first | (rw [if_pos (by omega)] <;> first | rfl | (rw [hs]; rfl)) | (rw [if_neg (by omega)] <;> first | rfl | (refine Prod.ext (auth_ext rfl rfl rfl rfl rfl rfl rfl ?_) rfl; first | (simp_all; done) | (simp_all; omega))))
                                      · first | (exfalso; omega) | (simp [mlook] at hc8'; rw [mv6 (hr0.trans (by omega)) (by omega) (by omega)]; first | (rw [if_pos (by omega)] <;> first | rfl | (rw [hs]; rfl)) | (rw [if_neg (by omega)] <;> first | rfl | (refine Prod.ext (auth_ext rfl rfl rfl rfl rfl rfl rfl ?_) rfl; first | (simp_all; done) | (simp_all; omega))))
                                      · first | (exfalso; omega) | (simp [mlook] at hc8'; rw [mv7 (hr0.trans (by omega)) (by omega) (by omega)]; first | (rw [if_pos (by omega)] <;> first | rfl | (rw [hs]; rfl)) | (rw [if_neg (by omega)] <;> first | rfl | (refine Prod.ext (auth_ext rfl rfl rfl rfl rfl rfl rfl ?_) rfl; first | (simp_all; done) | (simp_all; omega))))
                                      · first | (exfalso; omega) | (simp [mlook] at hc8'; rw [mv8 (hr0.trans (by omega)) (by omega) (by omega)]; first | (rw [if_pos (by omega)] <;> first | rfl | (rw [hs]; rfl)) | (rw [if_neg (by omega)] <;> first | rfl | (refine Prod.ext (auth_ext rfl rfl rfl rfl rfl rfl rfl ?_) rfl; first | (simp_all; done) | (simp_all; omega))))
                                    rw [hX] at hr; clear hX
                                    simp only [Prod.mk.injEq] at hr; obtain ⟨rfl, rfl⟩ := hr
                                    refine retQ_mk (av' := outOf [(.g [(cI a.card), (cI a.shop), (cI a.sum), (cI a.captured), (cI (a.refunded + n)), (cI (a.disputed - n)), (cI a.till), (cB a.shut)]), (.c (cI 0))]) (nb' := []) (retQ_ret ⟨[(6, (aC (.p 1 0 0 0))), (7, (aI 0))], [(1, (.box 75 [(cI a.card), (cI a.shop), (cI a.sum), (cI a.captured), (cI (a.refunded + n)), (cI (a.disputed - n)), (cI a.till), (cB a.shut)]))], 2⟩ [.cell 6 75, .tmp 7] [(.g [(cI a.card), (cI a.shop), (cI a.sum), (cI a.captured), (cI (a.refunded + n)), (cI (a.disputed - n)), (cI a.till), (cB a.shut)]), (.c (cI 0))] (Weak.ren id (⟨by first | rfl | (simp only [AV.map, GV.map, CV.map, AB.map', id]; done) | (congr 3; omega) | (congr 4; omega) | (simp only [List.length_append, List.length_cons, List.length_nil, List.length_set]; rfl), by first | rfl | (simp only [AV.map, GV.map, CV.map, AB.map', id]; done) | (congr 3; omega) | (congr 4; omega) | (simp only [List.length_append, List.length_cons, List.length_nil, List.length_set]; rfl),  trivial⟩) (⟨by first | rfl | (simp only [AV.map, GV.map, CV.map, AB.map', id]; done) | (congr 3; omega) | (congr 4; omega) | (simp only [List.length_append, List.length_cons, List.length_nil, List.length_set]; rfl),  trivial⟩) rfl) rfl ⟨.agg rfl rfl (fun _ => run_isAgg Try.underlying75) sz75, .tmp rfl, trivial⟩ trivial) ?_ ?_
                                    · first | rfl | (simp [outOf, aC]; done) | (simp [outOf, aC]; omega)
                                    · first | rfl | (simp; done) | (simp; omega)
                              ·
                                have hc38' := hc38; try simp only [sumB, Bool.not_eq_true', Bool.not_eq_false', Bool.or_eq_true, Bool.or_eq_false_iff, Bool.and_eq_true, Bool.and_eq_false_imp, decide_eq_true_eq, decide_eq_false_iff_not, Bool.not_not, Bool.not_true, Bool.not_false] at hc38'
                                refine AC.seq ?_
                                refine AC.region ?_
                                refine AL.val (Wanted.plain rfl) (g_binI rfl rfl rfl rfl) rfl rfl ?_
                                refine AL.fast 1 rfl ?_
                                refine AL.nil ?_
                                refine then_ok ?_
                                refine AC.cond rfl (fun hc43 => ?_) (fun hc43 => ?_)
                                ·
                                  have hc43' := hc43; try simp only [sumB, Bool.not_eq_true', Bool.not_eq_false', Bool.or_eq_true, Bool.or_eq_false_iff, Bool.and_eq_true, Bool.and_eq_false_imp, decide_eq_true_eq, decide_eq_false_iff_not, Bool.not_not, Bool.not_true, Bool.not_false] at hc43'
                                  refine AC.region ?_
                                  refine AL.val (Wanted.plain rfl) (g_fieldP rfl rfl Try.underlying75 rfl sz3 (by decide)) rfl rfl ?_
                                  refine AL.val (Wanted.plain rfl) (g_loadB rfl rfl rfl Try.underlying3 rfl rfl) rfl rfl ?_
                                  refine AL.fast 1 rfl ?_
                                  refine AL.val (Wanted.plain rfl) (g_binI rfl rfl rfl (wrap_ok (by first | omega | (simp; done) | (simp; omega) | (have hq := rightAuth (hr0.trans (by omega)); omega)))) rfl rfl ?_
                                  refine AL.val (Wanted.plain rfl) (g_fieldP rfl rfl Try.underlying75 rfl sz3 (by decide)) rfl rfl ?_
                                  refine AL.sto (h' := [(2, (.map (mV [(1, 1000000 - a.sum), (2, a.sum - a.captured), (3, a.sum - a.captured), (4, a.sum - a.captured), (5, (a.captured - a.refunded) - a.disputed), (6, (a.captured - a.refunded) - a.disputed), (7, a.disputed), (8, a.disputed)]) 8)), (1, (.box 75 [(cI 0), (cI 0), (cI 0), (cI 0), (cI 0), (cI 0), (cI 0), (cB false)])), (0, (.box 75 [(cI a.card), (cI a.shop), (cI a.sum), (cI a.captured), (cI a.refunded), (cI (a.disputed - n)), (cI a.till), (cB a.shut)]))]) (Wanted.plain rfl) (g_storeB rfl rfl rfl rfl rfl sz3 rfl (Nat.le_of_ble_eq_true rfl) rfl) rfl rfl rfl rfl ?_
                                  refine AL.nil ?_
                                  refine block_ok ?_
                                  refine then_ok ?_
                                  refine AC.seq ?_
                                  refine AC.cutB 158 ((decide (kind = 3)) || (((decide (kind = 2)) || (decide (kind = 4))) && (decide (a.sum = a.captured)))) ?_ ?_
                                  ·
                                    refine AC.region ?_
                                    refine AL.fast 1 rfl ?_
                                    refine AL.val (Wanted.plain rfl) (g_binI rfl rfl rfl rfl) rfl rfl ?_
                                    refine AL.fast 1 rfl ?_
                                    refine AL.dec (t := 144) rfl (fun hno => absurd (hc25.symm.trans hno) (by decide)) (fun _ => ?_)
                                    refine AL.fast 1 rfl ?_
                                    refine AL.val (Wanted.yes rfl rfl rfl) (g_binI rfl rfl rfl rfl) rfl rfl ?_
                                    refine AL.fast 1 rfl ?_
                                    refine AL.dec (t := 147) rfl (fun hno => absurd (hc20.symm.trans hno) (by decide)) (fun _ => ?_)
                                    refine AL.fast 1 rfl ?_
                                    refine AL.val (Wanted.yes rfl rfl rfl) (g_binI rfl rfl rfl rfl) rfl rfl ?_
                                    refine AL.fast 2 rfl ?_
                                    refine AL.dec (t := 151) rfl (fun hno => absurd (hc15.symm.trans hno) (by decide)) (fun _ => ?_)
                                    refine AL.fast 7 rfl ?_
                                    refine AL.nil ?_
                                    refine then_ok ?_
                                    exact Weak.popB 20 rfl rfl (by first | (simp []; done) | (simp_all; done) | (exfalso; simp_all; done) | (simp_all; omega)) rfl
                                  ·
                                    refine AC.cond rfl (fun hc47 => ?_) (fun hc47 => ?_)
                                    ·
                                      have hc47' := hc47; try simp only [sumB, Bool.not_eq_true', Bool.not_eq_false', Bool.or_eq_true, Bool.or_eq_false_iff, Bool.and_eq_true, Bool.and_eq_false_imp, decide_eq_true_eq, decide_eq_false_iff_not, Bool.not_not, Bool.not_true, Bool.not_false] at hc47'
                                      refine AC.region ?_
                                      refine AL.val (Wanted.plain rfl) (g_fieldP rfl rfl Try.underlying75 rfl sz4 (by decide)) rfl rfl ?_
                                      refine AL.sto (h' := [(2, (.map (mV [(1, 1000000 - a.sum), (2, a.sum - a.captured), (3, a.sum - a.captured), (4, a.sum - a.captured), (5, (a.captured - a.refunded) - a.disputed), (6, (a.captured - a.refunded) - a.disputed), (7, a.disputed), (8, a.disputed)]) 8)), (1, (.box 75 [(cI 0), (cI 0), (cI 0), (cI 0), (cI 0), (cI 0), (cI 0), (cB false)])), (0, (.box 75 [(cI a.card), (cI a.shop), (cI a.sum), (cI a.captured), (cI a.refunded), (cI (a.disputed - n)), (cI a.till), (cB true)]))]) (Wanted.plain rfl) (g_storeB rfl rfl rfl rfl rfl sz4 rfl (Nat.le_of_ble_eq_true rfl) rfl) rfl rfl rfl rfl ?_
                                      refine AL.nil ?_
                                      refine then_ok ?_
                                      refine AC.seq ?_
                                      refine AC.region ?_
                                      refine AL.val (Wanted.plain rfl) (g_loadBs rfl rfl rfl Try.underlying75 rfl sz75 rfl rfl) rfl rfl ?_
                                      refine AL.sto (h' := [(2, (.map (mV [(1, 1000000 - a.sum), (2, a.sum - a.captured), (3, a.sum - a.captured), (4, a.sum - a.captured), (5, (a.captured - a.refunded) - a.disputed), (6, (a.captured - a.refunded) - a.disputed), (7, a.disputed), (8, a.disputed)]) 8)), (1, (.box 75 [(cI a.card), (cI a.shop), (cI a.sum), (cI a.captured), (cI a.refunded), (cI (a.disputed - n)), (cI a.till), (cB true)])), (0, (.box 75 [(cI a.card), (cI a.shop), (cI a.sum), (cI a.captured), (cI a.refunded), (cI (a.disputed - n)), (cI a.till), (cB true)]))]) (Wanted.plain rfl) (g_storeB rfl rfl rfl rfl rfl sz75 rfl (Nat.le_of_ble_eq_true rfl) rfl) rfl rfl rfl rfl ?_
                                      refine AL.fast 1 rfl ?_
                                      refine AL.nil ?_
                                      refine then_ok ?_
                                      refine AC.ret ?_
                                      have hX : moveAuth a kind n = ((⟨a.card, a.shop, a.sum, a.captured, a.refunded, a.disputed - n, a.till, true⟩ : Auth), 0) := by
                                        (have hq := rightAuth (hr0.trans (by omega)); have hk : kind = 1 ∨ kind = 2 ∨ kind = 3 ∨ kind = 4 ∨ kind = 5 ∨ kind = 6 ∨ kind = 7 ∨ kind = 8 := by omega); (rcases hk with rfl | rfl | rfl | rfl | rfl | rfl | rfl | rfl)
                                        · first | (exfalso; omega) | (simp [mlook] at hc8'; have hs : a.shut = false := hc7' (by omega); rw [mv1 (hr0.trans (by omega)) (by omega) (by omega) hs]; first | (rw [if_pos (by omega)] <;> first | rfl | (rw [hs]; rfl)) | (rw [if_neg (by omega)] <;> first | rfl | (refine Prod.ext (auth_ext rfl rfl rfl rfl rfl rfl rfl ?_) rfl; first | (simp_all; done) | (simp_all; omega))))
                                        · first | (exfalso; omega) | (simp [mlook] at hc8'; have hs : a.shut = false := hc7' (by omega); rw [mv2 (hr0.trans (by omega)) (by omega) (by omega) hs]; first | (rw [if_pos (by omega)] <;> first | rfl | (rw [hs]; rfl)) | (rw [if_neg (by omega)] <;> first | rfl | (refine Prod.ext (auth_ext rfl rfl rfl rfl rfl rfl rfl ?_) rfl; first | (simp_all; done) | (simp_all; omega))))
                                        · first | (exfalso; omega) | (simp [mlook] at hc8'; have hs : a.shut = false := hc7' (by omega); rw [mv3 (hr0.trans (by omega)) (by omega) (by omega) hs]; first | (rw [if_pos (by omega)] <;> first | rfl | (rw [hs]; rfl)) | (rw [if_neg (by omega)] <;> first | rfl | (refine Prod.ext (auth_ext rfl rfl rfl rfl rfl rfl rfl ?_) rfl; first | (simp_all; done) | (simp_all; omega))))
                                        · first | (exfalso; omega) | (simp [mlook] at hc8'; have hs : a.shut = false := hc7' (by omega); rw [mv4 (hr0.trans (by omega)) (by omega) (by omega) hs]; first | (rw [if_pos (by omega)] <;> first | rfl | (rw [hs]; rfl)) | (rw [if_neg (by omega)] <;> first | rfl | (refine Prod.ext (auth_ext rfl rfl rfl rfl rfl rfl rfl ?_) rfl; first | (simp_all; done) | (simp_all; omega))))
                                        · first | (exfalso; omega) | (simp [mlook] at hc8'; rw [mv5 (hr0.trans (by omega)) (by omega) (by omega)]; first | (rw [if_pos (by omega)] <;> first | rfl | (rw [hs]; rfl)) | (rw [if_neg (by omega)] <;> first | rfl | (refine Prod.ext (auth_ext rfl rfl rfl rfl rfl rfl rfl ?_) rfl; first | (simp_all; done) | (simp_all; omega))))
                                        · first | (exfalso; omega) | (simp [mlook] at hc8'; rw [mv6 (hr0.trans (by omega)) (by omega) (by omega)]; first | (rw [if_pos (by omega)] <;> first | rfl | (rw [hs]; rfl)) | (rw [if_neg (by omega)] <;> first | rfl | (refine Prod.ext (auth_ext rfl rfl rfl rfl rfl rfl rfl ?_) rfl; first | (simp_all; done) | (simp_all; omega))))
                                        · first | (exfalso; omega) | (simp [mlook] at hc8'; rw [mv7 (hr0.trans (by omega)) (by omega) (by omega)]; first | (rw [if_pos (by omega)] <;> first | rfl | (rw [hs]; rfl)) | (rw [if_neg (by omega)] <;> first | rfl | (refine Prod.ext (auth_ext rfl rfl rfl rfl rfl rfl rfl ?_) rfl; first | (simp_all; done) | (simp_all; omega))))
                                        · first | (exfalso; omega) | (simp [mlook] at hc8'; rw [mv8 (hr0.trans (by omega)) (by omega) (by omega)]; first | (rw [if_pos (by omega)] <;> first | rfl | (rw [hs]; rfl)) | (rw [if_neg (by omega)] <;> first | rfl | (refine Prod.ext (auth_ext rfl rfl rfl rfl rfl rfl rfl ?_) rfl; first | (simp_all; done) | (simp_all; omega))))
                                      rw [hX] at hr; clear hX
                                      simp only [Prod.mk.injEq] at hr; obtain ⟨rfl, rfl⟩ := hr
                                      refine retQ_mk (av' := outOf [(.g [(cI a.card), (cI a.shop), (cI a.sum), (cI a.captured), (cI a.refunded), (cI (a.disputed - n)), (cI a.till), (cB true)]), (.c (cI 0))]) (nb' := []) (retQ_ret ⟨[(6, (aC (.p 1 0 0 0))), (7, (aI 0))], [(1, (.box 75 [(cI a.card), (cI a.shop), (cI a.sum), (cI a.captured), (cI a.refunded), (cI (a.disputed - n)), (cI a.till), (cB true)]))], 2⟩ [.cell 6 75, .tmp 7] [(.g [(cI a.card), (cI a.shop), (cI a.sum), (cI a.captured), (cI a.refunded), (cI (a.disputed - n)), (cI a.till), (cB true)]), (.c (cI 0))] (Weak.ren id (⟨by first | rfl | (simp only [AV.map, GV.map, CV.map, AB.map', id]; done) | (congr 3; omega) | (congr 4; omega) | (simp only [List.length_append, List.length_cons, List.length_nil, List.length_set]; rfl), by first | rfl | (simp only [AV.map, GV.map, CV.map, AB.map', id]; done) | (congr 3; omega) | (congr 4; omega) | (simp only [List.length_append, List.length_cons, List.length_nil, List.length_set]; rfl),  trivial⟩) (⟨by first | rfl | (simp only [AV.map, GV.map, CV.map, AB.map', id]; done) | (congr 3; omega) | (congr 4; omega) | (simp only [List.length_append, List.length_cons, List.length_nil, List.length_set]; rfl),  trivial⟩) rfl) rfl ⟨.agg rfl rfl (fun _ => run_isAgg Try.underlying75) sz75, .tmp rfl, trivial⟩ trivial) ?_ ?_
                                      · first | rfl | (simp [outOf, aC]; done) | (simp [outOf, aC]; omega)
                                      · first | rfl | (simp; done) | (simp; omega)
                                    ·
                                      have hc47' := hc47; try simp only [sumB, Bool.not_eq_true', Bool.not_eq_false', Bool.or_eq_true, Bool.or_eq_false_iff, Bool.and_eq_true, Bool.and_eq_false_imp, decide_eq_true_eq, decide_eq_false_iff_not, Bool.not_not, Bool.not_true, Bool.not_false] at hc47'
                                      refine AC.skip ?_
                                      refine then_ok ?_
                                      refine AC.seq ?_
                                      refine AC.region ?_
                                      refine AL.val (Wanted.plain rfl) (g_loadBs rfl rfl rfl Try.underlying75 rfl sz75 rfl rfl) rfl rfl ?_
                                      refine AL.sto (h' := [(2, (.map (mV [(1, 1000000 - a.sum), (2, a.sum - a.captured), (3, a.sum - a.captured), (4, a.sum - a.captured), (5, (a.captured - a.refunded) - a.disputed), (6, (a.captured - a.refunded) - a.disputed), (7, a.disputed), (8, a.disputed)]) 8)), (1, (.box 75 [(cI a.card), (cI a.shop), (cI a.sum), (cI a.captured), (cI a.refunded), (cI (a.disputed - n)), (cI a.till), (cB a.shut)])), (0, (.box 75 [(cI a.card), (cI a.shop), (cI a.sum), (cI a.captured), (cI a.refunded), (cI (a.disputed - n)), (cI a.till), (cB a.shut)]))]) (Wanted.plain rfl) (g_storeB rfl rfl rfl rfl rfl sz75 rfl (Nat.le_of_ble_eq_true rfl) rfl) rfl rfl rfl rfl ?_
                                      refine AL.fast 1 rfl ?_
                                      refine AL.nil ?_
                                      refine then_ok ?_
                                      refine AC.ret ?_
                                      have hX : moveAuth a kind n = ((⟨a.card, a.shop, a.sum, a.captured, a.refunded, a.disputed - n, a.till, a.shut⟩ : Auth), 0) := by
                                        (have hq := rightAuth (hr0.trans (by omega)); have hk : kind = 1 ∨ kind = 2 ∨ kind = 3 ∨ kind = 4 ∨ kind = 5 ∨ kind = 6 ∨ kind = 7 ∨ kind = 8 := by omega); (rcases hk with rfl | rfl | rfl | rfl | rfl | rfl | rfl | rfl)
                                        · first | (exfalso; omega) | (simp [mlook] at hc8'; have hs : a.shut = false := hc7' (by omega); rw [mv1 (hr0.trans (by omega)) (by omega) (by omega) hs]; first | (rw [if_pos (by omega)] <;> first | rfl | (rw [hs]; rfl)) | (rw [if_neg (by omega)] <;> first | rfl | (refine Prod.ext (auth_ext rfl rfl rfl rfl rfl rfl rfl ?_) rfl; first | (simp_all; done) | (simp_all; omega))))
                                        · first | (exfalso; omega) | (simp [mlook] at hc8'; have hs : a.shut = false := hc7' (by omega); rw [mv2 (hr0.trans (by omega)) (by omega) (by omega) hs]; first | (rw [if_pos (by omega)] <;> first | rfl | (rw [hs]; rfl)) | (rw [if_neg (by omega)] <;> first | rfl | (refine Prod.ext (auth_ext rfl rfl rfl rfl rfl rfl rfl ?_) rfl; first | (simp_all; done) | (simp_all; omega))))
                                        · first | (exfalso; omega) | (simp [mlook] at hc8'; have hs : a.shut = false := hc7' (by omega); rw [mv3 (hr0.trans (by omega)) (by omega) (by omega) hs]; first | (rw [if_pos (by omega)] <;> first | rfl | (rw [hs]; rfl)) | (rw [if_neg (by omega)] <;> first | rfl | (refine Prod.ext (auth_ext rfl rfl rfl rfl rfl rfl rfl ?_) rfl; first | (simp_all; done) | (simp_all; omega))))
                                        · first | (exfalso; omega) | (simp [mlook] at hc8'; have hs : a.shut = false := hc7' (by omega); rw [mv4 (hr0.trans (by omega)) (by omega) (by omega) hs]; first | (rw [if_pos (by omega)] <;> first | rfl | (rw [hs]; rfl)) | (rw [if_neg (by omega)] <;> first | rfl | (refine Prod.ext (auth_ext rfl rfl rfl rfl rfl rfl rfl ?_) rfl; first | (simp_all; done) | (simp_all; omega))))
                                        · first | (exfalso; omega) | (simp [mlook] at hc8'; rw [mv5 (hr0.trans (by omega)) (by omega) (by omega)]; first | (rw [if_pos (by omega)] <;> first | rfl | (rw [hs]; rfl)) | (rw [if_neg (by omega)] <;> first | rfl | (refine Prod.ext (auth_ext rfl rfl rfl rfl rfl rfl rfl ?_) rfl; first | (simp_all; done) | (simp_all; omega))))
                                        · first | (exfalso; omega) | (simp [mlook] at hc8'; rw [mv6 (hr0.trans (by omega)) (by omega) (by omega)]; first | (rw [if_pos (by omega)] <;> first | rfl | (rw [hs]; rfl)) | (rw [if_neg (by omega)] <;> first | rfl | (refine Prod.ext (auth_ext rfl rfl rfl rfl rfl rfl rfl ?_) rfl; first | (simp_all; done) | (simp_all; omega))))
                                        · first | (exfalso; omega) | (simp [mlook] at hc8'; rw [mv7 (hr0.trans (by omega)) (by omega) (by omega)]; first | (rw [if_pos (by omega)] <;> first | rfl | (rw [hs]; rfl)) | (rw [if_neg (by omega)] <;> first | rfl | (refine Prod.ext (auth_ext rfl rfl rfl rfl rfl rfl rfl ?_) rfl; first | (simp_all; done) | (simp_all; omega))))
                                        · first | (exfalso; omega) | (simp [mlook] at hc8'; rw [mv8 (hr0.trans (by omega)) (by omega) (by omega)]; first | (rw [if_pos (by omega)] <;> first | rfl | (rw [hs]; rfl)) | (rw [if_neg (by omega)] <;> first | rfl | (refine Prod.ext (auth_ext rfl rfl rfl rfl rfl rfl rfl ?_) rfl; first | (simp_all; done) | (simp_all; omega))))
                                      rw [hX] at hr; clear hX
                                      simp only [Prod.mk.injEq] at hr; obtain ⟨rfl, rfl⟩ := hr
                                      refine retQ_mk (av' := outOf [(.g [(cI a.card), (cI a.shop), (cI a.sum), (cI a.captured), (cI a.refunded), (cI (a.disputed - n)), (cI a.till), (cB a.shut)]), (.c (cI 0))]) (nb' := []) (retQ_ret ⟨[(6, (aC (.p 1 0 0 0))), (7, (aI 0))], [(1, (.box 75 [(cI a.card), (cI a.shop), (cI a.sum), (cI a.captured), (cI a.refunded), (cI (a.disputed - n)), (cI a.till), (cB a.shut)]))], 2⟩ [.cell 6 75, .tmp 7] [(.g [(cI a.card), (cI a.shop), (cI a.sum), (cI a.captured), (cI a.refunded), (cI (a.disputed - n)), (cI a.till), (cB a.shut)]), (.c (cI 0))] (Weak.ren id (⟨by first | rfl | (simp only [AV.map, GV.map, CV.map, AB.map', id]; done) | (congr 3; omega) | (congr 4; omega) | (simp only [List.length_append, List.length_cons, List.length_nil, List.length_set]; rfl), by first | rfl | (simp only [AV.map, GV.map, CV.map, AB.map', id]; done) | (congr 3; omega) | (congr 4; omega) | (simp only [List.length_append, List.length_cons, List.length_nil, List.length_set]; rfl),  trivial⟩) (⟨by first | rfl | (simp only [AV.map, GV.map, CV.map, AB.map', id]; done) | (congr 3; omega) | (congr 4; omega) | (simp only [List.length_append, List.length_cons, List.length_nil, List.length_set]; rfl),  trivial⟩) rfl) rfl ⟨.agg rfl rfl (fun _ => run_isAgg Try.underlying75) sz75, .tmp rfl, trivial⟩ trivial) ?_ ?_
                                      · first | rfl | (simp [outOf, aC]; done) | (simp [outOf, aC]; omega)
                                      · first | rfl | (simp; done) | (simp; omega)
                                ·
                                  have hc43' := hc43; try simp only [sumB, Bool.not_eq_true', Bool.not_eq_false', Bool.or_eq_true, Bool.or_eq_false_iff, Bool.and_eq_true, Bool.and_eq_false_imp, decide_eq_true_eq, decide_eq_false_iff_not, Bool.not_not, Bool.not_true, Bool.not_false] at hc43'
                                  refine AC.skip ?_
                                  refine block_ok ?_
                                  refine then_ok ?_
                                  refine AC.seq ?_
                                  refine AC.cutB 158 ((decide (kind = 3)) || (((decide (kind = 2)) || (decide (kind = 4))) && (decide (a.sum = a.captured)))) ?_ ?_
                                  ·
                                    refine AC.region ?_
                                    refine AL.fast 1 rfl ?_
                                    refine AL.val (Wanted.plain rfl) (g_binI rfl rfl rfl rfl) rfl rfl ?_
                                    refine AL.fast 1 rfl ?_
                                    refine AL.dec (t := 144) rfl (fun hno => absurd (hc25.symm.trans hno) (by decide)) (fun _ => ?_)
                                    refine AL.fast 1 rfl ?_
                                    refine AL.val (Wanted.yes rfl rfl rfl) (g_binI rfl rfl rfl rfl) rfl rfl ?_
                                    refine AL.fast 1 rfl ?_
                                    refine AL.dec (t := 147) rfl (fun hno => absurd (hc20.symm.trans hno) (by decide)) (fun _ => ?_)
                                    refine AL.fast 1 rfl ?_
                                    refine AL.val (Wanted.yes rfl rfl rfl) (g_binI rfl rfl rfl rfl) rfl rfl ?_
                                    refine AL.fast 2 rfl ?_
                                    refine AL.dec (t := 151) rfl (fun hno => absurd (hc15.symm.trans hno) (by decide)) (fun _ => ?_)
                                    refine AL.fast 7 rfl ?_
                                    refine AL.nil ?_
                                    refine then_ok ?_
                                    exact Weak.popB 20 rfl rfl (by first | (simp []; done) | (simp_all; done) | (exfalso; simp_all; done) | (simp_all; omega)) rfl
                                  ·
                                    refine AC.cond rfl (fun hc51 => ?_) (fun hc51 => ?_)
                                    ·
                                      have hc51' := hc51; try simp only [sumB, Bool.not_eq_true', Bool.not_eq_false', Bool.or_eq_true, Bool.or_eq_false_iff, Bool.and_eq_true, Bool.and_eq_false_imp, decide_eq_true_eq, decide_eq_false_iff_not, Bool.not_not, Bool.not_true, Bool.not_false] at hc51'
                                      refine AC.region ?_
                                      refine AL.val (Wanted.plain rfl) (g_fieldP rfl rfl Try.underlying75 rfl sz4 (by decide)) rfl rfl ?_
                                      refine AL.sto (h' := [(2, (.map (mV [(1, 1000000 - a.sum), (2, a.sum - a.captured), (3, a.sum - a.captured), (4, a.sum - a.captured), (5, (a.captured - a.refunded) - a.disputed), (6, (a.captured - a.refunded) - a.disputed), (7, a.disputed), (8, a.disputed)]) 8)), (1, (.box 75 [(cI 0), (cI 0), (cI 0), (cI 0), (cI 0), (cI 0), (cI 0), (cB false)])), (0, (.box 75 [(cI a.card), (cI a.shop), (cI a.sum), (cI a.captured), (cI a.refunded), (cI a.disputed), (cI a.till), (cB true)]))]) (Wanted.plain rfl) (g_storeB rfl rfl rfl rfl rfl sz4 rfl (Nat.le_of_ble_eq_true rfl) rfl) rfl rfl rfl rfl ?_
                                      refine AL.nil ?_
                                      refine then_ok ?_
                                      refine AC.seq ?_
                                      refine AC.region ?_
                                      refine AL.val (Wanted.plain rfl) (g_loadBs rfl rfl rfl Try.underlying75 rfl sz75 rfl rfl) rfl rfl ?_
                                      refine AL.sto (h' := [(2, (.map (mV [(1, 1000000 - a.sum), (2, a.sum - a.captured), (3, a.sum - a.captured), (4, a.sum - a.captured), (5, (a.captured - a.refunded) - a.disputed), (6, (a.captured - a.refunded) - a.disputed), (7, a.disputed), (8, a.disputed)]) 8)), (1, (.box 75 [(cI a.card), (cI a.shop), (cI a.sum), (cI a.captured), (cI a.refunded), (cI a.disputed), (cI a.till), (cB true)])), (0, (.box 75 [(cI a.card), (cI a.shop), (cI a.sum), (cI a.captured), (cI a.refunded), (cI a.disputed), (cI a.till), (cB true)]))]) (Wanted.plain rfl) (g_storeB rfl rfl rfl rfl rfl sz75 rfl (Nat.le_of_ble_eq_true rfl) rfl) rfl rfl rfl rfl ?_
                                      refine AL.fast 1 rfl ?_
                                      refine AL.nil ?_
                                      refine then_ok ?_
                                      refine AC.ret ?_
                                      have hX : moveAuth a kind n = ((⟨a.card, a.shop, a.sum, a.captured, a.refunded, a.disputed, a.till, true⟩ : Auth), 0) := by
                                        (have hq := rightAuth (hr0.trans (by omega)); have hk : kind = 1 ∨ kind = 2 ∨ kind = 3 ∨ kind = 4 ∨ kind = 5 ∨ kind = 6 ∨ kind = 7 ∨ kind = 8 := by omega); (rcases hk with rfl | rfl | rfl | rfl | rfl | rfl | rfl | rfl)
                                        · first | (exfalso; omega) | (simp [mlook] at hc8'; have hs : a.shut = false := hc7' (by omega); rw [mv1 (hr0.trans (by omega)) (by omega) (by omega) hs]; first | (rw [if_pos (by omega)] <;> first | rfl | (rw [hs]; rfl)) | (rw [if_neg (by omega)] <;> first | rfl | (refine Prod.ext (auth_ext rfl rfl rfl rfl rfl rfl rfl ?_) rfl; first | (simp_all; done) | (simp_all; omega))))
                                        · first | (exfalso; omega) | (simp [mlook] at hc8'; have hs : a.shut = false := hc7' (by omega); rw [mv2 (hr0.trans (by omega)) (by omega) (by omega) hs]; first | (rw [if_pos (by omega)] <;> first | rfl | (rw [hs]; rfl)) | (rw [if_neg (by omega)] <;> first | rfl | (refine Prod.ext (auth_ext rfl rfl rfl rfl rfl rfl rfl ?_) rfl; first | (simp_all; done) | (simp_all; omega))))
                                        · first | (exfalso; omega) | (simp [mlook] at hc8'; have hs : a.shut = false := hc7' (by omega); rw [mv3 (hr0.trans (by omega)) (by omega) (by omega) hs]; first | (rw [if_pos (by omega)] <;> first | rfl | (rw [hs]; rfl)) | (rw [if_neg (by omega)] <;> first | rfl | (refine Prod.ext (auth_ext rfl rfl rfl rfl rfl rfl rfl ?_) rfl; first | (simp_all; done) | (simp_all; omega))))
                                        · first | (exfalso; omega) | (simp [mlook] at hc8'; have hs : a.shut = false := hc7' (by omega); rw [mv4 (hr0.trans (by omega)) (by omega) (by omega) hs]; first | (rw [if_pos (by omega)] <;> first | rfl | (rw [hs]; rfl)) | (rw [if_neg (by omega)] <;> first | rfl | (refine Prod.ext (auth_ext rfl rfl rfl rfl rfl rfl rfl ?_) rfl; first | (simp_all; done) | (simp_all; omega))))
                                        · first | (exfalso; omega) | (simp [mlook] at hc8'; rw [mv5 (hr0.trans (by omega)) (by omega) (by omega)]; first | (rw [if_pos (by omega)] <;> first | rfl | (rw [hs]; rfl)) | (rw [if_neg (by omega)] <;> first | rfl | (refine Prod.ext (auth_ext rfl rfl rfl rfl rfl rfl rfl ?_) rfl; first | (simp_all; done) | (simp_all; omega))))
                                        · first | (exfalso; omega) | (simp [mlook] at hc8'; rw [mv6 (hr0.trans (by omega)) (by omega) (by omega)]; first | (rw [if_pos (by omega)] <;> first | rfl | (rw [hs]; rfl)) | (rw [if_neg (by omega)] <;> first | rfl | (refine Prod.ext (auth_ext rfl rfl rfl rfl rfl rfl rfl ?_) rfl; first | (simp_all; done) | (simp_all; omega))))
                                        · first | (exfalso; omega) | (simp [mlook] at hc8'; rw [mv7 (hr0.trans (by omega)) (by omega) (by omega)]; first | (rw [if_pos (by omega)] <;> first | rfl | (rw [hs]; rfl)) | (rw [if_neg (by omega)] <;> first | rfl | (refine Prod.ext (auth_ext rfl rfl rfl rfl rfl rfl rfl ?_) rfl; first | (simp_all; done) | (simp_all; omega))))
                                        · first | (exfalso; omega) | (simp [mlook] at hc8'; rw [mv8 (hr0.trans (by omega)) (by omega) (by omega)]; first | (rw [if_pos (by omega)] <;> first | rfl | (rw [hs]; rfl)) | (rw [if_neg (by omega)] <;> first | rfl | (refine Prod.ext (auth_ext rfl rfl rfl rfl rfl rfl rfl ?_) rfl; first | (simp_all; done) | (simp_all; omega))))
                                      rw [hX] at hr; clear hX
                                      simp only [Prod.mk.injEq] at hr; obtain ⟨rfl, rfl⟩ := hr
                                      refine retQ_mk (av' := outOf [(.g [(cI a.card), (cI a.shop), (cI a.sum), (cI a.captured), (cI a.refunded), (cI a.disputed), (cI a.till), (cB true)]), (.c (cI 0))]) (nb' := []) (retQ_ret ⟨[(6, (aC (.p 1 0 0 0))), (7, (aI 0))], [(1, (.box 75 [(cI a.card), (cI a.shop), (cI a.sum), (cI a.captured), (cI a.refunded), (cI a.disputed), (cI a.till), (cB true)]))], 2⟩ [.cell 6 75, .tmp 7] [(.g [(cI a.card), (cI a.shop), (cI a.sum), (cI a.captured), (cI a.refunded), (cI a.disputed), (cI a.till), (cB true)]), (.c (cI 0))] (Weak.ren id (⟨by first | rfl | (simp only [AV.map, GV.map, CV.map, AB.map', id]; done) | (congr 3; omega) | (congr 4; omega) | (simp only [List.length_append, List.length_cons, List.length_nil, List.length_set]; rfl), by first | rfl | (simp only [AV.map, GV.map, CV.map, AB.map', id]; done) | (congr 3; omega) | (congr 4; omega) | (simp only [List.length_append, List.length_cons, List.length_nil, List.length_set]; rfl),  trivial⟩) (⟨by first | rfl | (simp only [AV.map, GV.map, CV.map, AB.map', id]; done) | (congr 3; omega) | (congr 4; omega) | (simp only [List.length_append, List.length_cons, List.length_nil, List.length_set]; rfl),  trivial⟩) rfl) rfl ⟨.agg rfl rfl (fun _ => run_isAgg Try.underlying75) sz75, .tmp rfl, trivial⟩ trivial) ?_ ?_
                                      · first | rfl | (simp [outOf, aC]; done) | (simp [outOf, aC]; omega)
                                      · first | rfl | (simp; done) | (simp; omega)
                                    ·
                                      have hc51' := hc51; try simp only [sumB, Bool.not_eq_true', Bool.not_eq_false', Bool.or_eq_true, Bool.or_eq_false_iff, Bool.and_eq_true, Bool.and_eq_false_imp, decide_eq_true_eq, decide_eq_false_iff_not, Bool.not_not, Bool.not_true, Bool.not_false] at hc51'
                                      refine AC.skip ?_
                                      refine then_ok ?_
                                      refine AC.seq ?_
                                      refine AC.region ?_
                                      refine AL.val (Wanted.plain rfl) (g_loadBs rfl rfl rfl Try.underlying75 rfl sz75 rfl rfl) rfl rfl ?_
                                      refine AL.sto (h' := [(2, (.map (mV [(1, 1000000 - a.sum), (2, a.sum - a.captured), (3, a.sum - a.captured), (4, a.sum - a.captured), (5, (a.captured - a.refunded) - a.disputed), (6, (a.captured - a.refunded) - a.disputed), (7, a.disputed), (8, a.disputed)]) 8)), (1, (.box 75 [(cI a.card), (cI a.shop), (cI a.sum), (cI a.captured), (cI a.refunded), (cI a.disputed), (cI a.till), (cB a.shut)])), (0, (.box 75 [(cI a.card), (cI a.shop), (cI a.sum), (cI a.captured), (cI a.refunded), (cI a.disputed), (cI a.till), (cB a.shut)]))]) (Wanted.plain rfl) (g_storeB rfl rfl rfl rfl rfl sz75 rfl (Nat.le_of_ble_eq_true rfl) rfl) rfl rfl rfl rfl ?_
                                      refine AL.fast 1 rfl ?_
                                      refine AL.nil ?_
                                      refine then_ok ?_
                                      refine AC.ret ?_
                                      have hX : moveAuth a kind n = (a, 0) := by
                                        (have hq := rightAuth (hr0.trans (by omega)); have hk : kind = 1 ∨ kind = 2 ∨ kind = 3 ∨ kind = 4 ∨ kind = 5 ∨ kind = 6 ∨ kind = 7 ∨ kind = 8 := by omega); (rcases hk with rfl | rfl | rfl | rfl | rfl | rfl | rfl | rfl)
                                        · first | (exfalso; omega) | (simp [mlook] at hc8'; have hs : a.shut = false := hc7' (by omega); rw [mv1 (hr0.trans (by omega)) (by omega) (by omega) hs]; first | (rw [if_pos (by omega)] <;> first | rfl | (rw [hs]; rfl)) | (rw [if_neg (by omega)] <;> first | rfl | (refine Prod.ext (auth_ext rfl rfl rfl rfl rfl rfl rfl ?_) rfl; first | (simp_all; done) | (simp_all; omega))))
                                        · first | (exfalso; omega) | (simp [mlook] at hc8'; have hs : a.shut = false := hc7' (by omega); rw [mv2 (hr0.trans (by omega)) (by omega) (by omega) hs]; first | (rw [if_pos (by omega)] <;> first | rfl | (rw [hs]; rfl)) | (rw [if_neg (by omega)] <;> first | rfl | (refine Prod.ext (auth_ext rfl rfl rfl rfl rfl rfl rfl ?_) rfl; first | (simp_all; done) | (simp_all; omega))))
                                        · first | (exfalso; omega) | (simp [mlook] at hc8'; have hs : a.shut = false := hc7' (by omega); rw [mv3 (hr0.trans (by omega)) (by omega) (by omega) hs]; first | (rw [if_pos (by omega)] <;> first | rfl | (rw [hs]; rfl)) | (rw [if_neg (by omega)] <;> first | rfl | (refine Prod.ext (auth_ext rfl rfl rfl rfl rfl rfl rfl ?_) rfl; first | (simp_all; done) | (simp_all; omega))))
                                        · first | (exfalso; omega) | (simp [mlook] at hc8'; have hs : a.shut = false := hc7' (by omega); rw [mv4 (hr0.trans (by omega)) (by omega) (by omega) hs]; first | (rw [if_pos (by omega)] <;> first | rfl | (rw [hs]; rfl)) | (rw [if_neg (by omega)] <;> first | rfl | (refine Prod.ext (auth_ext rfl rfl rfl rfl rfl rfl rfl ?_) rfl; first | (simp_all; done) | (simp_all; omega))))
                                        · first | (exfalso; omega) | (simp [mlook] at hc8'; rw [mv5 (hr0.trans (by omega)) (by omega) (by omega)]; first | (rw [if_pos (by omega)] <;> first | rfl | (rw [hs]; rfl)) | (rw [if_neg (by omega)] <;> first | rfl | (refine Prod.ext (auth_ext rfl rfl rfl rfl rfl rfl rfl ?_) rfl; first | (simp_all; done) | (simp_all; omega))))
                                        · first | (exfalso; omega) | (simp [mlook] at hc8'; rw [mv6 (hr0.trans (by omega)) (by omega) (by omega)]; first | (rw [if_pos (by omega)] <;> first | rfl | (rw [hs]; rfl)) | (rw [if_neg (by omega)] <;> first | rfl | (refine Prod.ext (auth_ext rfl rfl rfl rfl rfl rfl rfl ?_) rfl; first | (simp_all; done) | (simp_all; omega))))
                                        · first | (exfalso; omega) | (simp [mlook] at hc8'; rw [mv7 (hr0.trans (by omega)) (by omega) (by omega)]; first | (rw [if_pos (by omega)] <;> first | rfl | (rw [hs]; rfl)) | (rw [if_neg (by omega)] <;> first | rfl | (refine Prod.ext (auth_ext rfl rfl rfl rfl rfl rfl rfl ?_) rfl; first | (simp_all; done) | (simp_all; omega))))
                                        · first | (exfalso; omega) | (simp [mlook] at hc8'; rw [mv8 (hr0.trans (by omega)) (by omega) (by omega)]; first | (rw [if_pos (by omega)] <;> first | rfl | (rw [hs]; rfl)) | (rw [if_neg (by omega)] <;> first | rfl | (refine Prod.ext (auth_ext rfl rfl rfl rfl rfl rfl rfl ?_) rfl; first | (simp_all; done) | (simp_all; omega))))
                                      rw [hX] at hr; clear hX
                                      simp only [Prod.mk.injEq] at hr; obtain ⟨rfl, rfl⟩ := hr
                                      refine retQ_mk (av' := outOf [(.g [(cI a.card), (cI a.shop), (cI a.sum), (cI a.captured), (cI a.refunded), (cI a.disputed), (cI a.till), (cB a.shut)]), (.c (cI 0))]) (nb' := []) (retQ_ret ⟨[(6, (aC (.p 1 0 0 0))), (7, (aI 0))], [(1, (.box 75 [(cI a.card), (cI a.shop), (cI a.sum), (cI a.captured), (cI a.refunded), (cI a.disputed), (cI a.till), (cB a.shut)]))], 2⟩ [.cell 6 75, .tmp 7] [(.g [(cI a.card), (cI a.shop), (cI a.sum), (cI a.captured), (cI a.refunded), (cI a.disputed), (cI a.till), (cB a.shut)]), (.c (cI 0))] (Weak.ren id (⟨by first | rfl | (simp only [AV.map, GV.map, CV.map, AB.map', id]; done) | (congr 3; omega) | (congr 4; omega) | (simp only [List.length_append, List.length_cons, List.length_nil, List.length_set]; rfl), by first | rfl | (simp only [AV.map, GV.map, CV.map, AB.map', id]; done) | (congr 3; omega) | (congr 4; omega) | (simp only [List.length_append, List.length_cons, List.length_nil, List.length_set]; rfl),  trivial⟩) (⟨by first | rfl | (simp only [AV.map, GV.map, CV.map, AB.map', id]; done) | (congr 3; omega) | (congr 4; omega) | (simp only [List.length_append, List.length_cons, List.length_nil, List.length_set]; rfl),  trivial⟩) rfl) rfl ⟨.agg rfl rfl (fun _ => run_isAgg Try.underlying75) sz75, .tmp rfl, trivial⟩ trivial) ?_ ?_
                                      · first | rfl | (simp [outOf, aC]; done) | (simp [outOf, aC]; omega)
                                      · first | rfl | (simp; done) | (simp; omega)
end Go.Proofs.Ytgmcdlfmifijlaa.Dev
