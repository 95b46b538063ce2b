/- Laws on stands. -/
import Derived.Test.YtgmcdlfmifijlaaDStand6
set_option linter.unusedVariables false
set_option linter.unusedSimpArgs false
namespace Go.Proofs.Ytgmcdlfmifijlaa.Dev
open Go.RowKit


theorem same_self (x : Stand) : sameStand x x = true := by simp [sameStand]
theorem clear_of {s x : Stand} {l : List Advice} {e : Int} (h : clearStand s = (x, l, e)) : (e ≠ 0 ∧ e = wrongStand s ∧ x = noStand ∧ l = []) ∨ (e = 0 ∧ wrongStand s = 0 ∧ x = ⟨s.cap, List.replicate s.used.length 0, []⟩ ∧ l = s.advices) := by
  unfold clearStand at h
  split at h
  · rename_i h1; simp only [Prod.mk.injEq] at h; obtain ⟨rfl, rfl, rfl⟩ := h; exact .inl ⟨h1, rfl, rfl, rfl⟩
  · simp only [Prod.mk.injEq] at h; obtain ⟨rfl, rfl, rfl⟩ := h; exact .inr ⟨rfl, by omega, rfl, rfl⟩

set_option maxRecDepth 100000 in
set_option maxHeartbeats 1000000 in
theorem c_stand_alive  : Fn Try.prog 29 [] (aB true) [] := by
  refine Fn.mk' 46 [] Try.func29 rfl rfl rfl rfl ?_
  intro W0 T0
  refine AC.seq ?_
  refine AC.region ?_
  refine AL.fast 1 rfl ?_
  refine AL.nil ?_
  refine then_ok ?_
  refine AC.seq ?_
  refine AC.region ?_
  have hr0 : newStand 100 2 = ((⟨100, [0, 0], []⟩ : Stand), 0) := by decide
  refine AL.call (n' := 2) (h' := [(0, (.arr 3 1 (([0, 0]).map rI))), (1, (.arr 32 4 (([]).map rAdvice)))]) (Wanted.plain rfl) (g_call 0 (c_stand_New 100 2  (⟨100, [0, 0], []⟩ : Stand) 0 hr0) en30 rfl rfl ⟨⟨_, rfl, .c (.d _)⟩, ⟨_, rfl, .c (.d _)⟩,  trivial⟩ ⟨⟨trivial, trivial, trivial,  trivial⟩, trivial,  trivial⟩ ⟨(fun _ _ _ _ => trivial), (fun _ _ _ _ => trivial),  trivial⟩ rfl rfl rfl rfl) rfl rfl rfl rfl rfl ?_
  refine AL.fast 1 rfl ?_
  refine AL.val (Wanted.plain rfl) (g_extract rfl rfl rfl) rfl rfl ?_
  refine AL.val (Wanted.plain rfl) (g_extract rfl rfl rfl) rfl rfl ?_
  refine AL.new (n' := 3) (Wanted.plain rfl) (g_alloc 2 rfl zv26 rfl rfl rfl) rfl rfl rfl ?_
  refine AL.sto (h' := [(2, (.box 26 [(cI 100), (.s 0 0 1 2), (.s 1 0 4 0)])), (0, (.arr 3 1 (([0, 0]).map rI))), (1, (.arr 32 4 (([]).map rAdvice)))]) (Wanted.plain rfl) (g_storeB rfl rfl rfl rfl rfl sz26 rfl (Nat.le_of_ble_eq_true rfl) rfl) rfl rfl rfl rfl ?_
  refine AL.fast 1 rfl ?_
  refine AL.nil ?_
  refine then_ok ?_
  refine AC.seq ?_
  refine AC.region ?_
  refine AL.val (Wanted.plain rfl) (g_loadBs rfl rfl rfl Try.underlying26 rfl sz26 rfl rfl) rfl rfl ?_
  refine AL.val (Wanted.plain rfl) (g_build (ys := [(0, (.c (cI 1))), (2, (.c (cI 70)))]) rfl bld32 rfl ⟨⟨rfl, rfl⟩, ⟨rfl, rfl⟩,  trivial⟩ rfl rfl) rfl rfl ?_
  have hr1 : giveStand (⟨100, [0, 0], []⟩ : Stand) (⟨1, 0, 70, 0⟩ : Advice) = ((⟨100, [0, 70], [⟨1, 0, 70, 0⟩]⟩ : Stand), 0) := by decide
  refine AL.call (n' := 5) (h' := [(3, (.arr 3 1 (([0, 70]).map rI))), (4, (.arr 32 4 (([⟨1, 0, 70, 0⟩]).map rAdvice))), (2, (.box 26 [(cI 100), (.s 0 0 1 2), (.s 1 0 4 0)])), (0, (.arr 3 1 (([0, 0]).map rI))), (1, (.arr 32 4 (([]).map rAdvice)))]) (Wanted.plain rfl) (g_callE 3 [0, 1] (c_stand_Give (⟨100, [0, 0], []⟩ : Stand) (⟨1, 0, 70, 0⟩ : Advice)  (⟨100, [0, 70], [⟨1, 0, 70, 0⟩]⟩ : Stand) 0 hr1) en32 rfl rfl ⟨⟨_, rfl, .g ⟨.d _, .s rfl (by decide) (by first | omega | (simp; done) | (simp; omega)), .s rfl (by decide) (by first | omega | (simp; done) | (simp; omega)),  trivial⟩⟩, ⟨_, rfl, .g ⟨.d _, .d _, .d _, .d _,  trivial⟩⟩,  trivial⟩ ⟨⟨rfl, trivial, trivial,  trivial⟩, rfl,  trivial⟩ ⟨(isv_rI _), (isv_rAdvice _),  trivial⟩ rfl rfl rfl rfl) rfl rfl rfl rfl rfl ?_
  refine AL.fast 1 rfl ?_
  refine AL.val (Wanted.plain rfl) (g_extract rfl rfl rfl) rfl rfl ?_
  refine AL.val (Wanted.plain rfl) (g_extract rfl rfl rfl) rfl rfl ?_
  refine AL.new (n' := 6) (Wanted.plain rfl) (g_alloc 5 rfl zv26 rfl rfl rfl) rfl rfl rfl ?_
  refine AL.sto (h' := [(5, (.box 26 [(cI 100), (.s 3 0 1 2), (.s 4 0 4 1)])), (3, (.arr 3 1 (([0, 70]).map rI))), (4, (.arr 32 4 (([⟨1, 0, 70, 0⟩]).map rAdvice))), (2, (.box 26 [(cI 100), (.s 0 0 1 2), (.s 1 0 4 0)])), (0, (.arr 3 1 (([0, 0]).map rI))), (1, (.arr 32 4 (([]).map rAdvice)))]) (Wanted.plain rfl) (g_storeB rfl rfl rfl rfl rfl sz26 rfl (Nat.le_of_ble_eq_true rfl) rfl) rfl rfl rfl rfl ?_
  refine AL.fast 1 rfl ?_
  refine AL.nil ?_
  refine then_ok ?_
  refine AC.seq ?_
  refine AC.region ?_
  refine AL.val (Wanted.plain rfl) (g_loadBs rfl rfl rfl Try.underlying26 rfl sz26 rfl rfl) rfl rfl ?_
  refine AL.val (Wanted.plain rfl) (g_build (ys := [(0, (.c (cI 1))), (2, (.c (cI 31)))]) rfl bld32 rfl ⟨⟨rfl, rfl⟩, ⟨rfl, rfl⟩,  trivial⟩ rfl rfl) rfl rfl ?_
  have hr2 : giveStand (⟨100, [0, 70], [⟨1, 0, 70, 0⟩]⟩ : Stand) (⟨1, 0, 31, 0⟩ : Advice) = ((⟨0, [], []⟩ : Stand), 10) := by decide
  refine AL.call (n' := 8) (h' := [(6, (.arr 3 1 (([]).map rI))), (7, (.arr 32 4 (([]).map rAdvice))), (5, (.box 26 [(cI 100), (.s 3 0 1 2), (.s 4 0 4 1)])), (3, (.arr 3 1 (([0, 70]).map rI))), (4, (.arr 32 4 (([⟨1, 0, 70, 0⟩]).map rAdvice))), (2, (.box 26 [(cI 100), (.s 0 0 1 2), (.s 1 0 4 0)])), (0, (.arr 3 1 (([0, 0]).map rI))), (1, (.arr 32 4 (([]).map rAdvice)))]) (Wanted.plain rfl) (g_callE 6 [3, 4] (c_stand_Give (⟨100, [0, 70], [⟨1, 0, 70, 0⟩]⟩ : Stand) (⟨1, 0, 31, 0⟩ : Advice)  (⟨0, [], []⟩ : Stand) 10 hr2) en32 rfl rfl ⟨⟨_, rfl, .g ⟨.d _, .s rfl (by decide) (by first | omega | (simp; done) | (simp; omega)), .s rfl (by decide) (by first | omega | (simp; done) | (simp; omega)),  trivial⟩⟩, ⟨_, rfl, .g ⟨.d _, .d _, .d _, .d _,  trivial⟩⟩,  trivial⟩ ⟨⟨rfl, trivial, trivial,  trivial⟩, rfl,  trivial⟩ ⟨(isv_rI _), (isv_rAdvice _),  trivial⟩ rfl rfl rfl rfl) rfl rfl rfl rfl rfl ?_
  refine AL.fast 1 rfl ?_
  refine AL.val (Wanted.plain rfl) (g_extract rfl rfl rfl) rfl rfl ?_
  refine AL.val (Wanted.plain rfl) (g_extract rfl rfl rfl) rfl rfl ?_
  refine AL.new (n' := 9) (Wanted.plain rfl) (g_alloc 8 rfl zv26 rfl rfl rfl) rfl rfl rfl ?_
  refine AL.sto (h' := [(8, (.box 26 [(cI 0), (.s 6 0 1 0), (.s 7 0 4 0)])), (6, (.arr 3 1 (([]).map rI))), (7, (.arr 32 4 (([]).map rAdvice))), (5, (.box 26 [(cI 100), (.s 3 0 1 2), (.s 4 0 4 1)])), (3, (.arr 3 1 (([0, 70]).map rI))), (4, (.arr 32 4 (([⟨1, 0, 70, 0⟩]).map rAdvice))), (2, (.box 26 [(cI 100), (.s 0 0 1 2), (.s 1 0 4 0)])), (0, (.arr 3 1 (([0, 0]).map rI))), (1, (.arr 32 4 (([]).map rAdvice)))]) (Wanted.plain rfl) (g_storeB rfl rfl rfl rfl rfl sz26 rfl (Nat.le_of_ble_eq_true rfl) rfl) rfl rfl rfl rfl ?_
  refine AL.fast 1 rfl ?_
  refine AL.nil ?_
  refine then_ok ?_
  refine AC.seq ?_
  refine AC.region ?_
  refine AL.fast 1 rfl ?_
  refine AL.val (Wanted.plain rfl) (g_binI rfl rfl rfl (show _ = some (Value.bool true) from rfl)) rfl rfl ?_
  refine AL.fast 2 rfl ?_
  refine AL.val (Wanted.yes rfl rfl rfl) (g_binI rfl rfl rfl (show _ = some (Value.bool true) from rfl)) rfl rfl ?_
  refine AL.fast 2 rfl ?_
  refine AL.val (Wanted.yes rfl rfl rfl) (g_fieldP rfl rfl Try.underlying26 rfl sz24 (by decide)) rfl rfl ?_
  refine AL.val (Wanted.yes rfl rfl rfl) (g_loadB rfl rfl rfl Try.underlying24 rfl rfl) rfl rfl ?_
  refine AL.val (Wanted.yes rfl rfl rfl) (g_lenS rfl rfl rfl rfl rfl Try.underlying24) rfl rfl ?_
  refine AL.val (Wanted.yes rfl rfl rfl) (g_binI rfl rfl rfl (show _ = some (Value.bool true) from rfl)) rfl rfl ?_
  refine AL.fast 2 rfl ?_
  refine AL.val (Wanted.yes rfl rfl rfl) (g_fieldP rfl rfl Try.underlying26 rfl sz24 (by decide)) rfl rfl ?_
  refine AL.val (Wanted.yes rfl rfl rfl) (g_loadB rfl rfl rfl Try.underlying24 rfl rfl) rfl rfl ?_
  refine AL.val (Wanted.yes rfl rfl rfl) (g_indexP0 (i := 1) rfl rfl rfl Try.underlying24 sz3 (by first | omega | (simp; done) | (simp; omega)) (by first | omega | (simp; done) | (simp; omega))) rfl rfl ?_
  refine AL.val (Wanted.yes rfl rfl rfl) (g_loadA rfl rfl rfl Try.underlying3 rfl (getmap (show ([0, 70] : List Int)[1]? = some 70 from rfl)) rfl) rfl rfl ?_
  refine AL.val (Wanted.yes rfl rfl rfl) (g_binI rfl rfl rfl (show _ = some (Value.bool true) from rfl)) rfl rfl ?_
  refine AL.fast 3 rfl ?_
  refine AL.val (Wanted.yes rfl rfl rfl) (g_binI rfl rfl rfl (show _ = some (Value.bool true) from rfl)) rfl rfl ?_
  refine AL.fast 2 rfl ?_
  refine AL.nil ?_
  refine then_ok ?_
  refine AC.ret ?_
  refine retQ_mk (av' := outOf [(.c (cB true))]) (nb' := []) (retQ_ret ⟨[(0, (aB true))], [], 0⟩ [.tmp 0] [(.c (cB true))] (Weak.ren id (⟨by first | rfl | (simp only [AV.map, GV.map, CV.map, AB.map', id]; done) | (congr 3; omega) | (congr 4; omega),  trivial⟩) (trivial) rfl) rfl ⟨.tmp rfl, trivial⟩ trivial) ?_ ?_
  · first | rfl | (simp [outOf, aC]; done)
  · rfl
set_option maxRecDepth 100000 in
set_option maxHeartbeats 1000000 in
theorem c_StandAnew (s : Stand) : Fn Try.prog 5 [(.g [(cI s.cap), (cR 1 ((s.used).map rI)), (cR 4 ((s.advices).map rAdvice))])] (aB true) [] := by
  refine Fn.mk' 45 [(0, (aG [(cI s.cap), (cR 1 ((s.used).map rI)), (cR 4 ((s.advices).map rAdvice))]))] Try.func5 rfl rfl rfl rfl ?_
  intro W0 T0
  refine AC.lenG 0 1 rfl rfl (fun hlen0_1 => ?_)
  refine AC.lenG 0 2 rfl rfl (fun hlen0_2 => ?_)
  refine AC.seq ?_
  refine AC.region ?_
  refine AL.new (n' := 1) (Wanted.plain rfl) (g_boxS 0 rfl rfl) rfl rfl rfl ?_
  refine AL.fast 1 rfl ?_
  refine AL.nil ?_
  refine then_ok ?_
  refine AC.seq ?_
  refine AC.seq ?_
  refine AC.region ?_
  refine AL.call (n' := 1) (h' := [(0, (.box 26 [(cI s.cap), (cR 1 ((s.used).map rI)), (cR 4 ((s.advices).map rAdvice))]))]) (Wanted.plain rfl) (g_call 1 (c_stand_alive   ) en29 rfl rfl trivial trivial trivial rfl rfl rfl rfl) rfl rfl rfl rfl rfl ?_
  refine AL.val (Wanted.plain rfl) (g_notB rfl rfl) rfl rfl ?_
  refine AL.nil ?_
  refine then_ok ?_
  refine AC.cond rfl (fun hno => by cases hno) (fun _ => ?_)
  refine AC.skip ?_
  refine then_ok ?_
  refine AC.seq ?_
  refine AC.region ?_
  refine AL.val (Wanted.plain rfl) (g_loadBs rfl rfl rfl Try.underlying26 rfl sz26 rfl rfl) rfl rfl ?_
  obtain ⟨x0, l0, e0, hr0⟩ : ∃ (x0 : Stand) (l0 : List Advice) (e0 : Int), clearStand s = (x0, l0, e0) := ⟨_, _, _, rfl⟩
  refine AL.call (n' := 4) (h' := [(1, (.arr 3 1 ((x0.used).map rI))), (2, (.arr 32 4 ((x0.advices).map rAdvice))), (3, (.arr 32 4 ((l0).map rAdvice))), (0, (.box 26 [(cI s.cap), (cR 1 ((s.used).map rI)), (cR 4 ((s.advices).map rAdvice))]))]) (Wanted.plain rfl) (g_call 1 (c_stand_Clear s  x0 l0 e0 hr0) en37 rfl rfl ⟨⟨_, rfl, .g ⟨.d _, .d _, .d _,  trivial⟩⟩,  trivial⟩ ⟨⟨trivial, trivial, trivial,  trivial⟩, trivial, trivial,  trivial⟩ ⟨(fun _ _ _ _ => trivial), (fun _ _ _ _ => trivial), (fun _ _ _ _ => trivial),  trivial⟩ rfl rfl rfl rfl) rfl rfl rfl rfl rfl ?_
  refine AL.fast 1 rfl ?_
  refine AL.val (Wanted.plain rfl) (g_extract rfl rfl rfl) rfl rfl ?_
  refine AL.val (Wanted.plain rfl) (g_extract rfl rfl rfl) rfl rfl ?_
  refine AL.val (Wanted.plain rfl) (g_extract rfl rfl rfl) rfl rfl ?_
  refine AL.new (n' := 5) (Wanted.plain rfl) (g_alloc 4 rfl zv26 rfl rfl rfl) rfl rfl rfl ?_
  refine AL.sto (h' := [(4, (.box 26 [(cI x0.cap), (.s 1 0 1 x0.used.length), (.s 2 0 4 x0.advices.length)])), (1, (.arr 3 1 ((x0.used).map rI))), (2, (.arr 32 4 ((x0.advices).map rAdvice))), (3, (.arr 32 4 ((l0).map rAdvice))), (0, (.box 26 [(cI s.cap), (cR 1 ((s.used).map rI)), (cR 4 ((s.advices).map rAdvice))]))]) (Wanted.plain rfl) (g_storeB rfl rfl rfl rfl rfl sz26 rfl (Nat.le_of_ble_eq_true rfl) rfl) rfl rfl rfl rfl ?_
  refine AL.fast 2 rfl ?_
  refine AL.nil ?_
  refine then_ok ?_
  refine AC.seq ?_
  refine AC.seq ?_
  refine AC.region ?_
  refine AL.fast 1 rfl ?_
  refine AL.val (Wanted.plain rfl) (g_binI rfl rfl rfl rfl) rfl rfl ?_
  refine AL.nil ?_
  refine then_ok ?_
  refine AC.cond rfl (fun hc2 => ?_) (fun hc2 => ?_)
  ·
    have hc2' := hc2; try simp only [Bool.not_eq_true', Bool.not_eq_false', Bool.or_eq_true, Bool.or_eq_false_iff, Bool.and_eq_true, Bool.and_eq_false_imp, decide_eq_true_eq, decide_eq_false_iff_not, Bool.not_not, Bool.not_true, Bool.not_false] at hc2'
    refine AC.seq ?_
    refine AC.region ?_
    refine AL.fast 1 rfl ?_
    refine AL.val (Wanted.plain rfl) (g_lenS rfl rfl rfl rfl rfl Try.underlying22) rfl rfl ?_
    refine AL.val (Wanted.plain rfl) (g_binI rfl rfl rfl rfl) rfl rfl ?_
    refine AL.fast 1 rfl ?_
    refine AL.nil ?_
    refine then_ok ?_
    refine AC.ret ?_
    refine then_ret ?_
    refine retQ_mk (av' := outOf [(.c (cB (decide ((↑l0.length : Int) = 0))))]) (nb' := []) (retQ_ret ⟨[(2, (aB (decide ((↑l0.length : Int) = 0))))], [], 0⟩ [.tmp 2] [(.c (cB (decide ((↑l0.length : Int) = 0))))] (Weak.ren id (⟨by first | rfl | (simp only [AV.map, GV.map, CV.map, AB.map', id]; done) | (congr 3; omega) | (congr 4; omega),  trivial⟩) (trivial) rfl) rfl ⟨.tmp rfl, trivial⟩ trivial) ?_ ?_
    · exact congrArg aB (show (decide ((↑l0.length : Int) = 0)) = true by (rcases clear_of hr0 with ⟨p1, p2, rfl, rfl⟩ | ⟨p1, p2, rfl, rfl⟩ <;> first | (exfalso; omega) | simp))
    · rfl
  ·
    have hc2' := hc2; try simp only [Bool.not_eq_true', Bool.not_eq_false', Bool.or_eq_true, Bool.or_eq_false_iff, Bool.and_eq_true, Bool.and_eq_false_imp, decide_eq_true_eq, decide_eq_false_iff_not, Bool.not_not, Bool.not_true, Bool.not_false] at hc2'
    refine AC.skip ?_
    refine then_ok ?_
    refine AC.seq ?_
    refine AC.region ?_
    refine AL.val (Wanted.plain rfl) (g_fieldP rfl rfl Try.underlying26 rfl sz3 (by decide)) rfl rfl ?_
    refine AL.val (Wanted.plain rfl) (g_loadB rfl rfl rfl Try.underlying3 rfl rfl) rfl rfl ?_
    refine AL.val (Wanted.plain rfl) (g_fieldP rfl rfl Try.underlying26 rfl sz24 (by decide)) rfl rfl ?_
    refine AL.val (Wanted.plain rfl) (g_loadB rfl rfl rfl Try.underlying24 rfl rfl) rfl rfl ?_
    refine AL.val (Wanted.plain rfl) (g_lenM rfl rfl rfl rfl rfl Try.underlying24) rfl rfl ?_
    obtain ⟨x1, e1, hr1⟩ : ∃ (x1 : Stand) (e1 : Int), newStand s.cap (↑s.used.length : Int) = (x1, e1) := ⟨_, _, rfl⟩
    refine AL.call (n' := 7) (h' := [(5, (.arr 3 1 ((x1.used).map rI))), (6, (.arr 32 4 ((x1.advices).map rAdvice))), (4, (.box 26 [(cI x0.cap), (.s 1 0 1 x0.used.length), (.s 2 0 4 x0.advices.length)])), (1, (.arr 3 1 ((x0.used).map rI))), (2, (.arr 32 4 ((x0.advices).map rAdvice))), (3, (.arr 32 4 ((l0).map rAdvice))), (0, (.box 26 [(cI s.cap), (cR 1 ((s.used).map rI)), (cR 4 ((s.advices).map rAdvice))]))]) (Wanted.plain rfl) (g_call 5 (c_stand_New s.cap (↑s.used.length : Int)  x1 e1 hr1) en30 rfl rfl ⟨⟨_, rfl, .c (.d _)⟩, ⟨_, rfl, .c (.d _)⟩,  trivial⟩ ⟨⟨trivial, trivial, trivial,  trivial⟩, trivial,  trivial⟩ ⟨(fun _ _ _ _ => trivial), (fun _ _ _ _ => trivial),  trivial⟩ rfl rfl rfl rfl) rfl rfl rfl rfl rfl ?_
    refine AL.fast 1 rfl ?_
    refine AL.val (Wanted.plain rfl) (g_extract rfl rfl rfl) rfl rfl ?_
    refine AL.val (Wanted.plain rfl) (g_extract rfl rfl rfl) rfl rfl ?_
    refine AL.new (n' := 8) (Wanted.plain rfl) (g_alloc 7 rfl zv26 rfl rfl rfl) rfl rfl rfl ?_
    refine AL.sto (h' := [(7, (.box 26 [(cI x1.cap), (.s 5 0 1 x1.used.length), (.s 6 0 4 x1.advices.length)])), (5, (.arr 3 1 ((x1.used).map rI))), (6, (.arr 32 4 ((x1.advices).map rAdvice))), (4, (.box 26 [(cI x0.cap), (.s 1 0 1 x0.used.length), (.s 2 0 4 x0.advices.length)])), (1, (.arr 3 1 ((x0.used).map rI))), (2, (.arr 32 4 ((x0.advices).map rAdvice))), (3, (.arr 32 4 ((l0).map rAdvice))), (0, (.box 26 [(cI s.cap), (cR 1 ((s.used).map rI)), (cR 4 ((s.advices).map rAdvice))]))]) (Wanted.plain rfl) (g_storeB rfl rfl rfl rfl rfl sz26 rfl (Nat.le_of_ble_eq_true rfl) rfl) rfl rfl rfl rfl ?_
    refine AL.fast 1 rfl ?_
    refine AL.nil ?_
    refine then_ok ?_
    obtain ⟨r2, hr2⟩ : ∃ (r2 : Bool), sameStand x0 x1 = r2 := ⟨_, rfl⟩
    refine AC.cutB 2 (((decide (e1 = 0)) && r2) && (decide ((↑l0.length : Int) = (↑s.advices.length : Int)))) ?_ ?_
    ·
      refine AC.region ?_
      refine AL.fast 1 rfl ?_
      refine AL.val (Wanted.plain rfl) (g_binI rfl rfl rfl rfl) rfl rfl ?_
      refine AL.fast 1 rfl ?_
      refine AL.dec (t := 32) rfl (fun hb3 => ?_) (fun hb3 => ?_)
      ·
        have hb3' := hb3; try simp only [Bool.not_eq_true', Bool.not_eq_false', Bool.or_eq_true, Bool.or_eq_false_iff, Bool.and_eq_true, Bool.and_eq_false_imp, decide_eq_true_eq, decide_eq_false_iff_not, Bool.not_not, Bool.not_true, Bool.not_false] at hb3'
        refine AL.val (Wanted.yes rfl rfl rfl) (g_loadBs rfl rfl rfl Try.underlying26 rfl sz26 rfl rfl) rfl rfl ?_
        refine AL.val (Wanted.yes rfl rfl rfl) (g_loadBs rfl rfl rfl Try.underlying26 rfl sz26 rfl rfl) rfl rfl ?_
        refine AL.call (n' := 8) (h' := [(7, (.box 26 [(cI x1.cap), (.s 5 0 1 x1.used.length), (.s 6 0 4 x1.advices.length)])), (5, (.arr 3 1 ((x1.used).map rI))), (6, (.arr 32 4 ((x1.advices).map rAdvice))), (4, (.box 26 [(cI x0.cap), (.s 1 0 1 x0.used.length), (.s 2 0 4 x0.advices.length)])), (1, (.arr 3 1 ((x0.used).map rI))), (2, (.arr 32 4 ((x0.advices).map rAdvice))), (3, (.arr 32 4 ((l0).map rAdvice))), (0, (.box 26 [(cI s.cap), (cR 1 ((s.used).map rI)), (cR 4 ((s.advices).map rAdvice))]))]) (Wanted.yes rfl rfl rfl) (g_callE 8 [1, 2, 5, 6] (c_SameStand x0 x1  r2 hr2) en31 rfl rfl ⟨⟨_, rfl, .g ⟨.d _, .s rfl (by decide) (by first | omega | (simp; done) | (simp; omega)), .s rfl (by decide) (by first | omega | (simp; done) | (simp; omega)),  trivial⟩⟩, ⟨_, rfl, .g ⟨.d _, .s rfl (by decide) (by first | omega | (simp; done) | (simp; omega)), .s rfl (by decide) (by first | omega | (simp; done) | (simp; omega)),  trivial⟩⟩,  trivial⟩ rfl trivial rfl rfl rfl rfl) rfl rfl rfl rfl rfl ?_
        refine AL.fast 2 rfl ?_
        refine AL.dec (t := 37) rfl (fun hb4 => ?_) (fun hb4 => ?_)
        ·
          have hb4' := hb4; try simp only [Bool.not_eq_true', Bool.not_eq_false', Bool.or_eq_true, Bool.or_eq_false_iff, Bool.and_eq_true, Bool.and_eq_false_imp, decide_eq_true_eq, decide_eq_false_iff_not, Bool.not_not, Bool.not_true, Bool.not_false] at hb4'
          refine AL.fast 1 rfl ?_
          refine AL.val (Wanted.yes rfl rfl rfl) (g_lenS rfl rfl rfl rfl rfl Try.underlying22) rfl rfl ?_
          refine AL.val (Wanted.yes rfl rfl rfl) (g_fieldP rfl rfl Try.underlying26 rfl sz22 (by decide)) rfl rfl ?_
          refine AL.val (Wanted.yes rfl rfl rfl) (g_loadB rfl rfl rfl Try.underlying22 rfl rfl) rfl rfl ?_
          refine AL.val (Wanted.yes rfl rfl rfl) (g_lenM rfl rfl rfl rfl rfl Try.underlying22) rfl rfl ?_
          refine AL.val (Wanted.yes rfl rfl rfl) (g_binI rfl rfl rfl rfl) rfl rfl ?_
          refine AL.fast 2 rfl ?_
          refine AL.nil ?_
          refine then_ok ?_
          exact Weak.popB 18 rfl rfl (by simp [hb3, hb4]) rfl
        ·
          have hb4' := hb4; try simp only [Bool.not_eq_true', Bool.not_eq_false', Bool.or_eq_true, Bool.or_eq_false_iff, Bool.and_eq_true, Bool.and_eq_false_imp, decide_eq_true_eq, decide_eq_false_iff_not, Bool.not_not, Bool.not_true, Bool.not_false] at hb4'
          refine AL.fast 8 rfl ?_
          refine AL.nil ?_
          refine then_ok ?_
          exact Weak.popB 18 rfl rfl (by simp [hb3, hb4]) rfl
      ·
        have hb3' := hb3; try simp only [Bool.not_eq_true', Bool.not_eq_false', Bool.or_eq_true, Bool.or_eq_false_iff, Bool.and_eq_true, Bool.and_eq_false_imp, decide_eq_true_eq, decide_eq_false_iff_not, Bool.not_not, Bool.not_true, Bool.not_false] at hb3'
        refine AL.fast 13 rfl ?_
        refine AL.nil ?_
        refine then_ok ?_
        exact Weak.popB 17 rfl rfl (by simp [hb3]) rfl
    ·
      refine AC.ret ?_
      refine retQ_mk (av' := outOf [(.c (cB (((decide (e1 = 0)) && r2) && (decide ((↑l0.length : Int) = (↑s.advices.length : Int))))))]) (nb' := []) (retQ_ret ⟨[(2, (aB (((decide (e1 = 0)) && r2) && (decide ((↑l0.length : Int) = (↑s.advices.length : Int))))))], [], 0⟩ [.tmp 2] [(.c (cB (((decide (e1 = 0)) && r2) && (decide ((↑l0.length : Int) = (↑s.advices.length : Int))))))] (Weak.ren id (⟨by first | rfl | (simp only [AV.map, GV.map, CV.map, AB.map', id]; done) | (congr 3; omega) | (congr 4; omega),  trivial⟩) (trivial) rfl) rfl ⟨.tmp rfl, trivial⟩ trivial) ?_ ?_
      · exact congrArg aB (show (((decide (e1 = 0)) && r2) && (decide ((↑l0.length : Int) = (↑s.advices.length : Int)))) = true by (rcases clear_of hr0 with ⟨p1, p2, rfl, rfl⟩ | ⟨p1, p2, rfl, rfl⟩ <;> first | (exfalso; omega) | (obtain ⟨q1, q2, q3, q4, q5⟩ := right_parts p2; rw [newStand_ok q1 (by simpa [capB] using q3)] at hr1; cases hr1; rw [same_self] at hr2; subst hr2; simp)))
      · rfl
set_option maxRecDepth 100000 in
set_option maxHeartbeats 1000000 in
theorem c_StandTells (limit cards : Int) (s : Stand) (a : Advice) : Fn Try.prog 4 [(.c (cI limit)), (.c (cI cards)), (.g [(cI s.cap), (cR 1 ((s.used).map rI)), (cR 4 ((s.advices).map rAdvice))]), (.g [(cI a.card), (cI a.shop), (cI a.sum), (cI a.time)])] (aB true) [] := by
  refine Fn.mk' 107 [(0, (aI limit)), (1, (aI cards)), (2, (aG [(cI s.cap), (cR 1 ((s.used).map rI)), (cR 4 ((s.advices).map rAdvice))])), (3, (aG [(cI a.card), (cI a.shop), (cI a.sum), (cI a.time)]))] Try.func4 rfl rfl rfl rfl ?_
  intro W0 T0
  refine AC.lenG 2 1 rfl rfl (fun hlen2_1 => ?_)
  refine AC.lenG 2 2 rfl rfl (fun hlen2_2 => ?_)
  have hrp := @right_parts s
  refine AC.seq ?_
  refine AC.region ?_
  refine AL.new (n' := 1) (Wanted.plain rfl) (g_boxS 0 rfl rfl) rfl rfl rfl ?_
  refine AL.new (n' := 2) (Wanted.plain rfl) (g_boxS 1 rfl rfl) rfl rfl rfl ?_
  refine AL.fast 1 rfl ?_
  refine AL.nil ?_
  refine then_ok ?_
  refine AC.seq ?_
  refine AC.region ?_
  refine AL.fast 2 rfl ?_
  obtain ⟨x0, e0, hr0⟩ : ∃ (x0 : Stand) (e0 : Int), newStand limit cards = (x0, e0) := ⟨_, _, rfl⟩
  refine AL.call (n' := 4) (h' := [(2, (.arr 3 1 ((x0.used).map rI))), (3, (.arr 32 4 ((x0.advices).map rAdvice))), (1, (.box 32 [(cI a.card), (cI a.shop), (cI a.sum), (cI a.time)])), (0, (.box 26 [(cI s.cap), (cR 1 ((s.used).map rI)), (cR 4 ((s.advices).map rAdvice))]))]) (Wanted.plain rfl) (g_call 2 (c_stand_New limit cards  x0 e0 hr0) en30 rfl rfl ⟨⟨_, rfl, .c (.d _)⟩, ⟨_, rfl, .c (.d _)⟩,  trivial⟩ ⟨⟨trivial, trivial, trivial,  trivial⟩, trivial,  trivial⟩ ⟨(fun _ _ _ _ => trivial), (fun _ _ _ _ => trivial),  trivial⟩ rfl rfl rfl rfl) rfl rfl rfl rfl rfl ?_
  refine AL.fast 1 rfl ?_
  refine AL.val (Wanted.plain rfl) (g_extract rfl rfl rfl) rfl rfl ?_
  refine AL.val (Wanted.plain rfl) (g_extract rfl rfl rfl) rfl rfl ?_
  refine AL.new (n' := 5) (Wanted.plain rfl) (g_alloc 4 rfl zv26 rfl rfl rfl) rfl rfl rfl ?_
  refine AL.sto (h' := [(4, (.box 26 [(cI x0.cap), (.s 2 0 1 x0.used.length), (.s 3 0 4 x0.advices.length)])), (2, (.arr 3 1 ((x0.used).map rI))), (3, (.arr 32 4 ((x0.advices).map rAdvice))), (1, (.box 32 [(cI a.card), (cI a.shop), (cI a.sum), (cI a.time)])), (0, (.box 26 [(cI s.cap), (cR 1 ((s.used).map rI)), (cR 4 ((s.advices).map rAdvice))]))]) (Wanted.plain rfl) (g_storeB rfl rfl rfl rfl rfl sz26 rfl (Nat.le_of_ble_eq_true rfl) rfl) rfl rfl rfl rfl ?_
  refine AL.fast 1 rfl ?_
  refine AL.nil ?_
  refine then_ok ?_
  refine AC.seq ?_
  refine AC.region ?_
  refine AL.fast 2 rfl ?_
  refine AL.call (n' := 7) (h' := [(5, (.arr 3 1 ((x0.used).map rI))), (6, (.arr 32 4 ((x0.advices).map rAdvice))), (4, (.box 26 [(cI x0.cap), (.s 2 0 1 x0.used.length), (.s 3 0 4 x0.advices.length)])), (2, (.arr 3 1 ((x0.used).map rI))), (3, (.arr 32 4 ((x0.advices).map rAdvice))), (1, (.box 32 [(cI a.card), (cI a.shop), (cI a.sum), (cI a.time)])), (0, (.box 26 [(cI s.cap), (cR 1 ((s.used).map rI)), (cR 4 ((s.advices).map rAdvice))]))]) (Wanted.plain rfl) (g_call 5 (c_ref_NewStand limit cards  x0 e0 hr0) en34 rfl rfl ⟨⟨_, rfl, .c (.d _)⟩, ⟨_, rfl, .c (.d _)⟩,  trivial⟩ ⟨⟨trivial, trivial, trivial,  trivial⟩, trivial,  trivial⟩ ⟨(fun _ _ _ _ => trivial), (fun _ _ _ _ => trivial),  trivial⟩ rfl rfl rfl rfl) rfl rfl rfl rfl rfl ?_
  refine AL.fast 1 rfl ?_
  refine AL.val (Wanted.plain rfl) (g_extract rfl rfl rfl) rfl rfl ?_
  refine AL.val (Wanted.plain rfl) (g_extract rfl rfl rfl) rfl rfl ?_
  refine AL.new (n' := 8) (Wanted.plain rfl) (g_alloc 7 rfl zv26 rfl rfl rfl) rfl rfl rfl ?_
  refine AL.sto (h' := [(7, (.box 26 [(cI x0.cap), (.s 5 0 1 x0.used.length), (.s 6 0 4 x0.advices.length)])), (5, (.arr 3 1 ((x0.used).map rI))), (6, (.arr 32 4 ((x0.advices).map rAdvice))), (4, (.box 26 [(cI x0.cap), (.s 2 0 1 x0.used.length), (.s 3 0 4 x0.advices.length)])), (2, (.arr 3 1 ((x0.used).map rI))), (3, (.arr 32 4 ((x0.advices).map rAdvice))), (1, (.box 32 [(cI a.card), (cI a.shop), (cI a.sum), (cI a.time)])), (0, (.box 26 [(cI s.cap), (cR 1 ((s.used).map rI)), (cR 4 ((s.advices).map rAdvice))]))]) (Wanted.plain rfl) (g_storeB rfl rfl rfl rfl rfl sz26 rfl (Nat.le_of_ble_eq_true rfl) rfl) rfl rfl rfl rfl ?_
  refine AL.fast 1 rfl ?_
  refine AL.nil ?_
  refine then_ok ?_
  refine AC.seq ?_
  refine AC.seq ?_
  obtain ⟨r3, hr3⟩ : ∃ (r3 : Bool), sameStand x0 x0 = r3 := ⟨_, rfl⟩
  rcases Bool.eq_false_or_eq_true (!r3) with hb1 | hb1
  ·
    have hb1' := hb1; try simp only [Bool.not_eq_true', Bool.not_eq_false', Bool.or_eq_true, Bool.or_eq_false_iff, Bool.and_eq_true, Bool.and_eq_false_imp, decide_eq_true_eq, decide_eq_false_iff_not, Bool.not_not, Bool.not_true, Bool.not_false] at hb1'
    refine AC.weak (st' := ⟨[(6, (aC (.p 0 0 0 0))), (7, (aC (.p 1 0 0 0))), (8, (aB false)), (9, (aC (.p 4 0 0 0))), (10, (aI e0)), (11, (aC (.p 7 0 0 0))), (12, (aI e0))], [(7, (.box 26 [(cI x0.cap), (.s 5 0 1 x0.used.length), (.s 6 0 4 x0.advices.length)])), (5, (.arr 3 1 ((x0.used).map rI))), (6, (.arr 32 4 ((x0.advices).map rAdvice))), (4, (.box 26 [(cI x0.cap), (.s 2 0 1 x0.used.length), (.s 3 0 4 x0.advices.length)])), (2, (.arr 3 1 ((x0.used).map rI))), (3, (.arr 32 4 ((x0.advices).map rAdvice))), (1, (.box 32 [(cI a.card), (cI a.shop), (cI a.sum), (cI a.time)])), (0, (.box 26 [(cI s.cap), (cR 1 ((s.used).map rI)), (cR 4 ((s.advices).map rAdvice))]))], 8⟩) (Weak.ren id (⟨by first | rfl | (simp only [AV.map, GV.map, CV.map, AB.map', id]; done) | (congr 3; omega) | (congr 4; omega), by first | rfl | (simp only [AV.map, GV.map, CV.map, AB.map', id]; done) | (congr 3; omega) | (congr 4; omega), by first | rfl | (simp only [AV.map, GV.map, CV.map, AB.map', id]; done) | (congr 3; omega) | (congr 4; omega), by first | rfl | (simp only [AV.map, GV.map, CV.map, AB.map', id]; done) | (congr 3; omega) | (congr 4; omega), by first | rfl | (simp only [AV.map, GV.map, CV.map, AB.map', id]; done) | (congr 3; omega) | (congr 4; omega), by first | rfl | (simp only [AV.map, GV.map, CV.map, AB.map', id]; done) | (congr 3; omega) | (congr 4; omega), by first | rfl | (simp only [AV.map, GV.map, CV.map, AB.map', id]; done) | (congr 3; omega) | (congr 4; omega),  trivial⟩) (⟨by first | rfl | (simp only [AV.map, GV.map, CV.map, AB.map', id]; done) | (congr 3; omega) | (congr 4; omega), by first | rfl | (simp only [AV.map, GV.map, CV.map, AB.map', id]; done) | (congr 3; omega) | (congr 4; omega), by first | rfl | (simp only [AV.map, GV.map, CV.map, AB.map', id]; done) | (congr 3; omega) | (congr 4; omega), by first | rfl | (simp only [AV.map, GV.map, CV.map, AB.map', id]; done) | (congr 3; omega) | (congr 4; omega), by first | rfl | (simp only [AV.map, GV.map, CV.map, AB.map', id]; done) | (congr 3; omega) | (congr 4; omega), by first | rfl | (simp only [AV.map, GV.map, CV.map, AB.map', id]; done) | (congr 3; omega) | (congr 4; omega), by first | rfl | (simp only [AV.map, GV.map, CV.map, AB.map', id]; done) | (congr 3; omega) | (congr 4; omega), by first | rfl | (simp only [AV.map, GV.map, CV.map, AB.map', id]; done) | (congr 3; omega) | (congr 4; omega),  trivial⟩) rfl) ?_
    refine AC.draw [⟨some 26, (aI e0), [], [], [], [(10, (aI e0))], []⟩,
      ⟨some 27, (aI e0), [], [], [], [(12, (aI e0))], []⟩,
      ⟨some 28, (aB false), [], [], [0, 1], [(26, (aI e0)), (27, (aI e0))], []⟩,
      ⟨some 29, (aB false), [], [], [2], [(28, (aB false))], []⟩,
      ⟨some 30, (aG [(cI x0.cap), (.s 2 0 1 x0.used.length), (.s 3 0 4 x0.advices.length)]), [], [], [3], [(9, (aC (.p 4 0 0 0))), (29, (aB false))], [(4, (.box 26 [(cI x0.cap), (.s 2 0 1 x0.used.length), (.s 3 0 4 x0.advices.length)]))]⟩,
      ⟨some 31, (aG [(cI x0.cap), (.s 5 0 1 x0.used.length), (.s 6 0 4 x0.advices.length)]), [], [], [3], [(11, (aC (.p 7 0 0 0))), (29, (aB false))], [(7, (.box 26 [(cI x0.cap), (.s 5 0 1 x0.used.length), (.s 6 0 4 x0.advices.length)]))]⟩,
      ⟨some 32, (aB r3), [], [], [3, 4, 5], [(30, (aG [(cI x0.cap), (.s 2 0 1 x0.used.length), (.s 3 0 4 x0.advices.length)])), (31, (aG [(cI x0.cap), (.s 5 0 1 x0.used.length), (.s 6 0 4 x0.advices.length)])), (29, (aB false))], [(6, (.arr 32 4 ((x0.advices).map rAdvice))), (5, (.arr 3 1 ((x0.used).map rI))), (3, (.arr 32 4 ((x0.advices).map rAdvice))), (2, (.arr 3 1 ((x0.used).map rI)))]⟩,
      ⟨some 33, (aB true), [], [], [3, 6], [(32, (aB r3)), (29, (aB false))], []⟩,
      ⟨some 34, (aB true), [], [], [3, 7], [(29, (aB false)), (33, (aB true))], []⟩,
      ⟨some 35, (aB true), [], [], [8], [(34, (aB true))], []⟩,
      ⟨some 36, (.t []), [], [], [9], [(6, (aC (.p 0 0 0 0))), (35, (aB true))], []⟩,
      ⟨some 37, (.t []), [], [], [9, 10], [(36, (.t [])), (35, (aB true))], []⟩,
      ⟨some 38, (.t []), [], [], [9], [(6, (aC (.p 0 0 0 0))), (35, (aB true))], []⟩,
      ⟨some 39, (.t []), [], [], [9, 12], [(38, (.t [])), (35, (aB true))], []⟩,
      ⟨some 40, (.t []), [], [], [9, 11, 13], [(37, (.t [])), (39, (.t [])), (35, (aB true))], []⟩,
      ⟨some 41, (aB true), [], [], [9, 14], [(35, (aB true)), (40, (.t []))], []⟩] ⟨[(6, (aC (.p 0 0 0 0))), (7, (aC (.p 1 0 0 0))), (8, (aB false)), (9, (aC (.p 4 0 0 0))), (10, (aI e0)), (11, (aC (.p 7 0 0 0))), (12, (aI e0)), (41, (aB true))], [(7, (.box 26 [(cI x0.cap), (.s 5 0 1 x0.used.length), (.s 6 0 4 x0.advices.length)])), (5, (.arr 3 1 ((x0.used).map rI))), (6, (.arr 32 4 ((x0.advices).map rAdvice))), (4, (.box 26 [(cI x0.cap), (.s 2 0 1 x0.used.length), (.s 3 0 4 x0.advices.length)])), (2, (.arr 3 1 ((x0.used).map rI))), (3, (.arr 32 4 ((x0.advices).map rAdvice))), (1, (.box 32 [(cI a.card), (cI a.shop), (cI a.sum), (cI a.time)])), (0, (.box 26 [(cI s.cap), (cR 1 ((s.used).map rI)), (cR 4 ((s.advices).map rAdvice))]))], 8⟩ mixed (by kernel_rfl) ?_ ?_ ?_ ?_
    · exact ⟨.inl ⟨(Wanted.plain rfl), GOp.cast (g_move rfl rfl) rfl⟩,
      .inl ⟨(Wanted.plain rfl), GOp.cast (g_move rfl rfl) rfl⟩,
      .inl ⟨(Wanted.plain rfl), GOp.cast (g_binI rfl rfl rfl (congrArg (fun b => some (Value.bool b)) (decide_eq_false (fun h => h rfl)))) rfl⟩,
      .inl ⟨(Wanted.plain rfl), GOp.cast (g_move rfl rfl) rfl⟩,
      .inl ⟨(Wanted.yes rfl rfl rfl), GOp.cast (g_loadBs rfl rfl rfl Try.underlying26 rfl sz26 rfl rfl) rfl⟩,
      .inl ⟨(Wanted.yes rfl rfl rfl), GOp.cast (g_loadBs rfl rfl rfl Try.underlying26 rfl sz26 rfl rfl) rfl⟩,
      .inl ⟨(Wanted.yes rfl rfl rfl), GOp.cast (g_callE 8 [2, 3, 5, 6] (c_SameStand x0 x0  r3 hr3) en31 rfl rfl ⟨⟨_, rfl, .g ⟨.d _, .s rfl (by decide) (by first | omega | (simp; done) | (simp; omega)), .s rfl (by decide) (by first | omega | (simp; done) | (simp; omega)),  trivial⟩⟩, ⟨_, rfl, .g ⟨.d _, .s rfl (by decide) (by first | omega | (simp; done) | (simp; omega)), .s rfl (by decide) (by first | omega | (simp; done) | (simp; omega)),  trivial⟩⟩,  trivial⟩ rfl trivial rfl rfl rfl rfl) rfl⟩,
      .inl ⟨(Wanted.yes rfl rfl rfl), GOp.cast ((hb1 ▸ (g_notB rfl rfl))) rfl⟩,
      .inl ⟨(Wanted.plain rfl), GOp.cast (g_pick rfl rfl rfl) rfl⟩,
      .inl ⟨(Wanted.plain rfl), GOp.cast (g_move rfl rfl) rfl⟩,
      .inr ⟨(Unwanted.no rfl rfl rfl), rfl, rfl, rfl⟩,
      .inr ⟨(Unwanted.no rfl rfl rfl), rfl, rfl, rfl⟩,
      .inr ⟨(Unwanted.no rfl rfl rfl), rfl, rfl, rfl⟩,
      .inr ⟨(Unwanted.no rfl rfl rfl), rfl, rfl, rfl⟩,
      .inr ⟨(Unwanted.no rfl rfl rfl), rfl, rfl, rfl⟩,
      .inl ⟨(Wanted.plain rfl), GOp.cast (g_pick rfl rfl rfl) rfl⟩,
       trivial⟩
    · exact ⟨⟨⟨.inl rfl,  trivial⟩, trivial⟩, ⟨⟨.inl rfl,  trivial⟩, trivial⟩, ⟨⟨.inr ⟨0, .head _, _, rfl, rfl, rfl⟩, .inr ⟨1, .tail _ (.head _), _, rfl, rfl, rfl⟩,  trivial⟩, trivial⟩, ⟨⟨.inr ⟨2, .head _, _, rfl, rfl, rfl⟩,  trivial⟩, trivial⟩, ⟨⟨.inl rfl, .inr ⟨3, .head _, _, rfl, rfl, rfl⟩,  trivial⟩, ⟨.inl rfl,  trivial⟩⟩, ⟨⟨.inl rfl, .inr ⟨3, .head _, _, rfl, rfl, rfl⟩,  trivial⟩, ⟨.inl rfl,  trivial⟩⟩, ⟨⟨.inr ⟨4, .tail _ (.head _), _, rfl, rfl, rfl⟩, .inr ⟨5, .tail _ (.tail _ (.head _)), _, rfl, rfl, rfl⟩, .inr ⟨3, .head _, _, rfl, rfl, rfl⟩,  trivial⟩, ⟨.inl rfl, .inl rfl, .inl rfl, .inl rfl,  trivial⟩⟩, ⟨⟨.inr ⟨6, .tail _ (.head _), _, rfl, rfl, rfl⟩, .inr ⟨3, .head _, _, rfl, rfl, rfl⟩,  trivial⟩, trivial⟩, ⟨⟨.inr ⟨3, .head _, _, rfl, rfl, rfl⟩, .inr ⟨7, .tail _ (.head _), _, rfl, rfl, rfl⟩,  trivial⟩, trivial⟩, ⟨⟨.inr ⟨8, .head _, _, rfl, rfl, rfl⟩,  trivial⟩, trivial⟩, ⟨⟨.inl rfl, .inr ⟨9, .head _, _, rfl, rfl, rfl⟩,  trivial⟩, trivial⟩, ⟨⟨.inr ⟨10, .tail _ (.head _), _, rfl, rfl, rfl⟩, .inr ⟨9, .head _, _, rfl, rfl, rfl⟩,  trivial⟩, trivial⟩, ⟨⟨.inl rfl, .inr ⟨9, .head _, _, rfl, rfl, rfl⟩,  trivial⟩, trivial⟩, ⟨⟨.inr ⟨12, .tail _ (.head _), _, rfl, rfl, rfl⟩, .inr ⟨9, .head _, _, rfl, rfl, rfl⟩,  trivial⟩, trivial⟩, ⟨⟨.inr ⟨11, .tail _ (.head _), _, rfl, rfl, rfl⟩, .inr ⟨13, .tail _ (.tail _ (.head _)), _, rfl, rfl, rfl⟩, .inr ⟨9, .head _, _, rfl, rfl, rfl⟩,  trivial⟩, trivial⟩, ⟨⟨.inr ⟨9, .head _, _, rfl, rfl, rfl⟩, .inr ⟨14, .tail _ (.head _), _, rfl, rfl, rfl⟩,  trivial⟩, trivial⟩,  trivial⟩
    · exact ⟨⟨.inl rfl, .inl rfl, .inl rfl, .inl rfl, .inl rfl, .inl rfl, .inl rfl, .inr ⟨15, _, rfl, rfl, rfl⟩,  trivial⟩, ⟨.inl rfl, .inl rfl, .inl rfl, .inl rfl, .inl rfl, .inl rfl, .inl rfl, .inl rfl,  trivial⟩⟩
    ·
      refine AL.nil ?_
      refine then_ok ?_
      refine AC.cond rfl (fun _ => ?_) (fun hno => by cases hno)
      refine AC.seq ?_
      refine AC.region ?_
      refine AL.fast 1 rfl ?_
      refine AL.nil ?_
      refine then_ok ?_
      refine AC.ret ?_
      refine then_ret ?_
      refine retQ_mk (av' := outOf [(.c (cB false))]) (nb' := []) (retQ_ret ⟨[(8, (aB false))], [], 0⟩ [.tmp 8] [(.c (cB false))] (Weak.ren id (⟨by first | rfl | (simp only [AV.map, GV.map, CV.map, AB.map', id]; done) | (congr 3; omega) | (congr 4; omega),  trivial⟩) (trivial) rfl) rfl ⟨.tmp rfl, trivial⟩ trivial) ?_ ?_
      · exact congrArg aB (show (false) = true by (exfalso; rw [same_self] at hr3; subst hr3; simp at hb1'))
      · rfl
  ·
    have hb1' := hb1; try simp only [Bool.not_eq_true', Bool.not_eq_false', Bool.or_eq_true, Bool.or_eq_false_iff, Bool.and_eq_true, Bool.and_eq_false_imp, decide_eq_true_eq, decide_eq_false_iff_not, Bool.not_not, Bool.not_true, Bool.not_false] at hb1'
    obtain ⟨e4, hr4⟩ : ∃ (e4 : Int), wrongStand s = e4 := ⟨_, rfl⟩
    refine AC.weak (st' := ⟨[(6, (aC (.p 0 0 0 0))), (7, (aC (.p 1 0 0 0))), (8, (aB false)), (9, (aC (.p 4 0 0 0))), (10, (aI e0)), (11, (aC (.p 7 0 0 0))), (12, (aI e0))], [(7, (.box 26 [(cI x0.cap), (.s 5 0 1 x0.used.length), (.s 6 0 4 x0.advices.length)])), (5, (.arr 3 1 ((x0.used).map rI))), (6, (.arr 32 4 ((x0.advices).map rAdvice))), (4, (.box 26 [(cI x0.cap), (.s 2 0 1 x0.used.length), (.s 3 0 4 x0.advices.length)])), (2, (.arr 3 1 ((x0.used).map rI))), (3, (.arr 32 4 ((x0.advices).map rAdvice))), (1, (.box 32 [(cI a.card), (cI a.shop), (cI a.sum), (cI a.time)])), (0, (.box 26 [(cI s.cap), (cR 1 ((s.used).map rI)), (cR 4 ((s.advices).map rAdvice))]))], 8⟩) (Weak.ren id (⟨by first | rfl | (simp only [AV.map, GV.map, CV.map, AB.map', id]; done) | (congr 3; omega) | (congr 4; omega), by first | rfl | (simp only [AV.map, GV.map, CV.map, AB.map', id]; done) | (congr 3; omega) | (congr 4; omega), by first | rfl | (simp only [AV.map, GV.map, CV.map, AB.map', id]; done) | (congr 3; omega) | (congr 4; omega), by first | rfl | (simp only [AV.map, GV.map, CV.map, AB.map', id]; done) | (congr 3; omega) | (congr 4; omega), by first | rfl | (simp only [AV.map, GV.map, CV.map, AB.map', id]; done) | (congr 3; omega) | (congr 4; omega), by first | rfl | (simp only [AV.map, GV.map, CV.map, AB.map', id]; done) | (congr 3; omega) | (congr 4; omega), by first | rfl | (simp only [AV.map, GV.map, CV.map, AB.map', id]; done) | (congr 3; omega) | (congr 4; omega),  trivial⟩) (⟨by first | rfl | (simp only [AV.map, GV.map, CV.map, AB.map', id]; done) | (congr 3; omega) | (congr 4; omega), by first | rfl | (simp only [AV.map, GV.map, CV.map, AB.map', id]; done) | (congr 3; omega) | (congr 4; omega), by first | rfl | (simp only [AV.map, GV.map, CV.map, AB.map', id]; done) | (congr 3; omega) | (congr 4; omega), by first | rfl | (simp only [AV.map, GV.map, CV.map, AB.map', id]; done) | (congr 3; omega) | (congr 4; omega), by first | rfl | (simp only [AV.map, GV.map, CV.map, AB.map', id]; done) | (congr 3; omega) | (congr 4; omega), by first | rfl | (simp only [AV.map, GV.map, CV.map, AB.map', id]; done) | (congr 3; omega) | (congr 4; omega), by first | rfl | (simp only [AV.map, GV.map, CV.map, AB.map', id]; done) | (congr 3; omega) | (congr 4; omega), by first | rfl | (simp only [AV.map, GV.map, CV.map, AB.map', id]; done) | (congr 3; omega) | (congr 4; omega),  trivial⟩) rfl) ?_
    refine AC.draw [⟨some 26, (aI e0), [], [], [], [(10, (aI e0))], []⟩,
      ⟨some 27, (aI e0), [], [], [], [(12, (aI e0))], []⟩,
      ⟨some 28, (aB false), [], [], [0, 1], [(26, (aI e0)), (27, (aI e0))], []⟩,
      ⟨some 29, (aB false), [], [], [2], [(28, (aB false))], []⟩,
      ⟨some 30, (aG [(cI x0.cap), (.s 2 0 1 x0.used.length), (.s 3 0 4 x0.advices.length)]), [], [], [3], [(9, (aC (.p 4 0 0 0))), (29, (aB false))], [(4, (.box 26 [(cI x0.cap), (.s 2 0 1 x0.used.length), (.s 3 0 4 x0.advices.length)]))]⟩,
      ⟨some 31, (aG [(cI x0.cap), (.s 5 0 1 x0.used.length), (.s 6 0 4 x0.advices.length)]), [], [], [3], [(11, (aC (.p 7 0 0 0))), (29, (aB false))], [(7, (.box 26 [(cI x0.cap), (.s 5 0 1 x0.used.length), (.s 6 0 4 x0.advices.length)]))]⟩,
      ⟨some 32, (aB r3), [], [], [3, 4, 5], [(30, (aG [(cI x0.cap), (.s 2 0 1 x0.used.length), (.s 3 0 4 x0.advices.length)])), (31, (aG [(cI x0.cap), (.s 5 0 1 x0.used.length), (.s 6 0 4 x0.advices.length)])), (29, (aB false))], [(6, (.arr 32 4 ((x0.advices).map rAdvice))), (5, (.arr 3 1 ((x0.used).map rI))), (3, (.arr 32 4 ((x0.advices).map rAdvice))), (2, (.arr 3 1 ((x0.used).map rI)))]⟩,
      ⟨some 33, (aB false), [], [], [3, 6], [(32, (aB r3)), (29, (aB false))], []⟩,
      ⟨some 34, (aB false), [], [], [3, 7], [(29, (aB false)), (33, (aB false))], []⟩,
      ⟨some 35, (aB false), [], [], [8], [(34, (aB false))], []⟩,
      ⟨some 36, (aG [(cI s.cap), (cR 1 ((s.used).map rI)), (cR 4 ((s.advices).map rAdvice))]), [], [], [9], [(6, (aC (.p 0 0 0 0))), (35, (aB false))], [(0, (.box 26 [(cI s.cap), (cR 1 ((s.used).map rI)), (cR 4 ((s.advices).map rAdvice))]))]⟩,
      ⟨some 37, (aI e4), [], [], [9, 10], [(36, (aG [(cI s.cap), (cR 1 ((s.used).map rI)), (cR 4 ((s.advices).map rAdvice))])), (35, (aB false))], []⟩,
      ⟨some 38, (aG [(cI s.cap), (cR 1 ((s.used).map rI)), (cR 4 ((s.advices).map rAdvice))]), [], [], [9], [(6, (aC (.p 0 0 0 0))), (35, (aB false))], [(0, (.box 26 [(cI s.cap), (cR 1 ((s.used).map rI)), (cR 4 ((s.advices).map rAdvice))]))]⟩,
      ⟨some 39, (aI e4), [], [], [9, 12], [(38, (aG [(cI s.cap), (cR 1 ((s.used).map rI)), (cR 4 ((s.advices).map rAdvice))])), (35, (aB false))], []⟩,
      ⟨some 40, (aB false), [], [], [9, 11, 13], [(37, (aI e4)), (39, (aI e4)), (35, (aB false))], []⟩,
      ⟨some 41, (aB false), [], [], [9, 14], [(35, (aB false)), (40, (aB false))], []⟩] ⟨[(6, (aC (.p 0 0 0 0))), (7, (aC (.p 1 0 0 0))), (8, (aB false)), (9, (aC (.p 4 0 0 0))), (10, (aI e0)), (11, (aC (.p 7 0 0 0))), (12, (aI e0)), (41, (aB false))], [(7, (.box 26 [(cI x0.cap), (.s 5 0 1 x0.used.length), (.s 6 0 4 x0.advices.length)])), (5, (.arr 3 1 ((x0.used).map rI))), (6, (.arr 32 4 ((x0.advices).map rAdvice))), (4, (.box 26 [(cI x0.cap), (.s 2 0 1 x0.used.length), (.s 3 0 4 x0.advices.length)])), (2, (.arr 3 1 ((x0.used).map rI))), (3, (.arr 32 4 ((x0.advices).map rAdvice))), (1, (.box 32 [(cI a.card), (cI a.shop), (cI a.sum), (cI a.time)])), (0, (.box 26 [(cI s.cap), (cR 1 ((s.used).map rI)), (cR 4 ((s.advices).map rAdvice))]))], 8⟩ mixed (by kernel_rfl) ?_ ?_ ?_ ?_
    · exact ⟨.inl ⟨(Wanted.plain rfl), GOp.cast (g_move rfl rfl) rfl⟩,
      .inl ⟨(Wanted.plain rfl), GOp.cast (g_move rfl rfl) rfl⟩,
      .inl ⟨(Wanted.plain rfl), GOp.cast (g_binI rfl rfl rfl (congrArg (fun b => some (Value.bool b)) (decide_eq_false (fun h => h rfl)))) rfl⟩,
      .inl ⟨(Wanted.plain rfl), GOp.cast (g_move rfl rfl) rfl⟩,
      .inl ⟨(Wanted.yes rfl rfl rfl), GOp.cast (g_loadBs rfl rfl rfl Try.underlying26 rfl sz26 rfl rfl) rfl⟩,
      .inl ⟨(Wanted.yes rfl rfl rfl), GOp.cast (g_loadBs rfl rfl rfl Try.underlying26 rfl sz26 rfl rfl) rfl⟩,
      .inl ⟨(Wanted.yes rfl rfl rfl), GOp.cast (g_callE 8 [2, 3, 5, 6] (c_SameStand x0 x0  r3 hr3) en31 rfl rfl ⟨⟨_, rfl, .g ⟨.d _, .s rfl (by decide) (by first | omega | (simp; done) | (simp; omega)), .s rfl (by decide) (by first | omega | (simp; done) | (simp; omega)),  trivial⟩⟩, ⟨_, rfl, .g ⟨.d _, .s rfl (by decide) (by first | omega | (simp; done) | (simp; omega)), .s rfl (by decide) (by first | omega | (simp; done) | (simp; omega)),  trivial⟩⟩,  trivial⟩ rfl trivial rfl rfl rfl rfl) rfl⟩,
      .inl ⟨(Wanted.yes rfl rfl rfl), GOp.cast ((hb1 ▸ (g_notB rfl rfl))) rfl⟩,
      .inl ⟨(Wanted.plain rfl), GOp.cast (g_pick rfl rfl rfl) rfl⟩,
      .inl ⟨(Wanted.plain rfl), GOp.cast (g_move rfl rfl) rfl⟩,
      .inl ⟨(Wanted.yes rfl rfl rfl), GOp.cast (g_loadBs rfl rfl rfl Try.underlying26 rfl sz26 rfl rfl) rfl⟩,
      .inl ⟨(Wanted.yes rfl rfl rfl), GOp.cast (g_call 8 (c_stand_WrongN s  e4 hr4) en33 rfl rfl ⟨⟨_, rfl, .g ⟨.d _, .d _, .d _,  trivial⟩⟩,  trivial⟩ trivial trivial rfl rfl rfl rfl) rfl⟩,
      .inl ⟨(Wanted.yes rfl rfl rfl), GOp.cast (g_loadBs rfl rfl rfl Try.underlying26 rfl sz26 rfl rfl) rfl⟩,
      .inl ⟨(Wanted.yes rfl rfl rfl), GOp.cast (g_call 8 (c_ref_WrongStand s  e4 hr4) en35 rfl rfl ⟨⟨_, rfl, .g ⟨.d _, .d _, .d _,  trivial⟩⟩,  trivial⟩ trivial trivial rfl rfl rfl rfl) rfl⟩,
      .inl ⟨(Wanted.yes rfl rfl rfl), GOp.cast (g_binI rfl rfl rfl (congrArg (fun b => some (Value.bool b)) (decide_eq_false (fun h => h rfl)))) rfl⟩,
      .inl ⟨(Wanted.plain rfl), GOp.cast (g_pick rfl rfl rfl) rfl⟩,
       trivial⟩
    · exact ⟨⟨⟨.inl rfl,  trivial⟩, trivial⟩, ⟨⟨.inl rfl,  trivial⟩, trivial⟩, ⟨⟨.inr ⟨0, .head _, _, rfl, rfl, rfl⟩, .inr ⟨1, .tail _ (.head _), _, rfl, rfl, rfl⟩,  trivial⟩, trivial⟩, ⟨⟨.inr ⟨2, .head _, _, rfl, rfl, rfl⟩,  trivial⟩, trivial⟩, ⟨⟨.inl rfl, .inr ⟨3, .head _, _, rfl, rfl, rfl⟩,  trivial⟩, ⟨.inl rfl,  trivial⟩⟩, ⟨⟨.inl rfl, .inr ⟨3, .head _, _, rfl, rfl, rfl⟩,  trivial⟩, ⟨.inl rfl,  trivial⟩⟩, ⟨⟨.inr ⟨4, .tail _ (.head _), _, rfl, rfl, rfl⟩, .inr ⟨5, .tail _ (.tail _ (.head _)), _, rfl, rfl, rfl⟩, .inr ⟨3, .head _, _, rfl, rfl, rfl⟩,  trivial⟩, ⟨.inl rfl, .inl rfl, .inl rfl, .inl rfl,  trivial⟩⟩, ⟨⟨.inr ⟨6, .tail _ (.head _), _, rfl, rfl, rfl⟩, .inr ⟨3, .head _, _, rfl, rfl, rfl⟩,  trivial⟩, trivial⟩, ⟨⟨.inr ⟨3, .head _, _, rfl, rfl, rfl⟩, .inr ⟨7, .tail _ (.head _), _, rfl, rfl, rfl⟩,  trivial⟩, trivial⟩, ⟨⟨.inr ⟨8, .head _, _, rfl, rfl, rfl⟩,  trivial⟩, trivial⟩, ⟨⟨.inl rfl, .inr ⟨9, .head _, _, rfl, rfl, rfl⟩,  trivial⟩, ⟨.inl rfl,  trivial⟩⟩, ⟨⟨.inr ⟨10, .tail _ (.head _), _, rfl, rfl, rfl⟩, .inr ⟨9, .head _, _, rfl, rfl, rfl⟩,  trivial⟩, trivial⟩, ⟨⟨.inl rfl, .inr ⟨9, .head _, _, rfl, rfl, rfl⟩,  trivial⟩, ⟨.inl rfl,  trivial⟩⟩, ⟨⟨.inr ⟨12, .tail _ (.head _), _, rfl, rfl, rfl⟩, .inr ⟨9, .head _, _, rfl, rfl, rfl⟩,  trivial⟩, trivial⟩, ⟨⟨.inr ⟨11, .tail _ (.head _), _, rfl, rfl, rfl⟩, .inr ⟨13, .tail _ (.tail _ (.head _)), _, rfl, rfl, rfl⟩, .inr ⟨9, .head _, _, rfl, rfl, rfl⟩,  trivial⟩, trivial⟩, ⟨⟨.inr ⟨9, .head _, _, rfl, rfl, rfl⟩, .inr ⟨14, .tail _ (.head _), _, rfl, rfl, rfl⟩,  trivial⟩, trivial⟩,  trivial⟩
    · exact ⟨⟨.inl rfl, .inl rfl, .inl rfl, .inl rfl, .inl rfl, .inl rfl, .inl rfl, .inr ⟨15, _, rfl, rfl, rfl⟩,  trivial⟩, ⟨.inl rfl, .inl rfl, .inl rfl, .inl rfl, .inl rfl, .inl rfl, .inl rfl, .inl rfl,  trivial⟩⟩
    ·
      refine AL.nil ?_
      refine then_ok ?_
      refine AC.cond rfl (fun hno => by cases hno) (fun _ => ?_)
      refine AC.skip ?_
      refine then_ok ?_
      refine AC.seq ?_
      refine AC.region ?_
      refine AL.val (Wanted.plain rfl) (g_loadBs rfl rfl rfl Try.underlying26 rfl sz26 rfl rfl) rfl rfl ?_
      refine AL.val (Wanted.plain rfl) (g_loadBs rfl rfl rfl Try.underlying32 rfl sz32 rfl rfl) rfl rfl ?_
      obtain ⟨x5, e5, hr5⟩ : ∃ (x5 : Stand) (e5 : Int), giveStand s a = (x5, e5) := ⟨_, _, rfl⟩
      refine AL.call (n' := 10) (h' := [(8, (.arr 3 1 ((x5.used).map rI))), (9, (.arr 32 4 ((x5.advices).map rAdvice))), (7, (.box 26 [(cI x0.cap), (.s 5 0 1 x0.used.length), (.s 6 0 4 x0.advices.length)])), (5, (.arr 3 1 ((x0.used).map rI))), (6, (.arr 32 4 ((x0.advices).map rAdvice))), (4, (.box 26 [(cI x0.cap), (.s 2 0 1 x0.used.length), (.s 3 0 4 x0.advices.length)])), (2, (.arr 3 1 ((x0.used).map rI))), (3, (.arr 32 4 ((x0.advices).map rAdvice))), (1, (.box 32 [(cI a.card), (cI a.shop), (cI a.sum), (cI a.time)])), (0, (.box 26 [(cI s.cap), (cR 1 ((s.used).map rI)), (cR 4 ((s.advices).map rAdvice))]))]) (Wanted.plain rfl) (g_call 8 (c_stand_Give s a  x5 e5 hr5) en32 rfl rfl ⟨⟨_, rfl, .g ⟨.d _, .d _, .d _,  trivial⟩⟩, ⟨_, rfl, .g ⟨.d _, .d _, .d _, .d _,  trivial⟩⟩,  trivial⟩ ⟨⟨trivial, trivial, trivial,  trivial⟩, trivial,  trivial⟩ ⟨(fun _ _ _ _ => trivial), (fun _ _ _ _ => trivial),  trivial⟩ rfl rfl rfl rfl) rfl rfl rfl rfl rfl ?_
      refine AL.fast 1 rfl ?_
      refine AL.val (Wanted.plain rfl) (g_extract rfl rfl rfl) rfl rfl ?_
      refine AL.val (Wanted.plain rfl) (g_extract rfl rfl rfl) rfl rfl ?_
      refine AL.sto (h' := [(8, (.arr 3 1 ((x5.used).map rI))), (9, (.arr 32 4 ((x5.advices).map rAdvice))), (7, (.box 26 [(cI x0.cap), (.s 5 0 1 x0.used.length), (.s 6 0 4 x0.advices.length)])), (5, (.arr 3 1 ((x0.used).map rI))), (6, (.arr 32 4 ((x0.advices).map rAdvice))), (4, (.box 26 [(cI x5.cap), (.s 8 0 1 x5.used.length), (.s 9 0 4 x5.advices.length)])), (2, (.arr 3 1 ((x0.used).map rI))), (3, (.arr 32 4 ((x0.advices).map rAdvice))), (1, (.box 32 [(cI a.card), (cI a.shop), (cI a.sum), (cI a.time)])), (0, (.box 26 [(cI s.cap), (cR 1 ((s.used).map rI)), (cR 4 ((s.advices).map rAdvice))]))]) (Wanted.plain rfl) (g_storeB rfl rfl rfl rfl rfl sz26 rfl (Nat.le_of_ble_eq_true rfl) rfl) rfl rfl rfl rfl ?_
      refine AL.fast 1 rfl ?_
      refine AL.nil ?_
      refine then_ok ?_
      refine AC.seq ?_
      refine AC.region ?_
      refine AL.val (Wanted.plain rfl) (g_loadBs rfl rfl rfl Try.underlying26 rfl sz26 rfl rfl) rfl rfl ?_
      refine AL.val (Wanted.plain rfl) (g_loadBs rfl rfl rfl Try.underlying32 rfl sz32 rfl rfl) rfl rfl ?_
      refine AL.call (n' := 12) (h' := [(10, (.arr 3 1 ((x5.used).map rI))), (11, (.arr 32 4 ((x5.advices).map rAdvice))), (8, (.arr 3 1 ((x5.used).map rI))), (9, (.arr 32 4 ((x5.advices).map rAdvice))), (7, (.box 26 [(cI x0.cap), (.s 5 0 1 x0.used.length), (.s 6 0 4 x0.advices.length)])), (5, (.arr 3 1 ((x0.used).map rI))), (6, (.arr 32 4 ((x0.advices).map rAdvice))), (4, (.box 26 [(cI x5.cap), (.s 8 0 1 x5.used.length), (.s 9 0 4 x5.advices.length)])), (2, (.arr 3 1 ((x0.used).map rI))), (3, (.arr 32 4 ((x0.advices).map rAdvice))), (1, (.box 32 [(cI a.card), (cI a.shop), (cI a.sum), (cI a.time)])), (0, (.box 26 [(cI s.cap), (cR 1 ((s.used).map rI)), (cR 4 ((s.advices).map rAdvice))]))]) (Wanted.plain rfl) (g_call 10 (c_ref_Give s a  x5 e5 hr5) en36 rfl rfl ⟨⟨_, rfl, .g ⟨.d _, .d _, .d _,  trivial⟩⟩, ⟨_, rfl, .g ⟨.d _, .d _, .d _, .d _,  trivial⟩⟩,  trivial⟩ ⟨⟨trivial, trivial, trivial,  trivial⟩, trivial,  trivial⟩ ⟨(fun _ _ _ _ => trivial), (fun _ _ _ _ => trivial),  trivial⟩ rfl rfl rfl rfl) rfl rfl rfl rfl rfl ?_
      refine AL.fast 1 rfl ?_
      refine AL.val (Wanted.plain rfl) (g_extract rfl rfl rfl) rfl rfl ?_
      refine AL.val (Wanted.plain rfl) (g_extract rfl rfl rfl) rfl rfl ?_
      refine AL.sto (h' := [(10, (.arr 3 1 ((x5.used).map rI))), (11, (.arr 32 4 ((x5.advices).map rAdvice))), (8, (.arr 3 1 ((x5.used).map rI))), (9, (.arr 32 4 ((x5.advices).map rAdvice))), (7, (.box 26 [(cI x5.cap), (.s 10 0 1 x5.used.length), (.s 11 0 4 x5.advices.length)])), (5, (.arr 3 1 ((x0.used).map rI))), (6, (.arr 32 4 ((x0.advices).map rAdvice))), (4, (.box 26 [(cI x5.cap), (.s 8 0 1 x5.used.length), (.s 9 0 4 x5.advices.length)])), (2, (.arr 3 1 ((x0.used).map rI))), (3, (.arr 32 4 ((x0.advices).map rAdvice))), (1, (.box 32 [(cI a.card), (cI a.shop), (cI a.sum), (cI a.time)])), (0, (.box 26 [(cI s.cap), (cR 1 ((s.used).map rI)), (cR 4 ((s.advices).map rAdvice))]))]) (Wanted.plain rfl) (g_storeB rfl rfl rfl rfl rfl sz26 rfl (Nat.le_of_ble_eq_true rfl) rfl) rfl rfl rfl rfl ?_
      refine AL.fast 1 rfl ?_
      refine AL.nil ?_
      refine then_ok ?_
      refine AC.seq ?_
      obtain ⟨r6, hr6⟩ : ∃ (r6 : Bool), sameStand x5 x5 = r6 := ⟨_, rfl⟩
      refine AC.cutB 62 (false || (!r6)) ?_ ?_
      ·
        refine AC.region ?_
        refine AL.fast 2 rfl ?_
        refine AL.val (Wanted.plain rfl) (g_binI rfl rfl rfl (congrArg (fun b => some (Value.bool b)) (decide_eq_false (fun h => h rfl)))) rfl rfl ?_
        refine AL.fast 1 rfl ?_
        refine AL.val (Wanted.yes rfl rfl rfl) (g_loadBs rfl rfl rfl Try.underlying26 rfl sz26 rfl rfl) rfl rfl ?_
        refine AL.val (Wanted.yes rfl rfl rfl) (g_loadBs rfl rfl rfl Try.underlying26 rfl sz26 rfl rfl) rfl rfl ?_
        refine AL.call (n' := 12) (h' := [(10, (.arr 3 1 ((x5.used).map rI))), (11, (.arr 32 4 ((x5.advices).map rAdvice))), (8, (.arr 3 1 ((x5.used).map rI))), (9, (.arr 32 4 ((x5.advices).map rAdvice))), (7, (.box 26 [(cI x5.cap), (.s 10 0 1 x5.used.length), (.s 11 0 4 x5.advices.length)])), (5, (.arr 3 1 ((x0.used).map rI))), (6, (.arr 32 4 ((x0.advices).map rAdvice))), (4, (.box 26 [(cI x5.cap), (.s 8 0 1 x5.used.length), (.s 9 0 4 x5.advices.length)])), (2, (.arr 3 1 ((x0.used).map rI))), (3, (.arr 32 4 ((x0.advices).map rAdvice))), (1, (.box 32 [(cI a.card), (cI a.shop), (cI a.sum), (cI a.time)])), (0, (.box 26 [(cI s.cap), (cR 1 ((s.used).map rI)), (cR 4 ((s.advices).map rAdvice))]))]) (Wanted.yes rfl rfl rfl) (g_callE 12 [8, 9, 10, 11] (c_SameStand x5 x5  r6 hr6) en31 rfl rfl ⟨⟨_, rfl, .g ⟨.d _, .s rfl (by decide) (by first | omega | (simp; done) | (simp; omega)), .s rfl (by decide) (by first | omega | (simp; done) | (simp; omega)),  trivial⟩⟩, ⟨_, rfl, .g ⟨.d _, .s rfl (by decide) (by first | omega | (simp; done) | (simp; omega)), .s rfl (by decide) (by first | omega | (simp; done) | (simp; omega)),  trivial⟩⟩,  trivial⟩ rfl trivial rfl rfl rfl rfl) rfl rfl rfl rfl rfl ?_
        refine AL.val (Wanted.yes rfl rfl rfl) (g_notB rfl rfl) rfl rfl ?_
        refine AL.fast 1 rfl ?_
        refine AL.nil ?_
        refine then_ok ?_
        exact Weak.popB 9 rfl rfl (by simp []) rfl
      ·
        refine AC.cond rfl (fun hc4 => ?_) (fun hc4 => ?_)
        ·
          have hc4' := hc4; try simp only [Bool.not_eq_true', Bool.not_eq_false', Bool.or_eq_true, Bool.or_eq_false_iff, Bool.and_eq_true, Bool.and_eq_false_imp, decide_eq_true_eq, decide_eq_false_iff_not, Bool.not_not, Bool.not_true, Bool.not_false] at hc4'
          refine AC.seq ?_
          refine AC.region ?_
          refine AL.fast 1 rfl ?_
          refine AL.nil ?_
          refine then_ok ?_
          refine AC.ret ?_
          refine then_ret ?_
          refine retQ_mk (av' := outOf [(.c (cB false))]) (nb' := []) (retQ_ret ⟨[(8, (aB false))], [], 0⟩ [.tmp 8] [(.c (cB false))] (Weak.ren id (⟨by first | rfl | (simp only [AV.map, GV.map, CV.map, AB.map', id]; done) | (congr 3; omega) | (congr 4; omega),  trivial⟩) (trivial) rfl) rfl ⟨.tmp rfl, trivial⟩ trivial) ?_ ?_
          · exact congrArg aB (show (false) = true by (exfalso; rw [same_self] at hr6; subst hr6; simp at hc4'))
          · rfl
        ·
          have hc4' := hc4; try simp only [Bool.not_eq_true', Bool.not_eq_false', Bool.or_eq_true, Bool.or_eq_false_iff, Bool.and_eq_true, Bool.and_eq_false_imp, decide_eq_true_eq, decide_eq_false_iff_not, Bool.not_not, Bool.not_true, Bool.not_false] at hc4'
          refine AC.skip ?_
          refine then_ok ?_
          refine AC.seq ?_
          refine AC.region ?_
          refine AL.val (Wanted.plain rfl) (g_loadBs rfl rfl rfl Try.underlying26 rfl sz26 rfl rfl) rfl rfl ?_
          obtain ⟨x7, l7, e7, hr7⟩ : ∃ (x7 : Stand) (l7 : List Advice) (e7 : Int), clearStand s = (x7, l7, e7) := ⟨_, _, _, rfl⟩
          refine AL.call (n' := 15) (h' := [(12, (.arr 3 1 ((x7.used).map rI))), (13, (.arr 32 4 ((x7.advices).map rAdvice))), (14, (.arr 32 4 ((l7).map rAdvice))), (10, (.arr 3 1 ((x5.used).map rI))), (11, (.arr 32 4 ((x5.advices).map rAdvice))), (8, (.arr 3 1 ((x5.used).map rI))), (9, (.arr 32 4 ((x5.advices).map rAdvice))), (7, (.box 26 [(cI x5.cap), (.s 10 0 1 x5.used.length), (.s 11 0 4 x5.advices.length)])), (5, (.arr 3 1 ((x0.used).map rI))), (6, (.arr 32 4 ((x0.advices).map rAdvice))), (4, (.box 26 [(cI x5.cap), (.s 8 0 1 x5.used.length), (.s 9 0 4 x5.advices.length)])), (2, (.arr 3 1 ((x0.used).map rI))), (3, (.arr 32 4 ((x0.advices).map rAdvice))), (1, (.box 32 [(cI a.card), (cI a.shop), (cI a.sum), (cI a.time)])), (0, (.box 26 [(cI s.cap), (cR 1 ((s.used).map rI)), (cR 4 ((s.advices).map rAdvice))]))]) (Wanted.plain rfl) (g_call 12 (c_stand_Clear s  x7 l7 e7 hr7) en37 rfl rfl ⟨⟨_, rfl, .g ⟨.d _, .d _, .d _,  trivial⟩⟩,  trivial⟩ ⟨⟨trivial, trivial, trivial,  trivial⟩, trivial, trivial,  trivial⟩ ⟨(fun _ _ _ _ => trivial), (fun _ _ _ _ => trivial), (fun _ _ _ _ => trivial),  trivial⟩ rfl rfl rfl rfl) rfl rfl rfl rfl rfl ?_
          refine AL.fast 1 rfl ?_
          refine AL.val (Wanted.plain rfl) (g_extract rfl rfl rfl) rfl rfl ?_
          refine AL.val (Wanted.plain rfl) (g_extract rfl rfl rfl) rfl rfl ?_
          refine AL.val (Wanted.plain rfl) (g_extract rfl rfl rfl) rfl rfl ?_
          refine AL.sto (h' := [(12, (.arr 3 1 ((x7.used).map rI))), (13, (.arr 32 4 ((x7.advices).map rAdvice))), (14, (.arr 32 4 ((l7).map rAdvice))), (10, (.arr 3 1 ((x5.used).map rI))), (11, (.arr 32 4 ((x5.advices).map rAdvice))), (8, (.arr 3 1 ((x5.used).map rI))), (9, (.arr 32 4 ((x5.advices).map rAdvice))), (7, (.box 26 [(cI x5.cap), (.s 10 0 1 x5.used.length), (.s 11 0 4 x5.advices.length)])), (5, (.arr 3 1 ((x0.used).map rI))), (6, (.arr 32 4 ((x0.advices).map rAdvice))), (4, (.box 26 [(cI x7.cap), (.s 12 0 1 x7.used.length), (.s 13 0 4 x7.advices.length)])), (2, (.arr 3 1 ((x0.used).map rI))), (3, (.arr 32 4 ((x0.advices).map rAdvice))), (1, (.box 32 [(cI a.card), (cI a.shop), (cI a.sum), (cI a.time)])), (0, (.box 26 [(cI s.cap), (cR 1 ((s.used).map rI)), (cR 4 ((s.advices).map rAdvice))]))]) (Wanted.plain rfl) (g_storeB rfl rfl rfl rfl rfl sz26 rfl (Nat.le_of_ble_eq_true rfl) rfl) rfl rfl rfl rfl ?_
          refine AL.fast 2 rfl ?_
          refine AL.nil ?_
          refine then_ok ?_
          refine AC.seq ?_
          refine AC.seq ?_
          refine AC.region ?_
          refine AL.val (Wanted.plain rfl) (g_loadBs rfl rfl rfl Try.underlying26 rfl sz26 rfl rfl) rfl rfl ?_
          refine AL.call (n' := 15) (h' := [(12, (.arr 3 1 ((x7.used).map rI))), (13, (.arr 32 4 ((x7.advices).map rAdvice))), (14, (.arr 32 4 ((l7).map rAdvice))), (10, (.arr 3 1 ((x5.used).map rI))), (11, (.arr 32 4 ((x5.advices).map rAdvice))), (8, (.arr 3 1 ((x5.used).map rI))), (9, (.arr 32 4 ((x5.advices).map rAdvice))), (7, (.box 26 [(cI x5.cap), (.s 10 0 1 x5.used.length), (.s 11 0 4 x5.advices.length)])), (5, (.arr 3 1 ((x0.used).map rI))), (6, (.arr 32 4 ((x0.advices).map rAdvice))), (4, (.box 26 [(cI x7.cap), (.s 12 0 1 x7.used.length), (.s 13 0 4 x7.advices.length)])), (2, (.arr 3 1 ((x0.used).map rI))), (3, (.arr 32 4 ((x0.advices).map rAdvice))), (1, (.box 32 [(cI a.card), (cI a.shop), (cI a.sum), (cI a.time)])), (0, (.box 26 [(cI s.cap), (cR 1 ((s.used).map rI)), (cR 4 ((s.advices).map rAdvice))]))]) (Wanted.plain rfl) (g_call 15 (c_ref_WrongStand s  e4 hr4) en35 rfl rfl ⟨⟨_, rfl, .g ⟨.d _, .d _, .d _,  trivial⟩⟩,  trivial⟩ trivial trivial rfl rfl rfl rfl) rfl rfl rfl rfl rfl ?_
          refine AL.val (Wanted.plain rfl) (g_binI rfl rfl rfl rfl) rfl rfl ?_
          refine AL.nil ?_
          refine then_ok ?_
          refine AC.cond rfl (fun hc5 => ?_) (fun hc5 => ?_)
          ·
            have hc5' := hc5; try simp only [Bool.not_eq_true', Bool.not_eq_false', Bool.or_eq_true, Bool.or_eq_false_iff, Bool.and_eq_true, Bool.and_eq_false_imp, decide_eq_true_eq, decide_eq_false_iff_not, Bool.not_not, Bool.not_true, Bool.not_false] at hc5'
            obtain ⟨r8, hr8⟩ : ∃ (r8 : Bool), sameStand x7 (⟨0, [], []⟩ : Stand) = r8 := ⟨_, rfl⟩
            refine AC.cutB 8 (((decide (e7 = e4)) && r8) && (decide ((↑l7.length : Int) = 0))) ?_ ?_
            ·
              refine AC.region ?_
              refine AL.fast 1 rfl ?_
              refine AL.val (Wanted.plain rfl) (g_loadBs rfl rfl rfl Try.underlying26 rfl sz26 rfl rfl) rfl rfl ?_
              refine AL.call (n' := 15) (h' := [(12, (.arr 3 1 ((x7.used).map rI))), (13, (.arr 32 4 ((x7.advices).map rAdvice))), (14, (.arr 32 4 ((l7).map rAdvice))), (10, (.arr 3 1 ((x5.used).map rI))), (11, (.arr 32 4 ((x5.advices).map rAdvice))), (8, (.arr 3 1 ((x5.used).map rI))), (9, (.arr 32 4 ((x5.advices).map rAdvice))), (7, (.box 26 [(cI x5.cap), (.s 10 0 1 x5.used.length), (.s 11 0 4 x5.advices.length)])), (5, (.arr 3 1 ((x0.used).map rI))), (6, (.arr 32 4 ((x0.advices).map rAdvice))), (4, (.box 26 [(cI x7.cap), (.s 12 0 1 x7.used.length), (.s 13 0 4 x7.advices.length)])), (2, (.arr 3 1 ((x0.used).map rI))), (3, (.arr 32 4 ((x0.advices).map rAdvice))), (1, (.box 32 [(cI a.card), (cI a.shop), (cI a.sum), (cI a.time)])), (0, (.box 26 [(cI s.cap), (cR 1 ((s.used).map rI)), (cR 4 ((s.advices).map rAdvice))]))]) (Wanted.plain rfl) (g_call 15 (c_ref_WrongStand s  e4 hr4) en35 rfl rfl ⟨⟨_, rfl, .g ⟨.d _, .d _, .d _,  trivial⟩⟩,  trivial⟩ trivial trivial rfl rfl rfl rfl) rfl rfl rfl rfl rfl ?_
              refine AL.val (Wanted.plain rfl) (g_binI rfl rfl rfl rfl) rfl rfl ?_
              refine AL.fast 1 rfl ?_
              refine AL.dec (t := 76) rfl (fun hb6 => ?_) (fun hb6 => ?_)
              ·
                have hb6' := hb6; try simp only [Bool.not_eq_true', Bool.not_eq_false', Bool.or_eq_true, Bool.or_eq_false_iff, Bool.and_eq_true, Bool.and_eq_false_imp, decide_eq_true_eq, decide_eq_false_iff_not, Bool.not_not, Bool.not_true, Bool.not_false] at hb6'
                refine AL.val (Wanted.yes rfl rfl rfl) (g_loadBs rfl rfl rfl Try.underlying26 rfl sz26 rfl rfl) rfl rfl ?_
                refine AL.val (Wanted.yes rfl rfl rfl) (g_build (ys := []) rfl bld26 rfl trivial rfl rfl) rfl rfl ?_
                refine AL.call (n' := 15) (h' := [(12, (.arr 3 1 ((x7.used).map rI))), (13, (.arr 32 4 ((x7.advices).map rAdvice))), (14, (.arr 32 4 ((l7).map rAdvice))), (10, (.arr 3 1 ((x5.used).map rI))), (11, (.arr 32 4 ((x5.advices).map rAdvice))), (8, (.arr 3 1 ((x5.used).map rI))), (9, (.arr 32 4 ((x5.advices).map rAdvice))), (7, (.box 26 [(cI x5.cap), (.s 10 0 1 x5.used.length), (.s 11 0 4 x5.advices.length)])), (5, (.arr 3 1 ((x0.used).map rI))), (6, (.arr 32 4 ((x0.advices).map rAdvice))), (4, (.box 26 [(cI x7.cap), (.s 12 0 1 x7.used.length), (.s 13 0 4 x7.advices.length)])), (2, (.arr 3 1 ((x0.used).map rI))), (3, (.arr 32 4 ((x0.advices).map rAdvice))), (1, (.box 32 [(cI a.card), (cI a.shop), (cI a.sum), (cI a.time)])), (0, (.box 26 [(cI s.cap), (cR 1 ((s.used).map rI)), (cR 4 ((s.advices).map rAdvice))]))]) (Wanted.yes rfl rfl rfl) (g_callE 15 [12, 13] (c_SameStand x7 (⟨0, [], []⟩ : Stand)  r8 hr8) en31 rfl rfl ⟨⟨_, rfl, .g ⟨.d _, .s rfl (by decide) (by first | omega | (simp; done) | (simp; omega)), .s rfl (by decide) (by first | omega | (simp; done) | (simp; omega)),  trivial⟩⟩, ⟨_, rfl, .g ⟨.d _, .nil _, .nil _,  trivial⟩⟩,  trivial⟩ rfl trivial rfl rfl rfl rfl) rfl rfl rfl rfl rfl ?_
                refine AL.fast 2 rfl ?_
                refine AL.dec (t := 81) rfl (fun hb7 => ?_) (fun hb7 => ?_)
                ·
                  have hb7' := hb7; try simp only [Bool.not_eq_true', Bool.not_eq_false', Bool.or_eq_true, Bool.or_eq_false_iff, Bool.and_eq_true, Bool.and_eq_false_imp, decide_eq_true_eq, decide_eq_false_iff_not, Bool.not_not, Bool.not_true, Bool.not_false] at hb7'
                  refine AL.fast 1 rfl ?_
                  refine AL.val (Wanted.yes rfl rfl rfl) (g_lenS rfl rfl rfl rfl rfl Try.underlying22) rfl rfl ?_
                  refine AL.val (Wanted.yes rfl rfl rfl) (g_binI rfl rfl rfl rfl) rfl rfl ?_
                  refine AL.fast 2 rfl ?_
                  refine AL.nil ?_
                  refine then_ok ?_
                  exact Weak.popB 17 rfl rfl (by simp [hb6, hb7]) rfl
                ·
                  have hb7' := hb7; try simp only [Bool.not_eq_true', Bool.not_eq_false', Bool.or_eq_true, Bool.or_eq_false_iff, Bool.and_eq_true, Bool.and_eq_false_imp, decide_eq_true_eq, decide_eq_false_iff_not, Bool.not_not, Bool.not_true, Bool.not_false] at hb7'
                  refine AL.fast 5 rfl ?_
                  refine AL.nil ?_
                  refine then_ok ?_
                  exact Weak.popB 17 rfl rfl (by simp [hb6, hb7]) rfl
              ·
                have hb6' := hb6; try simp only [Bool.not_eq_true', Bool.not_eq_false', Bool.or_eq_true, Bool.or_eq_false_iff, Bool.and_eq_true, Bool.and_eq_false_imp, decide_eq_true_eq, decide_eq_false_iff_not, Bool.not_not, Bool.not_true, Bool.not_false] at hb6'
                refine AL.fast 10 rfl ?_
                refine AL.nil ?_
                refine then_ok ?_
                exact Weak.popB 16 rfl rfl (by simp [hb6]) rfl
            ·
              refine AC.ret ?_
              refine then_ret ?_
              refine retQ_mk (av' := outOf [(.c (cB (((decide (e7 = e4)) && r8) && (decide ((↑l7.length : Int) = 0)))))]) (nb' := []) (retQ_ret ⟨[(8, (aB (((decide (e7 = e4)) && r8) && (decide ((↑l7.length : Int) = 0)))))], [], 0⟩ [.tmp 8] [(.c (cB (((decide (e7 = e4)) && r8) && (decide ((↑l7.length : Int) = 0)))))] (Weak.ren id (⟨by first | rfl | (simp only [AV.map, GV.map, CV.map, AB.map', id]; done) | (congr 3; omega) | (congr 4; omega),  trivial⟩) (trivial) rfl) rfl ⟨.tmp rfl, trivial⟩ trivial) ?_ ?_
              · exact congrArg aB (show (((decide (e7 = e4)) && r8) && (decide ((↑l7.length : Int) = 0))) = true by (rcases clear_of hr7 with ⟨p1, p2, rfl, rfl⟩ | ⟨p1, p2, rfl, rfl⟩ <;> first | (exfalso; omega) | (rw [show noStand = ⟨0, [], []⟩ from rfl, same_self] at hr8; subst hr8; simp; omega)))
              · rfl
          ·
            have hc5' := hc5; try simp only [Bool.not_eq_true', Bool.not_eq_false', Bool.or_eq_true, Bool.or_eq_false_iff, Bool.and_eq_true, Bool.and_eq_false_imp, decide_eq_true_eq, decide_eq_false_iff_not, Bool.not_not, Bool.not_true, Bool.not_false] at hc5'
            refine AC.skip ?_
            refine then_ok ?_
            refine AC.seq ?_
            rcases Bool.eq_false_or_eq_true (decide (e7 = 0)) with hb8 | hb8
            ·
              have hb8' := hb8; try simp only [Bool.not_eq_true', Bool.not_eq_false', Bool.or_eq_true, Bool.or_eq_false_iff, Bool.and_eq_true, Bool.and_eq_false_imp, decide_eq_true_eq, decide_eq_false_iff_not, Bool.not_not, Bool.not_true, Bool.not_false] at hb8'
              obtain ⟨r9, hr9⟩ : ∃ (r9 : Bool), sameStand x7 (⟨s.cap, List.replicate s.used.length 0, []⟩ : Stand) = r9 := ⟨_, rfl⟩
              rcases Bool.eq_false_or_eq_true (r9) with hb9 | hb9
              ·
                have hb9' := hb9; try simp only [Bool.not_eq_true', Bool.not_eq_false', Bool.or_eq_true, Bool.or_eq_false_iff, Bool.and_eq_true, Bool.and_eq_false_imp, decide_eq_true_eq, decide_eq_false_iff_not, Bool.not_not, Bool.not_true, Bool.not_false] at hb9'
                obtain ⟨r10, hr10⟩ : ∃ (r10 : Bool), sameStand (⟨0, [], l7⟩ : Stand) (⟨0, [], s.advices⟩ : Stand) = r10 := ⟨_, rfl⟩
                refine AC.weak (st' := ⟨[(6, (aC (.p 0 0 0 0))), (8, (aB false)), (9, (aC (.p 4 0 0 0))), (10, (aI e7)), (13, (aC (.s 14 0 4 l7.length)))], [(12, (.arr 3 1 ((x7.used).map rI))), (13, (.arr 32 4 ((x7.advices).map rAdvice))), (14, (.arr 32 4 ((l7).map rAdvice))), (4, (.box 26 [(cI x7.cap), (.s 12 0 1 x7.used.length), (.s 13 0 4 x7.advices.length)])), (0, (.box 26 [(cI s.cap), (cR 1 ((s.used).map rI)), (cR 4 ((s.advices).map rAdvice))]))], 15⟩) (Weak.ren id (⟨by first | rfl | (simp only [AV.map, GV.map, CV.map, AB.map', id]; done) | (congr 3; omega) | (congr 4; omega), by first | rfl | (simp only [AV.map, GV.map, CV.map, AB.map', id]; done) | (congr 3; omega) | (congr 4; omega), by first | rfl | (simp only [AV.map, GV.map, CV.map, AB.map', id]; done) | (congr 3; omega) | (congr 4; omega), by first | rfl | (simp only [AV.map, GV.map, CV.map, AB.map', id]; done) | (congr 3; omega) | (congr 4; omega), by first | rfl | (simp only [AV.map, GV.map, CV.map, AB.map', id]; done) | (congr 3; omega) | (congr 4; omega),  trivial⟩) (⟨by first | rfl | (simp only [AV.map, GV.map, CV.map, AB.map', id]; done) | (congr 3; omega) | (congr 4; omega), by first | rfl | (simp only [AV.map, GV.map, CV.map, AB.map', id]; done) | (congr 3; omega) | (congr 4; omega), by first | rfl | (simp only [AV.map, GV.map, CV.map, AB.map', id]; done) | (congr 3; omega) | (congr 4; omega), by first | rfl | (simp only [AV.map, GV.map, CV.map, AB.map', id]; done) | (congr 3; omega) | (congr 4; omega), by first | rfl | (simp only [AV.map, GV.map, CV.map, AB.map', id]; done) | (congr 3; omega) | (congr 4; omega),  trivial⟩) rfl) ?_
                refine AC.draw [⟨some 86, (aI e7), [], [], [], [(10, (aI e7))], []⟩,
      ⟨some 87, (aB true), [], [], [0], [(86, (aI e7))], []⟩,
      ⟨some 88, (aB true), [], [], [1], [(87, (aB true))], []⟩,
      ⟨some 89, (aG [(cI x7.cap), (.s 12 0 1 x7.used.length), (.s 13 0 4 x7.advices.length)]), [], [], [2], [(9, (aC (.p 4 0 0 0))), (88, (aB true))], [(4, (.box 26 [(cI x7.cap), (.s 12 0 1 x7.used.length), (.s 13 0 4 x7.advices.length)]))]⟩,
      ⟨some 90, (aC (.p 0 0 0 0)), [], [], [2], [(6, (aC (.p 0 0 0 0))), (88, (aB true))], [(0, (.box 26 [(cI s.cap), (cR 1 ((s.used).map rI)), (cR 4 ((s.advices).map rAdvice))]))]⟩,
      ⟨some 91, (aI s.cap), [], [], [2, 4], [(90, (aC (.p 0 0 0 0))), (88, (aB true))], [(0, (.box 26 [(cI s.cap), (cR 1 ((s.used).map rI)), (cR 4 ((s.advices).map rAdvice))]))]⟩,
      ⟨some 92, (aC (.p 0 0 0 1)), [], [], [2], [(6, (aC (.p 0 0 0 0))), (88, (aB true))], [(0, (.box 26 [(cI s.cap), (cR 1 ((s.used).map rI)), (cR 4 ((s.advices).map rAdvice))]))]⟩,
      ⟨some 93, (aC (cR 1 ((s.used).map rI))), [], [], [2, 6], [(92, (aC (.p 0 0 0 1))), (88, (aB true))], [(0, (.box 26 [(cI s.cap), (cR 1 ((s.used).map rI)), (cR 4 ((s.advices).map rAdvice))]))]⟩,
      ⟨some 94, (aI (↑s.used.length : Int)), [], [], [2, 7], [(93, (aC (cR 1 ((s.used).map rI)))), (88, (aB true))], []⟩,
      ⟨some 95, (aC (.s 15 0 1 s.used.length)), [(15, (.arr 3 1 ((List.replicate s.used.length 0).map rI)))], [], [2, 8], [(94, (aI (↑s.used.length : Int))), (88, (aB true))], []⟩,
      ⟨some 96, (aG [(cI s.cap), (.s 15 0 1 s.used.length), cN]), [], [], [2, 5, 9], [(91, (aI s.cap)), (95, (aC (.s 15 0 1 s.used.length))), (88, (aB true))], [(15, (.arr 3 1 ((List.replicate s.used.length 0).map rI)))]⟩,
      ⟨some 97, (aB true), [], [], [2, 3, 9, 10], [(89, (aG [(cI x7.cap), (.s 12 0 1 x7.used.length), (.s 13 0 4 x7.advices.length)])), (96, (aG [(cI s.cap), (.s 15 0 1 s.used.length), cN])), (88, (aB true))], [(15, (.arr 3 1 ((List.replicate s.used.length 0).map rI))), (13, (.arr 32 4 ((x7.advices).map rAdvice))), (12, (.arr 3 1 ((x7.used).map rI)))]⟩,
      ⟨some 98, (aB true), [], [], [2, 11], [(88, (aB true)), (97, (aB true))], []⟩,
      ⟨some 99, (aB true), [], [], [12], [(98, (aB true))], []⟩,
      ⟨some 100, (aC (.s 14 0 4 l7.length)), [], [], [13], [(13, (aC (.s 14 0 4 l7.length))), (99, (aB true))], [(14, (.arr 32 4 ((l7).map rAdvice)))]⟩,
      ⟨some 101, (aG [(cI 0), cN, (.s 14 0 4 l7.length)]), [], [], [13, 14], [(100, (aC (.s 14 0 4 l7.length))), (99, (aB true))], [(14, (.arr 32 4 ((l7).map rAdvice)))]⟩,
      ⟨some 102, (aC (.p 0 0 0 2)), [], [], [13], [(6, (aC (.p 0 0 0 0))), (99, (aB true))], [(0, (.box 26 [(cI s.cap), (cR 1 ((s.used).map rI)), (cR 4 ((s.advices).map rAdvice))]))]⟩,
      ⟨some 103, (aC (cR 4 ((s.advices).map rAdvice))), [], [], [13, 16], [(102, (aC (.p 0 0 0 2))), (99, (aB true))], [(0, (.box 26 [(cI s.cap), (cR 1 ((s.used).map rI)), (cR 4 ((s.advices).map rAdvice))]))]⟩,
      ⟨some 104, (aG [(cI 0), cN, (cR 4 ((s.advices).map rAdvice))]), [], [], [13, 17], [(103, (aC (cR 4 ((s.advices).map rAdvice)))), (99, (aB true))], []⟩,
      ⟨some 105, (aB r10), [], [], [13, 15, 18], [(101, (aG [(cI 0), cN, (.s 14 0 4 l7.length)])), (104, (aG [(cI 0), cN, (cR 4 ((s.advices).map rAdvice))])), (99, (aB true))], [(14, (.arr 32 4 ((l7).map rAdvice)))]⟩,
      ⟨some 106, (aB r10), [], [], [13, 19], [(99, (aB true)), (105, (aB r10))], []⟩] ⟨[(6, (aC (.p 0 0 0 0))), (8, (aB false)), (9, (aC (.p 4 0 0 0))), (10, (aI e7)), (13, (aC (.s 14 0 4 l7.length))), (106, (aB r10))], [(12, (.arr 3 1 ((x7.used).map rI))), (13, (.arr 32 4 ((x7.advices).map rAdvice))), (14, (.arr 32 4 ((l7).map rAdvice))), (4, (.box 26 [(cI x7.cap), (.s 12 0 1 x7.used.length), (.s 13 0 4 x7.advices.length)])), (0, (.box 26 [(cI s.cap), (cR 1 ((s.used).map rI)), (cR 4 ((s.advices).map rAdvice))]))], 16⟩ mixed (by kernel_rfl) ?_ ?_ ?_ ?_
                · exact ⟨.inl ⟨(Wanted.plain rfl), GOp.cast (g_move rfl rfl) rfl⟩,
      .inl ⟨(Wanted.plain rfl), GOp.cast (g_binI rfl rfl rfl (congrArg (fun b => some (Value.bool b)) hb8)) rfl⟩,
      .inl ⟨(Wanted.plain rfl), GOp.cast (g_move rfl rfl) rfl⟩,
      .inl ⟨(Wanted.yes rfl rfl rfl), GOp.cast (g_loadBs rfl rfl rfl Try.underlying26 rfl sz26 rfl rfl) rfl⟩,
      .inl ⟨(Wanted.yes rfl rfl rfl), GOp.cast (g_fieldP rfl rfl Try.underlying26 rfl sz3 (by decide)) rfl⟩,
      .inl ⟨(Wanted.yes rfl rfl rfl), GOp.cast (g_loadB rfl rfl rfl Try.underlying3 rfl rfl) rfl⟩,
      .inl ⟨(Wanted.yes rfl rfl rfl), GOp.cast (g_fieldP rfl rfl Try.underlying26 rfl sz24 (by decide)) rfl⟩,
      .inl ⟨(Wanted.yes rfl rfl rfl), GOp.cast (g_loadB rfl rfl rfl Try.underlying24 rfl rfl) rfl⟩,
      .inl ⟨(Wanted.yes rfl rfl rfl), GOp.cast (g_lenM rfl rfl rfl rfl rfl Try.underlying24) rfl⟩,
      .inl ⟨(Wanted.yes rfl rfl rfl), GOp.cast (g_makeI 15 sl24 zv3 rfl rfl rfl (n := s.used.length) (by first | omega | (simp; done) | (simp; omega)) (by first | omega | (simp; done) | (simp; omega)) (by first | omega | (simp; done) | (simp; omega)) (by first | omega | (simp; done) | (simp; omega))) rfl⟩,
      .inl ⟨(Wanted.yes rfl rfl rfl), GOp.cast (g_build (ys := [(0, (.c (cI s.cap))), (1, (.c (.s 15 0 1 s.used.length)))]) rfl bld26 rfl ⟨⟨rfl, rfl⟩, ⟨rfl, rfl⟩,  trivial⟩ rfl rfl) rfl⟩,
      .inl ⟨(Wanted.yes rfl rfl rfl), GOp.cast ((hb9 ▸ (g_callE 16 [12, 13, 15] (c_SameStand x7 (⟨s.cap, List.replicate s.used.length 0, []⟩ : Stand)  r9 hr9) en31 rfl rfl ⟨⟨_, rfl, .g ⟨.d _, .s rfl (by decide) (by first | omega | (simp; done) | (simp; omega)), .s rfl (by decide) (by first | omega | (simp; done) | (simp; omega)),  trivial⟩⟩, ⟨_, rfl, .g ⟨.d _, .s rfl (by decide) (by first | omega | (simp; done) | (simp; omega)), .nil _,  trivial⟩⟩,  trivial⟩ rfl trivial rfl rfl rfl rfl))) rfl⟩,
      .inl ⟨(Wanted.plain rfl), GOp.cast (g_pick rfl rfl rfl) rfl⟩,
      .inl ⟨(Wanted.plain rfl), GOp.cast (g_move rfl rfl) rfl⟩,
      .inl ⟨(Wanted.yes rfl rfl rfl), GOp.cast (g_move rfl rfl) rfl⟩,
      .inl ⟨(Wanted.yes rfl rfl rfl), GOp.cast (g_build (ys := [(2, (.c (.s 14 0 4 l7.length)))]) rfl bld26 rfl ⟨⟨rfl, rfl⟩,  trivial⟩ rfl rfl) rfl⟩,
      .inl ⟨(Wanted.yes rfl rfl rfl), GOp.cast (g_fieldP rfl rfl Try.underlying26 rfl sz22 (by decide)) rfl⟩,
      .inl ⟨(Wanted.yes rfl rfl rfl), GOp.cast (g_loadB rfl rfl rfl Try.underlying22 rfl rfl) rfl⟩,
      .inl ⟨(Wanted.yes rfl rfl rfl), GOp.cast (g_build (ys := [(2, (.c (cR 4 ((s.advices).map rAdvice))))]) rfl bld26 rfl ⟨⟨rfl, rfl⟩,  trivial⟩ rfl rfl) rfl⟩,
      .inl ⟨(Wanted.yes rfl rfl rfl), GOp.cast (g_callE 16 [14] (c_SameStand (⟨0, [], l7⟩ : Stand) (⟨0, [], s.advices⟩ : Stand)  r10 hr10) en31 rfl rfl ⟨⟨_, rfl, .g ⟨.d _, .nil _, .s rfl (by decide) (by first | omega | (simp; done) | (simp; omega)),  trivial⟩⟩, ⟨_, rfl, .g ⟨.d _, .nil _, .d _,  trivial⟩⟩,  trivial⟩ rfl trivial rfl rfl rfl rfl) rfl⟩,
      .inl ⟨(Wanted.plain rfl), GOp.cast (g_pick rfl rfl rfl) rfl⟩,
       trivial⟩
                · exact ⟨⟨⟨.inl rfl,  trivial⟩, trivial⟩, ⟨⟨.inr ⟨0, .head _, _, rfl, rfl, rfl⟩,  trivial⟩, trivial⟩, ⟨⟨.inr ⟨1, .head _, _, rfl, rfl, rfl⟩,  trivial⟩, trivial⟩, ⟨⟨.inl rfl, .inr ⟨2, .head _, _, rfl, rfl, rfl⟩,  trivial⟩, ⟨.inl rfl,  trivial⟩⟩, ⟨⟨.inl rfl, .inr ⟨2, .head _, _, rfl, rfl, rfl⟩,  trivial⟩, ⟨.inl rfl,  trivial⟩⟩, ⟨⟨.inr ⟨4, .tail _ (.head _), _, rfl, rfl, rfl⟩, .inr ⟨2, .head _, _, rfl, rfl, rfl⟩,  trivial⟩, ⟨.inl rfl,  trivial⟩⟩, ⟨⟨.inl rfl, .inr ⟨2, .head _, _, rfl, rfl, rfl⟩,  trivial⟩, ⟨.inl rfl,  trivial⟩⟩, ⟨⟨.inr ⟨6, .tail _ (.head _), _, rfl, rfl, rfl⟩, .inr ⟨2, .head _, _, rfl, rfl, rfl⟩,  trivial⟩, ⟨.inl rfl,  trivial⟩⟩, ⟨⟨.inr ⟨7, .tail _ (.head _), _, rfl, rfl, rfl⟩, .inr ⟨2, .head _, _, rfl, rfl, rfl⟩,  trivial⟩, trivial⟩, ⟨⟨.inr ⟨8, .tail _ (.head _), _, rfl, rfl, rfl⟩, .inr ⟨2, .head _, _, rfl, rfl, rfl⟩,  trivial⟩, trivial⟩, ⟨⟨.inr ⟨5, .tail _ (.head _), _, rfl, rfl, rfl⟩, .inr ⟨9, .tail _ (.tail _ (.head _)), _, rfl, rfl, rfl⟩, .inr ⟨2, .head _, _, rfl, rfl, rfl⟩,  trivial⟩, ⟨.inr ⟨9, .tail _ (.tail _ (.head _)), _, rfl, .head _⟩,  trivial⟩⟩, ⟨⟨.inr ⟨3, .tail _ (.head _), _, rfl, rfl, rfl⟩, .inr ⟨10, .tail _ (.tail _ (.tail _ (.head _))), _, rfl, rfl, rfl⟩, .inr ⟨2, .head _, _, rfl, rfl, rfl⟩,  trivial⟩, ⟨.inr ⟨9, .tail _ (.tail _ (.head _)), _, rfl, .head _⟩, .inl rfl, .inl rfl,  trivial⟩⟩, ⟨⟨.inr ⟨2, .head _, _, rfl, rfl, rfl⟩, .inr ⟨11, .tail _ (.head _), _, rfl, rfl, rfl⟩,  trivial⟩, trivial⟩, ⟨⟨.inr ⟨12, .head _, _, rfl, rfl, rfl⟩,  trivial⟩, trivial⟩, ⟨⟨.inl rfl, .inr ⟨13, .head _, _, rfl, rfl, rfl⟩,  trivial⟩, ⟨.inl rfl,  trivial⟩⟩, ⟨⟨.inr ⟨14, .tail _ (.head _), _, rfl, rfl, rfl⟩, .inr ⟨13, .head _, _, rfl, rfl, rfl⟩,  trivial⟩, ⟨.inl rfl,  trivial⟩⟩, ⟨⟨.inl rfl, .inr ⟨13, .head _, _, rfl, rfl, rfl⟩,  trivial⟩, ⟨.inl rfl,  trivial⟩⟩, ⟨⟨.inr ⟨16, .tail _ (.head _), _, rfl, rfl, rfl⟩, .inr ⟨13, .head _, _, rfl, rfl, rfl⟩,  trivial⟩, ⟨.inl rfl,  trivial⟩⟩, ⟨⟨.inr ⟨17, .tail _ (.head _), _, rfl, rfl, rfl⟩, .inr ⟨13, .head _, _, rfl, rfl, rfl⟩,  trivial⟩, trivial⟩, ⟨⟨.inr ⟨15, .tail _ (.head _), _, rfl, rfl, rfl⟩, .inr ⟨18, .tail _ (.tail _ (.head _)), _, rfl, rfl, rfl⟩, .inr ⟨13, .head _, _, rfl, rfl, rfl⟩,  trivial⟩, ⟨.inl rfl,  trivial⟩⟩, ⟨⟨.inr ⟨13, .head _, _, rfl, rfl, rfl⟩, .inr ⟨19, .tail _ (.head _), _, rfl, rfl, rfl⟩,  trivial⟩, trivial⟩,  trivial⟩
                · exact ⟨⟨.inl rfl, .inl rfl, .inl rfl, .inl rfl, .inl rfl, .inr ⟨20, _, rfl, rfl, rfl⟩,  trivial⟩, ⟨.inl rfl, .inl rfl, .inl rfl, .inl rfl, .inl rfl,  trivial⟩⟩
                ·
                  refine AL.fast 1 rfl ?_
                  refine AL.nil ?_
                  refine then_ok ?_
                  refine AC.ret ?_
                  refine retQ_mk (av' := outOf [(.c (cB r10))]) (nb' := []) (retQ_ret ⟨[(8, (aB r10))], [], 0⟩ [.tmp 8] [(.c (cB r10))] (Weak.ren id (⟨by first | rfl | (simp only [AV.map, GV.map, CV.map, AB.map', id]; done) | (congr 3; omega) | (congr 4; omega),  trivial⟩) (trivial) rfl) rfl ⟨.tmp rfl, trivial⟩ trivial) ?_ ?_
                  · exact congrArg aB (show (r10) = true by (rcases clear_of hr7 with ⟨p1, p2, rfl, rfl⟩ | ⟨p1, p2, rfl, rfl⟩ <;> first | (exfalso; omega) | (rw [same_self] at hr10; exact hr10.symm)))
                  · rfl
              ·
                have hb9' := hb9; try simp only [Bool.not_eq_true', Bool.not_eq_false', Bool.or_eq_true, Bool.or_eq_false_iff, Bool.and_eq_true, Bool.and_eq_false_imp, decide_eq_true_eq, decide_eq_false_iff_not, Bool.not_not, Bool.not_true, Bool.not_false] at hb9'
                refine AC.weak (st' := ⟨[(6, (aC (.p 0 0 0 0))), (8, (aB false)), (9, (aC (.p 4 0 0 0))), (10, (aI e7)), (13, (aC (.s 14 0 4 l7.length)))], [(12, (.arr 3 1 ((x7.used).map rI))), (13, (.arr 32 4 ((x7.advices).map rAdvice))), (14, (.arr 32 4 ((l7).map rAdvice))), (4, (.box 26 [(cI x7.cap), (.s 12 0 1 x7.used.length), (.s 13 0 4 x7.advices.length)])), (0, (.box 26 [(cI s.cap), (cR 1 ((s.used).map rI)), (cR 4 ((s.advices).map rAdvice))]))], 15⟩) (Weak.ren id (⟨by first | rfl | (simp only [AV.map, GV.map, CV.map, AB.map', id]; done) | (congr 3; omega) | (congr 4; omega), by first | rfl | (simp only [AV.map, GV.map, CV.map, AB.map', id]; done) | (congr 3; omega) | (congr 4; omega), by first | rfl | (simp only [AV.map, GV.map, CV.map, AB.map', id]; done) | (congr 3; omega) | (congr 4; omega), by first | rfl | (simp only [AV.map, GV.map, CV.map, AB.map', id]; done) | (congr 3; omega) | (congr 4; omega), by first | rfl | (simp only [AV.map, GV.map, CV.map, AB.map', id]; done) | (congr 3; omega) | (congr 4; omega),  trivial⟩) (⟨by first | rfl | (simp only [AV.map, GV.map, CV.map, AB.map', id]; done) | (congr 3; omega) | (congr 4; omega), by first | rfl | (simp only [AV.map, GV.map, CV.map, AB.map', id]; done) | (congr 3; omega) | (congr 4; omega), by first | rfl | (simp only [AV.map, GV.map, CV.map, AB.map', id]; done) | (congr 3; omega) | (congr 4; omega), by first | rfl | (simp only [AV.map, GV.map, CV.map, AB.map', id]; done) | (congr 3; omega) | (congr 4; omega), by first | rfl | (simp only [AV.map, GV.map, CV.map, AB.map', id]; done) | (congr 3; omega) | (congr 4; omega),  trivial⟩) rfl) ?_
                refine AC.draw [⟨some 86, (aI e7), [], [], [], [(10, (aI e7))], []⟩,
      ⟨some 87, (aB true), [], [], [0], [(86, (aI e7))], []⟩,
      ⟨some 88, (aB true), [], [], [1], [(87, (aB true))], []⟩,
      ⟨some 89, (aG [(cI x7.cap), (.s 12 0 1 x7.used.length), (.s 13 0 4 x7.advices.length)]), [], [], [2], [(9, (aC (.p 4 0 0 0))), (88, (aB true))], [(4, (.box 26 [(cI x7.cap), (.s 12 0 1 x7.used.length), (.s 13 0 4 x7.advices.length)]))]⟩,
      ⟨some 90, (aC (.p 0 0 0 0)), [], [], [2], [(6, (aC (.p 0 0 0 0))), (88, (aB true))], [(0, (.box 26 [(cI s.cap), (cR 1 ((s.used).map rI)), (cR 4 ((s.advices).map rAdvice))]))]⟩,
      ⟨some 91, (aI s.cap), [], [], [2, 4], [(90, (aC (.p 0 0 0 0))), (88, (aB true))], [(0, (.box 26 [(cI s.cap), (cR 1 ((s.used).map rI)), (cR 4 ((s.advices).map rAdvice))]))]⟩,
      ⟨some 92, (aC (.p 0 0 0 1)), [], [], [2], [(6, (aC (.p 0 0 0 0))), (88, (aB true))], [(0, (.box 26 [(cI s.cap), (cR 1 ((s.used).map rI)), (cR 4 ((s.advices).map rAdvice))]))]⟩,
      ⟨some 93, (aC (cR 1 ((s.used).map rI))), [], [], [2, 6], [(92, (aC (.p 0 0 0 1))), (88, (aB true))], [(0, (.box 26 [(cI s.cap), (cR 1 ((s.used).map rI)), (cR 4 ((s.advices).map rAdvice))]))]⟩,
      ⟨some 94, (aI (↑s.used.length : Int)), [], [], [2, 7], [(93, (aC (cR 1 ((s.used).map rI)))), (88, (aB true))], []⟩,
      ⟨some 95, (aC (.s 15 0 1 s.used.length)), [(15, (.arr 3 1 ((List.replicate s.used.length 0).map rI)))], [], [2, 8], [(94, (aI (↑s.used.length : Int))), (88, (aB true))], []⟩,
      ⟨some 96, (aG [(cI s.cap), (.s 15 0 1 s.used.length), cN]), [], [], [2, 5, 9], [(91, (aI s.cap)), (95, (aC (.s 15 0 1 s.used.length))), (88, (aB true))], [(15, (.arr 3 1 ((List.replicate s.used.length 0).map rI)))]⟩,
      ⟨some 97, (aB false), [], [], [2, 3, 9, 10], [(89, (aG [(cI x7.cap), (.s 12 0 1 x7.used.length), (.s 13 0 4 x7.advices.length)])), (96, (aG [(cI s.cap), (.s 15 0 1 s.used.length), cN])), (88, (aB true))], [(15, (.arr 3 1 ((List.replicate s.used.length 0).map rI))), (13, (.arr 32 4 ((x7.advices).map rAdvice))), (12, (.arr 3 1 ((x7.used).map rI)))]⟩,
      ⟨some 98, (aB false), [], [], [2, 11], [(88, (aB true)), (97, (aB false))], []⟩,
      ⟨some 99, (aB false), [], [], [12], [(98, (aB false))], []⟩,
      ⟨some 100, (.t []), [], [], [13], [(13, (aC (.s 14 0 4 l7.length))), (99, (aB false))], []⟩,
      ⟨some 101, (.t []), [], [], [13, 14], [(100, (.t [])), (99, (aB false))], []⟩,
      ⟨some 102, (.t []), [], [], [13], [(6, (aC (.p 0 0 0 0))), (99, (aB false))], []⟩,
      ⟨some 103, (.t []), [], [], [13, 16], [(102, (.t [])), (99, (aB false))], []⟩,
      ⟨some 104, (.t []), [], [], [13, 17], [(103, (.t [])), (99, (aB false))], []⟩,
      ⟨some 105, (.t []), [], [], [13, 15, 18], [(101, (.t [])), (104, (.t [])), (99, (aB false))], []⟩,
      ⟨some 106, (aB false), [], [], [13, 19], [(99, (aB false)), (105, (.t []))], []⟩] ⟨[(6, (aC (.p 0 0 0 0))), (8, (aB false)), (9, (aC (.p 4 0 0 0))), (10, (aI e7)), (13, (aC (.s 14 0 4 l7.length))), (106, (aB false))], [(12, (.arr 3 1 ((x7.used).map rI))), (13, (.arr 32 4 ((x7.advices).map rAdvice))), (14, (.arr 32 4 ((l7).map rAdvice))), (4, (.box 26 [(cI x7.cap), (.s 12 0 1 x7.used.length), (.s 13 0 4 x7.advices.length)])), (0, (.box 26 [(cI s.cap), (cR 1 ((s.used).map rI)), (cR 4 ((s.advices).map rAdvice))]))], 16⟩ mixed (by kernel_rfl) ?_ ?_ ?_ ?_
                · exact ⟨.inl ⟨(Wanted.plain rfl), GOp.cast (g_move rfl rfl) rfl⟩,
      .inl ⟨(Wanted.plain rfl), GOp.cast (g_binI rfl rfl rfl (congrArg (fun b => some (Value.bool b)) hb8)) rfl⟩,
      .inl ⟨(Wanted.plain rfl), GOp.cast (g_move rfl rfl) rfl⟩,
      .inl ⟨(Wanted.yes rfl rfl rfl), GOp.cast (g_loadBs rfl rfl rfl Try.underlying26 rfl sz26 rfl rfl) rfl⟩,
      .inl ⟨(Wanted.yes rfl rfl rfl), GOp.cast (g_fieldP rfl rfl Try.underlying26 rfl sz3 (by decide)) rfl⟩,
      .inl ⟨(Wanted.yes rfl rfl rfl), GOp.cast (g_loadB rfl rfl rfl Try.underlying3 rfl rfl) rfl⟩,
      .inl ⟨(Wanted.yes rfl rfl rfl), GOp.cast (g_fieldP rfl rfl Try.underlying26 rfl sz24 (by decide)) rfl⟩,
      .inl ⟨(Wanted.yes rfl rfl rfl), GOp.cast (g_loadB rfl rfl rfl Try.underlying24 rfl rfl) rfl⟩,
      .inl ⟨(Wanted.yes rfl rfl rfl), GOp.cast (g_lenM rfl rfl rfl rfl rfl Try.underlying24) rfl⟩,
      .inl ⟨(Wanted.yes rfl rfl rfl), GOp.cast (g_makeI 15 sl24 zv3 rfl rfl rfl (n := s.used.length) (by first | omega | (simp; done) | (simp; omega)) (by first | omega | (simp; done) | (simp; omega)) (by first | omega | (simp; done) | (simp; omega)) (by first | omega | (simp; done) | (simp; omega))) rfl⟩,
      .inl ⟨(Wanted.yes rfl rfl rfl), GOp.cast (g_build (ys := [(0, (.c (cI s.cap))), (1, (.c (.s 15 0 1 s.used.length)))]) rfl bld26 rfl ⟨⟨rfl, rfl⟩, ⟨rfl, rfl⟩,  trivial⟩ rfl rfl) rfl⟩,
      .inl ⟨(Wanted.yes rfl rfl rfl), GOp.cast ((hb9 ▸ (g_callE 16 [12, 13, 15] (c_SameStand x7 (⟨s.cap, List.replicate s.used.length 0, []⟩ : Stand)  r9 hr9) en31 rfl rfl ⟨⟨_, rfl, .g ⟨.d _, .s rfl (by decide) (by first | omega | (simp; done) | (simp; omega)), .s rfl (by decide) (by first | omega | (simp; done) | (simp; omega)),  trivial⟩⟩, ⟨_, rfl, .g ⟨.d _, .s rfl (by decide) (by first | omega | (simp; done) | (simp; omega)), .nil _,  trivial⟩⟩,  trivial⟩ rfl trivial rfl rfl rfl rfl))) rfl⟩,
      .inl ⟨(Wanted.plain rfl), GOp.cast (g_pick rfl rfl rfl) rfl⟩,
      .inl ⟨(Wanted.plain rfl), GOp.cast (g_move rfl rfl) rfl⟩,
      .inr ⟨(Unwanted.no rfl rfl rfl), rfl, rfl, rfl⟩,
      .inr ⟨(Unwanted.no rfl rfl rfl), rfl, rfl, rfl⟩,
      .inr ⟨(Unwanted.no rfl rfl rfl), rfl, rfl, rfl⟩,
      .inr ⟨(Unwanted.no rfl rfl rfl), rfl, rfl, rfl⟩,
      .inr ⟨(Unwanted.no rfl rfl rfl), rfl, rfl, rfl⟩,
      .inr ⟨(Unwanted.no rfl rfl rfl), rfl, rfl, rfl⟩,
      .inl ⟨(Wanted.plain rfl), GOp.cast (g_pick rfl rfl rfl) rfl⟩,
       trivial⟩
                · exact ⟨⟨⟨.inl rfl,  trivial⟩, trivial⟩, ⟨⟨.inr ⟨0, .head _, _, rfl, rfl, rfl⟩,  trivial⟩, trivial⟩, ⟨⟨.inr ⟨1, .head _, _, rfl, rfl, rfl⟩,  trivial⟩, trivial⟩, ⟨⟨.inl rfl, .inr ⟨2, .head _, _, rfl, rfl, rfl⟩,  trivial⟩, ⟨.inl rfl,  trivial⟩⟩, ⟨⟨.inl rfl, .inr ⟨2, .head _, _, rfl, rfl, rfl⟩,  trivial⟩, ⟨.inl rfl,  trivial⟩⟩, ⟨⟨.inr ⟨4, .tail _ (.head _), _, rfl, rfl, rfl⟩, .inr ⟨2, .head _, _, rfl, rfl, rfl⟩,  trivial⟩, ⟨.inl rfl,  trivial⟩⟩, ⟨⟨.inl rfl, .inr ⟨2, .head _, _, rfl, rfl, rfl⟩,  trivial⟩, ⟨.inl rfl,  trivial⟩⟩, ⟨⟨.inr ⟨6, .tail _ (.head _), _, rfl, rfl, rfl⟩, .inr ⟨2, .head _, _, rfl, rfl, rfl⟩,  trivial⟩, ⟨.inl rfl,  trivial⟩⟩, ⟨⟨.inr ⟨7, .tail _ (.head _), _, rfl, rfl, rfl⟩, .inr ⟨2, .head _, _, rfl, rfl, rfl⟩,  trivial⟩, trivial⟩, ⟨⟨.inr ⟨8, .tail _ (.head _), _, rfl, rfl, rfl⟩, .inr ⟨2, .head _, _, rfl, rfl, rfl⟩,  trivial⟩, trivial⟩, ⟨⟨.inr ⟨5, .tail _ (.head _), _, rfl, rfl, rfl⟩, .inr ⟨9, .tail _ (.tail _ (.head _)), _, rfl, rfl, rfl⟩, .inr ⟨2, .head _, _, rfl, rfl, rfl⟩,  trivial⟩, ⟨.inr ⟨9, .tail _ (.tail _ (.head _)), _, rfl, .head _⟩,  trivial⟩⟩, ⟨⟨.inr ⟨3, .tail _ (.head _), _, rfl, rfl, rfl⟩, .inr ⟨10, .tail _ (.tail _ (.tail _ (.head _))), _, rfl, rfl, rfl⟩, .inr ⟨2, .head _, _, rfl, rfl, rfl⟩,  trivial⟩, ⟨.inr ⟨9, .tail _ (.tail _ (.head _)), _, rfl, .head _⟩, .inl rfl, .inl rfl,  trivial⟩⟩, ⟨⟨.inr ⟨2, .head _, _, rfl, rfl, rfl⟩, .inr ⟨11, .tail _ (.head _), _, rfl, rfl, rfl⟩,  trivial⟩, trivial⟩, ⟨⟨.inr ⟨12, .head _, _, rfl, rfl, rfl⟩,  trivial⟩, trivial⟩, ⟨⟨.inl rfl, .inr ⟨13, .head _, _, rfl, rfl, rfl⟩,  trivial⟩, trivial⟩, ⟨⟨.inr ⟨14, .tail _ (.head _), _, rfl, rfl, rfl⟩, .inr ⟨13, .head _, _, rfl, rfl, rfl⟩,  trivial⟩, trivial⟩, ⟨⟨.inl rfl, .inr ⟨13, .head _, _, rfl, rfl, rfl⟩,  trivial⟩, trivial⟩, ⟨⟨.inr ⟨16, .tail _ (.head _), _, rfl, rfl, rfl⟩, .inr ⟨13, .head _, _, rfl, rfl, rfl⟩,  trivial⟩, trivial⟩, ⟨⟨.inr ⟨17, .tail _ (.head _), _, rfl, rfl, rfl⟩, .inr ⟨13, .head _, _, rfl, rfl, rfl⟩,  trivial⟩, trivial⟩, ⟨⟨.inr ⟨15, .tail _ (.head _), _, rfl, rfl, rfl⟩, .inr ⟨18, .tail _ (.tail _ (.head _)), _, rfl, rfl, rfl⟩, .inr ⟨13, .head _, _, rfl, rfl, rfl⟩,  trivial⟩, trivial⟩, ⟨⟨.inr ⟨13, .head _, _, rfl, rfl, rfl⟩, .inr ⟨19, .tail _ (.head _), _, rfl, rfl, rfl⟩,  trivial⟩, trivial⟩,  trivial⟩
                · exact ⟨⟨.inl rfl, .inl rfl, .inl rfl, .inl rfl, .inl rfl, .inr ⟨20, _, rfl, rfl, rfl⟩,  trivial⟩, ⟨.inl rfl, .inl rfl, .inl rfl, .inl rfl, .inl rfl,  trivial⟩⟩
                ·
                  refine AL.fast 1 rfl ?_
                  refine AL.nil ?_
                  refine then_ok ?_
                  refine AC.ret ?_
                  refine retQ_mk (av' := outOf [(.c (cB false))]) (nb' := []) (retQ_ret ⟨[(8, (aB false))], [], 0⟩ [.tmp 8] [(.c (cB false))] (Weak.ren id (⟨by first | rfl | (simp only [AV.map, GV.map, CV.map, AB.map', id]; done) | (congr 3; omega) | (congr 4; omega),  trivial⟩) (trivial) rfl) rfl ⟨.tmp rfl, trivial⟩ trivial) ?_ ?_
                  · exact congrArg aB (show (false) = true by (rcases clear_of hr7 with ⟨p1, p2, rfl, rfl⟩ | ⟨p1, p2, rfl, rfl⟩ <;> first | (exfalso; omega) | (rw [same_self] at hr9; subst hr9; simp at hb9')))
                  · rfl
            ·
              have hb8' := hb8; try simp only [Bool.not_eq_true', Bool.not_eq_false', Bool.or_eq_true, Bool.or_eq_false_iff, Bool.and_eq_true, Bool.and_eq_false_imp, decide_eq_true_eq, decide_eq_false_iff_not, Bool.not_not, Bool.not_true, Bool.not_false] at hb8'
              refine AC.weak (st' := ⟨[(6, (aC (.p 0 0 0 0))), (8, (aB false)), (9, (aC (.p 4 0 0 0))), (10, (aI e7)), (13, (aC (.s 14 0 4 l7.length)))], [(12, (.arr 3 1 ((x7.used).map rI))), (13, (.arr 32 4 ((x7.advices).map rAdvice))), (14, (.arr 32 4 ((l7).map rAdvice))), (4, (.box 26 [(cI x7.cap), (.s 12 0 1 x7.used.length), (.s 13 0 4 x7.advices.length)])), (0, (.box 26 [(cI s.cap), (cR 1 ((s.used).map rI)), (cR 4 ((s.advices).map rAdvice))]))], 15⟩) (Weak.ren id (⟨by first | rfl | (simp only [AV.map, GV.map, CV.map, AB.map', id]; done) | (congr 3; omega) | (congr 4; omega), by first | rfl | (simp only [AV.map, GV.map, CV.map, AB.map', id]; done) | (congr 3; omega) | (congr 4; omega), by first | rfl | (simp only [AV.map, GV.map, CV.map, AB.map', id]; done) | (congr 3; omega) | (congr 4; omega), by first | rfl | (simp only [AV.map, GV.map, CV.map, AB.map', id]; done) | (congr 3; omega) | (congr 4; omega), by first | rfl | (simp only [AV.map, GV.map, CV.map, AB.map', id]; done) | (congr 3; omega) | (congr 4; omega),  trivial⟩) (⟨by first | rfl | (simp only [AV.map, GV.map, CV.map, AB.map', id]; done) | (congr 3; omega) | (congr 4; omega), by first | rfl | (simp only [AV.map, GV.map, CV.map, AB.map', id]; done) | (congr 3; omega) | (congr 4; omega), by first | rfl | (simp only [AV.map, GV.map, CV.map, AB.map', id]; done) | (congr 3; omega) | (congr 4; omega), by first | rfl | (simp only [AV.map, GV.map, CV.map, AB.map', id]; done) | (congr 3; omega) | (congr 4; omega), by first | rfl | (simp only [AV.map, GV.map, CV.map, AB.map', id]; done) | (congr 3; omega) | (congr 4; omega),  trivial⟩) rfl) ?_
              refine AC.draw [⟨some 86, (aI e7), [], [], [], [(10, (aI e7))], []⟩,
      ⟨some 87, (aB false), [], [], [0], [(86, (aI e7))], []⟩,
      ⟨some 88, (aB false), [], [], [1], [(87, (aB false))], []⟩,
      ⟨some 89, (.t []), [], [], [2], [(9, (aC (.p 4 0 0 0))), (88, (aB false))], []⟩,
      ⟨some 90, (.t []), [], [], [2], [(6, (aC (.p 0 0 0 0))), (88, (aB false))], []⟩,
      ⟨some 91, (.t []), [], [], [2, 4], [(90, (.t [])), (88, (aB false))], []⟩,
      ⟨some 92, (.t []), [], [], [2], [(6, (aC (.p 0 0 0 0))), (88, (aB false))], []⟩,
      ⟨some 93, (.t []), [], [], [2, 6], [(92, (.t [])), (88, (aB false))], []⟩,
      ⟨some 94, (.t []), [], [], [2, 7], [(93, (.t [])), (88, (aB false))], []⟩,
      ⟨some 95, (.t []), [], [], [2, 8], [(94, (.t [])), (88, (aB false))], []⟩,
      ⟨some 96, (.t []), [], [], [2, 5, 9], [(91, (.t [])), (95, (.t [])), (88, (aB false))], []⟩,
      ⟨some 97, (.t []), [], [], [2, 3, 10], [(89, (.t [])), (96, (.t [])), (88, (aB false))], []⟩,
      ⟨some 98, (aB false), [], [], [2, 11], [(88, (aB false)), (97, (.t []))], []⟩,
      ⟨some 99, (aB false), [], [], [12], [(98, (aB false))], []⟩,
      ⟨some 100, (.t []), [], [], [13], [(13, (aC (.s 14 0 4 l7.length))), (99, (aB false))], []⟩,
      ⟨some 101, (.t []), [], [], [13, 14], [(100, (.t [])), (99, (aB false))], []⟩,
      ⟨some 102, (.t []), [], [], [13], [(6, (aC (.p 0 0 0 0))), (99, (aB false))], []⟩,
      ⟨some 103, (.t []), [], [], [13, 16], [(102, (.t [])), (99, (aB false))], []⟩,
      ⟨some 104, (.t []), [], [], [13, 17], [(103, (.t [])), (99, (aB false))], []⟩,
      ⟨some 105, (.t []), [], [], [13, 15, 18], [(101, (.t [])), (104, (.t [])), (99, (aB false))], []⟩,
      ⟨some 106, (aB false), [], [], [13, 19], [(99, (aB false)), (105, (.t []))], []⟩] ⟨[(6, (aC (.p 0 0 0 0))), (8, (aB false)), (9, (aC (.p 4 0 0 0))), (10, (aI e7)), (13, (aC (.s 14 0 4 l7.length))), (106, (aB false))], [(12, (.arr 3 1 ((x7.used).map rI))), (13, (.arr 32 4 ((x7.advices).map rAdvice))), (14, (.arr 32 4 ((l7).map rAdvice))), (4, (.box 26 [(cI x7.cap), (.s 12 0 1 x7.used.length), (.s 13 0 4 x7.advices.length)])), (0, (.box 26 [(cI s.cap), (cR 1 ((s.used).map rI)), (cR 4 ((s.advices).map rAdvice))]))], 15⟩ mixed (by kernel_rfl) ?_ ?_ ?_ ?_
              · exact ⟨.inl ⟨(Wanted.plain rfl), GOp.cast (g_move rfl rfl) rfl⟩,
      .inl ⟨(Wanted.plain rfl), GOp.cast (g_binI rfl rfl rfl (congrArg (fun b => some (Value.bool b)) hb8)) rfl⟩,
      .inl ⟨(Wanted.plain rfl), GOp.cast (g_move rfl rfl) rfl⟩,
      .inr ⟨(Unwanted.no rfl rfl rfl), rfl, rfl, rfl⟩,
      .inr ⟨(Unwanted.no rfl rfl rfl), rfl, rfl, rfl⟩,
      .inr ⟨(Unwanted.no rfl rfl rfl), rfl, rfl, rfl⟩,
      .inr ⟨(Unwanted.no rfl rfl rfl), rfl, rfl, rfl⟩,
      .inr ⟨(Unwanted.no rfl rfl rfl), rfl, rfl, rfl⟩,
      .inr ⟨(Unwanted.no rfl rfl rfl), rfl, rfl, rfl⟩,
      .inr ⟨(Unwanted.no rfl rfl rfl), rfl, rfl, rfl⟩,
      .inr ⟨(Unwanted.no rfl rfl rfl), rfl, rfl, rfl⟩,
      .inr ⟨(Unwanted.no rfl rfl rfl), rfl, rfl, rfl⟩,
      .inl ⟨(Wanted.plain rfl), GOp.cast (g_pick rfl rfl rfl) rfl⟩,
      .inl ⟨(Wanted.plain rfl), GOp.cast (g_move rfl rfl) rfl⟩,
      .inr ⟨(Unwanted.no rfl rfl rfl), rfl, rfl, rfl⟩,
      .inr ⟨(Unwanted.no rfl rfl rfl), rfl, rfl, rfl⟩,
      .inr ⟨(Unwanted.no rfl rfl rfl), rfl, rfl, rfl⟩,
      .inr ⟨(Unwanted.no rfl rfl rfl), rfl, rfl, rfl⟩,
      .inr ⟨(Unwanted.no rfl rfl rfl), rfl, rfl, rfl⟩,
      .inr ⟨(Unwanted.no rfl rfl rfl), rfl, rfl, rfl⟩,
      .inl ⟨(Wanted.plain rfl), GOp.cast (g_pick rfl rfl rfl) rfl⟩,
       trivial⟩
              · exact ⟨⟨⟨.inl rfl,  trivial⟩, trivial⟩, ⟨⟨.inr ⟨0, .head _, _, rfl, rfl, rfl⟩,  trivial⟩, trivial⟩, ⟨⟨.inr ⟨1, .head _, _, rfl, rfl, rfl⟩,  trivial⟩, trivial⟩, ⟨⟨.inl rfl, .inr ⟨2, .head _, _, rfl, rfl, rfl⟩,  trivial⟩, trivial⟩, ⟨⟨.inl rfl, .inr ⟨2, .head _, _, rfl, rfl, rfl⟩,  trivial⟩, trivial⟩, ⟨⟨.inr ⟨4, .tail _ (.head _), _, rfl, rfl, rfl⟩, .inr ⟨2, .head _, _, rfl, rfl, rfl⟩,  trivial⟩, trivial⟩, ⟨⟨.inl rfl, .inr ⟨2, .head _, _, rfl, rfl, rfl⟩,  trivial⟩, trivial⟩, ⟨⟨.inr ⟨6, .tail _ (.head _), _, rfl, rfl, rfl⟩, .inr ⟨2, .head _, _, rfl, rfl, rfl⟩,  trivial⟩, trivial⟩, ⟨⟨.inr ⟨7, .tail _ (.head _), _, rfl, rfl, rfl⟩, .inr ⟨2, .head _, _, rfl, rfl, rfl⟩,  trivial⟩, trivial⟩, ⟨⟨.inr ⟨8, .tail _ (.head _), _, rfl, rfl, rfl⟩, .inr ⟨2, .head _, _, rfl, rfl, rfl⟩,  trivial⟩, trivial⟩, ⟨⟨.inr ⟨5, .tail _ (.head _), _, rfl, rfl, rfl⟩, .inr ⟨9, .tail _ (.tail _ (.head _)), _, rfl, rfl, rfl⟩, .inr ⟨2, .head _, _, rfl, rfl, rfl⟩,  trivial⟩, trivial⟩, ⟨⟨.inr ⟨3, .tail _ (.head _), _, rfl, rfl, rfl⟩, .inr ⟨10, .tail _ (.tail _ (.head _)), _, rfl, rfl, rfl⟩, .inr ⟨2, .head _, _, rfl, rfl, rfl⟩,  trivial⟩, trivial⟩, ⟨⟨.inr ⟨2, .head _, _, rfl, rfl, rfl⟩, .inr ⟨11, .tail _ (.head _), _, rfl, rfl, rfl⟩,  trivial⟩, trivial⟩, ⟨⟨.inr ⟨12, .head _, _, rfl, rfl, rfl⟩,  trivial⟩, trivial⟩, ⟨⟨.inl rfl, .inr ⟨13, .head _, _, rfl, rfl, rfl⟩,  trivial⟩, trivial⟩, ⟨⟨.inr ⟨14, .tail _ (.head _), _, rfl, rfl, rfl⟩, .inr ⟨13, .head _, _, rfl, rfl, rfl⟩,  trivial⟩, trivial⟩, ⟨⟨.inl rfl, .inr ⟨13, .head _, _, rfl, rfl, rfl⟩,  trivial⟩, trivial⟩, ⟨⟨.inr ⟨16, .tail _ (.head _), _, rfl, rfl, rfl⟩, .inr ⟨13, .head _, _, rfl, rfl, rfl⟩,  trivial⟩, trivial⟩, ⟨⟨.inr ⟨17, .tail _ (.head _), _, rfl, rfl, rfl⟩, .inr ⟨13, .head _, _, rfl, rfl, rfl⟩,  trivial⟩, trivial⟩, ⟨⟨.inr ⟨15, .tail _ (.head _), _, rfl, rfl, rfl⟩, .inr ⟨18, .tail _ (.tail _ (.head _)), _, rfl, rfl, rfl⟩, .inr ⟨13, .head _, _, rfl, rfl, rfl⟩,  trivial⟩, trivial⟩, ⟨⟨.inr ⟨13, .head _, _, rfl, rfl, rfl⟩, .inr ⟨19, .tail _ (.head _), _, rfl, rfl, rfl⟩,  trivial⟩, trivial⟩,  trivial⟩
              · exact ⟨⟨.inl rfl, .inl rfl, .inl rfl, .inl rfl, .inl rfl, .inr ⟨20, _, rfl, rfl, rfl⟩,  trivial⟩, ⟨.inl rfl, .inl rfl, .inl rfl, .inl rfl, .inl rfl,  trivial⟩⟩
              ·
                refine AL.fast 1 rfl ?_
                refine AL.nil ?_
                refine then_ok ?_
                refine AC.ret ?_
                refine retQ_mk (av' := outOf [(.c (cB false))]) (nb' := []) (retQ_ret ⟨[(8, (aB false))], [], 0⟩ [.tmp 8] [(.c (cB false))] (Weak.ren id (⟨by first | rfl | (simp only [AV.map, GV.map, CV.map, AB.map', id]; done) | (congr 3; omega) | (congr 4; omega),  trivial⟩) (trivial) rfl) rfl ⟨.tmp rfl, trivial⟩ trivial) ?_ ?_
                · exact congrArg aB (show (false) = true by (rcases clear_of hr7 with ⟨p1, p2, rfl, rfl⟩ | ⟨p1, p2, rfl, rfl⟩ <;> (exfalso; omega)))
                · rfl
end Go.Proofs.Ytgmcdlfmifijlaa.Dev
