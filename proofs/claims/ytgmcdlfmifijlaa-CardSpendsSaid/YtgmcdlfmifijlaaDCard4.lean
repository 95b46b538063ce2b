/- paylaw4: alive. -/
import Derived.Test.YtgmcdlfmifijlaaDCard3
set_option linter.unusedVariables false
set_option linter.unusedSimpArgs false
namespace Go.Proofs.Ytgmcdlfmifijlaa.Dev
open Go.RowKit

set_option maxRecDepth 100000 in
set_option maxHeartbeats 1000000 in
theorem c_card_alive  : Fn Try.prog 68 [] (aB true) [] := by
  refine Fn.mk' 35 [] Try.func68 rfl rfl rfl rfl ?_
  intro W0 T0
  refine AC.seq ?_
  refine AC.region ?_
  refine AL.fast 1 rfl ?_
  refine AL.nil ?_
  refine then_ok ?_
  refine AC.seq ?_
  refine AC.region ?_
  refine AL.val (Wanted.plain rfl) (g_build (ys := [(0, (.c (cI 10))), (1, (.c (cI 5))), (2, (.c (cI 1000)))]) rfl bld41 rfl ⟨⟨rfl, rfl⟩, ⟨rfl, rfl⟩, ⟨rfl, rfl⟩,  trivial⟩ rfl rfl) rfl rfl ?_
  refine AL.val (Wanted.plain rfl) (g_build (ys := [(0, (.c (cI 100))), (2, (.g [(cI 10), (cI 5), (cI 1000)]))]) rfl bld92 rfl ⟨⟨rfl, rfl⟩, ⟨rfl, rfl⟩,  trivial⟩ rfl rfl) rfl rfl ?_
  refine AL.new (n' := 1) (Wanted.plain rfl) (g_alloc 0 rfl zv92 rfl rfl rfl) rfl rfl rfl ?_
  refine AL.sto (h' := [(0, (.box 92 [(cI 100), (cI 0), (cI 10), (cI 5), (cI 1000), cN]))]) (Wanted.plain rfl) (g_storeB rfl rfl rfl rfl rfl sz92 rfl (Nat.le_of_ble_eq_true rfl) rfl) rfl rfl rfl rfl ?_
  refine AL.nil ?_
  refine then_ok ?_
  refine AC.seq ?_
  refine AC.region ?_
  refine AL.val (Wanted.plain rfl) (g_loadBs rfl rfl rfl Try.underlying92 rfl sz92 rfl rfl) rfl rfl ?_
  have hr0 : allowC (⟨100, 0, (⟨10, 5, 1000⟩ : Pace), []⟩ : Card) 70 3 = ((⟨100, 70, ⟨10, 5, 1000⟩, [⟨3, 70⟩]⟩ : Card), 0) := by decide
  refine AL.call (n' := 2) (h' := [(1, (.arr 44 2 (([⟨3, 70⟩]).map rUse))), (0, (.box 92 [(cI 100), (cI 0), (cI 10), (cI 5), (cI 1000), cN]))]) (Wanted.plain rfl) (g_call 1 (c_card_Allow (⟨100, 0, (⟨10, 5, 1000⟩ : Pace), []⟩ : Card) 70 3  (⟨100, 70, ⟨10, 5, 1000⟩, [⟨3, 70⟩]⟩ : Card) 0 hr0) en69 rfl rfl ⟨⟨_, rfl, .g ⟨.d _, .d _, .d _, .d _, .d _, .nil _,  trivial⟩⟩, ⟨_, rfl, .c (.d _)⟩, ⟨_, rfl, .c (.d _)⟩,  trivial⟩ ⟨⟨trivial, trivial, trivial, trivial, trivial, trivial,  trivial⟩, trivial,  trivial⟩ ⟨(fun _ _ _ _ => trivial),  trivial⟩ rfl rfl rfl rfl) rfl rfl rfl rfl rfl ?_
  refine AL.fast 1 rfl ?_
  refine AL.val (Wanted.plain rfl) (g_extract rfl rfl rfl) rfl rfl ?_
  refine AL.val (Wanted.plain rfl) (g_extract rfl rfl rfl) rfl rfl ?_
  refine AL.new (n' := 3) (Wanted.plain rfl) (g_alloc 2 rfl zv92 rfl rfl rfl) rfl rfl rfl ?_
  refine AL.sto (h' := [(2, (.box 92 [(cI 100), (cI 70), (cI 10), (cI 5), (cI 1000), (.s 1 0 2 1)])), (1, (.arr 44 2 (([⟨3, 70⟩]).map rUse))), (0, (.box 92 [(cI 100), (cI 0), (cI 10), (cI 5), (cI 1000), cN]))]) (Wanted.plain rfl) (g_storeB rfl rfl rfl rfl rfl sz92 rfl (Nat.le_of_ble_eq_true rfl) rfl) rfl rfl rfl rfl ?_
  refine AL.fast 1 rfl ?_
  refine AL.nil ?_
  refine then_ok ?_
  refine AC.seq ?_
  refine AC.region ?_
  refine AL.val (Wanted.plain rfl) (g_loadBs rfl rfl rfl Try.underlying92 rfl sz92 rfl rfl) rfl rfl ?_
  have hr1 : allowC (⟨100, 70, (⟨10, 5, 1000⟩ : Pace), [⟨3, 70⟩]⟩ : Card) 31 3 = ((⟨0, 0, ⟨0, 0, 0⟩, []⟩ : Card), 10) := by decide
  refine AL.call (n' := 4) (h' := [(3, (.arr 44 2 (([]).map rUse))), (2, (.box 92 [(cI 100), (cI 70), (cI 10), (cI 5), (cI 1000), (.s 1 0 2 1)])), (1, (.arr 44 2 (([⟨3, 70⟩]).map rUse))), (0, (.box 92 [(cI 100), (cI 0), (cI 10), (cI 5), (cI 1000), cN]))]) (Wanted.plain rfl) (g_callE 3 [1] (c_card_Allow (⟨100, 70, (⟨10, 5, 1000⟩ : Pace), [⟨3, 70⟩]⟩ : Card) 31 3  (⟨0, 0, ⟨0, 0, 0⟩, []⟩ : Card) 10 hr1) en69 rfl rfl ⟨⟨_, rfl, .g ⟨.d _, .d _, .d _, .d _, .d _, .s rfl (by decide) (by first | omega | (simp; done) | (simp; omega)),  trivial⟩⟩, ⟨_, rfl, .c (.d _)⟩, ⟨_, rfl, .c (.d _)⟩,  trivial⟩ ⟨⟨rfl, rfl, rfl, rfl, rfl, trivial,  trivial⟩, rfl,  trivial⟩ ⟨(isv_rUse _),  trivial⟩ rfl rfl rfl rfl) rfl rfl rfl rfl rfl ?_
  refine AL.fast 1 rfl ?_
  refine AL.val (Wanted.plain rfl) (g_extract rfl rfl rfl) rfl rfl ?_
  refine AL.val (Wanted.plain rfl) (g_extract rfl rfl rfl) rfl rfl ?_
  refine AL.new (n' := 5) (Wanted.plain rfl) (g_alloc 4 rfl zv92 rfl rfl rfl) rfl rfl rfl ?_
  refine AL.sto (h' := [(4, (.box 92 [(cI 0), (cI 0), (cI 0), (cI 0), (cI 0), (.s 3 0 2 0)])), (3, (.arr 44 2 (([]).map rUse))), (2, (.box 92 [(cI 100), (cI 70), (cI 10), (cI 5), (cI 1000), (.s 1 0 2 1)])), (1, (.arr 44 2 (([⟨3, 70⟩]).map rUse))), (0, (.box 92 [(cI 100), (cI 0), (cI 10), (cI 5), (cI 1000), cN]))]) (Wanted.plain rfl) (g_storeB rfl rfl rfl rfl rfl sz92 rfl (Nat.le_of_ble_eq_true rfl) rfl) rfl rfl rfl rfl ?_
  refine AL.fast 1 rfl ?_
  refine AL.nil ?_
  refine then_ok ?_
  refine AC.cutB 0 (((true && (decide ((100 - 70) = 30))) || false) || false) ?_ ?_
  ·
    refine AC.region ?_
    refine AL.fast 1 rfl ?_
    refine AL.val (Wanted.plain rfl) (g_binI rfl rfl rfl (show _ = some (Value.bool true) from rfl)) rfl rfl ?_
    refine AL.fast 1 rfl ?_
    refine AL.val (Wanted.yes rfl rfl rfl) (g_loadBs rfl rfl rfl Try.underlying92 rfl sz92 rfl rfl) rfl rfl ?_
    refine AL.call (n' := 5) (h' := [(4, (.box 92 [(cI 0), (cI 0), (cI 0), (cI 0), (cI 0), (.s 3 0 2 0)])), (3, (.arr 44 2 (([]).map rUse))), (2, (.box 92 [(cI 100), (cI 70), (cI 10), (cI 5), (cI 1000), (.s 1 0 2 1)])), (1, (.arr 44 2 (([⟨3, 70⟩]).map rUse))), (0, (.box 92 [(cI 100), (cI 0), (cI 10), (cI 5), (cI 1000), cN]))]) (Wanted.yes rfl rfl rfl) (g_callE 5 [1] (c_card_Free (⟨100, 70, (⟨10, 5, 1000⟩ : Pace), [⟨3, 70⟩]⟩ : Card) (by first | assumption | omega | (constructor <;> decide) | (have hz := rightC (by first | assumption | omega); omega)) ) en71 rfl rfl ⟨⟨_, rfl, .g ⟨.d _, .d _, .d _, .d _, .d _, .s rfl (by decide) (by first | omega | (simp; done) | (simp; omega)),  trivial⟩⟩,  trivial⟩ rfl trivial rfl rfl rfl rfl) rfl rfl rfl rfl rfl ?_
    refine AL.val (Wanted.yes rfl rfl rfl) (g_binI rfl rfl rfl rfl) rfl rfl ?_
    refine AL.fast 2 rfl ?_
    refine AL.dec (t := 25) rfl (fun hb1 => ?_) (fun hb1 => ?_)
    ·
      have hb1' := hb1; try simp only [sumB, Bool.not_eq_true', Bool.not_eq_false', Bool.or_eq_true, Bool.or_eq_false_iff, Bool.and_eq_true, Bool.and_eq_false_imp, decide_eq_true_eq, decide_eq_false_iff_not, Bool.not_not, Bool.not_true, Bool.not_false] at hb1'
      refine AL.val (Wanted.yes rfl rfl rfl) (g_fieldP rfl rfl Try.underlying92 rfl sz42 (by decide)) rfl rfl ?_
      refine AL.val (Wanted.yes rfl rfl rfl) (g_loadB rfl rfl rfl Try.underlying42 rfl rfl) rfl rfl ?_
      refine AL.val (Wanted.yes rfl rfl rfl) (g_lenS rfl rfl rfl rfl rfl Try.underlying42) rfl rfl ?_
      refine AL.val (Wanted.yes rfl rfl rfl) (g_binI rfl rfl rfl (show _ = some (Value.bool true) from rfl)) rfl rfl ?_
      refine AL.fast 3 rfl ?_
      refine AL.val (Wanted.yes rfl rfl rfl) (g_binI rfl rfl rfl (show _ = some (Value.bool true) from rfl)) rfl rfl ?_
      refine AL.fast 2 rfl ?_
      refine AL.nil ?_
      refine then_ok ?_
      exact Weak.popB 19 rfl rfl (by first | (simp [hb1]; done) | (simp_all; done) | (exfalso; simp_all; done) | (simp_all; omega)) rfl
    ·
      have hb1' := hb1; try simp only [sumB, Bool.not_eq_true', Bool.not_eq_false', Bool.or_eq_true, Bool.or_eq_false_iff, Bool.and_eq_true, Bool.and_eq_false_imp, decide_eq_true_eq, decide_eq_false_iff_not, Bool.not_not, Bool.not_true, Bool.not_false] at hb1'
      refine AL.fast 10 rfl ?_
      refine AL.nil ?_
      refine then_ok ?_
      exact Weak.popB 19 rfl rfl (by first | (simp [hb1]; done) | (simp_all; done) | (exfalso; simp_all; done) | (simp_all; omega)) rfl
  ·
    refine AC.ret ?_
    refine retQ_mk (av' := outOf [(.c (cB (((true && (decide ((100 - 70) = 30))) || false) || false)))]) (nb' := []) (retQ_ret ⟨[(0, (aB (((true && (decide ((100 - 70) = 30))) || false) || false)))], [], 0⟩ [.tmp 0] [(.c (cB (((true && (decide ((100 - 70) = 30))) || false) || false)))] (Weak.ren id (⟨by first | rfl | (simp only [AV.map, GV.map, CV.map, AB.map', id]; done) | (congr 3; omega) | (congr 4; omega) | (simp only [List.length_append, List.length_cons, List.length_nil, List.length_set]; rfl),  trivial⟩) (trivial) rfl) rfl ⟨.tmp rfl, trivial⟩ trivial) ?_ ?_
    · first | rfl | (simp [outOf, aC]; done) | (simp [outOf, aC]; omega)
    · rfl
end Go.Proofs.Ytgmcdlfmifijlaa.Dev
