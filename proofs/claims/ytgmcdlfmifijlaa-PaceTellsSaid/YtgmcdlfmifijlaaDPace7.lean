/- paylaw3: alive. -/
import Derived.Test.YtgmcdlfmifijlaaDPace6
set_option linter.unusedVariables false
set_option linter.unusedSimpArgs false
namespace Go.Proofs.Ytgmcdlfmifijlaa.Dev
open Go.RowKit

set_option maxRecDepth 100000 in
set_option maxHeartbeats 1000000 in
theorem c_pace_alive  : Fn Try.prog 47 [] (aB true) [] := by
  refine Fn.mk' 34 [] Try.func47 rfl rfl rfl rfl ?_
  intro W0 T0
  refine AC.seq ?_
  refine AC.region ?_
  refine AL.fast 1 rfl ?_
  refine AL.nil ?_
  refine then_ok ?_
  refine AC.seq ?_
  refine AC.region ?_
  refine AL.val (Wanted.plain rfl) (g_build (ys := [(0, (.c (cI 10))), (1, (.c (cI 2))), (2, (.c (cI 100)))]) rfl bld41 rfl ⟨⟨rfl, rfl⟩, ⟨rfl, rfl⟩, ⟨rfl, rfl⟩,  trivial⟩ rfl rfl) rfl rfl ?_
  refine AL.new (n' := 1) (Wanted.plain rfl) (g_alloc 0 rfl zv41 rfl rfl rfl) rfl rfl rfl ?_
  refine AL.sto (h' := [(0, (.box 41 [(cI 10), (cI 2), (cI 100)]))]) (Wanted.plain rfl) (g_storeB rfl rfl rfl rfl rfl sz41 rfl (Nat.le_of_ble_eq_true rfl) rfl) rfl rfl rfl rfl ?_
  refine AL.nil ?_
  refine then_ok ?_
  refine AC.seq ?_
  refine AC.region ?_
  refine AL.val (Wanted.plain rfl) (g_loadBs rfl rfl rfl Try.underlying41 rfl sz41 rfl rfl) rfl rfl ?_
  refine AL.val (Wanted.plain rfl) (g_build (ys := [(0, (.c (cI 1))), (1, (.c (cI 60)))]) rfl bld44 rfl ⟨⟨rfl, rfl⟩, ⟨rfl, rfl⟩,  trivial⟩ rfl rfl) rfl rfl ?_
  refine AL.val (Wanted.plain rfl) (g_build (ys := [(0, (.c (cI 5))), (1, (.c (cI 30)))]) rfl bld44 rfl ⟨⟨rfl, rfl⟩, ⟨rfl, rfl⟩,  trivial⟩ rfl rfl) rfl rfl ?_
  refine AL.new (n' := 2) (Wanted.plain rfl) (g_lit (ys := [(0, (.g [(cI 1), (cI 60)])), (1, (.g [(cI 5), (cI 30)]))]) (rows := ([(⟨1, 60⟩ : Use), (⟨5, 30⟩ : Use)]).map rUse) 1 sl42 rfl (by decide) ⟨⟨rfl, rfl⟩, ⟨rfl, rfl⟩,  trivial⟩ rfl rfl rfl rfl) rfl rfl rfl ?_
  refine AL.val (Wanted.plain rfl) (g_build (ys := [(0, (.c (cI 11))), (1, (.c (cI 70)))]) rfl bld44 rfl ⟨⟨rfl, rfl⟩, ⟨rfl, rfl⟩,  trivial⟩ rfl rfl) rfl rfl ?_
  have hr0 : addUse (⟨10, 2, 100⟩ : Pace) ([(⟨1, 60⟩ : Use), (⟨5, 30⟩ : Use)]) (⟨11, 70⟩ : Use) = ([⟨5, 30⟩, ⟨11, 70⟩], 0) := by decide
  refine AL.call (n' := 3) (h' := [(2, (.arr 44 2 (([⟨5, 30⟩, ⟨11, 70⟩]).map rUse))), (1, (.arr 44 2 (([(⟨1, 60⟩ : Use), (⟨5, 30⟩ : Use)]).map rUse))), (0, (.box 41 [(cI 10), (cI 2), (cI 100)]))]) (Wanted.plain rfl) (g_callE 2 [1] (c_pace_Add (⟨10, 2, 100⟩ : Pace) ([(⟨1, 60⟩ : Use), (⟨5, 30⟩ : Use)]) (⟨11, 70⟩ : Use)  ([⟨5, 30⟩, ⟨11, 70⟩]) 0 hr0) en45 rfl rfl ⟨⟨_, rfl, .g ⟨.d _, .d _, .d _,  trivial⟩⟩, ⟨_, rfl, .c (.s rfl (by decide) (by first | omega | (simp; done) | (simp; omega)))⟩, ⟨_, rfl, .g ⟨.d _, .d _,  trivial⟩⟩,  trivial⟩ ⟨trivial, rfl,  trivial⟩ ⟨(isv_rUse _),  trivial⟩ rfl rfl rfl rfl) rfl rfl rfl rfl rfl ?_
  refine AL.fast 1 rfl ?_
  refine AL.val (Wanted.plain rfl) (g_extract rfl rfl rfl) rfl rfl ?_
  refine AL.val (Wanted.plain rfl) (g_extract rfl rfl rfl) rfl rfl ?_
  refine AL.fast 2 rfl ?_
  refine AL.nil ?_
  refine then_ok ?_
  refine AC.seq ?_
  refine AC.region ?_
  refine AL.val (Wanted.plain rfl) (g_loadBs rfl rfl rfl Try.underlying41 rfl sz41 rfl rfl) rfl rfl ?_
  refine AL.fast 1 rfl ?_
  refine AL.val (Wanted.plain rfl) (g_build (ys := [(0, (.c (cI 12))), (1, (.c (cI 1)))]) rfl bld44 rfl ⟨⟨rfl, rfl⟩, ⟨rfl, rfl⟩,  trivial⟩ rfl rfl) rfl rfl ?_
  have hr1 : addUse (⟨10, 2, 100⟩ : Pace) ([⟨5, 30⟩, ⟨11, 70⟩]) (⟨12, 1⟩ : Use) = ([], 11) := by decide
  refine AL.call (n' := 4) (h' := [(3, (.arr 44 2 (([]).map rUse))), (2, (.arr 44 2 (([⟨5, 30⟩, ⟨11, 70⟩]).map rUse))), (1, (.arr 44 2 (([(⟨1, 60⟩ : Use), (⟨5, 30⟩ : Use)]).map rUse))), (0, (.box 41 [(cI 10), (cI 2), (cI 100)]))]) (Wanted.plain rfl) (g_callE 3 [2] (c_pace_Add (⟨10, 2, 100⟩ : Pace) ([⟨5, 30⟩, ⟨11, 70⟩]) (⟨12, 1⟩ : Use)  ([]) 11 hr1) en45 rfl rfl ⟨⟨_, rfl, .g ⟨.d _, .d _, .d _,  trivial⟩⟩, ⟨_, rfl, .c (.s rfl (by decide) (by first | omega | (simp; done) | (simp; omega)))⟩, ⟨_, rfl, .g ⟨.d _, .d _,  trivial⟩⟩,  trivial⟩ ⟨trivial, rfl,  trivial⟩ ⟨(isv_rUse _),  trivial⟩ rfl rfl rfl rfl) rfl rfl rfl rfl rfl ?_
  refine AL.fast 1 rfl ?_
  refine AL.val (Wanted.plain rfl) (g_extract rfl rfl rfl) rfl rfl ?_
  refine AL.val (Wanted.plain rfl) (g_extract rfl rfl rfl) rfl rfl ?_
  refine AL.fast 2 rfl ?_
  refine AL.nil ?_
  refine then_ok ?_
  refine AC.cutB 0 ((true || false) || false) ?_ ?_
  ·
    refine AC.region ?_
    refine AL.fast 1 rfl ?_
    refine AL.val (Wanted.plain rfl) (g_binI rfl rfl rfl (show _ = some (Value.bool true) from rfl)) rfl rfl ?_
    refine AL.fast 2 rfl ?_
    refine AL.val (Wanted.yes rfl rfl rfl) (g_lenS rfl rfl rfl rfl rfl Try.underlying42) rfl rfl ?_
    refine AL.val (Wanted.yes rfl rfl rfl) (g_binI rfl rfl rfl (show _ = some (Value.bool true) from rfl)) rfl rfl ?_
    refine AL.fast 3 rfl ?_
    refine AL.val (Wanted.yes rfl rfl rfl) (g_binI rfl rfl rfl (show _ = some (Value.bool true) from rfl)) rfl rfl ?_
    refine AL.fast 2 rfl ?_
    refine AL.nil ?_
    refine then_ok ?_
    exact Weak.popB 12 rfl rfl (by first | (simp []; done) | (simp_all; done) | (exfalso; simp_all; done) | (simp_all; omega)) rfl
  ·
    refine AC.ret ?_
    refine retQ_mk (av' := outOf [(.c (cB ((true || false) || false)))]) (nb' := []) (retQ_ret ⟨[(0, (aB ((true || false) || false)))], [], 0⟩ [.tmp 0] [(.c (cB ((true || false) || false)))] (Weak.ren id (⟨by first | rfl | (simp only [AV.map, GV.map, CV.map, AB.map', id]; done) | (congr 3; omega) | (congr 4; omega) | (simp only [List.length_append, List.length_cons, List.length_nil, List.length_set]; rfl),  trivial⟩) (trivial) rfl) rfl ⟨.tmp rfl, trivial⟩ trivial) ?_ ?_
    · first | rfl | (simp [outOf, aC]; done) | (simp [outOf, aC]; omega)
    · rfl
end Go.Proofs.Ytgmcdlfmifijlaa.Dev
