/- paylaw5: alive. -/
import Derived.Test.YtgmcdlfmifijlaaDPost3
set_option linter.unusedVariables false
set_option linter.unusedSimpArgs false
namespace Go.Proofs.Ytgmcdlfmifijlaa.Dev
open Go.RowKit

set_option maxRecDepth 100000 in
set_option maxHeartbeats 1000000 in
theorem c_post_alive  : Fn Try.prog 56 [] (aB true) [] := by
  refine Fn.mk' 54 [] Try.func56 rfl rfl rfl rfl ?_
  intro W0 T0
  refine AC.seq ?_
  refine AC.region ?_
  refine AL.fast 1 rfl ?_
  refine AL.nil ?_
  refine then_ok ?_
  refine AC.seq ?_
  refine AC.region ?_
  refine AL.val (Wanted.plain rfl) (g_build (ys := []) rfl bld58 rfl trivial rfl rfl) rfl rfl ?_
  refine AL.val (Wanted.plain rfl) (g_build (ys := [(1, (.c (cI 1))), (2, (.c (cI 3))), (3, (.c (cI 50)))]) rfl bld60 rfl ⟨⟨rfl, rfl⟩, ⟨rfl, rfl⟩, ⟨rfl, rfl⟩,  trivial⟩ rfl rfl) rfl rfl ?_
  have hr0 : putS (⟨0, []⟩ : Sender) (⟨0, 1, 3, 50⟩ : Transfer) = ((⟨1, [⟨1, 1, 3, 50⟩]⟩ : Sender), 0) := by decide
  refine AL.call (n' := 1) (h' := [(0, (.arr 60 4 (([⟨1, 1, 3, 50⟩]).map rTransfer)))]) (Wanted.plain rfl) (g_call 0 (c_post_Put (⟨0, []⟩ : Sender) (⟨0, 1, 3, 50⟩ : Transfer) (by first | assumption | exact inI_out (by assumption) (by omega) | exact inI_back (by assumption) (by assumption) | (simp [InI]; done)) (⟨1, [⟨1, 1, 3, 50⟩]⟩ : Sender) 0 hr0) en50 rfl rfl ⟨⟨_, rfl, .g ⟨.d _, .nil _,  trivial⟩⟩, ⟨_, rfl, .g ⟨.d _, .d _, .d _, .d _,  trivial⟩⟩,  trivial⟩ ⟨⟨trivial, trivial,  trivial⟩, trivial,  trivial⟩ ⟨(fun _ _ _ _ => trivial),  trivial⟩ rfl rfl rfl rfl) rfl rfl rfl rfl rfl ?_
  refine AL.fast 1 rfl ?_
  refine AL.val (Wanted.plain rfl) (g_extract rfl rfl rfl) rfl rfl ?_
  refine AL.val (Wanted.plain rfl) (g_extract rfl rfl rfl) rfl rfl ?_
  refine AL.new (n' := 2) (Wanted.plain rfl) (g_alloc 1 rfl zv58 rfl rfl rfl) rfl rfl rfl ?_
  refine AL.sto (h' := [(1, (.box 58 [(cI 1), (.s 0 0 4 1)])), (0, (.arr 60 4 (([⟨1, 1, 3, 50⟩]).map rTransfer)))]) (Wanted.plain rfl) (g_storeB rfl rfl rfl rfl rfl sz58 rfl (Nat.le_of_ble_eq_true rfl) rfl) rfl rfl rfl rfl ?_
  refine AL.fast 1 rfl ?_
  refine AL.nil ?_
  refine then_ok ?_
  refine AC.seq ?_
  refine AC.seq ?_
  refine AC.region ?_
  refine AL.val (Wanted.plain rfl) (g_fieldP rfl rfl Try.underlying58 rfl sz56 (by decide)) rfl rfl ?_
  refine AL.val (Wanted.plain rfl) (g_loadB rfl rfl rfl Try.underlying56 rfl rfl) rfl rfl ?_
  refine AL.val (Wanted.plain rfl) (g_lenS rfl rfl rfl rfl rfl Try.underlying56) rfl rfl ?_
  refine AL.val (Wanted.plain rfl) (g_binI rfl rfl rfl (show _ = some (Value.bool false) from rfl)) rfl rfl ?_
  refine AL.nil ?_
  refine then_ok ?_
  refine AC.cond rfl (fun hno => by cases hno) (fun _ => ?_)
  refine AC.skip ?_
  refine then_ok ?_
  refine AC.seq ?_
  refine AC.region ?_
  refine AL.val (Wanted.plain rfl) (g_fieldP rfl rfl Try.underlying58 rfl sz56 (by decide)) rfl rfl ?_
  refine AL.val (Wanted.plain rfl) (g_loadB rfl rfl rfl Try.underlying56 rfl rfl) rfl rfl ?_
  refine AL.val (Wanted.plain rfl) (g_indexP0 (i := 0) rfl rfl rfl Try.underlying56 sz60 (by first | omega | (simp; done) | (simp; omega)) (by first | omega | (simp; done) | (simp; omega))) rfl rfl ?_
  refine AL.val (Wanted.plain rfl) (g_loadAs rfl rfl rfl Try.underlying60 rfl sz60 (getmap (show ([⟨1, 1, 3, 50⟩] : List Transfer)[0]? = some (⟨1, 1, 3, 50⟩ : Transfer) from rfl)) rfl) rfl rfl ?_
  have hr1 : takeS 0 (⟨1, 1, 3, 50⟩ : Transfer) = (1, true) := by decide
  refine AL.call (n' := 2) (h' := [(1, (.box 58 [(cI 1), (.s 0 0 4 1)])), (0, (.arr 60 4 (([⟨1, 1, 3, 50⟩]).map rTransfer)))]) (Wanted.plain rfl) (g_call 2 (c_post_Take 0 (⟨1, 1, 3, 50⟩ : Transfer)  1 true hr1) en55 rfl rfl ⟨⟨_, rfl, .c (.d _)⟩, ⟨_, rfl, .g ⟨.d _, .d _, .d _, .d _,  trivial⟩⟩,  trivial⟩ ⟨trivial, trivial,  trivial⟩ trivial rfl rfl rfl rfl) rfl rfl rfl rfl rfl ?_
  refine AL.fast 1 rfl ?_
  refine AL.val (Wanted.plain rfl) (g_extract rfl rfl rfl) rfl rfl ?_
  refine AL.val (Wanted.plain rfl) (g_extract rfl rfl rfl) rfl rfl ?_
  refine AL.fast 2 rfl ?_
  refine AL.nil ?_
  refine then_ok ?_
  refine AC.seq ?_
  refine AC.region ?_
  refine AL.val (Wanted.plain rfl) (g_loadBs rfl rfl rfl Try.underlying58 rfl sz58 rfl rfl) rfl rfl ?_
  have hr2 : backS (⟨1, [⟨1, 1, 3, 50⟩]⟩ : Sender) 1 = ((⟨1, []⟩ : Sender), 0) := by decide
  refine AL.call (n' := 3) (h' := [(2, (.arr 60 4 (([]).map rTransfer))), (1, (.box 58 [(cI 1), (.s 0 0 4 1)])), (0, (.arr 60 4 (([⟨1, 1, 3, 50⟩]).map rTransfer)))]) (Wanted.plain rfl) (g_callE 2 [0] (c_post_Back (⟨1, [⟨1, 1, 3, 50⟩]⟩ : Sender) 1 (by first | assumption | exact inI_out (by assumption) (by omega) | exact inI_back (by assumption) (by assumption) | (simp [InI]; done)) (⟨1, []⟩ : Sender) 0 hr2) en53 rfl rfl ⟨⟨_, rfl, .g ⟨.d _, .s rfl (by decide) (by first | omega | (simp; done) | (simp; omega)),  trivial⟩⟩, ⟨_, rfl, .c (.d _)⟩,  trivial⟩ ⟨⟨rfl, trivial,  trivial⟩, rfl,  trivial⟩ ⟨(isv_rTransfer _),  trivial⟩ rfl rfl rfl rfl) rfl rfl rfl rfl rfl ?_
  refine AL.fast 1 rfl ?_
  refine AL.val (Wanted.plain rfl) (g_extract rfl rfl rfl) rfl rfl ?_
  refine AL.val (Wanted.plain rfl) (g_extract rfl rfl rfl) rfl rfl ?_
  refine AL.new (n' := 4) (Wanted.plain rfl) (g_alloc 3 rfl zv58 rfl rfl rfl) rfl rfl rfl ?_
  refine AL.sto (h' := [(3, (.box 58 [(cI 1), (.s 2 0 4 0)])), (2, (.arr 60 4 (([]).map rTransfer))), (1, (.box 58 [(cI 1), (.s 0 0 4 1)])), (0, (.arr 60 4 (([⟨1, 1, 3, 50⟩]).map rTransfer)))]) (Wanted.plain rfl) (g_storeB rfl rfl rfl rfl rfl sz58 rfl (Nat.le_of_ble_eq_true rfl) rfl) rfl rfl rfl rfl ?_
  refine AL.fast 1 rfl ?_
  refine AL.nil ?_
  refine then_ok ?_
  refine AC.cutB 0 (((((true || false) || false) || false) || false) || false) ?_ ?_
  ·
    refine AC.region ?_
    refine AL.fast 1 rfl ?_
    refine AL.val (Wanted.plain rfl) (g_binI rfl rfl rfl (show _ = some (Value.bool true) from rfl)) rfl rfl ?_
    refine AL.fast 1 rfl ?_
    refine AL.val (Wanted.yes rfl rfl rfl) (g_fieldP rfl rfl Try.underlying58 rfl sz3 (by decide)) rfl rfl ?_
    refine AL.val (Wanted.yes rfl rfl rfl) (g_loadB rfl rfl rfl Try.underlying3 rfl rfl) rfl rfl ?_
    refine AL.val (Wanted.yes rfl rfl rfl) (g_binI rfl rfl rfl (show _ = some (Value.bool true) from rfl)) rfl rfl ?_
    refine AL.fast 6 rfl ?_
    refine AL.val (Wanted.yes rfl rfl rfl) (g_binI rfl rfl rfl (show _ = some (Value.bool true) from rfl)) rfl rfl ?_
    refine AL.fast 3 rfl ?_
    refine AL.val (Wanted.yes rfl rfl rfl) (g_binI rfl rfl rfl (show _ = some (Value.bool true) from rfl)) rfl rfl ?_
    refine AL.fast 2 rfl ?_
    refine AL.val (Wanted.yes rfl rfl rfl) (g_fieldP rfl rfl Try.underlying58 rfl sz56 (by decide)) rfl rfl ?_
    refine AL.val (Wanted.yes rfl rfl rfl) (g_loadB rfl rfl rfl Try.underlying56 rfl rfl) rfl rfl ?_
    refine AL.val (Wanted.yes rfl rfl rfl) (g_lenS rfl rfl rfl rfl rfl Try.underlying56) rfl rfl ?_
    refine AL.val (Wanted.yes rfl rfl rfl) (g_binI rfl rfl rfl (show _ = some (Value.bool true) from rfl)) rfl rfl ?_
    refine AL.fast 2 rfl ?_
    refine AL.nil ?_
    refine then_ok ?_
    exact Weak.popB 25 rfl rfl (by first | (simp []; done) | (simp_all; done) | (exfalso; simp_all; done) | (simp_all; omega)) rfl
  ·
    refine AC.ret ?_
    refine retQ_mk (av' := outOf [(.c (cB (((((true || false) || false) || false) || false) || false)))]) (nb' := []) (retQ_ret ⟨[(0, (aB (((((true || false) || false) || false) || false) || false)))], [], 0⟩ [.tmp 0] [(.c (cB (((((true || false) || false) || false) || false) || false)))] (Weak.ren id (⟨by first | rfl | (simp only [AV.map, GV.map, CV.map, AB.map', id]; done) | (congr 3; omega) | (congr 4; omega) | (simp only [List.length_append, List.length_cons, List.length_nil, List.length_set]; rfl),  trivial⟩) (trivial) rfl) rfl ⟨.tmp rfl, trivial⟩ trivial) ?_ ?_
    · first | rfl | (simp [outOf, aC]; done) | (simp [outOf, aC]; omega)
    · rfl
end Go.Proofs.Ytgmcdlfmifijlaa.Dev
