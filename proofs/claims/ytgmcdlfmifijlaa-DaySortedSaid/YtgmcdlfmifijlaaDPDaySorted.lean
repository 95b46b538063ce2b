/- paylaw7.DaySorted returns true whatever its input, and the input reads as it did. No conditions. -/
import Derived.Test.YtgmcdlfmifijlaaRows
import Derived.WalkKit
import Derived.ProofKit
import Derived.OpenShut
import Derived.ShutString
import Derived.ChangeOld
import Derived.Below
import Derived.Test.YtgmcdlfmifijlaaFacts
import Derived.Test.YtgmcdlfmifijlaaDOps
import Derived.Test.YtgmcdlfmifijlaaDDay11
import Derived.Test.YtgmcdlfmifijlaaDLen
set_option linter.unusedVariables false
set_option linter.unusedSimpArgs false
namespace Go.Proofs.Ytgmcdlfmifijlaa.daySorted
open Go.ChangeShapes Go.WideShapes Go.ChangeAt Go.RowKit Go.Proofs.Ytgmcdlfmifijlaa Go.Proofs.Ytgmcdlfmifijlaa.Dev Go.Proofs
set_option linter.unusedVariables false

theorem own : ownKnob Try.prog.godebug = none := by kernel_rfl
theorem laidOut : laidOutB Try.prog = true := by kernel_rfl

set_option maxRecDepth 100000 in
theorem lifted (os : Os) (started : os.Started) (H : Type) (enc : TypeId × Value → H) :
    ReturnsInHanded {} Try.checked os 27 .any (Rows.daySortedSpec.pre6 enc Try.prog Try.f27 Rows.daySortedRow.domain false) (Rows.daySortedSpec.post enc Try.prog Try.f27 false true false false) := by
  refine returnsInHanded_of_change_sized (C := Try.checked) own started (by kernel_rfl) Try.func27
    (ChangeSpec.witness6 (enc := enc) (C := Try.checked) false ⟨#[], #[.slice none 0 0, .int .i64 0], []⟩ 8 (by kernel_rfl) (by kernel_rfl) (by kernel_rfl) (by kernel_rfl)) ?_
  intro W base args ds gs before hval0 hW hcnd hsz _
  have hval : ∀ (j : Nat) t v, Try.f27.params[j]? = some t → args[j]? = some v → Value.okWide Try.prog W .any base t v := hval0
  have hW' := hW
  obtain ⟨p, q, hA0, hV, rfl, hfz, hnd⟩ := hW
  have hA : DataW.TrodAll enc Try.prog W 0 (fun _ => true) true Try.f27.params.toList args.toList ds p := hA0
  rw [Try.params27] at hA hval
  obtain ⟨v0, vs0, d0, ds0, p0, pq0, hargs, rfl, rfl, h0, r0⟩ := trodAll_cons hA
  obtain ⟨v1, vs1, d1, ds1, p1, pq1, rfl, rfl, rfl, h1, r1⟩ := trodAll_cons r0
  obtain ⟨rfl, rfl, rfl⟩ := trodAll_nil r1
  obtain rfl : args = #[v0, v1] := by cases args; simp_all
  obtain ⟨rfl, rfl⟩ := trodVars_none hV
  have k0 := h0
  have lt0 : ∀ x ∈ p0, x.block < W.heap.size := by obtain ⟨m, hm⟩ := k0; exact DataW.trod_lt m _ _ _ hm
  obtain ⟨a0, g0, q0⟩ := param_slice Try.underlying114 (opens_slice Try.underlying114 (by kernel_rfl) (by decide) opens_Record) (hval 0 114 v0 rfl rfl) h0
  obtain ⟨a1, rfl, rfl, rfl, w1⟩ := open_int Try.underlying3 (hval 1 3 v1 rfl rfl) h1
  have q1 : InI a1 := bounds_i64 w1
  have z0 := reach47 (param_len (ts := Try.f27.params.toList ++ (Rows.daySortedSpec).plain.varTypes Try.prog) 0 Try.underlying114 hsz (by rw [Try.params27]; rfl) rfl (hval 0 114 v0 rfl rfl) k0 g0) (show Try.prog.bytesOf 127 = 32 by kernel_rfl)
  clear hA0 hval0
  refine (law_of (c_DaySorted a0 a1 z0) (args := #[v0, .int .i64 a1]) ⟨g0, DRel.v _ rfl, trivial⟩).mono fun e W' ⟨he, bel⟩ => ?_
  subst he
  exact ⟨_, rfl, _, _, _, [], _, [], hW', trodAll_mk1 (shut_bool Try.underlying4 _), (trodAll_cons_mk (Below.trod laidOut (by kernel_rfl) (of_decide_eq_true (by kernel_rfl)) k0 bel lt0) (trodAll_cons_mk (shut_int Try.underlying3 w1) trodAll_mk0)), rfl, bel.frame _, fun h => by cases h⟩

theorem f_named : Try.pinned.checked.prog.funcNamed Rows.daySortedRow.func = some 27 := by kernel_rfl
theorem f_closed : joinedFacts Try.prog 27 Try.f27 Rows.daySortedSpec Rows.daySortedRow = true := by
  unfold joinedFacts
  rw [sign_may, sign_lifts, sign_make]
  kernel_rfl
theorem f_inst : Try.f27.isInstance Try.pinned.checked.prog Rows.daySortedRow.origin Rows.daySortedRow.targs := of_decide_eq_true (by kernel_rfl)
theorem f_wrap : Try.f27.isWrapper Try.pinned.checked.prog Rows.daySortedRow.wrapper Rows.daySortedRow.mainSum := by unfold Func.isWrapper; rw [if_neg (of_decide_eq_false (by kernel_rfl))]; exact ⟨rfl, rfl⟩
theorem over : Rows.daySortedRow.holds Try.pinned (OpenSpec.ofChange Rows.daySortedSpec) :=
  OpenClaim.holds_of_wide 27 Try.f27 rfl rfl rfl rfl rfl rfl rfl ⟨rfl, rfl, rfl, rfl, rfl⟩ rfl rfl rfl rfl rfl f_named Try.func27 f_closed f_inst f_wrap (fun os started H enc _ => lifted os started H enc)

theorem proved : Rows.DaySortedSaid := over
#print axioms proved
end Go.Proofs.Ytgmcdlfmifijlaa.daySorted
