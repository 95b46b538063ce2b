/- paylaw7.DayAll returns true whatever its input, and the input reads as it did. No conditions. -/
import Derived.Test.YtgmcdlfmifijlaaRows
import Derived.WalkKit
import Derived.ProofKit
import Derived.OpenShut
import Derived.ShutString
import Derived.ChangeOld
import Derived.Below
import Derived.Test.YtgmcdlfmifijlaaFacts
import Derived.Test.YtgmcdlfmifijlaaDOps
import Derived.Test.YtgmcdlfmifijlaaDDay12
set_option linter.unusedVariables false
set_option linter.unusedSimpArgs false
namespace Go.Proofs.Ytgmcdlfmifijlaa.dayAll
open Go.ChangeShapes Go.WideShapes Go.ChangeAt Go.RowKit Go.Proofs.Ytgmcdlfmifijlaa Go.Proofs.Ytgmcdlfmifijlaa.Dev Go.Proofs
set_option linter.unusedVariables false

theorem own : ownKnob Try.prog.godebug = none := by kernel_rfl
theorem laidOut : laidOutB Try.prog = true := by kernel_rfl

set_option maxRecDepth 100000 in
theorem lifted (os : Os) (started : os.Started) (H : Type) (enc : TypeId × Value → H) :
    ReturnsInHanded {} Try.checked os 28 .any (Rows.dayAllSpec.pre6 enc Try.prog Try.f28 Rows.dayAllRow.domain false) (Rows.dayAllSpec.post enc Try.prog Try.f28 false true false false) := by
  refine returnsInHanded_of_change (C := Try.checked) own started (by kernel_rfl) Try.func28
    (ChangeSpec.witness6 (enc := enc) (C := Try.checked) false ⟨#[], #[.slice none 0 0], []⟩ 8 (by kernel_rfl) (by kernel_rfl) (by kernel_rfl) (by kernel_rfl)) ?_
  intro W base args ds gs before hval0 hW hcnd _
  have hval : ∀ (j : Nat) t v, Try.f28.params[j]? = some t → args[j]? = some v → Value.okWide Try.prog W .any base t v := hval0
  have hW' := hW
  obtain ⟨p, q, hA0, hV, rfl, hfz, hnd⟩ := hW
  have hA : DataW.TrodAll enc Try.prog W 0 (fun _ => true) true Try.f28.params.toList args.toList ds p := hA0
  rw [Try.params28] at hA hval
  obtain ⟨v0, vs0, d0, ds0, p0, pq0, hargs, rfl, rfl, h0, r0⟩ := trodAll_cons hA
  obtain ⟨rfl, rfl, rfl⟩ := trodAll_nil r0
  obtain rfl : args = #[v0] := by cases args; simp_all
  obtain ⟨rfl, rfl⟩ := trodVars_none hV
  have k0 := h0
  have lt0 : ∀ x ∈ p0, x.block < W.heap.size := by obtain ⟨m, hm⟩ := k0; exact DataW.trod_lt m _ _ _ hm
  obtain ⟨a0, g0, q0⟩ := param_slice Try.underlying114 (opens_slice Try.underlying114 (by kernel_rfl) (by decide) opens_Record) (hval 0 114 v0 rfl rfl) h0
  clear hA0 hval0
  refine (law_of (c_DayAll a0 q0.2) (args := #[v0]) ⟨g0, trivial⟩).mono fun e W' ⟨he, bel⟩ => ?_
  subst he
  exact ⟨_, rfl, _, _, _, [], _, [], hW', trodAll_mk1 (shut_bool Try.underlying4 _), (trodAll_cons_mk (Below.trod laidOut (by kernel_rfl) (of_decide_eq_true (by kernel_rfl)) k0 bel lt0) trodAll_mk0), rfl, bel.frame _, fun h => by cases h⟩

theorem f_named : Try.pinned.checked.prog.funcNamed Rows.dayAllRow.func = some 28 := by kernel_rfl
theorem f_closed : joinedFacts Try.prog 28 Try.f28 Rows.dayAllSpec Rows.dayAllRow = true := by
  unfold joinedFacts
  rw [sign_may, sign_lifts, sign_make]
  kernel_rfl
theorem f_inst : Try.f28.isInstance Try.pinned.checked.prog Rows.dayAllRow.origin Rows.dayAllRow.targs := of_decide_eq_true (by kernel_rfl)
theorem f_wrap : Try.f28.isWrapper Try.pinned.checked.prog Rows.dayAllRow.wrapper Rows.dayAllRow.mainSum := by unfold Func.isWrapper; rw [if_neg (of_decide_eq_false (by kernel_rfl))]; exact ⟨rfl, rfl⟩
theorem over : Rows.dayAllRow.holds Try.pinned (OpenSpec.ofChange Rows.dayAllSpec) :=
  OpenClaim.holds_of_wide 28 Try.f28 rfl rfl rfl rfl rfl rfl rfl ⟨rfl, rfl, rfl, rfl, rfl⟩ rfl rfl rfl rfl rfl f_named Try.func28 f_closed f_inst f_wrap (fun os started H enc _ => lifted os started H enc)

theorem proved : Rows.DayAllSaid := over
#print axioms proved
end Go.Proofs.Ytgmcdlfmifijlaa.dayAll
