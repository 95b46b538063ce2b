/- The symbolic heap: halves; no condition. -/
import Derived.Test.YtgmcdlfmifijlaaDSh18
set_option linter.unusedVariables false
set_option linter.unusedSimpArgs false
namespace Go.Proofs.Ytgmcdlfmifijlaa.Dev
open Go.RowKit
theorem conv_u64 {a : Int} (h : 0 ≤ a ∧ a ≤ 18446744073709551615) : Value.int .u64 (IntKind.u64.wrap a) = .int .u64 a := by
  have : IntKind.u64.wrap a = a := by simp [IntKind.wrap, IntKind.bits, IntKind.signed]; omega
  rw [this]
section
variable {P : Program} {st : AState} {o : Oper}
theorem g_shr1 {xt yt : TypeId} {x y : Operand} {a r : Int} (ho : o.op = .binOp .shr xt x y yt) (hx : ev st x (.v (.c (.d (.v (.int .u64 a)))))) (hy : ev st y (.v (.c (.d (.v (.int .u64 1)))))) (hr : a / 2 = r) : GOp P o st (.v (.c (.d (.v (.int .u64 r))))) [] [] :=
  GOp.val fun σ T ac w C => by
    have h1 := DRel.inv (ev_rel C hx)
    have h2 := DRel.inv (ev_rel C hy)
    subst hr
    refine ⟨.int .u64 (a / 2), ?_, DRel.v _ rfl⟩
    unfold execOp
    have h3 := shift_shr .u64 .u64 a 1 (by decide) (by decide)
    simp [ho, h1, h2, binOp, eqGuard, h3]
end
end Go.Proofs.Ytgmcdlfmifijlaa.Dev
