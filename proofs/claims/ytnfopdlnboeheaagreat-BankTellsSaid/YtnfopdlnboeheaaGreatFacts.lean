/- The closed facts on the dump's head. No conditions. -/
import Derived.Test.YtnfopdlnboeheaaGreatRows
import Derived.WalkKit
import Derived.ProofKit
import Derived.JoinedOf
namespace Go.Proofs.YtnfopdlnboeheaaGreat
def signs : List Nat := [104, 97, 114, 110, 101, 115, 115, 32, 48, 53, 53, 48, 99, 100, 51, 57, 53, 56, 57, 54, 50, 97, 102, 50, 98, 48, 102, 54, 49, 99, 56, 48, 56, 102, 98, 102, 51, 54, 52, 102,
  55, 54, 53, 57, 102, 52, 53, 53, 54, 100, 102, 57, 55, 51, 50, 54, 101, 53, 56, 54, 57, 52, 53, 101, 56, 55, 51, 49, 98, 51, 55, 97, 32, 99, 117, 116, 32, 97, 116, 32,
  112, 97, 121, 115, 116, 111, 110, 101, 47, 112, 97, 121, 108, 97, 119, 56, 46, 66, 97, 110, 107, 84, 101, 108, 108, 115]
theorem init_is : Tryz.prog.initOrder = String.ofList (signs.map Char.ofNat) := by kernel_rfl
theorem signs_are : Tryz.prog.initOrder.toList = signs.map Char.ofNat := by rw [init_is, String.toList_ofList]
theorem sign_may : Tryz.prog.mayEnter = true := by
  unfold Program.mayEnter
  rw [signs_are]
  kernel_rfl
theorem sign_lifts : Tryz.prog.liftsFinal = false := by
  unfold Program.liftsFinal Program.headLifts
  rw [signs_are]
  kernel_rfl
theorem sign_make : Tryz.prog.make = some .cut := by
  unfold Program.make
  rw [signs_are]
  kernel_rfl
end Go.Proofs.YtnfopdlnboeheaaGreat
