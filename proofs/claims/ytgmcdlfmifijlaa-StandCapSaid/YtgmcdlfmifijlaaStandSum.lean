/- payref1.sum says whether a number is a sum; no condition. -/
import Derived.Test.YtgmcdlfmifijlaaRows
import Derived.Test.YtgmcdlfmifijlaaEnc
namespace Go.Proofs.Ytgmcdlfmifijlaa
open Go.RowKit Pay

set_option maxRecDepth 100000 in
theorem ref_sum (x : Int) (w : World) : Calls Try.prog 103 #[.int .i64 x] w fun e w' => e = .returned (.bool (sumB x)) ∧ w = w' := by
  go_enter Try.func103, Try.ntmps103
  go_wp2
  all_goals (go_ret; exact ⟨ret_bool (by simp [sumB]; omega), rfl⟩)

end Go.Proofs.Ytgmcdlfmifijlaa
