/-
  No cell of these rows narrows 'for every input' (looked for: loops, veiled, ifaces, maps, wideKeys, modest, calm, conditions, laid).
  DERIVED. THE GIVEN ROWS OF THIS SEAT. 14 by the template 'for every input the law returns true; each argument reads behind the call as it read before'; 0 by the template 'total and deterministic' (their statements: YtegepioggeggaaaTotals.lean).
  GIVEN WITH THE SEED: the statements are not yours to turn. If you find one false, say at which input.
  Laid BY PROGRAM, IN A SANDBOX (cutbox-rows.mjs): the forced cells as the released guide's own fill.sh prints them over the translation c726ccba25cef583… (all of the seat's roots in one cut). By AI agents, Wed Nov 11 2026. No macro, syntax, notation, axiom, sorry.
-/
import Derived.Test.YtegepioggeggaaaChecked
import GoSem.Claim
import GoSem.ClaimJoined
import GoSem.ClaimMapViews
import Derived.JoinedTies
import Derived.KernelRfl
namespace Go.Proofs.Ytegepioggeggaaa
/- THE CELL 'sum', in the pinned program and in every row, IS THE sha256 OF THE DUMP (.gsa) THAT YtegepioggeggaaaProg.lean LOADS. Nothing in Lean hashes anything: it is a label: what it is worth is what the hold of that sum in a sandbox is worth. -/
noncomputable def Try.pinned : Pinned := { name := "ytegepioggeggaaa", sum := "c726ccba25cef583a078b448ed7c3b86218b84e43181be4c025a1e82f2b2b75f", checked := Try.checked }
namespace Rows
def none {H : Type} : Left H := { results := [], args := [] }

/-- 'paytop.TopReturn': WHATEVER THE INPUT: true; the input reads as it did. -/
def topReturnSpec : ChangeSpec := { name := "topReturn", fn := fun _ => fun
  | [d1, d2, d3] => { results := [.lit (.bool true)], args := [d1, d2, d3] }
  | _ => none }
def topReturnRow : OpenClaim := { program := "ytegepioggeggaaa", sum := "c726ccba25cef583a078b448ed7c3b86218b84e43181be4c025a1e82f2b2b75f", func := "paystone/paytop.TopReturn", spec := "topReturn", inPlace := ["slices.overlaps[paystone/api.Entry]"], unfollowed := true, recurses := true, apart := false }
def TopReturnSaid : Prop := topReturnRow.holds Try.pinned (OpenSpec.ofChange topReturnSpec)

/-- ITS FALSE NEIGHBOUR: 'it returns false'. Refute it at one input. -/
def topReturnWrong : ChangeSpec := { name := "topReturn", fn := fun _ => fun
  | [d1, d2, d3] => { results := [.lit (.bool false)], args := [d1, d2, d3] }
  | _ => none }
def TopReturnWrongFalsely : Prop := topReturnRow.holds Try.pinned (OpenSpec.ofChange topReturnWrong)

/-- 'paytop.TopOver': WHATEVER THE INPUT: true; the input reads as it did. -/
def topOverSpec : ChangeSpec := { name := "topOver", fn := fun _ => fun
  | [d1, d2, d3] => { results := [.lit (.bool true)], args := [d1, d2, d3] }
  | _ => none }
def topOverRow : OpenClaim := { program := "ytegepioggeggaaa", sum := "c726ccba25cef583a078b448ed7c3b86218b84e43181be4c025a1e82f2b2b75f", func := "paystone/paytop.TopOver", spec := "topOver", inPlace := ["slices.overlaps[paystone/api.Entry]"], unfollowed := true, recurses := true, apart := false }
def TopOverSaid : Prop := topOverRow.holds Try.pinned (OpenSpec.ofChange topOverSpec)

/-- ITS FALSE NEIGHBOUR: 'it returns false'. Refute it at one input. -/
def topOverWrong : ChangeSpec := { name := "topOver", fn := fun _ => fun
  | [d1, d2, d3] => { results := [.lit (.bool false)], args := [d1, d2, d3] }
  | _ => none }
def TopOverWrongFalsely : Prop := topOverRow.holds Try.pinned (OpenSpec.ofChange topOverWrong)

/-- 'paylaw8.BankHeld': WHATEVER THE INPUT: true; the input reads as it did. -/
def bankHeldSpec : ChangeSpec := { name := "bankHeld", fn := fun _ => fun
  | [d1, d2] => { results := [.lit (.bool true)], args := [d1, d2] }
  | _ => none }
def bankHeldRow : OpenClaim := { program := "ytegepioggeggaaa", sum := "c726ccba25cef583a078b448ed7c3b86218b84e43181be4c025a1e82f2b2b75f", func := "paystone/paylaw8.BankHeld", spec := "bankHeld", inPlace := ["slices.overlaps[paystone/api.Entry]"], unfollowed := true, recurses := true, apart := false }
def BankHeldSaid : Prop := bankHeldRow.holds Try.pinned (OpenSpec.ofChange bankHeldSpec)

/-- ITS FALSE NEIGHBOUR: 'it returns false'. Refute it at one input. -/
def bankHeldWrong : ChangeSpec := { name := "bankHeld", fn := fun _ => fun
  | [d1, d2] => { results := [.lit (.bool false)], args := [d1, d2] }
  | _ => none }
def BankHeldWrongFalsely : Prop := bankHeldRow.holds Try.pinned (OpenSpec.ofChange bankHeldWrong)

/-- 'paylaw8.BankFree': WHATEVER THE INPUT: true; the input reads as it did. -/
def bankFreeSpec : ChangeSpec := { name := "bankFree", fn := fun _ => fun
  | [d1, d2] => { results := [.lit (.bool true)], args := [d1, d2] }
  | _ => none }
def bankFreeRow : OpenClaim := { program := "ytegepioggeggaaa", sum := "c726ccba25cef583a078b448ed7c3b86218b84e43181be4c025a1e82f2b2b75f", func := "paystone/paylaw8.BankFree", spec := "bankFree", inPlace := ["slices.overlaps[paystone/api.Entry]"], unfollowed := true, recurses := true, apart := false }
def BankFreeSaid : Prop := bankFreeRow.holds Try.pinned (OpenSpec.ofChange bankFreeSpec)

/-- ITS FALSE NEIGHBOUR: 'it returns false'. Refute it at one input. -/
def bankFreeWrong : ChangeSpec := { name := "bankFree", fn := fun _ => fun
  | [d1, d2] => { results := [.lit (.bool false)], args := [d1, d2] }
  | _ => none }
def BankFreeWrongFalsely : Prop := bankFreeRow.holds Try.pinned (OpenSpec.ofChange bankFreeWrong)

/-- 'paylaw8.BankOnce': WHATEVER THE INPUT: true; the input reads as it did. -/
def bankOnceSpec : ChangeSpec := { name := "bankOnce", fn := fun _ => fun
  | [d1, d2, d3] => { results := [.lit (.bool true)], args := [d1, d2, d3] }
  | _ => none }
def bankOnceRow : OpenClaim := { program := "ytegepioggeggaaa", sum := "c726ccba25cef583a078b448ed7c3b86218b84e43181be4c025a1e82f2b2b75f", func := "paystone/paylaw8.BankOnce", spec := "bankOnce", inPlace := ["slices.overlaps[paystone/api.Entry]"], unfollowed := true, recurses := true, apart := false }
def BankOnceSaid : Prop := bankOnceRow.holds Try.pinned (OpenSpec.ofChange bankOnceSpec)

/-- ITS FALSE NEIGHBOUR: 'it returns false'. Refute it at one input. -/
def bankOnceWrong : ChangeSpec := { name := "bankOnce", fn := fun _ => fun
  | [d1, d2, d3] => { results := [.lit (.bool false)], args := [d1, d2, d3] }
  | _ => none }
def BankOnceWrongFalsely : Prop := bankOnceRow.holds Try.pinned (OpenSpec.ofChange bankOnceWrong)

/-- 'paylaw8.BankRefused': WHATEVER THE INPUT: true; the input reads as it did. -/
def bankRefusedSpec : ChangeSpec := { name := "bankRefused", fn := fun _ => fun
  | [d1, d2] => { results := [.lit (.bool true)], args := [d1, d2] }
  | _ => none }
def bankRefusedRow : OpenClaim := { program := "ytegepioggeggaaa", sum := "c726ccba25cef583a078b448ed7c3b86218b84e43181be4c025a1e82f2b2b75f", func := "paystone/paylaw8.BankRefused", spec := "bankRefused", inPlace := ["slices.overlaps[paystone/api.Entry]"], unfollowed := true, recurses := true, apart := false }
def BankRefusedSaid : Prop := bankRefusedRow.holds Try.pinned (OpenSpec.ofChange bankRefusedSpec)

/-- ITS FALSE NEIGHBOUR: 'it returns false'. Refute it at one input. -/
def bankRefusedWrong : ChangeSpec := { name := "bankRefused", fn := fun _ => fun
  | [d1, d2] => { results := [.lit (.bool false)], args := [d1, d2] }
  | _ => none }
def BankRefusedWrongFalsely : Prop := bankRefusedRow.holds Try.pinned (OpenSpec.ofChange bankRefusedWrong)

/-- 'paylaw8.BankBook': WHATEVER THE INPUT: true; the input reads as it did. -/
def bankBookSpec : ChangeSpec := { name := "bankBook", fn := fun _ => fun
  | [d1, d2] => { results := [.lit (.bool true)], args := [d1, d2] }
  | _ => none }
def bankBookRow : OpenClaim := { program := "ytegepioggeggaaa", sum := "c726ccba25cef583a078b448ed7c3b86218b84e43181be4c025a1e82f2b2b75f", func := "paystone/paylaw8.BankBook", spec := "bankBook", inPlace := ["slices.overlaps[paystone/api.Entry]"], unfollowed := true, recurses := true, apart := false }
def BankBookSaid : Prop := bankBookRow.holds Try.pinned (OpenSpec.ofChange bankBookSpec)

/-- ITS FALSE NEIGHBOUR: 'it returns false'. Refute it at one input. -/
def bankBookWrong : ChangeSpec := { name := "bankBook", fn := fun _ => fun
  | [d1, d2] => { results := [.lit (.bool false)], args := [d1, d2] }
  | _ => none }
def BankBookWrongFalsely : Prop := bankBookRow.holds Try.pinned (OpenSpec.ofChange bankBookWrong)

/-- 'paylaw8.BankDrains': WHATEVER THE INPUT: true; the input reads as it did. -/
def bankDrainsSpec : ChangeSpec := { name := "bankDrains", fn := fun _ => fun
  | [d1, d2] => { results := [.lit (.bool true)], args := [d1, d2] }
  | _ => none }
def bankDrainsRow : OpenClaim := { program := "ytegepioggeggaaa", sum := "c726ccba25cef583a078b448ed7c3b86218b84e43181be4c025a1e82f2b2b75f", func := "paystone/paylaw8.BankDrains", spec := "bankDrains", inPlace := ["slices.overlaps[paystone/api.Entry]"], unfollowed := true, recurses := true, apart := false }
def BankDrainsSaid : Prop := bankDrainsRow.holds Try.pinned (OpenSpec.ofChange bankDrainsSpec)

/-- ITS FALSE NEIGHBOUR: 'it returns false'. Refute it at one input. -/
def bankDrainsWrong : ChangeSpec := { name := "bankDrains", fn := fun _ => fun
  | [d1, d2] => { results := [.lit (.bool false)], args := [d1, d2] }
  | _ => none }
def BankDrainsWrongFalsely : Prop := bankDrainsRow.holds Try.pinned (OpenSpec.ofChange bankDrainsWrong)

/-- 'paylaw8.BankDays': WHATEVER THE INPUT: true; the input reads as it did. -/
def bankDaysSpec : ChangeSpec := { name := "bankDays", fn := fun _ => fun
  | [d1, d2] => { results := [.lit (.bool true)], args := [d1, d2] }
  | _ => none }
def bankDaysRow : OpenClaim := { program := "ytegepioggeggaaa", sum := "c726ccba25cef583a078b448ed7c3b86218b84e43181be4c025a1e82f2b2b75f", func := "paystone/paylaw8.BankDays", spec := "bankDays", inPlace := ["slices.overlaps[paystone/api.Entry]"], unfollowed := true, recurses := true, apart := false }
def BankDaysSaid : Prop := bankDaysRow.holds Try.pinned (OpenSpec.ofChange bankDaysSpec)

/-- ITS FALSE NEIGHBOUR: 'it returns false'. Refute it at one input. -/
def bankDaysWrong : ChangeSpec := { name := "bankDays", fn := fun _ => fun
  | [d1, d2] => { results := [.lit (.bool false)], args := [d1, d2] }
  | _ => none }
def BankDaysWrongFalsely : Prop := bankDaysRow.holds Try.pinned (OpenSpec.ofChange bankDaysWrong)

/-- 'paytop.TopDown': WHATEVER THE INPUT: true; the input reads as it did. -/
def topDownSpec : ChangeSpec := { name := "topDown", fn := fun _ => fun
  | [d1, d2, d3, d4] => { results := [.lit (.bool true)], args := [d1, d2, d3, d4] }
  | _ => none }
def topDownRow : OpenClaim := { program := "ytegepioggeggaaa", sum := "c726ccba25cef583a078b448ed7c3b86218b84e43181be4c025a1e82f2b2b75f", func := "paystone/paytop.TopDown", spec := "topDown", inPlace := ["slices.overlaps[paystone/api.Entry]"], unfollowed := true, recurses := true, apart := false }
def TopDownSaid : Prop := topDownRow.holds Try.pinned (OpenSpec.ofChange topDownSpec)

/-- ITS FALSE NEIGHBOUR: 'it returns false'. Refute it at one input. -/
def topDownWrong : ChangeSpec := { name := "topDown", fn := fun _ => fun
  | [d1, d2, d3, d4] => { results := [.lit (.bool false)], args := [d1, d2, d3, d4] }
  | _ => none }
def TopDownWrongFalsely : Prop := topDownRow.holds Try.pinned (OpenSpec.ofChange topDownWrong)

/-- 'paytop.TopPace': WHATEVER THE INPUT: true; the input reads as it did. -/
def topPaceSpec : ChangeSpec := { name := "topPace", fn := fun _ => fun
  | [d1, d2, d3] => { results := [.lit (.bool true)], args := [d1, d2, d3] }
  | _ => none }
def topPaceRow : OpenClaim := { program := "ytegepioggeggaaa", sum := "c726ccba25cef583a078b448ed7c3b86218b84e43181be4c025a1e82f2b2b75f", func := "paystone/paytop.TopPace", spec := "topPace", inPlace := ["slices.overlaps[paystone/api.Entry]"], unfollowed := true, recurses := true, apart := false }
def TopPaceSaid : Prop := topPaceRow.holds Try.pinned (OpenSpec.ofChange topPaceSpec)

/-- ITS FALSE NEIGHBOUR: 'it returns false'. Refute it at one input. -/
def topPaceWrong : ChangeSpec := { name := "topPace", fn := fun _ => fun
  | [d1, d2, d3] => { results := [.lit (.bool false)], args := [d1, d2, d3] }
  | _ => none }
def TopPaceWrongFalsely : Prop := topPaceRow.holds Try.pinned (OpenSpec.ofChange topPaceWrong)

/-- 'paytop.TopBuy': WHATEVER THE INPUT: true; the input reads as it did. -/
def topBuySpec : ChangeSpec := { name := "topBuy", fn := fun _ => fun
  | [d1, d2, d3] => { results := [.lit (.bool true)], args := [d1, d2, d3] }
  | _ => none }
def topBuyRow : OpenClaim := { program := "ytegepioggeggaaa", sum := "c726ccba25cef583a078b448ed7c3b86218b84e43181be4c025a1e82f2b2b75f", func := "paystone/paytop.TopBuy", spec := "topBuy", inPlace := ["slices.overlaps[paystone/api.Entry]"], unfollowed := true, recurses := true, apart := false }
def TopBuySaid : Prop := topBuyRow.holds Try.pinned (OpenSpec.ofChange topBuySpec)

/-- ITS FALSE NEIGHBOUR: 'it returns false'. Refute it at one input. -/
def topBuyWrong : ChangeSpec := { name := "topBuy", fn := fun _ => fun
  | [d1, d2, d3] => { results := [.lit (.bool false)], args := [d1, d2, d3] }
  | _ => none }
def TopBuyWrongFalsely : Prop := topBuyRow.holds Try.pinned (OpenSpec.ofChange topBuyWrong)

/-- 'paytop.TopDispute': WHATEVER THE INPUT: true; the input reads as it did. -/
def topDisputeSpec : ChangeSpec := { name := "topDispute", fn := fun _ => fun
  | [d1, d2, d3, d4] => { results := [.lit (.bool true)], args := [d1, d2, d3, d4] }
  | _ => none }
def topDisputeRow : OpenClaim := { program := "ytegepioggeggaaa", sum := "c726ccba25cef583a078b448ed7c3b86218b84e43181be4c025a1e82f2b2b75f", func := "paystone/paytop.TopDispute", spec := "topDispute", inPlace := ["slices.overlaps[paystone/api.Entry]"], unfollowed := true, recurses := true, apart := false }
def TopDisputeSaid : Prop := topDisputeRow.holds Try.pinned (OpenSpec.ofChange topDisputeSpec)

/-- ITS FALSE NEIGHBOUR: 'it returns false'. Refute it at one input. -/
def topDisputeWrong : ChangeSpec := { name := "topDispute", fn := fun _ => fun
  | [d1, d2, d3, d4] => { results := [.lit (.bool false)], args := [d1, d2, d3, d4] }
  | _ => none }
def TopDisputeWrongFalsely : Prop := topDisputeRow.holds Try.pinned (OpenSpec.ofChange topDisputeWrong)

/-- 'paytop.TopDays': WHATEVER THE INPUT: true; the input reads as it did. -/
def topDaysSpec : ChangeSpec := { name := "topDays", fn := fun _ => fun
  | [d1, d2] => { results := [.lit (.bool true)], args := [d1, d2] }
  | _ => none }
def topDaysRow : OpenClaim := { program := "ytegepioggeggaaa", sum := "c726ccba25cef583a078b448ed7c3b86218b84e43181be4c025a1e82f2b2b75f", func := "paystone/paytop.TopDays", spec := "topDays", inPlace := ["slices.overlaps[paystone/api.Entry]"], unfollowed := true, recurses := true, apart := false }
def TopDaysSaid : Prop := topDaysRow.holds Try.pinned (OpenSpec.ofChange topDaysSpec)

/-- ITS FALSE NEIGHBOUR: 'it returns false'. Refute it at one input. -/
def topDaysWrong : ChangeSpec := { name := "topDays", fn := fun _ => fun
  | [d1, d2] => { results := [.lit (.bool false)], args := [d1, d2] }
  | _ => none }
def TopDaysWrongFalsely : Prop := topDaysRow.holds Try.pinned (OpenSpec.ofChange topDaysWrong)

/- THE SECOND FORM. 'bulk': how many values and letters a reading holds, each counted each time it is reached (what is shared counts as often as it is met; a slice's spare places count too). A statement '..UptoSaid' is the law's where the arguments, and the package variables that the reading takes, are together of bulk at most 1048576: NARROWER than '..Said'. Prove '..Said' where nothing that the law and all that it calls make is longer than what came in: it says more and counts as full. Else prove '..UptoSaid'. A law counts once. -/
mutual
def uptoBulk {H : Type} : DataW H → Nat
  | .lit (.string bytes) => bytes.length + 1
  | .lit _ => 1
  | .nil => 1
  | .ptr d => uptoBulk d + 1
  | .slice elems spare => uptoBulkAll elems + uptoBulkAll spare + 1
  | .agg parts => uptoBulkAll parts + 1
  | .iface _ d => uptoBulk d + 1
  | .map entries => uptoBulkEntries entries + 1
  | .held _ => 1
def uptoBulkAll {H : Type} : List (DataW H) → Nat
  | [] => 0
  | d :: r => uptoBulk d + uptoBulkAll r
def uptoBulkEntries {H : Type} : List (Lit × DataW H) → Nat
  | [] => 0
  | x :: r => uptoBulkEntry x + uptoBulkEntries r
def uptoBulkEntry {H : Type} : Lit × DataW H → Nat
  | (.string bytes, d) => bytes.length + uptoBulk d + 1
  | (_, d) => uptoBulk d + 1
 end
def uptoSmall : (H : Type) → List (DataW H) → Bool := fun _ ds => decide (uptoBulkAll ds ≤ 1048576)
def OpenSpec.upto (s : _root_.Go.ChangeSpec) : _root_.Go.OpenSpec := { _root_.Go.OpenSpec.ofChange s with cond := some uptoSmall }

/-- 'paytop.TopReturn', WHERE WHAT IT READS IS OF BULK AT MOST 1048576: true; the input reads as it did. -/
def topReturnUptoRow : OpenClaim := { program := "ytegepioggeggaaa", sum := "c726ccba25cef583a078b448ed7c3b86218b84e43181be4c025a1e82f2b2b75f", func := "paystone/paytop.TopReturn", spec := "topReturn", inPlace := ["slices.overlaps[paystone/api.Entry]"], unfollowed := true, recurses := true, apart := false, narrowed := true }
def TopReturnUptoSaid : Prop := topReturnUptoRow.holds Try.pinned (OpenSpec.upto topReturnSpec)

/-- 'paytop.TopOver', WHERE WHAT IT READS IS OF BULK AT MOST 1048576: true; the input reads as it did. -/
def topOverUptoRow : OpenClaim := { program := "ytegepioggeggaaa", sum := "c726ccba25cef583a078b448ed7c3b86218b84e43181be4c025a1e82f2b2b75f", func := "paystone/paytop.TopOver", spec := "topOver", inPlace := ["slices.overlaps[paystone/api.Entry]"], unfollowed := true, recurses := true, apart := false, narrowed := true }
def TopOverUptoSaid : Prop := topOverUptoRow.holds Try.pinned (OpenSpec.upto topOverSpec)

/-- 'paylaw8.BankHeld', WHERE WHAT IT READS IS OF BULK AT MOST 1048576: true; the input reads as it did. -/
def bankHeldUptoRow : OpenClaim := { program := "ytegepioggeggaaa", sum := "c726ccba25cef583a078b448ed7c3b86218b84e43181be4c025a1e82f2b2b75f", func := "paystone/paylaw8.BankHeld", spec := "bankHeld", inPlace := ["slices.overlaps[paystone/api.Entry]"], unfollowed := true, recurses := true, apart := false, narrowed := true }
def BankHeldUptoSaid : Prop := bankHeldUptoRow.holds Try.pinned (OpenSpec.upto bankHeldSpec)

/-- 'paylaw8.BankFree', WHERE WHAT IT READS IS OF BULK AT MOST 1048576: true; the input reads as it did. -/
def bankFreeUptoRow : OpenClaim := { program := "ytegepioggeggaaa", sum := "c726ccba25cef583a078b448ed7c3b86218b84e43181be4c025a1e82f2b2b75f", func := "paystone/paylaw8.BankFree", spec := "bankFree", inPlace := ["slices.overlaps[paystone/api.Entry]"], unfollowed := true, recurses := true, apart := false, narrowed := true }
def BankFreeUptoSaid : Prop := bankFreeUptoRow.holds Try.pinned (OpenSpec.upto bankFreeSpec)

/-- 'paylaw8.BankOnce', WHERE WHAT IT READS IS OF BULK AT MOST 1048576: true; the input reads as it did. -/
def bankOnceUptoRow : OpenClaim := { program := "ytegepioggeggaaa", sum := "c726ccba25cef583a078b448ed7c3b86218b84e43181be4c025a1e82f2b2b75f", func := "paystone/paylaw8.BankOnce", spec := "bankOnce", inPlace := ["slices.overlaps[paystone/api.Entry]"], unfollowed := true, recurses := true, apart := false, narrowed := true }
def BankOnceUptoSaid : Prop := bankOnceUptoRow.holds Try.pinned (OpenSpec.upto bankOnceSpec)

/-- 'paylaw8.BankRefused', WHERE WHAT IT READS IS OF BULK AT MOST 1048576: true; the input reads as it did. -/
def bankRefusedUptoRow : OpenClaim := { program := "ytegepioggeggaaa", sum := "c726ccba25cef583a078b448ed7c3b86218b84e43181be4c025a1e82f2b2b75f", func := "paystone/paylaw8.BankRefused", spec := "bankRefused", inPlace := ["slices.overlaps[paystone/api.Entry]"], unfollowed := true, recurses := true, apart := false, narrowed := true }
def BankRefusedUptoSaid : Prop := bankRefusedUptoRow.holds Try.pinned (OpenSpec.upto bankRefusedSpec)

/-- 'paylaw8.BankBook', WHERE WHAT IT READS IS OF BULK AT MOST 1048576: true; the input reads as it did. -/
def bankBookUptoRow : OpenClaim := { program := "ytegepioggeggaaa", sum := "c726ccba25cef583a078b448ed7c3b86218b84e43181be4c025a1e82f2b2b75f", func := "paystone/paylaw8.BankBook", spec := "bankBook", inPlace := ["slices.overlaps[paystone/api.Entry]"], unfollowed := true, recurses := true, apart := false, narrowed := true }
def BankBookUptoSaid : Prop := bankBookUptoRow.holds Try.pinned (OpenSpec.upto bankBookSpec)

/-- 'paylaw8.BankDrains', WHERE WHAT IT READS IS OF BULK AT MOST 1048576: true; the input reads as it did. -/
def bankDrainsUptoRow : OpenClaim := { program := "ytegepioggeggaaa", sum := "c726ccba25cef583a078b448ed7c3b86218b84e43181be4c025a1e82f2b2b75f", func := "paystone/paylaw8.BankDrains", spec := "bankDrains", inPlace := ["slices.overlaps[paystone/api.Entry]"], unfollowed := true, recurses := true, apart := false, narrowed := true }
def BankDrainsUptoSaid : Prop := bankDrainsUptoRow.holds Try.pinned (OpenSpec.upto bankDrainsSpec)

/-- 'paylaw8.BankDays', WHERE WHAT IT READS IS OF BULK AT MOST 1048576: true; the input reads as it did. -/
def bankDaysUptoRow : OpenClaim := { program := "ytegepioggeggaaa", sum := "c726ccba25cef583a078b448ed7c3b86218b84e43181be4c025a1e82f2b2b75f", func := "paystone/paylaw8.BankDays", spec := "bankDays", inPlace := ["slices.overlaps[paystone/api.Entry]"], unfollowed := true, recurses := true, apart := false, narrowed := true }
def BankDaysUptoSaid : Prop := bankDaysUptoRow.holds Try.pinned (OpenSpec.upto bankDaysSpec)

/-- 'paytop.TopDown', WHERE WHAT IT READS IS OF BULK AT MOST 1048576: true; the input reads as it did. -/
def topDownUptoRow : OpenClaim := { program := "ytegepioggeggaaa", sum := "c726ccba25cef583a078b448ed7c3b86218b84e43181be4c025a1e82f2b2b75f", func := "paystone/paytop.TopDown", spec := "topDown", inPlace := ["slices.overlaps[paystone/api.Entry]"], unfollowed := true, recurses := true, apart := false, narrowed := true }
def TopDownUptoSaid : Prop := topDownUptoRow.holds Try.pinned (OpenSpec.upto topDownSpec)

/-- 'paytop.TopPace', WHERE WHAT IT READS IS OF BULK AT MOST 1048576: true; the input reads as it did. -/
def topPaceUptoRow : OpenClaim := { program := "ytegepioggeggaaa", sum := "c726ccba25cef583a078b448ed7c3b86218b84e43181be4c025a1e82f2b2b75f", func := "paystone/paytop.TopPace", spec := "topPace", inPlace := ["slices.overlaps[paystone/api.Entry]"], unfollowed := true, recurses := true, apart := false, narrowed := true }
def TopPaceUptoSaid : Prop := topPaceUptoRow.holds Try.pinned (OpenSpec.upto topPaceSpec)

/-- 'paytop.TopBuy', WHERE WHAT IT READS IS OF BULK AT MOST 1048576: true; the input reads as it did. -/
def topBuyUptoRow : OpenClaim := { program := "ytegepioggeggaaa", sum := "c726ccba25cef583a078b448ed7c3b86218b84e43181be4c025a1e82f2b2b75f", func := "paystone/paytop.TopBuy", spec := "topBuy", inPlace := ["slices.overlaps[paystone/api.Entry]"], unfollowed := true, recurses := true, apart := false, narrowed := true }
def TopBuyUptoSaid : Prop := topBuyUptoRow.holds Try.pinned (OpenSpec.upto topBuySpec)

/-- 'paytop.TopDispute', WHERE WHAT IT READS IS OF BULK AT MOST 1048576: true; the input reads as it did. -/
def topDisputeUptoRow : OpenClaim := { program := "ytegepioggeggaaa", sum := "c726ccba25cef583a078b448ed7c3b86218b84e43181be4c025a1e82f2b2b75f", func := "paystone/paytop.TopDispute", spec := "topDispute", inPlace := ["slices.overlaps[paystone/api.Entry]"], unfollowed := true, recurses := true, apart := false, narrowed := true }
def TopDisputeUptoSaid : Prop := topDisputeUptoRow.holds Try.pinned (OpenSpec.upto topDisputeSpec)

/-- 'paytop.TopDays', WHERE WHAT IT READS IS OF BULK AT MOST 1048576: true; the input reads as it did. -/
def topDaysUptoRow : OpenClaim := { program := "ytegepioggeggaaa", sum := "c726ccba25cef583a078b448ed7c3b86218b84e43181be4c025a1e82f2b2b75f", func := "paystone/paytop.TopDays", spec := "topDays", inPlace := ["slices.overlaps[paystone/api.Entry]"], unfollowed := true, recurses := true, apart := false, narrowed := true }
def TopDaysUptoSaid : Prop := topDaysUptoRow.holds Try.pinned (OpenSpec.upto topDaysSpec)

end Rows
end Go.Proofs.Ytegepioggeggaaa
