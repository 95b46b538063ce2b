/-
  No cell of these rows narrows 'for every input' (looked for: loops, veiled, ifaces, maps, wideKeys, modest, calm, conditions, laid).
  DERIVED. THE GIVEN ROWS OF THIS SEAT. 26 by the template 'for every input the law returns true; each argument reads behind the call as it read before'; 0 by the template 'total and deterministic' (their statements: YtgmcdlfmifijlaaTotals.lean).
  GIVEN WITH THE SEED: the statements are not yours to turn. If you find one false, say at which input.
  Laid BY PROGRAM, IN A SANDBOX (cutbox-rows.mjs): the forced cells as the released guide's own fill.sh prints them over the translation feb126c347b382fe… (all of the seat's roots in one cut). By AI agents, Wed Nov 11 2026. No macro, syntax, notation, axiom, sorry.
-/
import Derived.Test.YtgmcdlfmifijlaaChecked
import GoSem.Claim
import GoSem.ClaimJoined
import GoSem.ClaimMapViews
import Derived.JoinedTies
import Derived.KernelRfl
namespace Go.Proofs.Ytgmcdlfmifijlaa
/- THE CELL 'sum', in the pinned program and in every row, IS THE sha256 OF THE DUMP (.gsa) THAT YtgmcdlfmifijlaaProg.lean LOADS. Nothing in Lean hashes anything: it is a label: what it is worth is what the hold of that sum in a sandbox is worth. -/
noncomputable def Try.pinned : Pinned := { name := "ytgmcdlfmifijlaa", sum := "feb126c347b382fe6b2b774441afb1774fa5730966b293cc4207156f5a9c4595", checked := Try.checked }
namespace Rows
def none {H : Type} : Left H := { results := [], args := [] }

/-- 'paylaw6.StandCap': WHATEVER THE INPUT: true; the input reads as it did. -/
def standCapSpec : ChangeSpec := { name := "standCap", fn := fun _ => fun
  | [d1, d2, d3] => { results := [.lit (.bool true)], args := [d1, d2, d3] }
  | _ => none }
def standCapRow : OpenClaim := { program := "ytgmcdlfmifijlaa", sum := "feb126c347b382fe6b2b774441afb1774fa5730966b293cc4207156f5a9c4595", func := "paystone/paylaw6.StandCap", spec := "standCap", apart := false }
def StandCapSaid : Prop := standCapRow.holds Try.pinned (OpenSpec.ofChange standCapSpec)

/-- ITS FALSE NEIGHBOUR: 'it returns false'. Refute it at one input. -/
def standCapWrong : ChangeSpec := { name := "standCap", fn := fun _ => fun
  | [d1, d2, d3] => { results := [.lit (.bool false)], args := [d1, d2, d3] }
  | _ => none }
def StandCapWrongFalsely : Prop := standCapRow.holds Try.pinned (OpenSpec.ofChange standCapWrong)

/-- 'paylaw6.StandTells': WHATEVER THE INPUT: true; the input reads as it did. -/
def standTellsSpec : ChangeSpec := { name := "standTells", fn := fun _ => fun
  | [d1, d2, d3, d4] => { results := [.lit (.bool true)], args := [d1, d2, d3, d4] }
  | _ => none }
def standTellsRow : OpenClaim := { program := "ytgmcdlfmifijlaa", sum := "feb126c347b382fe6b2b774441afb1774fa5730966b293cc4207156f5a9c4595", func := "paystone/paylaw6.StandTells", spec := "standTells", apart := false }
def StandTellsSaid : Prop := standTellsRow.holds Try.pinned (OpenSpec.ofChange standTellsSpec)

/-- ITS FALSE NEIGHBOUR: 'it returns false'. Refute it at one input. -/
def standTellsWrong : ChangeSpec := { name := "standTells", fn := fun _ => fun
  | [d1, d2, d3, d4] => { results := [.lit (.bool false)], args := [d1, d2, d3, d4] }
  | _ => none }
def StandTellsWrongFalsely : Prop := standTellsRow.holds Try.pinned (OpenSpec.ofChange standTellsWrong)

/-- 'paylaw6.StandAnew': WHATEVER THE INPUT: true; the input reads as it did. -/
def standAnewSpec : ChangeSpec := { name := "standAnew", fn := fun _ => fun
  | [d] => { results := [.lit (.bool true)], args := [d] }
  | _ => none }
def standAnewRow : OpenClaim := { program := "ytgmcdlfmifijlaa", sum := "feb126c347b382fe6b2b774441afb1774fa5730966b293cc4207156f5a9c4595", func := "paystone/paylaw6.StandAnew", spec := "standAnew", apart := false }
def StandAnewSaid : Prop := standAnewRow.holds Try.pinned (OpenSpec.ofChange standAnewSpec)

/-- ITS FALSE NEIGHBOUR: 'it returns false'. Refute it at one input. -/
def standAnewWrong : ChangeSpec := { name := "standAnew", fn := fun _ => fun
  | [d] => { results := [.lit (.bool false)], args := [d] }
  | _ => none }
def StandAnewWrongFalsely : Prop := standAnewRow.holds Try.pinned (OpenSpec.ofChange standAnewWrong)

/-- 'paylaw3.PaceTells': WHATEVER THE INPUT: true; the input reads as it did. -/
def paceTellsSpec : ChangeSpec := { name := "paceTells", fn := fun _ => fun
  | [d1, d2, d3] => { results := [.lit (.bool true)], args := [d1, d2, d3] }
  | _ => none }
def paceTellsRow : OpenClaim := { program := "ytgmcdlfmifijlaa", sum := "feb126c347b382fe6b2b774441afb1774fa5730966b293cc4207156f5a9c4595", func := "paystone/paylaw3.PaceTells", spec := "paceTells", unfollowed := true, recurses := true, apart := false }
def PaceTellsSaid : Prop := paceTellsRow.holds Try.pinned (OpenSpec.ofChange paceTellsSpec)

/-- ITS FALSE NEIGHBOUR: 'it returns false'. Refute it at one input. -/
def paceTellsWrong : ChangeSpec := { name := "paceTells", fn := fun _ => fun
  | [d1, d2, d3] => { results := [.lit (.bool false)], args := [d1, d2, d3] }
  | _ => none }
def PaceTellsWrongFalsely : Prop := paceTellsRow.holds Try.pinned (OpenSpec.ofChange paceTellsWrong)

/-- 'paylaw3.PaceKept': WHATEVER THE INPUT: true; the input reads as it did. -/
def paceKeptSpec : ChangeSpec := { name := "paceKept", fn := fun _ => fun
  | [d1, d2] => { results := [.lit (.bool true)], args := [d1, d2] }
  | _ => none }
def paceKeptRow : OpenClaim := { program := "ytgmcdlfmifijlaa", sum := "feb126c347b382fe6b2b774441afb1774fa5730966b293cc4207156f5a9c4595", func := "paystone/paylaw3.PaceKept", spec := "paceKept", unfollowed := true, recurses := true, apart := false }
def PaceKeptSaid : Prop := paceKeptRow.holds Try.pinned (OpenSpec.ofChange paceKeptSpec)

/-- ITS FALSE NEIGHBOUR: 'it returns false'. Refute it at one input. -/
def paceKeptWrong : ChangeSpec := { name := "paceKept", fn := fun _ => fun
  | [d1, d2] => { results := [.lit (.bool false)], args := [d1, d2] }
  | _ => none }
def PaceKeptWrongFalsely : Prop := paceKeptRow.holds Try.pinned (OpenSpec.ofChange paceKeptWrong)

/-- 'paylaw3.PaceMore': WHATEVER THE INPUT: true; the input reads as it did. -/
def paceMoreSpec : ChangeSpec := { name := "paceMore", fn := fun _ => fun
  | [d1, d2, d3, d4, d5] => { results := [.lit (.bool true)], args := [d1, d2, d3, d4, d5] }
  | _ => none }
def paceMoreRow : OpenClaim := { program := "ytgmcdlfmifijlaa", sum := "feb126c347b382fe6b2b774441afb1774fa5730966b293cc4207156f5a9c4595", func := "paystone/paylaw3.PaceMore", spec := "paceMore", unfollowed := true, recurses := true, apart := false }
def PaceMoreSaid : Prop := paceMoreRow.holds Try.pinned (OpenSpec.ofChange paceMoreSpec)

/-- ITS FALSE NEIGHBOUR: 'it returns false'. Refute it at one input. -/
def paceMoreWrong : ChangeSpec := { name := "paceMore", fn := fun _ => fun
  | [d1, d2, d3, d4, d5] => { results := [.lit (.bool false)], args := [d1, d2, d3, d4, d5] }
  | _ => none }
def PaceMoreWrongFalsely : Prop := paceMoreRow.holds Try.pinned (OpenSpec.ofChange paceMoreWrong)

/-- 'paylaw5.PostTells': WHATEVER THE INPUT: true; the input reads as it did. -/
def postTellsSpec : ChangeSpec := { name := "postTells", fn := fun _ => fun
  | [d1, d2, d3] => { results := [.lit (.bool true)], args := [d1, d2, d3] }
  | _ => none }
def postTellsRow : OpenClaim := { program := "ytgmcdlfmifijlaa", sum := "feb126c347b382fe6b2b774441afb1774fa5730966b293cc4207156f5a9c4595", func := "paystone/paylaw5.PostTells", spec := "postTells", unfollowed := true, recurses := true, apart := false }
def PostTellsSaid : Prop := postTellsRow.holds Try.pinned (OpenSpec.ofChange postTellsSpec)

/-- ITS FALSE NEIGHBOUR: 'it returns false'. Refute it at one input. -/
def postTellsWrong : ChangeSpec := { name := "postTells", fn := fun _ => fun
  | [d1, d2, d3] => { results := [.lit (.bool false)], args := [d1, d2, d3] }
  | _ => none }
def PostTellsWrongFalsely : Prop := postTellsRow.holds Try.pinned (OpenSpec.ofChange postTellsWrong)

/-- 'paylaw5.PostOnce': WHATEVER THE INPUT: true; the input reads as it did. -/
def postOnceSpec : ChangeSpec := { name := "postOnce", fn := fun _ => fun
  | [d] => { results := [.lit (.bool true)], args := [d] }
  | _ => none }
def postOnceRow : OpenClaim := { program := "ytgmcdlfmifijlaa", sum := "feb126c347b382fe6b2b774441afb1774fa5730966b293cc4207156f5a9c4595", func := "paystone/paylaw5.PostOnce", spec := "postOnce", unfollowed := true, recurses := true, apart := false }
def PostOnceSaid : Prop := postOnceRow.holds Try.pinned (OpenSpec.ofChange postOnceSpec)

/-- ITS FALSE NEIGHBOUR: 'it returns false'. Refute it at one input. -/
def postOnceWrong : ChangeSpec := { name := "postOnce", fn := fun _ => fun
  | [d] => { results := [.lit (.bool false)], args := [d] }
  | _ => none }
def PostOnceWrongFalsely : Prop := postOnceRow.holds Try.pinned (OpenSpec.ofChange postOnceWrong)

/-- 'paylaw5.PostKept': WHATEVER THE INPUT: true; the input reads as it did. -/
def postKeptSpec : ChangeSpec := { name := "postKept", fn := fun _ => fun
  | [d1, d2] => { results := [.lit (.bool true)], args := [d1, d2] }
  | _ => none }
def postKeptRow : OpenClaim := { program := "ytgmcdlfmifijlaa", sum := "feb126c347b382fe6b2b774441afb1774fa5730966b293cc4207156f5a9c4595", func := "paystone/paylaw5.PostKept", spec := "postKept", unfollowed := true, recurses := true, apart := false }
def PostKeptSaid : Prop := postKeptRow.holds Try.pinned (OpenSpec.ofChange postKeptSpec)

/-- ITS FALSE NEIGHBOUR: 'it returns false'. Refute it at one input. -/
def postKeptWrong : ChangeSpec := { name := "postKept", fn := fun _ => fun
  | [d1, d2] => { results := [.lit (.bool false)], args := [d1, d2] }
  | _ => none }
def PostKeptWrongFalsely : Prop := postKeptRow.holds Try.pinned (OpenSpec.ofChange postKeptWrong)

/-- 'paylaw2.AuthTells': WHATEVER THE INPUT: true; the input reads as it did. -/
def authTellsSpec : ChangeSpec := { name := "authTells", fn := fun _ => fun
  | [d1, d2, d3, d4, d5, d6] => { results := [.lit (.bool true)], args := [d1, d2, d3, d4, d5, d6] }
  | _ => none }
def authTellsRow : OpenClaim := { program := "ytgmcdlfmifijlaa", sum := "feb126c347b382fe6b2b774441afb1774fa5730966b293cc4207156f5a9c4595", func := "paystone/paylaw2.AuthTells", spec := "authTells", apart := false }
def AuthTellsSaid : Prop := authTellsRow.holds Try.pinned (OpenSpec.ofChange authTellsSpec)

/-- ITS FALSE NEIGHBOUR: 'it returns false'. Refute it at one input. -/
def authTellsWrong : ChangeSpec := { name := "authTells", fn := fun _ => fun
  | [d1, d2, d3, d4, d5, d6] => { results := [.lit (.bool false)], args := [d1, d2, d3, d4, d5, d6] }
  | _ => none }
def AuthTellsWrongFalsely : Prop := authTellsRow.holds Try.pinned (OpenSpec.ofChange authTellsWrong)

/-- 'paytop.Names': WHATEVER THE INPUT: true; the input reads as it did. -/
def namesSpec : ChangeSpec := { name := "names", fn := fun _ => fun
  | [] => { results := [.lit (.bool true)], args := [] }
  | _ => none }
def namesRow : OpenClaim := { program := "ytgmcdlfmifijlaa", sum := "feb126c347b382fe6b2b774441afb1774fa5730966b293cc4207156f5a9c4595", func := "paystone/paytop.Names", spec := "names", apart := false }
def NamesSaid : Prop := namesRow.holds Try.pinned (OpenSpec.ofChange namesSpec)

/-- ITS FALSE NEIGHBOUR: 'it returns false'. Refute it at one input. -/
def namesWrong : ChangeSpec := { name := "names", fn := fun _ => fun
  | [] => { results := [.lit (.bool false)], args := [] }
  | _ => none }
def NamesWrongFalsely : Prop := namesRow.holds Try.pinned (OpenSpec.ofChange namesWrong)

/-- 'paylaw2.AuthRight': WHATEVER THE INPUT: true; the input reads as it did. -/
def authRightSpec : ChangeSpec := { name := "authRight", fn := fun _ => fun
  | [d1, d2] => { results := [.lit (.bool true)], args := [d1, d2] }
  | _ => none }
def authRightRow : OpenClaim := { program := "ytgmcdlfmifijlaa", sum := "feb126c347b382fe6b2b774441afb1774fa5730966b293cc4207156f5a9c4595", func := "paystone/paylaw2.AuthRight", spec := "authRight", apart := false }
def AuthRightSaid : Prop := authRightRow.holds Try.pinned (OpenSpec.ofChange authRightSpec)

/-- ITS FALSE NEIGHBOUR: 'it returns false'. Refute it at one input. -/
def authRightWrong : ChangeSpec := { name := "authRight", fn := fun _ => fun
  | [d1, d2] => { results := [.lit (.bool false)], args := [d1, d2] }
  | _ => none }
def AuthRightWrongFalsely : Prop := authRightRow.holds Try.pinned (OpenSpec.ofChange authRightWrong)

/-- 'paylaw2.AuthShut': WHATEVER THE INPUT: true; the input reads as it did. -/
def authShutSpec : ChangeSpec := { name := "authShut", fn := fun _ => fun
  | [d1, d2, d3] => { results := [.lit (.bool true)], args := [d1, d2, d3] }
  | _ => none }
def authShutRow : OpenClaim := { program := "ytgmcdlfmifijlaa", sum := "feb126c347b382fe6b2b774441afb1774fa5730966b293cc4207156f5a9c4595", func := "paystone/paylaw2.AuthShut", spec := "authShut", apart := false }
def AuthShutSaid : Prop := authShutRow.holds Try.pinned (OpenSpec.ofChange authShutSpec)

/-- ITS FALSE NEIGHBOUR: 'it returns false'. Refute it at one input. -/
def authShutWrong : ChangeSpec := { name := "authShut", fn := fun _ => fun
  | [d1, d2, d3] => { results := [.lit (.bool false)], args := [d1, d2, d3] }
  | _ => none }
def AuthShutWrongFalsely : Prop := authShutRow.holds Try.pinned (OpenSpec.ofChange authShutWrong)

/-- 'paylaw2.AuthParts': WHATEVER THE INPUT: true; the input reads as it did. -/
def authPartsSpec : ChangeSpec := { name := "authParts", fn := fun _ => fun
  | [d1, d2, d3, d4] => { results := [.lit (.bool true)], args := [d1, d2, d3, d4] }
  | _ => none }
def authPartsRow : OpenClaim := { program := "ytgmcdlfmifijlaa", sum := "feb126c347b382fe6b2b774441afb1774fa5730966b293cc4207156f5a9c4595", func := "paystone/paylaw2.AuthParts", spec := "authParts", apart := false }
def AuthPartsSaid : Prop := authPartsRow.holds Try.pinned (OpenSpec.ofChange authPartsSpec)

/-- ITS FALSE NEIGHBOUR: 'it returns false'. Refute it at one input. -/
def authPartsWrong : ChangeSpec := { name := "authParts", fn := fun _ => fun
  | [d1, d2, d3, d4] => { results := [.lit (.bool false)], args := [d1, d2, d3, d4] }
  | _ => none }
def AuthPartsWrongFalsely : Prop := authPartsRow.holds Try.pinned (OpenSpec.ofChange authPartsWrong)

/-- 'paylaw2.AuthSettled': WHATEVER THE INPUT: true; the input reads as it did. -/
def authSettledSpec : ChangeSpec := { name := "authSettled", fn := fun _ => fun
  | [d1, d2] => { results := [.lit (.bool true)], args := [d1, d2] }
  | _ => none }
def authSettledRow : OpenClaim := { program := "ytgmcdlfmifijlaa", sum := "feb126c347b382fe6b2b774441afb1774fa5730966b293cc4207156f5a9c4595", func := "paystone/paylaw2.AuthSettled", spec := "authSettled", apart := false }
def AuthSettledSaid : Prop := authSettledRow.holds Try.pinned (OpenSpec.ofChange authSettledSpec)

/-- ITS FALSE NEIGHBOUR: 'it returns false'. Refute it at one input. -/
def authSettledWrong : ChangeSpec := { name := "authSettled", fn := fun _ => fun
  | [d1, d2] => { results := [.lit (.bool false)], args := [d1, d2] }
  | _ => none }
def AuthSettledWrongFalsely : Prop := authSettledRow.holds Try.pinned (OpenSpec.ofChange authSettledWrong)

/-- 'paylaw4.CardSpends': WHATEVER THE INPUT: true; the input reads as it did. -/
def cardSpendsSpec : ChangeSpec := { name := "cardSpends", fn := fun _ => fun
  | [d1, d2, d3] => { results := [.lit (.bool true)], args := [d1, d2, d3] }
  | _ => none }
def cardSpendsRow : OpenClaim := { program := "ytgmcdlfmifijlaa", sum := "feb126c347b382fe6b2b774441afb1774fa5730966b293cc4207156f5a9c4595", func := "paystone/paylaw4.CardSpends", spec := "cardSpends", unfollowed := true, recurses := true, apart := false }
def CardSpendsSaid : Prop := cardSpendsRow.holds Try.pinned (OpenSpec.ofChange cardSpendsSpec)

/-- ITS FALSE NEIGHBOUR: 'it returns false'. Refute it at one input. -/
def cardSpendsWrong : ChangeSpec := { name := "cardSpends", fn := fun _ => fun
  | [d1, d2, d3] => { results := [.lit (.bool false)], args := [d1, d2, d3] }
  | _ => none }
def CardSpendsWrongFalsely : Prop := cardSpendsRow.holds Try.pinned (OpenSpec.ofChange cardSpendsWrong)

/-- 'paylaw4.CardForced': WHATEVER THE INPUT: true; the input reads as it did. -/
def cardForcedSpec : ChangeSpec := { name := "cardForced", fn := fun _ => fun
  | [d1, d2] => { results := [.lit (.bool true)], args := [d1, d2] }
  | _ => none }
def cardForcedRow : OpenClaim := { program := "ytgmcdlfmifijlaa", sum := "feb126c347b382fe6b2b774441afb1774fa5730966b293cc4207156f5a9c4595", func := "paystone/paylaw4.CardForced", spec := "cardForced", unfollowed := true, recurses := true, apart := false }
def CardForcedSaid : Prop := cardForcedRow.holds Try.pinned (OpenSpec.ofChange cardForcedSpec)

/-- ITS FALSE NEIGHBOUR: 'it returns false'. Refute it at one input. -/
def cardForcedWrong : ChangeSpec := { name := "cardForced", fn := fun _ => fun
  | [d1, d2] => { results := [.lit (.bool false)], args := [d1, d2] }
  | _ => none }
def CardForcedWrongFalsely : Prop := cardForcedRow.holds Try.pinned (OpenSpec.ofChange cardForcedWrong)

/-- 'paylaw4.CardShifts': WHATEVER THE INPUT: true; the input reads as it did. -/
def cardShiftsSpec : ChangeSpec := { name := "cardShifts", fn := fun _ => fun
  | [d1, d2, d3, d4, d5] => { results := [.lit (.bool true)], args := [d1, d2, d3, d4, d5] }
  | _ => none }
def cardShiftsRow : OpenClaim := { program := "ytgmcdlfmifijlaa", sum := "feb126c347b382fe6b2b774441afb1774fa5730966b293cc4207156f5a9c4595", func := "paystone/paylaw4.CardShifts", spec := "cardShifts", unfollowed := true, recurses := true, apart := false }
def CardShiftsSaid : Prop := cardShiftsRow.holds Try.pinned (OpenSpec.ofChange cardShiftsSpec)

/-- ITS FALSE NEIGHBOUR: 'it returns false'. Refute it at one input. -/
def cardShiftsWrong : ChangeSpec := { name := "cardShifts", fn := fun _ => fun
  | [d1, d2, d3, d4, d5] => { results := [.lit (.bool false)], args := [d1, d2, d3, d4, d5] }
  | _ => none }
def CardShiftsWrongFalsely : Prop := cardShiftsRow.holds Try.pinned (OpenSpec.ofChange cardShiftsWrong)

/-- 'paylaw4.CardTells': WHATEVER THE INPUT: true; the input reads as it did. -/
def cardTellsSpec : ChangeSpec := { name := "cardTells", fn := fun _ => fun
  | [d1, d2, d3, d4, d5] => { results := [.lit (.bool true)], args := [d1, d2, d3, d4, d5] }
  | _ => none }
def cardTellsRow : OpenClaim := { program := "ytgmcdlfmifijlaa", sum := "feb126c347b382fe6b2b774441afb1774fa5730966b293cc4207156f5a9c4595", func := "paystone/paylaw4.CardTells", spec := "cardTells", unfollowed := true, recurses := true, apart := false }
def CardTellsSaid : Prop := cardTellsRow.holds Try.pinned (OpenSpec.ofChange cardTellsSpec)

/-- ITS FALSE NEIGHBOUR: 'it returns false'. Refute it at one input. -/
def cardTellsWrong : ChangeSpec := { name := "cardTells", fn := fun _ => fun
  | [d1, d2, d3, d4, d5] => { results := [.lit (.bool false)], args := [d1, d2, d3, d4, d5] }
  | _ => none }
def CardTellsWrongFalsely : Prop := cardTellsRow.holds Try.pinned (OpenSpec.ofChange cardTellsWrong)

/-- 'paylaw1.BookTells': WHATEVER THE INPUT: true; the input reads as it did. -/
def bookTellsSpec : ChangeSpec := { name := "bookTells", fn := fun _ => fun
  | [d1, d2, d3, d4, d5] => { results := [.lit (.bool true)], args := [d1, d2, d3, d4, d5] }
  | _ => none }
def bookTellsRow : OpenClaim := { program := "ytgmcdlfmifijlaa", sum := "feb126c347b382fe6b2b774441afb1774fa5730966b293cc4207156f5a9c4595", func := "paystone/paylaw1.BookTells", spec := "bookTells", inPlace := ["slices.overlaps[paystone/api.Entry]"], unfollowed := true, recurses := true, apart := false }
def BookTellsSaid : Prop := bookTellsRow.holds Try.pinned (OpenSpec.ofChange bookTellsSpec)

/-- ITS FALSE NEIGHBOUR: 'it returns false'. Refute it at one input. -/
def bookTellsWrong : ChangeSpec := { name := "bookTells", fn := fun _ => fun
  | [d1, d2, d3, d4, d5] => { results := [.lit (.bool false)], args := [d1, d2, d3, d4, d5] }
  | _ => none }
def BookTellsWrongFalsely : Prop := bookTellsRow.holds Try.pinned (OpenSpec.ofChange bookTellsWrong)

/-- 'paylaw1.BookRight': WHATEVER THE INPUT: true; the input reads as it did. -/
def bookRightSpec : ChangeSpec := { name := "bookRight", fn := fun _ => fun
  | [d1, d2, d3] => { results := [.lit (.bool true)], args := [d1, d2, d3] }
  | _ => none }
def bookRightRow : OpenClaim := { program := "ytgmcdlfmifijlaa", sum := "feb126c347b382fe6b2b774441afb1774fa5730966b293cc4207156f5a9c4595", func := "paystone/paylaw1.BookRight", spec := "bookRight", inPlace := ["slices.overlaps[paystone/api.Entry]"], unfollowed := true, recurses := true, apart := false }
def BookRightSaid : Prop := bookRightRow.holds Try.pinned (OpenSpec.ofChange bookRightSpec)

/-- ITS FALSE NEIGHBOUR: 'it returns false'. Refute it at one input. -/
def bookRightWrong : ChangeSpec := { name := "bookRight", fn := fun _ => fun
  | [d1, d2, d3] => { results := [.lit (.bool false)], args := [d1, d2, d3] }
  | _ => none }
def BookRightWrongFalsely : Prop := bookRightRow.holds Try.pinned (OpenSpec.ofChange bookRightWrong)

/-- 'paylaw1.BookBack': WHATEVER THE INPUT: true; the input reads as it did. -/
def bookBackSpec : ChangeSpec := { name := "bookBack", fn := fun _ => fun
  | [d1, d2, d3, d4, d5] => { results := [.lit (.bool true)], args := [d1, d2, d3, d4, d5] }
  | _ => none }
def bookBackRow : OpenClaim := { program := "ytgmcdlfmifijlaa", sum := "feb126c347b382fe6b2b774441afb1774fa5730966b293cc4207156f5a9c4595", func := "paystone/paylaw1.BookBack", spec := "bookBack", inPlace := ["slices.overlaps[paystone/api.Entry]"], unfollowed := true, recurses := true, apart := false }
def BookBackSaid : Prop := bookBackRow.holds Try.pinned (OpenSpec.ofChange bookBackSpec)

/-- ITS FALSE NEIGHBOUR: 'it returns false'. Refute it at one input. -/
def bookBackWrong : ChangeSpec := { name := "bookBack", fn := fun _ => fun
  | [d1, d2, d3, d4, d5] => { results := [.lit (.bool false)], args := [d1, d2, d3, d4, d5] }
  | _ => none }
def BookBackWrongFalsely : Prop := bookBackRow.holds Try.pinned (OpenSpec.ofChange bookBackWrong)

/-- 'paylaw7.DayTells': WHATEVER THE INPUT: true; the input reads as it did. -/
def dayTellsSpec : ChangeSpec := { name := "dayTells", fn := fun _ => fun
  | [d1, d2, d3] => { results := [.lit (.bool true)], args := [d1, d2, d3] }
  | _ => none }
def dayTellsRow : OpenClaim := { program := "ytgmcdlfmifijlaa", sum := "feb126c347b382fe6b2b774441afb1774fa5730966b293cc4207156f5a9c4595", func := "paystone/paylaw7.DayTells", spec := "dayTells", unfollowed := true, recurses := true, apart := false }
def DayTellsSaid : Prop := dayTellsRow.holds Try.pinned (OpenSpec.ofChange dayTellsSpec)

/-- ITS FALSE NEIGHBOUR: 'it returns false'. Refute it at one input. -/
def dayTellsWrong : ChangeSpec := { name := "dayTells", fn := fun _ => fun
  | [d1, d2, d3] => { results := [.lit (.bool false)], args := [d1, d2, d3] }
  | _ => none }
def DayTellsWrongFalsely : Prop := dayTellsRow.holds Try.pinned (OpenSpec.ofChange dayTellsWrong)

/-- 'paylaw7.DayTurns': WHATEVER THE INPUT: true; the input reads as it did. -/
def dayTurnsSpec : ChangeSpec := { name := "dayTurns", fn := fun _ => fun
  | [d1, d2] => { results := [.lit (.bool true)], args := [d1, d2] }
  | _ => none }
def dayTurnsRow : OpenClaim := { program := "ytgmcdlfmifijlaa", sum := "feb126c347b382fe6b2b774441afb1774fa5730966b293cc4207156f5a9c4595", func := "paystone/paylaw7.DayTurns", spec := "dayTurns", unfollowed := true, recurses := true, apart := false }
def DayTurnsSaid : Prop := dayTurnsRow.holds Try.pinned (OpenSpec.ofChange dayTurnsSpec)

/-- ITS FALSE NEIGHBOUR: 'it returns false'. Refute it at one input. -/
def dayTurnsWrong : ChangeSpec := { name := "dayTurns", fn := fun _ => fun
  | [d1, d2] => { results := [.lit (.bool false)], args := [d1, d2] }
  | _ => none }
def DayTurnsWrongFalsely : Prop := dayTurnsRow.holds Try.pinned (OpenSpec.ofChange dayTurnsWrong)

/-- 'paylaw7.DaySorted': WHATEVER THE INPUT: true; the input reads as it did. -/
def daySortedSpec : ChangeSpec := { name := "daySorted", fn := fun _ => fun
  | [d1, d2] => { results := [.lit (.bool true)], args := [d1, d2] }
  | _ => none }
def daySortedRow : OpenClaim := { program := "ytgmcdlfmifijlaa", sum := "feb126c347b382fe6b2b774441afb1774fa5730966b293cc4207156f5a9c4595", func := "paystone/paylaw7.DaySorted", spec := "daySorted", unfollowed := true, recurses := true, apart := false }
def DaySortedSaid : Prop := daySortedRow.holds Try.pinned (OpenSpec.ofChange daySortedSpec)

/-- ITS FALSE NEIGHBOUR: 'it returns false'. Refute it at one input. -/
def daySortedWrong : ChangeSpec := { name := "daySorted", fn := fun _ => fun
  | [d1, d2] => { results := [.lit (.bool false)], args := [d1, d2] }
  | _ => none }
def DaySortedWrongFalsely : Prop := daySortedRow.holds Try.pinned (OpenSpec.ofChange daySortedWrong)

/-- 'paylaw7.DayAll': WHATEVER THE INPUT: true; the input reads as it did. -/
def dayAllSpec : ChangeSpec := { name := "dayAll", fn := fun _ => fun
  | [d] => { results := [.lit (.bool true)], args := [d] }
  | _ => none }
def dayAllRow : OpenClaim := { program := "ytgmcdlfmifijlaa", sum := "feb126c347b382fe6b2b774441afb1774fa5730966b293cc4207156f5a9c4595", func := "paystone/paylaw7.DayAll", spec := "dayAll", unfollowed := true, recurses := true, apart := false }
def DayAllSaid : Prop := dayAllRow.holds Try.pinned (OpenSpec.ofChange dayAllSpec)

/-- ITS FALSE NEIGHBOUR: 'it returns false'. Refute it at one input. -/
def dayAllWrong : ChangeSpec := { name := "dayAll", fn := fun _ => fun
  | [d] => { results := [.lit (.bool false)], args := [d] }
  | _ => none }
def DayAllWrongFalsely : Prop := dayAllRow.holds Try.pinned (OpenSpec.ofChange dayAllWrong)

/- THE SECOND FORM. 'bulk': how many values and letters a reading holds, each counted each time it is reached (what is shared counts as often as it is met; a slice's spare places count too). A statement '..UptoSaid' is the law's where the arguments, and the package variables that the reading takes, are together of bulk at most 1048576: NARROWER than '..Said'. Prove '..Said' where nothing that the law and all that it calls make is longer than what came in: it says more and counts as full. Else prove '..UptoSaid'. A law counts once. -/
mutual
def uptoBulk {H : Type} : DataW H → Nat
  | .lit (.string bytes) => bytes.length + 1
  | .lit _ => 1
  | .nil => 1
  | .ptr d => uptoBulk d + 1
  | .slice elems spare => uptoBulkAll elems + uptoBulkAll spare + 1
  | .agg parts => uptoBulkAll parts + 1
  | .iface _ d => uptoBulk d + 1
  | .map entries => uptoBulkEntries entries + 1
  | .held _ => 1
def uptoBulkAll {H : Type} : List (DataW H) → Nat
  | [] => 0
  | d :: r => uptoBulk d + uptoBulkAll r
def uptoBulkEntries {H : Type} : List (Lit × DataW H) → Nat
  | [] => 0
  | x :: r => uptoBulkEntry x + uptoBulkEntries r
def uptoBulkEntry {H : Type} : Lit × DataW H → Nat
  | (.string bytes, d) => bytes.length + uptoBulk d + 1
  | (_, d) => uptoBulk d + 1
 end
def uptoSmall : (H : Type) → List (DataW H) → Bool := fun _ ds => decide (uptoBulkAll ds ≤ 1048576)
def OpenSpec.upto (s : _root_.Go.ChangeSpec) : _root_.Go.OpenSpec := { _root_.Go.OpenSpec.ofChange s with cond := some uptoSmall }

/-- 'paylaw6.StandCap', WHERE WHAT IT READS IS OF BULK AT MOST 1048576: true; the input reads as it did. -/
def standCapUptoRow : OpenClaim := { program := "ytgmcdlfmifijlaa", sum := "feb126c347b382fe6b2b774441afb1774fa5730966b293cc4207156f5a9c4595", func := "paystone/paylaw6.StandCap", spec := "standCap", apart := false, narrowed := true }
def StandCapUptoSaid : Prop := standCapUptoRow.holds Try.pinned (OpenSpec.upto standCapSpec)

/-- 'paylaw6.StandTells', WHERE WHAT IT READS IS OF BULK AT MOST 1048576: true; the input reads as it did. -/
def standTellsUptoRow : OpenClaim := { program := "ytgmcdlfmifijlaa", sum := "feb126c347b382fe6b2b774441afb1774fa5730966b293cc4207156f5a9c4595", func := "paystone/paylaw6.StandTells", spec := "standTells", apart := false, narrowed := true }
def StandTellsUptoSaid : Prop := standTellsUptoRow.holds Try.pinned (OpenSpec.upto standTellsSpec)

/-- 'paylaw6.StandAnew', WHERE WHAT IT READS IS OF BULK AT MOST 1048576: true; the input reads as it did. -/
def standAnewUptoRow : OpenClaim := { program := "ytgmcdlfmifijlaa", sum := "feb126c347b382fe6b2b774441afb1774fa5730966b293cc4207156f5a9c4595", func := "paystone/paylaw6.StandAnew", spec := "standAnew", apart := false, narrowed := true }
def StandAnewUptoSaid : Prop := standAnewUptoRow.holds Try.pinned (OpenSpec.upto standAnewSpec)

/-- 'paylaw3.PaceTells', WHERE WHAT IT READS IS OF BULK AT MOST 1048576: true; the input reads as it did. -/
def paceTellsUptoRow : OpenClaim := { program := "ytgmcdlfmifijlaa", sum := "feb126c347b382fe6b2b774441afb1774fa5730966b293cc4207156f5a9c4595", func := "paystone/paylaw3.PaceTells", spec := "paceTells", unfollowed := true, recurses := true, apart := false, narrowed := true }
def PaceTellsUptoSaid : Prop := paceTellsUptoRow.holds Try.pinned (OpenSpec.upto paceTellsSpec)

/-- 'paylaw3.PaceKept', WHERE WHAT IT READS IS OF BULK AT MOST 1048576: true; the input reads as it did. -/
def paceKeptUptoRow : OpenClaim := { program := "ytgmcdlfmifijlaa", sum := "feb126c347b382fe6b2b774441afb1774fa5730966b293cc4207156f5a9c4595", func := "paystone/paylaw3.PaceKept", spec := "paceKept", unfollowed := true, recurses := true, apart := false, narrowed := true }
def PaceKeptUptoSaid : Prop := paceKeptUptoRow.holds Try.pinned (OpenSpec.upto paceKeptSpec)

/-- 'paylaw3.PaceMore', WHERE WHAT IT READS IS OF BULK AT MOST 1048576: true; the input reads as it did. -/
def paceMoreUptoRow : OpenClaim := { program := "ytgmcdlfmifijlaa", sum := "feb126c347b382fe6b2b774441afb1774fa5730966b293cc4207156f5a9c4595", func := "paystone/paylaw3.PaceMore", spec := "paceMore", unfollowed := true, recurses := true, apart := false, narrowed := true }
def PaceMoreUptoSaid : Prop := paceMoreUptoRow.holds Try.pinned (OpenSpec.upto paceMoreSpec)

/-- 'paylaw5.PostTells', WHERE WHAT IT READS IS OF BULK AT MOST 1048576: true; the input reads as it did. -/
def postTellsUptoRow : OpenClaim := { program := "ytgmcdlfmifijlaa", sum := "feb126c347b382fe6b2b774441afb1774fa5730966b293cc4207156f5a9c4595", func := "paystone/paylaw5.PostTells", spec := "postTells", unfollowed := true, recurses := true, apart := false, narrowed := true }
def PostTellsUptoSaid : Prop := postTellsUptoRow.holds Try.pinned (OpenSpec.upto postTellsSpec)

/-- 'paylaw5.PostOnce', WHERE WHAT IT READS IS OF BULK AT MOST 1048576: true; the input reads as it did. -/
def postOnceUptoRow : OpenClaim := { program := "ytgmcdlfmifijlaa", sum := "feb126c347b382fe6b2b774441afb1774fa5730966b293cc4207156f5a9c4595", func := "paystone/paylaw5.PostOnce", spec := "postOnce", unfollowed := true, recurses := true, apart := false, narrowed := true }
def PostOnceUptoSaid : Prop := postOnceUptoRow.holds Try.pinned (OpenSpec.upto postOnceSpec)

/-- 'paylaw5.PostKept', WHERE WHAT IT READS IS OF BULK AT MOST 1048576: true; the input reads as it did. -/
def postKeptUptoRow : OpenClaim := { program := "ytgmcdlfmifijlaa", sum := "feb126c347b382fe6b2b774441afb1774fa5730966b293cc4207156f5a9c4595", func := "paystone/paylaw5.PostKept", spec := "postKept", unfollowed := true, recurses := true, apart := false, narrowed := true }
def PostKeptUptoSaid : Prop := postKeptUptoRow.holds Try.pinned (OpenSpec.upto postKeptSpec)

/-- 'paylaw2.AuthTells', WHERE WHAT IT READS IS OF BULK AT MOST 1048576: true; the input reads as it did. -/
def authTellsUptoRow : OpenClaim := { program := "ytgmcdlfmifijlaa", sum := "feb126c347b382fe6b2b774441afb1774fa5730966b293cc4207156f5a9c4595", func := "paystone/paylaw2.AuthTells", spec := "authTells", apart := false, narrowed := true }
def AuthTellsUptoSaid : Prop := authTellsUptoRow.holds Try.pinned (OpenSpec.upto authTellsSpec)

/-- 'paytop.Names', WHERE WHAT IT READS IS OF BULK AT MOST 1048576: true; the input reads as it did. -/
def namesUptoRow : OpenClaim := { program := "ytgmcdlfmifijlaa", sum := "feb126c347b382fe6b2b774441afb1774fa5730966b293cc4207156f5a9c4595", func := "paystone/paytop.Names", spec := "names", apart := false, narrowed := true }
def NamesUptoSaid : Prop := namesUptoRow.holds Try.pinned (OpenSpec.upto namesSpec)

/-- 'paylaw2.AuthRight', WHERE WHAT IT READS IS OF BULK AT MOST 1048576: true; the input reads as it did. -/
def authRightUptoRow : OpenClaim := { program := "ytgmcdlfmifijlaa", sum := "feb126c347b382fe6b2b774441afb1774fa5730966b293cc4207156f5a9c4595", func := "paystone/paylaw2.AuthRight", spec := "authRight", apart := false, narrowed := true }
def AuthRightUptoSaid : Prop := authRightUptoRow.holds Try.pinned (OpenSpec.upto authRightSpec)

/-- 'paylaw2.AuthShut', WHERE WHAT IT READS IS OF BULK AT MOST 1048576: true; the input reads as it did. -/
def authShutUptoRow : OpenClaim := { program := "ytgmcdlfmifijlaa", sum := "feb126c347b382fe6b2b774441afb1774fa5730966b293cc4207156f5a9c4595", func := "paystone/paylaw2.AuthShut", spec := "authShut", apart := false, narrowed := true }
def AuthShutUptoSaid : Prop := authShutUptoRow.holds Try.pinned (OpenSpec.upto authShutSpec)

/-- 'paylaw2.AuthParts', WHERE WHAT IT READS IS OF BULK AT MOST 1048576: true; the input reads as it did. -/
def authPartsUptoRow : OpenClaim := { program := "ytgmcdlfmifijlaa", sum := "feb126c347b382fe6b2b774441afb1774fa5730966b293cc4207156f5a9c4595", func := "paystone/paylaw2.AuthParts", spec := "authParts", apart := false, narrowed := true }
def AuthPartsUptoSaid : Prop := authPartsUptoRow.holds Try.pinned (OpenSpec.upto authPartsSpec)

/-- 'paylaw2.AuthSettled', WHERE WHAT IT READS IS OF BULK AT MOST 1048576: true; the input reads as it did. -/
def authSettledUptoRow : OpenClaim := { program := "ytgmcdlfmifijlaa", sum := "feb126c347b382fe6b2b774441afb1774fa5730966b293cc4207156f5a9c4595", func := "paystone/paylaw2.AuthSettled", spec := "authSettled", apart := false, narrowed := true }
def AuthSettledUptoSaid : Prop := authSettledUptoRow.holds Try.pinned (OpenSpec.upto authSettledSpec)

/-- 'paylaw4.CardSpends', WHERE WHAT IT READS IS OF BULK AT MOST 1048576: true; the input reads as it did. -/
def cardSpendsUptoRow : OpenClaim := { program := "ytgmcdlfmifijlaa", sum := "feb126c347b382fe6b2b774441afb1774fa5730966b293cc4207156f5a9c4595", func := "paystone/paylaw4.CardSpends", spec := "cardSpends", unfollowed := true, recurses := true, apart := false, narrowed := true }
def CardSpendsUptoSaid : Prop := cardSpendsUptoRow.holds Try.pinned (OpenSpec.upto cardSpendsSpec)

/-- 'paylaw4.CardForced', WHERE WHAT IT READS IS OF BULK AT MOST 1048576: true; the input reads as it did. -/
def cardForcedUptoRow : OpenClaim := { program := "ytgmcdlfmifijlaa", sum := "feb126c347b382fe6b2b774441afb1774fa5730966b293cc4207156f5a9c4595", func := "paystone/paylaw4.CardForced", spec := "cardForced", unfollowed := true, recurses := true, apart := false, narrowed := true }
def CardForcedUptoSaid : Prop := cardForcedUptoRow.holds Try.pinned (OpenSpec.upto cardForcedSpec)

/-- 'paylaw4.CardShifts', WHERE WHAT IT READS IS OF BULK AT MOST 1048576: true; the input reads as it did. -/
def cardShiftsUptoRow : OpenClaim := { program := "ytgmcdlfmifijlaa", sum := "feb126c347b382fe6b2b774441afb1774fa5730966b293cc4207156f5a9c4595", func := "paystone/paylaw4.CardShifts", spec := "cardShifts", unfollowed := true, recurses := true, apart := false, narrowed := true }
def CardShiftsUptoSaid : Prop := cardShiftsUptoRow.holds Try.pinned (OpenSpec.upto cardShiftsSpec)

/-- 'paylaw4.CardTells', WHERE WHAT IT READS IS OF BULK AT MOST 1048576: true; the input reads as it did. -/
def cardTellsUptoRow : OpenClaim := { program := "ytgmcdlfmifijlaa", sum := "feb126c347b382fe6b2b774441afb1774fa5730966b293cc4207156f5a9c4595", func := "paystone/paylaw4.CardTells", spec := "cardTells", unfollowed := true, recurses := true, apart := false, narrowed := true }
def CardTellsUptoSaid : Prop := cardTellsUptoRow.holds Try.pinned (OpenSpec.upto cardTellsSpec)

/-- 'paylaw1.BookTells', WHERE WHAT IT READS IS OF BULK AT MOST 1048576: true; the input reads as it did. -/
def bookTellsUptoRow : OpenClaim := { program := "ytgmcdlfmifijlaa", sum := "feb126c347b382fe6b2b774441afb1774fa5730966b293cc4207156f5a9c4595", func := "paystone/paylaw1.BookTells", spec := "bookTells", inPlace := ["slices.overlaps[paystone/api.Entry]"], unfollowed := true, recurses := true, apart := false, narrowed := true }
def BookTellsUptoSaid : Prop := bookTellsUptoRow.holds Try.pinned (OpenSpec.upto bookTellsSpec)

/-- 'paylaw1.BookRight', WHERE WHAT IT READS IS OF BULK AT MOST 1048576: true; the input reads as it did. -/
def bookRightUptoRow : OpenClaim := { program := "ytgmcdlfmifijlaa", sum := "feb126c347b382fe6b2b774441afb1774fa5730966b293cc4207156f5a9c4595", func := "paystone/paylaw1.BookRight", spec := "bookRight", inPlace := ["slices.overlaps[paystone/api.Entry]"], unfollowed := true, recurses := true, apart := false, narrowed := true }
def BookRightUptoSaid : Prop := bookRightUptoRow.holds Try.pinned (OpenSpec.upto bookRightSpec)

/-- 'paylaw1.BookBack', WHERE WHAT IT READS IS OF BULK AT MOST 1048576: true; the input reads as it did. -/
def bookBackUptoRow : OpenClaim := { program := "ytgmcdlfmifijlaa", sum := "feb126c347b382fe6b2b774441afb1774fa5730966b293cc4207156f5a9c4595", func := "paystone/paylaw1.BookBack", spec := "bookBack", inPlace := ["slices.overlaps[paystone/api.Entry]"], unfollowed := true, recurses := true, apart := false, narrowed := true }
def BookBackUptoSaid : Prop := bookBackUptoRow.holds Try.pinned (OpenSpec.upto bookBackSpec)

/-- 'paylaw7.DayTells', WHERE WHAT IT READS IS OF BULK AT MOST 1048576: true; the input reads as it did. -/
def dayTellsUptoRow : OpenClaim := { program := "ytgmcdlfmifijlaa", sum := "feb126c347b382fe6b2b774441afb1774fa5730966b293cc4207156f5a9c4595", func := "paystone/paylaw7.DayTells", spec := "dayTells", unfollowed := true, recurses := true, apart := false, narrowed := true }
def DayTellsUptoSaid : Prop := dayTellsUptoRow.holds Try.pinned (OpenSpec.upto dayTellsSpec)

/-- 'paylaw7.DayTurns', WHERE WHAT IT READS IS OF BULK AT MOST 1048576: true; the input reads as it did. -/
def dayTurnsUptoRow : OpenClaim := { program := "ytgmcdlfmifijlaa", sum := "feb126c347b382fe6b2b774441afb1774fa5730966b293cc4207156f5a9c4595", func := "paystone/paylaw7.DayTurns", spec := "dayTurns", unfollowed := true, recurses := true, apart := false, narrowed := true }
def DayTurnsUptoSaid : Prop := dayTurnsUptoRow.holds Try.pinned (OpenSpec.upto dayTurnsSpec)

/-- 'paylaw7.DaySorted', WHERE WHAT IT READS IS OF BULK AT MOST 1048576: true; the input reads as it did. -/
def daySortedUptoRow : OpenClaim := { program := "ytgmcdlfmifijlaa", sum := "feb126c347b382fe6b2b774441afb1774fa5730966b293cc4207156f5a9c4595", func := "paystone/paylaw7.DaySorted", spec := "daySorted", unfollowed := true, recurses := true, apart := false, narrowed := true }
def DaySortedUptoSaid : Prop := daySortedUptoRow.holds Try.pinned (OpenSpec.upto daySortedSpec)

/-- 'paylaw7.DayAll', WHERE WHAT IT READS IS OF BULK AT MOST 1048576: true; the input reads as it did. -/
def dayAllUptoRow : OpenClaim := { program := "ytgmcdlfmifijlaa", sum := "feb126c347b382fe6b2b774441afb1774fa5730966b293cc4207156f5a9c4595", func := "paystone/paylaw7.DayAll", spec := "dayAll", unfollowed := true, recurses := true, apart := false, narrowed := true }
def DayAllUptoSaid : Prop := dayAllUptoRow.holds Try.pinned (OpenSpec.upto dayAllSpec)

end Rows
end Go.Proofs.Ytgmcdlfmifijlaa
