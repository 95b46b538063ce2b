/- The plain data of the program and what its functions answer, as Lean functions on lists and integers; no program in sight; no condition. -/
namespace Go.Proofs.Ytgmcdlfmifijlaa.Pay

structure Advice where (card shop sum time : Int)
  deriving DecidableEq, Repr
structure Stand where (cap : Int) (used : List Int) (advices : List Advice)
  deriving DecidableEq, Repr

/-! stand -/
def sumB (n : Int) : Bool := decide (0 ≤ n ∧ n ≤ 1000000)
def okAdv (cards : Nat) (a : Advice) : Bool :=
  decide (0 ≤ a.card ∧ a.card < cards ∧ 0 ≤ a.shop ∧ a.shop ≤ 7 ∧ 1 ≤ a.sum ∧ a.sum ≤ 1000000 ∧ 0 ≤ a.time ∧ a.time ≤ 1000000)
/-- what card k was given -/
def given (k : Int) : List Advice → Int
  | [] => 0
  | a :: l => (if a.card = k then a.sum else 0) + given k l
/-- the cards' own test, from card k on -/
def fitUsed (cap : Int) (advs : List Advice) : Int → List Int → Int
  | _, [] => 0
  | k, n :: l => if n = given k advs ∧ n ≤ cap then fitUsed cap advs (k + 1) l else 8
def wrongStand (s : Stand) : Int :=
  if 8 < s.used.length ∨ 20 < s.advices.length then 5
  else if ¬ sumB s.cap then 3
  else if ¬ s.advices.all (okAdv s.used.length) then 3
  else fitUsed s.cap s.advices 0 s.used
def noStand : Stand := { cap := 0, used := [], advices := [] }
def newStand (limit cards : Int) : Stand × Int :=
  if cards < 0 ∨ 8 < cards then (noStand, 5) else if ¬ sumB limit then (noStand, 3) else ({ cap := limit, used := List.replicate cards.toNat 0, advices := [] }, 0)
def giveStand (s : Stand) (a : Advice) : Stand × Int :=
  if wrongStand s ≠ 0 then (noStand, wrongStand s)
  else if 20 ≤ s.advices.length then (noStand, 5)
  else if ¬ okAdv s.used.length a then (noStand, 3)
  else if s.cap < s.used.getD a.card.toNat 0 + a.sum then (noStand, 10)
  else ({ cap := s.cap, used := s.used.set a.card.toNat (s.used.getD a.card.toNat 0 + a.sum), advices := s.advices ++ [a] }, 0)
def clearStand (s : Stand) : Stand × List Advice × Int :=
  if wrongStand s ≠ 0 then (noStand, [], wrongStand s) else ({ cap := s.cap, used := List.replicate s.used.length 0, advices := [] }, s.advices, 0)

end Go.Proofs.Ytgmcdlfmifijlaa.Pay
