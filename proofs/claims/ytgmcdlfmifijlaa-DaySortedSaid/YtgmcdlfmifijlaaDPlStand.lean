/- Plain facts on stands; no condition. -/
import Derived.Test.YtgmcdlfmifijlaaDDat
set_option linter.unusedVariables false
set_option linter.unusedSimpArgs false
namespace Go.Proofs.Ytgmcdlfmifijlaa.Dev
theorem drop_get {α : Type} {l : List α} {q : Nat} {x : α} (h : l[q]? = some x) : l.drop q = x :: l.drop (q + 1) := by
  obtain ⟨hq, rfl⟩ := List.getElem?_eq_some_iff.1 h
  exact List.drop_eq_getElem_cons hq
theorem take_get {α : Type} {l : List α} {q : Nat} {x : α} (h : l[q]? = some x) : l.take (q + 1) = l.take q ++ [x] := by
  obtain ⟨hq, rfl⟩ := List.getElem?_eq_some_iff.1 h
  exact List.take_succ_eq_append_getElem hq
structure Stand where (cap : Int) (used : List Int) (advices : List Advice)
  deriving DecidableEq

/-! stand -/
def capB (n : Int) : Bool := decide (0 ≤ n ∧ n ≤ 1000000)
def okAdv (cards : Nat) (a : Advice) : Bool :=
  decide (0 ≤ a.card ∧ a.card < cards ∧ 0 ≤ a.shop ∧ a.shop ≤ 7 ∧ 1 ≤ a.sum ∧ a.sum ≤ 1000000 ∧ 0 ≤ a.time ∧ a.time ≤ 1000000)
/-- what card k was given -/
def given (k : Int) : List Advice → Int
  | [] => 0
  | a :: l => (if a.card = k then a.sum else 0) + given k l
/-- the cards' own test, from card k on -/
def fitUsed (cap : Int) (advs : List Advice) : Int → List Int → Int
  | _, [] => 0
  | k, n :: l => if n = given k advs ∧ n ≤ cap then fitUsed cap advs (k + 1) l else 8
def wrongStand (s : Stand) : Int :=
  if 8 < s.used.length ∨ 20 < s.advices.length then 5
  else if ¬ capB s.cap then 3
  else if ¬ s.advices.all (okAdv s.used.length) then 3
  else fitUsed s.cap s.advices 0 s.used
def noStand : Stand := { cap := 0, used := [], advices := [] }
def newStand (limit cards : Int) : Stand × Int :=
  if cards < 0 ∨ 8 < cards then (noStand, 5) else if ¬ capB limit then (noStand, 3) else ({ cap := limit, used := List.replicate cards.toNat 0, advices := [] }, 0)
def giveStand (s : Stand) (a : Advice) : Stand × Int :=
  if wrongStand s ≠ 0 then (noStand, wrongStand s)
  else if 20 ≤ s.advices.length then (noStand, 5)
  else if ¬ okAdv s.used.length a then (noStand, 3)
  else if s.cap < s.used.getD a.card.toNat 0 + a.sum then (noStand, 10)
  else ({ cap := s.cap, used := s.used.set a.card.toNat (s.used.getD a.card.toNat 0 + a.sum), advices := s.advices ++ [a] }, 0)
def clearStand (s : Stand) : Stand × List Advice × Int :=
  if wrongStand s ≠ 0 then (noStand, [], wrongStand s) else ({ cap := s.cap, used := List.replicate s.used.length 0, advices := [] }, s.advices, 0)

theorem given_snoc (k : Int) (l : List Advice) (a : Advice) : given k (l ++ [a]) = given k l + if a.card = k then a.sum else 0 := by
  induction l with
  | nil => simp [given]
  | cons x l ih => simp only [List.cons_append, given, ih]; omega
theorem given_bound (c : Nat) (k : Int) (l : List Advice) (h : l.all (okAdv c) = true) : 0 ≤ given k l ∧ given k l ≤ 1000000 * l.length := by
  induction l with
  | nil => simp [given]
  | cons x l ih =>
    simp only [List.all_cons, Bool.and_eq_true, okAdv, decide_eq_true_eq] at h
    have := ih h.2
    simp only [given, List.length_cons]
    split <;> omega
theorem all_take {α : Type} (p : α → Bool) (l : List α) (n : Nat) (h : l.all p = true) : (l.take n).all p = true := by
  rw [List.all_eq_true] at h ⊢
  exact fun x hx => h x (List.mem_of_mem_take hx)
theorem all_no {α : Type} {p : α → Bool} {l : List α} {q : Nat} {x : α} (h : l[q]? = some x) (hx : p x = false) : l.all p = false := by
  rw [List.all_eq_false]
  exact ⟨x, List.mem_of_getElem? h, by simp [hx]⟩
theorem all_yes {α : Type} {p : α → Bool} {l : List α} {q : Nat} {x : α} (ht : (l.take q).all p = true) (h : l[q]? = some x) (hx : p x = true) : (l.take (q + 1)).all p = true := by
  rw [take_get h, List.all_append, ht]; simp [hx]
theorem wrongStand_5 {s : Stand} (h : 8 < s.used.length ∨ 20 < s.advices.length) : wrongStand s = 5 := by unfold wrongStand; rw [if_pos h]
theorem wrongStand_cap {s : Stand} (h : ¬ (8 < s.used.length ∨ 20 < s.advices.length)) (hc : capB s.cap = false) : wrongStand s = 3 := by unfold wrongStand; rw [if_neg h, hc]; rfl
theorem wrongStand_adv {s : Stand} (h : ¬ (8 < s.used.length ∨ 20 < s.advices.length)) (hc : capB s.cap = true) (ha : s.advices.all (okAdv s.used.length) = false) : wrongStand s = 3 := by
  unfold wrongStand; rw [if_neg h, hc, ha]; rfl
theorem wrongStand_fit {s : Stand} (h : ¬ (8 < s.used.length ∨ 20 < s.advices.length)) (hc : capB s.cap = true) (ha : s.advices.all (okAdv s.used.length) = true) : wrongStand s = fitUsed s.cap s.advices 0 s.used := by
  unfold wrongStand; rw [if_neg h, hc, ha]; rfl


theorem fitUsed_iff (cap : Int) (advs : List Advice) : ∀ (l : List Int) (k : Int), fitUsed cap advs k l = 0 ↔ ∀ (i : Nat) (x : Int), l[i]? = some x → x = given (k + i) advs ∧ x ≤ cap
  | [], k => by simp [fitUsed]
  | n :: l, k => by
    rw [fitUsed]
    constructor
    · intro h i x hx
      split at h
      · rename_i hc
        rcases i with _ | i
        · simp at hx; subst hx; simpa using hc
        · have := (fitUsed_iff cap advs l (k + 1)).1 h i x (by simpa using hx)
          rw [show k + ((i + 1 : Nat) : Int) = k + 1 + i by omega]; exact this
      · cases h
    · intro h
      rw [if_pos (by simpa using h 0 n rfl)]
      exact (fitUsed_iff cap advs l (k + 1)).2 fun i x hx => by
        have := h (i + 1) x (by simpa using hx)
        rwa [show k + ((i + 1 : Nat) : Int) = k + 1 + i by omega] at this
theorem fitUsed_two (cap : Int) (advs : List Advice) : ∀ (l : List Int) (k : Int), fitUsed cap advs k l = 0 ∨ fitUsed cap advs k l = 8
  | [], _ => .inl rfl
  | n :: l, k => by
    rw [fitUsed]
    split
    · exact fitUsed_two cap advs l (k + 1)
    · exact .inr rfl
/-- a right stand, part by part -/
theorem right_parts {s : Stand} (h : wrongStand s = 0) : s.used.length ≤ 8 ∧ s.advices.length ≤ 20 ∧ capB s.cap = true ∧ s.advices.all (okAdv s.used.length) = true ∧ fitUsed s.cap s.advices 0 s.used = 0 := by
  by_cases h1 : 8 < s.used.length ∨ 20 < s.advices.length
  · rw [wrongStand_5 h1] at h; omega
  · cases hc : capB s.cap with
    | false => rw [wrongStand_cap h1 hc] at h; omega
    | true =>
      cases ha : s.advices.all (okAdv s.used.length) with
      | false => rw [wrongStand_adv h1 hc ha] at h; omega
      | true => rw [wrongStand_fit h1 hc ha] at h; exact ⟨by omega, by omega, rfl, rfl, h⟩
theorem give_bad {s : Stand} {a : Advice} (h : wrongStand s = 0) (hm : s.advices.length < 20) (ha : okAdv s.used.length a = false) (u : List Int) (hu : u.length = s.used.length) : wrongStand { cap := s.cap, used := u, advices := s.advices ++ [a] } = 3 := by
  obtain ⟨h1, h2, h3, h4, h5⟩ := right_parts h
  exact wrongStand_adv (by simp only [List.length_append, List.length_singleton]; omega) h3 (by simp [hu, ha])
theorem give_fit {s : Stand} {a : Advice} (h : wrongStand s = 0) (hm : s.advices.length < 20) (ha : okAdv s.used.length a = true) :
    wrongStand { cap := s.cap, used := s.used.set a.card.toNat (s.used.getD a.card.toNat 0 + a.sum), advices := s.advices ++ [a] } = if s.cap < s.used.getD a.card.toNat 0 + a.sum then 8 else 0 := by
  obtain ⟨h1, h2, h3, h4, h5⟩ := right_parts h
  have hok := ha
  simp only [okAdv, decide_eq_true_eq] at hok
  have hlt : a.card.toNat < s.used.length := by omega
  have hgx : s.used[a.card.toNat]? = some s.used[a.card.toNat] := List.getElem?_eq_getElem hlt
  have hgd : s.used.getD a.card.toNat 0 = s.used[a.card.toNat] := by simp [hlt]
  have hu : (s.used.set a.card.toNat (s.used.getD a.card.toNat 0 + a.sum)).length = s.used.length := List.length_set
  have h6 : wrongStand { cap := s.cap, used := s.used.set a.card.toNat (s.used.getD a.card.toNat 0 + a.sum), advices := s.advices ++ [a] } = fitUsed s.cap (s.advices ++ [a]) 0 (s.used.set a.card.toNat (s.used.getD a.card.toNat 0 + a.sum)) := by
    refine wrongStand_fit ?_ h3 ?_
    · simp only [List.length_append, List.length_singleton, hu]; omega
    · simp only [hu, List.all_append, h4, List.all_cons, ha, List.all_nil]; rfl
  rw [h6]
  have key := (fitUsed_iff s.cap s.advices s.used 0).1 h5
  by_cases hc : s.cap < s.used.getD a.card.toNat 0 + a.sum
  · rw [if_pos hc]
    rcases fitUsed_two s.cap (s.advices ++ [a]) (s.used.set a.card.toNat (s.used.getD a.card.toNat 0 + a.sum)) 0 with h0 | h0
    · have := (fitUsed_iff _ _ _ _).1 h0 a.card.toNat (s.used.getD a.card.toNat 0 + a.sum) (by simp [hlt])
      omega
    · exact h0
  · rw [if_neg hc]
    refine (fitUsed_iff _ _ _ _).2 fun i x hx => ?_
    rw [List.getElem?_set] at hx
    rw [given_snoc]
    by_cases e : a.card.toNat = i
    · rw [if_pos e, if_pos (by omega)] at hx
      injection hx with hx
      have := key i s.used[a.card.toNat] (by rw [← e]; exact hgx)
      rw [if_pos (by omega)]
      omega
    · rw [if_neg e] at hx
      have := key i x hx
      rw [if_neg (by omega)]
      omega

theorem give_cases {s : Stand} {a : Advice} (h : wrongStand s = 0) (hm : s.advices.length < 20) :
    (wrongStand { cap := s.cap, used := s.used.set a.card.toNat (s.used.getD a.card.toNat 0 + a.sum), advices := s.advices ++ [a] } = 3 ∧ giveStand s a = (noStand, 3)) ∨
    (wrongStand { cap := s.cap, used := s.used.set a.card.toNat (s.used.getD a.card.toNat 0 + a.sum), advices := s.advices ++ [a] } = 8 ∧ giveStand s a = (noStand, 10)) ∨
    (wrongStand { cap := s.cap, used := s.used.set a.card.toNat (s.used.getD a.card.toNat 0 + a.sum), advices := s.advices ++ [a] } = 0 ∧
      giveStand s a = ({ cap := s.cap, used := s.used.set a.card.toNat (s.used.getD a.card.toNat 0 + a.sum), advices := s.advices ++ [a] }, 0)) := by
  cases ha : okAdv s.used.length a with
  | false => exact .inl ⟨give_bad h hm ha _ List.length_set, by unfold giveStand; rw [if_neg (by simp [h]), if_neg (by omega), ha]; rfl⟩
  | true =>
    rw [give_fit h hm ha]
    by_cases hc : s.cap < s.used.getD a.card.toNat 0 + a.sum
    · exact .inr (.inl ⟨if_pos hc, by unfold giveStand; rw [if_neg (by simp [h]), if_neg (by omega), if_neg (by simp [ha]), if_pos hc]⟩)
    · exact .inr (.inr ⟨if_neg hc, by unfold giveStand; rw [if_neg (by simp [h]), if_neg (by omega), if_neg (by simp [ha]), if_neg hc]⟩)
theorem give_off {s : Stand} {a : Advice} (h : wrongStand s = 0) (hm : s.advices.length < 20) (ha : ¬ (0 ≤ a.card ∧ a.card < s.used.length ∧ 1 ≤ a.sum ∧ a.sum ≤ 1000000)) :
    wrongStand { cap := s.cap, used := s.used, advices := s.advices ++ [a] } = 3 ∧ giveStand s a = (noStand, 3) := by
  have ha : okAdv s.used.length a = false := by simp only [okAdv, decide_eq_false_iff_not]; omega
  exact ⟨give_bad h hm ha _ rfl, by unfold giveStand; rw [if_neg (by simp [h]), if_neg (by omega), ha]; rfl⟩
theorem give_wrong {s : Stand} {a : Advice} (h : wrongStand s ≠ 0) : giveStand s a = (noStand, wrongStand s) := by unfold giveStand; rw [if_pos h]
theorem give_many {s : Stand} {a : Advice} (h : wrongStand s = 0) (hm : s.advices.length = 20) : giveStand s a = (noStand, 5) := by unfold giveStand; rw [if_neg (by simp [h]), if_pos (by omega)]
theorem used_bound {s : Stand} (h : wrongStand s = 0) {i : Nat} {x : Int} (hx : s.used[i]? = some x) : 0 ≤ x ∧ x ≤ 1000000 := by
  obtain ⟨h1, h2, h3, h4, h5⟩ := right_parts h
  have := (fitUsed_iff s.cap s.advices s.used 0).1 h5 i x hx
  have hg := given_bound s.used.length (0 + i) s.advices h4
  simp only [capB, decide_eq_true_eq] at h3
  omega

theorem newStand_many {l c : Int} (h : c < 0 ∨ 8 < c) : newStand l c = (noStand, 5) := by unfold newStand; rw [if_pos h]
theorem newStand_range {l c : Int} (h : ¬ (c < 0 ∨ 8 < c)) (h' : ¬ (0 ≤ l ∧ l ≤ 1000000)) : newStand l c = (noStand, 3) := by unfold newStand; rw [if_neg h, if_pos (by simpa [capB] using h')]
theorem newStand_ok {l : Int} {c : Nat} (h : c ≤ 8) (h' : 0 ≤ l ∧ l ≤ 1000000) : newStand l c = ({ cap := l, used := List.replicate c 0, advices := [] }, 0) := by
  unfold newStand; rw [if_neg (by omega), if_neg (by simpa [capB] using h')]; simp

theorem give_keeps {s : Stand} {a : Advice} (h : wrongStand s = 0) (hg : (giveStand s a).2 = 0) :
    wrongStand (giveStand s a).1 = 0 ∧ (giveStand s a).1.cap = s.cap ∧ (giveStand s a).1.used.length = s.used.length ∧ (giveStand s a).1.advices = s.advices ++ [a] ∧ s.advices.length < 20 := by
  have hp := right_parts h
  by_cases hm : s.advices.length = 20
  · rw [give_many h hm] at hg; cases hg
  · have hm : s.advices.length < 20 := by omega
    rcases give_cases (a := a) h hm with ⟨_, h2⟩ | ⟨_, h2⟩ | ⟨h1, h2⟩
    · rw [h2] at hg; cases hg
    · rw [h2] at hg; cases hg
    · rw [h2]; exact ⟨h1, rfl, List.length_set, rfl, hm⟩
theorem give_errs (s : Stand) (a : Advice) : (giveStand s a).2 = 0 ∨ (giveStand s a).2 ≠ 0 ∧ (giveStand s a).1 = noStand := by
  unfold giveStand
  split
  · rename_i h; exact .inr ⟨h, rfl⟩
  · split
    · exact .inr ⟨by decide, rfl⟩
    · split
      · exact .inr ⟨by decide, rfl⟩
      · split
        · exact .inr ⟨by decide, rfl⟩
        · exact .inl rfl
theorem newStand_cases (l c : Int) : ((newStand l c).1 = noStand ∧ ((newStand l c).2 = 5 ∨ (newStand l c).2 = 3)) ∨ (∃ n : Nat, c = n ∧ n ≤ 8 ∧ 0 ≤ l ∧ l ≤ 1000000 ∧ newStand l c = ({ cap := l, used := List.replicate n 0, advices := [] }, 0)) := by
  by_cases h : c < 0 ∨ 8 < c
  · rw [newStand_many h]; exact .inl ⟨rfl, .inl rfl⟩
  · by_cases h' : 0 ≤ l ∧ l ≤ 1000000
    · obtain ⟨n, rfl⟩ := Int.eq_ofNat_of_zero_le (show 0 ≤ c by omega)
      exact .inr ⟨n, rfl, by omega, h'.1, h'.2, newStand_ok (by omega) h'⟩
    · rw [newStand_range h h']; exact .inl ⟨rfl, .inr rfl⟩
theorem new_right (l : Int) (n : Nat) (hn : n ≤ 8) (h0 : 0 ≤ l) (h1 : l ≤ 1000000) : wrongStand { cap := l, used := List.replicate n 0, advices := [] } = 0 := by
  rw [wrongStand_fit (by simp; omega) (by simp [capB]; omega) (by simp)]
  refine (fitUsed_iff _ _ _ _).2 fun i x hx => ?_
  obtain ⟨_, rfl⟩ := List.getElem?_eq_some_iff.1 hx
  simp [given]; omega


def sumsL (n : Nat) (l : List Advice) : List Int := (List.range n).map fun (k : Nat) => given (k : Int) l
theorem sumsL_length (n : Nat) (l : List Advice) : (sumsL n l).length = n := by simp [sumsL]
theorem sumsL_nil (n : Nat) : List.replicate n 0 = sumsL n [] := by simp [sumsL, given, List.map_const']
theorem sumsL_get {n : Nat} {l : List Advice} {i : Nat} {x : Int} (h : (sumsL n l)[i]? = some x) : x = given (i : Int) l := by
  simp only [sumsL, List.getElem?_map, Option.map_eq_some_iff] at h
  obtain ⟨k, hk, rfl⟩ := h
  obtain ⟨h1, rfl⟩ := List.getElem?_eq_some_iff.1 hk
  simp
theorem sumsL_set {n : Nat} {l : List Advice} {a : Advice} {i : Nat} {v : Int} (h0 : a.card = (i : Int)) (h1 : i < n) (hv : v = given a.card l + a.sum) : (sumsL n l).set i v = sumsL n (l ++ [a]) := by
  apply List.ext_getElem?
  intro j
  rw [List.getElem?_set]
  simp only [sumsL, List.length_map, List.length_range, List.getElem?_map, given_snoc]
  by_cases hj : j < n
  · rw [List.getElem?_range hj, Option.map_some, Option.map_some]
    by_cases e : i = j
    · rw [if_pos e, if_pos h1, if_pos (by omega), hv, h0, e]
    · rw [if_neg e, if_neg (by omega), Int.add_zero]
  · rw [if_neg (by omega), List.getElem?_eq_none (by simpa using hj)]
    rfl
theorem take_succ_all {p : Advice → Bool} {l : List Advice} {q : Nat} {x : Advice} (h : (l.take q).all p = true) (hx : l[q]? = some x) (hp : p x = true) : (l.take (q + 1)).all p = true := all_yes h hx hp
end Go.Proofs.Ytgmcdlfmifijlaa.Dev
