/- Plain facts on what is deleted out of a list; no condition. -/
import Derived.Test.YtgmcdlfmifijlaaDPlStand
set_option linter.unusedVariables false
set_option linter.unusedSimpArgs false
namespace Go.Proofs.Ytgmcdlfmifijlaa.Dev
def keepL {α : Type} (p : α → Bool) (l : List α) : List α := l.filter fun x => !p x
def idxF {α : Type} (p : α → Bool) (l : List α) : Int :=
  match l.findIdx? p with
  | some i => i
  | none => -1
variable {α : Type} {p : α → Bool} {l c : List α} {i j q : Nat} {x : α}
theorem keepL_take (h : l[j]? = some x) : keepL p (l.take (j + 1)) = keepL p (l.take j) ++ if p x then [] else [x] := by
  rw [take_get h, keepL, keepL, List.filter_append]
  cases hp : p x <;> simp [hp]
theorem keepL_len (p : α → Bool) (l : List α) : (keepL p l).length ≤ l.length := List.length_filter_le _ _
theorem idx_found (h : (l.take q).all (fun y => !p y) = true) (hx : l[q]? = some x) (hp : p x = true) : idxF p l = q := by
  unfold idxF
  have hq := (List.getElem?_eq_some_iff.1 hx).1
  have : l.findIdx? p = some q := by
    rw [List.findIdx?_eq_some_iff_getElem]
    refine ⟨hq, ?_, fun r hr => ?_⟩
    · have := (List.getElem?_eq_some_iff.1 hx).2; rw [this]; exact hp
    · rw [List.all_eq_true] at h
      have hm : l[r]'(by omega) ∈ l.take q := by
        rw [List.mem_iff_getElem]
        exact ⟨r, by rw [List.length_take]; omega, by simp⟩
      have := h _ hm
      simpa using this
  rw [this]
theorem idx_none (h : l.all (fun y => !p y) = true) : idxF p l = -1 := by
  unfold idxF
  have : l.findIdx? p = none := by
    rw [List.findIdx?_eq_none_iff]
    intro y hy
    have := List.all_eq_true.1 h y hy
    simpa using this
  rw [this]
theorem all_keep (h : (l.take q).all (fun y => !p y) = true) (hx : l[q]? = some x) (hp : p x = false) : (l.take (q + 1)).all (fun y => !p y) = true := all_yes h hx (by simp [hp])
theorem idx_cases (p : α → Bool) (l : List α) : (idxF p l = -1 ∧ keepL p l = l) ∨ ∃ i : Nat, idxF p l = i ∧ i < l.length ∧ ∃ x, l[i]? = some x ∧ p x = true ∧ keepL p (l.take i) = l.take i := by
  unfold idxF
  cases h : l.findIdx? p with
  | none =>
    refine .inl ⟨rfl, ?_⟩
    rw [List.findIdx?_eq_none_iff] at h
    exact List.filter_eq_self.2 fun y hy => by simp [h y hy]
  | some i =>
    rw [List.findIdx?_eq_some_iff_getElem] at h
    obtain ⟨h1, h2, h3⟩ := h
    refine .inr ⟨i, rfl, h1, l[i], List.getElem?_eq_getElem h1, h2, ?_⟩
    refine List.filter_eq_self.2 fun y hy => ?_
    obtain ⟨r, hr, rfl⟩ := List.mem_iff_getElem.1 hy
    rw [List.length_take] at hr
    have := h3 r (by omega)
    simp [this]
structure Del (p : α → Bool) (l c : List α) (i j : Nat) : Prop where
  len : c.length = l.length
  ij : i < j
  jl : j ≤ l.length
  pre : c.take i = keepL p (l.take j)
  post : c.drop j = l.drop j
theorem Del.get (h : Del p l c i j) (hx : c[j]? = some x) : l[j]? = some x := by
  have h1 : (c.drop j)[0]? = (l.drop j)[0]? := by rw [h.post]
  simpa [hx] using h1.symm
theorem Del.skip (h : Del p l c i j) (hx : c[j]? = some x) (hp : p x = true) : Del p l c i (j + 1) := by
  have hl := h.get hx
  have hj := (List.getElem?_eq_some_iff.1 hl).1
  refine ⟨h.len, Nat.lt_succ_of_lt h.ij, hj, ?_, ?_⟩
  · rw [keepL_take hl, hp, h.pre]; simp
  · rw [← List.drop_drop, ← List.drop_drop, h.post]
theorem Del.keep (h : Del p l c i j) (hx : c[j]? = some x) (hp : p x = false) : Del p l (c.set i x) (i + 1) (j + 1) := by
  have hl := h.get hx
  have hj := (List.getElem?_eq_some_iff.1 hl).1
  have hi : i < c.length := by have := h.ij; rw [h.len]; omega
  refine ⟨by rw [List.length_set]; exact h.len, Nat.succ_lt_succ h.ij, hj, ?_, ?_⟩
  · rw [keepL_take hl, hp, ← h.pre]
    rw [List.take_succ_eq_append_getElem (by rw [List.length_set]; exact hi)]
    simp [List.take_set_of_le]
  · rw [List.drop_set_of_lt (by have := h.ij; omega), ← List.drop_drop, ← List.drop_drop, h.post]
theorem Del.start {i : Nat} (hx : l[i]? = some x) (hp : p x = true) (hk : keepL p (l.take i) = l.take i) : Del p l l i (i + 1) := by
  have hi := (List.getElem?_eq_some_iff.1 hx).1
  refine ⟨rfl, Nat.lt_succ_self i, hi, ?_, rfl⟩
  rw [keepL_take hx, hp, hk]; simp
theorem Del.done (h : Del p l c i j) (hj : l.length ≤ j) : c.take i = keepL p l := by
  rw [h.pre, List.take_of_length_le hj]
end Go.Proofs.Ytgmcdlfmifijlaa.Dev
namespace Go.Proofs.Ytgmcdlfmifijlaa.Dev
def sameList {α : Type} [DecidableEq α] (a b : List α) : Bool := decide (a = b)
section
variable {α : Type} [DecidableEq α] {a b : List α}
theorem same_no (h : ¬ ((a.length : Int) = b.length)) : sameList a b = false := by
  simp only [sameList, decide_eq_false_iff_not]
  rintro rfl; exact h rfl
theorem same_no' {q : Nat} {x y : α} (hx : a[q]? = some x) (hy : b[q]? = some y) (h : ¬ x = y) : sameList a b = false := by
  simp only [sameList, decide_eq_false_iff_not]
  rintro rfl; rw [hx] at hy; injection hy with hy; exact h hy
theorem same_yes {q : Nat} (h1 : a.length ≤ q) (h2 : b.length ≤ q) (h : a.take q = b.take q) : sameList a b = true := by
  simp only [sameList, decide_eq_true_eq]
  rw [← List.take_of_length_le h1, ← List.take_of_length_le h2]; exact h
theorem same_self_list (a : List α) : sameList a a = true := by simp [sameList]
end
end Go.Proofs.Ytgmcdlfmifijlaa.Dev
