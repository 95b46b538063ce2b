/- Plain facts on paces and uses; no condition. -/
import Derived.Test.YtgmcdlfmifijlaaDPlDel
set_option linter.unusedVariables false
set_option linter.unusedSimpArgs false
namespace Go.Proofs.Ytgmcdlfmifijlaa.Dev
def wrongPace (a b c : Int) : Int := if a < 1 ∨ a > 1000000 ∨ b < 0 ∨ b > 30 ∨ c < 0 ∨ c > 1000000000000 then 3 else 0
/-- the first entry that is wrong, and how -/
def scan (e : Nat → Int) (q : Nat) : Nat → Int × Int
  | 0 => (0, 0)
  | k + 1 => if e q ≠ 0 then (e q, (q : Int)) else scan e (q + 1) k
theorem scan_ok {e : Nat → Int} {q n : Nat} (hq : q < n) (h : e q = 0) : scan e q (n - q) = scan e (q + 1) (n - (q + 1)) := by
  rw [show n - q = (n - (q + 1)) + 1 by omega, scan, if_neg (by simp [h])]
theorem scan_bad {e : Nat → Int} {q n : Nat} (hq : q < n) {c : Int} (h : e q = c) (hc : c ≠ 0) : scan e q (n - q) = (c, (q : Int)) := by
  rw [show n - q = (n - (q + 1)) + 1 by omega, scan, if_pos (by rw [h]; exact hc), h]
theorem scan_end {e : Nat → Int} {q n : Nat} (hq : ¬ q < n) : scan e q (n - q) = (0, 0) := by rw [show n - q = 0 by omega]; rfl
theorem scan_all {e : Nat → Int} : ∀ (n q : Nat), (scan e q n).1 = 0 ↔ ∀ i, q ≤ i → i < q + n → e i = 0
  | 0, q => by simp [scan]; intro i h1 h2; omega
  | n + 1, q => by
    rw [scan]
    split
    · rename_i h; exact ⟨fun h' => absurd h' h, fun h' => absurd (h' q (Nat.le_refl _) (by omega)) h⟩
    · rename_i h
      rw [scan_all n (q + 1)]
      constructor
      · intro h' i h1 h2
        by_cases hi : i = q
        · subst hi; omega
        · exact h' i (by omega) (by omega)
      · exact fun h' i h1 h2 => h' i (by omega) (by omega)
def uErr (l : List Use) (q : Nat) : Int :=
  match l[q]? with
  | some u => if u.time < 0 ∨ u.time > 1000000 ∨ u.sum < 0 ∨ u.sum > 1000000 then 3 else if 0 < q ∧ (l.getD (q - 1) ⟨0, 0⟩).time > u.time then 2 else 0
  | none => 0
def uses (l : List Use) : Int × Int := if l.length > 30 then (5, 0) else scan (uErr l) 0 l.length
def wrongP (p : Pace) : Int := wrongPace p.ticks p.count p.sum
def usesF (l : List Use) : Fault := ⟨(uses l).1, (uses l).2⟩
def old (p : Pace) (t : Int) (u : Use) : Bool := decide (u.time ≤ t - p.ticks)
def recentP (p : Pace) (l : List Use) (t : Int) : List Use := keepL (old p t) l
def sumU : List Use → Int
  | [] => 0
  | u :: l => u.sum + sumU l
def lastLate (l : List Use) (t : Int) : Bool := match l.getLast? with
  | some u => decide (u.time > t)
  | none => false
def addUse (p : Pace) (l : List Use) (x : Use) : List Use × Int :=
  if wrongP p ≠ 0 then ([], wrongP p)
  else if (usesF l).err ≠ 0 then ([], (usesF l).err)
  else if (usesF [x]).err ≠ 0 then ([], (usesF [x]).err)
  else if lastLate l x.time = true then ([], 2)
  else if p.count < ((recentP p l x.time).length : Int) + 1 ∨ p.sum < sumU (recentP p l x.time) + x.sum then ([], 11)
  else (recentP p l x.time ++ [x], 0)
theorem rightP {p : Pace} (h : wrongP p = 0) : 1 ≤ p.ticks ∧ p.ticks ≤ 1000000 ∧ 0 ≤ p.count ∧ p.count ≤ 30 ∧ 0 ≤ p.sum ∧ p.sum ≤ 1000000000000 := by
  unfold wrongP wrongPace at h
  split at h
  · cases h
  · omega
theorem uses_iff {l : List Use} : (usesF l).err = 0 ↔ l.length ≤ 30 ∧ ∀ i, i < l.length → uErr l i = 0 := by
  unfold usesF uses
  dsimp only
  split
  · constructor
    · intro h; cases h
    · intro h; omega
  · rw [scan_all]
    constructor
    · exact fun h => ⟨by omega, fun i hi => h i (Nat.zero_le _) (by omega)⟩
    · exact fun h i _ hi => h.2 i (by omega)
theorem uErr_iff {l : List Use} {q : Nat} {u : Use} (h : l[q]? = some u) : uErr l q = 0 ↔ (0 ≤ u.time ∧ u.time ≤ 1000000 ∧ 0 ≤ u.sum ∧ u.sum ≤ 1000000) ∧ ∀ v, 0 < q → l[q - 1]? = some v → v.time ≤ u.time := by
  unfold uErr
  rw [h]
  dsimp only
  have hq := (List.getElem?_eq_some_iff.1 h).1
  split
  · constructor
    · intro h; cases h
    · intro h; omega
  · split
    · rename_i h1 h2
      constructor
      · intro h; cases h
      · intro h3
        have hv : l[q - 1]? = some l[q - 1] := List.getElem?_eq_getElem (by omega)
        have := h3.2 _ h2.1 hv
        rw [List.getD_eq_getElem?_getD, hv] at h2
        simp only [Option.getD_some] at h2
        omega
    · rename_i h1 h2
      refine ⟨fun _ => ⟨by omega, fun v h3 h4 => ?_⟩, fun _ => rfl⟩
      rw [List.getD_eq_getElem?_getD, h4] at h2
      simp only [Option.getD_some] at h2
      omega
theorem rightU {l : List Use} (h : (usesF l).err = 0) : l.length ≤ 30 ∧ ∀ u ∈ l, 0 ≤ u.time ∧ u.time ≤ 1000000 ∧ 0 ≤ u.sum ∧ u.sum ≤ 1000000 := by
  obtain ⟨h1, h2⟩ := uses_iff.1 h
  refine ⟨h1, fun u hu => ?_⟩
  obtain ⟨i, hi⟩ := List.getElem?_of_mem hu
  exact ((uErr_iff hi).1 (h2 i (List.getElem?_eq_some_iff.1 hi).1)).1
theorem sumU_snoc (l : List Use) (u : Use) : sumU (l ++ [u]) = sumU l + u.sum := by
  induction l with
  | nil => simp [sumU]
  | cons x l ih => simp only [List.cons_append, sumU, ih]; omega
theorem sumU_bound {l : List Use} (h : ∀ u ∈ l, 0 ≤ u.time ∧ u.time ≤ 1000000 ∧ 0 ≤ u.sum ∧ u.sum ≤ 1000000) : 0 ≤ sumU l ∧ sumU l ≤ 1000000 * l.length := by
  induction l with
  | nil => simp [sumU]
  | cons x l ih =>
    have h1 := ih fun u hu => h u (List.mem_cons_of_mem _ hu)
    have h2 := h x List.mem_cons_self
    simp only [sumU, List.length_cons]
    omega
theorem mem_keep {α : Type} {p : α → Bool} {l : List α} {x : α} (h : x ∈ keepL p l) : x ∈ l := (List.mem_filter.1 h).1
theorem sumU_recent {p : Pace} {l : List Use} {t : Int} {k : Nat} (h : (usesF l).err = 0) : 0 ≤ sumU ((recentP p l t).take k) ∧ sumU ((recentP p l t).take k) ≤ 30000000 := by
  obtain ⟨h1, h2⟩ := rightU h
  have h3 := sumU_bound (l := (recentP p l t).take k) fun u hu => h2 u (mem_keep (List.mem_of_mem_take hu))
  have h4 := keepL_len (old p t) l
  have h5 : ((recentP p l t).take k).length ≤ (recentP p l t).length := by rw [List.length_take]; exact Nat.min_le_right _ _
  have h6 : (recentP p l t).length ≤ 30 := Nat.le_trans h4 h1
  omega
theorem get2 {α : Type} {a b x : α} {q : Nat} (h : [a, b][q]? = some x) : (q = 0 ∧ x = a) ∨ (q = 1 ∧ x = b) := by
  match q with
  | 0 => left; simp_all
  | 1 => right; simp_all
  | q + 2 => simp at h
theorem late_of {l : List Use} {t : Int} {u : Use} (h : l[l.length - 1]? = some u) : lastLate l t = decide (u.time > t) := by
  unfold lastLate
  rw [List.getLast?_eq_getElem?, h]
theorem late_nil {t : Int} : lastLate [] t = false := rfl
end Go.Proofs.Ytgmcdlfmifijlaa.Dev
namespace Go.Proofs.Ytgmcdlfmifijlaa.Dev
theorem sumU_recent' {p : Pace} {l : List Use} {x : Use} {k : Nat} (h : (usesF l).err = 0) (hx : (usesF [x]).err = 0) : 0 ≤ sumU ((recentP p l x.time ++ [x]).take k) ∧ sumU ((recentP p l x.time ++ [x]).take k) ≤ 31000000 := by
  obtain ⟨h1, h2⟩ := rightU h
  obtain ⟨_, h2'⟩ := rightU hx
  have h3 := sumU_bound (l := (recentP p l x.time ++ [x]).take k) fun u hu => by
    rcases List.mem_append.1 (List.mem_of_mem_take hu) with h | h
    · exact h2 u (mem_keep h)
    · exact h2' u h
  have h4 := keepL_len (old p x.time) l
  have h5 : ((recentP p l x.time ++ [x]).take k).length ≤ (recentP p l x.time).length + 1 := by rw [List.length_take, List.length_append]; exact Nat.min_le_right _ _
  have h6 : (recentP p l x.time).length ≤ 30 := Nat.le_trans h4 h1
  omega
end Go.Proofs.Ytgmcdlfmifijlaa.Dev
namespace Go.Proofs.Ytgmcdlfmifijlaa.Dev
theorem add_of {p : Pace} {l r : List Use} {x : Use} (h : addUse p l x = (r, 0)) : wrongP p = 0 ∧ (usesF l).err = 0 ∧ (usesF [x]).err = 0 ∧ lastLate l x.time = false ∧ ((recentP p l x.time).length : Int) + 1 ≤ p.count ∧ sumU (recentP p l x.time) + x.sum ≤ p.sum ∧ r = recentP p l x.time ++ [x] := by
  unfold addUse at h
  split at h
  · rename_i h1; simp only [Prod.mk.injEq] at h; exact absurd h.2 h1
  split at h
  · rename_i h1; simp only [Prod.mk.injEq] at h; exact absurd h.2 h1
  split at h
  · rename_i h1; simp only [Prod.mk.injEq] at h; exact absurd h.2 h1
  split at h
  · simp at h
  split at h
  · simp at h
  · rename_i h1 h2 h3 h4 h5
    simp only [Prod.mk.injEq] at h
    exact ⟨by omega, by omega, by omega, by simpa using h4, by omega, by omega, h.1.symm⟩
theorem add_bad {p : Pace} {l r : List Use} {x : Use} {e : Int} (h : addUse p l x = (r, e)) (he : e ≠ 0) : r = [] := by
  unfold addUse at h
  split at h
  · simp only [Prod.mk.injEq] at h; exact h.1.symm
  split at h
  · simp only [Prod.mk.injEq] at h; exact h.1.symm
  split at h
  · simp only [Prod.mk.injEq] at h; exact h.1.symm
  split at h
  · simp only [Prod.mk.injEq] at h; exact h.1.symm
  split at h
  · simp only [Prod.mk.injEq] at h; exact h.1.symm
  · simp only [Prod.mk.injEq] at h; exact absurd h.2.symm he
theorem add_more {p q : Pace} {l r : List Use} {x : Use} (h : addUse p l x = (r, 0)) (ht : q.ticks = p.ticks) (hc : p.count ≤ q.count) (hs : p.sum ≤ q.sum) (hw : wrongP q = 0) : addUse q l x = (r, 0) := by
  obtain ⟨h1, h2, h3, h4, h5, h6, rfl⟩ := add_of h
  have hr : recentP q l x.time = recentP p l x.time := by unfold recentP old; rw [ht]
  unfold addUse
  rw [if_neg (by omega), if_neg (by omega), if_neg (by omega), if_neg (by simp [h4]), hr, if_neg (by omega)]
/-- of all that were allowed, what is kept -/
structure Kept (p : Pace) (all kept : List Use) : Prop where
  times : ∀ u ∈ all, ∀ v, all.getLast? = some v → u.time ≤ v.time
  last : kept.getLast? = all.getLast?
  recn : ∀ t, (∀ v, all.getLast? = some v → v.time ≤ t) → recentP p kept t = recentP p all t
  good : ∀ i u, all[i]? = some u → ((recentP p (all.take (i + 1)) u.time).length : Int) ≤ p.count ∧ sumU (recentP p (all.take (i + 1)) u.time) ≤ p.sum
  bound : ∀ u ∈ all, 0 ≤ u.time ∧ u.time ≤ 1000000 ∧ 0 ≤ u.sum ∧ u.sum ≤ 1000000
theorem Kept.nil (p : Pace) : Kept p [] [] := ⟨fun u h => by simp at h, rfl, fun _ _ => rfl, fun i u h => by simp at h, fun u h => by simp at h⟩
theorem keep_snoc (p : Use → Bool) (l : List Use) (x : Use) : keepL p (l ++ [x]) = keepL p l ++ if p x then [] else [x] := by
  rw [keepL, keepL, List.filter_append]
  cases hp : p x <;> simp [hp]
theorem Kept.add {p : Pace} {all kept r : List Use} {x : Use} (h : Kept p all kept) (ha : addUse p kept x = (r, 0)) : Kept p (all ++ [x]) r := by
  obtain ⟨h1, h2, h3, h4, h5, h6, rfl⟩ := add_of ha
  have hp := rightP h1
  have hl : ∀ v, all.getLast? = some v → v.time ≤ x.time := fun v hv => by
    unfold lastLate at h4
    rw [h.last, hv] at h4
    simpa using h4
  have hx := (rightU h3).2 x (by simp)
  have hrec : recentP p kept x.time = recentP p all x.time := h.recn _ hl
  have hold : ∀ t, old p t x = false ∨ t - p.ticks ≥ x.time := fun t => by unfold old; by_cases h : x.time ≤ t - p.ticks <;> simp [h]
  have hx0 : old p x.time x = false := by unfold old; simp; omega
  refine ⟨fun u hu v hv => ?_, by simp, fun t ht => ?_, fun i u hi => ?_, fun u hu => ?_⟩
  · have hv' : v = x := by simpa using hv.symm
    subst hv'
    rcases List.mem_append.1 hu with hu | hu
    · cases hg : all.getLast? with
      | none => rw [List.getLast?_eq_none_iff] at hg; subst hg; simp at hu
      | some w => have := h.times u hu w hg; have := hl w hg; omega
    · have : u = v := by simpa using hu
      subst this; omega
  · have htx : x.time ≤ t := ht x (by simp)
    unfold recentP
    rw [keep_snoc, keep_snoc]
    congr 1
    show keepL (old p t) (recentP p kept x.time) = keepL (old p t) all
    rw [hrec]
    unfold recentP keepL
    rw [List.filter_filter]
    apply List.filter_congr
    intro u _
    unfold old
    by_cases h1 : u.time ≤ t - p.ticks
    · simp [h1]
    · have : ¬ u.time ≤ x.time - p.ticks := by omega
      simp [h1, this]
  · by_cases hi' : i < all.length
    · rw [List.getElem?_append_left hi'] at hi
      rw [List.take_append_of_le_length (by omega)]
      exact h.good i u hi
    · have hlt := (List.getElem?_eq_some_iff.1 hi).1
      simp at hlt
      obtain rfl : i = all.length := by omega
      have hux : u = x := by simpa using hi.symm
      subst hux
      rw [List.take_of_length_le (by simp)]
      unfold recentP at *
      rw [keep_snoc, hx0, ← hrec]
      simp only [Bool.false_eq_true, if_false, List.length_append, List.length_singleton, sumU_snoc]
      omega
  · rcases List.mem_append.1 hu with hu | hu
    · exact h.bound u hu
    · have : u = x := by simpa using hu
      subst this; exact hx
end Go.Proofs.Ytgmcdlfmifijlaa.Dev
