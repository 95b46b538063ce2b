/- Plain facts on books; no condition. -/
import Derived.Test.YtgmcdlfmifijlaaDBook4
import Derived.Test.YtgmcdlfmifijlaaDPlPace
set_option linter.unusedVariables false
set_option linter.unusedSimpArgs false
namespace Go.Proofs.Ytgmcdlfmifijlaa.Dev
/-- what is wrong with the entry at q -/
def badE (x : Entry) : Prop := x.account < 0 ∨ x.account > 57 ∨ x.sum < -1000000000000 ∨ x.sum > 1000000000000
instance (x : Entry) : Decidable (badE x) := by unfold badE; infer_instance
def bErr (l : List Entry) (q : Nat) : Int :=
  match l[q]? with
  | some x => if badE x then 3 else if (0 < q ∧ (l.getD (q - 1) ⟨0, 0⟩).account ≥ x.account) ∨ x.sum = 0 then 2 else 0
  | none => 0
def sumE : List Entry → Int
  | [] => 0
  | x :: l => x.sum + sumE l
def wrongB (l : List Entry) : Fault := if (scan (bErr l) 0 l.length).1 ≠ 0 then ⟨(scan (bErr l) 0 l.length).1, (scan (bErr l) 0 l.length).2⟩ else if sumE l ≠ 0 then ⟨8, 0⟩ else ⟨0, 0⟩
theorem sumE_cons (x : Entry) (l : List Entry) : sumE (x :: l) = x.sum + sumE l := rfl
theorem getE_cons (x : Entry) (l : List Entry) (a : Int) : getE (x :: l) a = if x.account = a then x.sum else getE l a := rfl
theorem sumE_append (l r : List Entry) : sumE (l ++ r) = sumE l + sumE r := by
  induction l with
  | nil => simp [sumE]
  | cons x l ih => simp only [List.cons_append, sumE, ih]; omega
theorem take_snoc {α : Type} {l : List α} {q : Nat} {x : α} (h : l[q]? = some x) : l.take (q + 1) = l.take q ++ [x] := by
  obtain ⟨hlt, rfl⟩ := List.getElem?_eq_some_iff.1 h
  rw [List.take_add_one, List.getElem?_eq_getElem hlt]; rfl
theorem sumE_take {l : List Entry} {q : Nat} {x : Entry} (h : l[q]? = some x) : sumE (l.take (q + 1)) = sumE (l.take q) + x.sum := by
  rw [take_snoc h, sumE_append]; simp [sumE]
/-- the account of the entry before q -/
def lastA (l : List Entry) (q : Nat) : Int := if q = 0 then -1 else (l.getD (q - 1) ⟨0, 0⟩).account
theorem lastA_succ {l : List Entry} {q : Nat} {x : Entry} (h : l[q]? = some x) : lastA l (q + 1) = x.account := by
  unfold lastA
  rw [if_neg (by omega), List.getD_eq_getElem?_getD, Nat.add_sub_cancel, h]; rfl
theorem lastA_pos {l : List Entry} {q : Nat} {x : Entry} (hq : 0 < q) (h : l[q - 1]? = some x) : lastA l q = x.account := by
  unfold lastA
  rw [if_neg (by omega), List.getD_eq_getElem?_getD, h]; rfl
theorem bErr_some {l : List Entry} {q : Nat} {x : Entry} (h : l[q]? = some x) : bErr l q = if badE x then 3 else if (0 < q ∧ lastA l q ≥ x.account) ∨ x.sum = 0 then 2 else 0 := by
  unfold bErr
  rw [h]
  by_cases hq : q = 0
  · subst hq; simp
  · unfold lastA; rw [if_neg hq]
/-- a right book, but for what all have together -/
structure Right (l : List Entry) : Prop where
  up : Up l
  ok : ∀ x ∈ l, 0 ≤ x.account ∧ x.account ≤ 57 ∧ -1000000000000 ≤ x.sum ∧ x.sum ≤ 1000000000000 ∧ x.sum ≠ 0
theorem up_of {l : List Entry} (h : ∀ q x y, l[q]? = some x → l[q + 1]? = some y → x.account < y.account) : Up l := by
  unfold Up
  induction l with
  | nil => exact List.Pairwise.nil
  | cons x l ih =>
    have h2 := ih fun q a b ha hb => h (q + 1) a b (by simpa using ha) (by simpa using hb)
    refine List.pairwise_cons.2 ⟨fun y hy => ?_, h2⟩
    cases l with
    | nil => cases hy
    | cons z l =>
      have hz := h 0 x z (by simp) (by simp)
      rcases List.mem_cons.1 hy with rfl | hy
      · exact hz
      · have := (List.pairwise_cons.1 h2).1 y hy; omega
theorem up_get {l : List Entry} (h : Up l) {i j : Nat} {x y : Entry} (hij : i < j) (hx : l[i]? = some x) (hy : l[j]? = some y) : x.account < y.account := by
  obtain ⟨hi, rfl⟩ := List.getElem?_eq_some_iff.1 hx
  obtain ⟨hj, rfl⟩ := List.getElem?_eq_some_iff.1 hy
  exact List.pairwise_iff_getElem.1 h i j hi hj hij
theorem scanB_iff {l : List Entry} : (scan (bErr l) 0 l.length).1 = 0 ↔ Right l := by
  rw [scan_all]
  constructor
  · intro h
    have at' : ∀ q x, l[q]? = some x → ¬ badE x ∧ ¬ ((0 < q ∧ lastA l q ≥ x.account) ∨ x.sum = 0) := fun q x hx => by
      have hq := (List.getElem?_eq_some_iff.1 hx).1
      have h1 := h q (Nat.zero_le _) (by omega)
      rw [bErr_some hx] at h1
      split at h1
      · cases h1
      · split at h1
        · cases h1
        · exact ⟨by assumption, by assumption⟩
    refine ⟨up_of fun q x y hx hy => ?_, fun x hx => ?_⟩
    · have h1 := (at' (q + 1) y hy).2
      rw [lastA_succ hx] at h1
      omega
    · obtain ⟨q, hq⟩ := List.getElem?_of_mem hx
      have h1 := at' q x hq
      unfold badE at h1
      omega
  · intro h q _ hq
    obtain ⟨x, hx⟩ : ∃ x, l[q]? = some x := ⟨_, List.getElem?_eq_getElem (by omega)⟩
    have h1 := h.ok x (List.mem_of_getElem? hx)
    rw [bErr_some hx, if_neg (by unfold badE; omega), if_neg]
    rintro (⟨h2, h3⟩ | h2)
    · obtain ⟨y, hy⟩ : ∃ y, l[q - 1]? = some y := ⟨_, List.getElem?_eq_getElem (by omega)⟩
      rw [lastA_pos h2 hy] at h3
      have := up_get h.up (by omega : q - 1 < q) hy hx
      omega
    · exact h1.2.2.2.2 h2
theorem wrongB_iff {l : List Entry} : (wrongB l).err = 0 ↔ Right l ∧ sumE l = 0 := by
  unfold wrongB
  rw [← scanB_iff]
  split
  · rename_i h; constructor
    · intro h1; exact absurd h1 h
    · intro h1; exact absurd h1.1 h
  · rename_i h
    split
    · rename_i h2; constructor
      · intro h1; cases h1
      · intro h1; exact absurd h1.2 h2
    · rename_i h2; constructor
      · intro _; exact ⟨by omega, by omega⟩
      · intro _; rfl
theorem right_len {l : List Entry} (h : Right l) : l.length ≤ 58 := by
  have key : ∀ (q : Nat) (x : Entry), l[q]? = some x → (q : Int) ≤ x.account := by
    intro q
    induction q with
    | zero => intro x hx; have := h.ok x (List.mem_of_getElem? hx); omega
    | succ q ih =>
      intro x hx
      have hq := (List.getElem?_eq_some_iff.1 hx).1
      obtain ⟨y, hy⟩ : ∃ y, l[q]? = some y := ⟨_, List.getElem?_eq_getElem (by omega)⟩
      have h1 := ih y hy
      have h2 := up_get h.up (by omega : q < q + 1) hy hx
      omega
  by_cases hl : l.length = 0
  · omega
  · obtain ⟨x, hx⟩ : ∃ x, l[l.length - 1]? = some x := ⟨_, List.getElem?_eq_getElem (by omega)⟩
    have h1 := key _ x hx
    have h2 := h.ok x (List.mem_of_getElem? hx)
    omega
theorem right_nil : Right [] := ⟨List.Pairwise.nil, fun x hx => by cases hx⟩
theorem wrongB_zero {l : List Entry} (h : (wrongB l).err = 0) : wrongB l = ⟨0, 0⟩ := by
  obtain ⟨h1, h2⟩ := wrongB_iff.1 h
  unfold wrongB
  rw [if_neg (by have := scanB_iff.2 h1; omega), if_neg (by omega)]
/-! an account that is set -/
theorem setE_cons {x : Entry} {l : List Entry} {a s : Int} (h : x.account < a) : setE (x :: l) a s = x :: setE l a s := by
  unfold setE
  rw [hasE_cons h, show posE (x :: l) a = posE l a + 1 by simp [posE, h]]
  cases hasE l a <;> simp
theorem setE_here {x : Entry} {l : List Entry} {a s : Int} (h : x.account = a) : setE (x :: l) a s = (if s = 0 then [] else [⟨a, s⟩]) ++ l := by
  unfold setE
  rw [hasE_head (by omega), show posE (x :: l) a = 0 by simp [posE]; omega]
  simp [h]
theorem setE_new {x : Entry} {l : List Entry} {a s : Int} (h : a < x.account) : setE (x :: l) a s = (if s = 0 then [] else [⟨a, s⟩]) ++ x :: l := by
  unfold setE
  rw [hasE_head (by omega), show posE (x :: l) a = 0 by simp [posE]; omega]
  have : ¬ x.account = a := by omega
  simp [this]
theorem setE_nil (a s : Int) : setE [] a s = if s = 0 then [] else [⟨a, s⟩] := by simp [setE, posE, hasE]
theorem setE_mem {a s : Int} : ∀ {l : List Entry} {x : Entry}, x ∈ setE l a s → x ∈ l ∨ (x = ⟨a, s⟩ ∧ s ≠ 0)
  | [], x, h => by
    rw [setE_nil] at h
    split at h
    · cases h
    · rename_i h0; exact .inr ⟨by simpa using h, h0⟩
  | y :: l, x, h => by
    have one : x ∈ (if s = 0 then [] else [(⟨a, s⟩ : Entry)]) → x = ⟨a, s⟩ ∧ s ≠ 0 := fun h => by
      split at h
      · cases h
      · rename_i h0; exact ⟨by simpa using h, h0⟩
    rcases Int.lt_trichotomy y.account a with h1 | h1 | h1
    · rw [setE_cons h1] at h
      rcases List.mem_cons.1 h with rfl | h
      · exact .inl List.mem_cons_self
      · rcases setE_mem h with h | h
        · exact .inl (List.mem_cons_of_mem _ h)
        · exact .inr h
    · rw [setE_here h1] at h
      rcases List.mem_append.1 h with h | h
      · exact .inr (one h)
      · exact .inl (List.mem_cons_of_mem _ h)
    · rw [setE_new h1] at h
      rcases List.mem_append.1 h with h | h
      · exact .inr (one h)
      · exact .inl h
theorem up_cons {x : Entry} {l : List Entry} : Up (x :: l) ↔ (∀ y ∈ l, x.account < y.account) ∧ Up l := List.pairwise_cons
theorem setE_up {a s : Int} : ∀ {l : List Entry}, Up l → Up (setE l a s)
  | [], _ => by rw [setE_nil]; split; exact List.Pairwise.nil; exact List.pairwise_singleton _ _
  | y :: l, h => by
    obtain ⟨h1, h2⟩ := up_cons.1 h
    rcases Int.lt_trichotomy y.account a with h3 | h3 | h3
    · rw [setE_cons h3]
      refine up_cons.2 ⟨fun z hz => ?_, setE_up h2⟩
      rcases setE_mem hz with hz | ⟨rfl, _⟩
      · exact h1 z hz
      · exact h3
    · rw [setE_here h3]
      split
      · exact h2
      · exact up_cons.2 ⟨fun z hz => by have := h1 z hz; show a < z.account; omega, h2⟩
    · rw [setE_new h3]
      split
      · exact h
      · exact up_cons.2 ⟨fun z hz => by
          show a < z.account
          rcases List.mem_cons.1 hz with rfl | hz
          · exact h3
          · have := h1 z hz; omega, h⟩
theorem getE_low {a : Int} {l : List Entry} (h : ∀ y ∈ l, a < y.account) : getE l a = 0 := getE_absent h
theorem getE_one (a s b : Int) (l : List Entry) : getE ((if s = 0 then [] else [⟨a, s⟩]) ++ l) b = if s ≠ 0 ∧ a = b then s else getE l b := by
  by_cases h : s = 0
  · simp [h]
  · simp [h, getE]
theorem getE_set {a s b : Int} : ∀ {l : List Entry}, Up l → getE (setE l a s) b = if a = b then s else getE l b
  | [], _ => by
    have := getE_one a s b []
    rw [List.append_nil] at this
    rw [setE_nil, this]
    by_cases h : s = 0
    · subst h; simp [getE]
    · simp [h]
  | y :: l, h => by
    obtain ⟨h1, h2⟩ := up_cons.1 h
    rcases Int.lt_trichotomy y.account a with h3 | h3 | h3
    · rw [setE_cons h3]
      unfold getE
      rw [getE_set h2]
      by_cases h4 : y.account = b
      · rw [if_pos h4, if_pos h4, if_neg (by omega)]
      · rw [if_neg h4, if_neg h4]
    · rw [setE_here h3, getE_one]
      by_cases h4 : a = b
      · subst h4
        by_cases h5 : s = 0
        · subst h5; simp; exact getE_absent fun z hz => by have := h1 z hz; omega
        · simp [h5]
      · rw [if_neg (fun h => h4 h.2), if_neg h4]
        conv => rhs; unfold getE
        rw [if_neg (by omega)]
    · rw [setE_new h3, getE_one]
      by_cases h4 : a = b
      · subst h4
        by_cases h5 : s = 0
        · subst h5; simp; exact getE_absent fun z hz => by
            rcases List.mem_cons.1 hz with rfl | hz
            · exact h3
            · have := h1 z hz; omega
        · simp [h5]
      · rw [if_neg (fun h => h4 h.2), if_neg h4]
theorem sumE_set {a s : Int} : ∀ {l : List Entry}, Up l → sumE (setE l a s) = sumE l - getE l a + s
  | [], _ => by
    rw [setE_nil]
    by_cases h : s = 0
    · subst h; simp [sumE, getE]
    · simp [h, sumE, getE]
  | y :: l, h => by
    obtain ⟨h1, h2⟩ := up_cons.1 h
    have one : sumE (if s = 0 then [] else [(⟨a, s⟩ : Entry)]) = s := by split <;> simp_all [sumE]
    rcases Int.lt_trichotomy y.account a with h3 | h3 | h3
    · rw [setE_cons h3]
      unfold sumE getE
      rw [sumE_set h2, if_neg (by omega)]; omega
    · rw [setE_here h3, sumE_append, one]
      conv => rhs; unfold sumE getE
      rw [if_pos h3]; omega
    · rw [setE_new h3, sumE_append, one, getE_absent fun z hz => by
        rcases List.mem_cons.1 hz with rfl | hz
        · exact h3
        · have := h1 z hz; omega]
      omega
theorem setE_right {l : List Entry} {a s : Int} (h : Right l) (ha : 0 ≤ a ∧ a ≤ 57) (hs : -1000000000000 ≤ s ∧ s ≤ 1000000000000) : Right (setE l a s) :=
  ⟨setE_up h.up, fun x hx => by
    rcases setE_mem hx with hx | ⟨rfl, h0⟩
    · exact h.ok x hx
    · exact ⟨ha.1, ha.2, hs.1, hs.2, h0⟩⟩
/-! posting -/
def putAll : List Entry → List Entry → Option (List Entry)
  | l, [] => some l
  | l, e :: es => if goodE (getE l e.account + e.sum) = true then putAll (setE l e.account (getE l e.account + e.sum)) es else none
def postB (l es : List Entry) : List Entry × Int :=
  if (wrongB l).err ≠ 0 then ([], (wrongB l).err)
  else if es.length > 10 then ([], 5)
  else if ∃ x ∈ es, badE x then ([], 3)
  else if sumE es ≠ 0 then ([], 8)
  else match putAll l es with
    | some r => (r, 0)
    | none => ([], 4)
theorem goodE_iff {s : Int} : goodE s = true ↔ -1000000000000 ≤ s ∧ s ≤ 1000000000000 := by
  unfold goodE; simp only [Bool.and_eq_true, decide_eq_true_eq, ge_iff_le]
theorem putAll_drop {l es : List Entry} {q : Nat} {e : Entry} (h : es[q]? = some e) : putAll l (es.drop q) = if goodE (getE l e.account + e.sum) = true then putAll (setE l e.account (getE l e.account + e.sum)) (es.drop (q + 1)) else none := by
  obtain ⟨hq, rfl⟩ := List.getElem?_eq_some_iff.1 h
  rw [List.drop_eq_getElem_cons hq]; rfl
/-- a book out of what each account has -/
def bookFrom (n : Nat) : Nat → (Int → Int) → List Entry
  | 0, _ => []
  | m + 1, f => (if f n = 0 then [] else [⟨n, f n⟩]) ++ bookFrom (n + 1) m f
def bookTo (f : Int → Int) : Nat → List Entry
  | 0 => []
  | k + 1 => bookTo f k ++ if f k = 0 then [] else [⟨k, f k⟩]
theorem bookTo_from (f : Int → Int) : ∀ m k, bookTo f k ++ bookFrom k m f = bookTo f (k + m)
  | 0, k => by simp [bookFrom]
  | m + 1, k => by
    have := bookTo_from f m (k + 1)
    have e1 : bookTo f (k + 1) = bookTo f k ++ (if f k = 0 then [] else [⟨k, f k⟩]) := rfl
    have e2 : bookFrom k (m + 1) f = (if f k = 0 then [] else [⟨k, f k⟩]) ++ bookFrom (k + 1) m f := rfl
    rw [show k + (m + 1) = k + 1 + m by omega, ← this, e1, e2, List.append_assoc]
theorem bookFrom_congr {f g : Int → Int} : ∀ {m n : Nat}, (∀ a : Int, (n : Int) ≤ a → f a = g a) → bookFrom n m f = bookFrom n m g
  | 0, _, _ => rfl
  | m + 1, n, h => by
    unfold bookFrom
    rw [h n (Int.le_refl _), bookFrom_congr fun a ha => h a (by omega)]
theorem canon : ∀ {m n : Nat} {l : List Entry}, Up l → (∀ x ∈ l, (n : Int) ≤ x.account ∧ x.account < n + m ∧ x.sum ≠ 0) → bookFrom n m (getE l) = l
  | 0, n, l, _, h => by
    cases l with
    | nil => rfl
    | cons x l => have := h x List.mem_cons_self; omega
  | m + 1, n, l, hu, h => by
    cases l with
    | nil =>
      unfold bookFrom
      rw [canon (m := m) (n := n + 1) hu fun x hx => by cases hx]
      simp [getE]
    | cons x l =>
      obtain ⟨h1, h2⟩ := up_cons.1 hu
      have hx := h x List.mem_cons_self
      unfold bookFrom
      by_cases hn : x.account = n
      · have e1 : getE (x :: l) n = x.sum := by unfold getE; rw [if_pos hn]
        rw [e1, if_neg hx.2.2, bookFrom_congr (g := getE l) fun a ha => by rw [getE_cons, if_neg (by omega)]]
        rw [canon h2 fun y hy => by have := h1 y hy; have := h y (List.mem_cons_of_mem _ hy); refine ⟨by omega, by omega, this.2.2⟩, ← hn]
        rfl
      · rw [getE_absent fun y hy => by
          rcases List.mem_cons.1 hy with rfl | hy
          · omega
          · have := h1 y hy; omega, if_pos rfl]
        rw [canon hu fun y hy => by
          rcases List.mem_cons.1 hy with rfl | hy
          · exact ⟨by omega, by omega, hx.2.2⟩
          · have := h1 y hy; have := h y (List.mem_cons_of_mem _ hy); exact ⟨by omega, by omega, this.2.2⟩]
        rfl
theorem right_book {l : List Entry} (h : Right l) : bookTo (getE l) 58 = l := by
  have h1 := bookTo_from (getE l) 58 0
  have h2 : bookFrom 0 58 (getE l) = l := canon h.up fun x hx => by have := h.ok x hx; exact ⟨by omega, by omega, this.2.2.2.2⟩
  rw [h2] at h1
  simpa [bookTo] using h1.symm
theorem right_ext {l r : List Entry} (hl : Right l) (hr : Right r) (h : ∀ a, getE l a = getE r a) : l = r := by
  rw [← right_book hl, ← right_book hr, show getE l = getE r from funext h]
theorem putAll_right : ∀ {es l r : List Entry}, Right l → (∀ x ∈ es, ¬ badE x) → putAll l es = some r → Right r ∧ sumE r = sumE l + sumE es
  | [], l, r, h, _, hp => by
    have : l = r := by simpa [putAll] using hp
    subst this; exact ⟨h, by simp [sumE]⟩
  | e :: es, l, r, h, hb, hp => by
    unfold putAll at hp
    split at hp
    · rename_i hg
      have hg := goodE_iff.1 hg
      have h1 := hb e List.mem_cons_self
      unfold badE at h1
      obtain ⟨h2, h3⟩ := putAll_right (setE_right h (by omega) hg) (fun x hx => hb x (List.mem_cons_of_mem _ hx)) hp
      refine ⟨h2, ?_⟩
      rw [h3, sumE_set h.up, sumE_cons]
      omega
    · cases hp
/-- what entries give an account -/
def givenE (a : Int) : List Entry → Int
  | [] => 0
  | e :: es => (if e.account = a then e.sum else 0) + givenE a es
theorem givenE_cons (a : Int) (e : Entry) (es : List Entry) : givenE a (e :: es) = (if e.account = a then e.sum else 0) + givenE a es := rfl
theorem putAll_get {a : Int} : ∀ {es l r : List Entry}, Up l → putAll l es = some r → getE r a = getE l a + givenE a es
  | [], l, r, h, hp => by
    have : l = r := by simpa [putAll] using hp
    subst this; simp [givenE]
  | e :: es, l, r, h, hp => by
    unfold putAll at hp
    split at hp
    · rw [putAll_get (setE_up h) hp, getE_set h, givenE_cons]
      by_cases hc : e.account = a
      · subst hc; simp; omega
      · simp [hc]
    · cases hp
/-- the entries' accounts as an array -/
def arrL (f : Int → Int) : List Int := (List.range 58).map fun (a : Nat) => f (a : Int)
theorem arrL_len (f : Int → Int) : (arrL f).length = 58 := by simp [arrL]
theorem arrL_get {f : Int → Int} {a : Nat} {x : Int} (h : (arrL f)[a]? = some x) : x = f a ∧ a < 58 := by
  unfold arrL at h
  rw [List.getElem?_map, Option.map_eq_some_iff] at h
  obtain ⟨b, hb, rfl⟩ := h
  obtain ⟨h1, h2⟩ := List.getElem?_eq_some_iff.1 hb
  simp at h1 h2
  subst h2
  exact ⟨rfl, h1⟩
theorem arrL_set {f g : Int → Int} {a : Nat} {s : Int} (h : ∀ b : Int, g b = if (a : Int) = b then s else f b) : (arrL f).set a s = arrL g := by
  apply List.ext_getElem?
  intro b
  rw [List.getElem?_set]
  unfold arrL
  simp only [List.length_map, List.length_range, List.getElem?_map]
  by_cases hab : a = b
  · subst hab
    by_cases hb : a < 58
    · simp [hb, h]
    · simp [hb]
  · rw [if_neg hab]
    by_cases hb : b < 58
    · rw [List.getElem?_range hb]
      simp only [Option.map_some, Option.some.injEq]
      rw [h b, if_neg (by omega)]
    · rw [List.getElem?_eq_none (by simp; omega)]; rfl
theorem getE_take {l : List Entry} {q : Nat} {x : Entry} (hu : Up l) (hx : l[q]? = some x) (b : Int) : getE (l.take (q + 1)) b = if x.account = b then x.sum else getE (l.take q) b := by
  rw [take_snoc hx]
  have hlt : ∀ y ∈ l.take q, y.account < x.account := fun y hy => by
    obtain ⟨i, hi⟩ := List.getElem?_of_mem hy
    rw [List.getElem?_take] at hi
    split at hi
    · exact up_get hu (by assumption) hi hx
    · cases hi
  generalize l.take q = m at hlt
  induction m with
  | nil => simp [getE]
  | cons y m ih =>
    have h1 := hlt y List.mem_cons_self
    rw [List.cons_append, getE_cons, getE_cons]
    rw [ih fun z hz => hlt z (List.mem_cons_of_mem _ hz)]
    by_cases h2 : y.account = b
    · rw [if_pos h2, if_pos h2, if_neg (by omega)]
    · rw [if_neg h2, if_neg h2]
end Go.Proofs.Ytgmcdlfmifijlaa.Dev
