/- Plain Lean: records in order, and what a stable merge sort in place does; no condition. -/
import Derived.Test.YtgmcdlfmifijlaaDDat
set_option linter.unusedVariables false
set_option linter.unusedSimpArgs false
namespace Go.Proofs.Ytgmcdlfmifijlaa.Dev
theorem snoc_or {α : Type} : ∀ l : List α, l = [] ∨ ∃ A y, l = A ++ [y]
  | [] => .inl rfl
  | x :: l => .inr (by
    rcases snoc_or l with rfl | ⟨A, y, rfl⟩
    · exact ⟨[], x, rfl⟩
    · exact ⟨x :: A, y, rfl⟩)
def ltR (a b : Record) : Bool := decide (a.shop < b.shop) || (decide (a.shop = b.shop) && decide (a.auth < b.auth))
def leR (a b : Record) : Prop := a.shop < b.shop ∨ (a.shop = b.shop ∧ a.auth ≤ b.auth)
def sameK (a b : Record) : Bool := decide (a.shop = b.shop) && decide (a.auth = b.auth)
def Srt (l : List Record) : Prop := l.Pairwise leR
def Same (u v : List Record) : Prop := ∀ k : Record, u.filter (sameK k) = v.filter (sameK k)
theorem ltR_t {a b : Record} : ltR a b = true ↔ (a.shop < b.shop ∨ (a.shop = b.shop ∧ a.auth < b.auth)) := by unfold ltR; simp
theorem ltR_f {a b : Record} : ltR a b = false ↔ leR b a := by
  unfold ltR leR
  rw [Bool.or_eq_false_iff, decide_eq_false_iff_not, Bool.and_eq_false_iff, decide_eq_false_iff_not, decide_eq_false_iff_not]
  omega
theorem leR_of_lt {a b : Record} (h : ltR a b = true) : leR a b := by rw [ltR_t] at h; unfold leR; omega
theorem leR_refl (a : Record) : leR a a := by unfold leR; omega
theorem leR_trans {a b c : Record} (h : leR a b) (h' : leR b c) : leR a c := by unfold leR at *; omega
theorem ltR_le {a b c : Record} (h : ltR a b = true) (h' : leR b c) : ltR a c = true := by rw [ltR_t] at *; unfold leR at *; omega
theorem le_ltR {a b c : Record} (h : leR a b) (h' : ltR b c = true) : ltR a c = true := by rw [ltR_t] at *; unfold leR at *; omega
theorem sameK_t {a b : Record} : sameK a b = true ↔ (a.shop = b.shop ∧ a.auth = b.auth) := by unfold sameK; simp
theorem sameK_refl (a : Record) : sameK a a = true := by rw [sameK_t]; exact ⟨rfl, rfl⟩
theorem Same.refl (u : List Record) : Same u u := fun _ => rfl
theorem Same.symm {u v : List Record} (h : Same u v) : Same v u := fun k => (h k).symm
theorem Same.trans {u v z : List Record} (h : Same u v) (h' : Same v z) : Same u z := fun k => (h k).trans (h' k)
theorem Same.app {u v u' v' : List Record} (h : Same u u') (h' : Same v v') : Same (u ++ v) (u' ++ v') := fun k => by rw [List.filter_append, List.filter_append, h k, h' k]
theorem Same.mem {u v : List Record} (h : Same u v) {x : Record} : x ∈ u ↔ x ∈ v := by
  have h1 : ∀ l : List Record, x ∈ l.filter (sameK x) ↔ x ∈ l := fun l => by simp [sameK_refl]
  rw [← h1 u, ← h1 v, h x]
theorem Same.perm {u v : List Record} (h : Same u v) : u.Perm v := by
  rw [List.perm_iff_count]
  intro x
  rw [← List.count_filter (p := sameK x) (l := u) (sameK_refl x), ← List.count_filter (p := sameK x) (l := v) (sameK_refl x), h x]
theorem Same.len {u v : List Record} (h : Same u v) : u.length = v.length := h.perm.length_eq
/-- two parts of which no record of the one is of a permission of the other may change places -/
theorem Same.comm {u v : List Record} (h : ∀ x ∈ u, ∀ y ∈ v, ltR y x = true) : Same (u ++ v) (v ++ u) := fun k => by
  rw [List.filter_append, List.filter_append]
  by_cases hu : u.filter (sameK k) = []
  · rw [hu]; simp
  · by_cases hv : v.filter (sameK k) = []
    · rw [hv]; simp
    · exfalso
      obtain ⟨x, hx⟩ := List.exists_mem_of_ne_nil _ hu
      obtain ⟨y, hy⟩ := List.exists_mem_of_ne_nil _ hv
      rw [List.mem_filter] at hx hy
      have h1 := h x hx.1 y hy.1
      have h2 := sameK_t.1 hx.2
      have h3 := sameK_t.1 hy.2
      rw [ltR_t] at h1
      omega
/-- sorted, and of each permission as they came: there is one such list -/
theorem Srt.uniq : ∀ {u v : List Record}, Srt u → Srt v → Same u v → u = v
  | [], v, _, _, h => by have := h.len; exact (List.eq_nil_of_length_eq_zero this.symm).symm
  | x :: u, [], _, _, h => by have := h.len; cases this
  | x :: u, y :: v, hu, hv, h => by
    obtain ⟨hu1, hu2⟩ := List.pairwise_cons.1 hu
    obtain ⟨hv1, hv2⟩ := List.pairwise_cons.1 hv
    have h1 : leR x y := by
      rcases List.mem_cons.1 (h.mem.2 (List.mem_cons_self (a := y) (l := v))) with rfl | hm
      · exact leR_refl _
      · exact hu1 y hm
    have h2 : leR y x := by
      rcases List.mem_cons.1 (h.mem.1 (List.mem_cons_self (a := x) (l := u))) with rfl | hm
      · exact leR_refl _
      · exact hv1 x hm
    have h3 : sameK x y = true := by rw [sameK_t]; unfold leR at h1 h2; omega
    have h4 := h x
    rw [List.filter_cons, List.filter_cons, if_pos (sameK_refl x), if_pos h3] at h4
    obtain ⟨rfl, _⟩ := List.cons.inj h4
    have h5 : Same u v := fun k => by
      have := h k
      rw [List.filter_cons, List.filter_cons] at this
      split at this
      · exact (List.cons.inj this).2
      · exact this
    rw [Srt.uniq hu2 hv2 h5]

/-! two change places -/
def swap2 (d : List Record) (i j : Nat) : List Record :=
  match d[i]?, d[j]? with
  | some x, some y => (d.set i y).set j x
  | _, _ => d
theorem swap2_eq {d : List Record} {i j : Nat} {x y : Record} (hx : d[i]? = some x) (hy : d[j]? = some y) : swap2 d i j = (d.set i y).set j x := by unfold swap2; rw [hx, hy]
theorem swap2_len (d : List Record) (i j : Nat) : (swap2 d i j).length = d.length := by
  unfold swap2; split <;> simp
theorem swap2_app (s t u : List Record) (x y : Record) {i j : Nat} (hi : i = s.length) (hj : j = s.length + 1 + t.length) : swap2 (s ++ x :: (t ++ y :: u)) i j = s ++ y :: (t ++ x :: u) := by
  subst hi hj
  have h1 : (s ++ x :: (t ++ y :: u))[s.length]? = some x := by simp
  have h2 : (s ++ x :: (t ++ y :: u))[s.length + 1 + t.length]? = some y := by
    rw [List.getElem?_append_right (by omega), show s.length + 1 + t.length - s.length = t.length + 1 by omega, List.getElem?_cons_succ]; simp
  rw [swap2_eq h1 h2, List.set_append_right _ _ (Nat.le_refl _), Nat.sub_self, List.set_cons_zero, List.set_append_right _ _ (by omega), show s.length + 1 + t.length - s.length = t.length + 1 by omega,
    List.set_cons_succ, List.set_append_right _ _ (Nat.le_refl _), Nat.sub_self, List.set_cons_zero]
theorem swap2_comm (d : List Record) (i j : Nat) : swap2 d i j = swap2 d j i := by
  by_cases hij : i = j
  · subst hij; rfl
  · unfold swap2
    cases hx : d[i]? with
    | none => cases hy : d[j]? <;> rfl
    | some x =>
      cases hy : d[j]? with
      | none => rfl
      | some y => exact List.set_comm _ _ hij
theorem swap2_app' (s t u : List Record) (x y : Record) {i j : Nat} (hi : i = s.length) (hj : j = s.length + 1 + t.length) : swap2 (s ++ x :: (t ++ y :: u)) j i = s ++ y :: (t ++ x :: u) := by rw [swap2_comm]; exact swap2_app s t u x y hi hj

/-! a part of it is made anew -/
structure Part (d y : List Record) (a b : Nat) : Prop where
  len : y.length = d.length
  l : y.take a = d.take a
  r : y.drop b = d.drop b
  s : Srt ((y.drop a).take (b - a))
  m : Same d y
theorem Part.of {P X C R : List Record} {a b : Nat} (ha : P.length = a) (hb : b = a + X.length) (hs : Srt C) (hm : Same X C) : Part (P ++ X ++ R) (P ++ C ++ R) a b := by
  subst ha hb
  have hl := hm.len
  refine ⟨by simp [hl], by simp, ?_, ?_, ((Same.refl P).app hm).app (Same.refl R)⟩
  · have h1 : ∀ Z : List Record, Z.length = X.length → (P ++ Z ++ R).drop (P.length + X.length) = R := fun Z hz => by
      rw [← hz, ← List.length_append, List.drop_left]
    rw [h1 C hl.symm, h1 X rfl]
  · rw [List.append_assoc, List.drop_left, show P.length + X.length - P.length = C.length by omega, List.take_left]; exact hs
theorem parts {d : List Record} {a b : Nat} (h : a ≤ b) (hb : b ≤ d.length) : d = d.take a ++ (d.drop a).take (b - a) ++ d.drop b := by
  have h1 : d.drop b = (d.drop a).drop (b - a) := by rw [List.drop_drop]; congr 1; omega
  rw [h1, List.append_assoc, List.take_append_drop, List.take_append_drop]

/-! insertion -/
def insJ (a : Nat) : Nat → List Record → List Record
  | 0, d => d
  | j + 1, d =>
    if a < j + 1 then
      match d[j + 1]?, d[j]? with
      | some x, some y => if ltR x y = true then insJ a j (swap2 d (j + 1) j) else d
      | _, _ => d
    else d
theorem insJ_end {a j : Nat} {d : List Record} (h : ¬ a < j) : insJ a j d = d := by
  cases j with
  | zero => rfl
  | succ j => unfold insJ; rw [if_neg h]
theorem insJ_stop {a j : Nat} {d : List Record} {x y : Record} (hx : d[j]? = some x) (hy : d[j - 1]? = some y) (h : ltR x y = false) : insJ a j d = d := by
  cases j with
  | zero => rfl
  | succ j =>
    unfold insJ
    split
    · rw [hx, show d[j]? = some y from hy]; simp [h]
    · rfl
theorem insJ_go {a j : Nat} {d : List Record} {x y : Record} (ha : a < j) (hx : d[j]? = some x) (hy : d[j - 1]? = some y) (h : ltR x y = true) : insJ a j d = insJ a (j - 1) (swap2 d j (j - 1)) := by
  cases j with
  | zero => omega
  | succ j =>
    conv => lhs; unfold insJ
    rw [if_pos ha, hx, show d[j]? = some y from hy]
    simp only [h, if_true]
    rfl
theorem insJ_len (a : Nat) : ∀ (j : Nat) (d : List Record), (insJ a j d).length = d.length
  | 0, d => rfl
  | j + 1, d => by
    unfold insJ
    split
    · split
      · split
        · rw [insJ_len a j, swap2_len]
        · rfl
      · rfl
    · rfl
theorem insJ_app (P : List Record) (x : Record) : ∀ (n : Nat) (A R : List Record), A.length = n → ∃ A1 A2, A = A1 ++ A2 ∧ insJ P.length (P.length + n) (P ++ A ++ x :: R) = P ++ (A1 ++ x :: A2) ++ R ∧ (∀ y ∈ A2, ltR x y = true) ∧ (∀ A0 y, A1 = A0 ++ [y] → leR y x)
  | 0, A, R, hA => by
    obtain rfl := List.eq_nil_of_length_eq_zero hA
    refine ⟨[], [], rfl, ?_, by simp, by simp⟩
    rw [insJ_end (by omega)]; simp
  | n + 1, A, R, hA => by
    obtain ⟨A', y, rfl⟩ : ∃ A' y, A = A' ++ [y] := by
      rcases snoc_or A with rfl | h
      · cases hA
      · exact h
    have hn : A'.length = n := by simpa using hA
    have e1 : P ++ (A' ++ [y]) ++ x :: R = (P ++ A') ++ y :: ([] ++ x :: R) := by simp
    have h1 : (P ++ (A' ++ [y]) ++ x :: R)[P.length + (n + 1)]? = some x := by
      rw [List.getElem?_append_right (by simp; omega), show P.length + (n + 1) - (P ++ (A' ++ [y])).length = 0 by simp; omega]; rfl
    have h2 : (P ++ (A' ++ [y]) ++ x :: R)[P.length + (n + 1) - 1]? = some y := by
      rw [e1, List.getElem?_append_right (by simp; omega), show P.length + (n + 1) - 1 - (P ++ A').length = 0 by simp; omega]; rfl
    cases hc : ltR x y with
    | true =>
      rw [insJ_go (by omega) h1 h2 hc, show P.length + (n + 1) - 1 = P.length + n by omega, e1, swap2_app' (P ++ A') [] R y x (by simp; omega) (by simp; omega)]
      obtain ⟨A1, A2, rfl, h3, h4, h5⟩ := insJ_app P x n A' (y :: R) hn
      refine ⟨A1, A2 ++ [y], by simp, ?_, ?_, h5⟩
      · rw [List.nil_append, h3]; simp
      · intro z hz
        rcases List.mem_append.1 hz with hz | hz
        · exact h4 z hz
        · rw [List.mem_singleton.1 hz]; exact hc
    | false =>
      rw [insJ_stop h1 h2 hc]
      refine ⟨A' ++ [y], [], by simp, by simp, by simp, fun A0 z hz => ?_⟩
      obtain ⟨_, h⟩ := List.append_inj' hz rfl
      rw [← List.cons.inj h |>.1]
      exact ltR_f.1 hc
theorem srt_app {u v : List Record} : Srt (u ++ v) ↔ Srt u ∧ Srt v ∧ ∀ x ∈ u, ∀ y ∈ v, leR x y := List.pairwise_append
theorem srt_last {u : List Record} {y x : Record} (h : Srt (u ++ [y])) (hx : leR y x) : ∀ z ∈ u ++ [y], leR z x := fun z hz => by
  rcases List.mem_append.1 hz with hz | hz
  · exact leR_trans ((srt_app.1 h).2.2 z hz y (List.mem_singleton.2 rfl)) hx
  · rw [List.mem_singleton.1 hz]; exact hx
theorem le_all {u : List Record} {x : Record} (h : Srt u) (hl : ∀ A0 y, u = A0 ++ [y] → leR y x) : ∀ z ∈ u, leR z x := by
  rcases snoc_or u with rfl | ⟨A', y, h'⟩
  · simp
  · rw [h'] at h ⊢; exact srt_last h (hl A' y h')
/-- a record between those that are not above it and those that are -/
theorem mid_ok {A1 A2 : List Record} {x : Record} (h : Srt (A1 ++ A2)) (h1 : ∀ z ∈ A1, leR z x) (h2 : ∀ z ∈ A2, ltR x z = true) : Srt (A1 ++ x :: A2) ∧ Same (A1 ++ A2 ++ [x]) (A1 ++ x :: A2) := by
  obtain ⟨s1, s2, s3⟩ := srt_app.1 h
  refine ⟨srt_app.2 ⟨s1, List.pairwise_cons.2 ⟨fun y hy => leR_of_lt (h2 y hy), s2⟩, fun z hz y hy => ?_⟩, ?_⟩
  · rcases List.mem_cons.1 hy with rfl | hy
    · exact h1 z hz
    · exact s3 z hz y hy
  · have := (Same.refl A1).app (Same.comm (u := A2) (v := [x]) fun y hy z hz => by rw [List.mem_singleton.1 hz]; exact h2 y hy)
    simpa using this
theorem mid_ok' {B1 B2 : List Record} {x : Record} (h : Srt (B1 ++ B2)) (h1 : ∀ z ∈ B1, ltR z x = true) (h2 : ∀ z ∈ B2, leR x z) : Srt (B1 ++ x :: B2) ∧ Same (x :: (B1 ++ B2)) (B1 ++ x :: B2) := by
  obtain ⟨s1, s2, s3⟩ := srt_app.1 h
  refine ⟨srt_app.2 ⟨s1, List.pairwise_cons.2 ⟨h2, s2⟩, fun z hz y hy => ?_⟩, ?_⟩
  · rcases List.mem_cons.1 hy with rfl | hy
    · exact leR_of_lt (h1 z hz)
    · exact s3 z hz y hy
  · have := (Same.comm (u := [x]) (v := B1) fun y hy z hz => by rw [List.mem_singleton.1 hy]; exact h1 z hz).app (Same.refl B2)
    simpa using this
/-- insertion sort from a on: n more -/
def insS (a : Nat) : Nat → List Record → List Record
  | 0, d => d
  | n + 1, d => insJ a (a + 1 + n) (insS a n d)
theorem insS_len (a : Nat) : ∀ (n : Nat) (d : List Record), (insS a n d).length = d.length
  | 0, _ => rfl
  | n + 1, d => by unfold insS; rw [insJ_len, insS_len a n]
theorem insS_app (P X R : List Record) : ∀ n, n < X.length → ∃ C, insS P.length n (P ++ X ++ R) = P ++ C ++ X.drop (n + 1) ++ R ∧ Srt C ∧ Same (X.take (n + 1)) C
  | 0, h => by
    refine ⟨X.take 1, ?_, ?_, Same.refl _⟩
    · unfold insS; rw [List.append_assoc P (X.take 1), List.take_append_drop]
    · cases X with
      | nil => cases h
      | cons x X => exact List.pairwise_singleton _ _
  | n + 1, h => by
    obtain ⟨C, h1, h2, h3⟩ := insS_app P X R n (by omega)
    have hl : C.length = n + 1 := by rw [← h3.len, List.length_take]; omega
    have e1 : X.drop (n + 1) = X[n + 1] :: X.drop (n + 2) := List.drop_eq_getElem_cons h
    obtain ⟨A1, A2, rfl, h4, h5, h6⟩ := insJ_app P X[n + 1] (n + 1) C (X.drop (n + 2) ++ R) hl
    have h7 : Srt A1 := (srt_app.1 h2).1
    obtain ⟨h8, h9⟩ := mid_ok h2 (le_all h7 h6) h5
    refine ⟨A1 ++ X[n + 1] :: A2, ?_, h8, ?_⟩
    · unfold insS
      rw [h1, show P.length + 1 + n = P.length + (n + 1) by omega, show P ++ (A1 ++ A2) ++ X.drop (n + 1) ++ R = P ++ (A1 ++ A2) ++ X[n + 1] :: (X.drop (n + 2) ++ R) by rw [List.append_assoc _ _ R, e1, List.cons_append], h4]
      simp
    · rw [List.take_add_one, List.getElem?_eq_getElem h]
      exact (h3.app (Same.refl _)).trans h9
/-- what insertion sort does from a to b -/
theorem insS_part {d : List Record} {a b : Nat} (h : a ≤ b) (hb : b ≤ d.length) : Part d (insS a (b - (a + 1)) d) a b := by
  by_cases hab : a = b
  · subst hab
    rw [show a - (a + 1) = 0 by omega]
    exact ⟨rfl, rfl, rfl, by rw [Nat.sub_self]; exact List.Pairwise.nil, Same.refl _⟩
  · have e := parts h hb
    have h1 : (d.take a).length = a := by rw [List.length_take]; omega
    have h2 : ((d.drop a).take (b - a)).length = b - a := by rw [List.length_take, List.length_drop]; omega
    obtain ⟨C, h3, h4, h5⟩ := insS_app (d.take a) ((d.drop a).take (b - a)) (d.drop b) (b - (a + 1)) (by omega)
    rw [h1] at h3
    rw [← e, List.drop_of_length_le (l := (d.drop a).take (b - a)) (by omega), List.append_nil] at h3
    rw [List.take_of_length_le (l := (d.drop a).take (b - a)) (by omega)] at h5
    have := Part.of (P := d.take a) (R := d.drop b) (a := a) (b := b) h1 (by omega) h4 h5
    rwa [← e, ← h3] at this

/-! merging in place -/
def ltAt (d : List Record) (i j : Nat) : Bool :=
  match d[i]?, d[j]? with
  | some x, some y => ltR x y
  | _, _ => false
theorem ltAt_eq {d : List Record} {i j : Nat} {x y : Record} (hx : d[i]? = some x) (hy : d[j]? = some y) : ltAt d i j = ltR x y := by unfold ltAt; rw [hx, hy]
/-- halving -/
def bsr (p : Nat → Bool) (i j : Nat) : Nat :=
  if _h : i < j then if p ((i + j) / 2) = true then bsr p ((i + j) / 2 + 1) j else bsr p i ((i + j) / 2) else i
termination_by j - i
theorem bsr_end {p : Nat → Bool} {i j : Nat} (h : ¬ i < j) : bsr p i j = i := by rw [bsr, dif_neg h]
theorem bsr_t {p : Nat → Bool} {i j : Nat} (h : i < j) (hp : p ((i + j) / 2) = true) : bsr p i j = bsr p ((i + j) / 2 + 1) j := by rw [bsr, dif_pos h, if_pos hp]
theorem bsr_f {p : Nat → Bool} {i j : Nat} (h : i < j) (hp : p ((i + j) / 2) = false) : bsr p i j = bsr p i ((i + j) / 2) := by rw [bsr, dif_pos h, if_neg (by rw [hp]; exact Bool.false_ne_true)]
theorem bsr_spec (p : Nat → Bool) : ∀ (n i j : Nat), j - i ≤ n → i ≤ j → i ≤ bsr p i j ∧ bsr p i j ≤ j ∧ (bsr p i j = i ∨ p (bsr p i j - 1) = true) ∧ (bsr p i j = j ∨ p (bsr p i j) = false)
  | 0, i, j, hn, h => by rw [bsr_end (by omega)]; exact ⟨Nat.le_refl _, h, .inl rfl, .inl (by omega)⟩
  | n + 1, i, j, hn, h => by
    by_cases hij : i < j
    · cases hp : p ((i + j) / 2) with
      | true =>
        rw [bsr_t hij hp]
        obtain ⟨h1, h2, h3, h4⟩ := bsr_spec p n ((i + j) / 2 + 1) j (by omega) (by omega)
        refine ⟨by omega, h2, ?_, h4⟩
        rcases h3 with h3 | h3
        · right; rw [h3, Nat.add_sub_cancel]; exact hp
        · exact .inr h3
      | false =>
        rw [bsr_f hij hp]
        obtain ⟨h1, h2, h3, h4⟩ := bsr_spec p n i ((i + j) / 2) (by omega) (by omega)
        refine ⟨h1, by omega, h3, ?_⟩
        rcases h4 with h4 | h4
        · right; rw [h4]; exact hp
        · exact .inr h4
    · rw [bsr_end hij]; exact ⟨Nat.le_refl _, h, .inl rfl, .inl (by omega)⟩
/-- a record moves up, or down -/
def mvR (a : Nat) : Nat → List Record → List Record
  | 0, d => d
  | n + 1, d => swap2 (mvR a n d) (a + n) (a + n + 1)
def mvL (m : Nat) : Nat → List Record → List Record
  | 0, d => d
  | n + 1, d => swap2 (mvL m n d) (m - n) (m - n - 1)
theorem mvR_len (a : Nat) : ∀ (n : Nat) (d : List Record), (mvR a n d).length = d.length
  | 0, _ => rfl
  | n + 1, d => by unfold mvR; rw [swap2_len, mvR_len a n]
theorem mvL_len (m : Nat) : ∀ (n : Nat) (d : List Record), (mvL m n d).length = d.length
  | 0, _ => rfl
  | n + 1, d => by unfold mvL; rw [swap2_len, mvL_len m n]
theorem mvR_app (P : List Record) (x : Record) : ∀ (n : Nat) (V R : List Record), V.length = n → mvR P.length n (P ++ x :: (V ++ R)) = P ++ V ++ x :: R
  | 0, V, R, h => by obtain rfl := List.eq_nil_of_length_eq_zero h; simp [mvR]
  | n + 1, V, R, h => by
    rcases snoc_or V with rfl | ⟨V', y, rfl⟩
    · cases h
    · have hn : V'.length = n := by simpa using h
      unfold mvR
      rw [show P ++ x :: (V' ++ [y] ++ R) = P ++ x :: (V' ++ (y :: R)) by simp, mvR_app P x n V' (y :: R) hn]
      have := swap2_app (P ++ V') [] R x y (i := P.length + n) (j := P.length + n + 1) (by simp; omega) (by simp; omega)
      rw [List.nil_append, List.nil_append] at this
      rw [this]; simp
theorem mvL_app (P : List Record) (x : Record) (R : List Record) : ∀ (n : Nat) (U1 U2 : List Record), U2.length = n → mvL (P ++ U1 ++ U2).length n (P ++ U1 ++ U2 ++ x :: R) = P ++ U1 ++ x :: (U2 ++ R)
  | 0, U1, U2, h => by obtain rfl := List.eq_nil_of_length_eq_zero h; simp [mvL]
  | n + 1, U1, U2, h => by
    cases U2 with
    | nil => cases h
    | cons y U =>
      have hn : U.length = n := by simpa using h
      unfold mvL
      have e1 : P ++ U1 ++ y :: U = P ++ (U1 ++ [y]) ++ U := by simp
      rw [e1, mvL_app P x R n (U1 ++ [y]) U hn]
      have := swap2_app' (P ++ U1) [] (U ++ R) y x (i := (P ++ (U1 ++ [y]) ++ U).length - n - 1) (j := (P ++ (U1 ++ [y]) ++ U).length - n) (by simp; omega) (by simp; omega)
      rw [List.nil_append, List.nil_append] at this
      rw [show P ++ (U1 ++ [y]) ++ x :: (U ++ R) = P ++ U1 ++ y :: x :: (U ++ R) by simp, this]
      simp
/-- two parts change places -/
def swapR (a b : Nat) : Nat → List Record → List Record
  | 0, d => d
  | n + 1, d => swap2 (swapR a b n d) (a + n) (b + n)
theorem swapR_len (a b : Nat) : ∀ (n : Nat) (d : List Record), (swapR a b n d).length = d.length
  | 0, _ => rfl
  | n + 1, d => by unfold swapR; rw [swap2_len, swapR_len a b n]
theorem swapR_app (p : List Record) : ∀ (n : Nat) (x q y r : List Record) {b : Nat}, x.length = n → y.length = n → b = p.length + n + q.length → swapR p.length b n (p ++ (x ++ (q ++ (y ++ r)))) = p ++ (y ++ (q ++ (x ++ r)))
  | 0, x, q, y, r, b, hx, hy, _ => by obtain rfl := List.eq_nil_of_length_eq_zero hx; obtain rfl := List.eq_nil_of_length_eq_zero hy; rfl
  | n + 1, x, q, y, r, b, hx, hy, hb => by
    rcases snoc_or x with rfl | ⟨x', x1, rfl⟩
    · cases hx
    rcases snoc_or y with rfl | ⟨y', y1, rfl⟩
    · cases hy
    have h1 : x'.length = n := by simpa using hx
    have h2 : y'.length = n := by simpa using hy
    unfold swapR
    have := swapR_app p n x' (x1 :: q) y' (y1 :: r) (b := b) h1 h2 (by simp; omega)
    rw [show p ++ (x' ++ [x1] ++ (q ++ (y' ++ [y1] ++ r))) = p ++ (x' ++ (x1 :: q ++ (y' ++ y1 :: r))) by simp, this]
    have := swap2_app (p ++ y') (q ++ x') r x1 y1 (i := p.length + n) (j := b + n) (by simp; omega) (by simp; omega)
    rw [show p ++ (y' ++ (x1 :: q ++ (x' ++ y1 :: r))) = p ++ y' ++ x1 :: (q ++ x' ++ y1 :: r) by simp, this]
    simp
def rot (m : Nat) (i j : Nat) (d : List Record) : List Record :=
  if _h : 0 < i ∧ 0 < j then
    if i = j then swapR (m - i) m i d
    else if i > j then rot m (i - j) j (swapR (m - i) m j d)
    else rot m i (j - i) (swapR (m - i) (m + j - i) i d)
  else d
termination_by i + j
theorem rot_eq {m i : Nat} {d : List Record} (hi : 0 < i) : rot m i i d = swapR (m - i) m i d := by rw [rot, dif_pos ⟨hi, hi⟩, if_pos rfl]
theorem rot_gt {m i j : Nat} {d : List Record} (hj : 0 < j) (h : i > j) : rot m i j d = rot m (i - j) j (swapR (m - i) m j d) := by rw [rot, dif_pos ⟨by omega, hj⟩, if_neg (by omega), if_pos h]
theorem rot_lt {m i j : Nat} {d : List Record} (hi : 0 < i) (h : i < j) : rot m i j d = rot m i (j - i) (swapR (m - i) (m + j - i) i d) := by rw [rot, dif_pos ⟨hi, by omega⟩, if_neg (by omega), if_neg (by omega)]
theorem rot_app : ∀ (n : Nat) (P u v R : List Record) (m : Nat), u.length + v.length ≤ n → 0 < u.length → 0 < v.length → m = P.length + u.length → rot m u.length v.length (P ++ (u ++ (v ++ R))) = P ++ (v ++ (u ++ R))
  | 0, P, u, v, R, m, hn, hu, hv, hm => by omega
  | n + 1, P, u, v, R, m, hn, hu, hv, hm => by
    rcases Nat.lt_trichotomy u.length v.length with h | h | h
    · rw [rot_lt hu h]
      have e : v = v.take (v.length - u.length) ++ v.drop (v.length - u.length) := (List.take_append_drop _ _).symm
      have l1 : (v.take (v.length - u.length)).length = v.length - u.length := by rw [List.length_take]; omega
      have l2 : (v.drop (v.length - u.length)).length = u.length := by rw [List.length_drop]; omega
      generalize hv1 : v.take (v.length - u.length) = v1 at e l1
      generalize hv2 : v.drop (v.length - u.length) = v2 at e l2
      have h1 := swapR_app P u.length u v1 v2 R (b := m + v.length - u.length) rfl l2 (by omega)
      rw [show m - u.length = P.length by omega, show P ++ (u ++ (v ++ R)) = P ++ (u ++ (v1 ++ (v2 ++ R))) by rw [e]; simp, h1, ← l1]
      have h2 := rot_app n P v2 v1 (u ++ R) m (by omega) (by omega) (by omega) (by omega)
      rw [l2] at h2
      rw [h2, e]; simp
    · rw [← h, rot_eq hu, show m - u.length = P.length by omega]
      have h1 := swapR_app P u.length u [] v R (b := m) rfl h.symm (by simp; omega)
      simpa using h1
    · rw [rot_gt hv h]
      have e : u = u.take v.length ++ u.drop v.length := (List.take_append_drop _ _).symm
      have l1 : (u.take v.length).length = v.length := by rw [List.length_take]; omega
      have l2 : (u.drop v.length).length = u.length - v.length := by rw [List.length_drop]
      generalize hv1 : u.take v.length = u1 at e l1
      generalize hv2 : u.drop v.length = u2 at e l2
      have h1 := swapR_app P v.length u1 u2 v R (b := m) l1 rfl (by omega)
      rw [show m - u.length = P.length by omega, show P ++ (u ++ (v ++ R)) = P ++ (u1 ++ (u2 ++ (v ++ R))) by rw [e]; simp, h1, ← l2]
      have h2 := rot_app n (P ++ v) u2 u1 R m (by omega) (by omega) (by omega) (by simp; omega)
      rw [l1] at h2
      rw [show P ++ (v ++ (u2 ++ (u1 ++ R))) = P ++ v ++ (u2 ++ (u1 ++ R)) by simp, h2, e]; simp
theorem rot_len : ∀ (n m i j : Nat) (d : List Record), i + j ≤ n → (rot m i j d).length = d.length
  | 0, m, i, j, d, h => by rw [rot, dif_neg (by omega)]
  | n + 1, m, i, j, d, h => by
    rw [rot]
    split
    · split
      · rw [swapR_len]
      · split
        · rw [rot_len n _ _ _ _ (by omega), swapR_len]
        · rw [rot_len n _ _ _ _ (by omega), swapR_len]
    · rfl
def symStart (d : List Record) (a m b : Nat) : Nat :=
  if m > (a + b) / 2 then bsr (fun c => !ltAt d ((a + b) / 2 + m - 1 - c) c) ((a + b) / 2 + m - b) ((a + b) / 2)
  else bsr (fun c => !ltAt d ((a + b) / 2 + m - 1 - c) c) a m
def symRot (s m e : Nat) (d : List Record) : List Record := if s < m ∧ m < e then rot m (m - s) (e - m) d else d
def symM : Nat → Nat → Nat → Nat → List Record → List Record
  | 0, _, _, _, d => d
  | f + 1, a, m, b, d =>
    if m - a = 1 then mvR a (bsr (fun h => ltAt d h a) m b - 1 - a) d
    else if b - m = 1 then mvL m (m - bsr (fun h => !ltAt d m h) a m) d
    else
      (fun s => (fun e => (fun d1 => (fun d2 => if (a + b) / 2 < e ∧ e < b then symM f ((a + b) / 2) e b d2 else d2)
        (if a < s ∧ s < (a + b) / 2 then symM f a s ((a + b) / 2) d1 else d1)) (symRot s m e d)) ((a + b) / 2 + m - s)) (symStart d a m b)
theorem symRot_len (s m e : Nat) (d : List Record) : (symRot s m e d).length = d.length := by unfold symRot; split; exact rot_len _ _ _ _ _ (Nat.le_refl _); rfl
theorem symM_len : ∀ (f a m b : Nat) (d : List Record), (symM f a m b d).length = d.length
  | 0, _, _, _, _ => rfl
  | f + 1, a, m, b, d => by
    unfold symM
    split
    · rw [mvR_len]
    · split
      · rw [mvL_len]
      · dsimp only
        split
        · rw [symM_len f]
          split
          · rw [symM_len f, symRot_len]
          · rw [symRot_len]
        · split
          · rw [symM_len f, symRot_len]
          · rw [symRot_len]
end Go.Proofs.Ytgmcdlfmifijlaa.Dev
namespace Go.Proofs.Ytgmcdlfmifijlaa.Dev
theorem insS_step {a i : Nat} {d : List Record} (h : a + 1 ≤ i) : insS a (i + 1 - (a + 1)) d = insJ a i (insS a (i - (a + 1)) d) := by
  rw [show i + 1 - (a + 1) = (i - (a + 1)) + 1 by omega]
  conv => lhs; unfold insS
  rw [show a + 1 + (i - (a + 1)) = i by omega]
theorem mvR_step {a k : Nat} {d : List Record} (h : a ≤ k) : mvR a (k + 1 - a) d = swap2 (mvR a (k - a) d) k (k + 1) := by
  rw [show k + 1 - a = (k - a) + 1 by omega]
  conv => lhs; unfold mvR
  rw [show a + (k - a) = k by omega]
theorem mvL_step {m k : Nat} {d : List Record} (h : k ≤ m) (h0 : 0 < k) : mvL m (m - (k - 1)) d = swap2 (mvL m (m - k) d) k (k - 1) := by
  rw [show m - (k - 1) = (m - k) + 1 by omega]
  conv => lhs; unfold mvL
  rw [show m - (m - k) = k by omega]
theorem get_l {P X : List Record} {k n : Nat} (hn : n = P.length + k) : (P ++ X)[n]? = X[k]? := by
  subst hn; rw [List.getElem?_append_right (by omega), Nat.add_sub_cancel_left]
theorem le_last {B : List Record} {x : Record} (h : Srt B) (hl : ∀ A0 y, B = A0 ++ [y] → ltR y x = true) : ∀ z ∈ B, ltR z x = true := by
  rcases snoc_or B with rfl | ⟨A', y, h'⟩
  · simp
  · intro z hz
    have h1 := hl A' y h'
    rw [h'] at h hz
    rcases List.mem_append.1 hz with hz | hz
    · exact le_ltR ((srt_app.1 h).2.2 z hz y (List.mem_singleton.2 rfl)) h1
    · rw [List.mem_singleton.1 hz]; exact h1
theorem first_lt {B : List Record} {x : Record} (h : Srt B) (hl : ∀ y B0, B = y :: B0 → ltR x y = true) : ∀ z ∈ B, ltR x z = true := by
  cases B with
  | nil => simp
  | cons y B0 =>
    intro z hz
    have h1 := hl y B0 rfl
    rcases List.mem_cons.1 hz with rfl | hz
    · exact h1
    · exact ltR_le h1 ((List.pairwise_cons.1 h).1 z hz)
theorem first_le {B : List Record} {x : Record} (h : Srt B) (hl : ∀ y B0, B = y :: B0 → leR x y) : ∀ z ∈ B, leR x z := by
  cases B with
  | nil => simp
  | cons y B0 =>
    intro z hz
    have h1 := hl y B0 rfl
    rcases List.mem_cons.1 hz with rfl | hz
    · exact h1
    · exact leR_trans h1 ((List.pairwise_cons.1 h).1 z hz)
theorem snoc_get {A : List Record} {y : Record} {A0 : List Record} (h : A = A0 ++ [y]) : A[A.length - 1]? = some y := by subst h; simp
theorem split_at (l : List Record) (k : Nat) (h : k ≤ l.length) : ∃ u v, l = u ++ v ∧ u.length = k := ⟨l.take k, l.drop k, (List.take_append_drop k l).symm, by rw [List.length_take]; omega⟩
theorem first_min {U : List Record} {u : Record} (h : Srt U) (hu : U[0]? = some u) : ∀ x ∈ U, leR u x := by
  cases U with
  | nil => simp
  | cons y U =>
    simp at hu; subst hu
    intro x hx
    rcases List.mem_cons.1 hx with rfl | hx
    · exact leR_refl _
    · exact (List.pairwise_cons.1 h).1 x hx
theorem last_max {V : List Record} {v : Record} (h : Srt V) (hv : V[V.length - 1]? = some v) : ∀ y ∈ V, leR y v := by
  rcases snoc_or V with rfl | ⟨A, z, rfl⟩
  · simp
  · simp at hv; subst hv
    exact srt_last h (leR_refl _)
theorem get_some {V : List Record} {k : Nat} (h : k < V.length) : ∃ v, V[k]? = some v := ⟨V[k], List.getElem?_eq_getElem h⟩
/-- merging in place: what comes of two sorted parts -/
theorem symM_app : ∀ (f : Nat) (P A B R : List Record), A.length + B.length ≤ f → 0 < A.length → 0 < B.length → Srt A → Srt B →
    ∃ C, symM f P.length (P.length + A.length) (P.length + A.length + B.length) (P ++ (A ++ (B ++ R))) = P ++ (C ++ R) ∧ Srt C ∧ Same (A ++ B) C
  | 0, P, A, B, R, hf, ha, hb, _, _ => by omega
  | f + 1, P, A, B, R, hf, ha, hb, sA, sB => by
    obtain ⟨a, hea⟩ : ∃ a, a = P.length := ⟨_, rfl⟩
    obtain ⟨m, hem⟩ : ∃ m, m = P.length + A.length := ⟨_, rfl⟩
    obtain ⟨b, heb⟩ : ∃ b, b = P.length + A.length + B.length := ⟨_, rfl⟩
    rw [← hea, show a + A.length = m by omega, show m + B.length = b by omega]
    unfold symM
    split
    · -- one record ahead
      rename_i h1
      obtain ⟨x, rfl⟩ : ∃ x, A = [x] := by
        match A, ha, (by omega : A.length = 1) with
        | [x], _, _ => exact ⟨x, rfl⟩
      have hl1 : [x].length = 1 := rfl
      obtain ⟨q1, q2, q3, q4⟩ := bsr_spec (fun h => ltAt (P ++ ([x] ++ (B ++ R))) h a) (b - m) m b (Nat.le_refl _) (by omega)
      generalize bsr (fun h => ltAt (P ++ ([x] ++ (B ++ R))) h a) m b = i at q1 q2 q3 q4
      obtain ⟨B1, B2, rfl, hB1⟩ := split_at B (i - m) (by omega)
      rw [List.length_append] at heb
      have gx : (P ++ ([x] ++ (B1 ++ B2 ++ R)))[a]? = some x := by rw [get_l (k := 0) (by omega)]; rfl
      have gB : ∀ k, k < B1.length + B2.length → (P ++ ([x] ++ (B1 ++ B2 ++ R)))[m + k]? = (B1 ++ B2)[k]? := fun k hk => by
        rw [get_l (k := k + 1) (by omega), List.cons_append, List.getElem?_cons_succ, List.nil_append, List.getElem?_append_left (by simp; omega)]
      obtain ⟨s1, s2, s3⟩ := srt_app.1 sB
      have w1 : ∀ z ∈ B1, ltR z x = true := le_last s1 fun A0 y hy => by
        have hpos : 0 < B1.length := by rw [hy]; simp
        rcases q3 with q3 | q3
        · omega
        · have g1 := gB (B1.length - 1) (by omega)
          rw [List.getElem?_append_left (l₁ := B1) (by omega), snoc_get hy, show m + (B1.length - 1) = i - 1 by omega] at g1
          have q3 : ltAt (P ++ ([x] ++ (B1 ++ B2 ++ R))) (i - 1) a = true := q3
          rwa [ltAt_eq g1 gx] at q3
      have w2 : ∀ z ∈ B2, leR x z := first_le s2 fun y B0 hy => by
        have hpos : 0 < B2.length := by rw [hy]; simp
        rcases q4 with q4 | q4
        · omega
        · have g1 := gB B1.length (by omega)
          have g2 : B2[0]? = some y := by rw [hy]; rfl
          rw [List.getElem?_append_right (l₁ := B1) (Nat.le_refl _), Nat.sub_self, g2, show m + B1.length = i by omega] at g1
          have q4 : ltAt (P ++ ([x] ++ (B1 ++ B2 ++ R))) i a = false := q4
          rw [ltAt_eq g1 gx] at q4
          exact ltR_f.1 q4
      obtain ⟨t1, t2⟩ := mid_ok' sB w1 w2
      refine ⟨B1 ++ x :: B2, ?_, t1, t2⟩
      have h2 := mvR_app P x B1.length B1 (B2 ++ R) rfl
      rw [show i - 1 - a = B1.length by omega, hea, show P ++ ([x] ++ (B1 ++ B2 ++ R)) = P ++ x :: (B1 ++ (B2 ++ R)) by simp, h2]
      simp
    · split
      · -- one record behind
        rename_i h0 h1
        obtain ⟨x, rfl⟩ : ∃ x, B = [x] := by
          match B, hb, (by omega : B.length = 1) with
          | [x], _, _ => exact ⟨x, rfl⟩
        have hl1 : [x].length = 1 := rfl
        obtain ⟨q1, q2, q3, q4⟩ := bsr_spec (fun h => !ltAt (P ++ (A ++ ([x] ++ R))) m h) (m - a) a m (Nat.le_refl _) (by omega)
        generalize bsr (fun h => !ltAt (P ++ (A ++ ([x] ++ R))) m h) a m = i at q1 q2 q3 q4
        obtain ⟨A1, A2, rfl, hA1⟩ := split_at A (i - a) (by omega)
        rw [List.length_append] at hem heb
        have gx : (P ++ (A1 ++ A2 ++ ([x] ++ R)))[m]? = some x := by rw [get_l (k := A1.length + A2.length) (by omega), get_l (k := 0) (by simp)]; rfl
        have gA : ∀ k, k < A1.length + A2.length → (P ++ (A1 ++ A2 ++ ([x] ++ R)))[a + k]? = (A1 ++ A2)[k]? := fun k hk => by
          rw [get_l (k := k) (by omega), List.getElem?_append_left (by simp; omega)]
        obtain ⟨s1, s2, s3⟩ := srt_app.1 sA
        have w1 : ∀ z ∈ A1, leR z x := le_all s1 fun A0 y hy => by
          have hpos : 0 < A1.length := by rw [hy]; simp
          rcases q3 with q3 | q3
          · omega
          · have g1 := gA (A1.length - 1) (by omega)
            rw [List.getElem?_append_left (l₁ := A1) (by omega), snoc_get hy, show a + (A1.length - 1) = i - 1 by omega] at g1
            have q3 : (!ltAt (P ++ (A1 ++ A2 ++ ([x] ++ R))) m (i - 1)) = true := q3
            rw [ltAt_eq gx g1, Bool.not_eq_true'] at q3
            exact ltR_f.1 q3
        have w2 : ∀ z ∈ A2, ltR x z = true := first_lt s2 fun y B0 hy => by
          have hpos : 0 < A2.length := by rw [hy]; simp
          rcases q4 with q4 | q4
          · omega
          · have g1 := gA A1.length (by omega)
            have g2 : A2[0]? = some y := by rw [hy]; rfl
            rw [List.getElem?_append_right (l₁ := A1) (Nat.le_refl _), Nat.sub_self, g2, show a + A1.length = i by omega] at g1
            have q4 : (!ltAt (P ++ (A1 ++ A2 ++ ([x] ++ R))) m i) = false := q4
            rw [ltAt_eq gx g1, Bool.not_eq_false'] at q4
            exact q4
        obtain ⟨t1, t2⟩ := mid_ok sA w1 w2
        refine ⟨A1 ++ x :: A2, ?_, t1, t2⟩
        have h2 := mvL_app P x R A2.length A1 A2 rfl
        rw [show (P ++ A1 ++ A2).length = m by simp; omega] at h2
        rw [show m - i = A2.length by omega, show P ++ (A1 ++ A2 ++ ([x] ++ R)) = P ++ A1 ++ A2 ++ x :: R by simp, h2]
        simp
      · -- halves
        rename_i h0 h1
        obtain ⟨mid, hmid⟩ : ∃ mid, mid = (a + b) / 2 := ⟨_, rfl⟩
        have hs : ∃ s, symStart (P ++ (A ++ (B ++ R))) a m b = s ∧ a ≤ s ∧ s ≤ m ∧ s ≤ mid ∧ mid + m - s ≤ b ∧
            (s = m ∨ s = mid ∨ ltAt (P ++ (A ++ (B ++ R))) (mid + m - 1 - s) s = true) ∧ (s = a ∨ mid + m - s = b ∨ ltAt (P ++ (A ++ (B ++ R))) (mid + m - s) (s - 1) = false) := by
          refine ⟨_, rfl, ?_⟩
          unfold symStart
          rw [← hmid]
          split
          · obtain ⟨q1, q2, q3, q4⟩ := bsr_spec (fun c => !ltAt (P ++ (A ++ (B ++ R))) (mid + m - 1 - c) c) (mid - (mid + m - b)) (mid + m - b) mid (Nat.le_refl _) (by omega)
            generalize bsr (fun c => !ltAt (P ++ (A ++ (B ++ R))) (mid + m - 1 - c) c) (mid + m - b) mid = s at q1 q2 q3 q4
            refine ⟨by omega, by omega, by omega, by omega, ?_, ?_⟩
            · rcases q4 with q4 | q4
              · exact .inr (.inl q4)
              · right; right; simpa using q4
            · rcases q3 with q3 | q3
              · right; left; omega
              · by_cases hs0 : s = a
                · exact .inl hs0
                · right; right
                  have q3 : (!ltAt (P ++ (A ++ (B ++ R))) (mid + m - 1 - (s - 1)) (s - 1)) = true := q3
                  rw [show mid + m - 1 - (s - 1) = mid + m - s by omega] at q3; simpa using q3
          · obtain ⟨q1, q2, q3, q4⟩ := bsr_spec (fun c => !ltAt (P ++ (A ++ (B ++ R))) (mid + m - 1 - c) c) (m - a) a m (Nat.le_refl _) (by omega)
            generalize bsr (fun c => !ltAt (P ++ (A ++ (B ++ R))) (mid + m - 1 - c) c) a m = s at q1 q2 q3 q4
            refine ⟨by omega, by omega, by omega, by omega, ?_, ?_⟩
            · rcases q4 with q4 | q4
              · exact .inl q4
              · right; right; simpa using q4
            · rcases q3 with q3 | q3
              · exact .inl q3
              · by_cases hs0 : s = a
                · exact .inl hs0
                · right; right
                  have q3 : (!ltAt (P ++ (A ++ (B ++ R))) (mid + m - 1 - (s - 1)) (s - 1)) = true := q3
                  rw [show mid + m - 1 - (s - 1) = mid + m - s by omega] at q3; simpa using q3
        obtain ⟨s, hs0, hs1, hs2, hs3, hs4, hs5, hs6⟩ := hs
        dsimp only
        rw [hs0, ← hmid]
        obtain ⟨A1, U, rfl, hA1⟩ := split_at A (s - a) (by omega)
        rw [List.length_append] at hem heb ha hf
        obtain ⟨V, B2, rfl, hV⟩ := split_at B (mid + m - s - m) (by omega)
        rw [List.length_append] at heb hb hf
        have gA : ∀ k, k < A1.length + U.length → (P ++ (A1 ++ U ++ (V ++ B2 ++ R)))[a + k]? = (A1 ++ U)[k]? := fun k hk => by
          rw [get_l (k := k) (by omega), List.getElem?_append_left (by simp; omega)]
        have gB : ∀ k, k < V.length + B2.length → (P ++ (A1 ++ U ++ (V ++ B2 ++ R)))[m + k]? = (V ++ B2)[k]? := fun k hk => by
          rw [get_l (k := A1.length + U.length + k) (by omega), get_l (k := k) (by simp), List.getElem?_append_left (by simp; omega)]
        obtain ⟨a1, a2, a3⟩ := srt_app.1 sA
        obtain ⟨b1, b2, b3⟩ := srt_app.1 sB
        -- what is taken to the left is less than what is taken to the right
        have w1 : ∀ x ∈ U, ∀ y ∈ V, ltR y x = true := by
          intro x hx y hy
          have hU : 0 < U.length := List.length_pos_of_mem hx
          have hVp : 0 < V.length := List.length_pos_of_mem hy
          rcases hs5 with h5 | h5 | h5
          · omega
          · omega
          · obtain ⟨v, hv⟩ := get_some (V := V) (k := V.length - 1) (by omega)
            obtain ⟨u, hu⟩ := get_some (V := U) (k := 0) hU
            have g1 := gB (V.length - 1) (by omega)
            rw [List.getElem?_append_left (l₁ := V) (by omega), hv, show m + (V.length - 1) = mid + m - 1 - s by omega] at g1
            have g2 := gA A1.length (by omega)
            rw [List.getElem?_append_right (l₁ := A1) (Nat.le_refl _), Nat.sub_self, hu, show a + A1.length = s by omega] at g2
            rw [ltAt_eq g1 g2] at h5
            exact ltR_le (le_ltR (last_max b1 hv y hy) h5) (first_min a2 hu x hx)
        have w2 : ∀ x ∈ A1, ∀ y ∈ B2, leR x y := by
          intro x hx y hy
          have hAp : 0 < A1.length := List.length_pos_of_mem hx
          have hBp : 0 < B2.length := List.length_pos_of_mem hy
          rcases hs6 with h6 | h6 | h6
          · omega
          · omega
          · obtain ⟨v, hv⟩ := get_some (V := A1) (k := A1.length - 1) (by omega)
            obtain ⟨u, hu⟩ := get_some (V := B2) (k := 0) hBp
            have g1 := gB V.length (by omega)
            rw [List.getElem?_append_right (l₁ := V) (Nat.le_refl _), Nat.sub_self, hu, show m + V.length = mid + m - s by omega] at g1
            have g2 := gA (A1.length - 1) (by omega)
            rw [List.getElem?_append_left (l₁ := A1) (by omega), hv, show a + (A1.length - 1) = s - 1 by omega] at g2
            rw [ltAt_eq g1 g2] at h6
            exact leR_trans (last_max a1 hv x hx) (leR_trans (ltR_f.1 h6) (first_min b2 hu y hy))
        -- the parts change places
        have hr : symRot s m (mid + m - s) (P ++ (A1 ++ U ++ (V ++ B2 ++ R))) = P ++ (A1 ++ (V ++ (U ++ (B2 ++ R)))) := by
          unfold symRot
          have e0 : P ++ (A1 ++ U ++ (V ++ B2 ++ R)) = P ++ A1 ++ (U ++ (V ++ (B2 ++ R))) := by simp
          split
          · have := rot_app (U.length + V.length) (P ++ A1) U V (B2 ++ R) m (Nat.le_refl _) (by omega) (by omega) (by simp; omega)
            rw [show m - s = U.length by omega, show mid + m - s - m = V.length by omega, e0, this]; simp
          · rcases (by omega : U.length = 0 ∨ V.length = 0) with hz | hz
            · obtain rfl := List.eq_nil_of_length_eq_zero hz; simp
            · obtain rfl := List.eq_nil_of_length_eq_zero hz; simp
        rw [hr]
        -- the left half
        have hL : ∃ C1, (if a < s ∧ s < mid then symM f a s mid (P ++ (A1 ++ (V ++ (U ++ (B2 ++ R))))) else P ++ (A1 ++ (V ++ (U ++ (B2 ++ R))))) = P ++ (C1 ++ (U ++ (B2 ++ R))) ∧ Srt C1 ∧ Same (A1 ++ V) C1 := by
          split
          · obtain ⟨C1, c1, c2, c3⟩ := symM_app f P A1 V (U ++ (B2 ++ R)) (by omega) (by omega) (by omega) a1 b1
            rw [← hea, show a + A1.length = s by omega, show s + V.length = mid by omega] at c1
            exact ⟨C1, c1, c2, c3⟩
          · rcases (by omega : A1.length = 0 ∨ V.length = 0) with hz | hz
            · obtain rfl := List.eq_nil_of_length_eq_zero hz; exact ⟨V, by simp, b1, Same.refl _⟩
            · obtain rfl := List.eq_nil_of_length_eq_zero hz; exact ⟨A1, by simp, a1, by rw [List.append_nil]; exact Same.refl _⟩
        obtain ⟨C1, c1, c2, c3⟩ := hL
        rw [c1]
        have hc1 : C1.length = A1.length + V.length := by rw [← c3.len, List.length_append]
        have hR : ∃ C2, (if mid < mid + m - s ∧ mid + m - s < b then symM f mid (mid + m - s) b (P ++ (C1 ++ (U ++ (B2 ++ R)))) else P ++ (C1 ++ (U ++ (B2 ++ R)))) = P ++ (C1 ++ (C2 ++ R)) ∧ Srt C2 ∧ Same (U ++ B2) C2 := by
          split
          · obtain ⟨C2, d1, d2, d3⟩ := symM_app f (P ++ C1) U B2 R (by omega) (by omega) (by omega) a2 b2
            rw [List.length_append, show P.length + C1.length = mid by omega, show mid + U.length = mid + m - s by omega, show mid + m - s + B2.length = b by omega] at d1
            exact ⟨C2, by simpa using d1, d2, d3⟩
          · rcases (by omega : U.length = 0 ∨ B2.length = 0) with hz | hz
            · obtain rfl := List.eq_nil_of_length_eq_zero hz; exact ⟨B2, by simp, b2, Same.refl _⟩
            · obtain rfl := List.eq_nil_of_length_eq_zero hz; exact ⟨U, by simp, a2, by rw [List.append_nil]; exact Same.refl _⟩
        obtain ⟨C2, d1, d2, d3⟩ := hR
        refine ⟨C1 ++ C2, by rw [d1]; simp, srt_app.2 ⟨c2, d2, ?_⟩, ?_⟩
        · intro x hx y hy
          rcases List.mem_append.1 (c3.mem.2 hx) with hx | hx
          · rcases List.mem_append.1 (d3.mem.2 hy) with hy | hy
            · exact a3 x hx y hy
            · exact w2 x hx y hy
          · rcases List.mem_append.1 (d3.mem.2 hy) with hy | hy
            · exact leR_of_lt (w1 y hy x hx)
            · exact b3 x hx y hy
        · have e1 : Same (A1 ++ U ++ (V ++ B2)) (A1 ++ (V ++ (U ++ B2))) := by
            have := (Same.refl A1).app ((Same.comm w1).app (Same.refl B2))
            simpa using this
          have e2 := c3.app d3
          rw [List.append_assoc] at e2
          exact e1.trans e2
theorem symM_part {f : Nat} {d : List Record} {a m b : Nat} (h1 : a < m) (h2 : m < b) (h3 : b ≤ d.length) (hf : b - a ≤ f) (sA : Srt ((d.drop a).take (m - a))) (sB : Srt ((d.drop m).take (b - m))) : Part d (symM f a m b d) a b := by
  have e1 := parts (d := d) (a := a) (b := b) (by omega) h3
  have e2 : (d.drop a).take (b - a) = (d.drop a).take (m - a) ++ (d.drop m).take (b - m) := by
    rw [show b - a = (m - a) + (b - m) by omega, List.take_add, List.drop_drop, show a + (m - a) = m by omega]
  have l1 : (d.take a).length = a := by rw [List.length_take]; omega
  have l2 : ((d.drop a).take (m - a)).length = m - a := by rw [List.length_take, List.length_drop]; omega
  have l3 : ((d.drop m).take (b - m)).length = b - m := by rw [List.length_take, List.length_drop]; omega
  obtain ⟨C, c1, c2, c3⟩ := symM_app f (d.take a) ((d.drop a).take (m - a)) ((d.drop m).take (b - m)) (d.drop b) (by omega) (by omega) (by omega) sA sB
  rw [l1, l2, l3, show a + (m - a) = m by omega, show m + (b - m) = b by omega] at c1
  rw [← e2] at c3
  rw [e2] at e1
  have e3 : d.take a ++ ((d.drop a).take (m - a) ++ ((d.drop m).take (b - m) ++ d.drop b)) = d := by rw [← List.append_assoc, ← List.append_assoc, List.append_assoc (d.take a)]; exact e1.symm
  rw [e3] at c1
  have := Part.of (P := d.take a) (X := (d.drop a).take (b - a)) (C := C) (R := d.drop b) (a := a) (b := b) l1 (by rw [List.length_take, List.length_drop]; omega) c2 c3
  rwa [e2, ← e1, List.append_assoc, ← c1] at this
theorem bsr_st {p : Nat → Bool} {i j h R : Nat} (hb : bsr p i j = R) (hij : i < j) (hh : h = (i + j) / 2) (hp : p h = true) : bsr p (h + 1) j = R := by
  subst hh; rw [← hb, bsr_t hij hp]
theorem bsr_sf {p : Nat → Bool} {i j h R : Nat} (hb : bsr p i j = R) (hij : i < j) (hh : h = (i + j) / 2) (hp : p h = false) : bsr p i h = R := by
  subst hh; rw [← hb, bsr_f hij hp]
theorem symM_halves {f a m b mid s e : Nat} {d d1 d2 d3 : List Record} (h0 : ¬ m - a = 1) (h1 : ¬ b - m = 1) (hm : mid = (a + b) / 2) (hs : symStart d a m b = s) (he : mid + m - s = e) (hd1 : symRot s m e d = d1)
    (hd2 : (if a < s ∧ s < mid then symM f a s mid d1 else d1) = d2) (hd3 : (if mid < e ∧ e < b then symM f mid e b d2 else d2) = d3) : symM (f + 1) a m b d = d3 := by
  subst hm he hd1 hd2 hd3 hs
  rw [symM.eq_2, if_neg h0, if_neg h1]
end Go.Proofs.Ytgmcdlfmifijlaa.Dev
namespace Go.Proofs.Ytgmcdlfmifijlaa.Dev
/-- the sorted list, record by record: each behind those that are not above it -/
def insR : List Record → Record → List Record
  | [], r => [r]
  | x :: l, r => if ltR r x = true then r :: x :: l else x :: insR l r
def sortR (l : List Record) : List Record := l.foldl insR []
theorem insR_mem {r z : Record} : ∀ {l : List Record}, z ∈ insR l r ↔ z = r ∨ z ∈ l
  | [] => by simp [insR]
  | x :: l => by
    unfold insR
    split
    · simp
    · rw [List.mem_cons, insR_mem, List.mem_cons]
      constructor
      · rintro (h | h | h)
        · exact .inr (.inl h)
        · exact .inl h
        · exact .inr (.inr h)
      · rintro (h | h | h)
        · exact .inr (.inl h)
        · exact .inl h
        · exact .inr (.inr h)
theorem insR_srt {r : Record} : ∀ {l : List Record}, Srt l → Srt (insR l r)
  | [], _ => List.pairwise_singleton _ _
  | x :: l, h => by
    obtain ⟨h1, h2⟩ := List.pairwise_cons.1 h
    unfold insR
    split
    · rename_i hc
      exact List.pairwise_cons.2 ⟨fun z hz => by
        rcases List.mem_cons.1 hz with rfl | hz
        · exact leR_of_lt hc
        · exact leR_trans (leR_of_lt hc) (h1 z hz), h⟩
    · rename_i hc
      have hc : leR x r := ltR_f.1 (by simpa using hc)
      exact List.pairwise_cons.2 ⟨fun z hz => by
        rcases insR_mem.1 hz with rfl | hz
        · exact hc
        · exact h1 z hz, insR_srt h2⟩
theorem insR_same {r : Record} : ∀ {l : List Record}, Srt l → Same (l ++ [r]) (insR l r)
  | [], _ => Same.refl _
  | x :: l, h => by
    obtain ⟨h1, h2⟩ := List.pairwise_cons.1 h
    unfold insR
    split
    · rename_i hc
      exact (Same.comm (u := x :: l) (v := [r]) fun y hy z hz => by
        rw [List.mem_singleton.1 hz]
        rcases List.mem_cons.1 hy with rfl | hy
        · exact hc
        · exact ltR_le hc (h1 y hy))
    · exact (Same.refl [x]).app (insR_same h2)
theorem foldl_ok : ∀ (l acc : List Record), Srt acc → Srt (l.foldl insR acc) ∧ Same (acc ++ l) (l.foldl insR acc)
  | [], acc, h => ⟨h, by rw [List.append_nil]; exact Same.refl _⟩
  | x :: l, acc, h => by
    obtain ⟨h1, h2⟩ := foldl_ok l (insR acc x) (insR_srt h)
    refine ⟨h1, ?_⟩
    have h3 := ((insR_same (r := x) h).app (Same.refl l)).trans h2
    simpa using h3
theorem sortR_srt (l : List Record) : Srt (sortR l) := (foldl_ok l [] List.Pairwise.nil).1
theorem sortR_same (l : List Record) : Same l (sortR l) := (foldl_ok l [] List.Pairwise.nil).2
theorem sortR_uniq {l d : List Record} (h : Srt d) (h' : Same l d) : sortR l = d := Srt.uniq (sortR_srt l) h ((sortR_same l).symm.trans h')
theorem sortR_len (l : List Record) : (sortR l).length = l.length := (sortR_same l).len.symm
theorem sortR_nil {l : List Record} (h : l.length = 0) : sortR l = l := by obtain rfl := List.eq_nil_of_length_eq_zero h; rfl
theorem sortR_of {l : List Record} (h : Srt l) : sortR l = l := sortR_uniq h (Same.refl l)
/-! runs -/
def seg (d : List Record) (a s : Nat) : List Record := (d.drop a).take s
def Done (s a : Nat) (d : List Record) : Prop := (∃ q, a = q * s) ∧ ∀ k, (k + 1) * s ≤ a → Srt (seg d (k * s) s)
def Runs (s : Nat) (d : List Record) : Prop := ∀ k, Srt (seg d (k * s) s)
def Half (s a : Nat) (d : List Record) : Prop := Done (2 * s) a d ∧ ∀ k, a ≤ k * s → Srt (seg d (k * s) s)
theorem Part.segl {d y : List Record} {a b : Nat} (h : Part d y a b) {c s : Nat} (hc : c + s ≤ a) : seg y c s = seg d c s := by
  have e : ∀ z : List Record, seg z c s = ((z.take a).drop c).take s := fun z => by
    unfold seg; rw [List.drop_take, List.take_take, Nat.min_eq_left (by omega)]
  rw [e y, e d, h.l]
theorem Part.segr {d y : List Record} {a b : Nat} (h : Part d y a b) {c s : Nat} (hc : b ≤ c) : seg y c s = seg d c s := by
  have e : ∀ z : List Record, seg z c s = ((z.drop b).drop (c - b)).take s := fun z => by
    unfold seg; rw [List.drop_drop, show b + (c - b) = c by omega]
  rw [e y, e d, h.r]
theorem seg_far {d : List Record} {a s : Nat} (h : d.length ≤ a) : seg d a s = [] := by unfold seg; rw [List.drop_of_length_le h]; simp
theorem seg_end {d : List Record} {a s t : Nat} (hs : d.length ≤ a + s) (ht : d.length ≤ a + t) : seg d a s = seg d a t := by
  unfold seg; rw [List.take_of_length_le (by rw [List.length_drop]; omega), List.take_of_length_le (by rw [List.length_drop]; omega)]
theorem srt_nil : Srt [] := List.Pairwise.nil
theorem mul_lt' {k q s : Nat} (h : (k + 1) * s ≤ q * s + s) (hs : 0 < s) : k ≤ q := by
  rw [← Nat.succ_mul] at h
  have := Nat.le_of_mul_le_mul_right h hs
  omega
theorem done_start {s : Nat} (hs : 0 < s) {d : List Record} : Done s 0 d := ⟨⟨0, by simp⟩, fun k h => by rw [Nat.succ_mul] at h; omega⟩
theorem done_next {s a : Nat} {d y : List Record} (hs : 0 < s) (h : Done s a d) (p : Part d y a (a + s)) : Done s (a + s) y := by
  obtain ⟨⟨q, hq⟩, h2⟩ := h
  refine ⟨⟨q + 1, by rw [Nat.succ_mul, hq]⟩, fun k hk => ?_⟩
  subst hq
  have hkq := mul_lt' hk hs
  by_cases e : k = q
  · subst e
    have := p.s
    rw [Nat.add_sub_cancel_left] at this
    exact this
  · have h3 : (k + 1) * s ≤ q * s := Nat.mul_le_mul_right s (by omega)
    rw [p.segl (by rw [Nat.succ_mul] at h3; exact h3)]
    exact h2 k h3
theorem done_end {s a : Nat} {d y : List Record} (hs : 0 < s) (h : Done s a d) (ha : a ≤ y.length) (p : Part d y a y.length) (hn : y.length ≤ a + s) : Runs s y := by
  obtain ⟨⟨q, rfl⟩, h2⟩ := h
  intro k
  rcases Nat.lt_trichotomy k q with e | e | e
  · have h3 : (k + 1) * s ≤ q * s := Nat.mul_le_mul_right s (by omega)
    rw [p.segl (by rw [Nat.succ_mul] at h3; exact h3)]
    exact h2 k h3
  · subst e
    have h3 := p.s
    rw [seg_end (t := y.length - k * s) hn (by omega)]
    exact h3
  · have h3 : (q + 1) * s ≤ k * s := Nat.mul_le_mul_right s (by omega)
    rw [Nat.succ_mul] at h3
    rw [seg_far (by omega)]; exact srt_nil
theorem runs_all {s : Nat} {d : List Record} (h : Runs s d) (hs : d.length ≤ s) : Srt d := by
  have := h 0
  unfold seg at this
  rw [Nat.zero_mul, List.drop_zero, List.take_of_length_le hs] at this
  exact this
theorem half_start {s : Nat} (hs : 0 < s) {d : List Record} (h : Runs s d) : Half s 0 d := ⟨done_start (by omega), fun k _ => h k⟩
theorem Half.mul {s a : Nat} {d : List Record} (h : Half s a d) : ∃ k, a = k * s := by
  obtain ⟨q, hq⟩ := h.1.1
  exact ⟨q * 2, by rw [hq, Nat.mul_assoc]⟩
theorem half_srt {s a : Nat} {d : List Record} (h : Half s a d) : Srt (seg d a s) ∧ Srt (seg d (a + s) s) := by
  obtain ⟨k, hk⟩ := h.mul
  refine ⟨?_, ?_⟩
  · have := h.2 k (by omega); rwa [← hk] at this
  · have := h.2 (k + 1) (by rw [Nat.succ_mul]; omega); rwa [Nat.succ_mul, ← hk] at this
theorem half_next {s a : Nat} {d y : List Record} (hs : 0 < s) (h : Half s a d) (p : Part d y a (a + 2 * s)) : Half s (a + 2 * s) y :=
  ⟨done_next (by omega) h.1 p, fun k hk => by rw [p.segr hk]; exact h.2 k (by omega)⟩
theorem half_end {s a : Nat} {d y : List Record} (hs : 0 < s) (h : Half s a d) (ha : a ≤ y.length) (p : Part d y a y.length) (hn : y.length ≤ a + 2 * s) : Runs (s * 2) y := by
  rw [Nat.mul_comm]; exact done_end (by omega) h.1 ha p hn
theorem half_end' {s a : Nat} {d : List Record} (hs : 0 < s) (h : Half s a d) (hn : d.length ≤ a + s) : Runs (s * 2) d := by
  rw [Nat.mul_comm]
  obtain ⟨⟨⟨q, rfl⟩, h2⟩, h3⟩ := h
  intro k
  rcases Nat.lt_trichotomy k q with e | e | e
  · exact h2 k (Nat.mul_le_mul_right _ (by omega))
  · subst e
    rw [seg_end (t := s) (by omega) hn]
    have := h3 (k * 2) (by rw [Nat.mul_assoc]; omega)
    rwa [Nat.mul_assoc] at this
  · have h4 : (q + 1) * (2 * s) ≤ k * (2 * s) := Nat.mul_le_mul_right _ (by omega)
    rw [Nat.succ_mul] at h4
    rw [seg_far (by omega)]; exact srt_nil
theorem sym_half {s a b : Nat} {d : List Record} (hs : 0 < s) (h : Half s a d) (h1 : a + s < b) (h2 : b ≤ d.length) (h3 : b = a + 2 * s ∨ (b = d.length ∧ b ≤ a + 2 * s)) : Part d (symM (b - a) a (a + s) b d) a b := by
  obtain ⟨s1, s2⟩ := half_srt h
  refine symM_part (by omega) h1 h2 (Nat.le_refl _) ?_ ?_
  · rw [Nat.add_sub_cancel_left]; exact s1
  · rcases h3 with h3 | ⟨h3, h4⟩
    · rw [show b - (a + s) = s by omega]; exact s2
    · have := seg_end (d := d) (a := a + s) (s := s) (t := b - (a + s)) (by omega) (by omega)
      show Srt (seg d (a + s) (b - (a + s)))
      rw [← this]; exact s2
end Go.Proofs.Ytgmcdlfmifijlaa.Dev
namespace Go.Proofs.Ytgmcdlfmifijlaa.Dev
def badK (r : Record) : Prop := r.kind < 1 ∨ r.kind > 8
def badR (r : Record) : Prop := r.shop < 0 ∨ r.shop > 7 ∨ r.auth < 0 ∨ r.auth > 29 ∨ r.sum < 1 ∨ r.sum > 1000000
instance (r : Record) : Decidable (badK r) := by unfold badK; infer_instance
instance (r : Record) : Decidable (badR r) := by unfold badR; infer_instance
def rErr : List Record → Int → Fault
  | [], _ => ⟨0, 0⟩
  | r :: l, i => if badK r then ⟨1, i⟩ else if badR r then ⟨3, i⟩ else rErr l (i + 1)
def wrongR (l : List Record) : Fault := if l.length > 100 then ⟨5, 0⟩ else rErr l 0
theorem rErr_drop {l : List Record} {q : Nat} {x : Record} (h : l[q]? = some x) : rErr (l.drop q) q = if badK x then ⟨1, q⟩ else if badR x then ⟨3, q⟩ else rErr (l.drop (q + 1)) ((q + 1 : Nat) : Int) := by
  obtain ⟨hq, rfl⟩ := List.getElem?_eq_some_iff.1 h
  rw [List.drop_eq_getElem_cons hq]; rfl
theorem rErr_over {l : List Record} {q : Nat} {i : Int} (h : l.length ≤ q) : rErr (l.drop q) i = ⟨0, 0⟩ := by rw [List.drop_of_length_le h]; rfl
def okR (r : Record) : Prop := ¬ badK r ∧ ¬ badR r
theorem rErr_ok : ∀ {l : List Record} {i : Int}, (rErr l i).err = 0 ↔ ∀ x ∈ l, okR x
  | [], i => by simp [rErr]
  | r :: l, i => by
    unfold rErr
    split
    · rename_i h
      simp only [List.mem_cons, forall_eq_or_imp]
      exact ⟨fun e => absurd e (by decide), fun e => absurd h e.1.1⟩
    · split
      · rename_i h
        simp only [List.mem_cons, forall_eq_or_imp]
        exact ⟨fun e => absurd e (by decide), fun e => absurd h e.1.2⟩
      · rename_i h1 h2
        rw [rErr_ok]
        simp only [List.mem_cons, forall_eq_or_imp]
        exact ⟨fun e => ⟨⟨h1, h2⟩, e⟩, fun e => e.2⟩
theorem rErr_full {l : List Record} {i : Int} (h : ∀ x ∈ l, okR x) : rErr l i = ⟨0, 0⟩ := by
  induction l generalizing i with
  | nil => rfl
  | cons x l ih =>
    have hx := h x List.mem_cons_self
    unfold rErr
    rw [if_neg hx.1, if_neg hx.2]
    exact ih fun y hy => h y (List.mem_cons_of_mem _ hy)
theorem wrongR_ok {l : List Record} : (wrongR l).err = 0 ↔ l.length ≤ 100 ∧ ∀ x ∈ l, okR x := by
  unfold wrongR
  split
  · exact ⟨fun e => absurd e (by decide), fun e => by omega⟩
  · rw [rErr_ok]; exact ⟨fun e => ⟨by omega, e⟩, fun e => e.2⟩
theorem wrongR_full {l : List Record} (h : (wrongR l).err = 0) : wrongR l = ⟨0, 0⟩ := by
  obtain ⟨h1, h2⟩ := wrongR_ok.1 h
  unfold wrongR
  rw [if_neg (by omega), rErr_full h2]
theorem okR_b {x : Record} (h : okR x) : 0 ≤ x.shop ∧ x.shop ≤ 7 ∧ 0 ≤ x.auth ∧ x.auth ≤ 29 ∧ 1 ≤ x.kind ∧ x.kind ≤ 8 ∧ 1 ≤ x.sum ∧ x.sum ≤ 1000000 := by
  unfold okR badK badR at h; omega
theorem wrongR_sort {l : List Record} : (wrongR (sortR l)).err = 0 ↔ (wrongR l).err = 0 := by
  rw [wrongR_ok, wrongR_ok, sortR_len]
  exact and_congr_right fun _ => forall_congr' fun x => by rw [(sortR_same l).mem]
/-! what a shop gets -/
def valR (x : Record) (s : Int) : Int := if x.shop = s then (if x.kind = 2 ∨ x.kind = 3 then x.sum else if x.kind = 5 ∨ x.kind = 7 then - x.sum else 0) else 0
def netR : List Record → Int → Int
  | [], _ => 0
  | x :: l, s => valR x s + netR l s
theorem netR_app (u v : List Record) (s : Int) : netR (u ++ v) s = netR u s + netR v s := by
  induction u with
  | nil => simp [netR]
  | cons x u ih => simp only [List.cons_append, netR, ih]; omega
theorem take_snocR {l : List Record} {q : Nat} {x : Record} (h : l[q]? = some x) : l.take (q + 1) = l.take q ++ [x] := by
  rw [List.take_add_one, h]; rfl
theorem netR_take {l : List Record} {q : Nat} {x : Record} {s : Int} (h : l[q]? = some x) : netR (l.take (q + 1)) s = netR (l.take q) s + valR x s := by
  rw [take_snocR h, netR_app]; simp [netR]
theorem netR_all {l : List Record} {q : Nat} {s : Int} (h : l.length ≤ q) : netR (l.take q) s = netR l s := by rw [List.take_of_length_le h]
/-! files -/
def beR (n : Int) : Nat → List Int
  | 0 => []
  | k + 1 => n / 256 ^ k % 256 :: beR n k
theorem beR_len (n : Int) : ∀ k, (beR n k).length = k
  | 0 => rfl
  | k + 1 => by unfold beR; rw [List.length_cons, beR_len n k]
theorem beR_step {n : Int} {k : Nat} (h : 1 ≤ k) : beR n k = n / 256 ^ (k - 1) % 256 :: beR n (k - 1) := by
  obtain ⟨j, rfl⟩ : ∃ j, k = j + 1 := ⟨k - 1, by omega⟩
  rfl
theorem beR3 (n : Int) : beR n 3 = [n / 65536 % 256, n / 256 % 256, n % 256] := by simp [beR]
theorem beR4 (n : Int) : beR n 4 = [n / 16777216 % 256, n / 65536 % 256, n / 256 % 256, n % 256] := by simp [beR]
theorem pow_256 (k : Nat) : (2 : Int) ^ (8 * k) = 256 ^ k := by rw [Int.pow_mul]; rfl
theorem shr8 {k : Nat} {b n : Int} (h1 : 1 ≤ k) (hb : b = 8 * ((k : Int) - 1)) : n / 2 ^ b.toNat = n / 256 ^ (k - 1) := by
  subst hb
  rw [show (8 * ((k : Int) - 1)).toNat = 8 * (k - 1) by omega, pow_256]
def recB (x : Record) : List Int := [x.shop % 256, x.auth % 256, x.kind % 256] ++ beR x.sum 3
def sumR : List Record → Int
  | [] => 0
  | x :: l => x.sum + sumR l
theorem sumR_app (u v : List Record) : sumR (u ++ v) = sumR u + sumR v := by
  induction u with
  | nil => simp [sumR]
  | cons x u ih => simp only [List.cons_append, sumR, ih]; omega
theorem sumR_take {l : List Record} {q : Nat} {x : Record} (h : l[q]? = some x) : sumR (l.take (q + 1)) = sumR (l.take q) + x.sum := by
  rw [take_snocR h, sumR_app]; simp [sumR]
def headB (l r : List Record) : List Int := ((l.length : Int) % 256) :: r.flatMap recB
theorem headB_take {l r : List Record} {q : Nat} {x : Record} (h : r[q]? = some x) : headB l (r.take (q + 1)) = headB l (r.take q) ++ recB x := by
  unfold headB; rw [take_snocR h, List.flatMap_append]; simp
theorem recB_len (x : Record) : (recB x).length = 6 := by unfold recB; rw [List.length_append, beR_len]; rfl
theorem headB_len (l r : List Record) : (headB l r).length = 1 + 6 * r.length := by
  unfold headB
  rw [List.length_cons]
  induction r with
  | nil => rfl
  | cons x r ih => rw [List.flatMap_cons, List.length_append, recB_len, List.length_cons]; omega
def bytesR (l : List Record) : List Int × Fault := if (wrongR l).err = 0 then (headB l (sortR l) ++ beR (sumR (sortR l)) 4, ⟨0, 0⟩) else ([], wrongR l)
/-- the number that bytes are -/
def numB (l : List Int) : Int := l.foldl (fun n c => n * 256 + c) 0
theorem numB_take {l : List Int} {q : Nat} {x : Int} (h : l[q]? = some x) : numB (l.take (q + 1)) = numB (l.take q) * 256 + x := by
  unfold numB; rw [List.take_add_one, h, Option.toList_some, List.foldl_append]; rfl
def recsB : List Int → List Record
  | s :: a :: k :: x :: y :: z :: t => ⟨s, a, k, 65536 * x + 256 * y + z⟩ :: recsB t
  | _ => []
def parseR (b : List Int) : List Record × Int :=
  match b[0]? with
  | none => ([], 2)
  | some c =>
    if b.length = 5 + 6 * c.toNat then
      (fun l => if (wrongR l).err = 0 then (if sumR l = numB (b.drop (b.length - 4)) ∧ sortR l = l then (l, 0) else ([], 8)) else ([], (wrongR l).err)) (recsB ((b.drop 1).take (6 * c.toNat)))
    else ([], 2)
def srtB (l : List Record) : Bool := decide (sortR l = l)
theorem srt_adj : ∀ {l : List Record}, (∀ i, 1 ≤ i → ∀ x y, l[i]? = some x → l[i - 1]? = some y → leR y x) → Srt l
  | [], _ => srt_nil
  | [x], _ => List.pairwise_singleton _ _
  | x :: y :: l, h => by
    have h1 : Srt (y :: l) := srt_adj fun i hi a b ha hb => h (i + 1) (by omega) a b (by simpa using ha) (by
      obtain ⟨j, rfl⟩ : ∃ j, i = j + 1 := ⟨i - 1, by omega⟩
      simpa using hb)
    have h2 : leR x y := h 1 (by omega) y x rfl rfl
    refine List.pairwise_cons.2 ⟨fun z hz => ?_, h1⟩
    rcases List.mem_cons.1 hz with rfl | hz
    · exact h2
    · exact leR_trans h2 ((List.pairwise_cons.1 h1).1 z hz)
theorem srtB_yes {l : List Record} {q : Nat} (hq : q ≤ 1) (h : ∀ i, q ≤ i → 1 ≤ i → ∀ x y, l[i]? = some x → l[i - 1]? = some y → leR y x) : srtB l = true :=
  decide_eq_true (sortR_of (srt_adj fun i hi => h i (by omega) hi))
theorem srtB_no {l : List Record} {q : Nat} {x y : Record} (hq : 1 ≤ q) (hx : l[q]? = some x) (hy : l[q - 1]? = some y) (h : ltR x y = true) : srtB l = false := by
  refine decide_eq_false fun e => ?_
  have hs := sortR_srt l
  rw [e] at hs
  obtain ⟨h1, rfl⟩ := List.getElem?_eq_some_iff.1 hx
  obtain ⟨h2, rfl⟩ := List.getElem?_eq_some_iff.1 hy
  have := List.pairwise_iff_getElem.1 hs (q - 1) q h2 h1 (by omega)
  rw [ltR_t] at h; unfold leR at this; omega
theorem recsB_app : ∀ (k : Nat) (u v : List Int), u.length = 6 * k → recsB (u ++ v) = recsB u ++ recsB v
  | 0, u, v, h => by obtain rfl := List.eq_nil_of_length_eq_zero h; rfl
  | k + 1, u, v, h => by
    match u, h with
    | s :: a :: k' :: x :: y :: z :: t, h =>
      have ht : t.length = 6 * k := by simp at h; omega
      show _ :: recsB (t ++ v) = _ :: recsB t ++ recsB v
      rw [recsB_app k t v ht, List.cons_append]
theorem recsB_step {d : List Int} {q : Nat} {x0 x1 x2 x3 x4 x5 : Int} (h0 : (d.drop (6 * q))[0]? = some x0) (h1 : (d.drop (6 * q))[1]? = some x1) (h2 : (d.drop (6 * q))[2]? = some x2) (h3 : (d.drop (6 * q))[3]? = some x3) (h4 : (d.drop (6 * q))[4]? = some x4) (h5 : (d.drop (6 * q))[5]? = some x5) :
    recsB (d.take (6 * (q + 1))) = recsB (d.take (6 * q)) ++ [⟨x0, x1, x2, 65536 * x3 + 256 * x4 + x5⟩] := by
  rw [show 6 * (q + 1) = 6 * q + 6 by omega, List.take_add]
  have hlt := (List.getElem?_eq_some_iff.1 h5).1
  rw [List.length_drop] at hlt
  rw [recsB_app q _ _ (by rw [List.length_take]; omega)]
  congr 1
  generalize d.drop (6 * q) = e at *
  match e, h0, h1, h2, h3, h4, h5 with
  | y0 :: y1 :: y2 :: y3 :: y4 :: y5 :: t, h0, h1, h2, h3, h4, h5 =>
    simp at h0 h1 h2 h3 h4 h5
    subst h0 h1 h2 h3 h4 h5
    rfl
theorem numB4 {d : List Int} {x0 x1 x2 x3 : Int} (hl : d.length = 4) (h0 : d[0]? = some x0) (h1 : d[1]? = some x1) (h2 : d[2]? = some x2) (h3 : d[3]? = some x3) : numB d = 16777216 * x0 + 65536 * x1 + 256 * x2 + x3 := by
  match d, hl, h0, h1, h2, h3 with
  | [y0, y1, y2, y3], _, h0, h1, h2, h3 =>
    simp at h0 h1 h2 h3
    subst h0 h1 h2 h3
    simp [numB]; omega
theorem numB3 {d : List Int} {x0 x1 x2 : Int} (hl : d.length = 3) (h0 : d[0]? = some x0) (h1 : d[1]? = some x1) (h2 : d[2]? = some x2) : numB d = 65536 * x0 + 256 * x1 + x2 := by
  match d, hl, h0, h1, h2 with
  | [y0, y1, y2], _, h0, h1, h2 =>
    simp at h0 h1 h2
    subst h0 h1 h2
    simp [numB]; omega
theorem parseR_none {b : List Int} (h : b.length = 0) : parseR b = ([], 2) := by obtain rfl := List.eq_nil_of_length_eq_zero h; rfl
theorem parseR_form {b : List Int} {c : Int} (h : b[0]? = some c) (hl : ¬ b.length = 5 + 6 * c.toNat) : parseR b = ([], 2) := by
  unfold parseR; rw [h]; dsimp only; rw [if_neg hl]
theorem parseR_go {b : List Int} {c : Int} {l : List Record} (h : b[0]? = some c) (hl : b.length = 5 + 6 * c.toNat) (hr : l = recsB ((b.drop 1).take (6 * c.toNat))) :
    parseR b = if (wrongR l).err = 0 then (if sumR l = numB (b.drop (b.length - 4)) ∧ sortR l = l then (l, 0) else ([], 8)) else ([], (wrongR l).err) := by
  subst hr; unfold parseR; rw [h]; dsimp only; rw [if_pos hl]
/-! the reference's sorted list -/
def insP (l : List Record) : List Record := l.foldl insR []
theorem insP_take {l : List Record} {q : Nat} {x : Record} (h : l[q]? = some x) : insP (l.take (q + 1)) = insR (insP (l.take q)) x := by
  unfold insP; rw [take_snocR h, List.foldl_append]; rfl
theorem insP_srt (l : List Record) : Srt (insP l) := sortR_srt l
theorem insP_len (l : List Record) : (insP l).length = l.length := sortR_len l
theorem insR_at : ∀ {m : List Record} {a : Nat} {x : Record}, a ≤ m.length → Srt m → (∀ i y, a ≤ i → m[i]? = some y → ltR x y = true) → (∀ y, 0 < a → m[a - 1]? = some y → leR y x) → insR m x = m.take a ++ [x] ++ m.drop a
  | [], a, x, ha, _, _, _ => by have : a = 0 := by simpa using ha
                                subst this; rfl
  | y :: m, 0, x, _, _, h, _ => by
    have := h 0 y (Nat.le_refl _) rfl
    unfold insR; rw [if_pos this]; rfl
  | y :: m, a + 1, x, ha, hs, h, h' => by
    obtain ⟨s1, s2⟩ := List.pairwise_cons.1 hs
    have hy : leR y x := by
      by_cases h0 : a = 0
      · subst h0; exact h' y (by omega) rfl
      · have hlt : a - 1 < m.length := by simp at ha; omega
        have h2 : (y :: m)[a + 1 - 1]? = some m[a - 1] := by
          rw [show a + 1 - 1 = (a - 1) + 1 by omega, List.getElem?_cons_succ, List.getElem?_eq_getElem hlt]
        exact leR_trans (s1 _ (List.getElem_mem hlt)) (h' _ (by omega) h2)
    unfold insR
    rw [if_neg (by rw [ltR_f.2 hy]; exact Bool.false_ne_true), insR_at (a := a) (by simpa using ha) s2 (fun i z hi hz => h (i + 1) z (by omega) (by simpa using hz)) (fun z h0 hz => h' z (by omega) (by
      rw [show a + 1 - 1 = (a - 1) + 1 by omega, List.getElem?_cons_succ]; exact hz))]
    rfl
end Go.Proofs.Ytgmcdlfmifijlaa.Dev
namespace Go.Proofs.Ytgmcdlfmifijlaa.Dev
theorem recB_ok {x : Record} (h : okR x) : recB x = [x.shop, x.auth, x.kind, x.sum / 65536, x.sum / 256 % 256, x.sum % 256] := by
  have hb := okR_b h
  unfold recB
  rw [beR3, Int.emod_eq_of_lt (by omega) (by omega), Int.emod_eq_of_lt (by omega) (by omega), Int.emod_eq_of_lt (by omega) (by omega), Int.emod_eq_of_lt (a := x.sum / 65536) (by omega) (by omega)]
  rfl
theorem recsB_flat : ∀ {l : List Record}, (∀ x ∈ l, okR x) → recsB (l.flatMap recB) = l
  | [], _ => rfl
  | x :: l, h => by
    rw [List.flatMap_cons, recB_ok (h x List.mem_cons_self)]
    show _ :: recsB (l.flatMap recB) = _
    rw [recsB_flat fun y hy => h y (List.mem_cons_of_mem _ hy)]
    congr 1
    obtain ⟨s, a, k, n⟩ := x
    simp only [Record.mk.injEq, true_and]
    omega
theorem flat_len (l : List Record) : (l.flatMap recB).length = 6 * l.length := by
  have := headB_len l l; unfold headB at this; rw [List.length_cons] at this; omega
theorem sumR_b {l : List Record} (h : ∀ x ∈ l, okR x) : 0 ≤ sumR l ∧ sumR l ≤ 1000000 * (l.length : Int) := by
  induction l with
  | nil => simp [sumR]
  | cons x l ih =>
    have := okR_b (h x List.mem_cons_self)
    have := ih fun y hy => h y (List.mem_cons_of_mem _ hy)
    simp only [sumR, List.length_cons]; omega
theorem numB_be {n : Int} (h : 0 ≤ n) (h' : n < 4294967296) : numB (beR n 4) = n := by
  rw [beR4]; simp [numB]; omega
theorem be_numB {d : List Int} (hl : d.length = 4) (h : ∀ x ∈ d, 0 ≤ x ∧ x ≤ 255) : beR (numB d) 4 = d := by
  match d, hl with
  | [x, y, z, t], _ =>
    have h1 := h x (by simp); have h2 := h y (by simp); have h3 := h z (by simp); have h4 := h t (by simp)
    rw [beR4]
    have e : numB [x, y, z, t] = ((x * 256 + y) * 256 + z) * 256 + t := by simp [numB]
    rw [e]
    congr 1
    · omega
    congr 1
    · omega
    congr 1
    · omega
    congr 1
    omega
theorem flat_recs : ∀ (k : Nat) {d : List Int}, d.length = 6 * k → (∀ x ∈ d, 0 ≤ x ∧ x ≤ 255) → (recsB d).flatMap recB = d ∧ (recsB d).length = k
  | 0, d, h, _ => by obtain rfl := List.eq_nil_of_length_eq_zero h; exact ⟨rfl, rfl⟩
  | k + 1, d, h, hb => by
    match d, h, hb with
    | s :: a :: q :: x :: y :: z :: t, h, hb =>
      have ht : t.length = 6 * k := by simp at h; omega
      obtain ⟨h1, h2⟩ := flat_recs k ht fun c hc => hb c (by simp [hc])
      have b1 := hb s (by simp); have b2 := hb a (by simp); have b3 := hb q (by simp); have b4 := hb x (by simp); have b5 := hb y (by simp); have b6 := hb z (by simp)
      refine ⟨?_, by show (recsB t).length + 1 = _; rw [h2]⟩
      show (recB _ ++ (recsB t).flatMap recB) = _
      rw [h1]
      unfold recB
      rw [beR3]
      simp only [List.cons_append, List.nil_append, List.cons.injEq, and_true]
      omega
theorem bytesR_ok {l : List Record} (h : (bytesR l).2.err = 0) : (wrongR l).err = 0 ∧ (bytesR l).1 = headB l (sortR l) ++ beR (sumR (sortR l)) 4 := by
  unfold bytesR at h ⊢
  split at h
  · rename_i hw; rw [if_pos hw]; exact ⟨hw, rfl⟩
  · rename_i hw; exact absurd h hw
/-- what is written is read -/
theorem parse_bytes {l : List Record} (h : (bytesR l).2.err = 0) : parseR (bytesR l).1 = (sortR l, 0) := by
  obtain ⟨hw, hx⟩ := bytesR_ok h
  obtain ⟨hl, hok⟩ := wrongR_ok.1 hw
  have hs : ∀ x ∈ sortR l, okR x := fun x hx => hok x ((sortR_same l).mem.2 hx)
  have hsl := sortR_len l
  rw [hx]
  have hc : ((l.length : Int) % 256) = l.length := Int.emod_eq_of_lt (by omega) (by omega)
  have hlen : (headB l (sortR l) ++ beR (sumR (sortR l)) 4).length = 5 + 6 * l.length := by rw [List.length_append, headB_len, beR_len, hsl]; omega
  have h0 : (headB l (sortR l) ++ beR (sumR (sortR l)) 4)[0]? = some (l.length : Int) := by unfold headB; rw [hc]; rfl
  have hd : ((headB l (sortR l) ++ beR (sumR (sortR l)) 4).drop 1).take (6 * ((l.length : Int)).toNat) = (sortR l).flatMap recB := by
    unfold headB
    rw [List.cons_append, List.drop_succ_cons, List.drop_zero, List.take_append_of_le_length (by rw [flat_len, hsl]; simp), List.take_of_length_le (by rw [flat_len, hsl]; simp)]
  have hsum := sumR_b hs
  have hd4 : (headB l (sortR l) ++ beR (sumR (sortR l)) 4).drop ((headB l (sortR l) ++ beR (sumR (sortR l)) 4).length - 4) = beR (sumR (sortR l)) 4 := by
    rw [hlen, List.drop_append_of_le_length (by rw [headB_len, hsl]; omega), List.drop_of_length_le (by rw [headB_len, hsl]; omega)]; rfl
  rw [parseR_go h0 (by rw [hlen]; simp) (l := sortR l) (by rw [hd, recsB_flat hs]), if_pos (wrongR_sort.2 hw), if_pos]
  rw [hd4, numB_be hsum.1 (by rw [hsl] at hsum; omega)]
  exact ⟨rfl, sortR_of (sortR_srt l)⟩
theorem parseR_zero {b : List Int} (h : (parseR b).2 = 0) : ∃ c, b[0]? = some c ∧ b.length = 5 + 6 * c.toNat ∧ (parseR b).1 = recsB ((b.drop 1).take (6 * c.toNat)) ∧ (wrongR (parseR b).1).err = 0 ∧ sumR (parseR b).1 = numB (b.drop (b.length - 4)) ∧ sortR (parseR b).1 = (parseR b).1 := by
  cases h0 : b[0]? with
  | none => unfold parseR at h; rw [h0] at h; cases h
  | some c =>
    by_cases hl : b.length = 5 + 6 * c.toNat
    · refine ⟨c, rfl, hl, ?_⟩
      rw [parseR_go h0 hl rfl] at h ⊢
      split at h
      · rename_i hw
        rw [if_pos hw]
        split at h
        · rename_i hs
          rw [if_pos hs]; exact ⟨rfl, hw, hs.1, hs.2⟩
        · cases h
      · rename_i hw; exact absurd h hw
    · rw [parseR_form h0 hl] at h; cases h
theorem parseR_bad {b : List Int} (h : ¬ (parseR b).2 = 0) : (parseR b).1 = [] := by
  cases h0 : b[0]? with
  | none => unfold parseR; rw [h0]
  | some c =>
    by_cases hl : b.length = 5 + 6 * c.toNat
    · rw [parseR_go h0 hl rfl] at h ⊢
      split at h
      · rename_i hw
        rw [if_pos hw]
        split at h
        · exact absurd rfl h
        · rename_i hs; rw [if_neg hs]
      · rename_i hw; rw [if_neg hw]
    · rw [parseR_form h0 hl]
/-- what is read is written -/
theorem bytes_parse {b : List Int} (hb : ∀ c ∈ b, 0 ≤ c ∧ c ≤ 255) (h : (parseR b).2 = 0) : bytesR (parseR b).1 = (b, ⟨0, 0⟩) := by
  obtain ⟨c, h0, hl, hp, hw, hs, hso⟩ := parseR_zero h
  obtain ⟨h1, hb0⟩ := List.getElem?_eq_some_iff.1 h0
  have hc := hb c (by rw [← hb0]; exact List.getElem_mem _)
  have hdl : ((b.drop 1).take (6 * c.toNat)).length = 6 * c.toNat := by rw [List.length_take, List.length_drop]; omega
  obtain ⟨f1, f2⟩ := flat_recs c.toNat hdl fun x hx => hb x (List.mem_of_mem_drop (List.mem_of_mem_take hx))
  rw [← hp] at f1 f2
  unfold bytesR
  rw [if_pos hw, hso]
  congr 1
  unfold headB
  rw [f1, f2, hs, be_numB (by rw [List.length_drop]; omega) fun x hx => hb x (List.mem_of_mem_drop hx)]
  have e1 : ((c.toNat : Nat) : Int) % 256 = c := by omega
  rw [e1, List.cons_append]
  match b, h0, hl with
  | c' :: t, h0, hl =>
    injection h0 with h0
    subst h0
    congr 1
    have e2 : (c' :: t).drop ((c' :: t).length - 4) = t.drop (6 * c'.toNat) := by rw [hl, show 5 + 6 * c'.toNat - 4 = 6 * c'.toNat + 1 by omega]; rfl
    rw [e2]; exact List.take_append_drop _ _
/-! shops -/
theorem netR_perm {u v : List Record} (h : u.Perm v) (s : Int) : netR u s = netR v s := by
  induction h with
  | nil => rfl
  | cons x _ ih => simp only [netR, ih]
  | swap x y l => simp only [netR]; omega
  | trans _ _ h1 h2 => exact h1.trans h2
theorem netR_sort (l : List Record) (s : Int) : netR (sortR l) s = netR l s := (netR_perm (sortR_same l).perm s).symm
/-- what the first n shops get -/
def netsR (l : List Record) : Nat → Int
  | 0 => 0
  | n + 1 => netsR l n + netR l n
/-- what a record gives to its shop -/
def valA (x : Record) : Int := if x.kind = 2 ∨ x.kind = 3 then x.sum else if x.kind = 5 ∨ x.kind = 7 then - x.sum else 0
def allR : List Record → Int
  | [] => 0
  | x :: l => valA x + allR l
theorem allR_take {l : List Record} {q : Nat} {x : Record} (h : l[q]? = some x) : allR (l.take (q + 1)) = allR (l.take q) + valA x := by
  rw [take_snocR h]
  induction l.take q with
  | nil => simp [allR]
  | cons y u ih => simp only [List.cons_append, allR, ih]; omega
theorem nets_cons (x : Record) (l : List Record) : ∀ n, 0 ≤ x.shop → netsR (x :: l) n = (if x.shop < (n : Int) then valA x else 0) + netsR l n
  | 0, h => by rw [if_neg (by omega)]; simp [netsR]
  | n + 1, h => by
    show netsR (x :: l) n + (valR x n + netR l n) = _ + (netsR l n + netR l n)
    rw [nets_cons x l n h]
    have : valR x n = if x.shop = (n : Int) then valA x else 0 := rfl
    rw [this]
    by_cases h1 : x.shop < (n : Int)
    · rw [if_pos h1, if_neg (by omega), if_pos (by omega)]; omega
    · by_cases h2 : x.shop = (n : Int)
      · rw [if_neg h1, if_pos h2, if_pos (by omega)]; omega
      · rw [if_neg h1, if_neg h2, if_neg (by omega)]; omega
theorem nets_nil : ∀ n, netsR [] n = 0
  | 0 => rfl
  | n + 1 => by unfold netsR; rw [nets_nil n]; rfl
/-- shop by shop it is all -/
theorem nets_all : ∀ {l : List Record}, (∀ x ∈ l, okR x) → netsR l 8 = allR l
  | [], _ => nets_nil 8
  | x :: l, h => by
    have := okR_b (h x List.mem_cons_self)
    rw [nets_cons x l 8 this.1, if_pos (by omega), nets_all fun y hy => h y (List.mem_cons_of_mem _ hy)]; rfl
theorem valR_B {x : Record} {s : Int} (h : okR x) : -1000000 ≤ valR x s ∧ valR x s ≤ 1000000 := by
  have := okR_b h; unfold valR; (repeat' split) <;> omega
theorem valA_B {x : Record} (h : okR x) : -1000000 ≤ valA x ∧ valA x ≤ 1000000 := by
  have := okR_b h; unfold valA; (repeat' split) <;> omega
theorem netR_B {l : List Record} {s : Int} (h : ∀ x ∈ l, okR x) : -1000000 * (l.length : Int) ≤ netR l s ∧ netR l s ≤ 1000000 * (l.length : Int) := by
  induction l with
  | nil => simp [netR]
  | cons x l ih =>
    have := valR_B (s := s) (h x List.mem_cons_self)
    have := ih fun y hy => h y (List.mem_cons_of_mem _ hy)
    simp only [netR, List.length_cons]; omega
/-! of one permission -/
theorem fil_take {l : List Record} {q : Nat} {x r : Record} (h : l[q]? = some x) : (l.take (q + 1)).filter (sameK r) = if sameK r x = true then (l.take q).filter (sameK r) ++ [x] else (l.take q).filter (sameK r) := by
  rw [take_snocR h, List.filter_append]
  by_cases hk : sameK r x = true
  · rw [if_pos hk, List.filter_cons, if_pos hk]; rfl
  · rw [if_neg hk, List.filter_cons, if_neg hk]; simp
theorem fil_len {l : List Record} {q : Nat} {r : Record} : ((l.take q).filter (sameK r)).length ≤ q := Nat.le_trans (List.length_filter_le _ _) (by rw [List.length_take]; omega)
theorem fil_all {l : List Record} {q : Nat} {r : Record} (h : l.length ≤ q) : (l.take q).filter (sameK r) = l.filter (sameK r) := by rw [List.take_of_length_le h]
theorem srt_at {l : List Record} {q : Nat} {x y : Record} (h : Srt l) (hq : 1 ≤ q) (hx : l[q]? = some x) (hy : l[q - 1]? = some y) : leR y x := by
  obtain ⟨h1, rfl⟩ := List.getElem?_eq_some_iff.1 hx
  obtain ⟨h2, rfl⟩ := List.getElem?_eq_some_iff.1 hy
  exact List.pairwise_iff_getElem.1 h (q - 1) q h2 h1 (by omega)
end Go.Proofs.Ytgmcdlfmifijlaa.Dev
