/- Plain facts on senders; no condition. -/
import Derived.Test.YtgmcdlfmifijlaaDPlPace
set_option linter.unusedVariables false
set_option linter.unusedSimpArgs false
namespace Go.Proofs.Ytgmcdlfmifijlaa.Dev
def tErr (s : Sender) (q : Nat) : Int :=
  match s.kept[q]? with
  | some t => if t.kind < 1 ∨ t.kind > 3 then 1 else if t.auth < 0 ∨ t.auth > 29 ∨ t.sum < 1 ∨ t.sum > 1000000 then 3 else if t.number ≠ s.sent - s.kept.length + 1 + q then 2 else 0
  | none => 0
def wrongS (s : Sender) : Int × Int :=
  if s.kept.length > 40 then (5, 0) else if s.sent < s.kept.length ∨ s.sent > 1000000 then (3, 0) else scan (tErr s) 0 s.kept.length
def wrongSF (s : Sender) : Fault := ⟨(wrongS s).1, (wrongS s).2⟩
def noS : Sender := ⟨0, []⟩
def numT (t : Transfer) (n : Int) : Transfer := ⟨n, t.kind, t.auth, t.sum⟩
def outS (s : Sender) (t : Transfer) : Sender := ⟨s.sent + 1, s.kept ++ [⟨s.sent + 1, t.kind, t.auth, t.sum⟩]⟩
def putS (s : Sender) (t : Transfer) : Sender × Int :=
  if (wrongSF s).err ≠ 0 then (noS, (wrongSF s).err)
  else if (wrongSF (outS s t)).err ≠ 0 then (noS, (wrongSF (outS s t)).err) else (outS s t, 0)
def came (seen : Int) (t : Transfer) : Bool := decide (t.number ≤ seen)
def backS (s : Sender) (seen : Int) : Sender × Int :=
  if (wrongSF s).err ≠ 0 then (noS, (wrongSF s).err)
  else if seen < 0 ∨ seen > s.sent then (noS, 3) else (⟨s.sent, keepL (came seen) s.kept⟩, 0)
def takeS (seen : Int) (t : Transfer) : Int × Bool :=
  if seen < 0 ∨ seen ≥ 1000000 ∨ t.number ≠ seen + 1 then (seen, false) else (seen + 1, true)
def sameS (a b : Sender) : Bool := decide (a = b)
theorem sameS_self (a : Sender) : sameS a a = true := by simp [sameS]
theorem sameS_yes {a b : Sender} {q : Nat} (h0 : a.sent = b.sent) (h1 : a.kept.length ≤ q) (h2 : b.kept.length ≤ q) (h : a.kept.take q = b.kept.take q) : sameS a b = true := by
  rw [List.take_of_length_le h1, List.take_of_length_le h2] at h
  cases a; cases b; simp_all [sameS]
theorem sameS_no {a b : Sender} {q : Nat} {x y : Transfer} (hx : a.kept[q]? = some x) (hy : b.kept[q]? = some y) (h : ¬ x = y) : sameS a b = false := by
  simp only [sameS, decide_eq_false_iff_not]
  rintro rfl; rw [hx] at hy; injection hy with hy; exact h hy
theorem wrongS_iff {s : Sender} : (wrongSF s).err = 0 ↔ s.kept.length ≤ 40 ∧ (s.kept.length : Int) ≤ s.sent ∧ s.sent ≤ 1000000 ∧ ∀ i, i < s.kept.length → tErr s i = 0 := by
  unfold wrongSF wrongS
  dsimp only
  split
  · constructor
    · intro h; cases h
    · intro h; omega
  · split
    · constructor
      · intro h; cases h
      · intro h; omega
    · rw [scan_all]
      constructor
      · exact fun h => ⟨by omega, by omega, by omega, fun i hi => h i (Nat.zero_le _) (by omega)⟩
      · exact fun h i _ hi => h.2.2.2 i (by omega)
theorem tErr_iff {s : Sender} {q : Nat} {t : Transfer} (h : s.kept[q]? = some t) : tErr s q = 0 ↔ 1 ≤ t.kind ∧ t.kind ≤ 3 ∧ 0 ≤ t.auth ∧ t.auth ≤ 29 ∧ 1 ≤ t.sum ∧ t.sum ≤ 1000000 ∧ t.number = s.sent - s.kept.length + 1 + q := by
  unfold tErr
  rw [h]
  dsimp only
  split
  · constructor
    · intro h; cases h
    · intro h; omega
  · split
    · constructor
      · intro h; cases h
      · intro h; omega
    · split
      · constructor
        · intro h; cases h
        · intro h; omega
      · constructor
        · intro _; omega
        · intro _; rfl
theorem rightS {s : Sender} (h : (wrongSF s).err = 0) : s.kept.length ≤ 40 ∧ (s.kept.length : Int) ≤ s.sent ∧ s.sent ≤ 1000000 ∧ ∀ (i : Nat) (t : Transfer), s.kept[i]? = some t → 1 ≤ t.kind ∧ t.kind ≤ 3 ∧ 0 ≤ t.auth ∧ t.auth ≤ 29 ∧ 1 ≤ t.sum ∧ t.sum ≤ 1000000 ∧ t.number = s.sent - s.kept.length + 1 + i := by
  obtain ⟨h1, h2, h3, h4⟩ := wrongS_iff.1 h
  exact ⟨h1, h2, h3, fun i t ht => (tErr_iff ht).1 (h4 i (List.getElem?_eq_some_iff.1 ht).1)⟩
theorem rightS' {s : Sender} (h1 : s.kept.length ≤ 40) (h2 : (s.kept.length : Int) ≤ s.sent) (h3 : s.sent ≤ 1000000) (h4 : ∀ (i : Nat) (t : Transfer), s.kept[i]? = some t → 1 ≤ t.kind ∧ t.kind ≤ 3 ∧ 0 ≤ t.auth ∧ t.auth ≤ 29 ∧ 1 ≤ t.sum ∧ t.sum ≤ 1000000 ∧ t.number = s.sent - s.kept.length + 1 + i) : (wrongSF s).err = 0 :=
  wrongS_iff.2 ⟨h1, h2, h3, fun i hi => by
    have ht : s.kept[i]? = some s.kept[i] := List.getElem?_eq_getElem hi
    exact (tErr_iff ht).2 (h4 i _ ht)⟩
/-- of a right sender what is kept when so many came are the last ones -/
theorem keep_came {s : Sender} (h : (wrongSF s).err = 0) (seen : Int) : keepL (came seen) s.kept = s.kept.drop (seen - (s.sent - s.kept.length)).toNat := by
  obtain ⟨h1, h2, h3, h4⟩ := rightS h
  have gen : ∀ (l : List Transfer) (a : Int), (∀ (i : Nat) (t : Transfer), l[i]? = some t → t.number = a + 1 + i) → keepL (came seen) l = l.drop (seen - a).toNat := by
    intro l
    induction l with
    | nil => intro a _; simp [keepL]
    | cons t l ih =>
      intro a ha
      have ht := ha 0 t rfl
      have ih := ih (a + 1) fun i u hu => by have := ha (i + 1) u (by simpa using hu); omega
      unfold keepL at ih ⊢
      rw [List.filter_cons]
      by_cases hs : t.number ≤ seen
      · have h0 : came seen t = true := by simp [came, hs]
        rw [h0, if_neg (by simp), ih]
        have : (seen - a).toNat = (seen - (a + 1)).toNat + 1 := by omega
        rw [this, List.drop_succ_cons]
      · have h0 : came seen t = false := by simp [came, hs]
        rw [h0, if_pos (by simp), ih]
        have h1 : (seen - (a + 1)).toNat = 0 := by omega
        have h2 : (seen - a).toNat = 0 := by omega
        rw [h1, h2]; rfl
  exact gen s.kept _ fun i t ht => (h4 i t ht).2.2.2.2.2.2
theorem wrap_ne {a b v : Int} (ha : 0 ≤ a ∧ a ≤ 1000000) (hb : -9223372036854775808 ≤ b ∧ b ≤ 9223372036854775807) (hv : -100 ≤ v ∧ v ≤ 100) : IntKind.i64.wrap (a - b) = v ↔ a - b = v := by
  rw [IntKind.wrap_i64]
  omega
end Go.Proofs.Ytgmcdlfmifijlaa.Dev
namespace Go.Proofs.Ytgmcdlfmifijlaa.Dev
theorem back_of {s x : Sender} {seen e : Int} (h : backS s seen = (x, e)) : (e ≠ 0 ∧ x = noS) ∨ (e = 0 ∧ (wrongSF s).err = 0 ∧ 0 ≤ seen ∧ seen ≤ s.sent ∧ x = ⟨s.sent, keepL (came seen) s.kept⟩) := by
  unfold backS at h
  split at h
  · rename_i h1; simp only [Prod.mk.injEq] at h; exact .inl ⟨h.2 ▸ h1, h.1.symm⟩
  split at h
  · simp only [Prod.mk.injEq] at h; exact .inl ⟨by omega, h.1.symm⟩
  · simp only [Prod.mk.injEq] at h; exact .inr ⟨h.2.symm, by omega, by omega, by omega, h.1.symm⟩
theorem back_right {s : Sender} {seen : Int} (h : (wrongSF s).err = 0) (h0 : 0 ≤ seen) (h1 : seen ≤ s.sent) : (wrongSF ⟨s.sent, keepL (came seen) s.kept⟩).err = 0 := by
  obtain ⟨h2, h3, h4, h5⟩ := rightS h
  rw [keep_came h]
  generalize hd : (seen - (s.sent - s.kept.length)).toNat = d
  refine rightS' (by simp; omega) (by simp; omega) h4 fun i t ht => ?_
  rw [List.getElem?_drop] at ht
  have h6 := h5 (d + i) t ht
  have hlt := (List.getElem?_eq_some_iff.1 ht).1
  simp only [List.length_drop]
  omega
theorem keep_idem {α : Type} (p : α → Bool) (l : List α) : keepL p (keepL p l) = keepL p l := by
  unfold keepL; rw [List.filter_filter]; simp
theorem back_again {s : Sender} {seen : Int} (h : (wrongSF s).err = 0) (h0 : 0 ≤ seen) (h1 : seen ≤ s.sent) : backS ⟨s.sent, keepL (came seen) s.kept⟩ seen = (⟨s.sent, keepL (came seen) s.kept⟩, 0) := by
  unfold backS
  rw [if_neg (by have := back_right h h0 h1; omega), if_neg (by dsimp only; omega)]
  dsimp only
  rw [keep_idem]
theorem keep_at {α : Type} {p : α → Bool} {l : List α} {q : Nat} {t : α} (h : l[q]? = some t) (hp : p t = false) : (keepL p l)[(keepL p (l.take q)).length]? = some t := by
  have hq := (List.getElem?_eq_some_iff.1 h).1
  have hl : l = l.take q ++ t :: l.drop (q + 1) := by
    rw [← drop_get h, List.take_append_drop]
  have e : keepL p l = keepL p (l.take q) ++ t :: keepL p (l.drop (q + 1)) := by
    conv => lhs; rw [hl]
    unfold keepL
    rw [List.filter_append, List.filter_cons, if_pos (by simp [hp])]
  rw [e, List.getElem?_append_right (Nat.le_refl _)]
  simp
end Go.Proofs.Ytgmcdlfmifijlaa.Dev
