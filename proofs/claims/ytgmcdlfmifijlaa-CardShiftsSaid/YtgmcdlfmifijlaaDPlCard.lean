/- Plain facts on cards; no condition. -/
import Derived.Test.YtgmcdlfmifijlaaDPlPace
set_option linter.unusedVariables false
set_option linter.unusedSimpArgs false
namespace Go.Proofs.Ytgmcdlfmifijlaa.Dev
def bigC (n : Int) : Bool := decide (n > 1000000000000) || decide (n < -1000000000000)
def wrongC (c : Card) : Int :=
  if c.money < -1000000000000 ∨ c.money > 1000000000000 ∨ c.held < 0 ∨ c.held > 1000000000000 then 3 else if wrongP c.pace ≠ 0 then wrongP c.pace else (usesF c.uses).err
def noC : Card := ⟨0, 0, ⟨0, 0, 0⟩, []⟩
def allowC (c : Card) (n time : Int) : Card × Int :=
  if wrongC c ≠ 0 then (noC, wrongC c)
  else if n < 1 ∨ n > 1000000 ∨ time < 0 ∨ time > 1000000 then (noC, 3)
  else if c.held + n > c.money then (noC, 10)
  else if (addUse c.pace c.uses ⟨time, n⟩).2 ≠ 0 then (noC, (addUse c.pace c.uses ⟨time, n⟩).2)
  else (⟨c.money, c.held + n, c.pace, (addUse c.pace c.uses ⟨time, n⟩).1⟩, 0)
def forceC (c : Card) (n : Int) : Card × Int :=
  if wrongC c ≠ 0 then (noC, wrongC c)
  else if n < 1 ∨ n > 1000000 ∨ c.held + n > 1000000000000 then (noC, 3)
  else (⟨c.money, c.held + n, c.pace, c.uses⟩, 0)
def shiftC (c : Card) (held money : Int) : Card × Int :=
  if wrongC c ≠ 0 then (noC, wrongC c)
  else if held < -1000000000000 ∨ held > 1000000000000 ∨ money < -1000000000000 ∨ money > 1000000000000 then (noC, 3)
  else if wrongC ⟨c.money + money, c.held + held, c.pace, c.uses⟩ ≠ 0 then (noC, 10)
  else (⟨c.money + money, c.held + held, c.pace, c.uses⟩, 0)
def sameC (a b : Card) : Bool := decide (a = b)
theorem sameC_self (a : Card) : sameC a a = true := by simp [sameC]
theorem sameC_is (a b : Card) : sameC a b = (decide (a.money = b.money) && decide (a.held = b.held) && decide (a.pace = b.pace) && sameList a.uses b.uses) := by
  cases a; cases b; simp only [sameC, sameList, Card.mk.injEq, Bool.decide_and, Bool.and_assoc]
theorem rightC {c : Card} (h : wrongC c = 0) : -1000000000000 ≤ c.money ∧ c.money ≤ 1000000000000 ∧ 0 ≤ c.held ∧ c.held ≤ 1000000000000 ∧ wrongP c.pace = 0 ∧ (usesF c.uses).err = 0 := by
  unfold wrongC at h
  split at h
  · cases h
  · split at h
    · omega
    · omega
theorem rightC' {c : Card} (h : -1000000000000 ≤ c.money ∧ c.money ≤ 1000000000000 ∧ 0 ≤ c.held ∧ c.held ≤ 1000000000000) (h1 : wrongP c.pace = 0) (h2 : (usesF c.uses).err = 0) : wrongC c = 0 := by
  unfold wrongC
  rw [if_neg (by omega), if_neg (by omega), h2]
theorem rightC_len {c : Card} (h : wrongC c = 0) : c.uses.length ≤ 30 := (rightU (rightC h).2.2.2.2.2).1
theorem shift_of {c x : Card} {a m e : Int} (h : shiftC c a m = (x, e)) : (e ≠ 0 ∧ x = noC ∧ (e = 3 → wrongC c = 0 → (a < -1000000000000 ∨ a > 1000000000000 ∨ m < -1000000000000 ∨ m > 1000000000000))) ∨ (e = 0 ∧ wrongC c = 0 ∧ -1000000000000 ≤ a ∧ a ≤ 1000000000000 ∧ -1000000000000 ≤ m ∧ m ≤ 1000000000000 ∧ x = ⟨c.money + m, c.held + a, c.pace, c.uses⟩ ∧ wrongC x = 0) := by
  unfold shiftC at h
  split at h
  · rename_i h1; simp only [Prod.mk.injEq] at h; exact .inl ⟨h.2 ▸ h1, h.1.symm, fun _ h3 => absurd h3 h1⟩
  split at h
  · rename_i h1; simp only [Prod.mk.injEq] at h; exact .inl ⟨by omega, h.1.symm, fun _ _ => h1⟩
  split at h
  · simp only [Prod.mk.injEq] at h; exact .inl ⟨by omega, h.1.symm, fun h3 => by omega⟩
  · rename_i h1 h2 h3
    simp only [Prod.mk.injEq] at h
    obtain ⟨rfl, rfl⟩ := h
    exact .inr ⟨rfl, by omega, by omega, by omega, by omega, by omega, rfl, by omega⟩
theorem shift_is {c : Card} {a m : Int} (h : wrongC c = 0) (h1 : -1000000000000 ≤ a ∧ a ≤ 1000000000000 ∧ -1000000000000 ≤ m ∧ m ≤ 1000000000000) (h2 : wrongC ⟨c.money + m, c.held + a, c.pace, c.uses⟩ = 0) : shiftC c a m = (⟨c.money + m, c.held + a, c.pace, c.uses⟩, 0) := by
  unfold shiftC
  rw [if_neg (by omega), if_neg (by omega), if_neg (by omega)]
theorem allow_of {c x : Card} {n t e : Int} (h : allowC c n t = (x, e)) : (e ≠ 0 ∧ x = noC ∧ (e = 10 → wrongC c = 0 → c.held + n > c.money ∨ (addUse c.pace c.uses ⟨t, n⟩).2 = 10)) ∨ (e = 0 ∧ wrongC c = 0 ∧ 1 ≤ n ∧ n ≤ 1000000 ∧ 0 ≤ t ∧ t ≤ 1000000 ∧ c.held + n ≤ c.money ∧ ∃ l, addUse c.pace c.uses ⟨t, n⟩ = (l, 0) ∧ x = ⟨c.money, c.held + n, c.pace, l⟩) := by
  unfold allowC at h
  split at h
  · rename_i h1; simp only [Prod.mk.injEq] at h; exact .inl ⟨h.2 ▸ h1, h.1.symm, fun _ h3 => absurd h3 h1⟩
  split at h
  · simp only [Prod.mk.injEq] at h; exact .inl ⟨by omega, h.1.symm, fun h3 => by omega⟩
  split at h
  · rename_i h1; simp only [Prod.mk.injEq] at h; exact .inl ⟨by omega, h.1.symm, fun _ _ => .inl h1⟩
  split at h
  · rename_i h1; simp only [Prod.mk.injEq] at h; exact .inl ⟨h.2 ▸ h1, h.1.symm, fun h3 _ => .inr (h.2.trans h3)⟩
  · rename_i h1 h2 h3 h4
    simp only [Prod.mk.injEq] at h
    refine .inr ⟨h.2.symm, by omega, by omega, by omega, by omega, by omega, by omega, _, Prod.ext rfl (by simpa using h4), h.1.symm⟩
theorem add_errs {p : Pace} {l : List Use} {x : Use} (hp : wrongP p = 0) (hl : (usesF l).err = 0) (hx : (usesF [x]).err = 0) : (addUse p l x).2 = 0 ∨ (addUse p l x).2 = 2 ∨ (addUse p l x).2 = 11 := by
  unfold addUse
  rw [if_neg (by omega), if_neg (by omega), if_neg (by omega)]
  split
  · exact .inr (.inl rfl)
  · split
    · exact .inr (.inr rfl)
    · exact .inl rfl
theorem use_right {t n : Int} (h : 0 ≤ t ∧ t ≤ 1000000 ∧ 0 ≤ n ∧ n ≤ 1000000) : (usesF [⟨t, n⟩]).err = 0 := by
  refine uses_iff.2 ⟨by simp, fun i hi => ?_⟩
  have hi : i = 0 := by simpa using hi
  subst hi
  exact (uErr_iff (u := ⟨t, n⟩) rfl).2 ⟨h, fun v h0 => by omega⟩
end Go.Proofs.Ytgmcdlfmifijlaa.Dev
namespace Go.Proofs.Ytgmcdlfmifijlaa.Dev
theorem pace_same (x y : Pace) : decide (x = y) = sameL [.int .i64 x.ticks, .int .i64 x.count, .int .i64 x.sum] [.int .i64 y.ticks, .int .i64 y.count, .int .i64 y.sum] := by
  obtain ⟨a, b, c⟩ := x; obtain ⟨d, e, f⟩ := y
  simp only [sameL, sameV, Pace.mk.injEq, Bool.and_true, Bool.decide_and]
end Go.Proofs.Ytgmcdlfmifijlaa.Dev
namespace Go.Proofs.Ytgmcdlfmifijlaa.Dev
theorem uses_pw {l : List Use} : (usesF l).err = 0 ↔ l.length ≤ 30 ∧ (∀ u ∈ l, 0 ≤ u.time ∧ u.time ≤ 1000000 ∧ 0 ≤ u.sum ∧ u.sum ≤ 1000000) ∧ l.Pairwise fun a b => a.time ≤ b.time := by
  constructor
  · intro h
    obtain ⟨h1, h2⟩ := uses_iff.1 h
    refine ⟨h1, (rightU h).2, ?_⟩
    rw [List.pairwise_iff_getElem]
    have step : ∀ i (hi : i + 1 < l.length), l[i].time ≤ l[i + 1].time := fun i hi => by
      have h3 := ((uErr_iff (List.getElem?_eq_getElem hi)).1 (h2 (i + 1) hi)).2 l[i] (by omega) (List.getElem?_eq_getElem (by omega))
      exact h3
    intro i j hi hj hij
    obtain ⟨k, rfl⟩ : ∃ k, j = i + 1 + k := ⟨j - i - 1, by omega⟩
    clear hij
    induction k with
    | zero => exact step i hj
    | succ k ih =>
      have h4 := ih (by omega)
      have h5 := step (i + 1 + k) hj
      exact Int.le_trans h4 h5
  · rintro ⟨h1, h2, h3⟩
    refine uses_iff.2 ⟨h1, fun i hi => ?_⟩
    refine (uErr_iff (List.getElem?_eq_getElem hi)).2 ⟨h2 _ (List.getElem_mem hi), fun v h0 hv => ?_⟩
    rw [List.pairwise_iff_getElem] at h3
    obtain ⟨h5, rfl⟩ := List.getElem?_eq_some_iff.1 hv
    exact h3 (i - 1) i h5 hi (by omega)
theorem add_right {p : Pace} {l r : List Use} {x : Use} (h : addUse p l x = (r, 0)) : (usesF r).err = 0 := by
  obtain ⟨h1, h2, h3, h4, h5, h6, rfl⟩ := add_of h
  have hp := rightP h1
  obtain ⟨h7, h8, h9⟩ := uses_pw.1 h2
  have hx := (rightU h3).2 x (by simp)
  refine uses_pw.2 ⟨by rw [List.length_append, List.length_singleton]; omega, fun u hu => ?_, ?_⟩
  · rcases List.mem_append.1 hu with hu | hu
    · exact h8 u (mem_keep hu)
    · have : u = x := by simpa using hu
      subst this; exact hx
  · rw [List.pairwise_append]
    refine ⟨List.Pairwise.filter _ h9, by simp, fun u hu v hv => ?_⟩
    have : v = x := by simpa using hv
    subst this
    have hu' := mem_keep hu
    have hne : l ≠ [] := by intro e; subst e; simp at hu'
    have hlast : (l.getLast hne).time ≤ v.time := by
      unfold lastLate at h4
      rw [List.getLast?_eq_some_getLast hne] at h4
      simpa using h4
    refine Int.le_trans ?_ hlast
    obtain ⟨i, hi, rfl⟩ := List.mem_iff_getElem.1 hu'
    rw [List.getLast_eq_getElem]
    by_cases e : i = l.length - 1
    · subst e; exact Int.le_refl _
    · rw [List.pairwise_iff_getElem] at h9
      exact h9 i (l.length - 1) hi (by omega) (by omega)
theorem uses_errs (l : List Use) : (usesF l).err ≠ 10 := by
  have hs : ∀ (e : Nat → Int), (∀ q, e q ≠ 10) → ∀ n q, (scan e q n).1 ≠ 10 := by
    intro e he n
    induction n with
    | zero => intro q; simp [scan]
    | succ n ih => intro q; rw [scan]; split; exact he q; exact ih (q + 1)
  unfold usesF uses
  dsimp only
  split
  · decide
  · refine hs _ (fun q => ?_) _ _
    unfold uErr
    split
    · split
      · decide
      · split <;> decide
    · decide
theorem wrongC_errs (c : Card) : wrongC c ≠ 10 := by
  unfold wrongC
  split
  · decide
  · split
    · unfold wrongP wrongPace; split <;> decide
    · exact uses_errs _
theorem allow_facts {c x : Card} {n t e : Int} (h : allowC c n t = (x, e)) : (e = 0 → wrongC c = 0 ∧ wrongC x = 0 ∧ x.money = c.money ∧ x.held = c.held + n ∧ 1 ≤ n ∧ n ≤ 1000000 ∧ c.held + n ≤ c.money) ∧ (e = 10 → wrongC c = 0 ∧ c.held + n > c.money) ∧ (e ≠ 0 → x = noC) := by
  have hw := wrongC_errs c
  rcases allow_of h with ⟨h1, h2, h3⟩ | ⟨h1, h2, h3, h4, h5, h6, h7, l, h8, rfl⟩
  · refine ⟨fun h0 => absurd h0 h1, fun h0 => ?_, fun _ => h2⟩
    have hc : wrongC c = 0 := by
      unfold allowC at h
      split at h
      · simp only [Prod.mk.injEq] at h; omega
      · omega
    refine ⟨hc, ?_⟩
    rcases h3 h0 hc with h4 | h4
    · exact h4
    · unfold allowC at h
      split at h
      · simp only [Prod.mk.injEq] at h; omega
      split at h
      · simp only [Prod.mk.injEq] at h; omega
      split at h
      · omega
      · have hr := rightC hc
        rcases add_errs (x := ⟨t, n⟩) hr.2.2.2.2.1 hr.2.2.2.2.2 (use_right (by omega)) with h5 | h5 | h5 <;> omega
  · have hr := rightC h2
    exact ⟨fun _ => ⟨h2, rightC' (by dsimp only; omega) hr.2.2.2.2.1 (add_right h8), rfl, rfl, h3, h4, h7⟩, fun h0 => by omega, fun h0 => absurd h1 h0⟩
theorem force_facts {c x : Card} {n e : Int} (h : forceC c n = (x, e)) : (e = 0 → wrongC c = 0 ∧ 1 ≤ n ∧ n ≤ 1000000 ∧ c.held + n ≤ 1000000000000 ∧ x = ⟨c.money, c.held + n, c.pace, c.uses⟩) ∧ (e ≠ 0 → x = noC) := by
  unfold forceC at h
  split at h
  · rename_i h1; simp only [Prod.mk.injEq] at h; exact ⟨fun h0 => by omega, fun _ => h.1.symm⟩
  split at h
  · simp only [Prod.mk.injEq] at h; exact ⟨fun h0 => by omega, fun _ => h.1.symm⟩
  · simp only [Prod.mk.injEq] at h; exact ⟨fun _ => ⟨by omega, by omega, by omega, by omega, h.1.symm⟩, fun h0 => absurd h.2.symm h0⟩
theorem noC_def : noC = ⟨0, 0, ⟨0, 0, 0⟩, []⟩ := rfl
end Go.Proofs.Ytgmcdlfmifijlaa.Dev
namespace Go.Proofs.Ytgmcdlfmifijlaa.Dev
theorem shift_back {c x y : Card} {a m e : Int} (h : shiftC c a m = (x, 0)) (h' : shiftC x (0 - a) (0 - m) = (y, e)) : e = 0 ∧ y = c := by
  rcases shift_of h with ⟨h1, _⟩ | ⟨_, hc, h2, h3, h4, h5, rfl, hx⟩
  · exact absurd rfl h1
  have he : (⟨c.money + m + (0 - m), c.held + a + (0 - a), c.pace, c.uses⟩ : Card) = c := by
    rw [show c.money + m + (0 - m) = c.money by omega, show c.held + a + (0 - a) = c.held by omega]
  have hb := shift_is (a := 0 - a) (m := 0 - m) hx (by omega) (by dsimp only; rw [he]; exact hc)
  rw [hb] at h'
  simp only [Prod.mk.injEq] at h'
  exact ⟨h'.2.symm, by rw [← h'.1]; exact he⟩
theorem shift_two {c x y z : Card} {a m b n e : Int} (h : shiftC c a m = (x, 0)) (h2 : shiftC x b n = (y, 0)) (h3 : shiftC c (a + b) (m + n) = (z, e)) : e = 3 ∨ (e = 0 ∧ y = z) := by
  rcases shift_of h with ⟨h1, _⟩ | ⟨_, hc, q2, q3, q4, q5, rfl, hx⟩
  · exact absurd rfl h1
  rcases shift_of h2 with ⟨h1, _⟩ | ⟨_, _, p2, p3, p4, p5, rfl, hy⟩
  · exact absurd rfl h1
  dsimp only at hy ⊢
  by_cases hr : a + b < -1000000000000 ∨ a + b > 1000000000000 ∨ m + n < -1000000000000 ∨ m + n > 1000000000000
  · left
    unfold shiftC at h3
    rw [if_neg (by omega), if_pos hr] at h3
    simp only [Prod.mk.injEq] at h3
    exact h3.2.symm
  · right
    have he : (⟨c.money + (m + n), c.held + (a + b), c.pace, c.uses⟩ : Card) = ⟨c.money + m + n, c.held + a + b, c.pace, c.uses⟩ := by
      rw [show c.money + (m + n) = c.money + m + n by omega, show c.held + (a + b) = c.held + a + b by omega]
    have hz := shift_is (a := a + b) (m := m + n) hc (by omega) (by rw [he]; exact hy)
    rw [hz] at h3
    simp only [Prod.mk.injEq] at h3
    exact ⟨h3.2.symm, by rw [← h3.1]; exact he.symm⟩
theorem shift_bounds {c x : Card} {a m e : Int} (h : shiftC c a m = (x, e)) : e = 0 → -1000000000000 ≤ a ∧ a ≤ 1000000000000 ∧ -1000000000000 ≤ m ∧ m ≤ 1000000000000 := by
  rcases shift_of h with ⟨h1, _⟩ | ⟨_, hc, q2, q3, q4, q5, _⟩
  · exact fun h0 => absurd h0 h1
  · exact fun _ => ⟨q2, q3, q4, q5⟩
end Go.Proofs.Ytgmcdlfmifijlaa.Dev
