/- Plain facts on permissions; no condition. -/
import Derived.Test.YtgmcdlfmifijlaaDDat
set_option linter.unusedVariables false
set_option linter.unusedSimpArgs false
namespace Go.Proofs.Ytgmcdlfmifijlaa.Dev
def sumB (n : Int) : Bool := decide (n ≥ 0) && decide (n ≤ 1000000)
structure Auth where (card shop sum captured refunded disputed till : Int) (shut : Bool)
  deriving DecidableEq
def noAuth : Auth := ⟨0, 0, 0, 0, 0, 0, 0, false⟩
def wrongAuth (a : Auth) : Int :=
  if a.sum < 0 ∨ a.sum > 1000000 ∨ a.captured < 0 ∨ a.captured > 1000000 ∨ a.refunded < 0 ∨ a.refunded > 1000000 ∨ a.disputed < 0 ∨ a.disputed > 1000000 ∨ a.card < 0 ∨ a.card > 7 ∨ a.shop < 0 ∨ a.shop > 7 ∨ a.till < 0 ∨ a.till > 1000100 then 3
  else if a.sum < a.captured ∨ a.captured < a.refunded + a.disputed then 8 else 0
def newAuth (card shop n time : Int) : Auth × Int :=
  if n < 1 ∨ n > 1000000 ∨ time < 0 ∨ time > 1000000 ∨ card < 0 ∨ card > 7 ∨ shop < 0 ∨ shop > 7 then (noAuth, 3) else (⟨card, shop, n, 0, 0, 0, time + 100, false⟩, 0)
def holdAuth (a : Auth) : Int := if a.shut = true then 0 else a.sum - a.captured
def lateAuth (a : Auth) (t : Int) : Auth := ⟨a.card, a.shop, a.sum, a.captured, a.refunded, a.disputed, a.till, a.shut || decide (a.till ≤ t)⟩
/-- what only an open permission may become -/
def openAuth (a : Auth) (kind n : Int) : Auth × Int :=
  if a.shut = true then (a, 9)
  else if kind = 1 then (if n > 1000000 - a.sum then (a, 4) else (⟨a.card, a.shop, a.sum + n, a.captured, a.refunded, a.disputed, a.till, false⟩, 0))
  else if n > a.sum - a.captured then (a, 10)
  else if kind = 4 then (⟨a.card, a.shop, a.sum - n, a.captured, a.refunded, a.disputed, a.till, decide (a.sum - n = a.captured)⟩, 0)
  else (⟨a.card, a.shop, a.sum, a.captured + n, a.refunded, a.disputed, a.till, decide (kind = 3) || decide (a.captured + n = a.sum)⟩, 0)
def moveAuth (a : Auth) (kind n : Int) : Auth × Int :=
  if wrongAuth a ≠ 0 then (noAuth, wrongAuth a)
  else if kind < 1 ∨ kind > 8 then (noAuth, 1)
  else if n < 1 ∨ n > 1000000 then (noAuth, 3)
  else if kind = 5 then (if n > a.captured - a.refunded - a.disputed then (noAuth, 10) else (⟨a.card, a.shop, a.sum, a.captured, a.refunded + n, a.disputed, a.till, a.shut⟩, 0))
  else if kind = 6 then (if n > a.captured - a.refunded - a.disputed then (noAuth, 10) else (⟨a.card, a.shop, a.sum, a.captured, a.refunded, a.disputed + n, a.till, a.shut⟩, 0))
  else if kind = 7 then (if n > a.disputed then (noAuth, 10) else (⟨a.card, a.shop, a.sum, a.captured, a.refunded + n, a.disputed - n, a.till, a.shut⟩, 0))
  else if kind = 8 then (if n > a.disputed then (noAuth, 10) else (⟨a.card, a.shop, a.sum, a.captured, a.refunded, a.disputed - n, a.till, a.shut⟩, 0))
  else if (openAuth a kind n).2 ≠ 0 then (noAuth, (openAuth a kind n).2) else openAuth a kind n
theorem rightAuth {a : Auth} (h : wrongAuth a = 0) : 0 ≤ a.sum ∧ a.sum ≤ 1000000 ∧ 0 ≤ a.captured ∧ a.captured ≤ a.sum ∧ 0 ≤ a.refunded ∧ 0 ≤ a.disputed ∧ a.refunded + a.disputed ≤ a.captured ∧ 0 ≤ a.card ∧ a.card ≤ 7 ∧ 0 ≤ a.shop ∧ a.shop ≤ 7 ∧ 0 ≤ a.till ∧ a.till ≤ 1000100 := by
  unfold wrongAuth at h
  split at h
  · cases h
  · split at h
    · cases h
    · omega
theorem rightAuth' {a : Auth} (h : 0 ≤ a.sum ∧ a.sum ≤ 1000000 ∧ 0 ≤ a.captured ∧ a.captured ≤ a.sum ∧ 0 ≤ a.refunded ∧ 0 ≤ a.disputed ∧ a.refunded + a.disputed ≤ a.captured ∧ 0 ≤ a.card ∧ a.card ≤ 7 ∧ 0 ≤ a.shop ∧ a.shop ≤ 7 ∧ 0 ≤ a.till ∧ a.till ≤ 1000100) : wrongAuth a = 0 := by
  unfold wrongAuth
  rw [if_neg (by omega), if_neg (by omega)]
/-- what a move that is allowed makes -/
inductive Moved (a : Auth) (kind n : Int) : Auth → Prop
  | more (h : kind = 1) (hs : a.shut = false) (hn : n ≤ 1000000 - a.sum) : Moved a kind n ⟨a.card, a.shop, a.sum + n, a.captured, a.refunded, a.disputed, a.till, false⟩
  | take (h : kind = 2 ∨ kind = 3) (hs : a.shut = false) (hn : n ≤ a.sum - a.captured) : Moved a kind n ⟨a.card, a.shop, a.sum, a.captured + n, a.refunded, a.disputed, a.till, decide (kind = 3) || decide (a.captured + n = a.sum)⟩
  | less (h : kind = 4) (hs : a.shut = false) (hn : n ≤ a.sum - a.captured) : Moved a kind n ⟨a.card, a.shop, a.sum - n, a.captured, a.refunded, a.disputed, a.till, decide (a.sum - n = a.captured)⟩
  | refund (h : kind = 5) (hn : n ≤ a.captured - a.refunded - a.disputed) : Moved a kind n ⟨a.card, a.shop, a.sum, a.captured, a.refunded + n, a.disputed, a.till, a.shut⟩
  | dispute (h : kind = 6) (hn : n ≤ a.captured - a.refunded - a.disputed) : Moved a kind n ⟨a.card, a.shop, a.sum, a.captured, a.refunded, a.disputed + n, a.till, a.shut⟩
  | forCard (h : kind = 7) (hn : n ≤ a.disputed) : Moved a kind n ⟨a.card, a.shop, a.sum, a.captured, a.refunded + n, a.disputed - n, a.till, a.shut⟩
  | forShop (h : kind = 8) (hn : n ≤ a.disputed) : Moved a kind n ⟨a.card, a.shop, a.sum, a.captured, a.refunded, a.disputed - n, a.till, a.shut⟩
theorem moved_of {a : Auth} {kind n : Int} {b : Auth} {e : Int} (h : moveAuth a kind n = (b, e)) : (e ≠ 0 ∧ b = noAuth) ∨ (e = 0 ∧ wrongAuth a = 0 ∧ 1 ≤ n ∧ n ≤ 1000000 ∧ Moved a kind n b) := by
  unfold moveAuth at h
  split at h
  · rename_i h1; injection h with h2 h3; exact .inl ⟨h3 ▸ h1, h2.symm⟩
  rename_i h1
  have h1 : wrongAuth a = 0 := by omega
  split at h
  · injection h with h2 h3; exact .inl ⟨by omega, h2.symm⟩
  split at h
  · injection h with h2 h3; exact .inl ⟨by omega, h2.symm⟩
  split at h
  · split at h
    · injection h with h2 h3; exact .inl ⟨by omega, h2.symm⟩
    · injection h with h2 h3; subst h2; exact .inr ⟨h3.symm, h1, by omega, by omega, .refund (by omega) (by omega)⟩
  split at h
  · split at h
    · injection h with h2 h3; exact .inl ⟨by omega, h2.symm⟩
    · injection h with h2 h3; subst h2; exact .inr ⟨h3.symm, h1, by omega, by omega, .dispute (by omega) (by omega)⟩
  split at h
  · split at h
    · injection h with h2 h3; exact .inl ⟨by omega, h2.symm⟩
    · injection h with h2 h3; subst h2; exact .inr ⟨h3.symm, h1, by omega, by omega, .forCard (by omega) (by omega)⟩
  split at h
  · split at h
    · injection h with h2 h3; exact .inl ⟨by omega, h2.symm⟩
    · injection h with h2 h3; subst h2; exact .inr ⟨h3.symm, h1, by omega, by omega, .forShop (by omega) (by omega)⟩
  split at h
  · rename_i h4; injection h with h2 h3; exact .inl ⟨h3 ▸ h4, h2.symm⟩
  · rename_i h4
    unfold openAuth at h h4
    split at h
    · rename_i h5; rw [if_pos h5] at h4; simp at h4
    rename_i h5
    rw [if_neg h5] at h4
    have h5 : a.shut = false := by simpa using h5
    split at h
    · rename_i h6; rw [if_pos h6] at h4
      split at h
      · rename_i h7; rw [if_pos h7] at h4; simp at h4
      · injection h with h2 h3; subst h2; exact .inr ⟨h3.symm, h1, by omega, by omega, .more (by omega) h5 (by omega)⟩
    rename_i h6; rw [if_neg h6] at h4
    split at h
    · rename_i h7; rw [if_pos h7] at h4; simp at h4
    split at h
    · injection h with h2 h3; subst h2; exact .inr ⟨h3.symm, h1, by omega, by omega, .less (by omega) h5 (by omega)⟩
    · injection h with h2 h3; subst h2; exact .inr ⟨h3.symm, h1, by omega, by omega, .take (by omega) h5 (by omega)⟩
/-- and the other way -/
theorem move_is {a : Auth} {kind n : Int} {b : Auth} (h : wrongAuth a = 0) (h1 : 1 ≤ n) (h2 : n ≤ 1000000) (hm : Moved a kind n b) : moveAuth a kind n = (b, 0) := by
  have hr := rightAuth h
  unfold moveAuth
  rw [if_neg (by simp [h])]
  cases hm with
  | more hk hs hn =>
    have ho : openAuth a kind n = (⟨a.card, a.shop, a.sum + n, a.captured, a.refunded, a.disputed, a.till, false⟩, 0) := by unfold openAuth; rw [if_neg (by simp [hs]), if_pos hk, if_neg (by omega)]
    rw [if_neg (by omega), if_neg (by omega), if_neg (by omega), if_neg (by omega), if_neg (by omega), if_neg (by omega), ho, if_neg (by simp)]
  | take hk hs hn =>
    have ho : openAuth a kind n = (⟨a.card, a.shop, a.sum, a.captured + n, a.refunded, a.disputed, a.till, decide (kind = 3) || decide (a.captured + n = a.sum)⟩, 0) := by unfold openAuth; rw [if_neg (by simp [hs]), if_neg (by omega), if_neg (by omega), if_neg (by omega)]
    rw [if_neg (by omega), if_neg (by omega), if_neg (by omega), if_neg (by omega), if_neg (by omega), if_neg (by omega), ho, if_neg (by simp)]
  | less hk hs hn =>
    have ho : openAuth a kind n = (⟨a.card, a.shop, a.sum - n, a.captured, a.refunded, a.disputed, a.till, decide (a.sum - n = a.captured)⟩, 0) := by unfold openAuth; rw [if_neg (by simp [hs]), if_neg (by omega), if_neg (by omega), if_pos hk]
    rw [if_neg (by omega), if_neg (by omega), if_neg (by omega), if_neg (by omega), if_neg (by omega), if_neg (by omega), ho, if_neg (by simp)]
  | refund hk hn => rw [if_neg (by omega), if_neg (by omega), if_pos hk, if_neg (by omega)]
  | dispute hk hn => rw [if_neg (by omega), if_neg (by omega), if_neg (by omega), if_pos hk, if_neg (by omega)]
  | forCard hk hn => rw [if_neg (by omega), if_neg (by omega), if_neg (by omega), if_neg (by omega), if_pos hk, if_neg (by omega)]
  | forShop hk hn => rw [if_neg (by omega), if_neg (by omega), if_neg (by omega), if_neg (by omega), if_neg (by omega), if_pos hk, if_neg (by omega)]
theorem moved_right {a b : Auth} {kind n : Int} (h : wrongAuth a = 0) (h1 : 1 ≤ n) (h2 : n ≤ 1000000) (hm : Moved a kind n b) : wrongAuth b = 0 := by
  have hr := rightAuth h
  cases hm <;> exact rightAuth' (by dsimp only; omega)
theorem move_sure (a : Auth) (kind n : Int) : moveAuth a kind n = ((moveAuth a kind n).1, (moveAuth a kind n).2) := rfl
theorem auth_ext {a b : Auth} (h1 : a.card = b.card) (h2 : a.shop = b.shop) (h3 : a.sum = b.sum) (h4 : a.captured = b.captured) (h5 : a.refunded = b.refunded) (h6 : a.disputed = b.disputed) (h7 : a.till = b.till) (h8 : a.shut = b.shut) : a = b := by
  cases a; cases b; simp_all
/-- AuthShut, plainly -/
theorem plain_shut {a b : Auth} {kind n : Int} (hs : a.shut = true) (h : moveAuth a kind n = (b, 0)) : 5 ≤ kind ∧ b.captured = a.captured ∧ b.sum = a.sum ∧ b.shut = true := by
  rcases moved_of h with ⟨h1, _⟩ | ⟨_, hw, h1, h2, hm⟩
  · exact absurd rfl h1
  cases hm <;> simp_all
/-- AuthSettled, plainly -/
theorem plain_settled {a x : Auth} {n : Int} (h : moveAuth a 6 n = (x, 0)) : moveAuth x 8 n = (a, 0) ∧ ∃ z, moveAuth x 7 n = (z, 0) ∧ moveAuth a 5 n = (z, 0) := by
  rcases moved_of h with ⟨h1, _⟩ | ⟨_, hw, h1, h2, hm⟩
  · exact absurd rfl h1
  have hr := rightAuth hw
  cases hm <;> try omega
  rename_i hk hn
  have hx : wrongAuth ⟨a.card, a.shop, a.sum, a.captured, a.refunded, a.disputed + n, a.till, a.shut⟩ = 0 := rightAuth' (by dsimp only; omega)
  have m8 := move_is (kind := 8) hx h1 h2 (.forShop rfl (by dsimp only; omega))
  have m7 := move_is (kind := 7) hx h1 h2 (.forCard rfl (by dsimp only; omega))
  have m5 := move_is (kind := 5) hw h1 h2 (.refund rfl hn)
  refine ⟨m8.trans ?_, _, m7, m5.trans ?_⟩
  · congr 1; exact auth_ext rfl rfl rfl rfl rfl (show a.disputed + n - n = a.disputed by omega) rfl rfl
  · congr 1; exact auth_ext rfl rfl rfl rfl rfl (show a.disputed = a.disputed + n - n by omega) rfl rfl
/-- AuthParts, plainly -/
theorem moved_two {a x y : Auth} {kind n m : Int} (hk : kind ≠ 3) (h1 : Moved a kind n x) (h2 : Moved x kind m y) (hm : 1 ≤ m) : Moved a kind (n + m) y := by
  rcases h1 with ⟨h, hs, hn⟩ | ⟨h, hs, hn⟩ | ⟨h, hs, hn⟩ | ⟨h, hn⟩ | ⟨h, hn⟩ | ⟨h, hn⟩ | ⟨h, hn⟩ <;> rcases h2 with ⟨h', hs', hn'⟩ | ⟨h', hs', hn'⟩ | ⟨h', hs', hn'⟩ | ⟨h', hn'⟩ | ⟨h', hn'⟩ | ⟨h', hn'⟩ | ⟨h', hn'⟩ <;> try (exfalso; omega)
  all_goals dsimp only at *
  · have := Moved.more (n := n + m) h hs (by omega); rwa [← Int.add_assoc] at this
  · have := Moved.take (n := n + m) h hs (by omega); rwa [← Int.add_assoc] at this
  · have := Moved.less (n := n + m) h hs (by omega); rwa [show a.sum - (n + m) = a.sum - n - m by omega] at this
  · have := Moved.refund (a := a) (n := n + m) h (by omega); rwa [← Int.add_assoc] at this
  · have := Moved.dispute (a := a) (n := n + m) h (by omega); rwa [← Int.add_assoc] at this
  · have := Moved.forCard (a := a) (n := n + m) h (by omega); rwa [← Int.add_assoc, show a.disputed - (n + m) = a.disputed - n - m by omega] at this
  · have := Moved.forShop (a := a) (n := n + m) h (by omega); rwa [show a.disputed - (n + m) = a.disputed - n - m by omega] at this
theorem moved_rest {a x z : Auth} {kind n m : Int} (hk : kind ≠ 3) (h1 : Moved a kind n x) (h2 : Moved a kind (n + m) z) (hm : 1 ≤ m) : ∃ y, Moved x kind m y := by
  rcases h1 with ⟨h, hs, hn⟩ | ⟨h, hs, hn⟩ | ⟨h, hs, hn⟩ | ⟨h, hn⟩ | ⟨h, hn⟩ | ⟨h, hn⟩ | ⟨h, hn⟩ <;> rcases h2 with ⟨h', hs', hn'⟩ | ⟨h', hs', hn'⟩ | ⟨h', hs', hn'⟩ | ⟨h', hn'⟩ | ⟨h', hn'⟩ | ⟨h', hn'⟩ | ⟨h', hn'⟩ <;> try (exfalso; omega)
  · exact ⟨_, .more h rfl (by dsimp only; omega)⟩
  · exact ⟨_, .take h (by simp only [Bool.or_eq_false_iff, decide_eq_false_iff_not]; omega) (by dsimp only; omega)⟩
  · exact ⟨_, .less h (by simp only [decide_eq_false_iff_not]; omega) (by dsimp only; omega)⟩
  · exact ⟨_, .refund h (by dsimp only; omega)⟩
  · exact ⟨_, .dispute h (by dsimp only; omega)⟩
  · exact ⟨_, .forCard h (by dsimp only; omega)⟩
  · exact ⟨_, .forShop h (by dsimp only; omega)⟩
theorem moved_sum {a x : Auth} {kind n : Int} (hw : wrongAuth a = 0) (hm : Moved a kind n x) : n ≤ 1000000 := by
  have hr := rightAuth hw
  rcases hm with ⟨h, hs, hn⟩ | ⟨h, hs, hn⟩ | ⟨h, hs, hn⟩ | ⟨h, hn⟩ | ⟨h, hn⟩ | ⟨h, hn⟩ | ⟨h, hn⟩ <;> omega
theorem plain_parts {a x : Auth} {kind n m : Int} (hk : kind ≠ 3) (hn : 1 ≤ n) (hm : 1 ≤ m) (hm' : m ≤ 1000000) (h : moveAuth a kind n = (x, 0)) : ((moveAuth x kind m).2 = 0 ∧ moveAuth a kind (n + m) = moveAuth x kind m) ∨ ((moveAuth x kind m).2 ≠ 0 ∧ (moveAuth a kind (n + m)).2 ≠ 0) := by
  rcases moved_of h with ⟨h1, _⟩ | ⟨_, hw, h1, h2, hx⟩
  · exact absurd rfl h1
  have hwx := moved_right hw h1 h2 hx
  rcases hy : moveAuth x kind m with ⟨y, e⟩
  rcases hz : moveAuth a kind (n + m) with ⟨z, w⟩
  by_cases he : e = 0
  · refine .inl ⟨he, ?_⟩
    rcases moved_of hy with ⟨h3, _⟩ | ⟨_, _, h3, h4, hy'⟩
    · exact absurd he h3
    have h5 := moved_two hk hx hy' hm
    rw [← hz, he]
    exact move_is hw (by omega) (moved_sum hw h5) h5
  · refine .inr ⟨he, fun hw0 => he ?_⟩
    have hw0 : w = 0 := hw0
    rcases moved_of hz with ⟨h3, _⟩ | ⟨_, _, h3, h4, hz'⟩
    · exact absurd hw0 h3
    obtain ⟨y', hy'⟩ := moved_rest hk hx hz' hm
    rw [move_is hwx hm hm' hy'] at hy
    injection hy with _ hy
    exact hy.symm
/-- AuthRight, plainly -/
theorem plain_right {a b : Auth} {kind n : Int} (h : moveAuth a kind n = (b, 0)) : wrongAuth b = 0 ∧ b.card = a.card ∧ b.shop = a.shop ∧ b.till = a.till ∧ (a.shut = true → b.shut = true) ∧ 0 ≤ b.sum - b.captured ∧ b.refunded + b.disputed ≤ b.captured ∧ a.captured ≤ b.captured ∧ a.refunded ≤ b.refunded := by
  rcases moved_of h with ⟨h1, _⟩ | ⟨_, hw, h1, h2, hm⟩
  · exact absurd rfl h1
  have hb := moved_right hw h1 h2 hm
  have hr := rightAuth hw
  have hrb := rightAuth hb
  cases hm <;> refine ⟨hb, rfl, rfl, rfl, ?_⟩ <;> simp_all <;> omega
end Go.Proofs.Ytgmcdlfmifijlaa.Dev
