/- The symbolic heap: how long rows may be; no condition. -/
import Derived.Test.YtgmcdlfmifijlaaDSh12
set_option linter.unusedVariables false
set_option linter.unusedSimpArgs false
namespace Go.Proofs.Ytgmcdlfmifijlaa.Dev
open Go.RowKit

theorem DRel.len {T : Nat → Prop} {w : World} {K : Nat} {rows : List (List D)} {v : Value} (h : DRel T w (.r K rows) v) : rows.length ≤ 9223372036854775807 := by
  cases h with
  | nil => simp
  | r => omega
section
variable {P : Program} {W0 : World} {F : Nat → Prop} {N : Nat} {T0 : Nat → Prop} {pin : List (Nat × Adr)} {Q : Exit → AState → Prop} {s : List (Nat × AV)} {h : List (Nat × AB)} {n : Nat}
theorem AC.len1 {c : Code} {α : Type} {f : α → List D} {xs : List α} {K : Nat} (i : Nat) (hs : look s i = some (.v (.c (.d (.r K (xs.map f)))))) (k : xs.length ≤ 9223372036854775807 → AC P W0 F N T0 pin Q c ⟨s, h, n⟩) : AC P W0 F N T0 pin Q c ⟨s, h, n⟩ := fun a w hI => by
  obtain ⟨σ, T, hT, S, hp⟩ := hI
  have h1 := DRel.len (show DRel T w (.r K (xs.map f)) _ from S.core.slots i _ hs)
  rw [List.length_map] at h1
  exact k h1 a w ⟨σ, T, hT, S, hp⟩
theorem AC.lenG {c : Code} {α : Type} {f : α → List D} {xs : List α} {K : Nat} {cs : List CV} (i j : Nat) (hs : look s i = some (.v (.g cs))) (hj : cs[j]? = some (.d (.r K (xs.map f)))) (k : xs.length ≤ 9223372036854775807 → AC P W0 F N T0 pin Q c ⟨s, h, n⟩) : AC P W0 F N T0 pin Q c ⟨s, h, n⟩ := fun a w hI => by
  obtain ⟨σ, T, hT, S, hp⟩ := hI
  obtain ⟨vs, h1, h2⟩ := S.core.slots i _ hs
  obtain ⟨y, hy, hr⟩ := h2.get hj
  have h1 := DRel.len (show DRel T w (.r K (xs.map f)) _ from hr)
  rw [List.length_map] at h1
  exact k h1 a w ⟨σ, T, hT, S, hp⟩
end
end Go.Proofs.Ytgmcdlfmifijlaa.Dev
