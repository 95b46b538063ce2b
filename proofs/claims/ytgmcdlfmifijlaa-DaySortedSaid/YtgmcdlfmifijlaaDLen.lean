/- How long a list that comes in may be: the form's own reach; no condition. -/
import Derived.Test.YtgmcdlfmifijlaaDOpn
import Derived.SizedLaws
set_option linter.unusedVariables false
set_option linter.unusedSimpArgs false
namespace Go.Proofs.Ytgmcdlfmifijlaa.Dev
open Go.RowKit Go.ChangeShapes Go.WideShapes Go.Deep Go.Joins

theorem param_len {H : Type} {enc : TypeId × Value → H} {P : Program} {w : World} {base : Nat} {spare : Nat → Bool} {held : Bool} {t e : TypeId} {ts : List TypeId} {ds : List (DataW H)} {v : Value} {d : DataW H} {p : List MemPlace} {r : Reach} {b0 K : Nat} {α : Type} {f : α → List D} {a : List α}
    (j : Nat) (ht : P.underlying t = some (.slice e)) (hsz : (DataW.weightsEach P ts ds).all (· ≤ reachBytes) = true) (h1 : ts[j]? = some t) (h2 : ds[j]? = some d) (hv : Value.okWide P w r b0 t v) (h : DataW.Trod enc P w base spare held t v d p)
    (hg : GRel (fun _ => none) NoT w (.c (.d (.r K (a.map f)))) v) : a.length * P.bytesOf e ≤ reachBytes := by
  obtain ⟨A, len, cap, rfl⟩ := okWide_slice ht hv
  obtain ⟨fuel, hf⟩ := h
  have hg' : DRel NoT w (.r K (a.map f)) (.slice A len cap) := hg
  have hl : a.length ≤ len := by
    generalize hu : Value.slice A len cap = u at hg'
    generalize hrr : a.map f = rows at hg'
    cases hg' with
    | nil => have : a.length = 0 := by rw [← List.length_map f, hrr]; rfl
             omega
    | r =>
      injection hu with _ h3 _
      have : a.length = rows.length := by rw [← List.length_map f, hrr]
      omega
  rcases open_slice ht hf with ⟨hc, hx⟩ | ⟨a', len', cap', m, n, D, Pl, hc, _, _, _, _, hx, _⟩
  · have h3 : Value.slice A len cap = .slice none 0 0 := (List.cons.inj hc).1
    injection h3 with _ h4 _
    have : a.length = 0 := by omega
    rw [this, Nat.zero_mul]; exact Nat.zero_le _
  · have h3 : Value.slice A len cap = .slice (some a') len' cap' := (List.cons.inj hc).1
    injection h3 with _ h4 _
    have hd : d = .slice ((List.range len').map D) ((List.range (m - len')).map fun j => D (len' + j)) := (Prod.mk.inj hx).1
    have h5 := sized_slice hsz h1 (h2.trans (congrArg some hd)) ht
    refine Nat.le_trans (Nat.mul_le_mul_right _ ?_) h5
    simp only [List.length_map, List.length_range]
    omega
theorem reach47 {n b m : Nat} (h : n * b ≤ reachBytes) (hb : b = m) : n * m ≤ 140737488355328 := by
  have := reachBytes_lt
  subst hb
  omega
end Go.Proofs.Ytgmcdlfmifijlaa.Dev
