/- How the plain data lie in cells. -/
import Derived.Test.YtgmcdlfmifijlaaBase
import Derived.Test.YtgmcdlfmifijlaaData
namespace Go.Proofs.Ytgmcdlfmifijlaa
open Go.RowKit Pay

def eI : Enc Int := { cells := fun n => [.int .i64 n], k := 1, hk := fun _ => rfl, one := by intro x u hu; simp at hu; subst hu; rfl, pos := by decide }
def eAdv : Enc Advice := { cells := fun a => [.int .i64 a.card, .int .i64 a.shop, .int .i64 a.sum, .int .i64 a.time], k := 4, hk := fun _ => rfl, one := by intro x u hu; simp at hu; rcases hu with rfl | rfl | rfl | rfl <;> rfl, pos := by decide }
theorem Row.made0 {w : World} {g n : Nat} {t : TypeId} (h : Blk w g t (madeCells #[Value.int .i64 0] n)) (hn : n ≤ 9223372036854775807) : Row w eI (some ⟨g, 0, none⟩) n (List.replicate n 0) := by
  refine ⟨by simp, hn, fun q x hx => ⟨g, 0, rfl, h.lt, fun j v hv => ?_⟩⟩
  obtain ⟨hq, rfl⟩ := List.getElem?_eq_some_iff.1 hx
  simp at hq
  rcases j with _ | j
  · simp [eI] at hv
    subst hv
    rw [h.cell, ← Array.getElem?_toList, toList_madeCells_one]
    simp [eI, hq]
  · simp [eI] at hv
theorem Own.setI {w : World} {base : Nat} {e : TypeId} {A : Option Addr} {n c : Nat} {xs : List Int} (h : Own w base e eI (.slice A n c) xs) {i : Nat} (hi : i < xs.length) (y : Int) :
    ∃ g, A = some ⟨g, 0, none⟩ ∧ base ≤ g ∧ g < w.heap.size ∧ w.cell? ⟨g, i, none⟩ = some (.int .i64 xs[i]) ∧ w.frozen? ⟨g, i, none⟩ = false ∧ Own (w.setCell ⟨g, i, none⟩ (.int .i64 y)) base e eI (.slice A n c) (xs.set i y) := by
  rcases h.2 with ⟨h1, h0⟩ | ⟨g, cap, cur, h1, hg, hh, hn, hm, hs, ht⟩
  · omega
  · injection h1 with h2 h3 h4
    subst h2 h3 h4
    have h' : w.ownsRow base e 1 (.slice (some ⟨g, 0, none⟩) xs.length c) xs.length (xs.flatMap eI.cells) := h
    have hcell := h'.cellAt i (by omega)
    have hfm : ∀ l : List Int, l.flatMap eI.cells = l.map (Value.int .i64) := fun l => by induction l with | nil => rfl | cons x l ih => rw [List.flatMap_cons, ih]; rfl
    rw [hfm, List.getElem?_map, List.getElem?_eq_getElem hi] at hcell
    refine ⟨g, rfl, hg, Blk.lt (w := w) (t := e) (cs := cur) hh, hcell, h'.frozenAt i, ?_⟩
    have hst := h'.stored i (.int .i64 y)
    unfold Own
    rw [List.length_set]
    rw [hfm] at hst ⊢
    rw [List.map_set]
    exact hst.1
theorem Own.made0 {w : World} {base g n : Nat} {t : TypeId} (h : Blk w g t (madeCells #[Value.int .i64 0] n)) (hb : base ≤ g) (hn : n ≤ maxLen) : Own w base t eI (.slice (some ⟨g, 0, none⟩) n n) (List.replicate n 0) := by
  refine ⟨?_, .inr ⟨g, n, _, ?_, hb, h, ?_, hn, ?_, ?_⟩⟩
  · rw [length_flatMap_k]
  · rw [List.length_replicate]
  · rw [List.length_replicate]; exact Nat.le_refl _
  · rw [size_madeCells]; exact (Nat.mul_one n).symm
  · rw [toList_madeCells_one, List.length_replicate]
    have : ∀ k : Nat, (List.replicate k (0 : Int)).flatMap eI.cells = List.replicate k (Value.int .i64 0) := fun k => by
      induction k with
      | zero => rfl
      | succ k ih => rw [List.replicate_succ, List.flatMap_cons, ih]; rfl
    rw [this]
    exact List.take_of_length_le (by rw [List.length_replicate]; exact Nat.le_of_eq (Nat.mul_one n).symm)
/-- What a function that returns a stand and an errno returns: rows of its own. -/
def StandRes (w0 : World) (r : Stand) (err : Int) (e : Ending) (w' : World) : Prop :=
  ∃ (U : Option Addr) (n c : Nat) (A : Option Addr) (m d : Nat), e = .returned (.tuple #[.agg #[.int .i64 r.cap, .slice U n c, .slice A m d], .int .i64 err]) ∧ n = r.used.length ∧ m = r.advices.length ∧
    Own w' w0.heap.size 3 eI (.slice U n c) r.used ∧ Own w' w0.heap.size 32 eAdv (.slice A m d) r.advices ∧ Below w0.heap.size w0 w'
end Go.Proofs.Ytgmcdlfmifijlaa
