/- What a parameter reads as: plain data in rows. -/
import Derived.Test.YtgmcdlfmifijlaaChecked
import Derived.Test.YtgmcdlfmifijlaaEnc
import Derived.Deep.Slices
import Derived.Deep.Fields
import Derived.ChangeSame
import Derived.Lib.SmallJoins
import Derived.OpenShut
namespace Go.Proofs.Ytgmcdlfmifijlaa
open Go.RowKit Pay Go.ChangeShapes Go.WideShapes Go.Deep Go.Joins

def InI (n : Int) : Prop := -9223372036854775808 ≤ n ∧ n ≤ 9223372036854775807
theorem list_upto {α : Type} {p : Nat → α → Prop} (n : Nat) (h : ∀ i, i < n → ∃ x, p i x) : ∃ xs : List α, xs.length = n ∧ ∀ q x, xs[q]? = some x → p q x := by
  induction n with
  | zero => exact ⟨[], rfl, fun q x hx => by simp at hx⟩
  | succ n ih =>
    obtain ⟨xs, hl, hx⟩ := ih fun i hi => h i (by omega)
    obtain ⟨y, hy⟩ := h n (by omega)
    refine ⟨xs ++ [y], by simp [hl], fun q x hq => ?_⟩
    by_cases hqn : q < n
    · rw [List.getElem?_append_left (by omega)] at hq
      exact hx q x hq
    · have hlt := (List.getElem?_eq_some_iff.1 hq).1
      simp [hl] at hlt
      obtain rfl : q = n := by omega
      rw [List.getElem?_append_right (by omega), hl] at hq
      simp at hq
      exact hq ▸ hy

section
variable {H : Type} {enc : TypeId × Value → H} {P : Program} {w : World} {base : Nat} {spare : Nat → Bool} {held : Bool}
theorem row_open {α : Type} {E : Enc α} {Q : α → Prop} {t e : TypeId} (ht : P.underlying t = some (.slice e)) (hC : P.cellsOf e = E.k)
    (hr : ∀ n cs y, DataW.trod enc P w base spare held n e cs = some y → ∃ a, cs = E.cells a ∧ Q a) {fuel : Nat} {cs : List Value} {x : DataW H × List MemPlace} (h : DataW.trod enc P w base spare held fuel t cs = some x) :
    ∃ A n c xs, cs = [.slice A n c] ∧ Row w E A n xs ∧ (∀ x ∈ xs, Q x) ∧ n ≤ c ∧ c ≤ maxLen := by
  rcases open_slice ht h with ⟨rfl, _⟩ | ⟨a, len, cap, m, n, D, Pl, rfl, hb, hl, hm, hmm, hx, hi⟩
  · exact ⟨none, 0, 0, [], rfl, Row.nil_ _ _ _, fun x hx => by simp at hx, Nat.le_refl _, by simp [maxLen]⟩
  · have hlm : len ≤ m := by rw [hmm]; split <;> omega
    obtain ⟨xs, hxl, hxs⟩ := list_upto (p := fun i x => Q x ∧ a.spot = none ∧ a.block < w.heap.size ∧ ∀ j v, (E.cells x)[j]? = some v → w.cell? ⟨a.block, a.off + i * E.k + j, none⟩ = some v) len fun i hil => by
      obtain ⟨cs', hc, ht'⟩ := hi i (by omega)
      obtain ⟨y, rfl, hq⟩ := hr _ _ _ ht'
      rw [hC] at hc
      obtain ⟨_, _, hcell⟩ := World.cells?_some hc
      have h0 : ∀ (i : Nat) cs', w.cells? base (a.add (i * E.k)) E.k = some cs' → i = 0 → a.spot = none ∧ a.block < w.heap.size := by
        rintro i cs' hc rfl
        obtain ⟨_, hl0, hcell⟩ := World.cells?_some hc
        have h := hcell 0 E.pos
        rw [Nat.zero_mul] at h
        have ha : (a.add 0).add 0 = a := rfl
        rw [ha, List.getElem?_eq_getElem (by have := E.pos; omega)] at h
        unfold World.cell? at h
        split at h
        · rename_i he
          split at h
          · simp at h
          · rename_i hs
            exact ⟨by simpa using hs, (Array.getElem?_eq_some_iff.1 he).1⟩
        · simp at h
      obtain ⟨cs0, hc0, _⟩ := hi 0 (by omega)
      rw [hC] at hc0
      obtain ⟨hs, hbk⟩ := h0 0 cs0 hc0 rfl
      refine ⟨y, hq, hs, hbk, fun j v hv => ?_⟩
      have hj := (List.getElem?_eq_some_iff.1 hv).1
      rw [E.hk] at hj
      rw [← hv, ← hcell j hj]
      congr 1
      obtain ⟨ab, ao, asp⟩ := a
      simp only at hs
      subst hs
      simp only [Addr.add]
      split <;> split <;> simp_all
    refine ⟨some a, len, cap, xs, rfl, ⟨hxl.symm, by have := hm; simp only [maxLen] at this; omega, fun q x hx => ?_⟩, fun x hx => ?_, hl, hm⟩
    · obtain ⟨_, hs, hbk, hcell⟩ := hxs q x hx
      refine ⟨a.block, a.off, ?_, hbk, hcell⟩
      obtain ⟨ab, ao, asp⟩ := a
      simp only at hs
      rw [hs]
    · obtain ⟨q, hq⟩ := List.getElem?_of_mem hx
      exact (hxs q x hq).1
theorem row_param {α : Type} {E : Enc α} {Q : α → Prop} {t e : TypeId} (ht : P.underlying t = some (.slice e)) (hC : P.cellsOf e = E.k)
    (hr : ∀ n cs y, DataW.trod enc P w base spare held n e cs = some y → ∃ a, cs = E.cells a ∧ Q a) {r : Reach} {b0 : Nat} {v : Value} {d : DataW H} {p : List MemPlace} (hv : Value.okWide P w r b0 t v) (h : DataW.Trod enc P w base spare held t v d p) :
    ∃ A n c xs, v = .slice A n c ∧ Row w E A n xs ∧ (∀ x ∈ xs, Q x) ∧ n ≤ c ∧ c ≤ maxLen := by
  obtain ⟨a, len, cap, rfl⟩ := okWide_slice ht hv
  obtain ⟨fuel, hf⟩ := h
  obtain ⟨A, n, c, xs, hcs, hrow⟩ := row_open ht hC hr hf
  simp [Value.cells] at hcs
  obtain ⟨rfl, rfl, rfl⟩ := hcs
  exact ⟨_, _, _, xs, rfl, hrow⟩
theorem reads_int {t : TypeId} (ht : P.underlying t = some (.int .i64)) (n : Nat) (cs : List Value) (y : DataW H × List MemPlace) (h : DataW.trod enc P w base spare held n t cs = some y) : ∃ a, cs = eI.cells a ∧ InI a := by
  obtain ⟨a, rfl, _, hw⟩ := DataW.trod_int ht h
  exact ⟨a, rfl, bounds_i64 hw⟩
theorem trod_int1 {t : TypeId} {n : Nat} {v : Value} {y : DataW H × List MemPlace} (ht : P.underlying t = some (.int .i64)) (h : DataW.trod enc P w base spare held n t [v] = some y) : ∃ a, v = .int .i64 a ∧ InI a := by
  obtain ⟨a, hc, _, hw⟩ := DataW.trod_int ht h
  simp at hc
  exact ⟨a, hc, bounds_i64 hw⟩
/-- A parameter that is a struct: its cells. -/
theorem open_struct {t : TypeId} {fs : Array Field} (ht : P.underlying t = some (.struct fs)) {r : Reach} {b0 : Nat} {v : Value} {d : DataW H} {p : List MemPlace} (hv : Value.okWide P w r b0 t v) (h : DataW.Trod enc P w base spare held t v d p) :
    ∃ cs n y, v = .agg cs ∧ DataW.trod enc P w base spare held n t cs.toList = some y := by
  obtain ⟨cs, rfl, _⟩ := okWide_struct ht hv
  obtain ⟨fuel, hf⟩ := h
  exact ⟨cs, fuel, _, rfl, hf⟩
/-- The fields of a struct of one-cell fields, read each. -/
theorem reads_fields {t : TypeId} {fs : Array Field} {fuel : Nat} {cs : List Value} {y : DataW H × List MemPlace} (hs : P.underlying t = some (.struct fs)) (hone : oneCellFields P fs = true) (h : DataW.trod enc P w base spare held fuel t cs = some y) :
    cs.length = P.cellsOf t ∧ ∃ n, ∀ (j : Nat) (f : Field) (v : Value), fs[j]? = some f → cs[j]? = some v → ∃ z, DataW.trod enc P w base spare held n f.type [v] = some z := by
  obtain ⟨ys, n, _, _, hlen, hyl, hf⟩ := DataW.trod_struct hs h
  refine ⟨hlen, n, fun j f v hj hv => ?_⟩
  obtain ⟨ho, hk⟩ := hone_of hone j f hj
  have h1 := hf j f hj
  rw [ho, hk] at h1
  have hjl := (List.getElem?_eq_some_iff.1 hv).1
  have hone' : (cs.drop j).take 1 = [v] := by
    rw [List.drop_eq_getElem_cons hjl]
    have := (List.getElem?_eq_some_iff.1 hv).2
    rw [this]
    rfl
  rw [hone'] at h1
  have hjf : j < ys.length := by rw [hyl]; exact (Array.getElem?_eq_some_iff.1 hj).1
  exact ⟨_, h1.trans (List.getElem?_eq_getElem hjf)⟩
end

section
variable {H : Type} {enc : TypeId × Value → H} {w : World} {base : Nat} {spare : Nat → Bool} {held : Bool}
theorem reads_adv (n : Nat) (cs : List Value) (y : DataW H × List MemPlace) (h : DataW.trod enc Try.prog w base spare held n 32 cs = some y) : ∃ a : Advice, cs = eAdv.cells a ∧ (InI a.card ∧ InI a.shop ∧ InI a.sum ∧ InI a.time) := by
  obtain ⟨hl, m, hf⟩ := reads_fields Try.underlying32 (by kernel_rfl) h
  match cs, hl.trans (show Try.prog.cellsOf 32 = 4 by kernel_rfl) with
  | [c0, c1, c2, c3], _ =>
    obtain ⟨_, h0⟩ := hf 0 _ c0 rfl rfl
    obtain ⟨_, h1⟩ := hf 1 _ c1 rfl rfl
    obtain ⟨_, h2⟩ := hf 2 _ c2 rfl rfl
    obtain ⟨_, h3⟩ := hf 3 _ c3 rfl rfl
    obtain ⟨a0, rfl, b0⟩ := trod_int1 Try.underlying3 h0
    obtain ⟨a1, rfl, b1⟩ := trod_int1 Try.underlying3 h1
    obtain ⟨a2, rfl, b2⟩ := trod_int1 Try.underlying3 h2
    obtain ⟨a3, rfl, b3⟩ := trod_int1 Try.underlying3 h3
    exact ⟨⟨a0, a1, a2, a3⟩, rfl, b0, b1, b2, b3⟩
theorem reads_stand (n : Nat) (cs : List Value) (y : DataW H × List MemPlace) (h : DataW.trod enc Try.prog w base spare held n 26 cs = some y) :
    ∃ (s : Stand) (U : Option Addr) (n c : Nat) (A : Option Addr) (m e : Nat), cs = [.int .i64 s.cap, .slice U n c, .slice A m e] ∧ Row w eI U n s.used ∧ Row w eAdv A m s.advices ∧ InI s.cap := by
  obtain ⟨hl, m, hf⟩ := reads_fields Try.underlying26 (by kernel_rfl) h
  match cs, hl.trans (show Try.prog.cellsOf 26 = 3 by kernel_rfl) with
  | [c0, c1, c2], _ =>
    obtain ⟨_, h0⟩ := hf 0 _ c0 rfl rfl
    obtain ⟨_, h1⟩ := hf 1 _ c1 rfl rfl
    obtain ⟨_, h2⟩ := hf 2 _ c2 rfl rfl
    obtain ⟨cap, rfl, hc⟩ := trod_int1 Try.underlying3 h0
    obtain ⟨U, n, c, us, hU, hrU, _⟩ := row_open Try.underlying24 (show _ = eI.k by kernel_rfl) (reads_int Try.underlying3) h1
    obtain ⟨A, m, e, as1, hA, hrA, _⟩ := row_open Try.underlying22 (show _ = eAdv.k by kernel_rfl) reads_adv h2
    simp at hU hA
    subst hU hA
    exact ⟨⟨cap, us, as1⟩, U, n, c, A, m, e, rfl, hrU, hrA, hc⟩
theorem toList_is {cs : Array Value} {l : List Value} (h : cs.toList = l) : cs = l.toArray := by rw [← h]
end
end Go.Proofs.Ytgmcdlfmifijlaa
