/- Small lemmas on worlds, blocks and rows of cells that all walks of this seat use; no condition. -/
import Derived.WalkKit
import Derived.WalkSpells
import Derived.WalkLawsBesides
import Derived.Deep.LoopGhost
import Derived.Deep.CutRange
import Derived.Deep.DeepCutAuto
import Derived.BigQuiet
import Derived.Deep.OwnRows
import Derived.Lib.Hide
import Derived.Deep.Light
import Derived.Lib.QuietBelow
import Derived.Laws.OwnMore
import Derived.Maps.AppendAt
import Derived.Deep.AppendLies
import Derived.RegionTactic
import Derived.OwnWalk
import Derived.Laws.MakeOwn
import Derived.Laws.Tables
namespace Go.Proofs.Ytgmcdlfmifijlaa
open Go.RowKit

theorem bcell {W w1 : World} (hb : Below W.heap.size W w1) : (∀ b o, b < W.heap.size → w1.cell? ⟨b, o, none⟩ = W.cell? ⟨b, o, none⟩) ∧ (∀ b o, b < W.heap.size → w1.frozen? ⟨b, o, none⟩ = W.frozen? ⟨b, o, none⟩) :=
  ⟨fun b o h => hb.cell (p := ⟨b, o, none⟩) h, fun b o h => hb.frozen (p := ⟨b, o, none⟩) h⟩
theorem le_alloc {B : Nat} {w : World} {o : Obj} (h : B ≤ w.heap.size) : B ≤ (w.alloc o).heap.size := by rw [World.size_alloc]; omega
theorem le_set {B : Nat} {w : World} {a : Addr} {v : Value} (h : B ≤ w.heap.size) : B ≤ (w.setCell a v).heap.size := by rw [World.size_setCell]; exact h
theorem le_drew {B : Nat} {w : World} (h : B ≤ w.heap.size) : B ≤ w.drew.heap.size := h
theorem le_drewN {B n : Nat} {w : World} (h : B ≤ w.heap.size) : B ≤ (w.drewN n).heap.size := h
theorem ret_int {k : IntKind} {a b : Int} (h : a = b) : Ending.returned (.int k a) = .returned (.int k b) := by rw [h]
theorem ret_bool {a b : Bool} (h : a = b) : Ending.returned (.bool a) = .returned (.bool b) := by rw [h]
theorem le_of_eq_int {a b : Int} (h : a = b) : a ≤ b ∧ b ≤ a := by omega
theorem drop_get {α : Type} {l : List α} {q : Nat} {x : α} (h : l[q]? = some x) : l.drop q = x :: l.drop (q + 1) := by
  obtain ⟨hq, rfl⟩ := List.getElem?_eq_some_iff.1 h
  exact List.drop_eq_getElem_cons hq
theorem take_get {α : Type} {l : List α} {q : Nat} {x : α} (h : l[q]? = some x) : l.take (q + 1) = l.take q ++ [x] := by
  obtain ⟨hq, rfl⟩ := List.getElem?_eq_some_iff.1 h
  exact List.take_succ_eq_append_getElem hq

def Blk (w : World) (g : Nat) (t : TypeId) (cs : Array Value) : Prop := w.heap[g]? = some (.cells cs t (0, 0))
section
variable {w w' : World} {g : Nat} {t : TypeId} {cs : Array Value}
theorem Blk.lt (h : Blk w g t cs) : g < w.heap.size := by
  rcases Nat.lt_or_ge g w.heap.size with hlt | hge
  · exact hlt
  · unfold Blk at h; rw [Array.getElem?_eq_none hge] at h; cases h
theorem Blk.cell (h : Blk w g t cs) (i : Nat) : w.cell? ⟨g, i, none⟩ = cs[i]? := cell_of_row w g i cs t (0, 0) h
theorem Blk.frozen (h : Blk w g t cs) (i : Nat) : w.frozen? ⟨g, i, none⟩ = false := by
  unfold Blk at h
  simp [World.frozen?, h]
theorem Blk.new (w : World) (t : TypeId) (cs : Array Value) : Blk (w.alloc (.cells cs t)) w.heap.size t cs := heap_alloc_new w _
theorem Blk.new' {w : World} {t : TypeId} {cs : Array Value} {g : Nat} (hg : g = w.heap.size) : Blk (w.alloc (.cells cs t)) g t cs := by subst hg; exact Blk.new w t cs
theorem blk_far {p : Addr} {u : Value} (h : Blk w g t cs) (hp : g ≠ p.block) : Blk (w.setCell p u) g t cs := (Below.heap_setCell w p u g hp).trans h
theorem Blk.drew (h : Blk w g t cs) : Blk w.drew g t cs := h
theorem Blk.drewN (h : Blk w g t cs) (n : Nat) : Blk (w.drewN n) g t cs := h
theorem Blk.alloc (h : Blk w g t cs) (o : Obj) : Blk (w.alloc o) g t cs := (Below.heap_alloc w o g h.lt).trans h
theorem Blk.set_ (h : Blk w g t cs) (i : Nat) (u : Value) : Blk (w.setCell ⟨g, i, none⟩ u) g t (cs.setIfInBounds i u) := by
  unfold Blk at h ⊢
  simp [World.setCell, Array.getElem?_modify, h]
theorem Blk.far (h : Blk w g t cs) {p : Addr} (hp : g ≠ p.block) (u : Value) : Blk (w.setCell p u) g t cs := (Below.heap_setCell w p u g hp).trans h
theorem Blk.below {B : Nat} (h : Blk w g t cs) (hb : Below B w w') (hg : g < B) : Blk w' g t cs := (hb.block g hg).trans h
theorem Blk.keep (h : Blk w g t cs) (hb : Below w.heap.size w w') : Blk w' g t cs := h.below hb h.lt
theorem Blk.grown {row : Option Nat} (h : Blk w g t cs) (hb : w.grownBy w' row) (hg : some g ≠ row) : Blk w' g t cs := (hb.block g h.lt hg).trans h
theorem Blk.ne_ {g' : Nat} {t' : TypeId} {cs' : Array Value} (h : Blk w g t cs) (h' : Blk w g' t' cs') (hne : t ≠ t') : g ≠ g' := by
  rintro rfl
  unfold Blk at h h'
  rw [h] at h'
  injection h' with h'
  injection h' with _ ht
  exact hne ht
theorem own_blk_ne {base : Nat} {e : TypeId} {size n : Nat} {v : Value} {xs : List Value} (h : w.ownsRow base e size v n xs) (hg : Blk w g t cs) (hne : e ≠ t) : v.ownBlock ≠ some g := by
  rcases h.2 with ⟨rfl, _⟩ | ⟨g', cap, cur, rfl, _, hh, _⟩
  · simp [Value.ownBlock]
  · intro he
    have : g' = g := by simpa [Value.ownBlock] using he
    subst this
    exact Blk.ne_ (t := e) hh hg hne rfl
end

/-- How a datum lies in cells. -/
structure Enc (α : Type) where
  cells : α → List Value
  k : Nat
  hk : ∀ x, (cells x).length = k
  one : ∀ x, ∀ u ∈ cells x, u.oneCell' = true
  pos : 0 < k

/-- A slice of n elements that holds the list xs. -/
def Row {α : Type} (w : World) (E : Enc α) (A : Option Addr) (n : Nat) (xs : List α) : Prop :=
  n = xs.length ∧ n ≤ 9223372036854775807 ∧ ∀ q x, xs[q]? = some x → ∃ b off, A = some ⟨b, off, none⟩ ∧ b < w.heap.size ∧ ∀ j v, (E.cells x)[j]? = some v → w.cell? ⟨b, off + q * E.k + j, none⟩ = some v

section
variable {α : Type} {w w' : World} {E : Enc α} {n : Nat} {A : Option Addr} {xs : List α}
theorem Row.len (h : Row w E A n xs) : n = xs.length := h.1
theorem Row.max (h : Row w E A n xs) : n ≤ 9223372036854775807 := h.2.1
theorem Row.below (h : Row w E A n xs) (hb : Below w.heap.size w w') : Row w' E A n xs := by
  refine ⟨h.1, h.2.1, fun q x hx => ?_⟩
  obtain ⟨b, off, hA, hbw, hc⟩ := h.2.2 q x hx
  exact ⟨b, off, hA, Nat.lt_of_lt_of_le hbw hb.size, fun j v hv => (hb.cell (p := ⟨b, off + q * E.k + j, none⟩) hbw).trans (hc j v hv)⟩
theorem Row.alloc (h : Row w E A n xs) (o : Obj) : Row (w.alloc o) E A n xs := h.below ((Below.refl _ _).alloc (Nat.le_refl _) _)
theorem Row.drew (h : Row w E A n xs) : Row w.drew E A n xs := h
theorem Row.drewN (h : Row w E A n xs) (k : Nat) : Row (w.drewN k) E A n xs := h
theorem Row.nil_ (w : World) (E : Enc α) (A : Option Addr) : Row w E A 0 [] := ⟨rfl, by omega, fun q x hx => by simp at hx⟩
theorem Row.get (h : Row w E A n xs) {q : Nat} (hq : q < n) : ∃ b off x, xs[q]? = some x ∧ A = some ⟨b, off, none⟩ ∧ b < w.heap.size ∧ ∀ j v, (E.cells x)[j]? = some v → w.cell? ⟨b, off + q * E.k + j, none⟩ = some v := by
  have hl : q < xs.length := by have := h.1; omega
  obtain ⟨b, off, hA, hb, hc⟩ := h.2.2 q xs[q] (List.getElem?_eq_getElem hl)
  exact ⟨b, off, xs[q], List.getElem?_eq_getElem hl, hA, hb, hc⟩
theorem Row.get1 {f0 : α → Value} (h : Row w E A n xs) (he : ∀ x, E.cells x = [f0 x]) (hk : E.k = 1) {q : Nat} (hq : q < n) : ∃ b off x, xs[q]? = some x ∧ A = some ⟨b, off, none⟩ ∧ b < w.heap.size ∧ w.cell? ⟨b, off + q, none⟩ = some (f0 x) := by
  obtain ⟨b, off, x, hx, hA, hb, hc⟩ := h.get hq
  rw [he x, hk, Nat.mul_one] at hc
  exact ⟨b, off, x, hx, hA, hb, hc 0 _ rfl⟩
theorem Row.get2 {f0 f1 : α → Value} (h : Row w E A n xs) (he : ∀ x, E.cells x = [f0 x, f1 x]) (hk : E.k = 2) {q : Nat} (hq : q < n) : ∃ b off x, xs[q]? = some x ∧ A = some ⟨b, off, none⟩ ∧ b < w.heap.size ∧
    w.cell? ⟨b, off + q * 2, none⟩ = some (f0 x) ∧ w.cell? ⟨b, off + q * 2 + 1, none⟩ = some (f1 x) := by
  obtain ⟨b, off, x, hx, hA, hb, hc⟩ := h.get hq
  rw [he x, hk] at hc
  exact ⟨b, off, x, hx, hA, hb, hc 0 _ rfl, hc 1 _ rfl⟩
theorem Row.get3 {f0 f1 f2 : α → Value} (h : Row w E A n xs) (he : ∀ x, E.cells x = [f0 x, f1 x, f2 x]) (hk : E.k = 3) {q : Nat} (hq : q < n) : ∃ b off x, xs[q]? = some x ∧ A = some ⟨b, off, none⟩ ∧ b < w.heap.size ∧
    w.cell? ⟨b, off + q * 3, none⟩ = some (f0 x) ∧ w.cell? ⟨b, off + q * 3 + 1, none⟩ = some (f1 x) ∧ w.cell? ⟨b, off + q * 3 + 2, none⟩ = some (f2 x) := by
  obtain ⟨b, off, x, hx, hA, hb, hc⟩ := h.get hq
  rw [he x, hk] at hc
  exact ⟨b, off, x, hx, hA, hb, hc 0 _ rfl, hc 1 _ rfl, hc 2 _ rfl⟩
theorem Row.get4 {f0 f1 f2 f3 : α → Value} (h : Row w E A n xs) (he : ∀ x, E.cells x = [f0 x, f1 x, f2 x, f3 x]) (hk : E.k = 4) {q : Nat} (hq : q < n) : ∃ b off x, xs[q]? = some x ∧ A = some ⟨b, off, none⟩ ∧ b < w.heap.size ∧
    w.cell? ⟨b, off + q * 4, none⟩ = some (f0 x) ∧ w.cell? ⟨b, off + q * 4 + 1, none⟩ = some (f1 x) ∧ w.cell? ⟨b, off + q * 4 + 2, none⟩ = some (f2 x) ∧ w.cell? ⟨b, off + q * 4 + 3, none⟩ = some (f3 x) := by
  obtain ⟨b, off, x, hx, hA, hb, hc⟩ := h.get hq
  rw [he x, hk] at hc
  exact ⟨b, off, x, hx, hA, hb, hc 0 _ rfl, hc 1 _ rfl, hc 2 _ rfl, hc 3 _ rfl⟩
/-- The one element of a new block. -/
theorem Row.one (w : World) (E : Enc α) (x : α) (t : TypeId) : Row (w.alloc (.cells (E.cells x).toArray t)) E (some ⟨w.heap.size, 0, none⟩) 1 [x] := by
  refine ⟨rfl, by omega, fun q y hy => ⟨w.heap.size, 0, rfl, by simp, fun j v hv => ?_⟩⟩
  have hq : q = 0 := by rcases q with _ | q; rfl; simp at hy
  subst hq
  obtain rfl : x = y := by simpa using hy
  rw [Nat.zero_mul, Nat.zero_add, (Blk.new w t _).cell j]
  simpa using hv
end

theorem length_flatMap_k {α : Type} {E : Enc α} (xs : List α) : (xs.flatMap E.cells).length = xs.length * E.k := by
  induction xs with
  | nil => simp
  | cons x l ih => rw [List.flatMap_cons, List.length_append, ih, E.hk, List.length_cons, Nat.add_mul]; omega
theorem get_flatMap_k {α : Type} {E : Enc α} (xs : List α) (q j : Nat) (hj : j < E.k) : (xs.flatMap E.cells)[q * E.k + j]? = (xs[q]?).bind fun x => (E.cells x)[j]? := by
  induction xs generalizing q with
  | nil => simp
  | cons x l ih =>
    rw [List.flatMap_cons]
    rcases q with _ | q
    · rw [Nat.zero_mul, Nat.zero_add, List.getElem?_append_left (by rw [E.hk]; exact hj)]; simp
    · rw [List.getElem?_append_right (by rw [E.hk, Nat.add_mul]; omega), E.hk, show (q + 1) * E.k + j - E.k = q * E.k + j by rw [Nat.add_mul]; omega, ih]; simp
theorem split_k {k j : Nat} (hk : 0 < k) : j = j / k * k + j % k ∧ j % k < k := ⟨by rw [Nat.mul_comm]; exact (Nat.div_add_mod j k).symm, Nat.mod_lt _ hk⟩

/-- v is a slice of the call's own (from block base on) that holds xs, with room behind it or not. -/
def Own {α : Type} (w : World) (base : Nat) (e : TypeId) (E : Enc α) (v : Value) (xs : List α) : Prop := w.ownsRow base e E.k v xs.length (xs.flatMap E.cells)

section
variable {α : Type} {w w' : World} {E : Enc α} {base : Nat} {e : TypeId} {v : Value} {xs : List α}
theorem Own.nil_ (w : World) (base : Nat) (e : TypeId) (E : Enc α) : Own w base e E (.slice none 0 0) [] := World.ownsRow_nil w base e E.k
theorem Own.empty (w : World) (e : TypeId) (E : Enc α) : Own (w.alloc (.cells #[] e)) w.heap.size e E (.slice (some ⟨w.heap.size, 0, none⟩) 0 0) [] :=
  ⟨by simp, .inr ⟨_, 0, #[], rfl, Nat.le_refl _, heap_alloc_new w _, Nat.le_refl _, by simp [maxLen], by simp, by simp⟩⟩
theorem Own.shape (h : Own w base e E v xs) : ∃ A c, v = .slice A xs.length c ∧ xs.length ≤ c ∧ Row w E A xs.length xs := by
  rcases h.2 with ⟨rfl, h0⟩ | ⟨g, cap, cur, rfl, hg, hh, hn, hm, hs, ht⟩
  · obtain rfl := List.eq_nil_of_length_eq_zero h0
    exact ⟨none, 0, rfl, Nat.le_refl _, Row.nil_ _ _ _⟩
  · refine ⟨_, _, rfl, hn, rfl, by simp only [maxLen] at hm; omega, fun q x hx => ⟨g, 0, rfl, Blk.lt (w := w) (t := e) (cs := cur) hh, fun j u hu => ?_⟩⟩
    have hj : j < E.k := by rw [← E.hk x]; exact (List.getElem?_eq_some_iff.1 hu).1
    have h1 := get_flatMap_k (E := E) xs q j hj
    rw [hx, Option.bind_some, hu, ← ht, List.getElem?_take] at h1
    rw [Nat.zero_add, Blk.cell (w := w) (t := e) (cs := cur) hh]
    split at h1
    · rw [← h1]; simp
    · cases h1
theorem Own.row {A : Option Addr} {n c : Nat} (h : Own w base e E (.slice A n c) xs) : Row w E A n xs := by
  obtain ⟨A', c', h1, _, h2⟩ := h.shape
  injection h1 with h3 h4 h5
  subst h3; subst h4
  exact h2
theorem Own.far {row : Option Nat} (h : Own w base e E v xs) (hg : w.grownBy w' row) (hne : v.ownBlock = none ∨ v.ownBlock ≠ row) : Own w' base e E v xs := World.ownsRow.kept h hg hne
theorem Own.alloc (h : Own w base e E v xs) (o : Obj) : Own (w.alloc o) base e E v xs := World.ownsRow.alloc h o
theorem Own.keep (h : Own w base e E v xs) (hb : Below w.heap.size w w') : Own w' base e E v xs :=
  h.far (row := none) ⟨hb.os, hb.tape, hb.output, hb.size, fun k hk _ => hb.block k hk⟩ (by cases v.ownBlock <;> simp)
theorem Own.base_ {b' : Nat} (h : Own w base e E v xs) (hb : b' ≤ base) : Own w b' e E v xs :=
  ⟨h.1, h.2.imp id fun ⟨g, cap, cur, a, b, c⟩ => ⟨g, cap, cur, a, Nat.le_trans hb b, c⟩⟩
theorem Own.drew (h : Own w base e E v xs) : Own w.drew base e E v xs := h
theorem Own.drewN (h : Own w base e E v xs) (n : Nat) : Own (w.drewN n) base e E v xs := h
theorem Own.lt (h : Own w base e E v xs) : ∀ k, v.ownBlock = some k → base ≤ k ∧ k < w.heap.size := World.ownsRow.lt h
end

section
variable {α β : Type} {w w' : World} {E : Enc α} {E' : Enc β} {base b' : Nat} {e e' : TypeId} {v v' : Value} {xs : List α} {ys : List β} {g : Nat} {t : TypeId} {cs : Array Value}
theorem own_ne (h : Own w base e E v xs) (h' : Own w b' e' E' v' ys) (hne : e ≠ e') : v.ownBlock = none ∨ v.ownBlock ≠ v'.ownBlock := by
  rcases h.2 with ⟨rfl, _⟩ | ⟨g, cap, cur, rfl, _, hh, _⟩
  · exact .inl rfl
  · refine .inr fun hg => ?_
    exact own_blk_ne (w := w) h' (show Blk w g e cur from hh) (Ne.symm hne) (by rw [← hg]; rfl)
theorem Own.far_own (h : Own w base e E v xs) (h' : Own w b' e' E' v' ys) (hne : e ≠ e') (hg : w.grownBy w' v'.ownBlock) : Own w' base e E v xs := h.far hg (own_ne h h' hne)
theorem Own.far_blk (h : Own w base e E v xs) (hB : Blk w g t cs) (hne : e ≠ t) (hg : w.grownBy w' (some g)) : Own w' base e E v xs := h.far hg (.inr (own_blk_ne (w := w) h hB hne))
theorem Blk.far_own (h : Blk w g t cs) (h' : Own w b' e' E' v' ys) (hne : e' ≠ t) (hg : w.grownBy w' v'.ownBlock) : Blk w' g t cs := h.grown hg (fun e => own_blk_ne (w := w) h' h hne e.symm)
theorem Own.grow_below {B : Nat} (h : Own w b' e' E' v' ys) (hB : B ≤ b') (hw : B ≤ w.heap.size) (hg : w.grownBy w' v'.ownBlock) : Below B w w' := (Below.refl _ _).grown hg hw (fun k hk => Nat.le_trans hB (h.lt k hk).1)
theorem Blk.setRow (h : Blk w g t cs) (vs : Array Value) : Blk (w.setRow g vs) g t vs := by
  unfold Blk
  simp only [World.setRow, Array.getElem?_modify, if_true]
  rw [show w.heap[g]? = _ from h]
  rfl
theorem grownBy_setRow (w : World) (g : Nat) (vs : Array Value) : w.grownBy (w.setRow g vs) (some g) :=
  ⟨rfl, rfl, rfl, by simp [World.setRow], fun k _ hk => by
    simp only [World.setRow, Array.getElem?_modify]
    rw [if_neg (fun e => hk (by rw [e]))]⟩
theorem step_store_blk {P : Program} {ops : Array Oper} {o : Oper} {a : Act} {K : Act → World → Prop} {Q : Exit → Act → World → Prop} {F : Prop} (hgd : o.guard = none) (ty : TypeId) (x y : Operand) (ho : o.op = .store ty x y)
    (vs : Array Value) (hx : a.eval x = .pointer (some ⟨g, 0, none⟩)) (hy : a.eval y = .agg vs) (hB : Blk w g t cs) (hi : (P.info? ty).map (·.size) = some vs.size) (hsz : cs.size = vs.size) (h1 : vs.all (·.oneCell') = true)
    (h : ∀ w', Blk w' g t vs → w.grownBy w' (some g) → K (a.put o.dst undef) w') :
    if Region.wanted o (yielded ops a.tmps) = true then Oper.wp P o a w K Q else F := by
  have hw : Region.wanted o (yielded ops a.tmps) = true := by simp [Region.wanted, hgd]
  rw [if_pos hw]
  exact wp_store_row ty x y ho g vs hx hy t cs hB hi hsz h1 (h _ (hB.setRow vs) (grownBy_setRow w g vs))
end

/-! append -/
section
variable {P : Program} {α : Type} {E : Enc α} (w : World)
theorem run_append_nil_row (base : Nat) (t ty e : TypeId) (i : TypeInfo) (size : Nat) (ht : P.underlying t = some (.slice e)) (hi : P.info? e = some i)
    (v : Value) (n : Nat) (xs : List Value) (hown : w.ownsRow base e size v n xs) (c : Nat) : (Builtin.append_ #[t, t] ty #[v, .slice none 0 c]).run P w = .ok v w := by
  rcases hown.2 with ⟨rfl, rfl⟩ | ⟨g, cap, cur, rfl, _, _, hnc, _⟩
  · simp [Builtin.append_, run_underlying ht, sizeOf, typeInfo, hi, Builtin.lenOf, Builtin.firstCells]
  · simp [Builtin.append_, run_underlying ht, sizeOf, typeInfo, hi, Builtin.lenOf, Builtin.firstCells, hnc, storeCells]
theorem run_append_row (base : Nat) (t ty e : TypeId) (i : TypeInfo) (z : Value) (bytes : Nat) (ht : P.underlying t = some (.slice e)) (hi : P.info? e = some i) (hz : i.zero = some z)
    (hsize : i.size = E.k) (hby : i.bytes = bytes) (hzs : z.cells.size = E.k) (v : Value) (xs : List α) (hown : Own w base e E v xs)
    (A : Option Addr) (m c : Nat) (ys : List α) (hr : Row w E A m ys) (h63 : xs.length + m ≤ maxLen) (hbytes : (xs.length + m) * bytes ≤ 140737488355328) (hbase : base ≤ w.heap.size) :
    ∃ v' w', (Builtin.append_ #[t, t] ty #[v, .slice A m c]).run P w = .ok v' w' ∧ Own w' base e E v' (xs ++ ys) ∧ w.grownBy w' v.ownBlock ∧ (v'.ownBlock = v.ownBlock ∨ v'.ownBlock = some w.heap.size) := by
  have hm := hr.1
  have go : ∀ (ad : Addr), (∀ j u, (ys.flatMap E.cells)[j]? = some u → w.cell? (ad.add j) = some u) →
      ∃ v' w', (Builtin.append_ #[t, t] ty #[v, .slice (some ad) m c]).run P w = .ok v' w' ∧ Own w' base e E v' (xs ++ ys) ∧ w.grownBy w' v.ownBlock ∧ (v'.ownBlock = v.ownBlock ∨ v'.ownBlock = some w.heap.size) := by
    intro ad hc
    obtain ⟨v', w', hrun, h2, h3, _, h5⟩ := run_append_own_at (P := P) w base t ty e i z E.k bytes ht hi hz hsize hby hzs E.pos v xs.length (xs.flatMap E.cells) hown ad m c (ys.flatMap E.cells)
      (by rw [length_flatMap_k, hm]) hc (fun u hu => by obtain ⟨y, _, hy⟩ := List.mem_flatMap.1 hu; exact E.one y u hy) h63 hbytes hbase
    refine ⟨v', w', hrun, ?_, h3, h5⟩
    unfold Own
    rw [List.length_append, List.flatMap_append, ← hm]
    exact h2
  rcases A with _ | ad
  · have hy : ys = [] := by
      rcases ys with _ | ⟨y, l⟩
      · rfl
      · obtain ⟨_, _, h, _⟩ := hr.2.2 0 y rfl
        cases h
    subst hy
    obtain rfl : m = 0 := hm
    exact ⟨v, w, run_append_nil_row w base t ty e i E.k ht hi v xs.length _ hown c, by simpa using hown, World.grownBy.refl w _, .inl rfl⟩
  · refine go ad fun j u hu => ?_
    obtain ⟨hj, hk⟩ := split_k (j := j) E.pos
    rw [hj, get_flatMap_k _ _ _ hk] at hu
    obtain ⟨y, hy, hyu⟩ := Option.bind_eq_some_iff.1 hu
    obtain ⟨b, off, hA, _, hcell⟩ := hr.2.2 _ y hy
    injection hA with hA
    subst hA
    have := hcell _ u hyu
    rw [Nat.add_assoc, ← hj] at this
    rw [← this, Addr.add_lit]
theorem wp_append_row {o : Oper} {a : Act} {K : Act → World → Prop} {Q : Exit → Act → World → Prop} (s x : Operand) (t : TypeId)
    (ho : o.op = .call { callee := .builtin .append, args := #[s, x], argTypes := #[t, t] })
    (base : Nat) (e : TypeId) (i : TypeInfo) (z : Value) (bytes : Nat) (ht : P.underlying t = some (.slice e)) (hi : P.info? e = some i) (hz : i.zero = some z)
    (hsize : i.size = E.k) (hby : i.bytes = bytes) (hzs : z.cells.size = E.k) (v : Value) (xs : List α) (hs : a.eval s = v) (hown : Own w base e E v xs)
    (A : Option Addr) (m c : Nat) (ys : List α) (hx : a.eval x = .slice A m c) (hr : Row w E A m ys) (h63 : xs.length + m ≤ maxLen) (hbytes : (xs.length + m) * bytes ≤ 140737488355328) (hbase : base ≤ w.heap.size) (N : Nat) (hN : xs.length + m = N)
    (h : ∀ A' c' w', Own w' base e E (.slice A' N c') (xs ++ ys) → w.grownBy w' v.ownBlock → ((Value.slice A' N c').ownBlock = v.ownBlock ∨ (Value.slice A' N c').ownBlock = some w.heap.size) → K (a.put o.dst (.slice A' N c')) w') : o.wp P a w K Q := by
  obtain ⟨v', w', hrun, h2, h3, h4⟩ := run_append_row (P := P) w base t o.type e i z bytes ht hi hz hsize hby hzs v xs hown A m c ys hr h63 hbytes hbase
  unfold Oper.wp execOp
  simp only [ho, resolve, invoke, builtin, Sem.run_bind, Sem.run_pure, Result.andThen_ok, List.map_toArray, List.map_cons, List.map_nil, hs, hx, hrun]
  obtain ⟨A', c', rfl, _⟩ := h2.shape
  rw [List.length_append, ← hr.1, hN] at h2 h4 ⊢
  exact h A' c' w' h2 h3 h4
theorem wpList_append_row {ops : Array Oper} {rest : List Oper} {o : Oper} {a : Act} {Q : Exit → Act → World → Prop} (hgd : o.guard = none) (s x : Operand) (t : TypeId)
    (ho : o.op = .call { callee := .builtin .append, args := #[s, x], argTypes := #[t, t] })
    (base : Nat) (e : TypeId) (i : TypeInfo) (z : Value) (bytes : Nat) (ht : P.underlying t = some (.slice e)) (hi : P.info? e = some i) (hz : i.zero = some z)
    (hsize : i.size = E.k) (hby : i.bytes = bytes) (hzs : z.cells.size = E.k) (v : Value) (xs : List α) (hs : a.eval s = v) (hown : Own w base e E v xs)
    (A : Option Addr) (m c : Nat) (ys : List α) (hx : a.eval x = .slice A m c) (hr : Row w E A m ys) (h63 : xs.length + m ≤ maxLen) (hbytes : (xs.length + m) * bytes ≤ 140737488355328) (hbase : base ≤ w.heap.size) (N : Nat) (hN : xs.length + m = N)
    (h : ∀ A' c' w', Own w' base e E (.slice A' N c') (xs ++ ys) → w.grownBy w' v.ownBlock → ((Value.slice A' N c').ownBlock = v.ownBlock ∨ (Value.slice A' N c').ownBlock = some w.heap.size) → wpList P ops Q rest (a.put o.dst (.slice A' N c')) w') : wpList P ops Q (o :: rest) a w :=
  wpList_plain hgd fun _ hK => wp_append_row w s x t ho base e i z bytes ht hi hz hsize hby hzs v xs hs hown A m c ys hx hr h63 hbytes hbase N hN fun A' c' w' h2 h3 h4 => hK _ _ (h A' c' w' h2 h3 h4)
theorem step_append_row {ops : Array Oper} {o : Oper} {a : Act} {K : Act → World → Prop} {Q : Exit → Act → World → Prop} {F : Prop} (hgd : o.guard = none) (s x : Operand) (t : TypeId)
    (ho : o.op = .call { callee := .builtin .append, args := #[s, x], argTypes := #[t, t] })
    (base : Nat) (e : TypeId) (i : TypeInfo) (z : Value) (bytes : Nat) (ht : P.underlying t = some (.slice e)) (hi : P.info? e = some i) (hz : i.zero = some z)
    (hsize : i.size = E.k) (hby : i.bytes = bytes) (hzs : z.cells.size = E.k) (v : Value) (xs : List α) (hs : a.eval s = v) (hown : Own w base e E v xs)
    (A : Option Addr) (m c : Nat) (ys : List α) (hx : a.eval x = .slice A m c) (hr : Row w E A m ys) (h63 : xs.length + m ≤ maxLen) (hbytes : (xs.length + m) * bytes ≤ 140737488355328) (hbase : base ≤ w.heap.size) (N : Nat) (hN : xs.length + m = N)
    (h : ∀ A' c' w', Own w' base e E (.slice A' N c') (xs ++ ys) → w.grownBy w' v.ownBlock → ((Value.slice A' N c').ownBlock = v.ownBlock ∨ (Value.slice A' N c').ownBlock = some w.heap.size) → K (a.put o.dst (.slice A' N c')) w') :
    if Region.wanted o (yielded ops a.tmps) = true then Oper.wp P o a w K Q else F := by
  have hw : Region.wanted o (yielded ops a.tmps) = true := by simp [Region.wanted, hgd]
  rw [if_pos hw]
  exact wp_append_row w s x t ho base e i z bytes ht hi hz hsize hby hzs v xs hs hown A m c ys hx hr h63 hbytes hbase N hN h
end

end Go.Proofs.Ytgmcdlfmifijlaa
