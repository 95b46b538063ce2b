/- A symbolic heap: what slots and blocks hold, as plain data, and what an operation makes of it; no condition. -/
import Derived.WalkKit
import Derived.WalkSpells
import Derived.WalkLawsBesides
import Derived.Laws.OwnMore
import Derived.Maps.AppendAt
import Derived.OwnWalk
import Derived.Laws.MakeOwn
import Derived.Laws.Tables
import Derived.Orders
set_option linter.unusedVariables false
set_option linter.unusedSimpArgs false
namespace Go.Proofs.Ytgmcdlfmifijlaa.Dev
open Go.RowKit

/-- Data that nobody writes any more: a cell; a slice's rows of K cells each. -/
inductive D where
  | v (x : Value)
  | r (K : Nat) (rows : List (List D))
  | f (fn : FuncId) (caps : List (List D))
/-- Where a block of the call's own lies, and how many rows it has room for. -/
structure Adr where
  g : Nat
  c : Nat
inductive DRel (T : Nat → Prop) (w : World) : D → Value → Prop
  | v (x : Value) (hx : x.oneCell' = true) : DRel T w (.v x) x
  | nil (K : Nat) (A : Option Addr) (c : Nat) : DRel T w (.r K []) (.slice A 0 c)
  | r (K : Nat) (rows : List (List D)) (b off c : Nat) (cs : Nat → Nat → Value) (hb : b < w.heap.size) (hT : ¬ T b) (hc : rows.length ≤ c) (hm : c ≤ 9223372036854775807)
      (hK : ∀ (i : Nat) (row : List D), rows[i]? = some row → row.length = K)
      (hcell : ∀ (i : Nat) (row : List D) (j : Nat) (d : D), rows[i]? = some row → row[j]? = some d → w.cell? ⟨b, off + (i * K + j), none⟩ = some (cs i j))
      (hd : ∀ (i : Nat) (row : List D) (j : Nat) (d : D), rows[i]? = some row → row[j]? = some d → DRel T w d (cs i j)) : DRel T w (.r K rows) (.slice (some ⟨b, off, none⟩) rows.length c)
  | f (fn : FuncId) (caps : List (List D)) (bs offs : Nat → Nat) (cs : Nat → Nat → Value) (hb : ∀ (i : Nat), i < caps.length → bs i < w.heap.size ∧ ¬ T (bs i))
      (hcell : ∀ (i : Nat) (row : List D) (j : Nat) (d : D), caps[i]? = some row → row[j]? = some d → w.cell? ⟨bs i, offs i + j, none⟩ = some (cs i j))
      (hd : ∀ (i : Nat) (row : List D) (j : Nat) (d : D), caps[i]? = some row → row[j]? = some d → DRel T w d (cs i j)) :
      DRel T w (.f fn caps) (.func (.func fn) #[] ((List.range caps.length).map fun i => Value.pointer (some ⟨bs i, offs i, none⟩)).toArray)
/-- A cell: unknown; data; a pointer into a block of the call's own (block k, row i of K cells, cell o); a pointer into a row that nobody writes; a slice of a block of the call's own (from row i on, n rows); one that is there, of which the capacity is known; a function value that has caught variables. -/
inductive CV where
  | any
  | d (x : D)
  | p (k i K o : Nat)
  | q (row : List D) (o : Nat)
  | s (k i K n : Nat)
  | sx (k i K n c : Nat) (e : Bool)
  | m (k : Nat)
  | fn (f : FuncId) (caps : List Nat)
inductive GV where
  | c (x : CV)
  | g (xs : List CV)
inductive AV where
  | v (x : GV)
  | t (xs : List GV)
def All2 {α β : Type} (R : α → β → Prop) : List α → List β → Prop
  | [], [] => True
  | x :: xs, y :: ys => R x y ∧ All2 R xs ys
  | _, _ => False
theorem All2.mono {α β : Type} {R S : α → β → Prop} (h : ∀ x y, R x y → S x y) : ∀ {xs : List α} {ys : List β}, All2 R xs ys → All2 S xs ys
  | [], [], _ => trivial
  | _ :: _, _ :: _, hh => ⟨h _ _ hh.1, All2.mono h hh.2⟩
  | [], _ :: _, hh => hh.elim
  | _ :: _, [], hh => hh.elim
theorem All2.length {α β : Type} {R : α → β → Prop} : ∀ {xs : List α} {ys : List β}, All2 R xs ys → xs.length = ys.length
  | [], [], _ => rfl
  | _ :: _, _ :: _, hh => by rw [List.length_cons, List.length_cons, All2.length hh.2]
  | [], _ :: _, hh => hh.elim
  | _ :: _, [], hh => hh.elim
theorem All2.get {α β : Type} {R : α → β → Prop} : ∀ {xs : List α} {ys : List β}, All2 R xs ys → ∀ {i : Nat} {x : α}, xs[i]? = some x → ∃ y, ys[i]? = some y ∧ R x y
  | _ :: _, _ :: _, hh, 0, _, h => by simp at h; subst h; exact ⟨_, rfl, hh.1⟩
  | _ :: xs, _ :: ys, hh, i + 1, _, h => All2.get (xs := xs) (ys := ys) hh.2 (i := i) (by simpa using h)
  | [], [], _, _, _, h => by simp at h
  | [], _ :: _, hh, _, _, _ => hh.elim
  | _ :: _, [], hh, _, _, _ => hh.elim
theorem All2.set {α β : Type} {R : α → β → Prop} {x : α} {y : β} (h : R x y) : ∀ {xs : List α} {ys : List β}, All2 R xs ys → ∀ (i : Nat), All2 R (xs.set i x) (ys.set i y)
  | [], [], _, _ => trivial
  | _ :: _, _ :: _, hh, 0 => ⟨h, hh.2⟩
  | _ :: _, _ :: _, hh, i + 1 => ⟨hh.1, All2.set h hh.2 i⟩
  | [], _ :: _, hh, _ => hh.elim
  | _ :: _, [], hh, _ => hh.elim
theorem All2.append {α β : Type} {R : α → β → Prop} : ∀ {xs : List α} {ys : List β} {xs' : List α} {ys' : List β}, All2 R xs ys → All2 R xs' ys' → All2 R (xs ++ xs') (ys ++ ys')
  | [], [], _, _, _, h => h
  | _ :: _, _ :: _, _, _, hh, h => ⟨hh.1, All2.append hh.2 h⟩
  | [], _ :: _, _, _, hh, _ => hh.elim
  | _ :: _, [], _, _, hh, _ => hh.elim
theorem All2.take {α β : Type} {R : α → β → Prop} : ∀ {xs : List α} {ys : List β}, All2 R xs ys → ∀ n, All2 R (xs.take n) (ys.take n)
  | [], [], _, n => by simp [All2]
  | _ :: _, _ :: _, hh, 0 => by simp [All2]
  | _ :: _, _ :: _, hh, n + 1 => ⟨hh.1, All2.take hh.2 n⟩
  | [], _ :: _, hh, _ => hh.elim
  | _ :: _, [], hh, _ => hh.elim
theorem All2.drop {α β : Type} {R : α → β → Prop} : ∀ {xs : List α} {ys : List β}, All2 R xs ys → ∀ n, All2 R (xs.drop n) (ys.drop n)
  | [], [], _, n => by simp [All2]
  | _ :: _, _ :: _, hh, 0 => hh
  | _ :: _, _ :: _, hh, n + 1 => All2.drop hh.2 n
  | [], _ :: _, hh, _ => hh.elim
  | _ :: _, [], hh, _ => hh.elim

def RowAt (T : Nat → Prop) (w : World) (b off : Nat) (row : List D) : Prop :=
  b < w.heap.size ∧ ¬ T b ∧ ∀ (j : Nat) (d : D), row[j]? = some d → ∃ u, w.cell? ⟨b, off + j, none⟩ = some u ∧ DRel T w d u
def CRel (σ : Nat → Option Adr) (T : Nat → Prop) (w : World) : CV → Value → Prop
  | .any, _ => True
  | .d x, v => DRel T w x v
  | .p k i K o, v => ∃ g, σ k = some g ∧ v = .pointer (some ⟨g.g, i * K + o, none⟩)
  | .q row o, v => ∃ b off, v = .pointer (some ⟨b, off + o, none⟩) ∧ RowAt T w b off row
  | .s k i K n, v => (n = 0 ∧ v = .slice none 0 0) ∨ ∃ g, σ k = some g ∧ v = .slice (some ⟨g.g, i * K, none⟩) n (g.c - i) ∧ i + n ≤ g.c ∧ g.c ≤ 9223372036854775807
  | .sx k i K n c e, v => ∃ g off, σ k = some g ∧ v = .slice (some ⟨g.g, off, none⟩) n c ∧ (off = i * K ∨ c = 0) ∧ n ≤ c ∧ i + c ≤ g.c ∧ (e = true → i + c = g.c) ∧ g.c ≤ 9223372036854775807
  | .m k, v => ∃ g, σ k = some g ∧ v = .map (some g.g)
  | .fn f caps, v => ∃ gs : List Adr, caps.map σ = gs.map some ∧ v = .func (.func f) #[] (gs.map fun g => Value.pointer (some ⟨g.g, 0, none⟩)).toArray
def GRel (σ : Nat → Option Adr) (T : Nat → Prop) (w : World) : GV → Value → Prop
  | .c x, v => CRel σ T w x v
  | .g xs, v => ∃ vs : List Value, v = .agg vs.toArray ∧ All2 (CRel σ T w) xs vs
def ARel (σ : Nat → Option Adr) (T : Nat → Prop) (w : World) : AV → Value → Prop
  | .v x, v => GRel σ T w x v
  | .t xs, v => ∃ vs : List Value, v = .tuple vs.toArray ∧ All2 (GRel σ T w) xs vs
/-- A block of the call's own: a variable's cells; an array's rows (and room behind them); a map's entries (an integer's key, the cells of what lies under it). -/
inductive AB where
  | box (t : TypeId) (cs : List CV)
  | arr (t : TypeId) (K : Nat) (rows : List (List D))
  | map (es : List (Int × Value)) (clock : Nat)
def Rows (T : Nat → Prop) (w : World) (K : Nat) (rows : List (List D)) (vs : List Value) : Prop :=
  rows.length * K ≤ vs.length ∧ ∀ (i : Nat) (row : List D), rows[i]? = some row → row.length = K ∧ ∀ (j : Nat) (d : D), row[j]? = some d → ∃ u, vs[i * K + j]? = some u ∧ DRel T w d u
def HRel (σ : Nat → Option Adr) (T : Nat → Prop) (w : World) (og : Option Adr) : AB → Prop
  | .box t cs => ∃ g vs, og = some g ∧ T g.g ∧ w.heap[g.g]? = some (.cells vs.toArray t (0, 0)) ∧ All2 (CRel σ T w) cs vs
  | .arr t K rows => 0 < K ∧ ((rows = [] ∧ og = none) ∨ ∃ g vs, og = some g ∧ T g.g ∧ w.heap[g.g]? = some (.cells vs.toArray t (0, 0)) ∧ vs.length = g.c * K ∧ g.c ≤ 9223372036854775807 ∧ Rows T w K rows vs)
  | .map es clock => ∃ g ms, og = some g ∧ T g.g ∧ w.heap[g.g]? = some (.map ms clock) ∧ ms.toList.map (fun e => (e.key, e.val)) = es.map fun e => (Value.int .i64 e.1, e.2)

def look {α : Type} : List (Nat × α) → Nat → Option α
  | [], _ => none
  | (k, x) :: l, i => bif Nat.beq k i then some x else look l i
theorem look_cons {α : Type} (k : Nat) (x : α) (l : List (Nat × α)) (i : Nat) : look ((k, x) :: l) i = if k = i then some x else look l i := by
  show (bif Nat.beq k i then some x else look l i) = _
  by_cases h : k = i
  · subst h; rw [if_pos rfl, Nat.beq_refl]; rfl
  · rw [if_neg h, Bool.eq_false_iff.2 fun e => h (Nat.eq_of_beq_eq_true e)]; rfl
theorem look_mem {α : Type} {l : List (Nat × α)} {i : Nat} {x : α} (h : look l i = some x) : (i, x) ∈ l := by
  induction l with
  | nil => cases h
  | cons y l ih =>
    obtain ⟨k, z⟩ := y
    rw [look_cons] at h
    split at h
    · rename_i hk; subst hk; injection h with h; subst h; exact List.mem_cons_self
    · exact List.mem_cons_of_mem _ (ih h)
theorem look_append {α : Type} (l l' : List (Nat × α)) (i : Nat) : look (l ++ l') i = (look l i).or (look l' i) := by
  induction l with
  | nil => simp [look]
  | cons y l ih =>
    obtain ⟨k, z⟩ := y
    rw [List.cons_append, look_cons, look_cons, ih]
    split <;> simp
structure AState where
  s : List (Nat × AV)
  h : List (Nat × AB)
  n : Nat

/-- What a step does to the world: blocks that are nobody's stay, tracked ones but those of C stay. -/
structure Grow (σ σ' : Nat → Option Adr) (T T' : Nat → Prop) (w w' : World) (C : Nat → Prop) : Prop where
  size : w.heap.size ≤ w'.heap.size
  old : ∀ b, b < w.heap.size → ¬ C b → w'.heap[b]? = w.heap[b]?
  CT : ∀ b, C b → T b
  Tle : ∀ b, b < w.heap.size → T' b → T b
  σle : ∀ k g, σ k = some g → σ' k = some g
theorem cell_of_heap {w w' : World} {b : Nat} (h : w'.heap[b]? = w.heap[b]?) (o : Nat) : w'.cell? ⟨b, o, none⟩ = w.cell? ⟨b, o, none⟩ := by
  unfold World.cell?
  rw [h]
section
variable {σ σ' : Nat → Option Adr} {T T' : Nat → Prop} {w w' : World} {C : Nat → Prop}
theorem Grow.free (G : Grow σ σ' T T' w w' C) {b : Nat} (hb : b < w.heap.size) (hT : ¬ T b) : w'.heap[b]? = w.heap[b]? := G.old b hb fun h => hT (G.CT b h)
theorem DRel.grow {d : D} {v : Value} (h : DRel T w d v) (G : Grow σ σ' T T' w w' C) : DRel T' w' d v := by
  induction h with
  | v x hx => exact .v x hx
  | nil K A c => exact .nil K A c
  | r K rows b off c cs hb hT hc hm hK hcell hd ih =>
    exact .r K rows b off c cs (Nat.lt_of_lt_of_le hb G.size) (fun h => hT (G.Tle b hb h)) hc hm hK
      (fun i row j d h1 h2 => (cell_of_heap (G.free hb hT) _).trans (hcell i row j d h1 h2)) (fun i row j d h1 h2 => ih i row j d h1 h2)
  | f fn caps bs offs cs hb hcell hd ih =>
    refine .f fn caps bs offs cs (fun i hi => ⟨Nat.lt_of_lt_of_le (hb i hi).1 G.size, fun h => (hb i hi).2 (G.Tle _ (hb i hi).1 h)⟩) (fun i row j d h1 h2 => ?_) (fun i row j d h1 h2 => ih i row j d h1 h2)
    have hi := (List.getElem?_eq_some_iff.1 h1).1
    exact (cell_of_heap (G.free (hb i hi).1 (hb i hi).2) _).trans (hcell i row j d h1 h2)
theorem RowAt.grow {b off : Nat} {row : List D} (h : RowAt T w b off row) (G : Grow σ σ' T T' w w' C) : RowAt T' w' b off row :=
  ⟨Nat.lt_of_lt_of_le h.1 G.size, fun hh => h.2.1 (G.Tle b h.1 hh), fun j d hj => by
    obtain ⟨u, h1, h2⟩ := h.2.2 j d hj
    exact ⟨u, (cell_of_heap (G.free h.1 h.2.1) _).trans h1, h2.grow G⟩⟩
theorem CRel.grow {x : CV} {v : Value} (h : CRel σ T w x v) (G : Grow σ σ' T T' w w' C) : CRel σ' T' w' x v := by
  cases x with
  | any => trivial
  | d x => exact DRel.grow h G
  | p k i K o => obtain ⟨g, h1, h2⟩ := h; exact ⟨g, G.σle _ _ h1, h2⟩
  | q row o => obtain ⟨b, off, h1, h2⟩ := h; exact ⟨b, off, h1, h2.grow G⟩
  | s k i K n =>
    rcases h with h | ⟨g, h1, h2⟩
    · exact .inl h
    · exact .inr ⟨g, G.σle _ _ h1, h2⟩
  | sx k i K n c e => obtain ⟨g, off, h1, h2⟩ := h; exact ⟨g, off, G.σle _ _ h1, h2⟩
  | m k => obtain ⟨g, h1, h2⟩ := h; exact ⟨g, G.σle _ _ h1, h2⟩
  | fn f caps =>
    obtain ⟨gs, h1, h2⟩ := h
    refine ⟨gs, ?_, h2⟩
    clear h2
    induction caps generalizing gs with
    | nil => exact h1
    | cons k l ih =>
      cases gs with
      | nil => cases h1
      | cons g gs =>
        rw [List.map_cons, List.map_cons, List.cons.injEq] at h1
        rw [List.map_cons, List.map_cons, ih gs h1.2, G.σle _ _ h1.1]
theorem GRel.grow {x : GV} {v : Value} (h : GRel σ T w x v) (G : Grow σ σ' T T' w w' C) : GRel σ' T' w' x v := by
  cases x with
  | c x => exact CRel.grow (x := x) h G
  | g xs => obtain ⟨vs, h1, h2⟩ := h; exact ⟨vs, h1, h2.mono fun _ _ h => h.grow G⟩
theorem ARel.grow {x : AV} {v : Value} (h : ARel σ T w x v) (G : Grow σ σ' T T' w w' C) : ARel σ' T' w' x v := by
  cases x with
  | v x => exact GRel.grow (x := x) h G
  | t xs => obtain ⟨vs, h1, h2⟩ := h; exact ⟨vs, h1, h2.mono fun _ _ h => h.grow G⟩
theorem Rows.grow {K : Nat} {rows : List (List D)} {vs : List Value} (h : Rows T w K rows vs) (G : Grow σ σ' T T' w w' C) : Rows T' w' K rows vs :=
  ⟨h.1, fun i row hi => ⟨(h.2 i row hi).1, fun j d hj => by
    obtain ⟨u, h1, h2⟩ := (h.2 i row hi).2 j d hj
    exact ⟨u, h1, h2.grow G⟩⟩⟩
theorem heap_lt {w : World} {g : Nat} {o : Obj} (h : w.heap[g]? = some o) : g < w.heap.size := (Array.getElem?_eq_some_iff.1 h).1
/-- a block that is not of C stays -/
theorem HRel.grow {k : Nat} {b : AB} (h : HRel σ T w (σ k) b) (G : Grow σ σ' T T' w w' C) (hk : ∀ g, σ k = some g → ¬ C g.g ∧ (T g.g → T' g.g)) (hn : σ k = none → σ' k = none) : HRel σ' T' w' (σ' k) b := by
  cases b with
  | box t cs =>
    obtain ⟨g, vs, h1, h2, h3, h4⟩ := h
    exact ⟨g, vs, G.σle _ _ h1, (hk g h1).2 h2, (G.old g.g (heap_lt h3) (hk g h1).1).trans h3, h4.mono fun _ _ h => h.grow G⟩
  | arr t K rows =>
    refine ⟨h.1, ?_⟩
    rcases h.2 with ⟨h1, h2⟩ | ⟨g, vs, h1, h2, h3, h5, h6, h4⟩
    · exact .inl ⟨h1, hn h2⟩
    · exact .inr ⟨g, vs, G.σle _ _ h1, (hk g h1).2 h2, (G.old g.g (heap_lt h3) (hk g h1).1).trans h3, h5, h6, h4.grow G⟩
  | map es clock =>
    obtain ⟨g, ms, h1, h2, h3, h4⟩ := h
    exact ⟨g, ms, G.σle _ _ h1, (hk g h1).2 h2, (G.old g.g (heap_lt h3) (hk g h1).1).trans h3, h4⟩
end
end Go.Proofs.Ytgmcdlfmifijlaa.Dev
