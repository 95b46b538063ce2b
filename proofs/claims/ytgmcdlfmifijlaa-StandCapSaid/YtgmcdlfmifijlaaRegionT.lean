/- The theorem of Region by a table: what each operation of the head comes to. No condition. -/
import Derived.Test.YtgmcdlfmifijlaaRegion
namespace Go.Proofs.Ytgmcdlfmifijlaa
open Go.RowKit

/-- A value that leads to memory of the statement's own. -/
structure LK (B : Nat) where
  holds : Value → World → Prop
  stable : ∀ v w w' row, holds v w → w.grownBy w' row → (∀ g, row = some g → g ∉ bl v) → holds v w'
  lt : ∀ v w, holds v w → ∀ g ∈ bl v, B ≤ g ∧ g < w.heap.size

theorem bl_slice (A : Option Addr) (n c : Nat) : ∀ g, g ∈ bl (.slice A n c) ↔ (Value.slice A n c).ownBlock = some g := by
  intro g
  cases A <;> simp [bl, bl1, Value.ownBlock, eq_comm]

def LK.own {α : Type} (B : Nat) (e : TypeId) (E : Enc α) (n : Nat) (xs : List α) : LK B where
  holds v w := ∃ A c, v = .slice A n c ∧ Own w B e E (.slice A n c) xs
  stable := by
    rintro v w w' row ⟨A, c, rfl, h⟩ hg hr
    refine ⟨A, c, rfl, h.far hg ?_⟩
    cases hb : (Value.slice A n c).ownBlock with
    | none => exact .inl rfl
    | some g => exact .inr fun he => hr g he.symm ((bl_slice A n c g).2 hb)
  lt := by
    rintro v w ⟨A, c, rfl, h⟩ g hg
    exact h.lt g ((bl_slice A n c g).1 hg)
def LK.box (B : Nat) (t : TypeId) (cs : Array Value) : LK B where
  holds v w := ∃ g, v = .pointer (some ⟨g, 0, none⟩) ∧ B ≤ g ∧ Blk w g t cs
  stable := by
    rintro v w w' row ⟨g, rfl, hB, h⟩ hg hr
    exact ⟨g, rfl, hB, h.grown hg fun he => hr g he.symm (by simp [bl, bl1])⟩
  lt := by
    rintro v w ⟨g, rfl, hB, h⟩ g' hg'
    simp [bl, bl1] at hg'
    subst hg'
    exact ⟨hB, h.lt⟩

/-- The parts of a struct: a value that leads nowhere; one that leads to memory of the statement's own. -/
inductive APart (B : Nat) where
  | c (v : Value)
  | l (k : LK B)
def APart.good {B : Nat} (w : World) : List (APart B) → List Value → Prop
  | [], [] => True
  | .c v :: ps, x :: xs => x = v ∧ bl1 v = [] ∧ APart.good w ps xs
  | .l k :: ps, x :: xs => k.holds x w ∧ bl x = bl1 x ∧ APart.good w ps xs
  | _, _ => False
theorem APart.good_stable {B : Nat} {w w' : World} {row : Option Nat} (hg : w.grownBy w' row) : ∀ (ps : List (APart B)) (xs : List Value), APart.good w ps xs → (∀ g, row = some g → g ∉ xs.flatMap bl1) → APart.good w' ps xs
  | [], [], _, _ => trivial
  | .c v :: ps, x :: xs, h, hr => ⟨h.1, h.2.1, APart.good_stable hg ps xs h.2.2 fun g hgg hm => hr g hgg (by rw [List.flatMap_cons]; exact List.mem_append_right _ hm)⟩
  | .l k :: ps, x :: xs, h, hr => ⟨k.stable x w w' row h.1 hg fun g hgg hm => hr g hgg (by rw [List.flatMap_cons, ← h.2.1]; exact List.mem_append_left _ hm), h.2.1,
      APart.good_stable hg ps xs h.2.2 fun g hgg hm => hr g hgg (by rw [List.flatMap_cons]; exact List.mem_append_right _ hm)⟩
  | [], _ :: _, h, _ => h.elim
  | .c _ :: _, [], h, _ => h.elim
  | .l _ :: _, [], h, _ => h.elim
theorem APart.good_lt {B : Nat} {w : World} : ∀ (ps : List (APart B)) (xs : List Value), APart.good w ps xs → ∀ g ∈ xs.flatMap bl1, B ≤ g ∧ g < w.heap.size
  | [], [], _, g, hg => by simp at hg
  | .c v :: ps, x :: xs, h, g, hg => by
    rw [List.flatMap_cons, h.1, h.2.1, List.nil_append] at hg
    exact APart.good_lt ps xs h.2.2 g hg
  | .l k :: ps, x :: xs, h, g, hg => by
    rw [List.flatMap_cons] at hg
    rcases List.mem_append.1 hg with h1 | h1
    · exact k.lt x w h.1 g (by rw [h.2.1]; exact h1)
    · exact APart.good_lt ps xs h.2.2 g h1
  | [], _ :: _, h, _, _ => h.elim
  | .c _ :: _, [], h, _, _ => h.elim
  | .l _ :: _, [], h, _, _ => h.elim
def LK.agg {B : Nat} (ps : List (APart B)) : LK B where
  holds v w := ∃ xs : List Value, v = .agg xs.toArray ∧ APart.good w ps xs
  stable := by
    rintro v w w' row ⟨xs, rfl, h⟩ hg hr
    exact ⟨xs, rfl, APart.good_stable hg ps xs h fun g hgg => by simpa [bl] using hr g hgg⟩
  lt := by
    rintro v w ⟨xs, rfl, h⟩ g hg
    exact APart.good_lt ps xs h g (by simpa [bl] using hg)

inductive Cell (B : Nat) where
  | val (v : Value)
  | lin (k : LK B)
def Cell.holds {B : Nat} : Cell B → Value → World → Prop
  | .val v0, v, _ => v = v0
  | .lin k, v, w => k.holds v w
def Cell.isLin {B : Nat} : Cell B → Bool
  | .val _ => false
  | .lin _ => true
def Makers.of {B : Nat} (tbl : List (Cell B)) (ins uses : List (List Nat)) : Makers where
  n := tbl.length
  G i v w := (tbl.getD i (.val undef)).holds v w
  lin i := (tbl.getD i (.val undef)).isLin
  ins i := ins.getD i []
  uses i := uses.getD i []

section
variable {P : Program} {Q : Exit → Act → World → Prop}
theorem wp_region_tbl {id : Nat} {a : Act} {w : World} {l : List Oper} (tbl : List (Cell w.heap.size)) (ins uses : List (List Nat)) (hm : P.follows .mixedOrders = true)
    (hok : Makers.ok tbl.length (Makers.of tbl ins uses).lin (Makers.of tbl ins uses).ins (Makers.of tbl ins uses).uses l.toArray a.tmps.size = true)
    (hs : ∀ i, i < tbl.length → ∀ o, l.toArray[i]? = some o → (Makers.of tbl ins uses).Step P Q l.toArray w.drew a i o)
    (ht : ∀ a' w', Below w.heap.size w.drew w' → SameBut l.toArray tbl.length a a' → (∀ i, i < tbl.length → (∀ c, c < tbl.length → i ∉ uses.getD c []) → (tbl.getD i (.val undef)).holds (slotV l.toArray a' i) w') →
      (∀ i j, i < tbl.length → j < tbl.length → i ≠ j → (∀ c, c < tbl.length → i ∉ uses.getD c []) → (∀ c, c < tbl.length → j ∉ uses.getD c []) → (tbl.getD i (.val undef)).isLin = true → (tbl.getD j (.val undef)).isLin = true → ∀ g ∈ bl (slotV l.toArray a' i), g ∉ bl (slotV l.toArray a' j)) →
      wpList P l.toArray Q (l.drop tbl.length) a' w') :
    (Code.region id l.toArray true).wp P Q a w := by
  refine wp_region_makers (Makers.of tbl ins uses) hm hok ?_ ?_ ?_ hs ht
  · intro i _ hl v w1 w2 row hG hg hr
    show (tbl.getD i (.val undef)).holds v w2
    have hG' : (tbl.getD i (.val undef)).holds v w1 := hG
    have hl' : (tbl.getD i (.val undef)).isLin = true := hl
    revert hG' hl'
    cases tbl.getD i (.val undef) with
    | val v0 => intro h _; exact h
    | lin k => intro h _; exact k.stable v w1 w2 row h hg hr
  · intro i _ hl v w1 w2 hG
    show (tbl.getD i (.val undef)).holds v w2
    have hG' : (tbl.getD i (.val undef)).holds v w1 := hG
    have hl' : (tbl.getD i (.val undef)).isLin = false := hl
    revert hG' hl'
    cases tbl.getD i (.val undef) with
    | val v0 => intro h _; exact h
    | lin k => intro _ h; cases h
  · intro i _ hl v w1 hG
    have hG' : (tbl.getD i (.val undef)).holds v w1 := hG
    have hl' : (tbl.getD i (.val undef)).isLin = true := hl
    revert hG' hl'
    cases tbl.getD i (.val undef) with
    | val v0 => intro _ h; cases h
    | lin k => intro h _; exact k.lt v w1 h

theorem wp_of_run {o : Oper} {a : Act} {w w' : World} {K : Act → World → Prop} {v : Value} (h : (execOp a.eval o).run P w = .ok (.value v) w') (hK : K (a.put o.dst v) w') : o.wp P a w K Q := by
  unfold Oper.wp; rw [h]; exact hK
theorem wp_of_enter {o : Oper} {a : Act} {w w' : World} {K : Act → World → Prop} {f : FuncId} {args : Array Value} (h : (execOp a.eval o).run P w = .ok (.enter f args) w')
    (hc : Calls P f args w' fun e w'' => ∃ v, e = .returned v ∧ K (a.put o.dst v) w'') : o.wp P a w K Q := by
  unfold Oper.wp; rw [h]
  exact hc.mono fun e w'' ⟨v, he, hk⟩ => by subst he; exact hk
theorem APart.good_length {B : Nat} {w : World} : ∀ (ps : List (APart B)) (xs : List Value), APart.good w ps xs → xs.length = ps.length
  | [], [], _ => rfl
  | .c v :: ps, x :: xs, h => by rw [List.length_cons, List.length_cons, APart.good_length ps xs h.2.2]
  | .l k :: ps, x :: xs, h => by rw [List.length_cons, List.length_cons, APart.good_length ps xs h.2.2]
  | [], _ :: _, h => h.elim
  | .c _ :: _, [], h => h.elim
  | .l _ :: _, [], h => h.elim
theorem wpList_store_blk {ops : Array Oper} {rest : List Oper} {o : Oper} {a : Act} {w : World} {g : Nat} {t : TypeId} {cs : Array Value} (hgd : o.guard = none) (ty : TypeId) (x y : Operand) (ho : o.op = .store ty x y)
    (vs : Array Value) (hx : a.eval x = .pointer (some ⟨g, 0, none⟩)) (hy : a.eval y = .agg vs) (hB : Blk w g t cs) (hi : (P.info? ty).map (·.size) = some vs.size) (hsz : cs.size = vs.size) (h1 : vs.all (·.oneCell') = true)
    (h : ∀ w', Blk w' g t vs → w.grownBy w' (some g) → wpList P ops Q rest (a.put o.dst undef) w') : wpList P ops Q (o :: rest) a w :=
  wpList_store_row hgd ty x y ho g vs hx hy t cs hB hi hsz h1 (h _ (hB.setRow vs) (grownBy_setRow w g vs))
theorem grownBy_setCell (w : World) (p : Addr) (u : Value) : w.grownBy (w.setCell p u) (some p.block) :=
  ⟨rfl, rfl, rfl, by simp, fun k _ hk => Below.heap_setCell w p u k (fun e => hk (by rw [e]))⟩
theorem own_set {α : Type} {E : Enc α} {w : World} {base g : Nat} {e t : TypeId} {v : Value} {xs : List α} {cs : Array Value} (h : Own w base e E v xs) (hB : Blk w g t cs) (hne : e ≠ t) (i : Nat) (u : Value) :
    Own (w.setCell ⟨g, i, none⟩ u) base e E v xs ∧ Blk (w.setCell ⟨g, i, none⟩ u) g t (cs.setIfInBounds i u) := ⟨h.far_blk hB hne (grownBy_setCell w ⟨g, i, none⟩ u), hB.set_ i u⟩
theorem own_set3 {α : Type} {E : Enc α} {w : World} {base g : Nat} {e t : TypeId} {v : Value} {xs : List α} {cs : Array Value} (h : Own w base e E v xs) (hB : Blk w g t cs) (hne : e ≠ t) (u0 u1 u2 : Value) :
    Own (((w.setCell ⟨g, 0, none⟩ u0).setCell ⟨g, 1, none⟩ u1).setCell ⟨g, 2, none⟩ u2) base e E v xs :=
  have h1 := own_set h hB hne 0 u0
  have h2 := own_set h1.1 h1.2 hne 1 u1
  (own_set h2.1 h2.2 hne 2 u2).1
theorem below_call {w w1 w2 : World} (hb : Below w.heap.size w w1) (h2 : Below w1.heap.size w1 w2) : Below w.heap.size w w2 := hb.trans (h2.mono hb.size)
theorem below_call1 {w w1 w2 : World} {o : Obj} (hb : Below w.heap.size w w1) (h2 : Below (w1.alloc o).heap.size (w1.alloc o) w2) : Below w.heap.size w w2 := below_call (hb.alloc hb.size o) h2
theorem row_one {α : Type} {w : World} {g : Nat} (E : Enc α) (x : α) (t : TypeId) (hg : g = w.heap.size) : Row (w.alloc (.cells (E.cells x).toArray t)) E (some ⟨g, 0, none⟩) 1 [x] := by subst hg; exact Row.one w E x t
theorem of_drew {w w' : World} (h : Below w.drew.heap.size w.drew w') : Below w.heap.size w w' := ⟨h.os, h.tape, h.output, h.size, h.block⟩

def putAll (a : Act) : List Tmp → List Value → Act
  | d :: ds, v :: vs => putAll (a.put (some d) v) ds vs
  | _, _ => a
theorem putAll_back (a' : Act) : ∀ (ds : List Tmp) (a : Act), a'.defers = a.defers → a'.tmps.size = a.tmps.size → (∀ s, s ∉ ds → a'.tmps.getD s undef = a.tmps.getD s undef) → putAll a ds (ds.map fun d => a'.tmps.getD d undef) = a'
  | [], a, hd, hz, h => by
    obtain ⟨t', d'⟩ := a'
    obtain ⟨t, d⟩ := a
    simp only at hd hz
    subst hd
    simp only [putAll, Act.mk.injEq, and_true]
    apply Array.ext_getElem?
    intro s
    have := h s (by simp)
    by_cases hs : s < t.size
    · have hs' : s < t'.size := by omega
      simp [hs, hs'] at this
      simp [hs, hs', this]
    · rw [Array.getElem?_eq_none (show t'.size ≤ s by omega), Array.getElem?_eq_none (show t.size ≤ s by omega)]
  | d :: ds, a, hd, hz, h => by
    rw [List.map_cons, putAll]
    refine putAll_back a' ds _ hd (by simpa [Act.put] using hz) fun s hs => ?_
    simp only [Act.put]
    by_cases e : d = s
    · subst e
      by_cases hlt : d < a.tmps.size
      · simp [hlt]
      · have h1 : ¬ d < a'.tmps.size := by rw [hz]; exact hlt
        simp [hlt, h1]
    · rw [h s (by simp [hs, Ne.symm e])]
      simp [Array.getElem?_setIfInBounds_ne e]

theorem wp_region_tbl' {id : Nat} {a : Act} {w : World} {l : List Oper} (n : Nat) (tbl : List (Cell w.heap.size)) (ins uses : List (List Nat)) (ds : List Tmp) (hn : tbl.length = n) (hm : P.follows .mixedOrders = true)
    (hok : Makers.ok n (Makers.of tbl ins uses).lin (Makers.of tbl ins uses).ins (Makers.of tbl ins uses).uses l.toArray a.tmps.size = true)
    (hds : ds = (List.range n).map (slotOf l.toArray))
    (hs : ∀ i, i < n → ∀ o, l.toArray[i]? = some o → (Makers.of tbl ins uses).Step P Q l.toArray w.drew a i o)
    (ht : ∀ (vs : List Value) w', vs.length = n → Below w.heap.size w w' → (∀ i, i < n → (∀ c, c < n → i ∉ uses.getD c []) → (tbl.getD i (.val undef)).holds (vs.getD i undef) w') →
      (∀ i j, i < n → j < n → i ≠ j → (∀ c, c < n → i ∉ uses.getD c []) → (∀ c, c < n → j ∉ uses.getD c []) → (tbl.getD i (.val undef)).isLin = true → (tbl.getD j (.val undef)).isLin = true → ∀ g ∈ bl (vs.getD i undef), g ∉ bl (vs.getD j undef)) →
      wpList P l.toArray Q (l.drop n) (putAll a ds vs) w') :
    (Code.region id l.toArray true).wp P Q a w := by
  subst hn
  refine wp_region_tbl tbl ins uses hm hok hs fun a' w' hb hsame hF hA => ?_
  have e : ds.map (fun d => a'.tmps.getD d undef) = (List.range tbl.length).map (slotV l.toArray a') := by rw [hds, List.map_map]; rfl
  have ea : putAll a ds ((List.range tbl.length).map (slotV l.toArray a')) = a' := by
    rw [← e]
    refine putAll_back a' ds a hsame.1 hsame.2.1 fun s hs' => hsame.2.2 s fun i hi he => hs' ?_
    rw [hds]
    exact List.mem_map.2 ⟨i, List.mem_range.2 hi, he⟩
  have get : ∀ i, i < tbl.length → ((List.range tbl.length).map (slotV l.toArray a')).getD i undef = slotV l.toArray a' i := fun i hi => by simp [hi]
  rw [← ea]
  refine ht _ w' (by simp) (of_drew hb) (fun i hi hc => by rw [get i hi]; exact hF i hi hc) (fun i j hi hj hne hci hcj hli hlj => by rw [get i hi, get j hj]; exact hA i j hi hj hne hci hcj hli hlj)

theorem slot_get {a : Act} {s : Tmp} {v : Value} (h : a.tmps.getD s undef = v) : a.tmps[s]?.getD undef = v := by simpa using h
theorem Own.one {α : Type} (w : World) (E : Enc α) (x : α) (e : TypeId) : Own (w.alloc (.cells (E.cells x).toArray e)) w.heap.size e E (.slice (some ⟨w.heap.size, 0, none⟩) 1 1) [x] := by
  refine ⟨by simp [E.hk], .inr ⟨_, 1, (E.cells x).toArray, rfl, Nat.le_refl _, heap_alloc_new w _, Nat.le_refl _, by simp [maxLen], by simp [E.hk], ?_⟩⟩
  simp [E.hk, List.take_of_length_le]
theorem new_of_own {α : Type} {w w' : World} {e : TypeId} {E : Enc α} {A : Option Addr} {n c : Nat} {xs : List α} (h : Own w' w.heap.size e E (.slice A n c) xs) : ∀ g ∈ bl (.slice A n c), w.heap.size ≤ g :=
  fun g hg => (h.lt g ((bl_slice A n c g).1 hg)).1
theorem grown_of_below {w w' : World} (h : Below w.heap.size w w') : w.grownBy w' none := ⟨h.os, h.tape, h.output, h.size, fun k hk _ => h.block k hk⟩
theorem SameBut.get {ops : Array Oper} {n : Nat} {a0 a : Act} (h : SameBut ops n a0 a) (s : Tmp) (hb : (List.range n).all (fun i => slotOf ops i != s) = true) : a.tmps[s]?.getD undef = a0.tmps[s]?.getD undef := by
  have := h.2.2 s (fun i hi => by have := List.all_eq_true.1 hb i (List.mem_range.2 hi); simpa using this)
  simpa using this
end
end Go.Proofs.Ytgmcdlfmifijlaa
