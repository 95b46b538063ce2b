/- The symbolic heap: states, one operation's step, the sequence of a region, code; no condition. -/
import Derived.Test.YtgmcdlfmifijlaaDSh1
set_option linter.unusedVariables false
set_option linter.unusedSimpArgs false
namespace Go.Proofs.Ytgmcdlfmifijlaa.Dev
open Go.RowKit

structure Core (σ : Nat → Option Adr) (T : Nat → Prop) (st : AState) (a : Act) (w : World) : Prop where
  slots : ∀ i v, look st.s i = some v → ARel σ T w v (a.tmps.getD i undef)
  heap : ∀ k b, look st.h k = some b → HRel σ T w (σ k) b
  inj : ∀ k k' b b' g g', look st.h k = some b → look st.h k' = some b' → σ k = some g → σ k' = some g' → g.g = g'.g → k = k'
  Tlt : ∀ b, T b → b < w.heap.size
/-- how many slots; what calls are put off -/
abbrev NT := Nat × List Deferred
structure Sim (W0 : World) (F : Nat → Prop) (N : NT) (σ : Nat → Option Adr) (T : Nat → Prop) (st : AState) (a : Act) (w : World) : Prop where
  core : Core σ T st a w
  os : w.os = W0.os
  tape : w.tape = W0.tape
  output : w.output = W0.output
  size : W0.heap.size ≤ w.heap.size
  old : ∀ b, b < W0.heap.size → ¬ F b → w.heap[b]? = W0.heap[b]?
  own : ∀ k b g, look st.h k = some b → σ k = some g → W0.heap.size ≤ g.g ∨ F g.g
  next : ∀ k, st.n ≤ k → σ k = none
  hn : ∀ k b, look st.h k = some b → k < st.n
  tsz : a.tmps.size = N.1
  dfr : a.defers = N.2
def Inv (W0 : World) (F : Nat → Prop) (N : NT) (T0 : Nat → Prop) (pin : List (Nat × Adr)) (st : AState) (a : Act) (w : World) : Prop := ∃ σ T, (∀ b, b < W0.heap.size → (T b → T0 b) ∧ (T0 b → T b)) ∧ Sim W0 F N σ T st a w ∧ ∀ k g, look pin k = some g → σ k = some g

theorem DRel.inv {T : Nat → Prop} {w : World} {x v : Value} (h : DRel T w (.v x) v) : v = x := by cases h; rfl
theorem DRel.one {T : Nat → Prop} {w : World} {x v : Value} (h : DRel T w (.v x) v) : x.oneCell' = true := by cases h; assumption
def cst : Value → AV
  | .agg _ => .v (.c .any)
  | .tuple _ => .v (.c .any)
  | x => .v (.c (.d (.v x)))
def ev (st : AState) : Operand → AV → Prop
  | .tmp t, v => look st.s t = some v
  | .const c, v => v = cst c
  | .func f, v => v = .v (.c (.fn f []))
  | .global _, _ => False
theorem cst_rel {σ : Nat → Option Adr} {T : Nat → Prop} {w : World} (x : Value) : ARel σ T w (cst x) x := by
  cases x <;> first | exact DRel.v _ rfl | trivial
theorem ev_rel {σ : Nat → Option Adr} {T : Nat → Prop} {st : AState} {a : Act} {w : World} (C : Core σ T st a w) {x : Operand} {v : AV} (h : ev st x v) : ARel σ T w v (a.eval x) := by
  cases x with
  | tmp t => exact C.slots t v h
  | const c => have h : v = cst c := h; subst h; exact cst_rel c
  | func f => have h : v = _ := h; subst h; exact ⟨[], rfl, rfl⟩
  | global g => exact h.elim

structure Ext (σ : Nat → Option Adr) (T : Nat → Prop) (w : World) (σ' : Nat → Option Adr) (T' : Nat → Prop) (w' : World) (nb : List (Nat × AB)) (E : List Nat) : Prop where
  os : w'.os = w.os
  tape : w'.tape = w.tape
  output : w'.output = w.output
  grow : Grow σ σ' T T' w w' fun b => ∃ k ∈ E, ∃ g, σ k = some g ∧ g.g = b
  Tge : ∀ b, T b → T' b
  Tlt : ∀ b, T' b → b < w'.heap.size
  dom : ∀ k, (∀ b, (k, b) ∉ nb) → σ' k = σ k
  rel : ∀ k b, (k, b) ∈ nb → HRel σ' T' w' (σ' k) b
  fresh : ∀ k b g, (k, b) ∈ nb → σ' k = some g → w.heap.size ≤ g.g ∨ ∃ e ∈ E, ∃ g', σ e = some g' ∧ g'.g = g.g
  inj : ∀ k k' b b' g g', (k, b) ∈ nb → (k', b') ∈ nb → σ' k = some g → σ' k' = some g' → g.g = g'.g → k = k'
def noQ : Exit → Act → World → Prop := fun _ _ _ => False
/-- One operation: its answer av, new blocks nb; it eats the blocks E. -/
def GOp (P : Program) (o : Oper) (st : AState) (av : AV) (nb : List (Nat × AB)) (E : List Nat) : Prop :=
  ∀ σ T a w, Core σ T st a w → (∀ k b, (k, b) ∈ nb → k ∉ E → σ k = none) →
    o.wp P a w (fun a' w' => ∃ u σ' T', a' = a.put o.dst u ∧ Ext σ T w σ' T' w' nb E ∧ ARel σ' T' w' av u) noQ
theorem upon_monoQ {P : Program} {o : Oper} {a : Act} {K : Act → World → Prop} {Q : Exit → Act → World → Prop} {r : Result Next} (h : o.upon P a K noQ r) : o.upon P a K Q r := by
  cases r with
  | ok n w' =>
    cases n <;> simp only [Oper.upon] at h ⊢ <;> try exact h
    refine h.mono fun e w'' he => ?_
    cases e with
    | returned v => exact he
    | panicked c => exact he.elim
    | outgrown => obtain ⟨_, _, h⟩ := he; exact h.elim
  | halt x w' => cases x <;> simp only [Oper.upon] at h ⊢ <;> exact h.elim
theorem operMono {P : Program} {o : Oper} {a : Act} {w : World} {Q : Exit → Act → World → Prop} {K K' : Act → World → Prop} (hh : o.wp P a w K Q) (h : ∀ a w, K a w → K' a w) : o.wp P a w K' Q := Oper.wp_mono h hh
theorem wp_monoQ {P : Program} {o : Oper} {a : Act} {w : World} {K : Act → World → Prop} {Q : Exit → Act → World → Prop} (h : o.wp P a w K noQ) : o.wp P a w K Q := upon_monoQ h

/-! states -/
def AState.put (st : AState) (dst : Option Tmp) (av : AV) : AState :=
  match dst with
  | some d => { st with s := (d, av) :: st.s }
  | none => st
def del (E : List Nat) (h : List (Nat × AB)) : List (Nat × AB) := h.filter fun x => !E.contains x.1
theorem look_del {E : List Nat} {h : List (Nat × AB)} {k : Nat} {b : AB} (hl : look (del E h) k = some b) : look h k = some b ∧ k ∉ E := by
  induction h with
  | nil => cases hl
  | cons y l ih =>
    obtain ⟨j, z⟩ := y
    unfold del at hl
    rw [List.filter_cons] at hl
    rw [look_cons]
    split at hl
    · rename_i hc
      rw [look_cons] at hl
      split at hl
      · rename_i hj; subst hj; rw [if_pos rfl]; exact ⟨hl, by simpa using hc⟩
      · rename_i hj; rw [if_neg hj]; exact ih hl
    · rename_i hc
      have := ih hl
      by_cases hj : j = k
      · subst hj; simp at hc; exact absurd hc this.2
      · rw [if_neg hj]; exact this
def maxId : List (Nat × AB) → Nat → Nat
  | [], n => n
  | (k, _) :: l, n => maxId l (Nat.max n (k + 1))
theorem maxId_le (l : List (Nat × AB)) : ∀ n, n ≤ maxId l n ∧ ∀ k b, (k, b) ∈ l → k < maxId l n := by
  induction l with
  | nil => intro n; exact ⟨Nat.le_refl _, fun _ _ h => by cases h⟩
  | cons y l ih =>
    intro n
    obtain ⟨j, z⟩ := y
    have := ih (Nat.max n (j + 1))
    refine ⟨Nat.le_trans (Nat.le_max_left _ _) this.1, fun k b h => ?_⟩
    rcases List.mem_cons.1 h with h | h
    · injection h with h1 h2; subst h1; exact Nat.lt_of_lt_of_le (Nat.lt_of_lt_of_le (Nat.lt_succ_self _) (Nat.le_max_right _ _)) this.1
    · exact this.2 k b h
def AState.add (st : AState) (nb : List (Nat × AB)) (E : List Nat) : AState := { st with h := nb ++ del E st.h, n := maxId nb st.n }

theorem look_append_cases {α : Type} {l l' : List (Nat × α)} {i : Nat} {x : α} (h : look (l ++ l') i = some x) : look l i = some x ∨ look l' i = some x := by
  rw [look_append] at h
  cases hl : look l i with
  | none => rw [hl] at h; exact .inr h
  | some y => rw [hl] at h; exact .inl h
theorem getD_put {a : Act} {dst : Option Tmp} {u : Value} (i : Nat) (h : dst ≠ some i) : (a.put dst u).tmps.getD i undef = a.tmps.getD i undef := by
  cases dst with
  | none => rfl
  | some d =>
    simp only [Act.put, Array.getD_eq_getD_getElem?, Array.getElem?_setIfInBounds]
    rw [if_neg (fun e => h (by rw [e]))]
theorem size_put (a : Act) (dst : Option Tmp) (u : Value) : (a.put dst u).tmps.size = a.tmps.size := by cases dst <;> simp [Act.put]
theorem defers_put (a : Act) (dst : Option Tmp) (u : Value) : (a.put dst u).defers = a.defers := by cases dst <;> rfl
theorem getD_put_self {a : Act} {d : Tmp} {u : Value} (h : d < a.tmps.size) : (a.put (some d) u).tmps.getD d undef = u := by
  simp [Act.put, Array.getD_eq_getD_getElem?, h]

theorem look_ne_none {α : Type} {l : List (Nat × α)} {k : Nat} {b : α} (h : (k, b) ∈ l) : look l k ≠ none := by
  induction l with
  | nil => cases h
  | cons z l ih =>
    obtain ⟨j, zz⟩ := z
    rw [look_cons]
    split
    · simp
    · rename_i hj
      rcases List.mem_cons.1 h with h3 | h3
      · injection h3 with e1 e2; exact absurd e1.symm hj
      · exact ih h3
theorem HRel.inT {σ : Nat → Option Adr} {T : Nat → Prop} {w : World} {og : Option Adr} {b : AB} {g : Adr} (h : HRel σ T w og b) (hg : og = some g) : T g.g := by
  subst hg
  cases b with
  | box t cs => obtain ⟨g1, vs, h1, h2, _⟩ := h; injection h1 with h1; subst h1; exact h2
  | arr t K rows =>
    rcases h.2 with ⟨_, h1⟩ | ⟨g1, vs, h1, h2, _⟩
    · cases h1
    · injection h1 with h1; subst h1; exact h2
  | map es cl => obtain ⟨g1, vs, h1, h2, _⟩ := h; injection h1 with h1; subst h1; exact h2

/-- the state behind an operation -/
theorem Core.step {σ : Nat → Option Adr} {T : Nat → Prop} {st : AState} {a : Act} {w : World} (C : Core σ T st a w) {σ' : Nat → Option Adr} {T' : Nat → Prop} {w' : World} {nb : List (Nat × AB)} {E : List Nat} {dst : Option Tmp} {av : AV} {u : Value}
    (hE : ∀ e ∈ E, ∃ b, look st.h e = some b) (hd : ∀ d, dst = some d → d < a.tmps.size) (X : Ext σ T w σ' T' w' nb E) (hv : ARel σ' T' w' av u) :
    Core σ' T' ((st.add nb E).put dst av) (a.put dst u) w' ∧ ∀ k b g, look ((st.add nb E).put dst av).h k = some b → σ' k = some g → ((k, b) ∈ nb) ∨ (look st.h k = some b ∧ k ∉ E ∧ σ k = some g) := by
  have hs : ∀ i v, look st.s i = some v → dst ≠ some i → ARel σ' T' w' v ((a.put dst u).tmps.getD i undef) := fun i v hi hne => by
    rw [getD_put i hne]; exact (C.slots i v hi).grow X.grow
  have hheap : ((st.add nb E).put dst av).h = nb ++ del E st.h := by cases dst <;> rfl
  have hh : ∀ k b, look (nb ++ del E st.h) k = some b → (k, b) ∈ nb ∨ (look st.h k = some b ∧ k ∉ E ∧ σ' k = σ k) := by
    intro k b hk
    rw [look_append] at hk
    cases hl : look nb k with
    | some y => rw [hl] at hk; have hk' : y = b := by simpa using hk
                subst hk'; exact .inl (look_mem hl)
    | none =>
      rw [hl] at hk
      have := look_del (show look (del E st.h) k = some b from hk)
      exact .inr ⟨this.1, this.2, X.dom k fun b' hb' => look_ne_none hb' hl⟩
  have key : ∀ k b g, look (nb ++ del E st.h) k = some b → σ' k = some g → ((k, b) ∈ nb) ∨ (look st.h k = some b ∧ k ∉ E ∧ σ k = some g) := by
    intro k b g hk hg
    rcases hh k b hk with h | ⟨h, hkE, hd'⟩
    · exact .inl h
    · exact .inr ⟨h, hkE, hd' ▸ hg⟩
  have hslot : ∀ i v, look ((st.add nb E).put dst av).s i = some v → ARel σ' T' w' v ((a.put dst u).tmps.getD i undef) := by
    intro i v hi
    cases dst with
    | none => exact hs i v hi (by simp)
    | some d =>
      have hi' : look ((d, av) :: st.s) i = some v := hi
      rw [look_cons] at hi'
      split at hi'
      · rename_i hdi; subst hdi; injection hi' with hi'; subst hi'
        rw [getD_put_self (hd _ rfl)]; exact hv
      · rename_i hdi; exact hs i v hi' (by simpa using hdi)
  refine ⟨⟨hslot, ?_, ?_, X.Tlt⟩, fun k b g hk hg => key k b g (hheap ▸ hk) hg⟩
  · intro k b hk
    rw [hheap] at hk
    rcases hh k b hk with h | ⟨h, hkE, hd'⟩
    · exact X.rel k b h
    · refine (C.heap k b h).grow X.grow ?_ (fun hn => by rw [hd']; exact hn)
      intro g hg
      refine ⟨?_, X.Tge g.g⟩
      rintro ⟨e, he, g', hge, hgg⟩
      obtain ⟨b', hb'⟩ := hE e he
      exact hkE (C.inj k e b b' g g' h hb' hg hge hgg.symm ▸ he)
  · intro k k' b b' g g' hk hk' hg hg' hgg
    rw [hheap] at hk hk'
    have cross : ∀ k b k' b' g g', (k, b) ∈ nb → σ' k = some g → look st.h k' = some b' → k' ∉ E → σ k' = some g' → g.g = g'.g → False := by
      intro k b k' b' g g' hk hg hk' hkE hg' hgg
      rcases X.fresh k b g hk hg with h | ⟨e, he, g2, hge, hg2⟩
      · have := C.Tlt g'.g ((C.heap k' b' hk').inT hg')
        omega
      · obtain ⟨b2, hb2⟩ := hE e he
        exact hkE (C.inj k' e b' b2 g' g2 hk' hb2 hg' hge (hgg.symm.trans hg2.symm) ▸ he)
    rcases key k b g hk hg with h | ⟨h, hkE, hg1⟩
    · rcases key k' b' g' hk' hg' with h' | ⟨h', hkE', hg1'⟩
      · exact X.inj k k' b b' g g' h h' hg hg' hgg
      · exact (cross k b k' b' g g' h hg h' hkE' hg1' hgg).elim
    · rcases key k' b' g' hk' hg' with h' | ⟨h', hkE', hg1'⟩
      · exact (cross k' b' k b g' g h' hg' h hkE hg1 hgg.symm).elim
      · exact C.inj k k' b b' g g' h h' hg1 hg1' hgg
theorem Sim.step {W0 : World} {F : Nat → Prop} {N : NT} {σ : Nat → Option Adr} {T : Nat → Prop} {st : AState} {a : Act} {w : World} (S : Sim W0 F N σ T st a w) {σ' : Nat → Option Adr} {T' : Nat → Prop} {w' : World} {nb : List (Nat × AB)} {E : List Nat} {dst : Option Tmp} {av : AV} {u : Value}
    (hE : ∀ e ∈ E, ∃ b, look st.h e = some b) (hd : ∀ d, dst = some d → d < N.1) (X : Ext σ T w σ' T' w' nb E) (hv : ARel σ' T' w' av u) :
    Sim W0 F N σ' T' ((st.add nb E).put dst av) (a.put dst u) w' := by
  obtain ⟨C', key⟩ := S.core.step hE (fun d h => by rw [S.tsz]; exact hd d h) X hv
  have hn : ((st.add nb E).put dst av).n = maxId nb st.n := by cases dst <;> rfl
  have hm := maxId_le nb st.n
  have own : ∀ b, (∃ e ∈ E, ∃ g, σ e = some g ∧ g.g = b) → W0.heap.size ≤ b ∨ F b := by
    rintro b ⟨e, he, g, hg, rfl⟩
    obtain ⟨b, hb⟩ := hE e he
    exact S.own e b g hb hg
  refine ⟨C', X.os.trans S.os, X.tape.trans S.tape, X.output.trans S.output, Nat.le_trans S.size X.grow.size, ?_, ?_, ?_, ?_, by rw [size_put]; exact S.tsz, by rw [defers_put]; exact S.dfr⟩
  · intro b hb hF
    refine (X.grow.old b (Nat.lt_of_lt_of_le hb S.size) ?_).trans (S.old b hb hF)
    intro h
    rcases own b h with h | h
    · omega
    · exact hF h
  · intro k b g hk hg
    rcases key k b g hk hg with h | ⟨h, _, hg1⟩
    · rcases X.fresh k b g h hg with h1 | h1
      · exact .inl (Nat.le_trans S.size h1)
      · exact own g.g h1
    · exact S.own k b g h hg1
  · intro k hk
    rw [hn] at hk
    rw [X.dom k fun b hb => by have := hm.2 k b hb; omega]
    exact S.next k (by omega)
  · intro k b hk
    rw [hn]
    have hheap : ((st.add nb E).put dst av).h = nb ++ del E st.h := by cases dst <;> rfl
    rw [hheap] at hk
    rcases look_append_cases hk with h | h
    · exact hm.2 k b (look_mem h)
    · exact Nat.lt_of_lt_of_le (S.hn k b (look_del h).1) hm.1

/-! the operations of a region, one behind the other -/
def QX (W0 : World) (F : Nat → Prop) (N : NT) (T0 : Nat → Prop) (pin : List (Nat × Adr)) (Q : Exit → AState → Prop) : Exit → Act → World → Prop := fun e a w => ∃ st, Q e st ∧ Inv W0 F N T0 pin st a w
section
variable {P : Program} {W0 : World} {F : Nat → Prop} {N : NT} {T0 : Nat → Prop} {pin : List (Nat × Adr)} {ops : Array Oper} {Q : Exit → AState → Prop}
def AL (P : Program) (W0 : World) (F : Nat → Prop) (N : NT) (T0 : Nat → Prop) (pin : List (Nat × Adr)) (ops : Array Oper) (Q : Exit → AState → Prop) (l : List Oper) (st : AState) : Prop :=
  ∀ a w, Inv W0 F N T0 pin st a w → wpList P ops (QX W0 F N T0 pin Q) l a w
theorem AL.nil {st : AState} (h : Q .normal st) : AL P W0 F N T0 pin ops Q [] st := fun _ _ hI => ⟨st, h, hI⟩
def Wanted (ops : Array Oper) (o : Oper) (st : AState) : Prop := ∀ σ T a w, Core σ T st a w → Region.wanted o (yielded ops a.tmps) = true
def Unwanted (ops : Array Oper) (o : Oper) (st : AState) : Prop := ∀ σ T a w, Core σ T st a w → Region.wanted o (yielded ops a.tmps) = false
theorem Wanted.plain {o : Oper} {st : AState} (hg : o.guard = none) : Wanted ops o st := fun _ _ _ _ _ => by simp [Region.wanted, hg]
theorem yielded_of {st : AState} {σ : Nat → Option Adr} {T : Nat → Prop} {a : Act} {w : World} (C : Core σ T st a w) {oj : Oper} {j : Nat} {t : Tmp} {b : Bool} (hj : ops[j]? = some oj) (hd : oj.dst = some t) (hs : look st.s t = some (.v (.c (.d (.v (.bool b)))))) : yielded ops a.tmps j = some b := by
  have h : a.tmps.getD t undef = .bool b := DRel.inv (C.slots _ _ hs)
  rw [Array.getD_eq_getD_getElem?] at h
  cases ht : a.tmps[t]? with
  | none => rw [ht] at h; cases h
  | some v => rw [ht] at h; have h : v = .bool b := h; subst h; simp [yielded, hj, hd, ht]
theorem Wanted.yes {o : Oper} {st : AState} {j : Nat} {t : Tmp} {b : Bool} (hg : o.guard = some (j, b)) (hd : (ops[j]?).bind (·.dst) = some t) (hs : look st.s t = some (.v (.c (.d (.v (.bool b)))))) : Wanted ops o st := fun σ T a w C => by
  cases hj : ops[j]? with
  | none => simp [hj] at hd
  | some oj => simp [Region.wanted, hg, yielded_of C hj (by simpa [hj] using hd) hs]
theorem Unwanted.no {o : Oper} {st : AState} {j : Nat} {t : Tmp} {b : Bool} (hg : o.guard = some (j, b)) (hd : (ops[j]?).bind (·.dst) = some t) (hs : look st.s t = some (.v (.c (.d (.v (.bool (!b))))))) : Unwanted ops o st := fun σ T a w C => by
  cases hj : ops[j]? with
  | none => simp [hj] at hd
  | some oj => simp [Region.wanted, hg, yielded_of C hj (by simpa [hj] using hd) hs]
theorem Unwanted.un {o : Oper} {st : AState} {j : Nat} {t : Tmp} {b : Bool} (hg : o.guard = some (j, b)) (hd : (ops[j]?).bind (·.dst) = some t) (hs : look st.s t = some (.t [])) : Unwanted ops o st := fun σ T a w C => by
  cases hj : ops[j]? with
  | none => simp [hj] at hd
  | some oj =>
    obtain ⟨vs, h1, h2⟩ := C.slots _ _ hs
    have hvs : vs = [] := by cases vs with | nil => rfl | cons => exact h2.elim
    subst hvs
    have hdst : oj.dst = some t := by simpa [hj] using hd
    rw [Array.getD_eq_getD_getElem?] at h1
    cases ht : a.tmps[t]? with
    | none => simp [Region.wanted, hg, yielded, hj, hdst, ht]
    | some v => rw [ht] at h1; have h1 : v = .tuple #[] := h1; subst h1; simp [Region.wanted, hg, yielded, hj, hdst, ht]
theorem AL.op {o : Oper} {rest : List Oper} {st : AState} {av : AV} {nb : List (Nat × AB)} {E : List Nat} (hw : Wanted ops o st) (g : GOp P o st av nb E) (hd : ∀ d, o.dst = some d → d < N.1) (hE : ∀ e ∈ E, ∃ b, look st.h e = some b) (hnb : ∀ k b, (k, b) ∈ nb → k ∉ E → st.n ≤ k)
    (h : AL P W0 F N T0 pin ops Q rest ((st.add nb E).put o.dst av)) : AL P W0 F N T0 pin ops Q (o :: rest) st := by
  rintro a w ⟨σ, T, hT, S, hp⟩
  refine wpList_step fun K hK => ?_
  rw [if_pos (hw σ T a w S.core)]
  refine wp_monoQ (operMono (g σ T a w S.core fun k b hk hE => S.next k (hnb k b hk hE)) ?_)
  rintro a' w' ⟨u, σ', T', rfl, X, hv⟩
  exact hK _ _ (h _ _ ⟨σ', T', fun b hb => ⟨fun hb' => (hT b hb).1 (X.grow.Tle b (Nat.lt_of_lt_of_le hb S.size) hb'), fun h0 => X.Tge b ((hT b hb).2 h0)⟩, S.step hE hd X hv, fun k g hk => X.grow.σle _ _ (hp k g hk)⟩)
theorem Ext.same {σ : Nat → Option Adr} {T : Nat → Prop} {w : World} (hT : ∀ b, T b → b < w.heap.size) : Ext σ T w σ T w [] [] :=
  ⟨rfl, rfl, rfl, ⟨Nat.le_refl _, fun _ _ _ => rfl, (fun b h => by obtain ⟨k, hk, _⟩ := h; cases hk), fun _ _ h => h, fun _ _ h => h⟩, fun _ h => h, hT, fun _ _ => rfl, (fun _ _ h => by cases h), (fun _ _ _ h => by cases h), (fun _ _ _ _ _ _ h => by cases h)⟩
theorem AL.skip {o : Oper} {rest : List Oper} {st : AState} (hw : Unwanted ops o st) (hd : ∀ d, o.dst = some d → d < N.1) (h : AL P W0 F N T0 pin ops Q rest (st.put o.dst (.t []))) : AL P W0 F N T0 pin ops Q (o :: rest) st := by
  rintro a w ⟨σ, T, hT, S, hp⟩
  refine wpList_step fun K hK => ?_
  rw [if_neg (by rw [hw σ T a w S.core]; simp)]
  refine hK _ _ (h _ _ ⟨σ, T, hT, ?_, hp⟩)
  have := S.step (nb := []) (E := []) (dst := o.dst) (av := .t []) (u := undef) (fun _ h => by cases h) hd (Ext.same S.core.Tlt) ⟨[], rfl, trivial⟩
  have e : st.add [] [] = st := by
    have : del [] st.h = st.h := List.filter_eq_self.2 fun _ _ => rfl
    simp [AState.add, this, maxId]
  rwa [e] at this
end
end Go.Proofs.Ytgmcdlfmifijlaa.Dev
