/- The symbolic heap: operations that make or write memory; no condition. -/
import Derived.Test.YtgmcdlfmifijlaaDSh4
import Derived.Laws.CopyRow
import Derived.Deep.OwnRows
set_option linter.unusedVariables false
set_option linter.unusedSimpArgs false
namespace Go.Proofs.Ytgmcdlfmifijlaa.Dev
open Go.RowKit

section
variable {P : Program} {st : AState} {o : Oper}
def upd (σ : Nat → Option Adr) (k : Nat) (g : Adr) : Nat → Option Adr := fun j => if j = k then some g else σ j
theorem upd_self (σ : Nat → Option Adr) (k : Nat) (g : Adr) : upd σ k g k = some g := if_pos rfl
theorem upd_ne (σ : Nat → Option Adr) (k : Nat) (g : Adr) {j : Nat} (h : j ≠ k) : upd σ k g j = σ j := if_neg h
def addT (T : Nat → Prop) (g : Nat) : Nat → Prop := fun b => T b ∨ b = g
theorem Grow.alloc {σ : Nat → Option Adr} {T : Nat → Prop} {w : World} {k c : Nat} (hk : σ k = none) (ob : Obj) (C : Nat → Prop) (hC : ∀ b, C b → T b) : Grow σ (upd σ k ⟨w.heap.size, c⟩) T (addT T w.heap.size) w (w.alloc ob) C :=
  ⟨by rw [World.size_alloc]; omega, fun b hb _ => Below.heap_alloc w ob b hb, hC, fun b hb h => h.resolve_right (by omega), fun j g hj => by
    rw [upd_ne _ _ _ (fun e => by subst e; rw [hk] at hj; cases hj)]; exact hj⟩
theorem Ext.alloc {σ : Nat → Option Adr} {T : Nat → Prop} {w : World} (hT : ∀ b, T b → b < w.heap.size) {k c : Nat} {b : AB} (ob : Obj) (hk : σ k = none)
    (hr : HRel (upd σ k ⟨w.heap.size, c⟩) (addT T w.heap.size) (w.alloc ob) (some ⟨w.heap.size, c⟩) b) : Ext σ T w (upd σ k ⟨w.heap.size, c⟩) (addT T w.heap.size) (w.alloc ob) [(k, b)] [] :=
  ⟨rfl, rfl, rfl, Grow.alloc hk ob _ (fun b h => by obtain ⟨k, hk, _⟩ := h; cases hk), fun _ h => .inl h,
    fun b h => by rw [World.size_alloc]; rcases h with h | h; (have := hT b h; omega); omega,
    fun j hj => upd_ne _ _ _ (fun e => hj b (by rw [e]; exact List.mem_singleton.2 rfl)),
    fun j b' h => by obtain ⟨rfl, rfl⟩ := Prod.mk.inj (List.mem_singleton.1 h); rw [upd_self]; exact hr,
    fun j b' g h hg => by obtain ⟨rfl, rfl⟩ := Prod.mk.inj (List.mem_singleton.1 h); rw [upd_self] at hg; injection hg with hg; subst hg; exact .inl (Nat.le_refl _),
    fun j j' b1 b2 g g' h h' _ _ _ => by obtain ⟨rfl, _⟩ := Prod.mk.inj (List.mem_singleton.1 h); obtain ⟨rfl, _⟩ := Prod.mk.inj (List.mem_singleton.1 h'); rfl⟩
/-- an operation that makes one block -/
theorem GOp.new {k : Nat} {b : AB} {av : AV} 
    (h : ∀ σ T a w, Core σ T st a w → σ k = none → ∃ u ob c, (execOp a.eval o).run P w = .ok (.value u) (w.alloc ob) ∧ HRel (upd σ k ⟨w.heap.size, c⟩) (addT T w.heap.size) (w.alloc ob) (some ⟨w.heap.size, c⟩) b ∧ ARel (upd σ k ⟨w.heap.size, c⟩) (addT T w.heap.size) (w.alloc ob) av u) :
    GOp P o st av [(k, b)] [] :=
  fun σ T a w C hk => by
    have hk := hk k b (List.mem_singleton.2 rfl) (by simp)
    obtain ⟨u, ob, c, hu, hr, hv⟩ := h σ T a w C hk
    exact wp_value hu ⟨u, _, _, rfl, Ext.alloc C.Tlt ob hk hr, hv⟩
theorem HRel.newBox {σ : Nat → Option Adr} {T : Nat → Prop} {w : World} {t : TypeId} {cs : List CV} {vs : List Value} {c : Nat} (h : All2 (CRel σ T w) cs vs) {σ' : Nat → Option Adr} (G : Grow σ σ' T (addT T w.heap.size) w (w.alloc (.cells vs.toArray t)) fun _ => False) : HRel σ' (addT T w.heap.size) (w.alloc (.cells vs.toArray t)) (some ⟨w.heap.size, c⟩) (.box t cs) :=
  ⟨⟨w.heap.size, c⟩, vs, rfl, .inr rfl, heap_alloc_new w _, h.mono fun _ _ h => h.grow G⟩
def CV.one : CV → Bool
  | .any => false
  | .d (.v x) => x.oneCell'
  | _ => true
theorem crel_one {σ : Nat → Option Adr} {T : Nat → Prop} {w : World} {c : CV} {v : Value} (h : CRel σ T w c v) (h1 : c.one = true) : v.oneCell' = true := by
  cases c with
  | any => cases h1
  | d x => cases h with
    | v x hx => exact hx
    | nil => rfl
    | r => rfl
    | f => rfl
  | p k i K o => obtain ⟨g, _, rfl⟩ := h; rfl
  | q row o => obtain ⟨b, off, rfl, _⟩ := h; rfl
  | s k i K n => rcases h with ⟨_, rfl⟩ | ⟨g, _, rfl, _⟩ <;> rfl
  | sx k i K n c e => obtain ⟨g, off, _, rfl, _⟩ := h; rfl
  | m k => obtain ⟨g, _, rfl⟩ := h; rfl
  | fn f caps => obtain ⟨gs, _, rfl⟩ := h; rfl
theorem crel_notany {σ : Nat → Option Adr} {T : Nat → Prop} {w : World} {c : CV} {v : Value} (h : CRel σ T w c v) (h1 : (match c with | .any => false | _ => true) = true) : v.oneCell' = true := by
  cases c with
  | any => cases h1
  | d x => cases h with
    | v x hx => exact hx
    | nil => rfl
    | r => rfl
    | f => rfl
  | p k i K o => obtain ⟨g, _, rfl⟩ := h; rfl
  | q row o => obtain ⟨b, off, rfl, _⟩ := h; rfl
  | s k i K n => rcases h with ⟨_, rfl⟩ | ⟨g, _, rfl, _⟩ <;> rfl
  | sx k i K n c e => obtain ⟨g, off, _, rfl, _⟩ := h; rfl
  | m k => obtain ⟨g, _, rfl⟩ := h; rfl
  | fn f caps => obtain ⟨gs, _, rfl⟩ := h; rfl
def CV.known : CV → Bool
  | .any => false
  | _ => true
theorem crel_known {σ : Nat → Option Adr} {T : Nat → Prop} {w : World} {c : CV} {v : Value} (h : CRel σ T w c v) (h1 : c.known = true) : v.oneCell' = true := crel_notany h (by cases c <;> first | rfl | exact h1)
theorem cells_one {v : Value} (h : v.oneCell' = true) : v.cells = #[v] := by cases v <;> first | rfl | cases h
theorem g_box1 {t : TypeId} {x : Operand} {c : CV} (k : Nat) (ho : o.op = .box t x) (hx : ev st x (.v (.c c))) (hc : c.known = true) : GOp P o st (.v (.c (.p k 0 0 0))) [(k, .box t [c])] [] :=
  GOp.new fun σ T ac w C hk => by
    have h1 : CRel σ T w c _ := ev_rel C hx
    have hv := cells_one (crel_known h1 hc)
    refine ⟨.pointer (some ⟨w.heap.size, 0, none⟩), .cells #[ac.eval x] t, 0, ?_, HRel.newBox (cs := [c]) (vs := [ac.eval x]) ⟨h1, trivial⟩ (Grow.alloc hk _ _ fun _ h => h.elim), ⟨_, upd_self _ _ _, rfl⟩⟩
    unfold execOp
    simp [ho, Instr.box, newVar, newRow, hv]
theorem g_boxS {t : TypeId} {x : Operand} {cs : List CV} (k : Nat) (ho : o.op = .box t x) (hx : ev st x (.v (.g cs))) : GOp P o st (.v (.c (.p k 0 0 0))) [(k, .box t cs)] [] :=
  GOp.new fun σ T ac w C hk => by
    obtain ⟨vs, h1, h2⟩ := ev_rel C hx
    refine ⟨.pointer (some ⟨w.heap.size, 0, none⟩), .cells vs.toArray t, 0, ?_, HRel.newBox (vs := vs) h2 (Grow.alloc hk _ _ fun _ h => h.elim), ⟨_, upd_self _ _ _, rfl⟩⟩
    unfold execOp
    simp [ho, h1, Instr.box, newVar, newRow, Value.cells]
theorem all2_dv {σ : Nat → Option Adr} {T : Nat → Prop} {w : World} : ∀ l : List Value, l.all (·.oneCell') = true → All2 (CRel σ T w) (l.map fun x => .d (.v x)) l
  | [], _ => trivial
  | x :: l, h => by simp only [List.all_cons, Bool.and_eq_true] at h; exact ⟨DRel.v x h.1, all2_dv l h.2⟩
theorem g_alloc {t : TypeId} {z : Value} {zs : List Value} {cs : List CV} (k : Nat) (ho : o.op = .alloc t) (hz : (P.info? t).bind (·.zero) = some z) (hzs : z.cells.toList = zs) (h1 : zs.all (·.oneCell') = true) (hcs : (zs.map fun x => CV.d (.v x)) = cs) :
    GOp P o st (.v (.c (.p k 0 0 0))) [(k, .box t cs)] [] :=
  GOp.new fun σ T ac w C hk => by
    subst hcs
    cases hq : P.info? t with
    | none => simp [hq] at hz
    | some i =>
      have hzz : i.zero = some z := by simpa [hq] using hz
      have hza : z.cells = zs.toArray := by rw [← hzs]
      refine ⟨.pointer (some ⟨w.heap.size, 0, none⟩), .cells zs.toArray t, 0, ?_, HRel.newBox (vs := zs) (all2_dv zs h1) (Grow.alloc hk _ _ fun _ h => h.elim), ⟨_, upd_self _ _ _, rfl⟩⟩
      unfold execOp
      simp [ho, Instr.alloc, newVar, newRow, zeroValue, typeInfo, hq, hzz, hza]

/-! struct values -/
def fillC (place : Nat → Option (Nat × Nat)) (cells : List CV) : List (Nat × List CV) → Option (List CV)
  | [] => some cells
  | (i, xs) :: rest =>
    match place i with
    | none => none
    | some (off, size) => if xs.length = size ∧ off + xs.length ≤ cells.length then fillC place (cells.take off ++ xs ++ cells.drop (off + xs.length)) rest else none
def cellsG : GV → List CV
  | .c x => [x]
  | .g xs => xs
theorem foldl_set_zip (cs : Array Value) (off : Nat) : ∀ (l : List Value) (k : Nat) (cs : Array Value), off + k + l.length ≤ cs.size →
    (l.zipIdx k).foldl (fun cs (x : Value × Nat) => cs.setIfInBounds (off + x.2) x.1) cs = (cs.toList.take (off + k) ++ l ++ cs.toList.drop (off + k + l.length)).toArray
  | [], k, cs, h => by simp
  | x :: l, k, cs, h => by
    rw [List.zipIdx_cons, List.foldl_cons, foldl_set_zip cs off l (k + 1) _ (by simp at h ⊢; omega)]
    apply Array.toList_inj.1
    simp only [Array.toList_setIfInBounds]
    apply List.ext_getElem?
    intro n
    simp only [List.length_cons] at h
    have hs : off + k < cs.toList.length := by simp; omega
    rcases Nat.lt_trichotomy n (off + k) with hn | hn | hn
    · rw [List.getElem?_append_left (by simp; omega), List.getElem?_append_left (by simp; omega), List.getElem?_append_left (by simp; omega), List.getElem?_append_left (by simp; omega)]
      simp [hn, show n < off + (k + 1) by omega, show ¬ off + k = n by omega]
    · subst hn
      rw [List.getElem?_append_left (by simp; omega), List.getElem?_append_left (by simp; omega), List.getElem?_append_left (by simp; omega), List.getElem?_append_right (by simp; omega)]
      simp [List.getElem?_set]
      rw [if_pos (by simpa using hs), show off + k - min (off + k) cs.size = 0 by simp at hs; omega]
      rfl
    · by_cases hl : n < off + k + 1 + l.length
      · rw [List.getElem?_append_left (by simp; omega), List.getElem?_append_right (by simp; omega), List.getElem?_append_left (by simp; omega), List.getElem?_append_right (by simp; omega)]
        simp
        rw [show n - min (off + (k + 1)) cs.size = n - (off + k) - 1 by simp at hs; omega, show n - min (off + k) cs.size = (n - (off + k) - 1) + 1 by simp at hs; omega, List.getElem?_cons_succ]
      · rw [List.getElem?_append_right (by simp; omega), List.getElem?_append_right (by simp; omega)]
        simp
        rw [show off + (k + 1) + l.length + (n - (min (off + (k + 1)) cs.size + l.length)) = n by simp at hs; omega, show off + k + (l.length + 1) + (n - (min (off + k) cs.size + (l.length + 1))) = n by simp at hs; omega]
        rw [List.getElem?_set_ne (by omega)]
        simp
def PRel (σ : Nat → Option Adr) (T : Nat → Prop) (w : World) (p : Nat × List CV) (q : Nat × Value) : Prop := p.1 = q.1 ∧ ∃ ws : List Value, q.2.cells = ws.toArray ∧ All2 (CRel σ T w) p.2 ws
theorem fill_rel {σ : Nat → Option Adr} {T : Nat → Prop} {w : World} (place : Nat → Option (Nat × Nat)) : ∀ (ps : List (Nat × List CV)) (qs : List (Nat × Value)) (cs : List CV) (vs : List Value) (cs' : List CV), All2 (PRel σ T w) ps qs → All2 (CRel σ T w) cs vs → fillC place cs ps = some cs' →
    ∃ vs', Instr.fill place vs.toArray qs = some vs'.toArray ∧ All2 (CRel σ T w) cs' vs'
  | [], [], cs, vs, cs', _, h, he => by
    simp only [fillC, Option.some.injEq] at he
    subst he
    exact ⟨vs, rfl, h⟩
  | (i, xs) :: ps, (i', v) :: qs, cs, vs, cs', hp, h, he => by
    obtain ⟨⟨hi, ws, hws, hr⟩, hp⟩ := hp
    have hi : i = i' := hi
    have hws : v.cells = ws.toArray := hws
    have hr : All2 _ xs ws := hr
    subst hi
    simp only [fillC] at he
    simp only [Instr.fill]
    cases hpl : place i with
    | none => rw [hpl] at he; cases he
    | some os =>
      obtain ⟨off, size⟩ := os
      simp only [hpl] at he ⊢
      split at he
      · rename_i hc
        have hl1 := hr.length
        have hl2 := h.length
        rw [if_neg (by simp [hws]; omega), hws]
        have hz : (ws.toArray.zipIdx.foldl (fun cs (x : Value × Nat) => cs.setIfInBounds (off + x.2) x.1) vs.toArray) = (vs.take off ++ ws ++ vs.drop (off + ws.length)).toArray := by
          have := foldl_set_zip vs.toArray off ws 0 vs.toArray (by simp; omega)
          rw [← Array.foldl_toList, Array.toList_zipIdx]
          simpa using this
        rw [hz]
        refine fill_rel place ps qs _ _ cs' hp ?_ he
        rw [← hl1]
        exact ((h.take off).append hr).append (h.drop _)
      · cases he
  | [], _ :: _, _, _, _, h, _, _ => h.elim
  | _ :: _, [], _, _, _, h, _, _ => h.elim
def Program.fieldsOf (P : Program) (t : TypeId) : Option (Array Field) := match P.underlying t with | some (.struct fs) => some fs | _ => none
/-- What a struct type's zero is, and where its fields lie. -/
structure Bld (P : Program) (t : TypeId) (zs : List Value) (places : List (Nat × Nat)) : Prop where
  z : ((P.info? t).bind (·.zero)).map (fun v => v.cells.toList) = some zs
  p : ((Program.fieldsOf P t).bind fun fs => fs.toList.mapM fun f => (P.info? f.type).map fun i => (f.offset, i.size)) = some places
def GV.known : GV → Bool
  | .c x => x.known
  | .g _ => true
theorem grel_cells {σ : Nat → Option Adr} {T : Nat → Prop} {w : World} {g : GV} {v : Value} (h : GRel σ T w g v) (hk : g.known = true) : ∃ ws : List Value, v.cells = ws.toArray ∧ All2 (CRel σ T w) (cellsG g) ws := by
  cases g with
  | c x => exact ⟨[v], cells_one (crel_known h hk), h, trivial⟩
  | g xs => obtain ⟨vs, rfl, h2⟩ := h; exact ⟨vs, rfl, h2⟩
def EvP (st : AState) : List (Nat × Operand) → List (Nat × GV) → Prop
  | [], [] => True
  | x :: xs, y :: ys => (x.1 = y.1 ∧ ev st x.2 (.v y.2)) ∧ EvP st xs ys
  | _, _ => False
theorem evp_rel {σ : Nat → Option Adr} {T : Nat → Prop} {a : Act} {w : World} (C : Core σ T st a w) : ∀ {xs : List (Nat × Operand)} {ys : List (Nat × GV)}, EvP st xs ys → ys.all (fun y => y.2.known) = true →
    All2 (PRel σ T w) (ys.map fun y => (y.1, cellsG y.2)) (xs.map fun x => (x.1, a.eval x.2))
  | [], [], _, _ => trivial
  | x :: xs, y :: ys, h, hk => by
    simp only [List.all_cons, Bool.and_eq_true] at hk
    exact ⟨⟨h.1.1.symm, grel_cells (ev_rel C h.1.2) hk.1⟩, evp_rel C h.2 hk.2⟩
  | [], _ :: _, h, _ => h.elim
  | _ :: _, [], h, _ => h.elim
theorem g_build {t : TypeId} {parts : Array (Nat × Operand)} {ys : List (Nat × GV)} {zs : List Value} {places : List (Nat × Nat)} {cs : List CV} (ho : o.op = .build t parts) (hB : Bld P t zs places) (h1 : zs.all (·.oneCell') = true)
    (hy : EvP st parts.toList ys) (hk : ys.all (fun y => y.2.known) = true) (hf : fillC (fun i => places[i]?) (zs.map fun x => CV.d (.v x)) (ys.map fun y => (y.1, cellsG y.2)) = some cs) : GOp P o st (.v (.g cs)) [] [] :=
  GOp.val fun σ T ac w C => by
    obtain ⟨vs', h2, h3⟩ := fill_rel _ _ _ _ zs _ (evp_rel C hy hk) (all2_dv (σ := σ) (T := T) (w := w) zs h1) hf
    refine ⟨.agg vs'.toArray, ?_, vs', rfl, h3⟩
    have hb : P.built t ((parts.map fun (x : Nat × Operand) => (x.1, ac.eval x.2)).toList) = some vs'.toArray := by
      unfold Program.built
      have hz := hB.z
      have hp := hB.p
      unfold Program.fieldsOf at hp
      cases hi : P.info? t with
      | none => simp [hi] at hz
      | some it =>
        cases hzz : it.zero with
        | none => simp [hi, hzz] at hz
        | some z =>
          simp only [hi, hzz, Option.bind_some, Option.map_some, Option.some.injEq] at hz
          cases hu : P.underlying t with
          | none => rw [hu] at hp; simp at hp
          | some d =>
            cases d <;> try (rw [hu] at hp; simp at hp; done)
            rename_i fs
            rw [hu] at hp
            simp only [Option.bind_some] at hp
            simp only [hzz, hp]
            have : z.cells = zs.toArray := by rw [← hz]
            rw [this]
            simpa using h2
    unfold execOp
    simp only [ho, Sem.run_bind, run_build w t _ _ hb, Result.andThen_ok]
    rfl
end
end Go.Proofs.Ytgmcdlfmifijlaa.Dev
