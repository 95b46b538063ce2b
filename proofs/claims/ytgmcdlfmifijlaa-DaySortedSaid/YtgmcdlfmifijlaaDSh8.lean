/- The symbolic heap: calls of functions with a contract; slices that are made, and slices of slices; no condition. -/
import Derived.Test.YtgmcdlfmifijlaaDSh7
set_option linter.unusedVariables false
set_option linter.unusedSimpArgs false
namespace Go.Proofs.Ytgmcdlfmifijlaa.Dev
open Go.RowKit

section
variable {P : Program} {st : AState} {o : Oper}
theorem DRel.anti {T T' : Nat → Prop} {w : World} (h : ∀ b, T' b → T b) {d : D} {v : Value} (hd : DRel T w d v) : DRel T' w d v := by
  induction hd with
  | v x hx => exact .v x hx
  | nil K A c => exact .nil K A c
  | r K rows b off c cs hb hT hc hm hK hcell hd ih => exact .r K rows b off c cs hb (fun hh => hT (h b hh)) hc hm hK hcell fun i row j d h1 h2 => ih i row j d h1 h2
  | f fn caps bs offs cs hb hcell hd ih => exact .f fn caps bs offs cs (fun i hi => ⟨(hb i hi).1, fun hh => (hb i hi).2 (h _ hh)⟩) hcell fun i row j d h1 h2 => ih i row j d h1 h2
/-- An argument: what the call's own arrays hold is read by the callee. -/
inductive ArgC (st : AState) (E : List Nat) : CV → CV → Prop
  | d (x : D) : ArgC st E (.d x) (.d x)
  | s {k n t K : Nat} {rows : List (List D)} (h : look st.h k = some (.arr t K rows)) (hk : k ∈ E) (hn : rows.length = n) : ArgC st E (.s k 0 K n) (.d (.r K rows))
  | sub {k i n t K : Nat} {rows ys : List (List D)} (h : look st.h k = some (.arr t K rows)) (hk : k ∈ E) (hi : i + n ≤ rows.length) (he : (rows.drop i).take n = ys) : ArgC st E (.s k i K n) (.d (.r K ys))
  | nil (K : Nat) : ArgC st E (.d (.v (.slice none 0 0))) (.d (.r K []))
  | fn {f : FuncId} {caps : List Nat} {rows : List (List D)} (h : All2 (fun k row => k ∈ E ∧ ∃ t, look st.h k = some (.box t (row.map .d))) caps rows) : ArgC st E (.fn f caps) (.d (.f f rows))
inductive ArgG (st : AState) (E : List Nat) : GV → GV → Prop
  | c {x y : CV} (h : ArgC st E x y) : ArgG st E (.c x) (.c y)
  | g {xs ys : List CV} (h : All2 (ArgC st E) xs ys) : ArgG st E (.g xs) (.g ys)
def EvA (st : AState) (E : List Nat) : List Operand → List GV → Prop
  | [], [] => True
  | x :: xs, y :: ys => (∃ g, ev st x (.v g) ∧ ArgG st E g y) ∧ EvA st E xs ys
  | _, _ => False
def lessT (σ : Nat → Option Adr) (T : Nat → Prop) (E : List Nat) : Nat → Prop := fun b => T b ∧ ∀ k ∈ E, ∀ g, σ k = some g → g.g ≠ b
theorem drel_of_flat {T : Nat → Prop} {w : World} {K : Nat} {rows : List (List D)} {b off c : Nat} {vs : List Value} (hb : b < w.heap.size) (hT : ¬ T b) (hc : rows.length ≤ c) (hm : c ≤ 9223372036854775807) {T0 : Nat → Prop} (h0 : ∀ b, T b → T0 b) (hf : Flat T0 w K rows ⟨b, off, none⟩ vs) : DRel T w (.r K rows) (.slice (some ⟨b, off, none⟩) rows.length c) := by
  refine .r K rows b off c (fun i j => (vs[i * K + j]?).getD undef) hb hT hc hm (fun i row h => (hf.rows_.2 i row h).1) (fun i row j d h1 h2 => ?_) fun i row j d h1 h2 => ?_
  · obtain ⟨u, hu, _⟩ := (hf.rows_.2 i row h1).2 j d h2
    rw [hu]
    have := hf.cell _ _ hu
    rwa [Addr.add_lit] at this
  · obtain ⟨u, hu, hr⟩ := (hf.rows_.2 i row h1).2 j d h2
    rw [hu]
    exact hr.anti h0
theorem ArgC.rel {σ : Nat → Option Adr} {T : Nat → Prop} {a : Act} {w : World} (C : Core σ T st a w) {E : List Nat} {x y : CV} (h : ArgC st E x y) {v : Value} (hv : CRel σ T w x v) : CRel (fun _ => none) (lessT σ T E) w y v := by
  have hl : ∀ b, lessT σ T E b → T b := fun b h => h.1
  cases h with
  | d x => exact DRel.anti hl hv
  | @s k n t K rows h hk hn =>
    subst hn
    rcases hv with ⟨h0, hv⟩ | ⟨g, h1, h2, h3, h4⟩
    · have h0 := List.eq_nil_of_length_eq_zero h0
      subst h0; subst hv
      exact .nil _ _ _
    · have hh := C.heap _ _ h
      rw [h1] at hh
      obtain ⟨vs, hf⟩ := sub_flat (i := 0) (n := rows.length) hh (by omega)
      rw [List.drop_zero, List.take_of_length_le (Nat.le_refl _)] at hf
      rw [h2]
      exact drel_of_flat (C.Tlt _ (hh.inT rfl)) (fun h => h.2 k hk g h1 rfl) (by omega) (by omega) hl hf
  | @sub k i n t K rows ys h hk hi he =>
    subst he
    have hl' : ((rows.drop i).take n).length = n := by simp; omega
    rcases hv with ⟨h0, hv⟩ | ⟨g, h1, h2, h3, h4⟩
    · subst h0; subst hv
      rw [List.take_zero]
      exact .nil _ _ _
    · have hh := C.heap _ _ h
      rw [h1] at hh
      obtain ⟨vs, hf⟩ := sub_flat hh hi
      have h2' : v = .slice (some ⟨g.g, i * K, none⟩) ((rows.drop i).take n).length (g.c - i) := by rw [hl']; exact h2
      rw [h2']
      exact drel_of_flat (C.Tlt _ (hh.inT rfl)) (fun h => h.2 k hk g h1 rfl) (by rw [hl']; omega) (by omega) hl hf
  | nil K => have := DRel.inv hv; subst this; exact .nil _ _ _
  | @fn f caps rows h =>
    obtain ⟨gs, h1, h2⟩ := hv
    have hlen := h.length
    have hgl : caps.length = gs.length := by have := congrArg List.length h1; simpa using this
    have key : ∀ (i : Nat) (row : List D), rows[i]? = some row → ∃ g, gs[i]? = some g ∧ ∃ k t, caps[i]? = some k ∧ k ∈ E ∧ σ k = some g ∧ look st.h k = some (.box t (row.map .d)) := by
      intro i row hr
      have hi := (List.getElem?_eq_some_iff.1 hr).1
      have hci : caps[i]? = some caps[i] := List.getElem?_eq_getElem (by omega)
      obtain ⟨row', hr', hkE, t, hb⟩ := h.get hci
      rw [hr] at hr'; injection hr' with hr'; subst hr'
      have hgi : gs[i]? = some gs[i] := List.getElem?_eq_getElem (by omega)
      refine ⟨gs[i], hgi, caps[i], t, hci, hkE, ?_, hb⟩
      have := congrArg (fun l => l[i]?) h1
      simpa [hci, hgi] using this
    have cellOf : ∀ (i : Nat) (row : List D) (j : Nat) (d : D), rows[i]? = some row → row[j]? = some d → ∃ u, w.cell? ⟨((gs[i]?).getD ⟨0, 0⟩).g, 0 + j, none⟩ = some u ∧ DRel T w d u := by
      intro i row j d hr hd
      obtain ⟨g, hg, k, t, _, _, hs, hb⟩ := key i row hr
      have hh := C.heap k _ hb
      rw [hs] at hh
      obtain ⟨g', vs, e1, _, e3, e4⟩ := hh
      injection e1 with e1; subst e1
      obtain ⟨u, hu, hrel⟩ := e4.get (i := j) (x := .d d) (by rw [List.getElem?_map, hd]; rfl)
      refine ⟨u, ?_, hrel⟩
      rw [hg, Nat.zero_add]
      show w.cell? ⟨g.g, j, none⟩ = _
      rw [cell_of_row w g.g j vs.toArray t (0, 0) e3]
      simpa using hu
    have hv2 : v = .func (.func f) #[] ((List.range rows.length).map fun i => Value.pointer (some ⟨((gs[i]?).getD ⟨0, 0⟩).g, 0, none⟩)).toArray := by
      rw [h2]
      congr 2
      apply List.ext_getElem?
      intro i
      rw [List.getElem?_map, List.getElem?_map]
      by_cases hi : i < gs.length
      · rw [List.getElem?_eq_getElem hi, List.getElem?_range (by omega)]
        simp [hi]
      · rw [List.getElem?_eq_none (by omega), List.getElem?_eq_none (by simp; omega)]
        rfl
    rw [hv2]
    refine DRel.f f rows (fun i => ((gs[i]?).getD ⟨0, 0⟩).g) (fun _ => 0) (fun i j => (w.cell? ⟨((gs[i]?).getD ⟨0, 0⟩).g, 0 + j, none⟩).getD undef) (fun i hi => ?_) (fun i row j d hr hd => ?_) fun i row j d hr hd => ?_
    · obtain ⟨g, hg, k, t, _, hkE, hs, hb⟩ := key i rows[i] (List.getElem?_eq_getElem hi)
      have hh := C.heap k _ hb
      rw [hg]
      exact ⟨C.Tlt _ (hh.inT hs), fun h => h.2 k hkE g hs rfl⟩
    · obtain ⟨u, hu, _⟩ := cellOf i row j d hr hd
      rw [hu]; rfl
    · obtain ⟨u, hu, hrel⟩ := cellOf i row j d hr hd
      rw [hu]
      exact hrel.anti hl
theorem argC_all {σ : Nat → Option Adr} {T : Nat → Prop} {a : Act} {w : World} (C : Core σ T st a w) {E : List Nat} : ∀ {xs ys : List CV} {vs : List Value}, All2 (ArgC st E) xs ys → All2 (CRel σ T w) xs vs → All2 (CRel (fun _ => none) (lessT σ T E) w) ys vs
  | [], [], [], _, _ => trivial
  | _ :: _, _ :: _, _ :: _, h, h' => ⟨h.1.rel C h'.1, argC_all C h.2 h'.2⟩
  | [], _ :: _, _, h, _ => h.elim
  | _ :: _, [], _, h, _ => h.elim
  | [], [], _ :: _, _, h => h.elim
  | _ :: _, _ :: _, [], _, h => h.elim
theorem ArgG.rel {σ : Nat → Option Adr} {T : Nat → Prop} {a : Act} {w : World} (C : Core σ T st a w) {E : List Nat} {x y : GV} (h : ArgG st E x y) {v : Value} (hv : GRel σ T w x v) : GRel (fun _ => none) (lessT σ T E) w y v := by
  cases h with
  | c h => exact h.rel C hv
  | g h => obtain ⟨vs, rfl, hr⟩ := hv; exact ⟨vs, rfl, argC_all C h hr⟩
theorem evA_rel {σ : Nat → Option Adr} {T : Nat → Prop} {a : Act} {w : World} (C : Core σ T st a w) {E : List Nat} : ∀ {xs : List Operand} {ys : List GV}, EvA st E xs ys → All2 (GRel (fun _ => none) (lessT σ T E) w) ys (xs.map a.eval)
  | [], [], _ => trivial
  | _ :: _, _ :: _, h => ⟨by obtain ⟨g, h1, h2⟩ := h.1; exact h2.rel C (ev_rel C h1), evA_rel C h.2⟩
  | [], _ :: _, h => h.elim
  | _ :: _, [], h => h.elim

/-! what comes back -/
def D.isV : D → Bool
  | .v _ => true
  | _ => false
def CV.good (p : D → Prop) : CV → Prop
  | .d x => p x
  | .q _ _ => False
  | _ => True
def GV.good (p : D → Prop) : GV → Prop
  | .c x => x.good p
  | .g xs => AllL (CV.good p) xs
def AV.good (p : D → Prop) : AV → Prop
  | .v x => x.good p
  | .t xs => AllL (GV.good p) xs
def AB.good (p : D → Prop) : AB → Prop
  | .box _ cs => AllL (CV.good p) cs
  | .arr _ _ rows => ∀ row ∈ rows, ∀ d ∈ row, p d
  | .map _ _ => True
section
variable {σ σ' : Nat → Option Adr} {T T' : Nat → Prop} {w : World} {p : D → Prop} {q : Nat → Bool} {ρ : Nat → Nat}
theorem CRel.back (hD : ∀ d v, p d → DRel T w d v → DRel T' w d v) (hσ : ∀ k, q k = true → σ' (ρ k) = σ k) {x : CV} {v : Value} (h : CRel σ T w x v) (hp : x.good p) (hq : x.ok q = true) : CRel σ' T' w (x.map ρ) v := by
  cases x with
  | any => trivial
  | d x => exact hD x v hp h
  | p k i K o => obtain ⟨g, h1, h2⟩ := h; exact ⟨g, (hσ k hq).trans h1, h2⟩
  | q row o => exact hp.elim
  | s k i K n =>
    rcases h with h | ⟨g, h1, h2⟩
    · exact .inl h
    · exact .inr ⟨g, (hσ k hq).trans h1, h2⟩
  | sx k i K n c e => obtain ⟨g, off, h1, h2⟩ := h; exact ⟨g, off, (hσ k hq).trans h1, h2⟩
  | m k => obtain ⟨g, h1, h2⟩ := h; exact ⟨g, (hσ k hq).trans h1, h2⟩
  | fn f caps =>
    obtain ⟨gs, h1, h2⟩ := h
    refine ⟨gs, ?_, h2⟩
    rw [← h1, List.map_map]
    refine List.map_congr_left fun k hk => hσ k ?_
    have : caps.all q = true := hq
    rw [List.all_eq_true] at this
    exact this k hk
theorem all2_back (hD : ∀ d v, p d → DRel T w d v → DRel T' w d v) (hσ : ∀ k, q k = true → σ' (ρ k) = σ k) : ∀ {xs : List CV} {vs : List Value}, All2 (CRel σ T w) xs vs → AllL (CV.good p) xs → xs.all (CV.ok q) = true → All2 (CRel σ' T' w) (xs.map (CV.map ρ)) vs
  | [], [], _, _, _ => trivial
  | _ :: _, _ :: _, h, hp, hq => by
    simp only [List.all_cons, Bool.and_eq_true] at hq
    exact ⟨h.1.back hD hσ hp.1 hq.1, all2_back hD hσ h.2 hp.2 hq.2⟩
  | [], _ :: _, h, _, _ => h.elim
  | _ :: _, [], h, _, _ => h.elim
theorem GRel.back (hD : ∀ d v, p d → DRel T w d v → DRel T' w d v) (hσ : ∀ k, q k = true → σ' (ρ k) = σ k) {x : GV} {v : Value} (h : GRel σ T w x v) (hp : x.good p) (hq : x.ok q = true) : GRel σ' T' w (x.map ρ) v := by
  cases x with
  | c x => exact CRel.back hD hσ (x := x) h hp hq
  | g xs => obtain ⟨vs, h1, h2⟩ := h; exact ⟨vs, h1, all2_back hD hσ h2 hp hq⟩
theorem all2_backG (hD : ∀ d v, p d → DRel T w d v → DRel T' w d v) (hσ : ∀ k, q k = true → σ' (ρ k) = σ k) : ∀ {xs : List GV} {vs : List Value}, All2 (GRel σ T w) xs vs → AllL (GV.good p) xs → xs.all (GV.ok q) = true → All2 (GRel σ' T' w) (xs.map (GV.map ρ)) vs
  | [], [], _, _, _ => trivial
  | _ :: _, _ :: _, h, hp, hq => by
    simp only [List.all_cons, Bool.and_eq_true] at hq
    exact ⟨h.1.back hD hσ hp.1 hq.1, all2_backG hD hσ h.2 hp.2 hq.2⟩
  | [], _ :: _, h, _, _ => h.elim
  | _ :: _, [], h, _, _ => h.elim
theorem ARel.back (hD : ∀ d v, p d → DRel T w d v → DRel T' w d v) (hσ : ∀ k, q k = true → σ' (ρ k) = σ k) {x : AV} {v : Value} (h : ARel σ T w x v) (hp : x.good p) (hq : x.ok q = true) : ARel σ' T' w (x.map ρ) v := by
  cases x with
  | v x => exact GRel.back hD hσ (x := x) h hp hq
  | t xs => obtain ⟨vs, h1, h2⟩ := h; exact ⟨vs, h1, all2_backG hD hσ h2 hp hq⟩
theorem HRel.back (hD : ∀ d v, p d → DRel T w d v → DRel T' w d v) (hσ : ∀ k, q k = true → σ' (ρ k) = σ k) (hT : ∀ b, T b → T' b) {og : Option Adr} {b : AB} (h : HRel σ T w og b) (hp : b.good p) (hq : b.ok q = true) : HRel σ' T' w og (b.map' ρ) := by
  cases b with
  | box t cs => obtain ⟨g, vs, h1, h2, h3, h4⟩ := h; exact ⟨g, vs, h1, hT _ h2, h3, all2_back hD hσ h4 hp hq⟩
  | arr t K rows =>
    refine ⟨h.1, ?_⟩
    rcases h.2 with h | ⟨g, vs, h1, h2, h3, h4, h5, h6⟩
    · exact .inl h
    · refine .inr ⟨g, vs, h1, hT _ h2, h3, h4, h5, h6.1, fun i row hi => ⟨(h6.2 i row hi).1, fun j d hd => ?_⟩⟩
      obtain ⟨u, hu, hr⟩ := (h6.2 i row hi).2 j d hd
      exact ⟨u, hu, hD d u (hp row (List.mem_of_getElem? hi) d (List.mem_of_getElem? hd)) hr⟩
  | map es cl => obtain ⟨g, ms, h1, h2, h3⟩ := h; exact ⟨g, ms, h1, hT _ h2, h3⟩
end
theorem good_true (l : List CV) (h : l.all (fun c => match c with | .q _ _ => false | _ => true) = true) : AllL (CV.good fun _ => True) l := by
  induction l with
  | nil => trivial
  | cons x l ih =>
    simp only [List.all_cons, Bool.and_eq_true] at h
    refine ⟨?_, ih h.2⟩
    cases x <;> first | trivial | (exact absurd h.1 (by simp))
def mapNb (ρ : Nat → Nat) (nb : List (Nat × AB)) : List (Nat × AB) := nb.map fun x => (ρ x.1, x.2.map' ρ)
theorem keyIn_mem {nb : List (Nat × AB)} {k : Nat} (h : keyIn nb k = true) : ∃ b, (k, b) ∈ nb := by
  cases hl : look nb k with
  | none => simp [keyIn, hl] at h
  | some b => exact ⟨b, look_mem hl⟩
theorem mem_keyIn {nb : List (Nat × AB)} {k : Nat} {b : AB} (h : (k, b) ∈ nb) : keyIn nb k = true := by
  cases hl : look nb k with
  | none => exact absurd hl (look_ne_none h)
  | some b => simp [keyIn, hl]
theorem run_enter {f : FuncId} {fn : Func} {c : Code} (hf : P.funcs[f]? = some fn) (hname : (fn.name == "runtime.NumGoroutine") = false) (hb : fn.body = some c) (args : Array Value) (w : World) : (callFunc f args).run P w = .ok (.enter f args) w := by
  have h1 : fn.name ≠ "runtime.NumGoroutine" := by simpa using hname
  simp [callFunc, hf, h1, hb]
/-- That a function has a body: it is entered. -/
def Enters (P : Program) (f : FuncId) : Prop := ∀ (args : Array Value) (w : World), (callFunc f args).run P w = .ok (.enter f args) w
theorem call_core {f : FuncId} {ins : List GV} {av : AV} {nb : List (Nat × AB)} (hF : Fn P f ins av nb) (n0 : Nat) {E : List Nat} {p : D → Prop} {σ : Nat → Option Adr} {T : Nat → Prop} {a : Act} {w : World} (C : Core σ T st a w) {args : Array Value} (hargs : All2 (GRel (fun _ => none) (lessT σ T E) w) ins args.toList)
    (hp : av.good p) (hpb : AllL (fun x => x.2.good p) nb) (hok : av.ok (keyIn nb) = true) (hokb : nb.all (fun x => x.2.ok (keyIn nb)) = true) (hnew : ∀ k b, (k, b) ∈ mapNb (n0 + ·) nb → σ k = none)
    (hD : ∀ (Tc T' : Nat → Prop) (w' : World) d v, (∀ b, T' b → T b ∨ Tc b) → (∀ b, lessT σ T E b → Tc b) → p d → DRel Tc w' d v → DRel T' w' d v) :
    Calls P f args w fun e w' => ∃ v σ' T', e = .returned v ∧ Ext σ T w σ' T' w' (mapNb (n0 + ·) nb) [] ∧ ARel σ' T' w' (av.map (n0 + ·)) v := by
  refine (hF (lessT σ T E) w args (fun b h => C.Tlt b h.1) hargs).mono ?_
  rintro e w' ⟨v, σc, Tc, rfl, hb, R⟩
  let σ' : Nat → Option Adr := fun k => if n0 ≤ k ∧ keyIn nb (k - n0) = true then σc (k - n0) else σ k
  let T' : Nat → Prop := fun b => T b ∨ Tc b
  have hσ : ∀ k, keyIn nb k = true → σ' (n0 + k) = σc k := fun k hk => by
    show (if n0 ≤ n0 + k ∧ keyIn nb (n0 + k - n0) = true then σc (n0 + k - n0) else σ (n0 + k)) = σc k
    rw [Nat.add_sub_cancel_left, if_pos ⟨by omega, hk⟩]
  have hD' : ∀ d v, p d → DRel Tc w' d v → DRel T' w' d v := fun d v => hD Tc T' w' d v (fun b h => h) R.Tge
  have hmem : ∀ k b, (k, b) ∈ mapNb (n0 + ·) nb → ∃ k0 b0, (k0, b0) ∈ nb ∧ k = n0 + k0 ∧ b = b0.map' (n0 + ·) := by
    intro k b h
    obtain ⟨⟨k0, b0⟩, h1, h2⟩ := List.mem_map.1 h
    injection h2 with h2 h3
    exact ⟨k0, b0, h1, h2.symm, h3.symm⟩
  refine ⟨v, σ', T', rfl, ⟨hb.os, hb.tape, hb.output, ⟨hb.size, fun b hlt _ => hb.block b hlt, (fun b h => by obtain ⟨k, hk, _⟩ := h; cases hk), fun b hlt h => ?_, fun k g hk => ?_⟩, fun b h => .inl h, fun b h => ?_, fun k hk => ?_, ?_, ?_, ?_⟩, R.rel.back hD' hσ hp hok⟩
  · rcases h with h | h
    · exact h
    · exact (R.Tle b hlt h).1
  · show (if n0 ≤ k ∧ keyIn nb (k - n0) = true then σc (k - n0) else σ k) = some g
    rw [if_neg]
    · exact hk
    · rintro ⟨h1, h2⟩
      obtain ⟨b, hb⟩ := keyIn_mem h2
      have := hnew k (b.map' (n0 + ·)) (List.mem_map.2 ⟨(k - n0, b), hb, by simp [show n0 + (k - n0) = k by omega]⟩)
      rw [hk] at this; cases this
  · rcases h with h | h
    · exact Nat.lt_of_lt_of_le (C.Tlt b h) hb.size
    · exact R.Tlt b h
  · show (if n0 ≤ k ∧ keyIn nb (k - n0) = true then σc (k - n0) else σ k) = σ k
    rw [if_neg]
    rintro ⟨h1, h2⟩
    obtain ⟨b, hb⟩ := keyIn_mem h2
    exact hk (b.map' (n0 + ·)) (List.mem_map.2 ⟨(k - n0, b), hb, by simp [show n0 + (k - n0) = k by omega]⟩)
  · intro k b h
    obtain ⟨k0, b0, h1, rfl, rfl⟩ := hmem k b h
    rw [hσ k0 (mem_keyIn h1)]
    have hok' := List.all_eq_true.1 hokb _ h1
    exact (R.heap k0 b0 h1).back hD' hσ (fun b h => .inr h) (hpb.mem _ h1) hok'
  · intro k b g h hg
    obtain ⟨k0, b0, h1, rfl, rfl⟩ := hmem k b h
    rw [hσ k0 (mem_keyIn h1)] at hg
    exact .inl (R.fresh k0 b0 g h1 hg)
  · intro k k' b b' g g' h h' hg hg' hgg
    obtain ⟨k0, b0, h1, rfl, rfl⟩ := hmem k b h
    obtain ⟨k1, b1, h2, rfl, rfl⟩ := hmem k' b' h'
    rw [hσ k0 (mem_keyIn h1)] at hg
    rw [hσ k1 (mem_keyIn h2)] at hg'
    rw [R.inj k0 k1 b0 b1 g g' h1 h2 hg hg' hgg]
theorem wp_call {f : FuncId} {c : Call} (ho : o.op = .call c) (hc : c.callee = .value (.func f)) (hen : Enters P f) {a : Act} {w : World} {K : Act → World → Prop} (h : Calls P f (c.args.map a.eval) w fun e w' => ∃ v, e = .returned v ∧ K (a.put o.dst v) w') : o.wp P a w K noQ := by
  have hr : (execOp a.eval o).run P w = .ok (.enter f (c.args.map a.eval)) w := by
    unfold execOp
    simp [ho, resolve, hc, Act.eval, Deferred.ofValue, invoke]
    exact hen _ _
  unfold Oper.wp
  rw [hr]
  exact h.mono fun e w' ⟨v, he, hk⟩ => by subst he; exact hk
/-- a call: nothing of the call's own is read -/
theorem g_call {f : FuncId} {c : Call} {ins : List GV} {av av' : AV} {nb nb' : List (Nat × AB)} (n0 : Nat) (hF : Fn P f ins av nb) (hen : Enters P f) (ho : o.op = .call c) (hc : c.callee = .value (.func f)) (hargs : EvA st [] c.args.toList ins)
    (hg : av.good (fun _ => True)) (hgb : AllL (fun x => x.2.good fun _ => True) nb) (hok : av.ok (keyIn nb) = true) (hokb : nb.all (fun x => x.2.ok (keyIn nb)) = true) (hav : av.map (n0 + ·) = av') (hnb : mapNb (n0 + ·) nb = nb') : GOp P o st av' nb' [] := by
  intro σ T a w C hnew
  subst hav hnb
  refine wp_call ho hc hen ((call_core hF n0 C (E := []) (by rw [Array.toList_map]; exact evA_rel C hargs) hg hgb hok hokb (fun k b h => hnew k b h (by simp)) fun Tc T' w' d v h1 h2 _ h => h.anti fun b hb => ?_).mono ?_)
  · rcases h1 b hb with h | h
    · exact h2 b ⟨h, fun k hk => by cases hk⟩
    · exact h
  · rintro e w' ⟨v, σ', T', rfl, X, hr⟩
    exact ⟨v, rfl, v, σ', T', rfl, X, hr⟩
/-- a call: arrays of the call's own are read -/
theorem g_callE {f : FuncId} {c : Call} {ins : List GV} {av av' : AV} {nb nb' : List (Nat × AB)} (n0 : Nat) (E : List Nat) (hF : Fn P f ins av nb) (hen : Enters P f) (ho : o.op = .call c) (hc : c.callee = .value (.func f)) (hargs : EvA st E c.args.toList ins)
    (hg : av.good (fun d => d.isV = true)) (hgb : AllL (fun x => x.2.good fun d => d.isV = true) nb) (hok : av.ok (keyIn nb) = true) (hokb : nb.all (fun x => x.2.ok (keyIn nb)) = true) (hav : av.map (n0 + ·) = av') (hnb : mapNb (n0 + ·) nb = nb') : GOp P o st av' nb' [] := by
  intro σ T a w C hnew
  subst hav hnb
  refine wp_call ho hc hen ((call_core hF n0 C (E := E) (by rw [Array.toList_map]; exact evA_rel C hargs) hg hgb hok hokb (fun k b h => hnew k b h (by simp)) fun Tc T' w' d v h1 h2 hp h => ?_).mono ?_)
  · cases d with
    | v x => cases h; exact .v _ (by assumption)
    | r => cases hp
    | f => cases hp
  · rintro e w' ⟨v, σ', T', rfl, X, hr⟩
    exact ⟨v, rfl, v, σ', T', rfl, X, hr⟩

/-! make, and parts of slices -/
theorem g_make {t e bytes n : Nat} {z : Value} {x y : Operand} {i j : Int} (k : Nat) (hT : SlT P t e 1 bytes) (hz : (P.info? e).bind (·.zero) = some z) (hz1 : z.cells = #[z]) (hzo : z.oneCell' = true) (ho : o.op = .makeSlice t x y) (hx : ev st x (.v (.c (.d (.v (.int .i64 i)))))) (hy : ev st y (.v (.c (.d (.v (.int .i64 j))))))
    (hi : i = n) (hj : j = n) (hb : bytes * n ≤ 281474976710656) (h63 : n ≤ 9223372036854775807) : GOp P o st (.v (.c (.s k 0 1 n))) [(k, .arr e 1 (List.replicate n [.v z]))] [] :=
  GOp.new fun σ T ac w C hk0 => by
    have h1 := DRel.inv (ev_rel C hx)
    have h2 := DRel.inv (ev_rel C hy)
    subst hi hj
    obtain ⟨ii, z', hii, hzz, hs, hby, hzs⟩ := hT.i
    have hz' : z' = z := by simpa [hii, hzz] using hz
    subst hz'
    have hrun := run_make_row (P := P) t e ii z' hT.u hii hzz hs hz1 .i64 .i64 n (by rw [hby]; exact hb) h63 w
    have hl : (madeCells #[z'] n).toList.length = n := by simp [size_madeCells]
    refine ⟨.slice (some ⟨w.heap.size, 0, none⟩) n n, .cells (madeCells #[z'] n).toList.toArray e, n, ?_, HRel.newArr (by decide) (by rw [hl, Nat.mul_one]) h63 ?_ (Grow.alloc hk0 _ _ fun _ h => h.elim), .inr ⟨⟨w.heap.size, n⟩, upd_self _ _ _, rfl, by show 0 + n ≤ n; omega, h63⟩⟩
    · unfold execOp
      simp only [ho, h1, h2, Sem.run_bind, hrun, Result.andThen_ok, Array.toArray_toList]
      rfl
    · rw [toList_madeCells_one]
      refine ⟨by simp, fun q row hq => ?_⟩
      obtain ⟨hq1, rfl⟩ := List.getElem?_eq_some_iff.1 hq
      simp at hq1
      refine ⟨by simp, fun j d hd => ?_⟩
      rcases j with _ | j
      · simp at hd; subst hd
        exact ⟨z', by simp [hq1], .v _ hzo⟩
      · simp at hd
theorem run_sliceL {w : World} {t e K : Nat} {A : Option Addr} {len cap : Nat} (hu : P.underlying t = some (.slice e)) (hz : (P.info? e).map (·.size) = some K) (lo hi : Option Value) (l h : Nat) (hlo : (lo = none ∧ l = 0) ∨ lo = some (.int .i64 l)) (hhi : (hi = none ∧ h = len) ∨ hi = some (.int .i64 h)) (h1 : l ≤ h) (h2 : h ≤ cap) (hlc : len ≤ cap) :
    (Instr.sliceAt t (.slice A len cap) lo hi none).run P w = .ok (.slice (if cap = l then A else A.map (·.add (l * K))) (h - l) (cap - l)) w := by
  cases hq : P.info? e with
  | none => simp [hq] at hz
  | some ii =>
    have hs : ii.size = K := by simpa [hq] using hz
    rcases hlo with ⟨rfl, rfl⟩ | rfl <;> rcases hhi with ⟨rfl, rfl⟩ | rfl <;>
      simp [Instr.sliceAt, run_underlying hu, Instr.slice, Instr.sliceBounds, Instr.sliceBound, asIntOf, sizeOf, typeInfo, hq, hs, h1, h2] <;> omega
/-- a part of a slice that is only read -/
theorem g_sliceD {t e K : Nat} {x : Operand} {lo hi : Option Operand} {rows ys : List (List D)} {l h : Nat} (ho : o.op = .slice t x lo hi none) (hu : P.underlying t = some (.slice e)) (hz : (P.info? e).map (·.size) = some K) (hx : ev st x (.v (.c (.d (.r K rows)))))
    (hlo : (lo = none ∧ l = 0) ∨ ∃ x, lo = some x ∧ ev st x (.v (.c (.d (.v (.int .i64 l)))))) (hhi : (hi = none ∧ h = rows.length) ∨ ∃ x, hi = some x ∧ ev st x (.v (.c (.d (.v (.int .i64 h)))))) (h1 : l ≤ h) (h2 : h ≤ rows.length) (he : (rows.drop l).take (h - l) = ys) : GOp P o st (.v (.c (.d (.r K ys)))) [] [] :=
  GOp.val fun σ T ac w C => by
    have hv := ev_rel C hx
    subst he
    have key : ∀ A c, rows.length ≤ c → ac.eval x = .slice A rows.length c → (execOp ac.eval o).run P w = .ok (.value (.slice (if c = l then A else A.map (·.add (l * K))) (h - l) (c - l))) w := by
      intro A c hc hA
      have := run_sliceL (P := P) (w := w) (A := A) (len := rows.length) (cap := c) hu hz (lo.map ac.eval) (hi.map ac.eval) l h
        (by rcases hlo with ⟨rfl, rfl⟩ | ⟨y, rfl, hy⟩; exact .inl ⟨rfl, rfl⟩; exact .inr (by rw [Option.map_some, DRel.inv (ev_rel C hy)]))
        (by rcases hhi with ⟨rfl, rfl⟩ | ⟨y, rfl, hy⟩; exact .inl ⟨rfl, rfl⟩; exact .inr (by rw [Option.map_some, DRel.inv (ev_rel C hy)])) h1 (by omega) hc
      unfold execOp
      simp only [ho, hA, Option.map_none, Sem.run_bind, this, Result.andThen_ok]
      rfl
    have hl : ((rows.drop l).take (h - l)).length = h - l := by simp; omega
    generalize hgv : ac.eval x = v at hv
    cases hv with
    | nil K A c =>
      have := key A c (by simp) hgv
      refine ⟨_, this, ?_⟩
      simp only [List.drop_nil, List.take_nil]
      rw [show h - l = 0 by simp at h2; omega]
      exact DRel.nil _ _ _
    | r K rows b off c cs hb hT hc hm hK hcell hd =>
      refine ⟨_, key _ c hc hgv, ?_⟩
      by_cases h0 : h - l = 0
      · rw [h0, List.take_zero]
        exact DRel.nil _ _ _
      · rw [if_neg (by omega), Option.map_some, Addr.add_lit]
        have hfin : DRel T w (.r K ((rows.drop l).take (h - l))) (.slice (some ⟨b, off + l * K, none⟩) ((rows.drop l).take (h - l)).length (c - l)) := ?_
        · rw [hl] at hfin; exact hfin
        refine DRel.r K _ b (off + l * K) (c - l) (fun i j => cs (l + i) j) hb hT (by rw [hl]; omega) (by omega) (fun i row hi => hK _ row (slice_get hi)) (fun i row j d hi hj => ?_) fun i row j d hi hj => hd _ row j d (slice_get hi) hj
        have := hcell _ row j d (slice_get hi) hj
        rwa [show off + l * K + (i * K + j) = off + ((l + i) * K + j) by rw [Nat.add_mul]; omega]
/-- a part, from its head on, of an array of the call's own -/
theorem g_sliceP {t e K k i n m : Nat} {x : Operand} {lo hi : Option Operand} {l h : Nat} (ho : o.op = .slice t x lo hi none) (hu : P.underlying t = some (.slice e)) (hz : (P.info? e).map (·.size) = some K) (hx : ev st x (.v (.c (.s k i K n))))
    (hlo : (lo = none ∧ l = 0) ∨ ∃ x, lo = some x ∧ ev st x (.v (.c (.d (.v (.int .i64 l)))))) (hhi : (hi = none ∧ h = n) ∨ ∃ x, hi = some x ∧ ev st x (.v (.c (.d (.v (.int .i64 h)))))) (h1 : l ≤ h) (h2 : h ≤ n) (h3 : l = 0 ∨ l < h) (hm : h - l = m) : GOp P o st (.v (.c (.s k (i + l) K m))) [] [] :=
  GOp.val fun σ T ac w C => by
    have hv := ev_rel C hx
    subst hm
    have key : ∀ A c, n ≤ c → ac.eval x = .slice A n c → (execOp ac.eval o).run P w = .ok (.value (.slice (if c = l then A else A.map (·.add (l * K))) (h - l) (c - l))) w := by
      intro A c hc hA
      have := run_sliceL (P := P) (w := w) (A := A) (len := n) (cap := c) hu hz (lo.map ac.eval) (hi.map ac.eval) l h
        (by rcases hlo with ⟨rfl, rfl⟩ | ⟨y, rfl, hy⟩; exact .inl ⟨rfl, rfl⟩; exact .inr (by rw [Option.map_some, DRel.inv (ev_rel C hy)]))
        (by rcases hhi with ⟨rfl, rfl⟩ | ⟨y, rfl, hy⟩; exact .inl ⟨rfl, rfl⟩; exact .inr (by rw [Option.map_some, DRel.inv (ev_rel C hy)])) h1 (by omega) hc
      unfold execOp
      simp only [ho, hA, Option.map_none, Sem.run_bind, this, Result.andThen_ok]
      rfl
    rcases hv with ⟨h0, hv⟩ | ⟨g, hg, hv, hle, hmx⟩
    · refine ⟨_, key none 0 (by omega) (by rw [hv, h0]), .inl ⟨by omega, ?_⟩⟩
      simp
      omega
    · refine ⟨_, key _ _ (by omega) hv, .inr ⟨g, hg, ?_, by omega, hmx⟩⟩
      by_cases hc : g.c - i = l
      · rw [if_pos hc]
        have : l = 0 := by omega
        subst this
        simp
      · rw [if_neg hc, Option.map_some, Addr.add_lit, Nat.add_mul, Nat.sub_sub]
end
end Go.Proofs.Ytgmcdlfmifijlaa.Dev
