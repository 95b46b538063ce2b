/- The symbolic heap: code, loops, weaker states, contracts; no condition. -/
import Derived.Test.YtgmcdlfmifijlaaDSh2
import Derived.Deep.LoopGhost
set_option linter.unusedVariables false
set_option linter.unusedSimpArgs false
namespace Go.Proofs.Ytgmcdlfmifijlaa.Dev
open Go.RowKit

def AllL {α : Type} (p : α → Prop) : List α → Prop
  | [] => True
  | x :: l => p x ∧ AllL p l
theorem AllL.mem {α : Type} {p : α → Prop} : ∀ {l : List α}, AllL p l → ∀ x ∈ l, p x
  | _ :: _, h, x, hx => by
    rcases List.mem_cons.1 hx with rfl | hx
    · exact h.1
    · exact AllL.mem h.2 x hx

section
variable {P : Program} {W0 : World} {F : Nat → Prop} {N : NT} {T0 : Nat → Prop} {pin : List (Nat × Adr)} {Q : Exit → AState → Prop} {st : AState}
def AC (P : Program) (W0 : World) (F : Nat → Prop) (N : NT) (T0 : Nat → Prop) (pin : List (Nat × Adr)) (Q : Exit → AState → Prop) (c : Code) (st : AState) : Prop :=
  ∀ a w, Inv W0 F N T0 pin st a w → c.wp P (QX W0 F N T0 pin Q) a w
def thenQ (next : AState → Prop) (Q : Exit → AState → Prop) : Exit → AState → Prop
  | .normal, st => next st
  | e, st => Q e st
def blockQ (id : Nat) (Q : Exit → AState → Prop) : Exit → AState → Prop
  | .exit id', st => if id' = id then Q .normal st else Q (.exit id') st
  | e, st => Q e st
theorem AC.seq {x y : Code} (h : AC P W0 F N T0 pin (thenQ (AC P W0 F N T0 pin Q y) Q) x st) : AC P W0 F N T0 pin Q (.seq x y) st := fun a w hI =>
  wp_seq (Code.wp_mono (fun e a w q => by
    obtain ⟨st', hq, hi⟩ := q
    cases e <;> first | exact hq a w hi | exact ⟨st', hq, hi⟩) (h a w hI))
theorem AC.block {id : Nat} {c : Code} (h : AC P W0 F N T0 pin (blockQ id Q) c st) : AC P W0 F N T0 pin Q (.block id c) st := fun a w hI =>
  wp_block (Code.wp_mono (fun e a w q => by
    obtain ⟨st', hq, hi⟩ := q
    cases e <;> try exact ⟨st', hq, hi⟩
    rename_i id'
    simp only [Exit.inBlock]
    by_cases hid : id' = id
    · rw [if_pos hid]; subst hid; exact ⟨st', by simpa [blockQ] using hq, hi⟩
    · rw [if_neg hid]; exact ⟨st', by simpa [blockQ, hid] using hq, hi⟩) (h a w hI))
theorem AC.skip (h : Q .normal st) : AC P W0 F N T0 pin Q .skip st := fun _ _ hI => wp_skip ⟨st, h, hI⟩
theorem AC.ret (h : Q .ret st) : AC P W0 F N T0 pin Q .ret st := fun _ _ hI => wp_ret ⟨st, h, hI⟩
theorem AC.exit {id : Nat} (h : Q (.exit id) st) : AC P W0 F N T0 pin Q (.exit id) st := fun _ _ hI => wp_exit ⟨st, h, hI⟩
theorem AC.cond {c : Operand} {x y : Code} {b : Bool} (hc : ev st c (.v (.c (.d (.v (.bool b)))))) (ht : b = true → AC P W0 F N T0 pin Q x st) (hf : b = false → AC P W0 F N T0 pin Q y st) : AC P W0 F N T0 pin Q (.cond c x y) st := fun a w hI => by
  obtain ⟨σ, T, hT, S, hp⟩ := hI
  exact wp_cond_split (DRel.inv (ev_rel S.core hc)) (fun h => ht h a w ⟨σ, T, hT, S, hp⟩) (fun h => hf h a w ⟨σ, T, hT, S, hp⟩)
theorem AC.region {id : Nat} {l : List Oper} (h : AL P W0 F N T0 pin l.toArray Q l st) : AC P W0 F N T0 pin Q (.region id l.toArray false) st := fun a w hI => wp_region_lit (h a w hI)

/-! weaker states -/
def Weak (pin : List (Nat × Adr)) (st st' : AState) : Prop := ∀ W0 F N T0 a w, Inv W0 F N T0 pin st a w → Inv W0 F N T0 pin st' a w
theorem Weak.refl {pin : List (Nat × Adr)} (st : AState) : Weak pin st st := fun _ _ _ _ _ _ h => h
theorem Weak.trans {pin : List (Nat × Adr)} {a b c : AState} (h : Weak pin a b) (h' : Weak pin b c) : Weak pin a c := fun W0 F N T0 x w hi => h' W0 F N T0 x w (h W0 F N T0 x w hi)
theorem AC.weak {st' : AState} {c : Code} (hw : Weak pin st st') (h : AC P W0 F N T0 pin Q c st') : AC P W0 F N T0 pin Q c st := fun a w hI => h a w (hw _ _ _ _ a w hI)
theorem AL.weak {st' : AState} {ops : Array Oper} {l : List Oper} (hw : Weak pin st st') (h : AL P W0 F N T0 pin ops Q l st') : AL P W0 F N T0 pin ops Q l st := fun a w hI => h a w (hw _ _ _ _ a w hI)
/-- A loop: the state at its head is one of a family. -/
theorem AC.loop {β : Type} {c : Code} (I : β → AState) (Pr : β → Prop) (μ : β → Nat) (x0 : β) (h0 : Pr x0) (hw : Weak pin st (I x0))
    (round : ∀ x, Pr x → AC P W0 F N T0 pin (thenQ (fun st' => ∃ y, Pr y ∧ μ y < μ x ∧ Weak pin st' (I y)) Q) c (I x)) : AC P W0 F N T0 pin Q (.loop c) st := fun a w hI =>
  wp_loop_ghost (fun n a w => ∃ x, Pr x ∧ μ x = n ∧ Inv W0 F N T0 pin (I x) a w) (μ x0) ⟨x0, h0, rfl, hw _ _ _ _ _ _ hI⟩ fun n a w ⟨x, hx, hn, hi⟩ =>
    Code.wp_mono (fun e a w q => by
      obtain ⟨st', hq, hi⟩ := q
      cases e <;> try exact ⟨st', hq, hi⟩
      obtain ⟨y, h1, h2, h3⟩ := hq
      exact ⟨μ y, hn ▸ h2, y, h1, rfl, h3 _ _ _ _ _ _ hi⟩) (round x hx a w hi)
end

def CV.map (ρ : Nat → Nat) : CV → CV
  | .p k i K o => .p (ρ k) i K o
  | .s k i K n => .s (ρ k) i K n
  | .sx k i K n c e => .sx (ρ k) i K n c e
  | .m k => .m (ρ k)
  | .fn f caps => .fn f (caps.map ρ)
  | x => x
def GV.map (ρ : Nat → Nat) : GV → GV
  | .c x => .c (x.map ρ)
  | .g xs => .g (xs.map (CV.map ρ))
def AV.map (ρ : Nat → Nat) : AV → AV
  | .v x => .v (x.map ρ)
  | .t xs => .t (xs.map (GV.map ρ))
def AB.map' (ρ : Nat → Nat) : AB → AB
  | .box t cs => .box t (cs.map (CV.map ρ))
  | x => x
def CV.ok (p : Nat → Bool) : CV → Bool
  | .p k _ _ _ => p k
  | .s k _ _ _ => p k
  | .sx k _ _ _ _ _ => p k
  | .m k => p k
  | .fn _ caps => caps.all p
  | _ => true
def GV.ok (p : Nat → Bool) : GV → Bool
  | .c x => x.ok p
  | .g xs => xs.all (CV.ok p)
def AV.ok (p : Nat → Bool) : AV → Bool
  | .v x => x.ok p
  | .t xs => xs.all (GV.ok p)
def AB.ok (p : Nat → Bool) : AB → Bool
  | .box _ cs => cs.all (CV.ok p)
  | _ => true
section
variable {σ σ' : Nat → Option Adr} {T : Nat → Prop} {w : World} {ρ : Nat → Nat} {p : Nat → Bool}
theorem CRel.ren (hσ : ∀ k, p k = true → σ' k = σ (ρ k)) {x : CV} {v : Value} (h : CRel σ T w (x.map ρ) v) (hp : x.ok p = true) : CRel σ' T w x v := by
  cases x with
  | any => trivial
  | d x => exact h
  | p k i K o => obtain ⟨g, h1, h2⟩ := h; exact ⟨g, (hσ k hp).trans h1, h2⟩
  | q row o => exact h
  | s k i K n =>
    rcases h with h | ⟨g, h1, h2⟩
    · exact .inl h
    · exact .inr ⟨g, (hσ k hp).trans h1, h2⟩
  | sx k i K n c e => obtain ⟨g, off, h1, h2⟩ := h; exact ⟨g, off, (hσ k hp).trans h1, h2⟩
  | m k => obtain ⟨g, h1, h2⟩ := h; exact ⟨g, (hσ k hp).trans h1, h2⟩
  | fn f caps =>
    obtain ⟨gs, h1, h2⟩ := h
    refine ⟨gs, ?_, h2⟩
    rw [← h1, List.map_map]
    refine List.map_congr_left fun k hk => hσ k ?_
    have : caps.all p = true := hp
    rw [List.all_eq_true] at this
    exact this k hk
theorem all2_ren (hσ : ∀ k, p k = true → σ' k = σ (ρ k)) : ∀ {xs : List CV} {vs : List Value}, All2 (CRel σ T w) (xs.map (CV.map ρ)) vs → xs.all (CV.ok p) = true → All2 (CRel σ' T w) xs vs
  | [], [], _, _ => trivial
  | x :: xs, v :: vs, h, hp => by
    simp only [List.all_cons, Bool.and_eq_true] at hp
    exact ⟨h.1.ren hσ hp.1, all2_ren hσ h.2 hp.2⟩
  | [], _ :: _, h, _ => h.elim
  | _ :: _, [], h, _ => h.elim
theorem GRel.ren (hσ : ∀ k, p k = true → σ' k = σ (ρ k)) {x : GV} {v : Value} (h : GRel σ T w (x.map ρ) v) (hp : x.ok p = true) : GRel σ' T w x v := by
  cases x with
  | c x => exact CRel.ren hσ (x := x) h hp
  | g xs => obtain ⟨vs, h1, h2⟩ := h; exact ⟨vs, h1, all2_ren hσ h2 hp⟩
theorem all2_renG (hσ : ∀ k, p k = true → σ' k = σ (ρ k)) : ∀ {xs : List GV} {vs : List Value}, All2 (GRel σ T w) (xs.map (GV.map ρ)) vs → xs.all (GV.ok p) = true → All2 (GRel σ' T w) xs vs
  | [], [], _, _ => trivial
  | x :: xs, v :: vs, h, hp => by
    simp only [List.all_cons, Bool.and_eq_true] at hp
    exact ⟨h.1.ren hσ hp.1, all2_renG hσ h.2 hp.2⟩
  | [], _ :: _, h, _ => h.elim
  | _ :: _, [], h, _ => h.elim
theorem ARel.ren (hσ : ∀ k, p k = true → σ' k = σ (ρ k)) {x : AV} {v : Value} (h : ARel σ T w (x.map ρ) v) (hp : x.ok p = true) : ARel σ' T w x v := by
  cases x with
  | v x => exact GRel.ren hσ (x := x) h hp
  | t xs => obtain ⟨vs, h1, h2⟩ := h; exact ⟨vs, h1, all2_renG hσ h2 hp⟩
theorem HRel.ren (hσ : ∀ k, p k = true → σ' k = σ (ρ k)) {og : Option Adr} {b : AB} (h : HRel σ T w og (b.map' ρ)) (hp : b.ok p = true) : HRel σ' T w og b := by
  cases b with
  | box t cs => obtain ⟨g, vs, h1, h2, h3, h4⟩ := h; exact ⟨g, vs, h1, h2, h3, all2_ren hσ h4 hp⟩
  | arr t K rows => exact h
  | map es cl => exact h
end
def keyIn (h : List (Nat × AB)) (k : Nat) : Bool := (look h k).isSome
def nodupB : List Nat → Bool
  | [] => true
  | k :: l => !l.any (Nat.beq k) && nodupB l
def AState.okS (st : AState) (ρ : Nat → Nat) (pin : List (Nat × Adr)) : Bool :=
  pin.all (fun x => keyIn st.h x.1 && Nat.beq (ρ x.1) x.1) &&
  st.s.all (fun x => x.2.ok (keyIn st.h)) && st.h.all (fun x => x.2.ok (keyIn st.h)) && st.h.all (fun x => Nat.blt x.1 st.n) && nodupB (st.h.map fun x => ρ x.1)
theorem nodup_inj {l : List (Nat × AB)} {ρ : Nat → Nat} (h : nodupB (l.map fun x => ρ x.1) = true) : ∀ k b k' b', (k, b) ∈ l → (k', b') ∈ l → ρ k = ρ k' → k = k' := by
  induction l with
  | nil => intro _ _ _ _ h; cases h
  | cons y l ih =>
    obtain ⟨j, z⟩ := y
    simp only [List.map_cons, nodupB, Bool.and_eq_true, Bool.not_eq_true', List.any_eq_false] at h
    have far : ∀ k b, (k, b) ∈ l → ρ j ≠ ρ k := fun k b hm e => h.1 (ρ k) (List.mem_map.2 ⟨(k, b), hm, rfl⟩) (by rw [e]; exact Nat.beq_refl _)
    intro k b k' b' hk hk' he
    rcases List.mem_cons.1 hk with h1 | h1
    · injection h1 with e1 e2
      subst e1
      rcases List.mem_cons.1 hk' with h2 | h2
      · injection h2 with e3 e4; exact e3.symm
      · exact absurd he (far _ _ h2)
    · rcases List.mem_cons.1 hk' with h2 | h2
      · injection h2 with e3 e4; subst e3; exact absurd he.symm (far _ _ h1)
      · exact ih h.2 k b k' b' h1 h2 he
theorem look_mem' {α : Type} {l : List (Nat × α)} {i : Nat} {x : α} (h : look l i = some x) : (i, x) ∈ l := look_mem h
theorem Weak.ren {pin : List (Nat × Adr)} {st st' : AState} (ρ : Nat → Nat) (hs : AllL (fun x => look st.s x.1 = some (x.2.map ρ)) st'.s) (hh : AllL (fun x => look st.h (ρ x.1) = some (x.2.map' ρ)) st'.h) (hok : st'.okS ρ pin = true) : Weak pin st st' := by
  rintro W0 F N T0 a w ⟨σ, T, hT, S, hp⟩
  simp only [AState.okS, Bool.and_eq_true, List.all_eq_true] at hok
  obtain ⟨⟨⟨⟨ho0, ho1⟩, ho2⟩, ho3⟩, ho4⟩ := hok
  let σ' : Nat → Option Adr := fun k => if keyIn st'.h k = true then σ (ρ k) else none
  have hσ : ∀ k, keyIn st'.h k = true → σ' k = σ (ρ k) := fun k hk => if_pos hk
  have kin : ∀ k b, look st'.h k = some b → keyIn st'.h k = true := fun k b h => by simp [keyIn, h]
  have hl : ∀ k b, look st'.h k = some b → look st.h (ρ k) = some (b.map' ρ) ∧ σ' k = σ (ρ k) := fun k b h => ⟨hh.mem _ (look_mem h), hσ k (kin k b h)⟩
  refine ⟨σ', T, hT, ⟨⟨?_, ?_, ?_, S.core.Tlt⟩, S.os, S.tape, S.output, S.size, S.old, ?_, ?_, ?_, S.tsz, S.dfr⟩, fun k g hk => ?_⟩
  rotate_right
  · have h1 := ho0 _ (look_mem' hk)
    rw [hσ k h1.1, Nat.eq_of_beq_eq_true h1.2]
    exact hp k g hk
  · intro i v hi
    have hm := look_mem hi
    exact (S.core.slots i _ (hs.mem _ hm)).ren hσ (ho1 _ hm)
  · intro k b hk
    rw [(hl k b hk).2]
    exact (S.core.heap _ _ (hl k b hk).1).ren hσ (ho2 _ (look_mem hk))
  · intro k k' b b' g g' hk hk' hg hg' hgg
    rw [(hl k b hk).2] at hg
    rw [(hl k' b' hk').2] at hg'
    exact nodup_inj ho4 k b k' b' (look_mem hk) (look_mem hk') (S.core.inj _ _ _ _ g g' (hl k b hk).1 (hl k' b' hk').1 hg hg' hgg)
  · intro k b g hk hg
    rw [(hl k b hk).2] at hg
    exact S.own _ _ g (hl k b hk).1 hg
  · intro k hk
    refine if_neg fun h => ?_
    cases hlk : look st'.h k with
    | none => simp [keyIn, hlk] at h
    | some b =>
      have h3 := ho3 _ (look_mem hlk)
      rw [Nat.blt_eq] at h3
      have h3 : k < st'.n := h3
      omega
  · intro k b hk
    have h3 := ho3 _ (look_mem hk)
    rw [Nat.blt_eq] at h3
    exact h3
/-- A nil slice is an array of no rows that isn't made yet. -/
theorem Weak.nil {pin : List (Nat × Adr)} {st : AState} (i : Nat) (t K : Nat) (hK : 0 < K) (hs : look st.s i = some (.v (.c (.d (.v (.slice none 0 0))))))   : Weak pin st { s := (i, .v (.c (.s st.n 0 K 0))) :: st.s, h := (st.n, .arr t K []) :: st.h, n := st.n + 1 } := by
  rintro W0 F N T0 a w ⟨σ, T, hT, S, hp⟩
  have hn := S.next st.n (Nat.le_refl _)
  refine ⟨σ, T, hT, ⟨⟨?_, ?_, ?_, S.core.Tlt⟩, S.os, S.tape, S.output, S.size, S.old, ?_, fun k hk => S.next k (by have : st.n + 1 ≤ k := hk; omega), ?_, S.tsz, S.dfr⟩, hp⟩
  · intro j v hj
    have hj' : look ((i, AV.v (.c (.s st.n 0 K 0))) :: st.s) j = some v := hj
    rw [look_cons] at hj'
    split at hj'
    · rename_i e; subst e; injection hj' with hj'; subst hj'
      exact .inl ⟨rfl, DRel.inv (S.core.slots _ _ hs)⟩
    · exact S.core.slots j v hj'
  · intro k b hk
    have hk' : look ((st.n, AB.arr t K []) :: st.h) k = some b := hk
    rw [look_cons] at hk'
    split at hk'
    · rename_i e; subst e; injection hk' with hk'; subst hk'
      exact ⟨hK, .inl ⟨rfl, hn⟩⟩
    · exact S.core.heap k b hk'
  · intro k k' b b' g g' hk hk' hg hg' hgg
    have hk1 : look ((st.n, AB.arr t K []) :: st.h) k = some b := hk
    have hk2 : look ((st.n, AB.arr t K []) :: st.h) k' = some b' := hk'
    rw [look_cons] at hk1 hk2
    split at hk1
    · rename_i e; subst e; rw [hn] at hg; cases hg
    · split at hk2
      · rename_i e; subst e; rw [hn] at hg'; cases hg'
      · exact S.core.inj k k' b b' g g' hk1 hk2 hg hg' hgg
  · intro k b g hk hg
    have hk1 : look ((st.n, AB.arr t K []) :: st.h) k = some b := hk
    rw [look_cons] at hk1
    split at hk1
    · rename_i e; subst e; rw [hn] at hg; cases hg
    · exact S.own k b g hk1 hg
  · intro k b hk
    have hk1 : look ((st.n, AB.arr t K []) :: st.h) k = some b := hk
    show k < st.n + 1
    rw [look_cons] at hk1
    split at hk1
    · omega
    · have := S.hn k b hk1; omega

/-! contracts -/
structure OutRel (base : Nat) (T : Nat → Prop) (w' : World) (σ : Nat → Option Adr) (T' : Nat → Prop) (av : AV) (nb : List (Nat × AB)) (v : Value) : Prop where
  rel : ARel σ T' w' av v
  Tle : ∀ b, b < base → T' b → T b
  Tge : ∀ b, T b → T' b
  Tlt : ∀ b, T' b → b < w'.heap.size
  heap : ∀ k b, (k, b) ∈ nb → HRel σ T' w' (σ k) b
  fresh : ∀ k b g, (k, b) ∈ nb → σ k = some g → base ≤ g.g
  inj : ∀ k k' b b' g g', (k, b) ∈ nb → (k', b') ∈ nb → σ k = some g → σ k' = some g' → g.g = g'.g → k = k'
/-- What a function answers that leaves alone all that was there: the values' and new blocks' data. -/
def Fn (P : Program) (f : FuncId) (ins : List GV) (av : AV) (nb : List (Nat × AB)) : Prop :=
  ∀ (T : Nat → Prop) (w : World) (args : Array Value), (∀ b, T b → b < w.heap.size) → All2 (GRel (fun _ => none) T w) ins args.toList →
    Calls P f args w fun e w' => ∃ v σ T', e = .returned v ∧ Below w.heap.size w w' ∧ OutRel w.heap.size T w' σ T' av nb v
def slotsOf : Nat → List GV → List (Nat × AV)
  | _, [] => []
  | i, x :: l => (i, .v x) :: slotsOf (i + 1) l
theorem slotsOf_look {l : List GV} : ∀ {i j : Nat} {v : AV}, look (slotsOf i l) j = some v → ∃ g, v = .v g ∧ i ≤ j ∧ l[j - i]? = some g := by
  induction l with
  | nil => intro i j v h; cases h
  | cons x l ih =>
    intro i j v h
    have h' : look ((i, .v x) :: slotsOf (i + 1) l) j = some v := h
    rw [look_cons] at h'
    split at h'
    · rename_i e; subst e; injection h' with h'; exact ⟨x, h'.symm, Nat.le_refl _, by simp⟩
    · rename_i e
      obtain ⟨g, h1, h2, h3⟩ := ih h'
      refine ⟨g, h1, by omega, ?_⟩
      rw [show j - i = (j - (i + 1)) + 1 by omega]
      simpa using h3
/-- One result variable's value. -/
inductive RV (P : Program) (st : AState) : ResultVar → GV → Prop
  | tmp {t : Tmp} {g : GV} (h : look st.s t = some (.v g)) : RV P st (.tmp t) g
  | agg {a : Tmp} {ty k t : Nat} {cs : List CV} (h : look st.s a = some (.v (.c (.p k 0 0 0)))) (hb : look st.h k = some (.box t cs)) (ha : ∀ w, (isAgg ty).run P w = .ok true w) (hz : (P.info? ty).map (·.size) = some cs.length) : RV P st (.cell a ty) (.g cs)
  | one {a : Tmp} {ty k t : Nat} {c : CV} (h : look st.s a = some (.v (.c (.p k 0 0 0)))) (hb : look st.h k = some (.box t [c])) (ha : ∀ w, (isAgg ty).run P w = .ok false w) : RV P st (.cell a ty) (.c c)
def RVs (P : Program) (st : AState) : List ResultVar → List GV → Prop
  | [], [] => True
  | r :: rs, g :: gs => RV P st r g ∧ RVs P st rs gs
  | _, _ => False
def outOf : List GV → AV
  | [g] => .v g
  | gs => .t gs
def retQ (P : Program) (fn : Func) (pin : List (Nat × Adr)) (av : AV) (nb : List (Nat × AB)) : Exit → AState → Prop := fun e st =>
  (e = .ret ∨ e = .normal) ∧ ∃ st' gs, Weak pin st st' ∧ RVs P st' fn.results.toList gs ∧ outOf gs = av ∧ AllL (fun x => look st'.h x.1 = some x.2) nb
theorem run_loadVar_box {P : Program} {w : World} {ty g t o : Nat} {vs : List Value} {ws : List Value} (hg : w.heap[g]? = some (.cells vs.toArray t (0, 0))) (ha : (isAgg ty).run P w = .ok true w) (hz : (P.info? ty).map (·.size) = some ws.length)
    (hw : ∀ j v, ws[j]? = some v → vs[o + j]? = some v) : (loadVar ty ⟨g, o, none⟩).run P w = .ok (.agg ws.toArray) w := by
  have hl : (loadCells ⟨g, o, none⟩ ws.length).run P w = .ok ws.toArray w :=
    run_loadCells_list (P := P) w ⟨g, o, none⟩ ws (fun j v hv => by
      rw [Addr.add_lit, cell_of_row w g (o + j) vs.toArray t (0, 0) hg]
      simpa using hw j v hv)
  cases hq : P.info? ty with
  | none => simp [hq] at hz
  | some i =>
    have hs : i.size = ws.length := by simpa [hq] using hz
    simp [loadVar, ha, sizeOf, typeInfo, hq, hs, hl]
theorem run_loadVar_one {P : Program} {w : World} {ty : Nat} {a : Addr} {v : Value} (ha : (isAgg ty).run P w = .ok false w) (hc : w.cell? a = some v) : (loadVar ty a).run P w = .ok v w := by
  simp [loadVar, ha, run_load, hc]
def rvSem (a : Act) : ResultVar → Sem Value
  | .tmp t => pure (a.tmps.getD t undef)
  | .cell x t => do loadVar t (← asAddr (a.tmps.getD x undef))
theorem RV.run {P : Program} {σ : Nat → Option Adr} {T : Nat → Prop} {st : AState} {a : Act} {w : World} (C : Core σ T st a w) {r : ResultVar} {g : GV} (h : RV P st r g) :
    ∃ v, (rvSem a r).run P w = .ok v w ∧ GRel σ T w g v := by
  cases h with
  | tmp h => exact ⟨_, rfl, C.slots _ _ h⟩
  | agg h hb ha hz =>
    obtain ⟨gg, h1, h2⟩ := C.slots _ _ h
    obtain ⟨g2, vs, h3, _, h4, h5⟩ := C.heap _ _ hb
    rw [h1] at h3; injection h3 with h3; subst h3
    refine ⟨_, ?_, vs, rfl, h5⟩
    simp only [rvSem, h2, asAddr, Sem.run_bind, Sem.run_pure, Result.andThen_ok]
    exact run_loadVar_box (vs := vs) h4 (ha w) (by rw [← h5.length]; exact hz) fun j v hv => by rw [Nat.zero_mul]; simpa using hv
  | one h hb ha =>
    obtain ⟨gg, h1, h2⟩ := C.slots _ _ h
    obtain ⟨g2, vs, h3, _, h4, h5⟩ := C.heap _ _ hb
    rw [h1] at h3; injection h3 with h3; subst h3
    obtain ⟨v, hv, hr⟩ := h5.get (i := 0) rfl
    refine ⟨v, ?_, hr⟩
    simp only [rvSem, h2, asAddr, Sem.run_bind, Sem.run_pure, Result.andThen_ok]
    exact run_loadVar_one (ha w) (by rw [Nat.zero_mul, Nat.zero_add, cell_of_row w gg.g 0 vs.toArray _ (0, 0) h4]; simpa using hv)
theorem RVs.run {P : Program} {σ : Nat → Option Adr} {T : Nat → Prop} {st : AState} {a : Act} {w : World} (C : Core σ T st a w) : ∀ {rs : List ResultVar} {gs : List GV}, RVs P st rs gs →
    ∃ vs, (rs.mapM (rvSem a)).run P w = .ok vs w ∧ All2 (GRel σ T w) gs vs
  | [], [], _ => ⟨[], by simp, trivial⟩
  | r :: rs, g :: gs, h => by
    obtain ⟨v, hv, hr⟩ := RV.run C h.1
    obtain ⟨vs, hvs, hrs⟩ := RVs.run C h.2
    refine ⟨v :: vs, ?_, hr, hrs⟩
    rw [List.mapM_cons]
    simp only [Sem.run_bind, hv, hvs, Result.andThen_ok, Sem.run_pure]
  | [], _ :: _, h => h.elim
  | _ :: _, [], h => h.elim
theorem run_results {P : Program} {fn : Func} {σ : Nat → Option Adr} {T : Nat → Prop} {st : AState} {a : Act} {w : World} (C : Core σ T st a w) {gs : List GV} (h : RVs P st fn.results.toList gs) : ∃ v, (results fn a.tmps).run P w = .ok v w ∧ ARel σ T w (outOf gs) v := by
  obtain ⟨vs, hvs, hr⟩ := RVs.run C h
  have hl := hr.length
  refine ⟨if h : vs.length = 1 then vs[0] else .tuple vs.toArray, ?_, ?_⟩
  · have he : results fn a.tmps = (do
        let vs ← Functor.map List.toArray (fn.results.toList.mapM (rvSem a))
        pure (if h : vs.size = 1 then vs[0] else .tuple vs)) := by
      unfold results
      rw [Array.mapM_eq_mapM_toList]
      congr 2
    rw [he]
    simp [hvs]
  · match gs, vs, hr, hl with
    | [], [], _, _ => exact ⟨[], rfl, trivial⟩
    | [g], [v], hr, _ => exact hr.1
    | g :: g' :: gs, v :: v' :: vs, hr, _ =>
      rw [dif_neg (by simp)]
      exact ⟨_, rfl, hr⟩
theorem Fn.mk {P : Program} {f : FuncId} {fn : Func} {c : Code} {ins : List GV} {av : AV} {nb : List (Nat × AB)} (hf : P.funcs[f]? = some fn) (hb : fn.body = some c) (hN : ins.length ≤ fn.ntmps)
    (h : ∀ (W0 : World) (T : Nat → Prop), AC P W0 (fun _ => False) (fn.ntmps, []) T [] (retQ P fn [] av nb) c { s := slotsOf 0 ins, h := [], n := 0 }) : Fn P f ins av nb := by
  intro T w args hT hin
  have hlen := hin.length
  have hlen : ins.length = args.size := by simpa using hlen
  refine calls_of_wp hf hb (Code.wp_mono ?_ (h w T _ w ⟨fun _ => none, T, fun _ _ => ⟨fun h => h, fun h => h⟩, ⟨⟨?_, ?_, ?_, hT⟩, rfl, rfl, rfl, Nat.le_refl _, fun _ _ _ => rfl, ?_, fun _ _ => rfl, ?_, ?_, rfl⟩, fun _ _ h => by cases h⟩))
  · rintro e a' w' ⟨st, ⟨he, st', gs, hw, hr, rfl, hnb⟩, hI⟩
    obtain ⟨σ, T', hT', S, _⟩ := hw _ _ _ _ _ _ hI
    obtain ⟨v, hv, hrel⟩ := run_results S.core hr
    have hpost : a'.defers = [] ∧ ∃ v, (results fn a'.tmps).run P w' = .ok v w' ∧ ∃ v' σ T', Ending.returned v = .returned v' ∧ Below w.heap.size w w' ∧ OutRel w.heap.size T w' σ T' (outOf gs) nb v' := by
      refine ⟨S.dfr, v, hv, v, σ, T', rfl, ⟨S.os, S.tape, S.output, S.size, fun b hb => S.old b hb (fun h => h)⟩, ?_⟩
      exact ⟨hrel, fun b hb => (hT' b hb).1, fun b hb => (hT' b (hT b hb)).2 hb, S.core.Tlt, fun k b hk => S.core.heap k b (hnb.mem _ hk), fun k b g hk hg => (S.own k b g (hnb.mem _ hk) hg).resolve_right (fun h => h),
        fun k k' b b' g g' hk hk' hg hg' hgg => S.core.inj k k' b b' g g' (hnb.mem _ hk) (hnb.mem _ hk') hg hg' hgg⟩
    rcases he with rfl | rfl <;> exact hpost
  · intro i v hi
    obtain ⟨g, rfl, _, hg⟩ := slotsOf_look hi
    obtain ⟨x, hx, hrel⟩ := hin.get hg
    have hx' : (args ++ Array.replicate (fn.ntmps - args.size) undef).getD i undef = x := by
      rw [Nat.sub_zero] at hx
      have hlt := (List.getElem?_eq_some_iff.1 hx).1
      rw [Array.getD_eq_getD_getElem?, Array.getElem?_append_left (by simpa using hlt), ← Array.getElem?_toList, hx]
      rfl
    show GRel _ T w g _
    rw [hx']
    exact hrel
  · intro k b hk; cases hk
  · intro k k' b b' g g' hk; cases hk
  · intro k b g hk; cases hk
  · intro k b hk; cases hk
  · simp; omega
end Go.Proofs.Ytgmcdlfmifijlaa.Dev
