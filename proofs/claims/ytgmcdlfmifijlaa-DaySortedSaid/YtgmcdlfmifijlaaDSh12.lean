/- The symbolic heap: calls of functions that write into what they are handed; no condition. -/
import Derived.Test.YtgmcdlfmifijlaaDSh11
set_option linter.unusedVariables false
set_option linter.unusedSimpArgs false
namespace Go.Proofs.Ytgmcdlfmifijlaa.Dev
open Go.RowKit

section
variable {P : Program} {st : AState} {o : Oper}
theorem CRel.anti {σ : Nat → Option Adr} {T T' : Nat → Prop} {w : World} (h : ∀ b, T' b → T b) {x : CV} {v : Value} (hx : CRel σ T w x v) : CRel σ T' w x v := by
  cases x with
  | any => trivial
  | d x => exact DRel.anti h hx
  | p k i K o => exact hx
  | q row o =>
    obtain ⟨b, off, h1, h2, h3, h4⟩ := hx
    refine ⟨b, off, h1, h2, fun hb => h3 (h b hb), fun j d hj => ?_⟩
    obtain ⟨u, hu, hr⟩ := h4 j d hj
    exact ⟨u, hu, hr.anti h⟩
  | s k i K n => exact hx
  | sx k i K n c e => exact hx
  | m k => exact hx
  | fn f caps => exact hx
theorem GRel.anti {σ : Nat → Option Adr} {T T' : Nat → Prop} {w : World} (h : ∀ b, T' b → T b) {x : GV} {v : Value} (hx : GRel σ T w x v) : GRel σ T' w x v := by
  cases x with
  | c x => exact CRel.anti h (x := x) hx
  | g xs => obtain ⟨vs, h1, h2⟩ := hx; exact ⟨vs, h1, h2.mono fun _ _ hh => hh.anti h⟩
theorem HRel.anti {σ : Nat → Option Adr} {T T' : Nat → Prop} {w : World} (h : ∀ b, T' b → T b) {og : Option Adr} (hin : ∀ g, og = some g → T g.g → T' g.g) {b : AB} (hx : HRel σ T w og b) : HRel σ T' w og b := by
  cases b with
  | box t cs => obtain ⟨g, vs, h1, h2, h3, h4⟩ := hx; exact ⟨g, vs, h1, hin g h1 h2, h3, h4.mono fun _ _ hh => hh.anti h⟩
  | arr t K rows =>
    refine ⟨hx.1, ?_⟩
    rcases hx.2 with h1 | ⟨g, vs, h1, h2, h3, h4, h5, h6⟩
    · exact .inl h1
    · exact .inr ⟨g, vs, h1, hin g h1 h2, h3, h4, h5, h6.1, fun i row hi => ⟨(h6.2 i row hi).1, fun j d hj => by
        obtain ⟨u, hu, hr⟩ := (h6.2 i row hi).2 j d hj
        exact ⟨u, hu, hr.anti h⟩⟩⟩
  | map es cl => obtain ⟨g, ms, h1, h2, h3⟩ := hx; exact ⟨g, ms, h1, hin g h1 h2, h3⟩
theorem CRel.up {σ : Nat → Option Adr} {T : Nat → Prop} {w : World} {x : CV} {v : Value} (hx : CRel (fun _ => none) T w x v) : CRel σ T w x v := by
  cases x with
  | any => trivial
  | d x => exact hx
  | p k i K o => obtain ⟨g, h, _⟩ := hx; cases h
  | q row o => exact hx
  | s k i K n => rcases hx with h | ⟨g, h, _⟩
                 · exact .inl h
                 · cases h
  | sx k i K n c e => obtain ⟨g, off, h, _⟩ := hx; cases h
  | m k => obtain ⟨g, h, _⟩ := hx; cases h
  | fn f caps =>
    obtain ⟨gs, h1, h2⟩ := hx
    cases caps with
    | nil => cases gs with
      | nil => exact ⟨[], rfl, h2⟩
      | cons => cases h1
    | cons => cases gs with
      | nil => cases h1
      | cons => rw [List.map_cons, List.map_cons, List.cons.injEq] at h1; cases h1.1
theorem GRel.up {σ : Nat → Option Adr} {T : Nat → Prop} {w : World} {x : GV} {v : Value} (hx : GRel (fun _ => none) T w x v) : GRel σ T w x v := by
  cases x with
  | c x => exact CRel.up (x := x) hx
  | g xs => obtain ⟨vs, h1, h2⟩ := hx; exact ⟨vs, h1, h2.mono fun _ _ hh => hh.up⟩
/-- An argument of such a call: data, or what the callee may write. -/
def ArgM (st : AState) (E : List Nat) (ρ : Nat → Nat) (p : Nat → Bool) (g y : GV) : Prop := (g = y.map ρ ∧ y.ok p = true) ∨ ArgG st E g y
def EvM (st : AState) (E : List Nat) (ρ : Nat → Nat) (p : Nat → Bool) : List Operand → List GV → Prop
  | [], [] => True
  | x :: xs, y :: ys => (∃ g, ev st x (.v g) ∧ ArgM st E ρ p g y) ∧ EvM st E ρ p xs ys
  | _, _ => False
def boxIn (h : List (Nat × AB)) (k : Nat) : Bool := match look h k with | some (.box _ _) => true | _ => false
/-- what a callee may keep under its name: it has an address -/
def Kept (h : List (Nat × AB)) (k : Nat) : Prop := boxIn h k = true ∨ ∃ t K rows, look h k = some (.arr t K rows) ∧ 0 < rows.length
theorem keeps_all {h : List (Nat × AB)} {keep : List Nat} (hk : keep.all (fun k => boxIn h k) = true) : ∀ k ∈ keep, Kept h k := fun k hm => .inl (List.all_eq_true.1 hk k hm)
theorem nodup_map {l : List Nat} {ρ : Nat → Nat} (h : nodupB (l.map ρ) = true) : ∀ k k', k ∈ l → k' ∈ l → ρ k = ρ k' → k = k' := by
  induction l with
  | nil => intro _ _ h; cases h
  | cons j l ih =>
    simp only [List.map_cons, nodupB, Bool.and_eq_true, Bool.not_eq_true', List.any_eq_false] at h
    have far : ∀ k, k ∈ l → ρ j ≠ ρ k := fun k hm e => h.1 (ρ k) (List.mem_map.2 ⟨k, hm, rfl⟩) (by rw [e]; exact Nat.beq_refl _)
    intro k k' hk hk' he
    rcases List.mem_cons.1 hk with rfl | h1
    · rcases List.mem_cons.1 hk' with h2 | h2
      · exact h2.symm
      · exact absurd he (far _ h2)
    · rcases List.mem_cons.1 hk' with rfl | h2
      · exact absurd he.symm (far _ h1)
      · exact ih h.2 k k' h1 h2 he
def pull (μ : Nat → Nat) (σ' σ : Nat → Option Adr) : List Nat → Nat → Option Adr
  | [], j => σ j
  | k :: l, j => if μ k = j then σ' k else pull μ σ' σ l j
theorem pull_hit {μ : Nat → Nat} {σ' σ : Nat → Option Adr} {l : List Nat} (hi : ∀ k k', k ∈ l → k' ∈ l → μ k = μ k' → k = k') {k : Nat} (hk : k ∈ l) : pull μ σ' σ l (μ k) = σ' k := by
  induction l with
  | nil => cases hk
  | cons j l ih =>
    show (if μ j = μ k then σ' j else pull μ σ' σ l (μ k)) = σ' k
    by_cases e : μ j = μ k
    · rw [if_pos e, hi j k List.mem_cons_self hk e]
    · rw [if_neg e]
      exact ih (fun a b ha hb => hi a b (List.mem_cons_of_mem _ ha) (List.mem_cons_of_mem _ hb)) ((List.mem_cons.1 hk).resolve_left fun h => e (by rw [h]))
theorem pull_miss {μ : Nat → Nat} {σ' σ : Nat → Option Adr} {l : List Nat} {j : Nat} (h : ∀ k ∈ l, μ k ≠ j) : pull μ σ' σ l j = σ j := by
  induction l with
  | nil => rfl
  | cons k l ih =>
    show (if μ k = j then σ' k else pull μ σ' σ l j) = σ j
    rw [if_neg (h k List.mem_cons_self)]
    exact ih fun k hk => h k (List.mem_cons_of_mem _ hk)
/-- a call of a function that writes into what it is handed: hin are its names for that, ρ are ours; what it keeps under its name has ours behind it -/
theorem g_callM_core {f : FuncId} {c : Call} {ins : List GV} {hin : List (Nat × AB)} {keep : List Nat} {av av' : AV} {nb nb' : List (Nat × AB)} {EE : List Nat} {p : D → Prop} (ρ μ : Nat → Nat) (E : List Nat) (hF : FnE P f ins hin keep av nb) (hen : Enters P f) (ho : o.op = .call c) (hc : c.callee = .value (.func f))
    (hargs : EvM st E ρ (keyIn hin) c.args.toList ins) (hheap : AllL (fun x => look st.h (ρ x.1) = some (x.2.map' ρ)) hin) (hokin : hin.all (fun x => x.2.ok (keyIn hin)) = true) (hinj : nodupB ((keys hin).map ρ) = true) (hE : hin.all (fun x => !memB (ρ x.1) E) = true) (hEl : E.all (fun e => keyIn st.h e) = true)
    (hkeep : ∀ k ∈ keep, Kept hin k) (hEE : (keys hin).map ρ = EE) (hμ : nodupB ((keys nb).map μ) = true) (hμk : (keys nb).all (fun k => (memB k keep && Nat.beq (μ k) (ρ k)) || (!memB k keep && !memB (μ k) EE)) = true)
    (hg : av.good p) (hgb : AllL (fun x => x.2.good p) nb) (hok : av.ok (keyIn nb) = true) (hokb : nb.all (fun x => x.2.ok (keyIn nb)) = true) (hav : av.map μ = av') (hnb : mapNb μ nb = nb')
    (hD : ∀ (σ : Nat → Option Adr) (T Tc T' : Nat → Prop) (w' : World) d v, (∀ b, T' b → T b ∨ Tc b) → (∀ b, lessT σ T E b → Tc b) → p d → DRel Tc w' d v → DRel T' w' d v) : GOp P o st av' nb' EE := by
  intro σ T a w C hnew
  subst hav hnb hEE
  have hinj' := nodup_map hinj
  have hin_mem : ∀ k, keyIn hin k = true → k ∈ keys hin := fun k hk => by
    obtain ⟨b, hb⟩ := keyIn_mem hk
    exact List.mem_map.2 ⟨(k, b), hb, rfl⟩
  have mem_in : ∀ k, k ∈ keys hin → keyIn hin k = true := fun k hk => by
    obtain ⟨x, hx, rfl⟩ := List.mem_map.1 hk
    exact mem_keyIn (b := x.2) hx
  let σc : Nat → Option Adr := fun k => if keyIn hin k = true then σ (ρ k) else none
  have hσc : ∀ k, keyIn hin k = true → σc k = σ (ρ k) := fun k hk => if_pos hk
  let Tc := lessT σ T E
  have hlow : ∀ b, Tc b → T b := fun b h => h.1
  have hsep : ∀ k b g, (k, b) ∈ hin → σ (ρ k) = some g → Tc g.g := by
    intro k b g hk hg
    refine ⟨(C.heap _ _ (hheap.mem _ hk)).inT hg, fun e he g' hg' hgg => ?_⟩
    obtain ⟨b', hb'⟩ := keyIn_mem (List.all_eq_true.1 hEl e he)
    have hb' : ∃ b', look st.h e = some b' := by
      have := List.all_eq_true.1 hEl e he
      cases hl : look st.h e with
      | none => simp [keyIn, hl] at this
      | some b' => exact ⟨b', rfl⟩
    obtain ⟨b', hb'⟩ := hb'
    have heq := C.inj e (ρ k) b' _ g' g hb' (hheap.mem _ hk) hg' hg hgg
    have := List.all_eq_true.1 hE _ hk
    simp only [Bool.not_eq_true'] at this
    rw [← heq, memB_iff.2 he] at this
    cases this
  have hh : ∀ k b, (k, b) ∈ hin → HRel σc Tc w (σc k) b := by
    intro k b hk
    have hkin := mem_keyIn hk
    rw [hσc k hkin]
    refine HRel.anti hlow (fun g hg _ => hsep k b g hk hg) ?_
    exact HRel.ren (ρ := ρ) hσc (C.heap _ _ (hheap.mem _ hk)) (List.all_eq_true.1 hokin _ hk)
  have hij : ∀ k k' b b' g g', (k, b) ∈ hin → (k', b') ∈ hin → σc k = some g → σc k' = some g' → g.g = g'.g → k = k' := by
    intro k k' b b' g g' hk hk' hg hg' hgg
    rw [hσc k (mem_keyIn hk)] at hg
    rw [hσc k' (mem_keyIn hk')] at hg'
    exact hinj' k k' (hin_mem _ (mem_keyIn hk)) (hin_mem _ (mem_keyIn hk')) (C.inj _ _ _ _ g g' (hheap.mem _ hk) (hheap.mem _ hk') hg hg' hgg)
  have hkp : ∀ k ∈ keep, keyIn hin k = true ∧ ∃ g, σ (ρ k) = some g := by
    intro k hk
    rcases hkeep k hk with this | ⟨t, K, rows, hl, hpos⟩
    · unfold boxIn at this
      cases hl : look hin k with
      | none => simp [hl] at this
      | some b =>
        cases b with
        | box t cs =>
          refine ⟨by simp [keyIn, hl], ?_⟩
          obtain ⟨g, _, h1, _⟩ := C.heap _ _ (hheap.mem _ (look_mem hl))
          exact ⟨g, h1⟩
        | arr => simp [hl] at this
        | map => simp [hl] at this
    · refine ⟨by simp [keyIn, hl], ?_⟩
      obtain ⟨_, h1 | ⟨g, _, h1, _⟩⟩ := C.heap _ _ (hheap.mem _ (look_mem hl))
      · obtain ⟨h1, _⟩ := h1
        rw [h1] at hpos; cases hpos
      · exact ⟨g, h1⟩
  have hrel : All2 (GRel σc Tc w) ins (c.args.map a.eval).toList := by
    rw [Array.toList_map]
    have gen : ∀ (xs : List Operand) (ys : List GV), EvM st E ρ (keyIn hin) xs ys → All2 (GRel σc Tc w) ys (xs.map a.eval) := by
      intro xs
      induction xs with
      | nil => intro ys h; cases ys with
        | nil => trivial
        | cons => exact h.elim
      | cons x xs ih =>
        intro ys h
        cases ys with
        | nil => exact h.elim
        | cons y ys =>
          refine ⟨?_, ih ys h.2⟩
          obtain ⟨g, h1, h2 | h2⟩ := h.1
          · obtain ⟨h2, h3⟩ := h2
            subst h2
            exact GRel.anti hlow (GRel.ren (ρ := ρ) hσc (x := y) (ev_rel C h1) h3)
          · exact GRel.up (h2.rel C (ev_rel C h1))
    exact gen _ _ hargs
  refine wp_call ho hc hen ((hF Tc σc w _ (fun b h => C.Tlt b h.1) hh hij (fun k hk => ?_) hrel).mono ?_)
  · obtain ⟨h1, g, h2⟩ := hkp k hk
    exact ⟨g, by rw [hσc k h1, h2]⟩
  rintro e w' ⟨v, σ', T', rfl, R⟩
  let T2 : Nat → Prop := fun b => T b ∨ T' b
  let σ2 := pull μ σ' σ (keys nb)
  have hμ' := nodup_map hμ
  have hσ2 : ∀ k, keyIn nb k = true → σ2 (μ k) = σ' k := fun k hk => by
    obtain ⟨b, hb⟩ := keyIn_mem hk
    exact pull_hit hμ' (List.mem_map.2 ⟨(k, b), hb, rfl⟩)
  have hD' : ∀ d v, p d → DRel T' w' d v → DRel T2 w' d v := fun d v => hD σ T T' T2 w' d v (fun b h => h) R.Tge
  have hmem : ∀ k b, (k, b) ∈ mapNb μ nb → ∃ k0 b0, (k0, b0) ∈ nb ∧ k = μ k0 ∧ b = b0.map' μ := by
    intro k b h
    obtain ⟨⟨k0, b0⟩, h1, h2⟩ := List.mem_map.1 h
    injection h2 with h2 h3
    exact ⟨k0, b0, h1, h2.symm, h3.symm⟩
  have hcase : ∀ k ∈ keys nb, (k ∈ keep ∧ μ k = ρ k) ∨ (k ∉ keep ∧ μ k ∉ (keys hin).map ρ) := by
    intro k hk
    have := List.all_eq_true.1 hμk k hk
    simp only [Bool.or_eq_true, Bool.and_eq_true, Bool.not_eq_true'] at this
    rcases this with ⟨h1, h2⟩ | ⟨h1, h2⟩
    · exact .inl ⟨memB_iff.1 h1, Nat.eq_of_beq_eq_true h2⟩
    · exact .inr ⟨fun h => (Bool.eq_false_iff.1 h1) (memB_iff.2 h), fun h => (Bool.eq_false_iff.1 h2) (memB_iff.2 h)⟩
  have C2 : ∀ b, (∃ k ∈ (keys hin).map ρ, ∃ g, σ k = some g ∧ g.g = b) ↔ ∃ k ∈ keys hin, ∃ g, σc k = some g ∧ g.g = b := by
    intro b
    constructor
    · rintro ⟨k, hk, g, hg, hgb⟩
      obtain ⟨k0, hk0, rfl⟩ := List.mem_map.1 hk
      exact ⟨k0, hk0, g, by rw [hσc k0 (mem_in k0 hk0)]; exact hg, hgb⟩
    · rintro ⟨k, hk, g, hg, hgb⟩
      rw [hσc k (mem_in k hk)] at hg
      exact ⟨ρ k, List.mem_map.2 ⟨k, hk, rfl⟩, g, hg, hgb⟩
  refine ⟨v, rfl, v, σ2, T2, rfl, ⟨R.os, R.tape, R.output, ⟨R.size, fun b hb hno => R.old b hb fun k hk g hg hgb => hno ((C2 b).2 ⟨k, hk, g, hg, hgb⟩), fun b hb => ?_, fun b hb h => ?_, fun j g hj => ?_⟩, fun b h => .inl h, fun b h => ?_, fun j hj => ?_, ?_, ?_, ?_⟩, R.rel.back hD' hσ2 hg hok⟩
  · obtain ⟨k, hk, g, hg, rfl⟩ := hb
    obtain ⟨k0, hk0, rfl⟩ := List.mem_map.1 hk
    obtain ⟨x, hx, rfl⟩ := List.mem_map.1 hk0
    exact (C.heap _ _ (hheap.mem x hx)).inT hg
  · rcases h with h | h
    · exact h
    · exact (R.Tle b hb h).1
  · show pull μ σ' σ (keys nb) j = some g
    by_cases hex : ∃ k ∈ keys nb, μ k = j
    · obtain ⟨k, hk, rfl⟩ := hex
      rw [pull_hit hμ' hk]
      rcases hcase k hk with ⟨h1, h2⟩ | ⟨h1, h2⟩
      · rw [R.kept k h1, hσc k (hkp k h1).1, ← h2]; exact hj
      · obtain ⟨x, hx, rfl⟩ := List.mem_map.1 hk
        have := hnew (μ x.1) (x.2.map' μ) (List.mem_map.2 ⟨x, hx, rfl⟩) h2
        rw [this] at hj; cases hj
    · rw [pull_miss fun k hk e => hex ⟨k, hk, e⟩]; exact hj
  · rcases h with h | h
    · exact Nat.lt_of_lt_of_le (C.Tlt b h) R.size
    · exact R.Tlt b h
  · exact pull_miss fun k hk e => by
      obtain ⟨x, hx, rfl⟩ := List.mem_map.1 hk
      exact hj (x.2.map' μ) (List.mem_map.2 ⟨x, hx, by rw [e]⟩)
  · intro k b h
    obtain ⟨k0, b0, h1, rfl, rfl⟩ := hmem k b h
    rw [hσ2 k0 (mem_keyIn h1)]
    exact (R.heap k0 b0 h1).back hD' hσ2 (fun b h => .inr h) (hgb.mem _ h1) (List.all_eq_true.1 hokb _ h1)
  · intro k b g h hg
    obtain ⟨k0, b0, h1, rfl, rfl⟩ := hmem k b h
    rw [hσ2 k0 (mem_keyIn h1)] at hg
    rcases R.fresh k0 b0 g h1 hg with h2 | ⟨e, he, g', hg', hgg⟩
    · exact .inl h2
    · exact .inr ((C2 g.g).2 ⟨e, he, g', hg', hgg⟩)
  · intro k k' b b' g g' h h' hg hg' hgg
    obtain ⟨k0, b0, h1, rfl, rfl⟩ := hmem k b h
    obtain ⟨k1, b1, h2, rfl, rfl⟩ := hmem k' b' h'
    rw [hσ2 k0 (mem_keyIn h1)] at hg
    rw [hσ2 k1 (mem_keyIn h2)] at hg'
    rw [R.inj k0 k1 b0 b1 g g' h1 h2 hg hg' hgg]
theorem g_callM {f : FuncId} {c : Call} {ins : List GV} {hin : List (Nat × AB)} {keep : List Nat} {av av' : AV} {nb nb' : List (Nat × AB)} {EE : List Nat} (ρ μ : Nat → Nat) (hF : FnE P f ins hin keep av nb) (hen : Enters P f) (ho : o.op = .call c) (hc : c.callee = .value (.func f))
    (hargs : EvM st [] ρ (keyIn hin) c.args.toList ins) (hheap : AllL (fun x => look st.h (ρ x.1) = some (x.2.map' ρ)) hin) (hokin : hin.all (fun x => x.2.ok (keyIn hin)) = true) (hinj : nodupB ((keys hin).map ρ) = true)
    (hkeep : keep.all (fun k => boxIn hin k) = true) (hEE : (keys hin).map ρ = EE) (hμ : nodupB ((keys nb).map μ) = true) (hμk : (keys nb).all (fun k => (memB k keep && Nat.beq (μ k) (ρ k)) || (!memB k keep && !memB (μ k) EE)) = true)
    (hg : av.good (fun _ => True)) (hgb : AllL (fun x => x.2.good fun _ => True) nb) (hok : av.ok (keyIn nb) = true) (hokb : nb.all (fun x => x.2.ok (keyIn nb)) = true) (hav : av.map μ = av') (hnb : mapNb μ nb = nb') : GOp P o st av' nb' EE :=
  g_callM_core ρ μ [] hF hen ho hc hargs hheap hokin hinj (by simp [memB]) rfl (keeps_all hkeep) hEE hμ hμk hg hgb hok hokb hav hnb fun σ T Tc T' w' d v h1 h2 _ h => h.anti fun b hb => by
    rcases h1 b hb with h | h
    · exact h2 b ⟨h, fun k hk => by cases hk⟩
    · exact h
theorem g_callME {f : FuncId} {c : Call} {ins : List GV} {hin : List (Nat × AB)} {keep : List Nat} {av av' : AV} {nb nb' : List (Nat × AB)} {EE : List Nat} (ρ μ : Nat → Nat) (E : List Nat) (hF : FnE P f ins hin keep av nb) (hen : Enters P f) (ho : o.op = .call c) (hc : c.callee = .value (.func f))
    (hargs : EvM st E ρ (keyIn hin) c.args.toList ins) (hheap : AllL (fun x => look st.h (ρ x.1) = some (x.2.map' ρ)) hin) (hokin : hin.all (fun x => x.2.ok (keyIn hin)) = true) (hinj : nodupB ((keys hin).map ρ) = true) (hE : hin.all (fun x => !memB (ρ x.1) E) = true) (hEl : E.all (fun e => keyIn st.h e) = true)
    (hkeep : keep.all (fun k => boxIn hin k) = true) (hEE : (keys hin).map ρ = EE) (hμ : nodupB ((keys nb).map μ) = true) (hμk : (keys nb).all (fun k => (memB k keep && Nat.beq (μ k) (ρ k)) || (!memB k keep && !memB (μ k) EE)) = true)
    (hg : av.good (fun d => d.isV = true)) (hgb : AllL (fun x => x.2.good fun d => d.isV = true) nb) (hok : av.ok (keyIn nb) = true) (hokb : nb.all (fun x => x.2.ok (keyIn nb)) = true) (hav : av.map μ = av') (hnb : mapNb μ nb = nb') : GOp P o st av' nb' EE :=
  g_callM_core ρ μ E hF hen ho hc hargs hheap hokin hinj hE hEl (keeps_all hkeep) hEE hμ hμk hg hgb hok hokb hav hnb fun σ T Tc T' w' d v h1 h2 hp h => by
    cases d with
    | v x => cases h; exact .v _ (by assumption)
    | r => cases hp
    | f => cases hp
theorem g_callMA {f : FuncId} {c : Call} {ins : List GV} {hin : List (Nat × AB)} {keep : List Nat} {av av' : AV} {nb nb' : List (Nat × AB)} {EE : List Nat} (ρ μ : Nat → Nat) (hF : FnE P f ins hin keep av nb) (hen : Enters P f) (ho : o.op = .call c) (hc : c.callee = .value (.func f))
    (hargs : EvM st [] ρ (keyIn hin) c.args.toList ins) (hheap : AllL (fun x => look st.h (ρ x.1) = some (x.2.map' ρ)) hin) (hokin : hin.all (fun x => x.2.ok (keyIn hin)) = true) (hinj : nodupB ((keys hin).map ρ) = true)
    (hkeep : AllL (Kept hin) keep) (hEE : (keys hin).map ρ = EE) (hμ : nodupB ((keys nb).map μ) = true) (hμk : (keys nb).all (fun k => (memB k keep && Nat.beq (μ k) (ρ k)) || (!memB k keep && !memB (μ k) EE)) = true)
    (hg : av.good (fun _ => True)) (hgb : AllL (fun x => x.2.good fun _ => True) nb) (hok : av.ok (keyIn nb) = true) (hokb : nb.all (fun x => x.2.ok (keyIn nb)) = true) (hav : av.map μ = av') (hnb : mapNb μ nb = nb') : GOp P o st av' nb' EE :=
  g_callM_core ρ μ [] hF hen ho hc hargs hheap hokin hinj (by simp [memB]) rfl (fun k hk => hkeep.mem k hk) hEE hμ hμk hg hgb hok hokb hav hnb fun σ T Tc T' w' d v h1 h2 _ h => h.anti fun b hb => by
    rcases h1 b hb with h | h
    · exact h2 b ⟨h, fun k hk => by cases hk⟩
    · exact h
theorem g_callMEA {f : FuncId} {c : Call} {ins : List GV} {hin : List (Nat × AB)} {keep : List Nat} {av av' : AV} {nb nb' : List (Nat × AB)} {EE : List Nat} (ρ μ : Nat → Nat) (E : List Nat) (hF : FnE P f ins hin keep av nb) (hen : Enters P f) (ho : o.op = .call c) (hc : c.callee = .value (.func f))
    (hargs : EvM st E ρ (keyIn hin) c.args.toList ins) (hheap : AllL (fun x => look st.h (ρ x.1) = some (x.2.map' ρ)) hin) (hokin : hin.all (fun x => x.2.ok (keyIn hin)) = true) (hinj : nodupB ((keys hin).map ρ) = true) (hE : hin.all (fun x => !memB (ρ x.1) E) = true) (hEl : E.all (fun e => keyIn st.h e) = true)
    (hkeep : AllL (Kept hin) keep) (hEE : (keys hin).map ρ = EE) (hμ : nodupB ((keys nb).map μ) = true) (hμk : (keys nb).all (fun k => (memB k keep && Nat.beq (μ k) (ρ k)) || (!memB k keep && !memB (μ k) EE)) = true)
    (hg : av.good (fun d => d.isV = true)) (hgb : AllL (fun x => x.2.good fun d => d.isV = true) nb) (hok : av.ok (keyIn nb) = true) (hokb : nb.all (fun x => x.2.ok (keyIn nb)) = true) (hav : av.map μ = av') (hnb : mapNb μ nb = nb') : GOp P o st av' nb' EE :=
  g_callM_core ρ μ E hF hen ho hc hargs hheap hokin hinj hE hEl (fun k hk => hkeep.mem k hk) hEE hμ hμk hg hgb hok hokb hav hnb fun σ T Tc T' w' d v h1 h2 hp h => by
    cases d with
    | v x => cases h; exact .v _ (by assumption)
    | r => cases hp
    | f => cases hp
end
section
variable {P : Program} {W0 : World} {F : Nat → Prop} {N : NT} {T0 : Nat → Prop} {pin : List (Nat × Adr)} {ops : Array Oper} {Q : Exit → AState → Prop} {s : List (Nat × AV)} {h : List (Nat × AB)} {n : Nat}
theorem keyIn_some {h : List (Nat × AB)} {k : Nat} (hk : keyIn h k = true) : ∃ b, look h k = some b := by
  cases hl : look h k with
  | none => simp [keyIn, hl] at hk
  | some b => exact ⟨b, rfl⟩
/-- its answer -/
theorem AL.callM {o : Oper} {rest : List Oper} {d n' : Nat} {av : AV} {nb h' : List (Nat × AB)} {E : List Nat} (hw : Wanted ops o ⟨s, h, n⟩) (g : GOp P o ⟨s, h, n⟩ av nb E) (hd : o.dst = some d) (hN : Nat.blt d N.1 = true) (hE : E.all (fun e => keyIn h e) = true) (hnb : nb.all (fun x => memB x.1 E || Nat.ble n x.1) = true) (hn : maxId nb n = n') (hh : nb ++ del E h = h') (k : AL P W0 F N T0 pin ops Q rest ⟨(d, av) :: s, h', n'⟩) : AL P W0 F N T0 pin ops Q (o :: rest) ⟨s, h, n⟩ :=
  AL.op hw g (fun d' h' => by rw [hd] at h'; injection h' with h'; subst h'; rw [Nat.blt_eq] at hN; exact hN) (fun e he => keyIn_some (List.all_eq_true.1 hE e he)) (fun k b hk hkE => by
    have := List.all_eq_true.1 hnb _ hk
    simp only [Bool.or_eq_true] at this
    rcases this with h | h
    · exact absurd (memB_iff.1 h) hkE
    · exact Nat.le_of_ble_eq_true h) (by
    have e : (AState.add ⟨s, h, n⟩ nb E) = ⟨s, h', n'⟩ := by simp [AState.add, ← hn, ← hh]
    rw [e, hd]; exact k)
/-- an array of the call's own is known only so far -/
theorem Weak.cut {s : List (Nat × AV)} {h h' : List (Nat × AB)} {n : Nat} (k m : Nat) {t K : Nat} {rows rows' : List (List D)} (hb : look h k = some (.arr t K rows)) (hr : rows.take m = rows') (hh : upH h k (.arr t K rows') = h') : Weak pin ⟨s, h, n⟩ ⟨s, h', n⟩ := by
  subst hr hh
  rintro W0 F N T0 a w ⟨σ, T, hT, S, hp⟩
  have cases_ : ∀ i b, look (upH h k (.arr t K (rows.take m))) i = some b → (i = k ∧ b = .arr t K (rows.take m)) ∨ (i ≠ k ∧ look h i = some b) := by
    intro i b hi
    rcases look_upH hi with h1 | h1 | h1
    · exact .inl h1
    · exact .inr h1
    · exact h1.2.elim
  have old : ∀ i b, look (upH h k (.arr t K (rows.take m))) i = some b → ∃ b0, look h i = some b0 := fun i b hi => by
    rcases cases_ i b hi with ⟨rfl, _⟩ | ⟨_, h1⟩
    · exact ⟨_, hb⟩
    · exact ⟨_, h1⟩
  refine ⟨σ, T, hT, ⟨⟨S.core.slots, ?_, ?_, S.core.Tlt⟩, S.os, S.tape, S.output, S.size, S.old, ?_, S.next, ?_, S.tsz, S.dfr⟩, hp⟩
  · intro i b hi
    rcases cases_ i b hi with ⟨rfl, rfl⟩ | ⟨_, h1⟩
    · obtain ⟨hK, h1⟩ := S.core.heap _ _ hb
      refine ⟨hK, ?_⟩
      rcases h1 with ⟨h1, h2⟩ | ⟨g, vs, h1, h2, h3, h4, h5, h6⟩
      · exact .inl ⟨by rw [h1]; simp, h2⟩
      · refine .inr ⟨g, vs, h1, h2, h3, h4, h5, ?_, fun i row hi => ?_⟩
        · refine Nat.le_trans (Nat.mul_le_mul_right K ?_) h6.1
          rw [List.length_take]; omega
        · rw [List.getElem?_take] at hi
          split at hi
          · exact h6.2 i row hi
          · cases hi
    · exact S.core.heap i b h1
  · intro i i' b b' g g' hi hi' hg hg' hgg
    obtain ⟨b0, h0⟩ := old i b hi
    obtain ⟨b1, h1⟩ := old i' b' hi'
    exact S.core.inj i i' b0 b1 g g' h0 h1 hg hg' hgg
  · intro i b g hi hg
    obtain ⟨b0, h0⟩ := old i b hi
    exact S.own i b0 g h0 hg
  · intro i b hi
    obtain ⟨b0, h0⟩ := old i b hi
    exact S.hn i b0 h0
end
end Go.Proofs.Ytgmcdlfmifijlaa.Dev
