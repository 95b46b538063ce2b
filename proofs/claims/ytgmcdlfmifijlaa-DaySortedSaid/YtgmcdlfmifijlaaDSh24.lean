/- The symbolic heap: other worlds, other bases; a function that ranges over a function; no condition. -/
import Derived.Test.YtgmcdlfmifijlaaDSh23
set_option linter.unusedVariables false
set_option linter.unusedSimpArgs false
namespace Go.Proofs.Ytgmcdlfmifijlaa.Dev
open Go.RowKit
/-- whatever is cells (and maps, if m) lies as it lay -/
structure Keeps (m : Bool) (W W' : World) : Prop where
  size : W.heap.size ≤ W'.heap.size
  cells : ∀ (b : Nat) (o : Obj), W.heap[b]? = some o → o.isCells = true → W'.heap[b]? = some o
  maps : m = true → ∀ (b : Nat) ms c, W.heap[b]? = some (.map ms c) → W'.heap[b]? = some (.map ms c)
theorem Keeps.cell {m : Bool} {W W' : World} (K : Keeps m W W') {a : Addr} {v : Value} (h : W.cell? a = some v) : W'.cell? a = some v := by
  obtain ⟨o, ho, hc⟩ := cells_of_cell h
  exact (World.cell?_of_block ((K.cells _ _ ho hc).trans ho.symm)).trans h
theorem DRel.keep {m : Bool} {T : Nat → Prop} {W W' : World} (K : Keeps m W W') {d : D} {v : Value} (h : DRel T W d v) : DRel T W' d v := by
  induction h with
  | v x hx => exact .v x hx
  | nil k A c => exact .nil k A c
  | r k rows b off c cs hb hT hc hm hK hcell hd ih => exact .r k rows b off c cs (Nat.lt_of_lt_of_le hb K.size) hT hc hm hK (fun i row j d h1 h2 => K.cell (hcell i row j d h1 h2)) ih
  | f fn caps bs offs cs hb hcell hd ih => exact .f fn caps bs offs cs (fun i hi => ⟨Nat.lt_of_lt_of_le (hb i hi).1 K.size, (hb i hi).2⟩) (fun i row j d h1 h2 => K.cell (hcell i row j d h1 h2)) ih
theorem CRel.keep {m : Bool} {σ : Nat → Option Adr} {T : Nat → Prop} {W W' : World} (K : Keeps m W W') {c : CV} {v : Value} (h : CRel σ T W c v) : CRel σ T W' c v := by
  cases c with
  | any => trivial
  | d x => exact DRel.keep K h
  | p => exact h
  | q row o =>
    obtain ⟨b, off, h1, h2, h3, h4⟩ := h
    exact ⟨b, off, h1, Nat.lt_of_lt_of_le h2 K.size, h3, fun j d hj => by obtain ⟨u, hu, hr⟩ := h4 j d hj; exact ⟨u, K.cell hu, hr.keep K⟩⟩
  | s => exact h
  | sx => exact h
  | m => exact h
  | fn => exact h
theorem GRel.keep {m : Bool} {σ : Nat → Option Adr} {T : Nat → Prop} {W W' : World} (K : Keeps m W W') {g : GV} {v : Value} (h : GRel σ T W g v) : GRel σ T W' g v := by
  cases g with
  | c x => exact CRel.keep K h
  | g xs => obtain ⟨vs, h1, h2⟩ := h; exact ⟨vs, h1, h2.mono fun _ _ hh => CRel.keep K hh⟩
theorem ARel.keep {m : Bool} {σ : Nat → Option Adr} {T : Nat → Prop} {W W' : World} (K : Keeps m W W') {x : AV} {v : Value} (h : ARel σ T W x v) : ARel σ T W' x v := by
  cases x with
  | v x => exact GRel.keep K h
  | t xs => obtain ⟨vs, h1, h2⟩ := h; exact ⟨vs, h1, h2.mono fun _ _ hh => GRel.keep K hh⟩
def isMapB : AB → Bool
  | .map _ _ => true
  | _ => false
theorem HRel.keep {m : Bool} {σ : Nat → Option Adr} {T : Nat → Prop} {W W' : World} (K : Keeps m W W') {og : Option Adr} {b : AB} (hb : m = true ∨ isMapB b = false) (h : HRel σ T W og b) : HRel σ T W' og b := by
  cases b with
  | box t cs => obtain ⟨g, vs, h1, h2, h3, h4⟩ := h; exact ⟨g, vs, h1, h2, K.cells _ _ h3 rfl, h4.mono fun _ _ hh => CRel.keep K hh⟩
  | arr t k rows =>
    obtain ⟨h0, h | ⟨g, vs, h1, h2, h3, h4, h5, h6⟩⟩ := h
    · exact ⟨h0, .inl h⟩
    · exact ⟨h0, .inr ⟨g, vs, h1, h2, K.cells _ _ h3 rfl, h4, h5, h6.1, fun i row hr => ⟨(h6.2 i row hr).1, fun j d hj => by obtain ⟨u, hu, hd⟩ := (h6.2 i row hr).2 j d hj; exact ⟨u, hu, hd.keep K⟩⟩⟩⟩
  | map es c =>
    obtain ⟨g, ms, h1, h2, h3, h4⟩ := h
    have hm : m = true := hb.resolve_right (by simp [isMapB])
    exact ⟨g, ms, h1, h2, K.maps hm _ _ _ h3, h4⟩
def noMaps (st : AState) : Bool := st.h.all fun x => !isMapB x.2
theorem noMaps_look {st : AState} (h : noMaps st = true) {k : Nat} {b : AB} (hk : look st.h k = some b) : isMapB b = false := by
  have := List.all_eq_true.1 h _ (look_mem hk)
  simpa using this
section
variable {W0 : World} {F : Nat → Prop} {N : NT} {T0 : Nat → Prop} {pin : List (Nat × Adr)} {st : AState} {a : Go.Act} {W : World}
theorem Inv.keep {m : Bool} {W' : World} (hI : Inv W0 F N T0 pin st a W) (K : Keeps m W W') (hm : m = true ∨ noMaps st = true) (hos : W'.os = W.os) (htp : W'.tape = W.tape) (hout : W'.output = W.output) (hold : ∀ b, b < W0.heap.size → W'.heap[b]? = W.heap[b]?) : Inv W0 F N T0 pin st a W' := by
  obtain ⟨σ, T, hT, S, hp⟩ := hI
  refine ⟨σ, T, hT, ⟨⟨fun i v h => (S.core.slots i v h).keep K, fun k b h => HRel.keep K (hm.imp id fun h' => noMaps_look h' h) (S.core.heap k b h), S.core.inj, fun b h => Nat.lt_of_lt_of_le (S.core.Tlt b h) K.size⟩, hos.trans S.os, htp.trans S.tape, hout.trans S.output, Nat.le_trans S.size K.size, fun b hb hF => (hold b hb).trans (S.old b hb hF), S.own, S.next, S.hn, S.tsz, S.dfr⟩, hp⟩
theorem keeps_of_grown {W' : World} {row : Option Nat} (hg : W.grownBy W' row) (hr : ∀ r, row = some r → ∃ o : Obj, W.heap[r]? = some o ∧ o.isCells = false) : Keeps false W W' :=
  ⟨hg.size, fun b o ho hc => (grownBy_keeps_cells hg hr ho hc).trans ho, fun h => by cases h⟩
/-- new blocks, and a turn of one that is no cells, are nothing to it -/
theorem Inv.own (hm : noMaps st = true) {W' : World} {row : Option Nat} (hI : Inv W0 F N T0 pin st a W) (hg : W.grownBy W' row) (hr : ∀ r, row = some r → W0.heap.size ≤ r ∧ ∃ o : Obj, W.heap[r]? = some o ∧ o.isCells = false) : Inv W0 F N T0 pin st a W' := by
  have hsz : W0.heap.size ≤ W.heap.size := by obtain ⟨_, _, _, S, _⟩ := hI; exact S.size
  refine hI.keep (keeps_of_grown hg fun r e => (hr r e).2) (.inr hm) hg.os hg.tape hg.output fun b hb => hg.block b (by omega) ?_
  intro e
  have := (hr b e.symm).1
  omega
/-- the state told from the world that is there now; and back -/
theorem Inv.rebase (hm : noMaps st = true) (hI : Inv W0 F N T0 pin st a W) : ∃ F' T', Inv W F' N T' pin st a W ∧ (∀ b, F' b → T' b ∧ ∃ o, W.heap[b]? = some o ∧ o.isCells = true) ∧ (∀ b, F' b → W0.heap.size ≤ b ∨ F b) ∧
    (∀ b, T' b → b < W.heap.size) ∧ ∀ {N' : NT} {pin' : List (Nat × Adr)} {st' : AState} {a' : Go.Act} {W' : World}, Inv W F' N' T' pin' st' a' W' → Inv W0 F N' T0 pin' st' a' W' := by
  obtain ⟨σ, T, hT, S, hp⟩ := hI
  refine ⟨fun b => ∃ k x g, look st.h k = some x ∧ σ k = some g ∧ g.g = b, T, ⟨σ, T, fun _ _ => ⟨fun h => h, fun h => h⟩, ⟨S.core, rfl, rfl, rfl, Nat.le_refl _, fun _ _ _ => rfl, fun k b g hk hg => .inr ⟨k, b, g, hk, hg, rfl⟩, S.next, S.hn, S.tsz, S.dfr⟩, hp⟩, ?_, ?_, S.core.Tlt, ?_⟩
  · rintro b ⟨k, x, g, hk, hg, rfl⟩
    have hh := S.core.heap k x hk
    cases x with
    | box t cs => obtain ⟨g', vs, h1, h2, h3, _⟩ := hh; rw [hg] at h1; injection h1 with h1; subst h1; exact ⟨h2, _, h3, rfl⟩
    | arr t kk rows =>
      obtain ⟨_, ⟨_, h⟩ | ⟨g', vs, h1, h2, h3, _⟩⟩ := hh
      · rw [hg] at h; cases h
      · rw [hg] at h1; injection h1 with h1; subst h1; exact ⟨h2, _, h3, rfl⟩
    | map => have := noMaps_look hm hk; simp [isMapB] at this
  · rintro b ⟨k, x, g, hk, hg, rfl⟩
    exact S.own k x g hk hg
  · rintro N' pin' st' a' W' ⟨σ', T', hT', S', hp'⟩
    refine ⟨σ', T', fun b hb => ?_, ⟨S'.core, S'.os.trans S.os, S'.tape.trans S.tape, S'.output.trans S.output, Nat.le_trans S.size S'.size, fun b hb hF => ?_, fun k b g hk hg => ?_, S'.next, S'.hn, S'.tsz, S'.dfr⟩, hp'⟩
    · have h1 := hT' b (Nat.lt_of_lt_of_le hb S.size)
      have h2 := hT b hb
      exact ⟨fun h => h2.1 (h1.1 h), fun h => h1.2 (h2.2 h)⟩
    · rw [S'.old b (Nat.lt_of_lt_of_le hb S.size) ?_, S.old b hb hF]
      rintro ⟨k, x, g, hk, hg, rfl⟩
      rcases S.own k x g hk hg with h | h
      · omega
      · exact hF h
    · rcases S'.own k b g hk hg with h | ⟨k', x, g', hk', hg', e⟩
      · exact .inl (Nat.le_trans S.size h)
      · rw [← e]; exact S.own k' x g' hk' hg'
/-- data of the base's world, in a later one -/
theorem DRel.old {σ : Nat → Option Adr} {T : Nat → Prop} (hF : ∀ b, F b → T0 b) (hT : ∀ b, b < W0.heap.size → (T b → T0 b) ∧ (T0 b → T b)) (S : Sim W0 F N σ T st a W) {d : D} {v : Value} (h : DRel T0 W0 d v) : DRel T W d v := by
  have cell : ∀ b o u, b < W0.heap.size → ¬ T0 b → W0.cell? ⟨b, o, none⟩ = some u → W.cell? ⟨b, o, none⟩ = some u := fun b o u hb hn hc =>
    (cell_of_heap (S.old b hb fun h => hn (hF b h)) o).trans hc
  induction h with
  | v x hx => exact .v x hx
  | nil k A c => exact .nil k A c
  | r k rows b off c cs hb hn hc hm hK hcell hd ih => exact .r k rows b off c cs (Nat.lt_of_lt_of_le hb S.size) (fun h => hn ((hT b hb).1 h)) hc hm hK (fun i row j d h1 h2 => cell _ _ _ hb hn (hcell i row j d h1 h2)) ih
  | f fn caps bs offs cs hb hcell hd ih => exact .f fn caps bs offs cs (fun i hi => ⟨Nat.lt_of_lt_of_le (hb i hi).1 S.size, fun h => (hb i hi).2 ((hT _ (hb i hi).1).1 h)⟩) (fun i row j d h1 h2 => by
      have hi := (List.getElem?_eq_some_iff.1 h1).1
      exact cell _ _ _ (hb i hi).1 (hb i hi).2 (hcell i row j d h1 h2)) ih
/-- slots of another activation: data of the base's world, pointers to what is pinned -/
def FixOne (T0 : Nat → Prop) (W0 : World) (pin : List (Nat × Adr)) (a : Go.Act) (x : Nat × AV) : Prop :=
  (∃ d, x.2 = .v (.c (.d d)) ∧ DRel T0 W0 d (a.tmps.getD x.1 undef)) ∨ ∃ k g, x.2 = .v (.c (.p k 0 0 0)) ∧ look pin k = some g ∧ a.tmps.getD x.1 undef = .pointer (some ⟨g.g, 0, none⟩)
theorem Inv.fix {s s' : List (Nat × AV)} {h : List (Nat × AB)} {n : Nat} {N' : NT} {a' : Go.Act} (hF : ∀ b, F b → T0 b) (hfix : AllL (FixOne T0 W0 pin a) s) (hI : Inv W0 F N' T0 pin ⟨s', h, n⟩ a' W) (hsz : a.tmps.size = N.1) (hd : a.defers = N.2) : Inv W0 F N T0 pin ⟨s, h, n⟩ a W := by
  obtain ⟨σ, T, hT, S, hp⟩ := hI
  refine ⟨σ, T, hT, ⟨⟨fun i v hi => ?_, S.core.heap, S.core.inj, S.core.Tlt⟩, S.os, S.tape, S.output, S.size, S.old, S.own, S.next, S.hn, hsz, hd⟩, hp⟩
  rcases hfix.mem _ (look_mem hi) with ⟨d, h1, h2⟩ | ⟨k, g, h1, h2, h3⟩
  · have h1 : v = _ := h1
    subst h1
    exact DRel.old hF hT S h2
  · have h1 : v = _ := h1
    subst h1
    exact ⟨g, hp k g h2, h3⟩
/-- two of its blocks get their addresses' names -/
theorem Inv.pin2 {k1 k2 : Nat} (hI : Inv W0 F N T0 [] st a W) (h1 : boxIn st.h k1 = true) (h2 : boxIn st.h k2 = true) : ∃ g1 g2, Inv W0 F N T0 [(k1, g1), (k2, g2)] st a W := by
  obtain ⟨σ, T, hT, S, hp⟩ := hI
  have get : ∀ k, boxIn st.h k = true → ∃ g, σ k = some g := fun k hk => by
    unfold boxIn at hk
    cases hl : look st.h k with
    | none => simp [hl] at hk
    | some b =>
      cases b with
      | box t cs => obtain ⟨g, _, h, _⟩ := S.core.heap _ _ hl; exact ⟨g, h⟩
      | arr => simp [hl] at hk
      | map => simp [hl] at hk
  obtain ⟨g1, e1⟩ := get k1 h1
  obtain ⟨g2, e2⟩ := get k2 h2
  refine ⟨g1, g2, σ, T, hT, S, fun k g hk => ?_⟩
  rw [look_cons] at hk
  split at hk
  · rename_i e; subst e; injection hk with hk; subst hk; exact e1
  · rw [look_cons] at hk
    split at hk
    · rename_i e; subst e; injection hk with hk; subst hk; exact e2
    · cases hk
/-- what Fn asks of an end -/
def postFn (W0 : World) (T : Nat → Prop) (av : AV) (nb : List (Nat × AB)) : Ending → World → Prop := fun e w' => ∃ v σ T', e = .returned v ∧ Below W0.heap.size W0 w' ∧ OutRel W0.heap.size T w' σ T' av nb v
/-- what is answered, where calls were put off for a loop -/
theorem ret_marks {P : Program} {fn : Func} {av : AV} {nb : List (Nat × AB)} {e : Exit} {T : Nat → Prop} (hT0 : ∀ b, T b → b < W0.heap.size) (hq : retQ P fn pin av nb e st) (hI : Inv W0 (fun _ => False) N T pin st a W) (hN : N.2 = [] ∨ ∃ D, N.2 = [{ target := .collected D, args := #[] }] ∧ W0.heap.size ≤ D ∧ W.heap[D]? = some (.deferred (some []))) :
    bodyPostM Fence.wide 0 P fn (postFn W0 T av nb) e a W := by
  obtain ⟨he, st', gs, hw, hr, rfl, hnb⟩ := hq
  have hI' := hw _ _ _ _ _ _ hI
  have fin : ∀ w', Inv W0 (fun _ => False) N T pin st' a w' → ∃ v, (results fn a.tmps).run P w' = .ok v w' ∧ ∃ v' σ T', Ending.returned v = .returned v' ∧ Below W0.heap.size W0 w' ∧ OutRel W0.heap.size T w' σ T' (outOf gs) nb v' := by
    rintro w' ⟨σ, T', hT', S, _⟩
    obtain ⟨v, hv, hrel⟩ := run_results S.core hr
    refine ⟨v, hv, v, σ, T', rfl, ⟨S.os, S.tape, S.output, S.size, fun b hb => S.old b hb (fun h => h)⟩, ?_⟩
    exact ⟨hrel, fun b hb => (hT' b hb).1, fun b hb => (hT' b (hT0 b hb)).2 hb, S.core.Tlt, fun k b hk => S.core.heap k b (hnb.mem _ hk), fun k b g hk hg => (S.own k b g (hnb.mem _ hk) hg).resolve_right (fun h => h),
      fun k k' b b' g g' hk hk' hg hg' hgg => S.core.inj k k' b b' g g' (hnb.mem _ hk) (hnb.mem _ hk') hg hg' hgg⟩
  have hd : a.defers = N.2 := by obtain ⟨_, _, _, S, _⟩ := hI; exact S.dfr
  have main : LeavesInM Fence.wide 0 P fn a.tmps (fun e w' => ∃ v σ T', e = .returned v ∧ Below W0.heap.size W0 w' ∧ OutRel W0.heap.size T w' σ T' (outOf gs) nb v) a.defers .returning W := by
    rw [hd]
    rcases hN with hN | ⟨D, hN, hD, hobj⟩
    · rw [hN]; exact fin W hI'
    · rw [hN]
      refine ⟨by simp, .inl ⟨D, _, rfl, run_takeDeferred hobj, ?_⟩⟩
      refine fin _ (hI'.keep (m := true) ⟨?_, ?_, ?_⟩ (.inl rfl) rfl rfl rfl fun b hb => World.putObj_heap_other (by omega))
      · simp
      · intro b o ho hc
        by_cases e : b = D
        · subst e; rw [hobj] at ho; injection ho with ho; subst ho; cases hc
        · exact (World.putObj_heap_other e).trans ho
      · intro _ b ms c ho
        by_cases e : b = D
        · subst e; rw [hobj] at ho; cases ho
        · exact (World.putObj_heap_other e).trans ho
  rcases he with rfl | rfl <;> exact main
/-! code whose end is told of worlds -/
def ACX (P : Program) (W0 : World) (F : Nat → Prop) (N : NT) (T0 : Nat → Prop) (pin : List (Nat × Adr)) (Qf : Exit → Go.Act → World → Prop) (c : Code) (st : AState) : Prop := ∀ a w, Inv W0 F N T0 pin st a w → c.wp P Qf a w
def XQ (W0 : World) (F : Nat → Prop) (N : NT) (T0 : Nat → Prop) (pin : List (Nat × Adr)) (Qf : Exit → Go.Act → World → Prop) : Exit → AState → Prop := fun e st => ∀ a w, Inv W0 F N T0 pin st a w → Qf e a w
theorem ACX.seq {P : Program} {Qf : Exit → Go.Act → World → Prop} {x y : Code} (h : AC P W0 F N T0 pin (thenQ (ACX P W0 F N T0 pin Qf y) (XQ W0 F N T0 pin Qf)) x st) : ACX P W0 F N T0 pin Qf (.seq x y) st := fun a w hI =>
  wp_seq (Code.wp_mono (fun e a w q => by
    obtain ⟨st', hq, hi⟩ := q
    cases e <;> exact hq a w hi) (h a w hI))
theorem ACX.seq2 {P : Program} {Qf : Exit → Go.Act → World → Prop} {x y z : Code} (h : AC P W0 F N T0 pin (thenQ (fun st => ∀ a w, Inv W0 F N T0 pin st a w → y.wp P (Exit.then (z.wp P Qf) Qf) a w) (XQ W0 F N T0 pin Qf)) x st) : ACX P W0 F N T0 pin Qf (.seq (.seq x y) z) st := fun a w hI =>
  wp_seq (wp_seq (Code.wp_mono (fun e a w q => by
    obtain ⟨st', hq, hi⟩ := q
    cases e <;> exact hq a w hi) (h a w hI)))
end
theorem Fn.mkX {P : Program} {f : FuncId} {fn : Func} {c : Code} {ins : List GV} {av : AV} {nb : List (Nat × AB)} (N : Nat) (s : List (Nat × AV)) (hf : P.funcs[f]? = some fn) (hb : fn.body = some c) (hn : fn.ntmps = N) (hN : Nat.ble ins.length N = true) (hs : slotsOf 0 ins = s)
    (h : ∀ (W0 : World) (T : Nat → Prop), (∀ b, T b → b < W0.heap.size) → ACX P W0 (fun _ => False) (N, []) T [] (bodyPostM Fence.wide 0 P fn (postFn W0 T av nb)) c ⟨s, [], 0⟩) : Fn P f ins av nb := by
  subst hn hs
  intro T w args hT hin
  have hlen := hin.length
  have hlen : ins.length = args.size := by simpa using hlen
  have hN := Nat.le_of_ble_eq_true hN
  refine callsIn_wide.1 (callsIn_of_wp_marks (n := 0) hf hb trivial (wpIn_wide.2 (h w T hT _ w ⟨fun _ => none, T, fun _ _ => ⟨fun h => h, fun h => h⟩, ⟨⟨?_, ?_, ?_, hT⟩, rfl, rfl, rfl, Nat.le_refl _, fun _ _ _ => rfl, ?_, fun _ _ => rfl, ?_, ?_, rfl⟩, fun _ _ h => by cases h⟩)) rfl)
  · intro i v hi
    obtain ⟨g, rfl, _, hg⟩ := slotsOf_look hi
    obtain ⟨x, hx, hrel⟩ := hin.get hg
    have hx' : (args ++ Array.replicate (fn.ntmps - args.size) undef).getD i undef = x := by
      rw [Nat.sub_zero] at hx
      have hlt := (List.getElem?_eq_some_iff.1 hx).1
      rw [Array.getD_eq_getD_getElem?, Array.getElem?_append_left (by simpa using hlt), ← Array.getElem?_toList, hx]
      rfl
    show GRel _ T w g _
    rw [hx']
    exact hrel
  · intro k b hk; cases hk
  · intro k k' b b' g g' hk; cases hk
  · intro k b g hk; cases hk
  · intro k b hk; cases hk
  · simp; omega
theorem assign_round {P : Program} {l n id : Nat} {o : Oper} {x : Operand} {a : Go.Act} {w : World} {K : Go.Act → World → Prop} (hg : o.guard = none) (ho : o.op = .assign x) (hK : K (a.put o.dst (a.eval x)) w) : (Code.region id #[o] false).wpIn (Fence.wide.inRound l) n P (Exit.then K (fun _ _ _ => False)) a w := by
  refine wpIn_region_lit (l := [o]) ?_
  unfold wpListIn
  rw [if_pos (by simp [Region.wanted, hg])]
  refine opIn (by rw [ho]; rfl) (fun ⟨_, _, h⟩ => h) (.inl ?_)
  exact wp_value (by unfold execOp; simp [ho]) hK
end Go.Proofs.Ytgmcdlfmifijlaa.Dev
