/- The symbolic heap: function values, and calls that write what is the call's own; no condition. -/
import Derived.Test.YtgmcdlfmifijlaaDSh10
import Derived.WalkSpells
set_option linter.unusedVariables false
set_option linter.unusedSimpArgs false
namespace Go.Proofs.Ytgmcdlfmifijlaa.Dev
open Go.RowKit

section
variable {P : Program} {st : AState} {o : Oper}
def EvC (st : AState) : List Operand → List Nat → Prop
  | [], [] => True
  | x :: xs, k :: ks => ev st x (.v (.c (.p k 0 0 0))) ∧ EvC st xs ks
  | _, _ => False
theorem evC_rel {σ : Nat → Option Adr} {T : Nat → Prop} {a : Act} {w : World} (C : Core σ T st a w) : ∀ {xs : List Operand} {ks : List Nat}, EvC st xs ks → ∃ gs : List Adr, ks.map σ = gs.map some ∧ xs.map a.eval = gs.map fun g => Value.pointer (some ⟨g.g, 0, none⟩)
  | [], [], _ => ⟨[], rfl, rfl⟩
  | x :: xs, k :: ks, h => by
    obtain ⟨g, h1, h2⟩ := ev_rel C h.1
    obtain ⟨gs, h3, h4⟩ := evC_rel C h.2
    exact ⟨g :: gs, by simp [h1, h3], by rw [List.map_cons, List.map_cons, h4, h2]⟩
  | [], _ :: _, h => h.elim
  | _ :: _, [], h => h.elim
theorem g_func {f : FuncId} {caps : Array Operand} {ks : List Nat} (ho : o.op = .makeFunc (.func f) #[] caps) (hc : EvC st caps.toList ks) : GOp P o st (.v (.c (.fn f ks))) [] [] :=
  GOp.val fun σ T a w C => by
    obtain ⟨gs, h1, h2⟩ := evC_rel C hc
    refine ⟨.func (.func f) #[] (gs.map fun g => Value.pointer (some ⟨g.g, 0, none⟩)).toArray, ?_, gs, h1, rfl⟩
    have : caps.map a.eval = (gs.map fun g => Value.pointer (some ⟨g.g, 0, none⟩)).toArray := by apply Array.toList_inj.1; rw [Array.toList_map]; exact h2
    unfold execOp
    simp [ho, Instr.makeFunc, this]
/-- a function value as data: a function with no variables caught -/
theorem g_funcD {f : FuncId} (ho : o.op = .move (.func f)) : GOp P o st (.v (.c (.d (.f f [])))) [] [] :=
  GOp.val fun σ T a w C => ⟨.func (.func f) #[] #[], by unfold execOp; simp [ho, Act.eval], DRel.f f [] (fun _ => 0) (fun _ => 0) (fun _ _ => undef) (fun i h => absurd h (Nat.not_lt_zero i)) (fun i row j d h => by simp at h) (fun i row j d h => by simp at h)⟩
theorem evA_append {σ : Nat → Option Adr} {T : Nat → Prop} {w : World} {xs ys : List GV} {vs us : List Value} (h : All2 (GRel σ T w) xs vs) (h' : All2 (GRel σ T w) ys us) : All2 (GRel σ T w) (xs ++ ys) (vs ++ us) := h.append h'
/-- a call of a function value that came in -/
theorem g_callF {f : FuncId} {c : Call} {x : Operand} {caps : List (List D)} {ins : List GV} {av av' : AV} {nb nb' : List (Nat × AB)} (n0 : Nat) (hF : Fn P f (ins ++ caps.map fun r => .c (.q r 0)) av nb) (hen : Enters P f) (ho : o.op = .call c) (hc : c.callee = .value x) (hx : ev st x (.v (.c (.d (.f f caps))))) (hargs : EvA st [] c.args.toList ins)
    (hg : av.good (fun _ => True)) (hgb : AllL (fun x => x.2.good fun _ => True) nb) (hok : av.ok (keyIn nb) = true) (hokb : nb.all (fun x => x.2.ok (keyIn nb)) = true) (hav : av.map (n0 + ·) = av') (hnb : mapNb (n0 + ·) nb = nb') : GOp P o st av' nb' [] := by
  intro σ T a w C hnew
  subst hav hnb
  have hv : DRel T w (.f f caps) (a.eval x) := ev_rel C hx
  generalize hve : a.eval x = v at hv
  cases hv with
  | f _ _ bs offs cs hb hcell hd =>
    have hlow : ∀ b, lessT σ T [] b → T b := fun b h => h.1
    have hcaps : All2 (GRel (fun _ => none) (lessT σ T []) w) (caps.map fun r => GV.c (.q r 0)) ((List.range caps.length).map fun i => Value.pointer (some ⟨bs i, offs i, none⟩)) := by
      refine all2_of_get (by simp) fun i g hg => ?_
      obtain ⟨hi, rfl⟩ := List.getElem?_eq_some_iff.1 hg
      simp at hi
      refine ⟨.pointer (some ⟨bs i, offs i, none⟩), by simp [hi], ?_⟩
      simp only [List.getElem_map]
      refine ⟨bs i, offs i, rfl, (hb i hi).1, fun h => (hb i hi).2 h.1, fun j d hj => ?_⟩
      have hr : caps[i]? = some caps[i] := List.getElem?_eq_getElem hi
      exact ⟨cs i j, hcell i _ j d hr hj, (hd i _ j d hr hj).anti hlow⟩
    have hrun : (execOp a.eval o).run P w = .ok (.enter f (c.args.map a.eval ++ ((List.range caps.length).map fun i => Value.pointer (some ⟨bs i, offs i, none⟩)).toArray)) w := by
      unfold execOp
      simp [ho, resolve, hc, hve, Deferred.ofValue, invoke]
      have := hen (c.args.map a.eval ++ ((List.range caps.length).map fun i => Value.pointer (some ⟨bs i, offs i, none⟩)).toArray) w
      simpa using this
    unfold Oper.wp
    rw [hrun]
    refine ((call_core hF n0 C (E := []) (args := c.args.map a.eval ++ ((List.range caps.length).map fun i => Value.pointer (some ⟨bs i, offs i, none⟩)).toArray) ?_ hg hgb hok hokb (fun k b h => hnew k b h (by simp)) fun Tc T' w' d v h1 h2 _ h => h.anti fun b hb => ?_).mono ?_)
    · rw [Array.toList_append, Array.toList_map]
      exact (evA_rel C hargs).append hcaps
    · rcases h1 b hb with h | h
      · exact h2 b ⟨h, fun k hk => by cases hk⟩
      · exact h
    · rintro e w' ⟨v, σ', T', rfl, X, hr⟩
      exact ⟨v, σ', T', rfl, X, hr⟩

/-- is a slice that is read nil? if so it has no rows -/
theorem AL.isnil {W0 : World} {F : Nat → Prop} {N : NT} {T0 : Nat → Prop} {pin : List (Nat × Adr)} {ops : Array Oper} {Q : Exit → AState → Prop} {s : List (Nat × AV)} {h : List (Nat × AB)} {n : Nat} {rest : List Oper} {d K : Nat} {t yt e : TypeId} {x : Operand} {rows : List (List D)}
    (hw : Wanted ops o ⟨s, h, n⟩) (ho : o.op = .binOp .eql t x (.const (.slice none 0 0)) yt) (hx : ev ⟨s, h, n⟩ x (.v (.c (.d (.r K rows))))) (hu : P.underlying t = some (.slice e)) (hd : o.dst = some d) (hN : Nat.blt d N.1 = true)
    (k : ∀ b : Bool, (b = true → rows = []) → AL P W0 F N T0 pin ops Q rest ⟨(d, aB b) :: s, h, n⟩) : AL P W0 F N T0 pin ops Q (o :: rest) ⟨s, h, n⟩ := by
  rintro a w ⟨σ, T, hT, S, hp⟩
  have hv : DRel T w (.r K rows) (a.eval x) := ev_rel S.core hx
  have key : ∀ b : Bool, (b = true → rows = []) → (execOp a.eval o).run P w = .ok (.value (.bool b)) w → wpList P ops (QX W0 F N T0 pin Q) (o :: rest) a w := by
    intro b hb hrun
    refine wpList_step fun K' hK => ?_
    rw [if_pos (hw σ T a w S.core)]
    refine wp_value hrun (hK _ _ (k b hb _ _ ⟨σ, T, hT, ?_, hp⟩))
    have := S.step (nb := []) (E := []) (dst := o.dst) (av := aB b) (u := .bool b) (fun _ h => by cases h) (fun d' h' => by rw [hd] at h'; injection h' with h'; subst h'; rw [Nat.blt_eq] at hN; exact hN) (Ext.same S.core.Tlt) (DRel.v _ rfl)
    rw [add_nil, hd] at this
    rw [hd]
    exact this
  generalize hve : a.eval x = v at hv
  have hrun : ∀ A l c, v = .slice A l c → (execOp a.eval o).run P w = .ok (.value (.bool A.isNone)) w := by
    intro A l c hA
    unfold execOp
    have hcst : a.eval (.const (.slice none 0 0)) = .slice none 0 0 := rfl
    simp [ho, hve, hA, hcst, eqGuard, binOp, run_equal_slice_nil w t e A l c hu]
  cases hv with
  | nil K A c => exact key _ (fun _ => rfl) (hrun A 0 c rfl)
  | r K rows b off c cs hb hT' hc hm hK hcell hd' => exact key false (fun h => by cases h) (hrun _ _ _ rfl)
theorem Weak.nilB {pin : List (Nat × Adr)} {s : List (Nat × AV)} {h h' : List (Nat × AB)} {n n' : Nat} (k j t K bt : Nat) {cs : List CV} (hK : 0 < K) (hb : look h k = some (.box bt cs)) (hc : cs[j]? = some cN) (hk : Nat.blt k n = true) (hn : n + 1 = n') (hh : (n, AB.arr t K []) :: upH h k (.box bt (cs.set j (.s n 0 K 0))) = h') : Weak pin ⟨s, h, n⟩ ⟨s, h', n'⟩ := by
  subst hh hn
  rintro W0 F N T0 a w ⟨σ, T, hT, S, hp⟩
  rw [Nat.blt_eq] at hk
  have hk : k < n := hk
  have hn := S.next n (Nat.le_refl _)
  have cases_ : ∀ i b, look ((n, AB.arr t K []) :: upH h k (.box bt (cs.set j (.s n 0 K 0)))) i = some b → (i = n ∧ b = .arr t K []) ∨ (i = k ∧ b = .box bt (cs.set j (.s n 0 K 0))) ∨ (i ≠ k ∧ look h i = some b) := by
    intro i b hi
    rw [look_cons] at hi
    split at hi
    · rename_i e; injection hi with hi; exact .inl ⟨e.symm, hi.symm⟩
    · rcases look_upH hi with h1 | h1 | h1
      · exact .inr (.inl h1)
      · exact .inr (.inr h1)
      · exact h1.2.elim
  refine ⟨σ, T, hT, ⟨⟨S.core.slots, ?_, ?_, S.core.Tlt⟩, S.os, S.tape, S.output, S.size, S.old, ?_, fun i hi => S.next i (by have : n + 1 ≤ i := hi; show n ≤ i; omega), ?_, S.tsz, S.dfr⟩, hp⟩
  · intro i b hi
    rcases cases_ i b hi with ⟨rfl, rfl⟩ | ⟨rfl, rfl⟩ | ⟨_, h1⟩
    · exact ⟨hK, .inl ⟨rfl, hn⟩⟩
    · obtain ⟨g, vs, h1, h2, h3, h4⟩ := S.core.heap _ _ hb
      refine ⟨g, vs, h1, h2, h3, ?_⟩
      obtain ⟨v, hv, hr⟩ := h4.get hc
      have hnil : v = .slice none 0 0 := DRel.inv hr
      have := h4.set (x := CV.s n 0 K 0) (y := v) (.inl ⟨rfl, hnil⟩) j
      have e : vs.set j v = vs := by
        apply List.ext_getElem?
        intro m
        rw [List.getElem?_set]
        split
        · rename_i e; subst e
          split
          · exact hv.symm
          · rename_i hlt; exact absurd (List.getElem?_eq_some_iff.1 hv).1 hlt
        · rfl
      rwa [e] at this
    · exact S.core.heap i b h1
  · intro i i' b b' g g' hi hi' hg hg' hgg
    have old : ∀ i b, look ((n, AB.arr t K []) :: upH h k (.box bt (cs.set j (.s n 0 K 0)))) i = some b → i ≠ n → ∃ b0, look h i = some b0 := fun i b hi hne => by
      rcases cases_ i b hi with ⟨h1, _⟩ | ⟨rfl, _⟩ | ⟨_, h1⟩
      · exact absurd h1 hne
      · exact ⟨_, hb⟩
      · exact ⟨_, h1⟩
    by_cases e : i = n
    · subst e; rw [hn] at hg; cases hg
    · by_cases e' : i' = n
      · subst e'; rw [hn] at hg'; cases hg'
      · obtain ⟨b0, h0⟩ := old i b hi e
        obtain ⟨b1, h1⟩ := old i' b' hi' e'
        exact S.core.inj i i' b0 b1 g g' h0 h1 hg hg' hgg
  · intro i b g hi hg
    rcases cases_ i b hi with ⟨rfl, rfl⟩ | ⟨rfl, rfl⟩ | ⟨_, h1⟩
    · rw [hn] at hg; cases hg
    · exact S.own _ _ g hb hg
    · exact S.own i b g h1 hg
  · intro i b hi
    show i < n + 1
    rcases cases_ i b hi with ⟨rfl, rfl⟩ | ⟨rfl, rfl⟩ | ⟨_, h1⟩
    · omega
    · omega
    · have := S.hn i b h1; have : i < n := this; omega
theorem retQ_weak {fn : Func} {pin : List (Nat × Adr)} {av : AV} {nb : List (Nat × AB)} {e : Exit} {st st1 : AState} (hw : Weak pin st st1) (h : retQ P fn pin av nb e st1) : retQ P fn pin av nb e st := by
  obtain ⟨he, st', gs, hw', h2⟩ := h
  exact ⟨he, st', gs, hw.trans hw', h2⟩

/-! contracts of functions that write into what they are handed -/
structure OutE (σ : Nat → Option Adr) (T : Nat → Prop) (w : World) (hin : List (Nat × AB)) (keep : List Nat) (w' : World) (σ' : Nat → Option Adr) (T' : Nat → Prop) (av : AV) (nb : List (Nat × AB)) (v : Value) : Prop where
  os : w'.os = w.os
  tape : w'.tape = w.tape
  output : w'.output = w.output
  size : w.heap.size ≤ w'.heap.size
  old : ∀ b, b < w.heap.size → (∀ k ∈ keys hin, ∀ g, σ k = some g → g.g ≠ b) → w'.heap[b]? = w.heap[b]?
  rel : ARel σ' T' w' av v
  Tle : ∀ b, b < w.heap.size → T' b → T b
  Tge : ∀ b, T b → T' b
  Tlt : ∀ b, T' b → b < w'.heap.size
  heap : ∀ k b, (k, b) ∈ nb → HRel σ' T' w' (σ' k) b
  fresh : ∀ k b g, (k, b) ∈ nb → σ' k = some g → w.heap.size ≤ g.g ∨ ∃ e ∈ keys hin, ∃ g', σ e = some g' ∧ g'.g = g.g
  inj : ∀ k k' b b' g g', (k, b) ∈ nb → (k', b') ∈ nb → σ' k = some g → σ' k' = some g' → g.g = g'.g → k = k'
  kept : ∀ k ∈ keep, σ' k = σ k
def FnE (P : Program) (f : FuncId) (ins : List GV) (hin : List (Nat × AB)) (keep : List Nat) (av : AV) (nb : List (Nat × AB)) : Prop :=
  ∀ (T : Nat → Prop) (σ : Nat → Option Adr) (w : World) (args : Array Value), (∀ b, T b → b < w.heap.size) → (∀ k b, (k, b) ∈ hin → HRel σ T w (σ k) b) →
    (∀ k k' b b' g g', (k, b) ∈ hin → (k', b') ∈ hin → σ k = some g → σ k' = some g' → g.g = g'.g → k = k') → (∀ k ∈ keep, ∃ g, σ k = some g) → All2 (GRel σ T w) ins args.toList →
    Calls P f args w fun e w' => ∃ v σ' T', e = .returned v ∧ OutE σ T w hin keep w' σ' T' av nb v
theorem look_mapk (pg : Nat → Adr) {k : Nat} : ∀ {l : List Nat}, k ∈ l → look (l.map fun k => (k, pg k)) k = some (pg k)
  | j :: l, h => by
    rw [List.map_cons, look_cons]
    by_cases e : j = k
    · subst e; rw [if_pos rfl]
    · rw [if_neg e]; exact look_mapk pg ((List.mem_cons.1 h).resolve_left (Ne.symm e))
theorem FnE.mk {f : FuncId} {fn : Func} {c : Code} {ins : List GV} {hin : List (Nat × AB)} {keep : List Nat} {av : AV} {nb : List (Nat × AB)} (N : Nat) (s : List (Nat × AV)) (n : Nat) (hf : P.funcs[f]? = some fn) (hb : fn.body = some c) (hn : fn.ntmps = N) (hN : Nat.ble ins.length N = true) (hs : slotsOf 0 ins = s)
    (hin0 : nodupB (keys hin) = true) (hin1 : hin.all (fun x => Nat.blt x.1 n) = true) (hok : ins.all (GV.ok (keyIn hin)) = true) (hokb : hin.all (fun x => x.2.ok (keyIn hin)) = true) (hkeep : keep.all (fun k => keyIn hin k) = true)
    (h : ∀ (W0 : World) (F T : Nat → Prop) (pg : Nat → Adr), AC P W0 F (N, []) T (keep.map fun k => (k, pg k)) (retQ P fn (keep.map fun k => (k, pg k)) av nb) c ⟨s, hin, n⟩) : FnE P f ins hin keep av nb := by
  subst hn hs
  intro T σ w args hT hheap hinj hk hargs
  have hlen := hargs.length
  have hlen : ins.length = args.size := by simpa using hlen
  have hN := Nat.le_of_ble_eq_true hN
  let σ0 : Nat → Option Adr := fun k => if keyIn hin k = true then σ k else none
  have hσ : ∀ k, keyIn hin k = true → σ0 k = σ (id k) := fun k hk => if_pos hk
  have hnd := nodupB_iff hin0
  let pg : Nat → Adr := fun k => (σ k).getD ⟨0, 0⟩
  have F : Nat → Prop := fun b => True
  clear F
  refine calls_of_wp hf hb (Code.wp_mono ?_ (h w (fun b => ∃ k ∈ keys hin, ∃ g, σ k = some g ∧ g.g = b) T pg _ w ⟨σ0, T, fun _ _ => ⟨fun h => h, fun h => h⟩, ⟨⟨?_, ?_, ?_, hT⟩, rfl, rfl, rfl, Nat.le_refl _, fun _ _ _ => rfl, ?_, ?_, ?_, ?_, rfl⟩, ?_⟩))
  · rintro e a' w' ⟨st, ⟨he, st', gs, hw, hr, rfl, hnb⟩, hI⟩
    obtain ⟨σ', T', hT', S, hp⟩ := hw _ _ _ _ _ _ hI
    obtain ⟨v, hv, hrel⟩ := run_results S.core hr
    have hpost : a'.defers = [] ∧ ∃ v, (results fn a'.tmps).run P w' = .ok v w' ∧ ∃ v' σ' T', Ending.returned v = .returned v' ∧ OutE σ T w hin keep w' σ' T' (outOf gs) nb v' := by
      refine ⟨S.dfr, v, hv, v, σ', T', rfl, S.os, S.tape, S.output, S.size, fun b hb hno => S.old b hb ?_, hrel, fun b hb => (hT' b hb).1, fun b hb => (hT' b (hT b hb)).2 hb, S.core.Tlt, fun k b hk => S.core.heap k b (hnb.mem _ hk), fun k b g hk hg => ?_,
        fun k k' b b' g g' hk hk' hg hg' hgg => S.core.inj k k' b b' g g' (hnb.mem _ hk) (hnb.mem _ hk') hg hg' hgg, fun k hkk => ?_⟩
      · rintro ⟨k, hk, g, hg, hgb⟩; exact hno k hk g hg hgb
      · rcases S.own k b g (hnb.mem _ hk) hg with h | ⟨e, he, g', hg', hgg⟩
        · exact .inl h
        · exact .inr ⟨e, he, g', hg', hgg⟩
      · obtain ⟨g, hg⟩ := hk k hkk
        have hl := look_mapk pg hkk
        have hpg : pg k = g := by show (σ k).getD ⟨0, 0⟩ = g; rw [hg]; rfl
        rw [hg, ← hpg]
        exact hp k _ hl
    rcases he with rfl | rfl <;> exact hpost
  · intro i v hi
    obtain ⟨g, rfl, _, hg⟩ := slotsOf_look hi
    obtain ⟨x, hx, hrel⟩ := hargs.get hg
    have hx' : (args ++ Array.replicate (fn.ntmps - args.size) undef).getD i undef = x := by
      rw [Nat.sub_zero] at hx
      have hlt := (List.getElem?_eq_some_iff.1 hx).1
      rw [Array.getD_eq_getD_getElem?, Array.getElem?_append_left (by simpa using hlt), ← Array.getElem?_toList, hx]
      rfl
    rw [hx']
    have hgo := List.all_eq_true.1 hok g (List.mem_of_getElem? hg)
    have hid : g.map id = g := by cases g with
      | c x => cases x <;> simp [GV.map, CV.map]
      | g xs => 
        have : xs.map (CV.map id) = xs := by
          induction xs with
          | nil => rfl
          | cons y l ih => 
            have hy : y.map id = y := by cases y <;> simp [CV.map]
            simp only [List.map_cons, hy]
            congr 1
            induction l with
            | nil => rfl
            | cons z l _ => exact (by
                have hz : ∀ c : CV, c.map id = c := fun c => by cases c <;> simp [CV.map]
                exact List.map_congr_left (fun c _ => hz c) |>.trans (List.map_id _))
        simp [GV.map, this]
    exact GRel.ren (ρ := id) hσ (x := g) (by rw [hid]; exact hrel) hgo
  · intro k b hk
    have hm := look_mem hk
    have hkin : keyIn hin k = true := mem_keyIn hm
    rw [hσ k hkin]
    have hgo := List.all_eq_true.1 hokb _ hm
    refine HRel.ren (ρ := id) hσ ?_ hgo
    have hz : ∀ c : CV, c.map id = c := fun c => by cases c <;> simp [CV.map]
    have hid : b.map' id = b := by cases b with
      | box t cs => simp only [AB.map']; congr 1; exact (List.map_congr_left (fun c _ => hz c)).trans (List.map_id _)
      | arr => rfl
      | map => rfl
    rw [hid]
    exact hheap k b hm
  · intro k k' b b' g g' hk hk' hg hg' hgg
    rw [hσ k (mem_keyIn (look_mem hk))] at hg
    rw [hσ k' (mem_keyIn (look_mem hk'))] at hg'
    exact hinj k k' b b' g g' (look_mem hk) (look_mem hk') hg hg' hgg
  · intro k b g hk hg
    rw [hσ k (mem_keyIn (look_mem hk))] at hg
    exact .inr ⟨k, List.mem_map.2 ⟨(k, b), look_mem hk, rfl⟩, g, hg, rfl⟩
  · intro k hk
    refine if_neg fun hkin => ?_
    obtain ⟨b, hb⟩ := keyIn_mem hkin
    have := List.all_eq_true.1 hin1 _ hb
    rw [Nat.blt_eq] at this
    have : k < n := this
    have hk : n ≤ k := hk
    omega
  · intro k b hk
    have := List.all_eq_true.1 hin1 _ (look_mem hk)
    rw [Nat.blt_eq] at this
    exact this
  · simp; omega
  · intro k g hl
    obtain ⟨k', hk', he⟩ := List.mem_map.1 (look_mem hl)
    injection he with e1 e2
    subst e1
    have hkin := List.all_eq_true.1 hkeep k' hk'
    rw [hσ k' hkin]
    obtain ⟨g', hg'⟩ := hk k' hk'
    subst e2
    show σ k' = some ((σ k').getD ⟨0, 0⟩)
    rw [hg']; rfl
end
end Go.Proofs.Ytgmcdlfmifijlaa.Dev
