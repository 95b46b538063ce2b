/- The symbolic heap: how long rows may be; what is cleared; what is frozen; no condition. -/
import Derived.Test.YtgmcdlfmifijlaaDSh12
set_option linter.unusedVariables false
set_option linter.unusedSimpArgs false
namespace Go.Proofs.Ytgmcdlfmifijlaa.Dev
open Go.RowKit

theorem DRel.len {T : Nat → Prop} {w : World} {K : Nat} {rows : List (List D)} {v : Value} (h : DRel T w (.r K rows) v) : rows.length ≤ 9223372036854775807 := by
  cases h with
  | nil => simp
  | r => omega
section
variable {P : Program} {W0 : World} {F : Nat → Prop} {N : NT} {T0 : Nat → Prop} {pin : List (Nat × Adr)} {Q : Exit → AState → Prop} {s : List (Nat × AV)} {h : List (Nat × AB)} {n : Nat}
theorem AC.len1 {c : Code} {α : Type} {f : α → List D} {xs : List α} {K : Nat} (i : Nat) (hs : look s i = some (.v (.c (.d (.r K (xs.map f)))))) (k : xs.length ≤ 9223372036854775807 → AC P W0 F N T0 pin Q c ⟨s, h, n⟩) : AC P W0 F N T0 pin Q c ⟨s, h, n⟩ := fun a w hI => by
  obtain ⟨σ, T, hT, S, hp⟩ := hI
  have h1 := DRel.len (show DRel T w (.r K (xs.map f)) _ from S.core.slots i _ hs)
  rw [List.length_map] at h1
  exact k h1 a w ⟨σ, T, hT, S, hp⟩
theorem AC.lenS {c : Code} {k r K m : Nat} (i : Nat) (hs : look s i = some (.v (.c (.s k r K m)))) (hk : m ≤ 9223372036854775807 → AC P W0 F N T0 pin Q c ⟨s, h, n⟩) : AC P W0 F N T0 pin Q c ⟨s, h, n⟩ := fun a w hI => by
  obtain ⟨σ, T, hT, S, hp⟩ := hI
  have h1 : CRel σ T w (.s k r K m) _ := S.core.slots i _ hs
  refine hk ?_ a w ⟨σ, T, hT, S, hp⟩
  rcases h1 with ⟨h0, _⟩ | ⟨g, _, _, h2, h3⟩ <;> omega
theorem AC.lenG {c : Code} {α : Type} {f : α → List D} {xs : List α} {K : Nat} {cs : List CV} (i j : Nat) (hs : look s i = some (.v (.g cs))) (hj : cs[j]? = some (.d (.r K (xs.map f)))) (k : xs.length ≤ 9223372036854775807 → AC P W0 F N T0 pin Q c ⟨s, h, n⟩) : AC P W0 F N T0 pin Q c ⟨s, h, n⟩ := fun a w hI => by
  obtain ⟨σ, T, hT, S, hp⟩ := hI
  obtain ⟨vs, h1, h2⟩ := S.core.slots i _ hs
  obtain ⟨y, hy, hr⟩ := h2.get hj
  have h1 := DRel.len (show DRel T w (.r K (xs.map f)) _ from hr)
  rw [List.length_map] at h1
  exact k h1 a w ⟨σ, T, hT, S, hp⟩
end
theorem HRel.cut {σ : Nat → Option Adr} {T : Nat → Prop} {w : World} {og : Option Adr} {t K : Nat} {rows : List (List D)} (m : Nat) (h : HRel σ T w og (.arr t K rows)) : HRel σ T w og (.arr t K (rows.take m)) := by
  obtain ⟨hK, h1⟩ := h
  refine ⟨hK, ?_⟩
  rcases h1 with ⟨h1, h2⟩ | ⟨g, vs, h1, h2, h3, h4, h5, h6⟩
  · exact .inl ⟨by rw [h1]; simp, h2⟩
  · refine .inr ⟨g, vs, h1, h2, h3, h4, h5, ?_, fun i row hi => ?_⟩
    · refine Nat.le_trans (Nat.mul_le_mul_right K ?_) h6.1
      rw [List.length_take]; omega
    · rw [List.getElem?_take] at hi
      split at hi
      · exact h6.2 i row hi
      · cases hi
theorem Ext.stay {σ : Nat → Option Adr} {T : Nat → Prop} {st : AState} {a : Act} {w : World} (C : Core σ T st a w) {k : Nat} {b b0 : AB} (hb0 : look st.h k = some b0) (hr : HRel σ T w (σ k) b) : Ext σ T w σ T w [(k, b)] [k] := by
  refine ⟨rfl, rfl, rfl, ⟨Nat.le_refl _, fun _ _ _ => rfl, ?_, fun _ _ h => h, fun _ _ h => h⟩, fun _ h => h, C.Tlt, fun _ _ => rfl, ?_, ?_, ?_⟩
  · rintro b' ⟨k', hk', g', hg', rfl⟩
    rw [List.mem_singleton.1 hk'] at hg'
    exact (C.heap k b0 hb0).inT hg'
  · intro j b' h
    obtain ⟨rfl, rfl⟩ := Prod.mk.inj (List.mem_singleton.1 h)
    exact hr
  · intro j b' g' h hg'
    obtain ⟨rfl, rfl⟩ := Prod.mk.inj (List.mem_singleton.1 h)
    exact .inr ⟨j, List.mem_singleton.2 rfl, g', hg', rfl⟩
  · intro j j' b1 b2 g1 g2 h h' _ _ _
    obtain ⟨rfl, _⟩ := Prod.mk.inj (List.mem_singleton.1 h)
    obtain ⟨rfl, _⟩ := Prod.mk.inj (List.mem_singleton.1 h')
    rfl
/-- the rows behind i are cleared: they are known no more -/
theorem g_clear {P : Program} {st : AState} {o : Oper} {x : Operand} {c : Call} {t e bt K bytes k i n : Nat} {z : Value} {zs : List Value} {rows rows' : List (List D)} (hT : SlT P t e K bytes) (hz : (P.info? e).bind (fun i => i.zero) = some z) (hzs : z.cells.toList = zs) (h1 : zs.all (·.oneCell') = true)
    (ho : o.op = .call c) (hc : c.callee = .builtin .clear) (ha : c.args = #[x]) (hat : c.argTypes = #[t]) (hd : o.dst = none) (hx : ev st x (.v (.c (.s k i K n)))) (hb : look st.h k = some (.arr bt K rows)) (hr : rows.take i = rows') : GOp P o st (.v (.c .any)) [(k, .arr bt K rows')] [k] := by
  subst hr
  intro σ T a w C _
  have hxv := ev_rel C hx
  have hh := C.heap k _ hb
  have quiet : ∀ A c', a.eval x = .slice A 0 c' → o.wp P a w (fun a' w' => ∃ u σ' T', a' = a.put o.dst u ∧ Ext σ T w σ' T' w' [(k, .arr bt K (rows.take i))] [k] ∧ ARel σ' T' w' (.v (.c .any)) u) noQ := fun A c' hv => by
    refine wp_value (v := .tuple #[]) ?_ ⟨_, σ, T, rfl, Ext.stay C hb (hh.cut i), trivial⟩
    unfold execOp
    cases A <;> simp [ho, resolve, hc, ha, hat, invoke, builtin, hv, Builtin.clear_, run_underlying hT.u]
  rcases hxv with ⟨h0, hv⟩ | ⟨g, hg, hv, hin, h63⟩
  · exact quiet none 0 hv
  · by_cases hn : n = 0
    · subst hn; exact quiet _ _ hv
    · obtain ⟨hK, hh'⟩ := hh
      rcases hh' with ⟨_, h⟩ | ⟨g', vs, e1, e2, e3, e4, e5, e6⟩
      · rw [hg] at h; cases h
      rw [hg] at e1; injection e1 with e1; subst e1
      obtain ⟨ii, z', hii, hzz, hs, hby, hzc⟩ := hT.i
      have hz' : z' = z := by simpa [hii, hzz] using hz
      subst hz'
      have hlen : (Builtin.zeroCells z'.cells n).toList.length = n * K := by simp [Builtin.zeroCells, hzc]
      have hone : ∀ u ∈ (Builtin.zeroCells z'.cells n).toList, u.oneCell' = true := by
        intro u hu
        simp only [Builtin.zeroCells, Array.toList_map, List.mem_map] at hu
        obtain ⟨q, _, rfl⟩ := hu
        have hlt : q % z'.cells.size < z'.cells.size := Nat.mod_lt _ (by rw [hzc]; exact hK)
        rw [getElem!_pos z'.cells (q % z'.cells.size) hlt]
        subst hzs
        exact List.all_eq_true.1 h1 _ (by simp)
      have hfit : i * K + n * K ≤ vs.length := by rw [e4, ← Nat.add_mul]; exact Nat.mul_le_mul_right _ hin
      have hst := run_storeCells_at (P := P) g.g (i * K) bt (Builtin.zeroCells z'.cells n).toList 0 vs.toArray w e3 (by rw [hlen]; simpa using hfit) hone
      obtain ⟨m, rfl⟩ : ∃ m, n = m + 1 := ⟨n - 1, by omega⟩
      have hzv : (zeroValue e).run P w = .ok z' w := by simp [zeroValue, typeInfo, hii, hzz]
      refine wp_value (v := .tuple #[]) (w' := w.setRow g.g (vs.take (i * K) ++ (Builtin.zeroCells z'.cells (m + 1)).toList ++ vs.drop (i * K + (Builtin.zeroCells z'.cells (m + 1)).toList.length)).toArray) ?_ ⟨_, σ, T, rfl, Ext.write C hb hg rfl rfl rfl (setRow_size w _ _) (fun j hj => setRow_other w g.g j _ hj) fun G => ?_, trivial⟩
      · unfold execOp
        simp only [Nat.add_zero] at hst
        simp [ho, resolve, hc, ha, hat, invoke, builtin, hv, Builtin.clear_, run_underlying hT.u, hzv, hst]
      · refine ⟨hK, .inr ⟨g, _, rfl, e2, setRow_heap w g.g _ _ bt (0, 0) e3, ?_, e5, ?_⟩⟩
        · rw [← e4]; simp only [List.length_append, List.length_take, List.length_drop, hlen]; omega
        · have e7 := e6.grow G
          refine ⟨?_, fun r row hrow => ?_⟩
          · simp only [List.length_append, List.length_take, List.length_drop, hlen]
            refine Nat.le_trans (Nat.mul_le_mul_right K (Nat.min_le_left i rows.length)) ?_
            omega
          · rw [List.getElem?_take] at hrow
            split at hrow
            · rename_i hri
              obtain ⟨q1, q2⟩ := e7.2 r row hrow
              refine ⟨q1, fun j d hj => ?_⟩
              obtain ⟨u, hu, hd'⟩ := q2 j d hj
              have hjK : j < K := by rw [← q1]; exact (List.getElem?_eq_some_iff.1 hj).1
              have hlt : r * K + j < i * K := by
                have : (r + 1) * K ≤ i * K := Nat.mul_le_mul_right _ hri
                rw [Nat.succ_mul] at this
                omega
              refine ⟨u, ?_, hd'⟩
              rw [List.append_assoc, List.getElem?_append_left (by rw [List.length_take]; omega), List.getElem?_take, if_pos hlt]
              exact hu
            · cases hrow
theorem retQ_end {P : Program} {fn : Func} {pin : List (Nat × Adr)} {st : AState} (st' : AState) (rs : List ResultVar) (gs : List GV) {nb : List (Nat × AB)} (hw : Weak pin st st') (hr : fn.results.toList = rs) (hv : RVs P st' rs gs) (hb : AllL (fun x => look st'.h x.1 = some x.2) nb) : retQ P fn pin (outOf gs) nb .normal st :=
  ⟨.inr rfl, st', gs, hw, hr ▸ hv, rfl, hb⟩
/-- a nil slice in a box is a slice of no rows that is only read -/
theorem Weak.nilR {pin : List (Nat × Adr)} {s : List (Nat × AV)} {h h' : List (Nat × AB)} {n : Nat} (k j K bt : Nat) {cs : List CV} (hb : look h k = some (.box bt cs)) (hc : cs[j]? = some cN) (hh : upH h k (.box bt (cs.set j (cR K []))) = h') : Weak pin ⟨s, h, n⟩ ⟨s, h', n⟩ := by
  subst hh
  rintro W0 F N T0 a w ⟨σ, T, hT, S, hp⟩
  have old : ∀ i b, look (upH h k (.box bt (cs.set j (cR K [])))) i = some b → ∃ b0, look h i = some b0 := fun i b hi => by
    rcases look_upH hi with ⟨rfl, _⟩ | ⟨_, h1⟩ | ⟨_, h1⟩
    · exact ⟨_, hb⟩
    · exact ⟨_, h1⟩
    · exact h1.elim
  refine ⟨σ, T, hT, ⟨⟨S.core.slots, ?_, ?_, S.core.Tlt⟩, S.os, S.tape, S.output, S.size, S.old, ?_, S.next, ?_, S.tsz, S.dfr⟩, hp⟩
  · intro i b hi
    rcases look_upH hi with ⟨rfl, rfl⟩ | ⟨_, h1⟩ | ⟨_, h1⟩
    · obtain ⟨g, vs, h1, h2, h3, h4⟩ := S.core.heap _ _ hb
      refine ⟨g, vs, h1, h2, h3, ?_⟩
      obtain ⟨y, hy, hr⟩ := h4.get hc
      have hy' : y = .slice none 0 0 := DRel.inv hr
      subst hy'
      have := h4.set (x := cR K []) (y := .slice none 0 0) (DRel.nil _ _ _) j
      have e : vs.set j (.slice none 0 0) = vs := by
        apply List.ext_getElem?
        intro q
        rw [List.getElem?_set]
        split
        · rename_i hq; subst hq
          split
          · exact hy.symm
          · rename_i hlt; rw [List.getElem?_eq_none (by omega)]
        · rfl
      rw [e] at this
      exact this
    · exact S.core.heap i b h1
    · exact h1.elim
  · intro i i' b b' g g' hi hi' hg hg' hgg
    obtain ⟨b0, h0⟩ := old i b hi
    obtain ⟨b1, h1⟩ := old i' b' hi'
    exact S.core.inj i i' b0 b1 g g' h0 h1 hg hg' hgg
  · intro i b g hi hg
    obtain ⟨b0, h0⟩ := old i b hi
    exact S.own i b0 g h0 hg
  · intro i b hi
    obtain ⟨b0, h0⟩ := old i b hi
    exact S.hn i b0 h0
/-- a call of a function value of the call's own: what it has caught is read -/
theorem g_callFE {P : Program} {st : AState} {o : Oper} {f : FuncId} {c : Call} {x : Operand} {y : CV} {caps : List (List D)} {ins : List GV} {av av' : AV} {nb nb' : List (Nat × AB)} (n0 : Nat) (E : List Nat) (hF : Fn P f (ins ++ caps.map fun r => .c (.q r 0)) av nb) (hen : Enters P f) (ho : o.op = .call c) (hc : c.callee = .value x) (hx : ev st x (.v (.c y))) (hy : ArgC st E y (.d (.f f caps))) (hargs : EvA st E c.args.toList ins)
    (hg : av.good (fun d => d.isV = true)) (hgb : AllL (fun x => x.2.good fun d => d.isV = true) nb) (hok : av.ok (keyIn nb) = true) (hokb : nb.all (fun x => x.2.ok (keyIn nb)) = true) (hav : av.map (n0 + ·) = av') (hnb : mapNb (n0 + ·) nb = nb') : GOp P o st av' nb' [] := by
  intro σ T a w C hnew
  subst hav hnb
  have hv : DRel (lessT σ T E) w (.f f caps) (a.eval x) := ArgC.rel C hy (ev_rel C hx)
  generalize hve : a.eval x = v at hv
  cases hv with
  | f _ _ bs offs cs hb hcell hd =>
    have hcaps : All2 (GRel (fun _ => none) (lessT σ T E) w) (caps.map fun r => GV.c (.q r 0)) ((List.range caps.length).map fun i => Value.pointer (some ⟨bs i, offs i, none⟩)) := by
      refine all2_of_get (by simp) fun i g hg => ?_
      obtain ⟨hi, rfl⟩ := List.getElem?_eq_some_iff.1 hg
      simp at hi
      refine ⟨.pointer (some ⟨bs i, offs i, none⟩), by simp [hi], ?_⟩
      simp only [List.getElem_map]
      refine ⟨bs i, offs i, rfl, (hb i hi).1, (hb i hi).2, fun j d hj => ?_⟩
      have hr : caps[i]? = some caps[i] := List.getElem?_eq_getElem hi
      exact ⟨cs i j, hcell i _ j d hr hj, hd i _ j d hr hj⟩
    have hrun : (execOp a.eval o).run P w = .ok (.enter f (c.args.map a.eval ++ ((List.range caps.length).map fun i => Value.pointer (some ⟨bs i, offs i, none⟩)).toArray)) w := by
      unfold execOp
      simp [ho, resolve, hc, hve, Deferred.ofValue, invoke]
      have := hen (c.args.map a.eval ++ ((List.range caps.length).map fun i => Value.pointer (some ⟨bs i, offs i, none⟩)).toArray) w
      simpa using this
    unfold Oper.wp
    rw [hrun]
    refine ((call_core hF n0 C (E := E) (args := c.args.map a.eval ++ ((List.range caps.length).map fun i => Value.pointer (some ⟨bs i, offs i, none⟩)).toArray) ?_ hg hgb hok hokb (fun k b h => hnew k b h (by simp)) fun Tc T' w' d v h1 h2 hp h => ?_).mono ?_)
    · rw [Array.toList_append, Array.toList_map]
      exact (evA_rel C hargs).append hcaps
    · cases d with
      | v x => cases h; exact .v _ (by assumption)
      | r => cases hp
      | f => cases hp
    · rintro e w' ⟨v, σ', T', rfl, X, hr⟩
      exact ⟨v, σ', T', rfl, X, hr⟩
theorem g_eqB {P : Program} {st : AState} {o : Oper} {t yt : TypeId} {x y : Operand} {a b : Bool} (hu : P.underlying t = some .bool) (ho : o.op = .binOp .eql t x y yt) (hx : ev st x (.v (.c (.d (.v (.bool a)))))) (hy : ev st y (.v (.c (.d (.v (.bool b)))))) : GOp P o st (.v (.c (.d (.v (.bool (a == b)))))) [] [] :=
  GOp.val fun σ T ac w C => by
    have h1 := DRel.inv (ev_rel C hx)
    have h2 := DRel.inv (ev_rel C hy)
    refine ⟨_, ?_, DRel.v _ rfl⟩
    unfold execOp
    simp [ho, h1, h2, binOp, eqGuard, Op.equal, Op.maxDepth, run_equalIn_bool w 9999 t a b hu]
theorem g_maxI {P : Program} {st : AState} {o : Oper} {x y : Operand} {c : Call} {a b : Int} (ho : o.op = .call c) (hc : c.callee = .builtin .max) (ha : c.args = #[x, y]) (hx : ev st x (.v (.c (.d (.v (.int .i64 a)))))) (hy : ev st y (.v (.c (.d (.v (.int .i64 b)))))) : GOp P o st (.v (.c (.d (.v (.int .i64 (if b > a then b else a)))))) [] [] :=
  GOp.val fun σ T ac w C => by
    have h1 := DRel.inv (ev_rel C hx)
    have h2 := DRel.inv (ev_rel C hy)
    refine ⟨_, ?_, DRel.v _ rfl⟩
    unfold execOp
    simp [ho, resolve, hc, ha, invoke, builtin, Builtin.max_, Builtin.max2, h1, h2]
/-! an array of the call's own that nobody writes any more -/
def Frz (st : AState) (k : Nat) (p : Nat → Bool) (y x : AV) : Prop := (y = x ∧ x.ok p = true) ∨ ∃ c d, y = .v (.c c) ∧ x = .v (.c d) ∧ ArgC st [k] c d
theorem Core.freeze {σ : Nat → Option Adr} {T : Nat → Prop} {st st' : AState} {a : Act} {w : World} (C : Core σ T st a w) (k : Nat) (hn : ∀ i v, look st'.s i = some v → ∃ y, look st.s i = some y ∧ Frz st k (keyIn st'.h) y v)
    (hh : ∀ j b, look st'.h j = some b → look st.h j = some b ∧ j ≠ k ∧ b.ok (keyIn st'.h) = true) (hk : ∃ b, look st.h k = some b) : Core (fun j => if keyIn st'.h j = true then σ j else none) (lessT σ T [k]) st' a w := by
  have hlow : ∀ b, lessT σ T [k] b → T b := fun b h => h.1
  obtain ⟨b0, hb0⟩ := hk
  have hσ : ∀ j, keyIn st'.h j = true → (fun j => if keyIn st'.h j = true then σ j else none) j = σ (id j) := fun j hj => if_pos hj
  have idA : ∀ v : AV, v.map id = v := fun v => by
    have hz : ∀ c : CV, c.map id = c := fun c => by cases c <;> simp [CV.map]
    have hg : ∀ g : GV, g.map id = g := fun g => by
      cases g with
      | c x => simp [GV.map, hz]
      | g xs => simp only [GV.map]; congr 1; exact (List.map_congr_left fun c _ => hz c).trans (List.map_id _)
    cases v with
    | v x => simp [AV.map, hg]
    | t xs => simp only [AV.map]; congr 1; exact (List.map_congr_left fun c _ => hg c).trans (List.map_id _)
  have idB : ∀ b : AB, b.map' id = b := fun b => by
    have hz : ∀ c : CV, c.map id = c := fun c => by cases c <;> simp [CV.map]
    cases b with
    | box t cs => simp only [AB.map']; congr 1; exact (List.map_congr_left (fun c _ => hz c)).trans (List.map_id _)
    | arr => rfl
    | map => rfl
  have inT' : ∀ j b g, look st'.h j = some b → σ j = some g → T g.g → lessT σ T [k] g.g := fun j b g hj hg hT => ⟨hT, fun e he g' hg' hgg => by
    rw [List.mem_singleton.1 he] at hg'
    exact (hh j b hj).2.1 (C.inj k j b0 b g' g hb0 (hh j b hj).1 hg' hg hgg).symm⟩
  refine ⟨fun i v hi => ?_, fun j b hj => ?_, fun j j' b b' g g' hj hj' hg hg' hgg => ?_, fun b h => C.Tlt b h.1⟩
  · obtain ⟨y, hy, hf⟩ := hn i v hi
    have hr := C.slots i y hy
    rcases hf with ⟨rfl, hok⟩ | ⟨c, d, rfl, rfl, harg⟩
    · have hr : ARel σ T w (y.map id) (a.tmps.getD i undef) := by rw [idA]; exact hr
      have h2 := ARel.ren hσ hr hok
      cases y with
      | v x => exact GRel.anti (x := x) hlow h2
      | t xs => obtain ⟨vs, q1, q2⟩ := h2; exact ⟨vs, q1, q2.mono fun _ _ h => h.anti hlow⟩
    · exact CRel.up (x := d) (ArgC.rel C harg hr)
  · obtain ⟨h1, h2, h3⟩ := hh j b hj
    have hkin : keyIn st'.h j = true := by simp [keyIn, hj]
    show HRel _ _ _ (if keyIn st'.h j = true then σ j else none) b
    rw [if_pos hkin]
    have h4 : HRel σ T w (σ j) (b.map' id) := by rw [idB]; exact C.heap j b h1
    exact HRel.anti hlow (fun g hg hT => inT' j b g hj hg hT) (HRel.ren hσ h4 h3)
  · obtain ⟨h1, _, _⟩ := hh j b hj
    obtain ⟨h1', _, _⟩ := hh j' b' hj'
    have e1 : keyIn st'.h j = true := by simp [keyIn, hj]
    have e2 : keyIn st'.h j' = true := by simp [keyIn, hj']
    have hg : (if keyIn st'.h j = true then σ j else none) = some g := hg
    have hg' : (if keyIn st'.h j' = true then σ j' else none) = some g' := hg'
    rw [if_pos e1] at hg
    rw [if_pos e2] at hg'
    exact C.inj j j' b b' g g' h1 h1' hg hg' hgg
section
variable {P : Program} {W0 : World} {N : NT} {T0 : Nat → Prop} {Q : Exit → AState → Prop} {s s' : List (Nat × AV)} {h h' : List (Nat × AB)} {n : Nat}
theorem inv_freeze {a : Act} {w : World} (k : Nat) (hk : keyIn h k = true) (hs : AllL (fun x => ∃ y, look s x.1 = some y ∧ Frz ⟨s, h, n⟩ k (keyIn h') y x.2) s') (hh : AllL (fun x => look h x.1 = some x.2) h') (hok : h'.all (fun x => !Nat.beq x.1 k && x.2.ok (keyIn h')) = true)
    (hI : Inv W0 (fun _ => False) N T0 [] ⟨s, h, n⟩ a w) : Inv W0 (fun _ => False) N T0 [] ⟨s', h', n⟩ a w := by
  obtain ⟨σ, T, hT, S, hp⟩ := hI
  obtain ⟨b0, hb0⟩ := keyIn_some hk
  have hh' : ∀ j b, look h' j = some b → look h j = some b ∧ j ≠ k ∧ b.ok (keyIn h') = true := fun j b hj => by
    have h1 := List.all_eq_true.1 hok _ (look_mem hj)
    simp only [Bool.and_eq_true, Bool.not_eq_true'] at h1
    exact ⟨hh.mem _ (look_mem hj), (fun e => by subst e; rw [Nat.beq_refl] at h1; exact absurd h1.1 (by simp)), h1.2⟩
  have C := S.core.freeze (st' := ⟨s', h', n⟩) k (fun i v hi => hs.mem _ (look_mem hi)) hh' ⟨b0, hb0⟩
  have q1 : ∀ b, b < W0.heap.size → (lessT σ T [k] b → T0 b) ∧ (T0 b → lessT σ T [k] b) := fun b hb => ⟨fun hb' => (hT b hb).1 hb'.1, fun h0 => ⟨(hT b hb).2 h0, fun e he g hg hgb => by
    rw [List.mem_singleton.1 he] at hg
    rcases S.own k b0 g hb0 hg with h1 | h1
    · omega
    · exact h1⟩⟩
  have q2 : ∀ j b g, look h' j = some b → (if keyIn h' j = true then σ j else none) = some g → W0.heap.size ≤ g.g ∨ False := fun j b g hj hg => by
    split at hg
    · exact S.own j b g (hh' j b hj).1 hg
    · cases hg
  have q3 : ∀ j, n ≤ j → (if keyIn h' j = true then σ j else none) = none := fun j hj => by
    split
    · exact S.next j hj
    · rfl
  exact ⟨_, _, q1, ⟨C, S.os, S.tape, S.output, S.size, S.old, q2, q3, fun j b hj => S.hn j b (hh' j b hj).1, S.tsz, S.dfr⟩, fun j g hj => by cases hj⟩
theorem AL.freeze {ops : Array Oper} {l : List Oper} (k : Nat) (hk : keyIn h k = true) (hs : AllL (fun x => ∃ y, look s x.1 = some y ∧ Frz ⟨s, h, n⟩ k (keyIn h') y x.2) s') (hh : AllL (fun x => look h x.1 = some x.2) h') (hok : h'.all (fun x => !Nat.beq x.1 k && x.2.ok (keyIn h')) = true)
    (hn : AL P W0 (fun _ => False) N T0 [] ops Q l ⟨s', h', n⟩) : AL P W0 (fun _ => False) N T0 [] ops Q l ⟨s, h, n⟩ := fun a w hI => hn a w (inv_freeze k hk hs hh hok hI)
theorem AC.freeze {c : Code} (k : Nat) (hk : keyIn h k = true) (hs : AllL (fun x => ∃ y, look s x.1 = some y ∧ Frz ⟨s, h, n⟩ k (keyIn h') y x.2) s') (hh : AllL (fun x => look h x.1 = some x.2) h') (hok : h'.all (fun x => !Nat.beq x.1 k && x.2.ok (keyIn h')) = true)
    (hn : AC P W0 (fun _ => False) N T0 [] Q c ⟨s', h', n⟩) : AC P W0 (fun _ => False) N T0 [] Q c ⟨s, h, n⟩ := fun a w hI => hn a w (inv_freeze k hk hs hh hok hI)
end
end Go.Proofs.Ytgmcdlfmifijlaa.Dev
