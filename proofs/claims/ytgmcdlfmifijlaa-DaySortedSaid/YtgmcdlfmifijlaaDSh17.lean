/- The symbolic heap: slices whose capacity is known; copy; append in place, or into a new array; no condition. -/
import Derived.Test.YtgmcdlfmifijlaaDSh16
import Derived.Lib.AppendZerosOnto
import Derived.Lib.Overlaps
set_option linter.unusedVariables false
set_option linter.unusedSimpArgs false
namespace Go.Proofs.Ytgmcdlfmifijlaa.Dev
open Go.RowKit

theorem run_sliceX {P : Program} {w : World} {t e K : Nat} {A : Option Addr} {len cap : Nat} (hu : P.underlying t = some (.slice e)) (hz : (P.info? e).map (·.size) = some K) (lo hi mx : Option Value) (l h m : Nat) (hlo : (lo = none ∧ l = 0) ∨ lo = some (.int .i64 l)) (hhi : (hi = none ∧ h = len ∧ mx = none) ∨ hi = some (.int .i64 h)) (hmx : (mx = none ∧ m = cap) ∨ mx = some (.int .i64 m)) (h1 : l ≤ h) (h2 : h ≤ m) (h3 : m ≤ cap) :
    (Instr.sliceAt t (.slice A len cap) lo hi mx).run P w = .ok (.slice (if m = l then A else A.map (·.add (l * K))) (h - l) (m - l)) w := by
  cases hq : P.info? e with
  | none => simp [hq] at hz
  | some ii =>
    have hs : ii.size = K := by simpa [hq] using hz
    have h4 : ¬ ((m : Int) < (l : Int)) := by omega
    have h5 : l ≤ m := by omega
    rcases hhi with ⟨rfl, rfl, rfl⟩ | rfl
    · rcases hmx with ⟨_, rfl⟩ | hm
      · rcases hlo with ⟨rfl, rfl⟩ | rfl
        all_goals simp [Instr.sliceAt, run_underlying hu, Instr.slice, Instr.sliceBounds, Instr.sliceBound, asIntOf, sizeOf, typeInfo, hq, hs, h1]
        all_goals try omega
      · cases hm
    · rcases hlo with ⟨rfl, rfl⟩ | rfl <;> rcases hmx with ⟨rfl, rfl⟩ | rfl
      all_goals simp [Instr.sliceAt, run_underlying hu, Instr.slice, Instr.sliceBounds, Instr.sliceBound, asIntOf, sizeOf, typeInfo, hq, hs, h1, h2, h3]
      all_goals try omega
section
variable {P : Program} {st : AState} {o : Oper}
/-- a part of a slice whose capacity is known -/
theorem g_sliceX {t e K k i n c c' : Nat} {E E' : Bool} {x : Operand} {lo hi mx : Option Operand} {l h m n' : Nat} (ho : o.op = .slice t x lo hi mx) (hu : P.underlying t = some (.slice e)) (hz : (P.info? e).map (·.size) = some K) (hx : ev st x (.v (.c (.sx k i K n c E))))
    (hlo : (lo = none ∧ l = 0) ∨ ∃ x, lo = some x ∧ ev st x (.v (.c (.d (.v (.int .i64 l)))))) (hhi : (hi = none ∧ h = n ∧ mx = none) ∨ ∃ x, hi = some x ∧ ev st x (.v (.c (.d (.v (.int .i64 h))))))
    (hmx : (mx = none ∧ m = c) ∨ ∃ x, mx = some x ∧ ev st x (.v (.c (.d (.v (.int .i64 m)))))) (h1 : l ≤ h) (h2 : h ≤ m) (h3 : m ≤ c) (hn : h - l = n') (hc : m - l = c') (hE : E' = true → E = true ∧ m = c) : GOp P o st (.v (.c (.sx k (i + l) K n' c' E'))) [] [] :=
  GOp.val fun σ T ac w C => by
    obtain ⟨g, off, hg, hv, ho1, h4, h5, h6, h7⟩ := ev_rel C hx
    subst hn hc
    have := run_sliceX (P := P) (w := w) (A := some ⟨g.g, off, none⟩) (len := n) (cap := c) hu hz (lo.map ac.eval) (hi.map ac.eval) (mx.map ac.eval) l h m
      (by rcases hlo with ⟨rfl, rfl⟩ | ⟨y, rfl, hy⟩; exact .inl ⟨rfl, rfl⟩; exact .inr (by rw [Option.map_some, DRel.inv (ev_rel C hy)]))
      (by rcases hhi with ⟨rfl, rfl, rfl⟩ | ⟨y, rfl, hy⟩; exact .inl ⟨rfl, rfl, rfl⟩; exact .inr (by rw [Option.map_some, DRel.inv (ev_rel C hy)]))
      (by rcases hmx with ⟨rfl, rfl⟩ | ⟨y, rfl, hy⟩; exact .inl ⟨rfl, rfl⟩; exact .inr (by rw [Option.map_some, DRel.inv (ev_rel C hy)])) h1 h2 h3
    refine ⟨.slice (if m = l then some ⟨g.g, off, none⟩ else some ⟨g.g, off + l * K, none⟩) (h - l) (m - l), ?_, g, if m = l then off else off + l * K, hg, ?_, ?_, by omega, by omega, fun e => ?_, h7⟩
    · unfold execOp
      simp only [ho, hv, Sem.run_bind, this, Result.andThen_ok, Option.map_some, Addr.add_lit]
      rfl
    · split <;> rfl
    · by_cases hml : m = l
      · exact .inr (by omega)
      · rw [if_neg hml]
        rcases ho1 with rfl | h0
        · exact .inl (by rw [Nat.add_mul])
        · omega
    · obtain ⟨h8, h9⟩ := hE e
      have := h6 h8
      omega
theorem g_capX {x : Operand} {cl : Call} {t e k i K n c : Nat} {E : Bool} (hu : P.underlying t = some (.slice e)) (ho : o.op = .call cl) (hc : cl.callee = .builtin .cap) (ha : cl.args = #[x]) (hat : cl.argTypes = #[t]) (hx : ev st x (.v (.c (.sx k i K n c E)))) : GOp P o st (.v (.c (.d (.v (.int .i64 c))))) [] [] :=
  GOp.val fun σ T ac w C => by
    obtain ⟨g, off, hg, hv, _⟩ := ev_rel C hx
    refine ⟨_, ?_, DRel.v _ rfl⟩
    unfold execOp
    simp [ho, resolve, hc, ha, hat, invoke, builtin, hv, Builtin.cap_, run_underlying hu, goInt]
theorem g_lenX {x : Operand} {cl : Call} {t e k i K n c : Nat} {E : Bool} (hu : P.underlying t = some (.slice e)) (ho : o.op = .call cl) (hc : cl.callee = .builtin .len) (ha : cl.args = #[x]) (hat : cl.argTypes = #[t]) (hx : ev st x (.v (.c (.sx k i K n c E)))) : GOp P o st (.v (.c (.d (.v (.int .i64 n))))) [] [] :=
  GOp.val fun σ T ac w C => by
    obtain ⟨g, off, hg, hv, _⟩ := ev_rel C hx
    refine ⟨_, ?_, DRel.v _ rfl⟩
    unfold execOp
    simp [ho, resolve, hc, ha, hat, invoke, builtin, hv, Builtin.len_, run_underlying hu, goInt]
/-! what is read: the first m rows of a slice of len rows -/
inductive SrcP (st : AState) : AV → Nat → Nat → Nat → List (List D) → Prop
  | d {K len m : Nat} {rows ys : List (List D)} (hl : rows.length = len) (hm : m ≤ len) (he : rows.take m = ys) : SrcP st (.v (.c (.d (.r K rows)))) K len m ys
  | s {k i t K len m : Nat} {rows ys : List (List D)} (h : look st.h k = some (.arr t K rows)) (hm : m ≤ len) (hi : i + m ≤ rows.length) (he : (rows.drop i).take m = ys) : SrcP st (.v (.c (.s k i K len))) K len m ys
  | x {k i t K len m c : Nat} {E : Bool} {rows ys : List (List D)} (h : look st.h k = some (.arr t K rows)) (hm : m ≤ len) (hi : i + m ≤ rows.length) (he : (rows.drop i).take m = ys) : SrcP st (.v (.c (.sx k i K len c E))) K len m ys
theorem SrcP.read {σ : Nat → Option Adr} {T : Nat → Prop} {a : Act} {w : World} (C : Core σ T st a w) {v : AV} {K len m : Nat} {ys : List (List D)} (h : SrcP st v K len m ys) (hK : 0 < K) (hm0 : 0 < m ∨ ∃ k i c E, v = .v (.c (.sx k i K len c E))) {x : Value} (hx : ARel σ T w v x) :
    ys.length = m ∧ ∃ b off c vs, x = .slice (some ⟨b, off, none⟩) len c ∧ Flat T w K ys ⟨b, off, none⟩ vs := by
  cases h with
  | @d _ _ _ rows _ hl hm he =>
    subst he
    refine ⟨by rw [List.length_take]; omega, ?_⟩
    have hx : DRel T w (.r K rows) x := hx
    obtain hm0 : 0 < m := hm0.resolve_right (fun ⟨_, _, _, _, h⟩ => by cases h)
    cases hx with
    | nil => simp at hl; omega
    | r K rows b off c cs hb hT hc hmx hKr hcell hd =>
      obtain ⟨vs, hf⟩ := flat_of (T := T) (w := w) (rows := rows.take m) hK cs (fun i row hr => hKr i row (by rw [List.getElem?_take] at hr; split at hr; exact hr; cases hr)) (fun i row j d hr hj => by
        rw [List.getElem?_take] at hr
        split at hr
        · exact ⟨hcell i row j d hr hj, hd i row j d hr hj⟩
        · cases hr)
      exact ⟨b, off, c, vs, by rw [hl], hf⟩
  | @s k i t _ _ _ rows _ hk hm hi he =>
    subst he
    refine ⟨by rw [List.length_take, List.length_drop]; omega, ?_⟩
    have hx : CRel σ T w (.s k i K len) x := hx
    obtain hm0 : 0 < m := hm0.resolve_right (fun ⟨_, _, _, _, h⟩ => by cases h)
    rcases hx with ⟨h0, _⟩ | ⟨g, hg, hv, _⟩
    · omega
    · have hh := C.heap k _ hk
      rw [hg] at hh
      obtain ⟨vs, hf⟩ := sub_flat hh hi
      exact ⟨g.g, i * K, _, vs, hv, hf⟩
  | @x k i t _ _ _ c E rows _ hk hm hi he =>
    subst he
    refine ⟨by rw [List.length_take, List.length_drop]; omega, ?_⟩
    have hx : CRel σ T w (.sx k i K len c E) x := hx
    obtain ⟨g, off, hg, hv, ho1, h2, _⟩ := hx
    have hh := C.heap k _ hk
    rw [hg] at hh
    obtain ⟨vs, hf⟩ := sub_flat hh hi
    rcases ho1 with rfl | h0
    · exact ⟨g.g, i * K, _, vs, hv, hf⟩
    · obtain rfl : m = 0 := by omega
      exact ⟨g.g, off, _, [], hv, by simp, ⟨by simp, fun i row h => by simp at h⟩, fun j u h => by simp at h, fun u h => by simp at h⟩
theorem rows_drop {T : Nat → Prop} {w : World} {K : Nat} {rows : List (List D)} {vs : List Value} (h : Rows T w K rows vs) (j : Nat) : Rows T w K (rows.drop j) (vs.drop (j * K)) := by
  refine ⟨?_, fun i row hi => ?_⟩
  · rw [List.length_drop, List.length_drop, Nat.sub_mul]; have := h.1; omega
  · rw [List.getElem?_drop] at hi
    obtain ⟨h1, h2⟩ := h.2 _ row hi
    refine ⟨h1, fun q d hq => ?_⟩
    obtain ⟨u, hu, hr⟩ := h2 q d hq
    refine ⟨u, ?_, hr⟩
    rw [List.getElem?_drop, ← hu, Nat.add_mul, Nat.add_assoc]
theorem rows_front {T : Nat → Prop} {w : World} {K : Nat} {rows : List (List D)} {vs : List Value} (h : Rows T w K rows vs) {i : Nat} (hi : i ≤ rows.length) : Rows T w K (rows.take i) (vs.take (i * K)) ∧ (vs.take (i * K)).length = (rows.take i).length * K := by
  have h1 : i * K ≤ vs.length := Nat.le_trans (Nat.mul_le_mul_right K hi) h.1
  refine ⟨rows_take (⟨?_, fun j row hj => ?_⟩ : Rows T w K (rows.take i) vs) ?_, ?_⟩
  · exact Nat.le_trans (Nat.mul_le_mul_right K (by rw [List.length_take]; omega)) h.1
  · rw [List.getElem?_take] at hj
    split at hj
    · exact h.2 j row hj
    · cases hj
  · rw [List.length_take, Nat.min_eq_left hi]; exact Nat.le_refl _
  · rw [List.length_take, List.length_take, Nat.min_eq_left hi, Nat.min_eq_left h1]
/-- rows written over rows -/
theorem rows_splice {T : Nat → Prop} {w : World} {K : Nat} {rows ys : List (List D)} {vs ws : List Value} (h : Rows T w K rows vs) (h' : Rows T w K ys ws) (hw : ws.length = ys.length * K) {i : Nat} (hi : i ≤ rows.length) :
    Rows T w K (rows.take i ++ ys ++ rows.drop (i + ys.length)) (vs.take (i * K) ++ ws ++ vs.drop (i * K + ws.length)) := by
  obtain ⟨h1, h2⟩ := rows_front h hi
  refine rows_append (rows_append h1 h2 h') ?_ ?_
  · rw [List.length_append, List.length_append, h2, hw, Nat.add_mul]
  · have := rows_drop h (i + ys.length)
    rwa [Nat.add_mul, ← hw] at this
theorem run_load_flat {T : Nat → Prop} {w : World} {K : Nat} {ys : List (List D)} {b off : Nat} {vs : List Value} (hf : Flat T w K ys ⟨b, off, none⟩ vs) : (loadCells ⟨b, off, none⟩ (ys.length * K)).run P w = .ok vs.toArray w := by
  rw [← hf.len]
  exact run_loadCells_list (P := P) w ⟨b, off, none⟩ vs hf.cell
/-- copy into an array of the call's own -/
theorem copy_core {σ : Nat → Option Adr} {T : Nat → Prop} {a : Act} {w : World} (C : Core σ T st a w) {e bt K k i : Nat} {rows ys : List (List D)} {g : Adr} {b off : Nat} {vs : List Value} (hK : 0 < K) (hg : σ k = some g) (hb : look st.h k = some (.arr bt K rows)) (hi : i ≤ rows.length) (hin : i + ys.length ≤ g.c) (hf : Flat T w K ys ⟨b, off, none⟩ vs) :
    ∃ w', (storeCells ⟨g.g, i * K, none⟩ vs).run P w = .ok () w' ∧ Ext σ T w σ T w' [(k, .arr bt K (rows.take i ++ ys ++ rows.drop (i + ys.length)))] [k] := by
  have hh := C.heap k _ hb
  obtain ⟨_, hh'⟩ := hh
  rcases hh' with ⟨_, h⟩ | ⟨g', cs, e1, e2, e3, e4, e5, e6⟩
  · rw [hg] at h; cases h
  rw [hg] at e1; injection e1 with e1; subst e1
  have hfit : i * K + vs.length ≤ cs.length := by rw [hf.len, e4, ← Nat.add_mul]; exact Nat.mul_le_mul_right _ hin
  have hst := run_storeCells_at (P := P) g.g (i * K) bt vs 0 cs.toArray w e3 (by simpa using hfit) hf.one
  refine ⟨w.setRow g.g (cs.take (i * K) ++ vs ++ cs.drop (i * K + vs.length)).toArray, by simpa using hst, Ext.write C hb hg rfl rfl rfl (setRow_size w _ _) (fun j hj => setRow_other w g.g j _ hj) fun G => ?_⟩
  refine ⟨hK, .inr ⟨g, _, rfl, e2, setRow_heap w g.g _ _ bt (0, 0) e3, ?_, e5, rows_splice (e6.grow G) (hf.rows_.grow G) hf.len hi⟩⟩
  rw [← e4]; simp only [List.length_append, List.length_take, List.length_drop]; omega
theorem g_copyX {x y : Operand} {cl : Call} {v : AV} {t e bt K bytes k i n c len m : Nat} {E : Bool} {rows ys rows' : List (List D)} (hT : SlT P t e K bytes) (ho : o.op = .call cl) (hc : cl.callee = .builtin .copy) (ha : cl.args = #[x, y]) (hat : cl.argTypes = #[t, t])
    (hx : ev st x (.v (.c (.sx k i K n c E)))) (hb : look st.h k = some (.arr bt K rows)) (hy : ev st y v) (hs : SrcP st v K len m ys) (hm : 0 < m) (hmin : m = len ∧ len ≤ n ∨ m = n ∧ n ≤ len) (hi : i ≤ rows.length) (hr : rows.take i ++ ys ++ rows.drop (i + m) = rows') :
    GOp P o st (.v (.c (.d (.v (.int .i64 m))))) [(k, .arr bt K rows')] [k] := by
  intro σ T a w C _
  obtain ⟨g, off, hg, hv, ho1, h2, h3, _, h5⟩ := ev_rel C hx
  obtain ⟨hyl, b, off2, c2, vs, hyv, hf⟩ := hs.read C hT.K0 (.inl hm) (ev_rel C hy)
  obtain ⟨ii, z, hii, _, hsz, _⟩ := hT.i
  obtain rfl : off = i * K := ho1.resolve_right (by omega)
  have hml : Nat.min len n = m := by show min len n = m; omega
  obtain ⟨w', hst, hext⟩ := copy_core (P := P) (e := e) C hT.K0 hg hb hi (by omega) hf
  rw [hyl, hr] at hext
  refine wp_value (v := .int .i64 m) (w' := w') ?_ ⟨_, σ, T, rfl, hext, DRel.v _ rfl⟩
  have hld := run_load_flat (P := P) hf
  rw [hyl] at hld
  unfold execOp
  simp [ho, resolve, hc, ha, hat, invoke, builtin, hv, hyv, Builtin.copy_, run_underlying hT.u, Builtin.lenOf, Builtin.firstCells, sizeOf, typeInfo, hii, hsz, hml, hld, hst, goInt]
/-- append into the room that is there: the array stays -/
theorem g_appIn {x y : Operand} {cl : Call} {v : AV} {t e bt K bytes k i n c m N : Nat} {E : Bool} {rows ys rows' : List (List D)} (hT : SlT P t e K bytes) (ho : o.op = .call cl) (hc : cl.callee = .builtin .append) (ha : cl.args = #[x, y]) (hat : cl.argTypes = #[t, t])
    (hx : ev st x (.v (.c (.sx k i K n c E)))) (hb : look st.h k = some (.arr bt K rows)) (hy : ev st y v) (hs : SrcP st v K m m ys) (hm : 0 < m ∨ ∃ k i c E, v = .v (.c (.sx k i K m c E))) (hc0 : 0 < c) (hN : n + m = N) (hroom : N ≤ c) (hi : i + n ≤ rows.length) (hr : rows.take (i + n) ++ ys ++ rows.drop (i + n + m) = rows') :
    GOp P o st (.v (.c (.sx k i K N c E))) [(k, .arr bt K rows')] [k] := by
  intro σ T a w C _
  subst hN
  obtain ⟨g, off, hg, hv, ho1, h2, h3, h4, h5⟩ := ev_rel C hx
  obtain ⟨hyl, b, off2, c2, vs, hyv, hf⟩ := hs.read C hT.K0 hm (ev_rel C hy)
  obtain ⟨ii, z, hii, _, hsz, _⟩ := hT.i
  obtain rfl : off = i * K := ho1.resolve_right (by omega)
  obtain ⟨w', hst, hext⟩ := copy_core (P := P) (e := e) C hT.K0 hg hb hi (by omega) hf
  rw [hyl, hr] at hext
  refine wp_value (v := .slice (some ⟨g.g, i * K, none⟩) (n + m) c) (w' := w') ?_ ⟨_, σ, T, rfl, hext, ⟨g, i * K, hg, rfl, .inl rfl, hroom, h3, h4, h5⟩⟩
  have hld := run_load_flat (P := P) hf
  rw [hyl] at hld
  rw [Nat.add_mul] at hst
  unfold execOp
  simp [ho, resolve, hc, ha, hat, invoke, builtin, hv, hyv, Builtin.append_, run_underlying hT.u, Builtin.lenOf, Builtin.firstCells, sizeOf, typeInfo, hii, hsz, hld, hroom, Addr.add_lit, hst]
end
end Go.Proofs.Ytgmcdlfmifijlaa.Dev
