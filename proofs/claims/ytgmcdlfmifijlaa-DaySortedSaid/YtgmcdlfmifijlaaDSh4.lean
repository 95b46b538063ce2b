/- The symbolic heap: the rules of the operations; no condition. -/
import Derived.Test.YtgmcdlfmifijlaaDSh3
import Derived.IntWalk
set_option linter.unusedVariables false
set_option linter.unusedSimpArgs false
namespace Go.Proofs.Ytgmcdlfmifijlaa.Dev
open Go.RowKit

section
variable {P : Program} {st : AState} {o : Oper}
theorem Grow.same (σ : Nat → Option Adr) (T : Nat → Prop) (w : World) (C : Nat → Prop) (hC : ∀ b, C b → T b) : Grow σ σ T T w w C := ⟨Nat.le_refl _, fun _ _ _ => rfl, hC, fun _ _ h => h, fun _ _ h => h⟩
theorem wp_value {a : Act} {w w' : World} {K : Act → World → Prop} {Q : Exit → Act → World → Prop} {v : Value} (h : (execOp a.eval o).run P w = .ok (.value v) w') (hK : K (a.put o.dst v) w') : o.wp P a w K Q := by
  unfold Oper.wp; rw [h]; exact hK
theorem wp_skipv {a : Act} {w w' : World} {K : Act → World → Prop} {Q : Exit → Act → World → Prop} (h : (execOp a.eval o).run P w = .ok .skip w') (hK : K (a.put o.dst undef) w') : o.wp P a w K Q := by
  unfold Oper.wp; rw [h]; exact hK
/-- an operation that only answers -/
theorem GOp.val {av : AV} (h : ∀ σ T a w, Core σ T st a w → ∃ u, (execOp a.eval o).run P w = .ok (.value u) w ∧ ARel σ T w av u) : GOp P o st av [] [] :=
  fun σ T a w C _ => by
    obtain ⟨u, hu, hr⟩ := h σ T a w C
    exact wp_value hu ⟨u, σ, T, rfl, Ext.same C.Tlt, hr⟩

theorem g_move {x : Operand} {v : AV} (ho : o.op = .move x) (hx : ev st x v) : GOp P o st v [] [] :=
  GOp.val fun σ T a w C => ⟨a.eval x, by unfold execOp; simp [ho], ev_rel C hx⟩
theorem g_assign {x : Operand} {v : AV} (ho : o.op = .assign x) (hx : ev st x v) : GOp P o st v [] [] :=
  GOp.val fun σ T a w C => ⟨a.eval x, by unfold execOp; simp [ho], ev_rel C hx⟩

def binI (op : BinOp) (k : IntKind) (a b : Int) : Option Value :=
  match op with
  | .add => some (.int k (k.wrap (a + b)))
  | .sub => some (.int k (k.wrap (a - b)))
  | .mul => some (.int k (k.wrap (a * b)))
  | .eql => some (.bool (decide (a = b)))
  | .neq => some (.bool (decide (¬ a = b)))
  | .lss => some (.bool (decide (a < b)))
  | .leq => some (.bool (decide (a ≤ b)))
  | .gtr => some (.bool (decide (a > b)))
  | .geq => some (.bool (decide (a ≥ b)))
  | _ => none
theorem g_binI {op : BinOp} {xt yt : TypeId} {x y : Operand} {k : IntKind} {a b : Int} {r : Value} (ho : o.op = .binOp op xt x y yt)
    (hx : ev st x (.v (.c (.d (.v (.int k a)))))) (hy : ev st y (.v (.c (.d (.v (.int k b)))))) (hr : binI op k a b = some r) : GOp P o st (.v (.c (.d (.v r)))) [] [] :=
  GOp.val fun σ T ac w C => by
    have h1 := DRel.inv (ev_rel C hx)
    have h2 := DRel.inv (ev_rel C hy)
    have h1r : r.oneCell' = true := by cases op <;> simp only [binI] at hr <;> cases hr <;> rfl
    refine ⟨r, ?_, DRel.v r h1r⟩
    unfold execOp
    simp only [ho, h1, h2]
    clear h1r
    cases op <;> simp only [binI] at hr <;> cases hr
    all_goals simp [eqGuard, binOp, Op.intArith, Op.intCmp]
    all_goals (first | done | (by_cases hab : a = b <;> simp [hab]))
theorem wrap_ok {a : Int} (h : -9223372036854775808 ≤ a ∧ a ≤ 9223372036854775807) : some (Value.int .i64 (IntKind.i64.wrap a)) = some (.int .i64 a) := by
  rw [IntWalk.i64_in _ (by omega)]
theorem g_notB {t : TypeId} {x : Operand} {b : Bool} (ho : o.op = .unOp .not t x) (hx : ev st x (.v (.c (.d (.v (.bool b)))))) : GOp P o st (.v (.c (.d (.v (.bool !b))))) [] [] :=
  GOp.val fun σ T ac w C => by
    have h1 := DRel.inv (ev_rel C hx)
    exact ⟨_, by unfold execOp; simp [ho, h1, Op.unary], DRel.v _ rfl⟩
theorem g_negI {t : TypeId} {x : Operand} {a : Int} {r : Value} (ho : o.op = .unOp .neg t x) (hx : ev st x (.v (.c (.d (.v (.int .i64 a)))))) (hr : some (Value.int .i64 (IntKind.i64.wrap (0 - a))) = some r) : GOp P o st (.v (.c (.d (.v r)))) [] [] :=
  GOp.val fun σ T ac w C => by
    have h1 := DRel.inv (ev_rel C hx)
    injection hr with hr; subst hr
    exact ⟨_, by unfold execOp; simp [ho, h1, Op.unary, Op.intArith], DRel.v _ rfl⟩
theorem g_convI {s d : TypeId} {x : Operand} {k k' : IntKind} {a : Int} {r : Value} (ho : o.op = .convert s d x) (hx : ev st x (.v (.c (.d (.v (.int k a))))))
    (hs : (P.underlying s).isSome = true) (hd : P.underlying d = some (.int k')) (hr : Value.int k' (k'.wrap a) = r) : GOp P o st (.v (.c (.d (.v r)))) [] [] :=
  GOp.val fun σ T ac w C => by
    have h1 := DRel.inv (ev_rel C hx)
    subst hr
    obtain ⟨sd, hs⟩ := Option.isSome_iff_exists.1 hs
    refine ⟨_, ?_, DRel.v _ rfl⟩
    unfold execOp
    simp [ho, h1, convert, run_underlying hs, run_underlying hd, Conv.intToInt]
theorem g_extract {x : Operand} {i : Nat} {gs : List GV} {g : GV} (ho : o.op = .extract x i) (hx : ev st x (.t gs)) (hi : gs[i]? = some g) : GOp P o st (.v g) [] [] :=
  GOp.val fun σ T ac w C => by
    obtain ⟨vs, h1, h2⟩ := ev_rel C hx
    obtain ⟨v, hv, hr⟩ := h2.get hi
    refine ⟨v, ?_, hr⟩
    unfold execOp
    simp only [ho, h1, Instr.extract]
    have : vs.toArray[i]? = some v := by simpa using hv
    simp [this]

/-! memory that is read -/
def aggD : TypeDesc → Bool
  | .struct _ => true
  | .array _ _ => true
  | _ => false
theorem run_isAgg {w : World} {t : TypeId} {d : TypeDesc} (h : P.underlying t = some d) : (isAgg t).run P w = .ok (aggD d) w := by
  cases d <;> simp [isAgg, run_underlying h, aggD]
def nonNil : AV → Bool
  | .v (.c (.p _ _ _ _)) => true
  | .v (.c (.q _ _)) => true
  | .v (.c (.fn _ _)) => true
  | _ => false
theorem g_nilCheck {x : Operand} {v : AV} (ho : o.op = .nilCheck x) (hx : ev st x v) (hp : nonNil v = true) : GOp P o st v [] [] :=
  GOp.val fun σ T ac w C => by
    have h := ev_rel C hx
    refine ⟨ac.eval x, ?_, h⟩
    match v, hp, h with
    | .v (.c (.p k i K o')), _, h => obtain ⟨g, _, h⟩ := h; unfold execOp; simp [ho, h]
    | .v (.c (.q row o')), _, h => obtain ⟨b, off, h, _⟩ := h; unfold execOp; simp [ho, h]
    | .v (.c (.fn f caps)), _, h => obtain ⟨gs, _, h⟩ := h; unfold execOp; simp [ho, h]
theorem run_fieldAt {w : World} {t : TypeId} {fs : Array Field} {f : Field} {i n : Nat} {b off : Nat} (hu : P.underlying t = some (.struct fs)) (hf : fs[i]? = some f) (hz : (P.info? f.type).map (·.size) = some n) (hn : n ≠ 0) :
    (Instr.fieldAt t (.pointer (some ⟨b, off, none⟩)) i).run P w = .ok (.pointer (some ⟨b, off + f.offset, none⟩)) w := by
  cases hq : P.info? f.type with
  | none => simp [hq] at hz
  | some j =>
    have hs : j.size = n := by simpa [hq] using hz
    simp [Instr.fieldAt, run_underlying hu, hf, Instr.sureAddr, fieldPlace, sizeOf, typeInfo, hq, hs, hn, Addr.add_lit]
theorem g_fieldP {t : TypeId} {x : Operand} {i k r K o' n : Nat} {fs : Array Field} {f : Field} (ho : o.op = .fieldAddr t x i) (hx : ev st x (.v (.c (.p k r K o')))) (hu : P.underlying t = some (.struct fs)) (hf : fs[i]? = some f) (hz : (P.info? f.type).map (·.size) = some n) (hn : n ≠ 0) :
    GOp P o st (.v (.c (.p k r K (o' + f.offset)))) [] [] :=
  GOp.val fun σ T ac w C => by
    obtain ⟨g, h1, h2⟩ := ev_rel C hx
    exact ⟨.pointer (some ⟨g.g, r * K + o' + f.offset, none⟩), by unfold execOp; simp [ho, h2, run_fieldAt hu hf hz hn], g, h1, by rw [Nat.add_assoc]⟩
theorem g_fieldQ {t : TypeId} {x : Operand} {i o' n : Nat} {row : List D} {fs : Array Field} {f : Field} (ho : o.op = .fieldAddr t x i) (hx : ev st x (.v (.c (.q row o')))) (hu : P.underlying t = some (.struct fs)) (hf : fs[i]? = some f) (hz : (P.info? f.type).map (·.size) = some n) (hn : n ≠ 0) :
    GOp P o st (.v (.c (.q row (o' + f.offset)))) [] [] :=
  GOp.val fun σ T ac w C => by
    obtain ⟨b, off, h1, h2⟩ := ev_rel C hx
    exact ⟨.pointer (some ⟨b, off + o' + f.offset, none⟩), by unfold execOp; simp [ho, h1, run_fieldAt hu hf hz hn], b, off, by rw [Nat.add_assoc], h2⟩
/-- an index into rows that nobody writes -/
theorem g_indexQ {t e : TypeId} {x y : Operand} {K : Nat} {i : Nat} {j : Int} {rows : List (List D)} {row : List D} (ho : o.op = .indexAddr t x y) (hx : ev st x (.v (.c (.d (.r K rows))))) (hy : ev st y (.v (.c (.d (.v (.int .i64 j))))))
    (hu : P.underlying t = some (.slice e)) (hz : (P.info? e).map (·.size) = some K) (hj : j = (i : Int)) (hr : rows[i]? = some row) : GOp P o st (.v (.c (.q row 0))) [] [] :=
  GOp.val fun σ T ac w C => by
    have h1 := ev_rel C hx
    have h2 := DRel.inv (ev_rel C hy)
    subst hj
    have hlt := (List.getElem?_eq_some_iff.1 hr).1
    generalize hv : ac.eval x = v at h1
    cases h1 with
    | nil => simp at hlt
    | r K rows b off c cs hb hT hc hm hK hcell hd =>
      refine ⟨.pointer (some ⟨b, off + i * K, none⟩), ?_, b, off + i * K, by rw [Nat.add_zero], hb, hT, fun j' d hd' => ⟨cs i j', by rw [Nat.add_assoc]; exact hcell i row j' d hr hd', hd i row j' d hr hd'⟩⟩
      cases hq : P.info? e with
      | none => simp [hq] at hz
      | some ii =>
        have hs : ii.size = K := by simpa [hq] using hz
        unfold execOp
        simp [ho, hv, h2, Instr.indexAt, asIntOf, run_underlying hu, sizeOf, typeInfo, hq, hs, hlt, Addr.add_lit]
theorem g_indexP {t e : TypeId} {x y : Operand} {k r K n : Nat} {i : Nat} {j : Int} (ho : o.op = .indexAddr t x y) (hx : ev st x (.v (.c (.s k r K n)))) (hy : ev st y (.v (.c (.d (.v (.int .i64 j))))))
    (hu : P.underlying t = some (.slice e)) (hz : (P.info? e).map (·.size) = some K) (hj : j = (i : Int)) (hi : i < n) : GOp P o st (.v (.c (.p k (r + i) K 0))) [] [] :=
  GOp.val fun σ T ac w C => by
    have h1 := ev_rel C hx
    have h2 := DRel.inv (ev_rel C hy)
    subst hj
    rcases h1 with ⟨h0, _⟩ | ⟨g, hg', hv, hc, hm⟩
    · omega
    · refine ⟨.pointer (some ⟨g.g, r * K + i * K, none⟩), ?_, g, hg', by rw [Nat.add_zero, Nat.add_mul]⟩
      cases hq : P.info? e with
      | none => simp [hq] at hz
      | some ii =>
        have hs : ii.size = K := by simpa [hq] using hz
        unfold execOp
        simp [ho, hv, h2, Instr.indexAt, asIntOf, run_underlying hu, sizeOf, typeInfo, hq, hs, hi, Addr.add_lit]
theorem HRel.cell_box {σ : Nat → Option Adr} {T : Nat → Prop} {w : World} {g : Adr} {t : Nat} {cs : List CV} (h : HRel σ T w (some g) (.box t cs)) {j : Nat} {c : CV} (hc : cs[j]? = some c) : ∃ v, w.cell? ⟨g.g, j, none⟩ = some v ∧ CRel σ T w c v := by
  obtain ⟨g', vs, h1, _, h3, h4⟩ := h
  injection h1 with h1; subst h1
  obtain ⟨v, hv, hr⟩ := h4.get hc
  exact ⟨v, by rw [cell_of_row w g.g j vs.toArray t (0, 0) h3]; simpa using hv, hr⟩
theorem HRel.cell_arr {σ : Nat → Option Adr} {T : Nat → Prop} {w : World} {g : Adr} {t K : Nat} {rows : List (List D)} (h : HRel σ T w (some g) (.arr t K rows)) {i j : Nat} {row : List D} {d : D} (hr : rows[i]? = some row) (hd : row[j]? = some d) : ∃ v, w.cell? ⟨g.g, i * K + j, none⟩ = some v ∧ DRel T w d v := by
  rcases h.2 with ⟨_, h⟩ | ⟨g', vs, h1, _, h3, _, _, h4⟩
  · cases h
  · injection h1 with h1; subst h1
    obtain ⟨v, hv, hrel⟩ := (h4.2 i row hr).2 j d hd
    exact ⟨v, by rw [cell_of_row w g.g _ vs.toArray t (0, 0) h3]; simpa using hv, hrel⟩
theorem run_load1 {w : World} {t : TypeId} {d : TypeDesc} {a : Addr} {v : Value} (hu : P.underlying t = some d) (hd : aggD d = false) (hc : w.cell? a = some v) : (Instr.loadAt t (.pointer (some a))).run P w = .ok v w := by
  simp [Instr.loadAt, Instr.sureAddr, run_loadVar_one (by rw [run_isAgg hu, hd]) hc]
/-- a cell that is read: of a variable; of an array; of a row that nobody writes -/
theorem g_loadB {t bt : TypeId} {d : TypeDesc} {x : Operand} {k j : Nat} {cs : List CV} {c : CV} (ho : o.op = .load t x) (hx : ev st x (.v (.c (.p k 0 0 j)))) (hb : look st.h k = some (.box bt cs)) (hu : P.underlying t = some d) (hd : aggD d = false) (hc : cs[j]? = some c) : GOp P o st (.v (.c c)) [] [] :=
  GOp.val fun σ T ac w C => by
    obtain ⟨g, h1, h2⟩ := ev_rel C hx
    have hh := C.heap k _ hb
    rw [h1] at hh
    obtain ⟨v, hv, hr⟩ := hh.cell_box hc
    refine ⟨v, ?_, hr⟩
    unfold execOp
    simp [ho, h2, run_load1 hu hd hv]
theorem g_loadA {t bt : TypeId} {d : TypeDesc} {x : Operand} {k i K j : Nat} {rows : List (List D)} {row : List D} {c : D} (ho : o.op = .load t x) (hx : ev st x (.v (.c (.p k i K j)))) (hb : look st.h k = some (.arr bt K rows)) (hu : P.underlying t = some d) (hd : aggD d = false) (hr : rows[i]? = some row) (hc : row[j]? = some c) : GOp P o st (.v (.c (.d c))) [] [] :=
  GOp.val fun σ T ac w C => by
    obtain ⟨g, h1, h2⟩ := ev_rel C hx
    have hh := C.heap k _ hb
    rw [h1] at hh
    obtain ⟨v, hv, hrel⟩ := hh.cell_arr hr hc
    refine ⟨v, ?_, hrel⟩
    unfold execOp
    simp [ho, h2, run_load1 hu hd hv]
theorem g_loadQ {t : TypeId} {d : TypeDesc} {x : Operand} {j : Nat} {row : List D} {c : D} (ho : o.op = .load t x) (hx : ev st x (.v (.c (.q row j)))) (hu : P.underlying t = some d) (hd : aggD d = false) (hc : row[j]? = some c) : GOp P o st (.v (.c (.d c))) [] [] :=
  GOp.val fun σ T ac w C => by
    obtain ⟨b, off, h1, h2⟩ := ev_rel C hx
    obtain ⟨v, hv, hrel⟩ := h2.2.2 j c hc
    refine ⟨v, ?_, hrel⟩
    unfold execOp
    simp [ho, h1, run_load1 hu hd hv]
theorem run_loadAgg {w : World} {t : TypeId} {d : TypeDesc} {b off : Nat} {ws : List Value} (hu : P.underlying t = some d) (hd : aggD d = true) (hz : (P.info? t).map (·.size) = some ws.length) (hw : ∀ j v, ws[j]? = some v → w.cell? ⟨b, off + j, none⟩ = some v) : (Instr.loadAt t (.pointer (some ⟨b, off, none⟩))).run P w = .ok (.agg ws.toArray) w := by
  have hl : (loadCells ⟨b, off, none⟩ ws.length).run P w = .ok ws.toArray w := run_loadCells_list (P := P) w ⟨b, off, none⟩ ws (fun j v hv => by rw [Addr.add_lit]; exact hw j v hv)
  cases hq : P.info? t with
  | none => simp [hq] at hz
  | some i =>
    have hs : i.size = ws.length := by simpa [hq] using hz
    simp [Instr.loadAt, Instr.sureAddr, loadVar, run_isAgg hu, hd, sizeOf, typeInfo, hq, hs, hl]
theorem slice_get {α : Type} {l : List α} {o n j : Nat} {x : α} (h : ((l.drop o).take n)[j]? = some x) : l[o + j]? = some x := by
  rw [List.getElem?_take] at h
  split at h
  · simpa using h
  · cases h
/-- a struct that is read whole: n cells from cell j on -/
theorem g_loadBs {t bt : TypeId} {d : TypeDesc} {x : Operand} {k j n : Nat} {cs xs : List CV} (ho : o.op = .load t x) (hx : ev st x (.v (.c (.p k 0 0 j)))) (hb : look st.h k = some (.box bt cs)) (hu : P.underlying t = some d) (hd : aggD d = true) (hz : (P.info? t).map (·.size) = some n) (hxs : (cs.drop j).take n = xs) (hn : xs.length = n) : GOp P o st (.v (.g xs)) [] [] :=
  GOp.val fun σ T ac w C => by
    obtain ⟨g, h1, h2⟩ := ev_rel C hx
    obtain ⟨g', vs, h3, _, h4, h5⟩ := C.heap k _ hb
    rw [h1] at h3; injection h3 with h3; subst h3
    subst hxs
    have hr := (h5.drop j).take n
    refine ⟨.agg ((vs.drop j).take n).toArray, ?_, _, rfl, hr⟩
    unfold execOp
    simp only [ho, h2]
    rw [show 0 * 0 + j = j by omega]
    simp [run_loadAgg (ws := (vs.drop j).take n) hu hd (by rw [← hr.length, hn]; exact hz) (fun j' v hv => by rw [cell_of_row w g.g _ vs.toArray bt (0, 0) h4]; simpa using slice_get hv)]
theorem all2_row {σ : Nat → Option Adr} {T : Nat → Prop} {w : World} : ∀ {row : List D} {vs : List Value}, All2 (DRel T w) row vs → All2 (CRel σ T w) (row.map .d) vs
  | [], [], _ => trivial
  | _ :: _, _ :: _, h => ⟨h.1, all2_row h.2⟩
  | [], _ :: _, h => h.elim
  | _ :: _, [], h => h.elim
theorem all2_of_get {α β : Type} {R : α → β → Prop} : ∀ {xs : List α} {ys : List β}, xs.length = ys.length → (∀ (i : Nat) (x : α), xs[i]? = some x → ∃ y, ys[i]? = some y ∧ R x y) → All2 R xs ys
  | [], [], _, _ => trivial
  | x :: xs, y :: ys, hl, h => ⟨by obtain ⟨y', h1, h2⟩ := h 0 x rfl; simp at h1; subst h1; exact h2, all2_of_get (by simpa using hl) fun i x hx => by simpa using h (i + 1) x (by simpa using hx)⟩
  | [], _ :: _, hl, _ => by simp at hl
  | _ :: _, [], hl, _ => by simp at hl
/-- the values of a row's cells -/
theorem row_vals {T : Nat → Prop} {w : World} {b off : Nat} : ∀ {row : List D}, (∀ (j : Nat) (d : D), row[j]? = some d → ∃ u, w.cell? ⟨b, off + j, none⟩ = some u ∧ DRel T w d u) → ∃ vs, All2 (DRel T w) row vs ∧ ∀ j v, vs[j]? = some v → w.cell? ⟨b, off + j, none⟩ = some v := by
  intro row
  induction row generalizing off with
  | nil => exact fun _ => ⟨[], trivial, fun j v h => by simp at h⟩
  | cons d row ih =>
    intro h
    obtain ⟨u, hu, hr⟩ := h 0 d rfl
    obtain ⟨vs, h1, h2⟩ := ih (off := off + 1) fun j d hd => by have := h (j + 1) d (by simpa using hd); rwa [show off + 1 + j = off + (j + 1) by omega]
    refine ⟨u :: vs, ⟨hr, h1⟩, fun j v hv => ?_⟩
    rcases j with _ | j
    · simp at hv; subst hv; exact hu
    · have := h2 j v (by simpa using hv); rwa [show off + 1 + j = off + (j + 1) by omega] at this
theorem g_loadQs {t : TypeId} {d : TypeDesc} {x : Operand} {row : List D} {n : Nat} {xs : List CV} (ho : o.op = .load t x) (hx : ev st x (.v (.c (.q row 0)))) (hu : P.underlying t = some d) (hd : aggD d = true) (hz : (P.info? t).map (·.size) = some n) (hn : row.length = n) (hxs : row.map CV.d = xs) : GOp P o st (.v (.g xs)) [] [] :=
  GOp.val fun σ T ac w C => by
    obtain ⟨b, off, h1, h2⟩ := ev_rel C hx
    obtain ⟨vs, h3, h4⟩ := row_vals h2.2.2
    subst hxs
    refine ⟨.agg vs.toArray, ?_, vs, rfl, all2_row h3⟩
    unfold execOp
    simp only [ho, h1, Nat.add_zero]
    simp [run_loadAgg (ws := vs) hu hd (by rw [← h3.length, hn]; exact hz) h4]
theorem g_loadAs {t bt : TypeId} {d : TypeDesc} {x : Operand} {k i K : Nat} {rows : List (List D)} {row : List D} {xs : List CV} (ho : o.op = .load t x) (hx : ev st x (.v (.c (.p k i K 0)))) (hb : look st.h k = some (.arr bt K rows)) (hu : P.underlying t = some d) (hd : aggD d = true) (hz : (P.info? t).map (·.size) = some K) (hr : rows[i]? = some row) (hxs : row.map CV.d = xs) : GOp P o st (.v (.g xs)) [] [] :=
  GOp.val fun σ T ac w C => by
    obtain ⟨g, h1, h2⟩ := ev_rel C hx
    have hh := C.heap k _ hb
    rw [h1] at hh
    have hK : row.length = K := by
      rcases hh.2 with ⟨h, _⟩ | ⟨g', vs, _, _, _, _, _, h4⟩
      · subst h; simp at hr
      · exact (h4.2 i row hr).1
    obtain ⟨vs, h3, h4⟩ := row_vals (T := T) (w := w) (b := g.g) (off := i * K) (row := row) fun j d hd => hh.cell_arr hr hd
    subst hxs
    refine ⟨.agg vs.toArray, ?_, vs, rfl, all2_row h3⟩
    unfold execOp
    simp only [ho, h2, Nat.add_zero]
    simp [run_loadAgg (ws := vs) hu hd (by rw [← h3.length, hK]; exact hz) h4]
theorem g_lenD {x : Operand} {c : Call} {t : TypeId} {e : TypeId} {K : Nat} {rows : List (List D)} (ho : o.op = .call c) (hc : c.callee = .builtin .len) (ha : c.args = #[x]) (hat : c.argTypes = #[t]) (hx : ev st x (.v (.c (.d (.r K rows))))) (hu : P.underlying t = some (.slice e)) : GOp P o st (.v (.c (.d (.v (.int .i64 rows.length))))) [] [] :=
  GOp.val fun σ T ac w C => by
    have h1 := ev_rel C hx
    refine ⟨_, ?_, DRel.v _ rfl⟩
    generalize hv : ac.eval x = v at h1
    unfold execOp
    cases h1 <;> simp [ho, resolve, hc, ha, hat, invoke, builtin, hv, Builtin.len_, run_underlying hu, goInt]
theorem g_lenS {x : Operand} {c : Call} {t : TypeId} {e : TypeId} {k i K n : Nat} (ho : o.op = .call c) (hc : c.callee = .builtin .len) (ha : c.args = #[x]) (hat : c.argTypes = #[t]) (hx : ev st x (.v (.c (.s k i K n)))) (hu : P.underlying t = some (.slice e)) : GOp P o st (.v (.c (.d (.v (.int .i64 n))))) [] [] :=
  GOp.val fun σ T ac w C => by
    have h1 := ev_rel C hx
    refine ⟨_, ?_, DRel.v _ rfl⟩
    unfold execOp
    rcases h1 with ⟨h0, hv⟩ | ⟨g, _, hv, _⟩
    · subst h0; simp [ho, resolve, hc, ha, hat, invoke, builtin, hv, Builtin.len_, run_underlying hu, goInt]
    · simp [ho, resolve, hc, ha, hat, invoke, builtin, hv, Builtin.len_, run_underlying hu, goInt]
theorem g_lenN {x : Operand} {c : Call} {t : TypeId} {e : TypeId} (ho : o.op = .call c) (hc : c.callee = .builtin .len) (ha : c.args = #[x]) (hat : c.argTypes = #[t]) (hx : ev st x (.v (.c (.d (.v (.slice none 0 0)))))) (hu : P.underlying t = some (.slice e)) : GOp P o st (.v (.c (.d (.v (.int .i64 0))))) [] [] :=
  GOp.val fun σ T ac w C => by
    have hv := DRel.inv (ev_rel C hx)
    refine ⟨_, ?_, DRel.v _ rfl⟩
    unfold execOp
    simp [ho, resolve, hc, ha, hat, invoke, builtin, hv, Builtin.len_, run_underlying hu, goInt]
end
end Go.Proofs.Ytgmcdlfmifijlaa.Dev
