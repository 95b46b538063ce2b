/- The symbolic heap: stores, slices that are made, append, calls; no condition. -/
import Derived.Test.YtgmcdlfmifijlaaDSh5
set_option linter.unusedVariables false
set_option linter.unusedSimpArgs false
namespace Go.Proofs.Ytgmcdlfmifijlaa.Dev
open Go.RowKit

section
variable {P : Program} {st : AState} {o : Oper}
theorem g_pick {c x y : Operand} {b : Bool} {v : AV} (ho : o.op = .pick c x y) (hc : ev st c (.v (.c (.d (.v (.bool b)))))) (hv : ev st (if b then x else y) v) : GOp P o st v [] [] :=
  GOp.val fun σ T ac w C => by
    have h1 := DRel.inv (ev_rel C hc)
    refine ⟨ac.eval (if b then x else y), ?_, ev_rel C hv⟩
    unfold execOp
    cases b <;> simp [ho, h1, asBool]
theorem Ext.write {σ : Nat → Option Adr} {T : Nat → Prop} {a : Act} {w w' : World} (C : Core σ T st a w) {k : Nat} {g : Adr} {b b0 : AB} (hb0 : look st.h k = some b0) (hg : σ k = some g) (hos : w'.os = w.os) (hta : w'.tape = w.tape) (hou : w'.output = w.output) (hsz : w'.heap.size = w.heap.size)
    (hold : ∀ j, j ≠ g.g → w'.heap[j]? = w.heap[j]?) (hr : Grow σ σ T T w w' (fun b => b = g.g) → HRel σ T w' (some g) b) : Ext σ T w σ T w' [(k, b)] [k] := by
  have hT : T g.g := (C.heap k b0 hb0).inT hg
  refine ⟨hos, hta, hou, ⟨Nat.le_of_eq hsz.symm, ?_, ?_, fun _ _ h => h, fun _ _ h => h⟩, fun _ h => h, fun b hb => by rw [hsz]; exact C.Tlt b hb, fun _ _ => rfl, ?_, ?_, ?_⟩
  · intro b' _ hb'
    exact hold b' fun e => hb' ⟨k, List.mem_singleton.2 rfl, g, hg, e.symm⟩
  · rintro b' ⟨k', hk', g', hg', rfl⟩
    rw [List.mem_singleton.1 hk', hg] at hg'; injection hg' with hg'; subst hg'; exact hT
  · intro j b' h
    obtain ⟨rfl, rfl⟩ := Prod.mk.inj (List.mem_singleton.1 h)
    rw [hg]
    exact hr ⟨Nat.le_of_eq hsz.symm, fun b' _ hb' => hold b' hb', fun b' hb' => hb' ▸ hT, fun _ _ h => h, fun _ _ h => h⟩
  · intro j b' g' h hg'
    obtain ⟨rfl, rfl⟩ := Prod.mk.inj (List.mem_singleton.1 h)
    exact .inr ⟨j, List.mem_singleton.2 rfl, g', hg', rfl⟩
  · intro j j' b1 b2 g1 g2 h h' _ _ _
    obtain ⟨rfl, _⟩ := Prod.mk.inj (List.mem_singleton.1 h)
    obtain ⟨rfl, _⟩ := Prod.mk.inj (List.mem_singleton.1 h')
    rfl
theorem run_storeAt {w : World} {t bt : TypeId} {g off : Nat} {vs ws : List Value} {v : Value} (hh : w.heap[g]? = some (.cells vs.toArray bt (0, 0))) (hv : v.cells = ws.toArray) (hz : (P.info? t).map (·.size) = some ws.length) (hl : off + ws.length ≤ vs.length) (h1 : ∀ u ∈ ws, u.oneCell' = true) :
    (Instr.storeAt t (.pointer (some ⟨g, off, none⟩)) v).run P w = .ok () (w.setRow g (vs.take off ++ ws ++ vs.drop (off + ws.length)).toArray) := by
  cases hq : P.info? t with
  | none => simp [hq] at hz
  | some i =>
    have hs : i.size = ws.length := by simpa [hq] using hz
    have := run_storeCells_at (P := P) g off bt ws 0 vs.toArray w hh (by simpa using hl) h1
    simp only [Nat.add_zero] at this
    simp [Instr.storeAt, Instr.sureAddr, storeVar, sizeOf, typeInfo, hq, hs, hv, this]
theorem all2_known {σ : Nat → Option Adr} {T : Nat → Prop} {w : World} : ∀ {xs : List CV} {ws : List Value}, All2 (CRel σ T w) xs ws → xs.all CV.known = true → ∀ u ∈ ws, u.oneCell' = true
  | [], [], _, _, u, hu => by cases hu
  | x :: xs, v :: vs, h, hk, u, hu => by
    simp only [List.all_cons, Bool.and_eq_true] at hk
    rcases List.mem_cons.1 hu with rfl | hu
    · exact crel_known h.1 hk.1
    · exact all2_known h.2 hk.2 u hu
  | [], _ :: _, h, _, _, _ => h.elim
  | _ :: _, [], h, _, _, _ => h.elim
theorem gknown {g : GV} (h : (cellsG g).all CV.known = true) : g.known = true := by
  cases g with
  | c x => have h : x.known = true := by simpa [cellsG] using h
           exact h
  | g xs => rfl
theorem g_storeB {t bt : TypeId} {x y : Operand} {k j n : Nat} {gv : GV} {cs cs' : List CV} (ho : o.op = .store t x y) (hx : ev st x (.v (.c (.p k 0 0 j)))) (hy : ev st y (.v gv)) (hb : look st.h k = some (.box bt cs)) (hk : (cellsG gv).all CV.known = true)
    (hz : (P.info? t).map (·.size) = some n) (hn : (cellsG gv).length = n) (hl : j + n ≤ cs.length) (hcs : cs.take j ++ cellsG gv ++ cs.drop (j + n) = cs') : GOp P o st (.v (.c .any)) [(k, .box bt cs')] [k] := by
  intro σ T a w C _
  obtain ⟨g, h1, h2⟩ := ev_rel C hx
  obtain ⟨g', vs, h3, h4, h5, h6⟩ := C.heap k _ hb
  rw [h1] at h3; injection h3 with h3; subst h3
  obtain ⟨ws, hws, hr⟩ := grel_cells (ev_rel C hy) (gknown hk)
  have hlw := hr.length
  have hlv := h6.length
  have hrun := run_storeAt (P := P) (t := t) (off := j) (ws := ws) h5 hws (by rw [← hlw, hn]; exact hz) (by rw [← hlw, ← hlv, hn]; exact hl) (all2_known hr hk)
  refine wp_skipv (w' := w.setRow g.g (vs.take j ++ ws ++ vs.drop (j + ws.length)).toArray) ?_ ⟨undef, σ, T, rfl, Ext.write C hb h1 rfl rfl rfl (setRow_size w _ _) (fun i hi => setRow_other w g.g i _ hi) fun G => ?_, trivial⟩
  · unfold execOp
    simp only [ho, h2, Nat.zero_mul, Nat.zero_add, Sem.run_bind, hrun, Result.andThen_ok]
    rfl
  · refine ⟨g, _, rfl, h4, setRow_heap w g.g _ _ bt (0, 0) h5, ?_⟩
    subst hcs
    rw [← hn, hlw]
    exact (((h6.take j).mono fun _ _ h => h.grow G).append (hr.mono fun _ _ h => h.grow G)).append ((h6.drop _).mono fun _ _ h => h.grow G)
theorem rows_set {T : Nat → Prop} {w : World} {K i : Nat} {rows : List (List D)} {row' : List D} {vs ws : List Value} {j : Nat} {row : List D} {ds : List D} (h : Rows T w K rows vs) (hi : rows[i]? = some row) (hr : All2 (DRel T w) ds ws) (hj : j + ds.length ≤ K) (he : row' = row.take j ++ ds ++ row.drop (j + ds.length)) :
    Rows T w K (rows.set i row') (vs.take (i * K + j) ++ ws ++ vs.drop (i * K + j + ws.length)) := by
  have hil := (List.getElem?_eq_some_iff.1 hi).1
  have hrl := (h.2 i row hi).1
  have hlw := hr.length
  have hub : i * K + K ≤ vs.length := Nat.le_trans (by rw [← Nat.succ_mul]; exact Nat.mul_le_mul_right _ hil) h.1
  have hlen : (vs.take (i * K + j) ++ ws ++ vs.drop (i * K + j + ws.length)).length = vs.length := by simp; omega
  have get : ∀ n, (n < i * K + j ∨ i * K + j + ws.length ≤ n) → (vs.take (i * K + j) ++ ws ++ vs.drop (i * K + j + ws.length))[n]? = vs[n]? := by
    intro n hn
    rcases hn with hn | hn
    · rw [List.append_assoc, List.getElem?_append_left (by simp; omega), List.getElem?_take, if_pos hn]
    · rw [List.getElem?_append_right (by simp; omega), List.getElem?_drop]
      congr 1
      simp; omega
  have getw : ∀ n, n < ws.length → (vs.take (i * K + j) ++ ws ++ vs.drop (i * K + j + ws.length))[i * K + j + n]? = ws[n]? := by
    intro n hn
    rw [List.append_assoc, List.getElem?_append_right (by simp; omega), List.getElem?_append_left (by simp; omega)]
    congr 1
    simp; omega
  refine ⟨by rw [List.length_set, hlen]; exact h.1, fun i' r' hi' => ?_⟩
  rw [List.getElem?_set] at hi'
  by_cases e : i = i'
  · subst e
    rw [if_pos rfl, if_pos hil] at hi'
    injection hi' with hi'
    subst hi'
    subst he
    refine ⟨by simp; omega, fun j' d hd => ?_⟩
    by_cases h1 : j' < j
    · rw [List.append_assoc, List.getElem?_append_left (by simp; omega), List.getElem?_take, if_pos h1] at hd
      obtain ⟨u, hu, hrel⟩ := (h.2 i row hi).2 j' d hd
      exact ⟨u, (get _ (.inl (by omega))).trans hu, hrel⟩
    · by_cases h2 : j' < j + ds.length
      · rw [List.append_assoc, List.getElem?_append_right (by simp; omega), List.getElem?_append_left (by simp; omega)] at hd
        have hmin : (row.take j).length = j := by simp; omega
        rw [hmin] at hd
        obtain ⟨u, hu, hrel⟩ := hr.get hd
        refine ⟨u, ?_, hrel⟩
        have := getw (j' - j) (by omega)
        rwa [show i * K + j + (j' - j) = i * K + j' by omega, hu] at this
      · rw [List.getElem?_append_right (by simp; omega), List.getElem?_drop] at hd
        have hmin : (row.take j ++ ds).length = j + ds.length := by simp; omega
        rw [hmin, show j + ds.length + (j' - (j + ds.length)) = j' by omega] at hd
        obtain ⟨u, hu, hrel⟩ := (h.2 i row hi).2 j' d hd
        exact ⟨u, (get _ (.inr (by omega))).trans hu, hrel⟩
  · rw [if_neg e] at hi'
    refine ⟨(h.2 i' r' hi').1, fun j' d hd => ?_⟩
    obtain ⟨u, hu, hrel⟩ := (h.2 i' r' hi').2 j' d hd
    refine ⟨u, (get _ ?_).trans hu, hrel⟩
    have hj' : j' < K := by rw [← (h.2 i' r' hi').1]; exact (List.getElem?_eq_some_iff.1 hd).1
    rcases Nat.lt_or_gt_of_ne e with h1 | h1
    · have := Nat.mul_le_mul_right K (show i + 1 ≤ i' from h1)
      rw [Nat.succ_mul] at this
      exact .inr (by omega)
    · have := Nat.mul_le_mul_right K (show i' + 1 ≤ i from h1)
      rw [Nat.succ_mul] at this
      exact .inl (by omega)
theorem Rows.grow' {σ σ' : Nat → Option Adr} {T T' : Nat → Prop} {w w' : World} {C : Nat → Prop} {K : Nat} {rows : List (List D)} {vs : List Value} (h : Rows T w K rows vs) (G : Grow σ σ' T T' w w' C) : Rows T' w' K rows vs := h.grow G
theorem all2_ds {σ : Nat → Option Adr} {T : Nat → Prop} {w : World} : ∀ {ds : List D} {ws : List Value}, All2 (CRel σ T w) (ds.map .d) ws → All2 (DRel T w) ds ws
  | [], [], _ => trivial
  | _ :: _, _ :: _, h => ⟨h.1, all2_ds h.2⟩
  | [], _ :: _, h => h.elim
  | _ :: _, [], h => h.elim
theorem g_storeA {t bt : TypeId} {x y : Operand} {k i K j n : Nat} {gv : GV} {ds : List D} {rows rows' : List (List D)} {row row' : List D} (ho : o.op = .store t x y) (hx : ev st x (.v (.c (.p k i K j)))) (hy : ev st y (.v gv)) (hb : look st.h k = some (.arr bt K rows)) (hds : cellsG gv = ds.map .d)
    (hz : (P.info? t).map (·.size) = some n) (hn : ds.length = n) (hl : j + n ≤ K) (hr : rows[i]? = some row) (he : row' = row.take j ++ ds ++ row.drop (j + n)) (hrows : rows.set i row' = rows') : GOp P o st (.v (.c .any)) [(k, .arr bt K rows')] [k] := by
  intro σ T a w C _
  obtain ⟨g, h1, h2⟩ := ev_rel C hx
  obtain ⟨hK, hh⟩ := C.heap k _ hb
  rcases hh with ⟨h0, _⟩ | ⟨g', vs, h3, h4, h5, h6, h7, h8⟩
  · subst h0; simp at hr
  rw [h1] at h3; injection h3 with h3; subst h3
  have hkn : (cellsG gv).all CV.known = true := by rw [hds, List.all_map]; simp [Function.comp_def, CV.known]
  obtain ⟨ws, hws, hrel⟩ := grel_cells (ev_rel C hy) (gknown hkn)
  have h1c := all2_known hrel hkn
  rw [hds] at hrel
  have hrel := all2_ds hrel
  have hlw := hrel.length
  have hil := (List.getElem?_eq_some_iff.1 hr).1
  have hub : i * K + K ≤ vs.length := Nat.le_trans (by rw [← Nat.succ_mul]; exact Nat.mul_le_mul_right _ hil) h8.1
  have hrun := run_storeAt (P := P) (t := t) (off := i * K + j) (ws := ws) h5 hws (by rw [← hlw, hn]; exact hz) (by rw [← hlw, hn]; omega) h1c
  refine wp_skipv (w' := w.setRow g.g (vs.take (i * K + j) ++ ws ++ vs.drop (i * K + j + ws.length)).toArray) ?_ ⟨undef, σ, T, rfl, Ext.write C hb h1 rfl rfl rfl (setRow_size w _ _) (fun i hi => setRow_other w g.g i _ hi) fun G => ?_, trivial⟩
  · unfold execOp
    simp only [ho, h2, Sem.run_bind, hrun, Result.andThen_ok]
    rfl
  · subst hrows
    refine ⟨hK, .inr ⟨g, _, rfl, h4, setRow_heap w g.g _ _ bt (0, 0) h5, ?_, h7, ?_⟩⟩
    · rw [← h6]; simp; omega
    · subst hn
      exact (rows_set h8 hr hrel hl he).grow G
/-- a new array out of its rows -/
theorem HRel.newArr {σ : Nat → Option Adr} {T : Nat → Prop} {w : World} {t K n : Nat} {rows : List (List D)} {vs : List Value} (hK : 0 < K) (hl : vs.length = n * K) (hn : n ≤ 9223372036854775807) (h : Rows T w K rows vs) {σ' : Nat → Option Adr} (G : Grow σ σ' T (addT T w.heap.size) w (w.alloc (.cells vs.toArray t)) fun _ => False) :
    HRel σ' (addT T w.heap.size) (w.alloc (.cells vs.toArray t)) (some ⟨w.heap.size, n⟩) (.arr t K rows) :=
  ⟨hK, .inr ⟨⟨w.heap.size, n⟩, vs, rfl, .inr rfl, heap_alloc_new w _, hl, hn, h.grow G⟩⟩
theorem rows_one {T : Nat → Prop} {w : World} {ds : List D} {ws : List Value} (h : All2 (DRel T w) ds ws) : Rows T w ds.length [ds] ws := by
  refine ⟨by rw [h.length]; simp, fun i row hi => ?_⟩
  rcases i with _ | i
  · simp at hi; subst hi
    exact ⟨rfl, fun j d hd => by rw [Nat.zero_mul, Nat.zero_add]; exact h.get hd⟩
  · simp at hi
theorem rows_append {T : Nat → Prop} {w : World} {K : Nat} {rows rows' : List (List D)} {vs vs' : List Value} (h : Rows T w K rows vs) (hl : vs.length = rows.length * K) (h' : Rows T w K rows' vs') : Rows T w K (rows ++ rows') (vs ++ vs') := by
  have e1 := h'.1
  refine ⟨by rw [List.length_append, List.length_append, Nat.add_mul]; omega, fun i row hi => ?_⟩
  by_cases hlt : i < rows.length
  · rw [List.getElem?_append_left hlt] at hi
    refine ⟨(h.2 i row hi).1, fun j d hd => ?_⟩
    obtain ⟨u, hu, hr⟩ := (h.2 i row hi).2 j d hd
    exact ⟨u, by rw [List.getElem?_append_left (List.getElem?_eq_some_iff.1 hu).1]; exact hu, hr⟩
  · rw [List.getElem?_append_right (by omega)] at hi
    refine ⟨(h'.2 _ row hi).1, fun j d hd => ?_⟩
    obtain ⟨u, hu, hr⟩ := (h'.2 _ row hi).2 j d hd
    refine ⟨u, ?_, hr⟩
    have : i * K + j = vs.length + ((i - rows.length) * K + j) := by
      rw [hl, ← Nat.add_assoc, ← Nat.add_mul]; congr 2; omega
    rw [this, List.getElem?_append_right (by omega), Nat.add_sub_cancel_left]
    exact hu
theorem rows_take {T : Nat → Prop} {w : World} {K : Nat} {rows : List (List D)} {vs : List Value} (h : Rows T w K rows vs) {m : Nat} (hm : rows.length * K ≤ m) : Rows T w K rows (vs.take m) := by
  refine ⟨by rw [List.length_take]; have := h.1; omega, fun i row hi => ⟨(h.2 i row hi).1, fun j d hd => ?_⟩⟩
  obtain ⟨u, hu, hr⟩ := (h.2 i row hi).2 j d hd
  refine ⟨u, ?_, hr⟩
  have hj : j < K := by rw [← (h.2 i row hi).1]; exact (List.getElem?_eq_some_iff.1 hd).1
  have := Nat.mul_le_mul_right K (show i + 1 ≤ rows.length from (List.getElem?_eq_some_iff.1 hi).1)
  rw [Nat.succ_mul] at this
  rw [List.getElem?_take, if_pos (by omega)]
  exact hu
/-- the values of all cells of a slice that is read -/
structure Flat (T : Nat → Prop) (w : World) (K : Nat) (rows : List (List D)) (a : Addr) (vs : List Value) : Prop where
  len : vs.length = rows.length * K
  rows_ : Rows T w K rows vs
  cell : ∀ j u, vs[j]? = some u → w.cell? (a.add j) = some u
  one : ∀ u ∈ vs, u.oneCell' = true
theorem drel_one {T : Nat → Prop} {w : World} {d : D} {v : Value} (h : DRel T w d v) : v.oneCell' = true := by
  cases h with
  | v x hx => exact hx
  | nil => rfl
  | r => rfl
  | f => rfl
theorem flat_of {T : Nat → Prop} {w : World} {K : Nat} (hK : 0 < K) {rows : List (List D)} {b off : Nat} (f : Nat → Nat → Value) (hlen : ∀ (i : Nat) (row : List D), rows[i]? = some row → row.length = K)
    (hc : ∀ (i : Nat) (row : List D) (j : Nat) (d : D), rows[i]? = some row → row[j]? = some d → w.cell? ⟨b, off + (i * K + j), none⟩ = some (f i j) ∧ DRel T w d (f i j)) : ∃ vs, Flat T w K rows ⟨b, off, none⟩ vs := by
  let vs := (List.range (rows.length * K)).map fun p => f (p / K) (p % K)
  have hg : ∀ p, p < rows.length * K → vs[p]? = some (f (p / K) (p % K)) := fun p hp => by simp [vs, hp]
  have hrow : ∀ p, p < rows.length * K → ∃ row d, rows[p / K]? = some row ∧ row[p % K]? = some d := by
    intro p hp
    have h1 : p / K < rows.length := by rw [Nat.div_lt_iff_lt_mul hK]; exact hp
    have h2 : p % K < K := Nat.mod_lt _ hK
    have h3 := List.getElem?_eq_getElem h1
    have h4 := hlen _ _ h3
    exact ⟨_, _, h3, List.getElem?_eq_getElem (by omega)⟩
  refine ⟨vs, by simp [vs], ⟨by simp [vs], fun i row hi => ⟨hlen i row hi, fun j d hd => ?_⟩⟩, fun p u hu => ?_, fun u hu => ?_⟩
  · have hj : j < K := by rw [← hlen i row hi]; exact (List.getElem?_eq_some_iff.1 hd).1
    have hi1 := (List.getElem?_eq_some_iff.1 hi).1
    have hp : i * K + j < rows.length * K := by
      have := Nat.mul_le_mul_right K (show i + 1 ≤ rows.length from hi1)
      rw [Nat.succ_mul] at this; omega
    refine ⟨_, hg _ hp, ?_⟩
    have e1 : (i * K + j) / K = i := by rw [Nat.mul_comm, Nat.mul_add_div hK, Nat.div_eq_of_lt hj, Nat.add_zero]
    have e2 : (i * K + j) % K = j := by rw [Nat.mul_comm, Nat.mul_add_mod, Nat.mod_eq_of_lt hj]
    rw [e1, e2]
    exact (hc i row j d hi hd).2
  · have hp : p < rows.length * K := by have := (List.getElem?_eq_some_iff.1 hu).1; simpa [vs] using this
    rw [hg p hp] at hu
    injection hu with hu
    subst hu
    obtain ⟨row, d, h1, h2⟩ := hrow p hp
    have := (hc _ row _ d h1 h2).1
    rw [Addr.add_lit, show off + p = off + (p / K * K + p % K) by rw [Nat.mul_comm, Nat.div_add_mod]]
    exact this
  · obtain ⟨p, hp, rfl⟩ := List.mem_map.1 hu
    obtain ⟨row, d, h1, h2⟩ := hrow p (by simpa using hp)
    exact drel_one (hc _ row _ d h1 h2).2
/-- What a slice that is read holds: frozen rows, or a part of an array of the call's own. -/
inductive Src (st : AState) : AV → Nat → List (List D) → Prop
  | d (K : Nat) (rows : List (List D)) : Src st (.v (.c (.d (.r K rows)))) K rows
  | s {k t K : Nat} {rows : List (List D)} (h : look st.h k = some (.arr t K rows)) {n : Nat} (hn : rows.length = n) : Src st (.v (.c (.s k 0 K n))) K rows
  | sub {k i n t K : Nat} {rows ys : List (List D)} (h : look st.h k = some (.arr t K rows)) (hi : i + n ≤ rows.length) (he : (rows.drop i).take n = ys) : Src st (.v (.c (.s k i K n))) K ys
  | nil (K : Nat) : Src st (.v (.c (.d (.v (.slice none 0 0))))) K []
theorem sub_flat {σ : Nat → Option Adr} {T : Nat → Prop} {w : World} {g : Adr} {t K i n : Nat} {rows : List (List D)} (h : HRel σ T w (some g) (.arr t K rows)) (hi : i + n ≤ rows.length) : ∃ vs, Flat T w K ((rows.drop i).take n) ⟨g.g, i * K, none⟩ vs := by
  rcases h.2 with ⟨_, h⟩ | ⟨g', vs, h1, _, h3, h4, h5, h6⟩
  · cases h
  injection h1 with h1; subst h1
  refine flat_of h.1 (fun i' j => (vs[(i + i') * K + j]?).getD undef) (fun i' row hr => ?_) fun i' row j d hr hd => ?_
  · exact (h6.2 _ row (slice_get hr)).1
  · obtain ⟨u, hu, hrel⟩ := (h6.2 _ row (slice_get hr)).2 j d hd
    rw [hu]
    refine ⟨?_, hrel⟩
    rw [cell_of_row w g.g _ vs.toArray t (0, 0) h3, show i * K + (i' * K + j) = (i + i') * K + j by rw [Nat.add_mul]; omega]
    simpa using hu
theorem Src.read {σ : Nat → Option Adr} {T : Nat → Prop} {a : Act} {w : World} (C : Core σ T st a w) {v : AV} {K : Nat} {rows : List (List D)} (h : Src st v K rows) (hK : 0 < K) {x : Value} (hx : ARel σ T w v x) :
    (rows = [] ∧ ∃ A c, x = .slice A 0 c) ∨ ∃ b off c vs, x = .slice (some ⟨b, off, none⟩) rows.length c ∧ rows.length ≤ c ∧ c ≤ 9223372036854775807 ∧ Flat T w K rows ⟨b, off, none⟩ vs := by
  cases h with
  | d =>
    have hx : DRel T w (.r K rows) x := hx
    cases hx with
    | nil => exact .inl ⟨rfl, _, _, rfl⟩
    | r K rows b off c cs hb hT hc hm hlen hcell hd =>
      obtain ⟨vs, hf⟩ := flat_of hK cs hlen fun i row j d h1 h2 => ⟨hcell i row j d h1 h2, hd i row j d h1 h2⟩
      exact .inr ⟨b, off, c, vs, rfl, hc, hm, hf⟩
  | s h hn =>
    subst hn
    rcases hx with ⟨h0, hx⟩ | ⟨g, h1, h2, h3, h4⟩
    · exact .inl ⟨List.eq_nil_of_length_eq_zero h0, _, _, hx⟩
    · have hh := C.heap _ _ h
      rw [h1] at hh
      obtain ⟨vs, hf⟩ := sub_flat (i := 0) (n := rows.length) hh (by omega)
      rw [List.drop_zero, List.take_of_length_le (Nat.le_refl _)] at hf
      exact .inr ⟨g.g, 0 * K, g.c - 0, vs, h2, by omega, by omega, hf⟩
  | sub h hi he =>
    rename_i k i n t rows0
    subst he
    have hl : ((rows0.drop i).take n).length = n := by simp; omega
    rcases hx with ⟨h0, hx⟩ | ⟨g, h1, h2, h3, h4⟩
    · subst h0; exact .inl ⟨by simp, _, _, hx⟩
    · have hh := C.heap _ _ h
      rw [h1] at hh
      obtain ⟨vs, hf⟩ := sub_flat hh hi
      exact .inr ⟨g.g, i * K, g.c - i, vs, by rw [hl]; exact h2, by rw [hl]; omega, by omega, hf⟩
  | nil => exact .inl ⟨rfl, _, _, DRel.inv hx⟩
/-- Facts on a slice type: its element's number, zero and size. -/
structure SlT (P : Program) (t e K bytes : Nat) : Prop where
  u : P.underlying t = some (.slice e)
  i : ∃ i z, P.info? e = some i ∧ i.zero = some z ∧ i.size = K ∧ i.bytes = bytes ∧ z.cells.size = K
  K0 : 0 < K
end
end Go.Proofs.Ytgmcdlfmifijlaa.Dev
