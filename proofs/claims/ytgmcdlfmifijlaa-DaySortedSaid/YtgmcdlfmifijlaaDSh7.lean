/- The symbolic heap: append, literals of slices, make, slices of slices, calls; no condition. -/
import Derived.Test.YtgmcdlfmifijlaaDSh6
set_option linter.unusedVariables false
set_option linter.unusedSimpArgs false
namespace Go.Proofs.Ytgmcdlfmifijlaa.Dev
open Go.RowKit

section
variable {P : Program} {st : AState} {o : Oper}
theorem run_append_src {w : World} {t e K bytes : Nat} (S : SlT P t e K bytes) (ty : TypeId) {v : Value} {n : Nat} {xs : List Value} (hown : w.ownsRow 0 e K v n xs) {T : Nat → Prop} {rows : List (List D)} {x : Value}
    (hx : (rows = [] ∧ ∃ A c, x = .slice A 0 c) ∨ ∃ b off c vs, x = .slice (some ⟨b, off, none⟩) rows.length c ∧ rows.length ≤ c ∧ c ≤ 9223372036854775807 ∧ Flat T w K rows ⟨b, off, none⟩ vs) (h63 : n + rows.length ≤ 9223372036854775807) (hb : (n + rows.length) * bytes ≤ 140737488355328) :
    ∃ v' w' ys, (Builtin.append_ #[t, t] ty #[v, x]).run P w = .ok v' w' ∧ w'.ownsRow 0 e K v' (n + rows.length) (xs ++ ys) ∧ w.grownBy w' v.ownBlock ∧ (v'.ownBlock = v.ownBlock ∨ v'.ownBlock = some w.heap.size) ∧ ys.length = rows.length * K ∧ Rows T w K rows ys := by
  obtain ⟨i, z, hi, hz, hs, hby, hzs⟩ := S.i
  have hm : n + rows.length ≤ maxLen := by simp only [maxLen]; omega
  rcases hx with ⟨rfl, A, c, rfl⟩ | ⟨b, off, c, vs, rfl, _, _, hf⟩
  · cases A with
    | none => 
      refine ⟨v, w, [], ?_, by simpa using hown, World.grownBy.refl w _, .inl rfl, by simp, ⟨by simp, fun i row h => by simp at h⟩⟩
      rcases hown.2 with ⟨rfl, rfl⟩ | ⟨g, cap, cur, rfl, _, _, hnc, _⟩
      · simp [Builtin.append_, run_underlying S.u, sizeOf, typeInfo, hi, Builtin.lenOf, Builtin.firstCells]
      · simp [Builtin.append_, run_underlying S.u, sizeOf, typeInfo, hi, Builtin.lenOf, Builtin.firstCells, hnc, storeCells]
    | some a =>
      obtain ⟨v', w', h1, h2, h3, _, h5⟩ := run_append_own_at (P := P) w 0 t ty e i z K bytes S.u hi hz hs hby hzs S.K0 v n xs hown a 0 c [] (by simp) (fun j u h => by simp at h) (fun u h => by simp at h) hm hb (Nat.zero_le _)
      exact ⟨v', w', [], h1, h2, h3, h5, by simp, ⟨by simp, fun i row h => by simp at h⟩⟩
  · obtain ⟨v', w', h1, h2, h3, _, h5⟩ := run_append_own_at (P := P) w 0 t ty e i z K bytes S.u hi hz hs hby hzs S.K0 v n xs hown ⟨b, off, none⟩ rows.length c vs hf.len hf.cell hf.one hm hb (Nat.zero_le _)
    exact ⟨v', w', vs, h1, h2, h3, h5, hf.len, hf.rows_⟩
theorem rows_of_take {T : Nat → Prop} {w : World} {K : Nat} {rows : List (List D)} {vs : List Value} {m : Nat} (h : Rows T w K rows (vs.take m)) : Rows T w K rows vs := by
  refine ⟨by have := h.1; rw [List.length_take] at this; omega, fun i row hi => ⟨(h.2 i row hi).1, fun j d hd => ?_⟩⟩
  obtain ⟨u, hu, hr⟩ := (h.2 i row hi).2 j d hd
  rw [List.getElem?_take] at hu
  split at hu
  · exact ⟨u, hu, hr⟩
  · cases hu
/-- append onto an array of the call's own: it is eaten, the answer has a number of its own -/
theorem g_append {x y : Operand} {c : Call} {t e K bytes k n m N k2 : Nat} {rows ys zs : List (List D)} {v : AV} (hT : SlT P t e K bytes) (ho : o.op = .call c) (hc : c.callee = .builtin .append) (ha : c.args = #[x, y]) (hat : c.argTypes = #[t, t]) (hx : ev st x (.v (.c (.s k 0 K n)))) (hb : look st.h k = some (.arr e K rows)) (hn : rows.length = n)
    (hy : ev st y v) (hs : Src st v K ys) (hm : ys.length = m) (hN : n + m = N) (hz : rows ++ ys = zs) (hk : k2 ≠ k) (h63 : N ≤ 9223372036854775807) (hby : N * bytes ≤ 140737488355328) : GOp P o st (.v (.c (.s k2 0 K N))) [(k2, .arr e K zs)] [k] := by
  intro σ T a w C hkn
  have hk2 := hkn k2 _ (List.mem_singleton.2 rfl) (by simpa using hk)
  clear hkn
  have hxv := ev_rel C hx
  have hh := C.heap k _ hb
  have hsrc := hs.read C hT.K0 (ev_rel C hy)
  subst hn hm hN hz
  -- the slice's own cells
  obtain ⟨xs, hown, hxs, hblk⟩ : ∃ xs, w.ownsRow 0 e K (a.eval x) rows.length xs ∧ (Rows T w K rows xs ∧ xs.length = rows.length * K) ∧ (∀ b, (a.eval x).ownBlock = some b → ∃ g, σ k = some g ∧ g.g = b) := by
    rcases hxv with ⟨h0, hxv⟩ | ⟨g, h1, h2, h3, h4⟩
    · have h0' := List.eq_nil_of_length_eq_zero h0
      subst h0'
      refine ⟨[], ⟨by simp, .inl ⟨hxv, rfl⟩⟩, ⟨⟨by simp, fun i row h => by simp at h⟩, by simp⟩, fun b hb => ?_⟩
      rw [hxv] at hb; cases hb
    · rcases hh.2 with ⟨_, h⟩ | ⟨g', vs, e1, e2, e3, e4, e5, e6⟩
      · rw [h1] at h; cases h
      · rw [h1] at e1; injection e1 with e1; subst e1
        refine ⟨vs.take (rows.length * K), ⟨?_, .inr ⟨g.g, g.c, vs.toArray, ?_, Nat.zero_le _, e3, by omega, by simp only [maxLen]; omega, by simpa using e4, by simp⟩⟩, ⟨rows_take e6 (Nat.le_refl _), ?_⟩, fun b hb => ⟨g, h1, ?_⟩⟩
        · have := e6.1; simp; omega
        · rw [h2, Nat.zero_mul]; rfl
        · have := e6.1; simp; omega
        · rw [h2] at hb; simpa [Value.ownBlock] using hb
  obtain ⟨v', w', news, hrun, hown', hg, hob, hl, hnews⟩ := run_append_src hT o.type hown hsrc h63 hby
  have hexec : (execOp a.eval o).run P w = .ok (.value v') w' := by
    unfold execOp
    simp [ho, resolve, hc, ha, hat, invoke, builtin, hrun]
  have hTk : ∀ b, (a.eval x).ownBlock = some b → T b := fun b hb => by obtain ⟨g, h1, rfl⟩ := hblk b hb; exact hh.inT h1
  have hrows : Rows T w K (rows ++ ys) (xs ++ news) := rows_append hxs.1 hxs.2 hnews
  have old : ∀ b, b < w.heap.size → ¬ (∃ k' ∈ [k], ∃ g, σ k' = some g ∧ g.g = b) → w'.heap[b]? = w.heap[b]? := fun b hb h => hg.block b hb fun e => by
    obtain ⟨g, h1, h2⟩ := hblk b e.symm
    exact h ⟨k, List.mem_singleton.2 rfl, g, h1, h2⟩
  have CT : ∀ b, (∃ k' ∈ [k], ∃ g, σ k' = some g ∧ g.g = b) → T b := by
    rintro b ⟨k', hk', g, h1, rfl⟩
    rw [List.mem_singleton.1 hk'] at h1
    exact hh.inT h1
  rcases hown'.2 with ⟨hv', h0⟩ | ⟨g', cap, cur, hv', _, hcur, hle, hcap, hsz, htake⟩
  · -- nothing at all
    have hr0 : rows ++ ys = [] := List.eq_nil_of_length_eq_zero (by rw [List.length_append]; exact h0)
    refine wp_value hexec ⟨v', σ, T, rfl, ⟨hg.os, hg.tape, hg.output, ⟨hg.size, old, CT, fun _ _ h => h, fun _ _ h => h⟩, fun _ h => h, fun b hb => Nat.lt_of_lt_of_le (C.Tlt b hb) hg.size, fun _ _ => rfl, ?_, ?_, ?_⟩, .inl ⟨h0, hv'⟩⟩
    · intro j b h
      obtain ⟨rfl, rfl⟩ := Prod.mk.inj (List.mem_singleton.1 h)
      exact ⟨hT.K0, .inl ⟨hr0, hk2⟩⟩
    · intro j b g h hg'
      obtain ⟨rfl, rfl⟩ := Prod.mk.inj (List.mem_singleton.1 h)
      rw [hk2] at hg'; cases hg'
    · intro j j' b b' g g' h h' hg' _ _
      obtain ⟨rfl, rfl⟩ := Prod.mk.inj (List.mem_singleton.1 h)
      rw [hk2] at hg'; cases hg'
  · have hg'lt : g' < w'.heap.size := heap_lt hcur
    have hg'T : g' < w.heap.size → T g' := by
      intro hlt
      rcases hob with h | h
      · rw [hv'] at h; exact hTk g' h.symm
      · rw [hv'] at h; simp [Value.ownBlock] at h; omega
    have G : Grow σ (upd σ k2 ⟨g', cap⟩) T (addT T g') w w' (fun b => ∃ k' ∈ [k], ∃ g, σ k' = some g ∧ g.g = b) := ⟨hg.size, old, CT, fun b hb h => by rcases h with h | h; exact h; subst h; exact hg'T hb, fun j g hj => by
      rw [upd_ne _ _ _ (fun e => by subst e; rw [hk2] at hj; cases hj)]; exact hj⟩
    have hcl : cur.toList.toArray = cur := by simp
    refine wp_value hexec ⟨v', upd σ k2 ⟨g', cap⟩, addT T g', rfl, ⟨hg.os, hg.tape, hg.output, G, fun _ h => .inl h, fun b hb => ?_, fun j hj => upd_ne _ _ _ (fun ee => hj (.arr e K (rows ++ ys)) (by subst ee; exact List.mem_singleton.2 rfl)), ?_, ?_, ?_⟩, .inr ⟨⟨g', cap⟩, upd_self _ _ _, ?_, ?_, ?_⟩⟩
    · rcases hb with hb | hb
      · exact Nat.lt_of_lt_of_le (C.Tlt b hb) hg.size
      · rw [hb]; exact hg'lt
    · intro j b h
      obtain ⟨rfl, rfl⟩ := Prod.mk.inj (List.mem_singleton.1 h)
      rw [upd_self]
      refine ⟨hT.K0, .inr ⟨⟨g', cap⟩, cur.toList, rfl, .inr rfl, by rw [hcl]; exact hcur, by simpa using hsz, by simp only [maxLen] at hcap; omega, ?_⟩⟩
      exact rows_of_take (m := (rows.length + ys.length) * K) (by rw [htake]; exact hrows.grow G)
    · intro j b g h hgj
      obtain ⟨rfl, rfl⟩ := Prod.mk.inj (List.mem_singleton.1 h)
      rw [upd_self] at hgj; injection hgj with hgj; subst hgj
      rcases hob with h | h
      · rw [hv'] at h
        obtain ⟨g2, h1, h2⟩ := hblk g' h.symm
        exact .inr ⟨k, List.mem_singleton.2 rfl, g2, h1, h2⟩
      · rw [hv'] at h; simp [Value.ownBlock] at h; exact .inl (by show w.heap.size ≤ g'; omega)
    · intro j j' b b' g g2 h h' _ _ _
      obtain ⟨rfl, _⟩ := Prod.mk.inj (List.mem_singleton.1 h)
      obtain ⟨rfl, _⟩ := Prod.mk.inj (List.mem_singleton.1 h')
      rfl
    · rw [hv', Nat.zero_mul]; rfl
    · show 0 + _ ≤ cap; omega
    · show cap ≤ _; simp only [maxLen] at hcap; omega

/-- a literal of a slice -/
theorem all2_anys {σ : Nat → Option Adr} {T : Nat → Prop} {w : World} : ∀ (n : Nat) (vs : List Value), vs.length = n → All2 (CRel σ T w) (List.replicate n .any) vs
  | 0, [], _ => trivial
  | n + 1, v :: vs, h => ⟨trivial, all2_anys n vs (by simpa using h)⟩
  | 0, _ :: _, h => by simp at h
  | _ + 1, [], h => by simp at h
theorem rows_flat {T : Nat → Prop} {w : World} {K : Nat} : ∀ {rows : List (List D)} {vs : List Value}, rows.all (fun r => Nat.beq r.length K) = true → All2 (DRel T w) rows.flatten vs → Rows T w K rows vs ∧ vs.length = rows.length * K := by
  intro rows
  induction rows with
  | nil => intro vs _ h; cases vs with
    | nil => exact ⟨⟨by simp, fun i row h => by simp at h⟩, by simp⟩
    | cons => exact h.elim
  | cons r rows ih =>
    intro vs hl h
    simp only [List.all_cons, Bool.and_eq_true] at hl
    have hr : r.length = K := Nat.eq_of_beq_eq_true hl.1
    rw [List.flatten_cons] at h
    have h1 : All2 (DRel T w) r (vs.take K) := by
      have := h.take K; rwa [List.take_append_of_le_length (by omega), List.take_of_length_le (by omega)] at this
    have h2 : All2 (DRel T w) rows.flatten (vs.drop K) := by
      have := h.drop K; rwa [List.drop_append_of_le_length (by omega), List.drop_of_length_le (by omega), List.nil_append] at this
    obtain ⟨h3, h4⟩ := ih hl.2 h2
    have hlen := h.length
    rw [List.length_append] at hlen
    have hl1 := h1.length
    have h5 := rows_append (hr ▸ rows_one h1) (by simp at hl1 ⊢; omega) h3
    rw [List.take_append_drop] at h5
    refine ⟨h5, ?_⟩
    rw [List.length_cons, Nat.succ_mul]
    rw [List.length_drop] at h4
    omega
theorem g_lit {t e K bytes len : Nat} {parts : Array (Nat × Operand)} {ys : List (Nat × GV)} {rows : List (List D)} (k : Nat) (hT : SlT P t e K bytes) (ho : o.op = .buildSlice t len parts) (hlen : len * K ≤ 16777216) (hy : EvP st parts.toList ys) (hk : ys.all (fun y => y.2.known) = true)
    (hf : fillC (fun i => some (i * K, K)) (List.replicate (len * K) .any) (ys.map fun y => (y.1, cellsG y.2)) = some (rows.flatten.map .d)) (hr : rows.all (fun r => Nat.beq r.length K) = true) (hl : rows.length = len) : GOp P o st (.v (.c (.s k 0 K len))) [(k, .arr e K rows)] [] :=
  GOp.new fun σ T ac w C hk0 => by
    obtain ⟨i, z, hi, hz, hs, hby, hzs⟩ := hT.i
    let zero : Array Value := if len * K = 0 then #[] else z.cells
    have hz0 : ((Array.range (len * K)).map (zero[· % zero.size]!)).toList.length = len * K := by simp
    obtain ⟨vs', h2, h3⟩ := fill_rel (fun i => some (i * K, K)) _ _ _ ((Array.range (len * K)).map (zero[· % zero.size]!)).toList _ (evp_rel C hy hk) (all2_anys (σ := σ) (T := T) (w := w) _ _ hz0) hf
    obtain ⟨h4, h5⟩ := rows_flat hr (all2_ds h3)
    refine ⟨.slice (some ⟨w.heap.size, 0, none⟩) len len, .cells vs'.toArray e, len, ?_, HRel.newArr hT.K0 (by rw [h5, hl]) (by have := hT.K0; have := Nat.le_mul_of_pos_right len this; omega) h4 (Grow.alloc hk0 _ _ fun _ h => h.elim), .inr ⟨⟨w.heap.size, len⟩, upd_self _ _ _, by rw [Nat.zero_mul]; rfl, by show 0 + len ≤ len; omega, by have := hT.K0; have := Nat.le_mul_of_pos_right len this; show len ≤ _; omega⟩⟩
    have h2' : Instr.fill (fun i => some (i * K, K)) ((Array.range (len * K)).map (zero[· % zero.size]!)) ((parts.map fun (x : Nat × Operand) => (x.1, ac.eval x.2)).toList) = some vs'.toArray := by
      have e1 : (((Array.range (len * K)).map (zero[· % zero.size]!)).toList).toArray = (Array.range (len * K)).map (zero[· % zero.size]!) := by simp only [Array.toArray_toList]
      rw [e1] at h2
      simpa using h2
    unfold execOp
    by_cases h0 : len * K = 0
    · simp only [zero, h0, if_true] at h2'
      simp [ho, Instr.buildSlice, run_underlying hT.u, sizeOf, typeInfo, hi, hs, h0, newRow]
      simp at h2'
      simp [h2']
    · simp only [zero, h0, if_false] at h2'
      have hlt : ¬ 2 ^ 24 < len * K := by omega
      simp [ho, Instr.buildSlice, run_underlying hT.u, sizeOf, typeInfo, hi, hs, h0, hlt, zeroValue, hz, newRow]
      simp at h2'
      simp [h2']
end
end Go.Proofs.Ytgmcdlfmifijlaa.Dev
