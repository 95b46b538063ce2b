/- The symbolic heap: append onto a slice that has no room, into a new array; append of nothing; an element of a slice whose capacity is known; no condition. -/
import Derived.Test.YtgmcdlfmifijlaaDSh18
set_option linter.unusedVariables false
set_option linter.unusedSimpArgs false
namespace Go.Proofs.Ytgmcdlfmifijlaa.Dev
open Go.RowKit
section
variable {P : Program} {st : AState} {o : Oper}
theorem g_indexX0 {t e : TypeId} {x y : Operand} {k K n c : Nat} {E : Bool} {i : Nat} {j : Int} (ho : o.op = .indexAddr t x y) (hx : ev st x (.v (.c (.sx k 0 K n c E)))) (hy : ev st y (.v (.c (.d (.v (.int .i64 j))))))
    (hu : P.underlying t = some (.slice e)) (hz : (P.info? e).map (·.size) = some K) (hj : j = (i : Int)) (hi : i < n) : GOp P o st (.v (.c (.p k i K 0))) [] [] :=
  GOp.val fun σ T ac w C => by
    obtain ⟨g, off, hg, hv, ho1, h2, h3, _, h5⟩ := ev_rel C hx
    have h2' := DRel.inv (ev_rel C hy)
    subst hj
    obtain rfl : off = 0 * K := ho1.resolve_right (by omega)
    refine ⟨.pointer (some ⟨g.g, 0 * K + i * K, none⟩), ?_, g, hg, by rw [Nat.add_zero, Nat.zero_mul, Nat.zero_add]⟩
    cases hq : P.info? e with
    | none => simp [hq] at hz
    | some ii =>
      have hs : ii.size = K := by simpa [hq] using hz
      unfold execOp
      simp [ho, hv, h2', Instr.indexAt, asIntOf, run_underlying hu, sizeOf, typeInfo, hq, hs, hi, Addr.add_lit]
/-- append onto a slice that has no room for it: a new array -/
theorem g_appG {x y : Operand} {cl : Call} {v : AV} {t e bt K bytes k n c m N : Nat} {E : Bool} {z : Value} {zs : List Value} {rows ys rows' : List (List D)} (k2 : Nat) (hT : SlT P t e K bytes) (hz : (P.info? e).bind (fun i => i.zero) = some z) (hzs : z.cells.toList = zs) (h1 : zs.all (·.oneCell') = true)
    (ho : o.op = .call cl) (hc : cl.callee = .builtin .append) (ha : cl.args = #[x, y]) (hat : cl.argTypes = #[t, t]) (hx : ev st x (.v (.c (.sx k 0 K n c E)))) (hb : look st.h k = some (.arr bt K rows)) (hy : ev st y v) (hs : SrcP st v K m m ys) (hm : 0 < m) (hN : n + m = N) (hroom : c < N) (hn : n ≤ rows.length) (h63 : N ≤ 9223372036854775807) (hby : N * bytes ≤ 140737488355328)
    (hr : rows.take n ++ ys = rows') : GOp P o st (.v (.c (.s k2 0 K N))) [(k2, .arr e K rows')] [] :=
  GOp.newD fun σ T ac w C hk => by
    subst hN hr
    obtain ⟨g, off, hg, hv, ho1, h2, h3, h4, h5⟩ := ev_rel C hx
    obtain ⟨hyl, b2, off2, c2, news, hyv, hfn⟩ := hs.read C hT.K0 (.inl hm) (ev_rel C hy)
    obtain ⟨ii, z', hii, hzz, hsz, hbb, hzc⟩ := hT.i
    have hz' : z' = z := by simpa [hii, hzz] using hz
    subst hz'
    have hzl : zs.length = K := by rw [← hzs]; simpa using hzc
    have hh := C.heap k _ hb
    rw [hg] at hh
    obtain ⟨vs, hf⟩ : ∃ vs, Flat T w K (rows.take n) ⟨g.g, off, none⟩ vs := by
      by_cases h0 : n = 0
      · subst h0
        exact ⟨[], by simp, ⟨by simp, fun i row h => by simp at h⟩, fun j u h => by simp at h, fun u h => by simp at h⟩
      · obtain rfl : off = 0 * K := ho1.resolve_right (by omega)
        have := sub_flat (i := 0) (n := n) hh (by omega)
        rwa [List.drop_zero] at this
    have hlen : (rows.take n).length = n := by rw [List.length_take]; omega
    have hrun := run_append_grow (P := P) (w := w) t o.type e ii z' hT.u hii hzz ⟨g.g, off, none⟩ n c vs (by rw [hf.len, hlen, hsz]) hf.cell ⟨b2, off2, none⟩ m c2 news (by rw [hfn.len, hyl, hsz]) hfn.cell hroom (by omega) (growslice_fits hroom (by rw [hbb]; exact hby))
    have hge := grownCap_ge w (n + m) c e
    have hle := grownCap_le_maxLen w (n + m) c e (by simp only [maxLen]; omega)
    simp only [maxLen] at hle
    obtain ⟨hzr3, hzl3⟩ := rows_zero (T := T) (w := w) (m := grownCap w (n + m) c e - (n + m)) hzs hzl h1
    have e0 : vs.toArray ++ news.toArray ++ Builtin.zeroCells z'.cells (grownCap w (n + m) c e - (n + m)) = (vs ++ news ++ (Builtin.zeroCells z'.cells (grownCap w (n + m) c e - (n + m))).toList).toArray := by simp
    rw [e0] at hrun
    refine ⟨.slice (some ⟨w.heap.size, 0, none⟩) (n + m) (grownCap w (n + m) c e), .cells (vs ++ news ++ (Builtin.zeroCells z'.cells (grownCap w (n + m) c e - (n + m))).toList).toArray e, grownCap w (n + m) c e, ?_, ?_, .inr ⟨_, upd_self _ _ _, ?_, ?_, ?_⟩⟩
    · unfold execOp
      simp [ho, resolve, hc, ha, hat, invoke, builtin, hv, hyv, hrun]
    · refine ⟨hT.K0, .inr ⟨_, _, rfl, .inr rfl, heap_alloc_new w _, ?_, by show grownCap w (n + m) c e ≤ _; omega, ?_⟩⟩
      · rw [List.length_append, List.length_append, hzl3, hf.len, hlen, hfn.len, hyl, ← Nat.add_mul, ← Nat.add_mul]
        show (n + m + (grownCap w (n + m) c e - (n + m))) * K = grownCap w (n + m) c e * K
        congr 1; omega
      · have G := Grow.undrew (w := w) (Grow.alloc (w := w.drew) (T := T) (k := k2) (c := grownCap w (n + m) c e) hk (.cells (vs ++ news ++ (Builtin.zeroCells z'.cells (grownCap w (n + m) c e - (n + m))).toList).toArray e) (fun _ => False) fun _ h => h.elim)
        have h6 := rows_append hf.rows_ hf.len hfn.rows_
        refine rows_of_take (m := n * K + m * K) ?_
        have hl : (vs ++ news).length = n * K + m * K := by rw [List.length_append, hf.len, hlen, hfn.len, hyl]
        rw [List.take_append_of_le_length (Nat.le_of_eq hl.symm), List.take_of_length_le (Nat.le_of_eq hl)]
        exact h6.grow G
    · rw [Nat.zero_mul, Nat.sub_zero]
    · show 0 + (n + m) ≤ grownCap w (n + m) c e; omega
    · show grownCap w (n + m) c e ≤ _; omega
/-- a slice of no rows -/
inductive Empty0 : AV → Prop
  | n : Empty0 (.v (.c (.d (.v (.slice none 0 0)))))
  | d (K : Nat) (rows : List (List D)) (h : rows.length = 0) : Empty0 (.v (.c (.d (.r K rows))))
  | s (k i K n : Nat) (h : n = 0) : Empty0 (.v (.c (.s k i K n)))
  | x (k i K n c : Nat) (E : Bool) (h : n = 0) : Empty0 (.v (.c (.sx k i K n c E)))
theorem Empty0.read {σ : Nat → Option Adr} {T : Nat → Prop} {w : World} {v : AV} (h : Empty0 v) {x : Value} (hx : ARel σ T w v x) : ∃ A c, x = .slice A 0 c := by
  cases h with
  | n => exact ⟨_, _, DRel.inv hx⟩
  | d K rows h =>
    have hx : DRel T w (.r K rows) x := hx
    cases hx with
    | nil A c => exact ⟨_, _, rfl⟩
    | r => exact ⟨_, _, by rw [h]⟩
  | s k i K n h =>
    subst h
    rcases hx with ⟨_, h⟩ | ⟨g, _, h, _⟩
    · exact ⟨_, _, h⟩
    · exact ⟨_, _, h⟩
  | x k i K n c E h =>
    subst h
    obtain ⟨g, off, _, h, _⟩ := hx
    exact ⟨_, _, h⟩
/-- append of nothing: the slice itself -/
theorem g_app00 {x y : Operand} {cl : Call} {v : AV} {t e k i K bytes n c : Nat} {E : Bool} (hT : SlT P t e K bytes)
    (ho : o.op = .call cl) (hc : cl.callee = .builtin .append) (ha : cl.args = #[x, y]) (hat : cl.argTypes = #[t, t]) (hx : ev st x (.v (.c (.sx k i K n c E)))) (hy : ev st y v) (hs : Empty0 v) : GOp P o st (.v (.c (.sx k i K n c E))) [] [] :=
  GOp.val fun σ T ac w C => by
    have hxv := ev_rel C hx
    obtain ⟨g, off, hg, hv, ho1, h2, h3, h4, h5⟩ := hxv
    obtain ⟨A, c2, hyv⟩ := hs.read (ev_rel C hy)
    obtain ⟨ii, z', hii, hzz, hsz, hbb, hzc⟩ := hT.i
    refine ⟨.slice (some ⟨g.g, off, none⟩) n c, ?_, g, off, hg, rfl, ho1, h2, h3, h4, h5⟩
    unfold execOp
    cases A <;> simp [ho, resolve, hc, ha, hat, invoke, builtin, hv, hyv, Builtin.append_, run_underlying hT.u, Builtin.lenOf, Builtin.firstCells, sizeOf, typeInfo, hii, h2, storeCells, loadCells, loadCellsFrom]
end
theorem look_sx {l : List (Nat × AV)} {x k i K n c n' c' : Nat} {e : Bool} (h : look l x = some (.v (.c (.sx k i K n c e)))) (hn : n = n') (hc : c = c') : look l x = some (.v (.c (.sx k i K n' c' e))) := by rw [h, hn, hc]
theorem look_s {l : List (Nat × AV)} {x k i K n n' : Nat} (h : look l x = some (.v (.c (.s k i K n)))) (hn : n = n') : look l x = some (.v (.c (.s k i K n'))) := by rw [h, hn]
end Go.Proofs.Ytgmcdlfmifijlaa.Dev
