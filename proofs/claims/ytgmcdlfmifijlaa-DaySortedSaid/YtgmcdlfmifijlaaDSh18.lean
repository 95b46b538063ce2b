/- The symbolic heap: the capacity of a slice; append of zeros; whether slices overlap; shifts; no condition. -/
import Derived.Test.YtgmcdlfmifijlaaDSh17
set_option linter.unusedVariables false
set_option linter.unusedSimpArgs false
namespace Go.Proofs.Ytgmcdlfmifijlaa.Dev
open Go.RowKit

section
variable {P : Program} {W0 : World} {F : Nat → Prop} {N : NT} {T0 : Nat → Prop} {pin : List (Nat × Adr)} {Q : Exit → AState → Prop} {s : List (Nat × AV)} {h : List (Nat × AB)} {n : Nat}
theorem Inv.slot {a : Act} {w : World} {i : Nat} {v : AV} (hI : Inv W0 F N T0 pin ⟨s, h, n⟩ a w) (hv : ∀ σ T, Core σ T ⟨s, h, n⟩ a w → ARel σ T w v (a.tmps.getD i undef)) : Inv W0 F N T0 pin ⟨(i, v) :: s, h, n⟩ a w := by
  obtain ⟨σ, T, hT, S, hp⟩ := hI
  refine ⟨σ, T, hT, ⟨⟨fun j x hj => ?_, S.core.heap, S.core.inj, S.core.Tlt⟩, S.os, S.tape, S.output, S.size, S.old, S.own, S.next, S.hn, S.tsz, S.dfr⟩, hp⟩
  have hj' : look ((i, v) :: s) j = some x := hj
  rw [look_cons] at hj'
  split at hj'
  · rename_i e; subst e; injection hj' with hj'; subst hj'
    exact hv σ T S.core
  · exact S.core.slots j x hj'
/-- a slice that isn't empty: it is there, and has a capacity -/
theorem AC.capS {cd : Code} {k r K m : Nat} (i : Nat) (hs : look s i = some (.v (.c (.s k r K m)))) (hm : 0 < m) (hk : ∀ c, m ≤ c → c ≤ 9223372036854775807 → AC P W0 F N T0 pin Q cd ⟨(i, .v (.c (.sx k r K m c true))) :: s, h, n⟩) : AC P W0 F N T0 pin Q cd ⟨s, h, n⟩ := fun a w hI => by
  obtain ⟨σ, T, hT, S, hp⟩ := hI
  have h1 : CRel σ T w (.s k r K m) (a.tmps.getD i undef) := S.core.slots i _ hs
  rcases h1 with ⟨h0, _⟩ | ⟨g, hg, hv, h2, h3⟩
  · omega
  · refine hk (g.c - r) (by omega) (by omega) a w ?_
    refine ⟨σ, T, hT, ⟨⟨fun j x hj => ?_, S.core.heap, S.core.inj, S.core.Tlt⟩, S.os, S.tape, S.output, S.size, S.old, S.own, S.next, S.hn, S.tsz, S.dfr⟩, hp⟩
    have hj' : look ((i, AV.v (.c (.sx k r K m (g.c - r) true))) :: s) j = some x := hj
    rw [look_cons] at hj'
    split at hj'
    · rename_i e; subst e; injection hj' with hj'; subst hj'
      exact ⟨g, r * K, hg, hv, .inl rfl, by omega, by omega, fun _ => by omega, h3⟩
    · exact S.core.slots j x hj'
theorem Weak.x2s {k r K m c : Nat} (i : Nat) (hs : look s i = some (.v (.c (.sx k r K m c true)))) (hc : 0 < c) : Weak pin ⟨s, h, n⟩ ⟨(i, .v (.c (.s k r K m))) :: s, h, n⟩ := fun W0 F N T0 a w hI =>
  hI.slot fun σ T C => by
    obtain ⟨g, off, hg, hv, ho, h1, h2, h3, h4⟩ := C.slots i _ hs
    obtain rfl : off = r * K := ho.resolve_right (by omega)
    have := h3 rfl
    exact .inr ⟨g, hg, by rw [hv]; congr 1; omega, by omega, h4⟩
end
section
variable {P : Program} {st : AState} {o : Oper}
theorem Grow.undrew {σ σ' : Nat → Option Adr} {T T' : Nat → Prop} {w w' : World} {C : Nat → Prop} (G : Grow σ σ' T T' w.drew w' C) : Grow σ σ' T T' w w' C := ⟨G.size, G.old, G.CT, G.Tle, G.σle⟩
theorem Ext.undrew {σ σ' : Nat → Option Adr} {T T' : Nat → Prop} {w w' : World} {nb : List (Nat × AB)} {E : List Nat} (X : Ext σ T w.drew σ' T' w' nb E) : Ext σ T w σ' T' w' nb E := ⟨X.os, X.tape, X.output, X.grow.undrew, X.Tge, X.Tlt, X.dom, X.rel, X.fresh, X.inj⟩
/-- an operation that draws, and makes one block -/
theorem GOp.newD {k : Nat} {b : AB} {av : AV} 
    (h : ∀ σ T a w, Core σ T st a w → σ k = none → ∃ u ob c, (execOp a.eval o).run P w = .ok (.value u) (w.drew.alloc ob) ∧ HRel (upd σ k ⟨w.heap.size, c⟩) (addT T w.heap.size) (w.drew.alloc ob) (some ⟨w.heap.size, c⟩) b ∧ ARel (upd σ k ⟨w.heap.size, c⟩) (addT T w.heap.size) (w.drew.alloc ob) av u) :
    GOp P o st av [(k, b)] [] :=
  fun σ T a w C hk => by
    have hk := hk k b (List.mem_singleton.2 rfl) (by simp)
    obtain ⟨u, ob, c, hu, hr, hv⟩ := h σ T a w C hk
    exact wp_value hu ⟨u, _, _, rfl, Ext.undrew (Ext.alloc (w := w.drew) C.Tlt ob hk hr), hv⟩
theorem rows_zero {T : Nat → Prop} {w : World} {z : Value} {K m : Nat} {zs : List Value} (hzs : z.cells.toList = zs) (hK : zs.length = K) (h1 : zs.all (·.oneCell') = true) : Rows T w K (List.replicate m (zs.map D.v)) (Builtin.zeroCells z.cells m).toList ∧ (Builtin.zeroCells z.cells m).toList.length = m * K := by
  have hzc : z.cells.size = K := by rw [← hK, ← hzs]; simp
  have hlen : (Builtin.zeroCells z.cells m).toList.length = m * K := by simp [Builtin.zeroCells, hzc]
  refine ⟨⟨by rw [List.length_replicate, hlen]; exact Nat.le_refl _, fun i row hi => ?_⟩, hlen⟩
  obtain ⟨hi1, rfl⟩ := List.getElem?_eq_some_iff.1 hi
  rw [List.length_replicate] at hi1
  rw [List.getElem_replicate]
  refine ⟨by rw [List.length_map, hK], fun j d hj => ?_⟩
  rw [List.getElem?_map, Option.map_eq_some_iff] at hj
  obtain ⟨u, hu, rfl⟩ := hj
  have hjK : j < K := by rw [← hK]; exact (List.getElem?_eq_some_iff.1 hu).1
  have hlt : i * K + j < m * K := by
    have : (i + 1) * K ≤ m * K := Nat.mul_le_mul_right _ hi1
    rw [Nat.add_mul] at this
    omega
  refine ⟨u, ?_, .v u (List.all_eq_true.1 h1 u (List.mem_of_getElem? hu))⟩
  have hmod : (i * K + j) % K = j := by rw [Nat.mul_comm, Nat.mul_add_mod, Nat.mod_eq_of_lt hjK]
  rw [List.getElem?_eq_getElem (by rw [hlen]; exact hlt)]
  simp only [Builtin.zeroCells, Array.getElem_toList, Array.getElem_map, Array.getElem_range, hzc, hmod]
  congr 1
  rw [getElem!_pos z.cells j (by rw [hzc]; exact hjK)]
  subst hzs
  rw [Array.getElem?_toList, Array.getElem?_eq_getElem (by rw [hzc]; exact hjK)] at hu
  exact Option.some.inj hu
/-- append of so many zeros onto a slice that has no room for them: a new array -/
theorem g_app0 {x y : Operand} {cl : Call} {t tn e bt K bytes k n c m N : Nat} {E : Bool} {kn : IntKind} {z : Value} {zs : List Value} {rows rows' : List (List D)} (k2 : Nat) (hT : SlT P t e K bytes) (hz : (P.info? e).bind (fun i => i.zero) = some z) (hzs : z.cells.toList = zs) (h1 : zs.all (·.oneCell') = true) (htn : P.underlying tn = some (.int kn))
    (ho : o.op = .call cl) (hc : cl.callee = .builtin .append) (ha : cl.args = #[x, y]) (hat : cl.argTypes = #[t, tn]) (hx : ev st x (.v (.c (.sx k 0 K n c E)))) (hb : look st.h k = some (.arr bt K rows)) (hy : ev st y (.v (.c (.d (.v (.int .i64 m)))))) (hm : 0 < m) (hN : n + m = N) (hroom : c < N) (hn : n ≤ rows.length) (h63 : N ≤ 9223372036854775807) (hby : N * bytes ≤ 140737488355328)
    (hr : rows.take n ++ List.replicate m (zs.map D.v) = rows') : GOp P o st (.v (.c (.s k2 0 K N))) [(k2, .arr e K rows')] [] :=
  GOp.newD fun σ T ac w C hk => by
    subst hN hr
    obtain ⟨g, off, hg, hv, ho1, h2, h3, h4, h5⟩ := ev_rel C hx
    have hyv := DRel.inv (ev_rel C hy)
    obtain ⟨ii, z', hii, hzz, hsz, hbb, hzc⟩ := hT.i
    have hz' : z' = z := by simpa [hii, hzz] using hz
    subst hz'
    have hzl : zs.length = K := by rw [← hzs]; simpa using hzc
    have hh := C.heap k _ hb
    rw [hg] at hh
    -- what the slice holds
    obtain ⟨vs, hf⟩ : ∃ vs, Flat T w K (rows.take n) ⟨g.g, off, none⟩ vs := by
      by_cases h0 : n = 0
      · subst h0
        exact ⟨[], by simp, ⟨by simp, fun i row h => by simp at h⟩, fun j u h => by simp at h, fun u h => by simp at h⟩
      · obtain rfl : off = 0 * K := ho1.resolve_right (by omega)
        have := sub_flat (i := 0) (n := n) hh (by omega)
        rwa [List.drop_zero] at this
    have hlen : (rows.take n).length = n := by rw [List.length_take]; omega
    have hfc : ∀ j u, vs[j]? = some u → w.drew.cell? ((⟨g.g, off, none⟩ : Addr).add j) = some u := hf.cell
    have hvl : vs.length = n * ii.size := by rw [hf.len, hlen, hsz]
    have hold : (Builtin.firstCells ii.size n (.slice (some ⟨g.g, off, none⟩) n c)).run P w.drew = .ok vs.toArray w.drew := by
      have := run_loadCells_list (P := P) w.drew ⟨g.g, off, none⟩ vs hfc
      rw [hvl] at this
      exact this
    have hrun := Lib.run_append_grow_zeros (P := P) w t tn o.type e ii z' .i64 kn hT.u htn hii hzz (some ⟨g.g, off, none⟩) n c vs hold m hm (by rw [hsz]; exact hT.K0) hroom (by omega) (by rw [hbb]; have : m * bytes ≤ (n + m) * bytes := Nat.mul_le_mul_right _ (by omega); omega) (growslice_fits hroom (by rw [hbb]; exact hby))
    have hge := grownCap_ge w (n + m) c e
    have hle := grownCap_le_maxLen w (n + m) c e (by simp only [maxLen]; omega)
    simp only [maxLen] at hle
    obtain ⟨hzr, hzl2⟩ := rows_zero (T := T) (w := w) (m := m) hzs hzl h1
    obtain ⟨hzr3, hzl3⟩ := rows_zero (T := T) (w := w) (m := grownCap w (n + m) c e - (n + m)) hzs hzl h1
    refine ⟨.slice (some ⟨w.heap.size, 0, none⟩) (n + m) (grownCap w (n + m) c e), .cells (vs ++ (Builtin.zeroCells z'.cells m).toList ++ (Builtin.zeroCells z'.cells (grownCap w (n + m) c e - (n + m))).toList).toArray e, grownCap w (n + m) c e, ?_, ?_, .inr ⟨_, upd_self _ _ _, ?_, ?_, ?_⟩⟩
    · unfold execOp
      have e1 : (vs.toArray ++ Builtin.zeroCells z'.cells m ++ Builtin.zeroCells z'.cells (grownCap w (n + m) c e - (n + m))) = (vs ++ (Builtin.zeroCells z'.cells m).toList ++ (Builtin.zeroCells z'.cells (grownCap w (n + m) c e - (n + m))).toList).toArray := by simp
      rw [e1] at hrun
      simp [ho, resolve, hc, ha, hat, invoke, builtin, hv, hyv, hrun]
    · refine ⟨hT.K0, .inr ⟨_, _, rfl, .inr rfl, heap_alloc_new w _, ?_, by show grownCap w (n + m) c e ≤ _; omega, ?_⟩⟩
      · rw [List.length_append, List.length_append, hzl2, hzl3, hf.len, hlen, ← Nat.add_mul, ← Nat.add_mul]
        show (n + m + (grownCap w (n + m) c e - (n + m))) * K = grownCap w (n + m) c e * K
        congr 1; omega
      · have G := Grow.undrew (w := w) (Grow.alloc (w := w.drew) (T := T) (k := k2) (c := grownCap w (n + m) c e) hk (.cells (vs ++ (Builtin.zeroCells z'.cells m).toList ++ (Builtin.zeroCells z'.cells (grownCap w (n + m) c e - (n + m))).toList).toArray e) (fun _ => False) fun _ h => h.elim)
        have h6 := rows_append hf.rows_ hf.len hzr
        refine rows_of_take (m := n * K + m * K) ?_
        have hl : (vs ++ (Builtin.zeroCells z'.cells m).toList).length = n * K + m * K := by rw [List.length_append, hzl2, hf.len, hlen]
        rw [List.take_append_of_le_length (Nat.le_of_eq hl.symm), List.take_of_length_le (Nat.le_of_eq hl)]
        exact h6.grow G
    · rw [Nat.zero_mul, Nat.sub_zero]
    · show 0 + (n + m) ≤ grownCap w (n + m) c e; omega
    · show grownCap w (n + m) c e ≤ _; omega
/-- a slice that nobody asks for -/
theorem g_sliceA {t e K k i n : Nat} {x : Operand} {lo hi mx : Option Operand} {l h : Nat} (ho : o.op = .slice t x lo hi mx) (hu : P.underlying t = some (.slice e)) (hz : (P.info? e).map (·.size) = some K) (hx : ev st x (.v (.c (.s k i K n))))
    (hlo : (lo = none ∧ l = 0) ∨ ∃ x, lo = some x ∧ ev st x (.v (.c (.d (.v (.int .i64 l)))))) (hhi : (hi = none ∧ h = n ∧ mx = none) ∨ ∃ x, hi = some x ∧ ev st x (.v (.c (.d (.v (.int .i64 h))))))
    (hmx : mx = none ∨ ∃ x m, mx = some x ∧ ev st x (.v (.c (.d (.v (.int .i64 (m : Nat)))))) ∧ h ≤ m ∧ m ≤ n) (h1 : l ≤ h) (h2 : h ≤ n) : GOp P o st (.v (.c .any)) [] [] :=
  GOp.val fun σ T ac w C => by
    have key : ∀ A c, n ≤ c → ac.eval x = .slice A n c → ∃ u, (execOp ac.eval o).run P w = .ok (.value u) w := by
      intro A c hc hA
      obtain ⟨m, hm, hm1, hm2⟩ : ∃ m : Nat, ((mx.map ac.eval = none ∧ m = c) ∨ mx.map ac.eval = some (.int .i64 m)) ∧ h ≤ m ∧ m ≤ c := by
        rcases hmx with rfl | ⟨y, m, rfl, hy, h3, h4⟩
        · exact ⟨c, .inl ⟨rfl, rfl⟩, by omega, Nat.le_refl _⟩
        · exact ⟨m, .inr (by rw [Option.map_some, DRel.inv (ev_rel C hy)]), h3, by omega⟩
      have := run_sliceX (P := P) (w := w) (A := A) (len := n) (cap := c) hu hz (lo.map ac.eval) (hi.map ac.eval) (mx.map ac.eval) l h m
        (by rcases hlo with ⟨rfl, rfl⟩ | ⟨y, rfl, hy⟩; exact .inl ⟨rfl, rfl⟩; exact .inr (by rw [Option.map_some, DRel.inv (ev_rel C hy)]))
        (by rcases hhi with ⟨rfl, rfl, rfl⟩ | ⟨y, rfl, hy⟩; exact .inl ⟨rfl, rfl, rfl⟩; exact .inr (by rw [Option.map_some, DRel.inv (ev_rel C hy)])) hm h1 hm1 hm2
      refine ⟨.slice (if m = l then A else A.map (·.add (l * K))) (h - l) (m - l), ?_⟩
      unfold execOp
      simp only [ho, hA, Sem.run_bind, this, Result.andThen_ok]
      rfl
    have hv : CRel σ T w (.s k i K n) _ := ev_rel C hx
    rcases hv with ⟨h0, hv⟩ | ⟨g, hg, hv, hle, hmx⟩
    · obtain ⟨u, hu⟩ := key none 0 (by omega) (by rw [hv, h0]); exact ⟨u, hu, trivial⟩
    · obtain ⟨u, hu⟩ := key _ _ (by omega) hv; exact ⟨u, hu, trivial⟩
theorem g_overlaps {x y : Operand} {cl : Call} {f t tr e tA tB K bytes k1 k2 m i n c : Nat} {E : Bool} {fn : Func} {r1 r2 : List (List D)} (hT : SlT P t e K bytes) (hf : P.funcs[f]? = some fn) (hname : (fn.name == "runtime.NumGoroutine") = false) (hbn : fn.body.isNone = true) (hn : Extern.findNext fn = none) (he : Extern.find fn = some (Extern.SlicesOverlaps.overlaps #[t, t] #[tr]))
    (ho : o.op = .call cl) (hc : cl.callee = .value (.func f)) (ha : cl.args = #[x, y]) (hx : ev st x (.v (.c (.s k1 0 K m)))) (hm : 0 < m) (hy : ev st y (.v (.c (.sx k2 i K n c E)))) (hc0 : 0 < c) (hb1 : look st.h k1 = some (.arr tA K r1)) (hb2 : look st.h k2 = some (.arr tB K r2)) (hk : k1 ≠ k2) : GOp P o st (.v (.c (.d (.v (.bool false))))) [] [] :=
  GOp.val fun σ T ac w C => by
    obtain ⟨g, off, hg, hv, ho1, h2, h3, h4, h5⟩ := ev_rel C hy
    have hxv : CRel σ T w (.s k1 0 K m) _ := ev_rel C hx
    rcases hxv with ⟨h0, _⟩ | ⟨g1, hg1, hv1, h6, h7⟩
    · omega
    obtain ⟨ii, z', hii, hzz, hsz, hbb, hzc⟩ := hT.i
    have hh1 := C.heap k1 _ hb1
    have hh2 := C.heap k2 _ hb2
    rw [hg1] at hh1; rw [hg] at hh2
    rcases hh1.2 with ⟨_, h⟩ | ⟨g', vs1, e1, _, e3, e4, _⟩
    · cases h
    injection e1 with e1; subst e1
    rcases hh2.2 with ⟨_, h⟩ | ⟨g', vs2, e1, _, e3', e4', _⟩
    · cases h
    injection e1 with e1; subst e1
    have hne : g1.g ≠ g.g := fun e => hk (C.inj k1 k2 _ _ g1 g hb1 hb2 hg1 hg e)
    have hK := hT.K0
    have hpos : 0 < vs2.length := by rw [e4']; exact Nat.mul_pos (by omega) hK
    have hrun := Lib.run_overlaps_apart (P := P) w t tr e hT.u K (fun w => by simp [sizeOf, typeInfo, hii, hsz]) ⟨g1.g, 0 * K, none⟩ ⟨g.g, off, none⟩ m (g1.c - 0) n c hne tA tB vs1.length vs2.length (by simp [World.shape?, e3]) (by simp [World.shape?, e3']) (by omega) (by simp [World.frozen?, e3]) (by simp [World.frozen?, e3])
    refine ⟨.bool false, ?_, DRel.v _ rfl⟩
    have hcall := run_callFunc_extern hf hname hbn hn he #[ac.eval x, ac.eval y] w
    rw [hv, hv1, hrun] at hcall
    have hargs : cl.args.map ac.eval = #[.slice (some ⟨g1.g, 0 * K, none⟩) m (g1.c - 0), .slice (some ⟨g.g, off, none⟩) n c] := by rw [ha]; simp [hv, hv1]
    have hfe : ac.eval (.func f) = Value.func (.func f) #[] #[] := rfl
    unfold execOp
    simp [ho, resolve, hc, hfe, Deferred.ofValue, invoke, hargs] at hcall ⊢
    simp [hcall]
end
end Go.Proofs.Ytgmcdlfmifijlaa.Dev
