/- The symbolic heap: arrays of integers; no condition. -/
import Derived.Test.YtgmcdlfmifijlaaDSh19
set_option linter.unusedVariables false
set_option linter.unusedSimpArgs false
namespace Go.Proofs.Ytgmcdlfmifijlaa.Dev
open Go.RowKit
def rI1 (n : Int) : List D := [dI n]
section
variable {P : Program} {st : AState} {o : Oper}
/-- an array of noughts -/
theorem g_allocA {t n : Nat} {z : Value} (k : Nat) (ho : o.op = .alloc t) (hz : (P.info? t).bind (·.zero) = some z) (hzs : z.cells.toList = List.replicate n (.int .i64 0)) (hn : n ≤ 9223372036854775807) :
    GOp P o st (.v (.c (.p k 0 1 0))) [(k, .arr t 1 ((List.replicate n (0 : Int)).map rI1))] [] :=
  GOp.new fun σ T ac w C hk => by
    cases hq : P.info? t with
    | none => simp [hq] at hz
    | some i =>
      have hzz : i.zero = some z := by simpa [hq] using hz
      have hza : z.cells = (List.replicate n (Value.int .i64 0)).toArray := by rw [← hzs]
      refine ⟨.pointer (some ⟨w.heap.size, 0, none⟩), .cells (List.replicate n (Value.int .i64 0)).toArray t, n, ?_, ⟨by decide, .inr ⟨_, _, rfl, .inr rfl, heap_alloc_new w _, by simp, hn, ?_⟩⟩, ⟨_, upd_self _ _ _, rfl⟩⟩
      · unfold execOp
        simp [ho, Instr.alloc, newVar, newRow, zeroValue, typeInfo, hq, hzz, hza]
      · refine ⟨by simp, fun j row hj => ?_⟩
        rw [List.map_replicate] at hj
        obtain ⟨h1, rfl⟩ := List.getElem?_eq_some_iff.1 hj
        rw [List.length_replicate] at h1
        rw [List.getElem_replicate]
        refine ⟨rfl, fun q d hd => ?_⟩
        cases q with
        | zero =>
          simp [rI1] at hd; subst hd
          exact ⟨.int .i64 0, by simp [h1], .v _ rfl⟩
        | succ q => simp [rI1] at hd
theorem g_indexA {t n e : Nat} {x y : Operand} {k i : Nat} {j : Int} (ho : o.op = .indexAddr t x y) (hx : ev st x (.v (.c (.p k 0 1 0)))) (hy : ev st y (.v (.c (.d (.v (.int .i64 j))))))
    (hu : P.underlying t = some (.array n e)) (hz : (P.info? e).map (·.size) = some 1) (hj : j = (i : Int)) (hi : i < n) : GOp P o st (.v (.c (.p k i 1 0))) [] [] :=
  GOp.val fun σ T ac w C => by
    obtain ⟨g, hg, hv⟩ := ev_rel C hx
    have h2 := DRel.inv (ev_rel C hy)
    subst hj
    refine ⟨.pointer (some ⟨g.g, 0 * 1 + 0 + i * 1, none⟩), ?_, g, hg, by simp⟩
    cases hq : P.info? e with
    | none => simp [hq] at hz
    | some ii =>
      have hs : ii.size = 1 := by simpa [hq] using hz
      unfold execOp
      simp [ho, hv, h2, Instr.indexAt, asIntOf, run_underlying hu, sizeOf, typeInfo, hq, hs, hi, asAddr, Instr.sureAddr, Addr.add_lit]
theorem g_loadAA {t n e bt : Nat} {x : Operand} {k : Nat} {l : List Int} (ho : o.op = .load t x) (hx : ev st x (.v (.c (.p k 0 1 0)))) (hb : look st.h k = some (.arr bt 1 (l.map rI1))) (hu : P.underlying t = some (.array n e)) (hz : (P.info? t).map (·.size) = some n) (hl : l.length = n) :
    GOp P o st (.v (.g (l.map cI))) [] [] :=
  GOp.val fun σ T ac w C => by
    obtain ⟨g, hg, hv⟩ := ev_rel C hx
    have hh := C.heap k _ hb
    rw [hg] at hh
    have cell : ∀ j x, l[j]? = some x → w.cell? ⟨g.g, j, none⟩ = some (.int .i64 x) := fun j x hj => by
      obtain ⟨v, h1, h2⟩ := hh.cell_arr (i := j) (j := 0) (row := rI1 x) (d := dI x) (by simp [hj]) rfl
      rw [DRel.inv h2] at h1
      simpa using h1
    refine ⟨.agg (l.map fun x => Value.int .i64 x).toArray, ?_, _, rfl, ?_⟩
    · unfold execOp
      simp only [ho, hv]
      rw [show 0 * 1 + 0 = 0 by rfl]
      simp [run_loadAgg (P := P) (w := w) (b := g.g) (off := 0) (ws := l.map fun x => Value.int .i64 x) hu rfl (by rw [List.length_map, hl]; exact hz) (fun j v hj => by
        rw [List.getElem?_map, Option.map_eq_some_iff] at hj
        obtain ⟨x, hx, rfl⟩ := hj
        rw [Nat.zero_add]
        exact cell j x hx)]
    · clear cell hh hb hl
      induction l with
      | nil => trivial
      | cons x l ih => exact ⟨.v _ rfl, ih⟩
theorem g_indexG {t n e : Nat} {x y : Operand} {l : List Int} {i : Nat} {j z : Int} {d : TypeDesc} (ho : o.op = .index t x y) (hx : ev st x (.v (.g (l.map cI)))) (hy : ev st y (.v (.c (.d (.v (.int .i64 j))))))
    (hu : P.underlying t = some (.array n e)) (hd : P.underlying e = some d) (ha : aggD d = false) (hz : (P.info? e).map (·.size) = some 1) (hj : j = (i : Int)) (hi : i < n) (hg : l[i]? = some z) : GOp P o st (.v (.c (.d (.v (.int .i64 z))))) [] [] :=
  GOp.val fun σ T ac w C => by
    obtain ⟨vs, hv, hr⟩ := ev_rel C hx
    have h2 := DRel.inv (ev_rel C hy)
    subst hj
    obtain ⟨v, h3, h4⟩ := hr.get (i := i) (x := cI z) (by simp [hg])
    have h5 : v = .int .i64 z := DRel.inv h4
    subst h5
    refine ⟨.int .i64 z, ?_, DRel.v _ rfl⟩
    cases hq : P.info? e with
    | none => simp [hq] at hz
    | some ii =>
      have hs : ii.size = 1 := by simpa [hq] using hz
      unfold execOp
      simp [ho, hv, h2, Instr.index, asIntOf, run_underlying hu, sizeOf, typeInfo, hq, hs, hi, part, run_isAgg hd, ha, h3]
end
end Go.Proofs.Ytgmcdlfmifijlaa.Dev
