/- The symbolic heap: maps with integer keys; no condition. -/
import Derived.Test.YtgmcdlfmifijlaaDSh15
import Derived.MapKept
set_option linter.unusedVariables false
set_option linter.unusedSimpArgs false
namespace Go.Proofs.Ytgmcdlfmifijlaa.Dev
open Go.RowKit

/-- an integer map's entries, and what is under a key -/
def mV (ps : List (Int × Int)) : List (Int × Value) := ps.map fun p => (p.1, .int .i64 p.2)
def mlook : List (Int × Int) → Int → Int
  | [], _ => 0
  | (k, v) :: l, i => if k = i then v else mlook l i
theorem findNow_some {a : Int} : ∀ {ps : List (Int × Int)} {ms : List MapEntry} (i : Nat), ms.map (fun e => (e.key, e.val)) = (mV ps).map (fun e => (Value.int .i64 e.1, e.2)) →
    (∃ j, Instr.findNow (.int .i64) (.int .i64 a) ms i = some (some (j, .int .i64 (mlook ps a)))) ∨ (Instr.findNow (.int .i64) (.int .i64 a) ms i = some none ∧ mlook ps a = 0)
  | [], [], i, _ => .inr ⟨rfl, rfl⟩
  | [], _ :: _, _, h => by cases h
  | _ :: _, [], _, h => by cases h
  | (k, v) :: ps, e :: ms, i, h => by
    obtain ⟨h1, h2⟩ := List.cons.inj h
    injection h1 with h3 h4
    unfold Instr.findNow mlook
    rw [h3, h4]
    by_cases hk : k = a
    · subst hk; exact .inl ⟨i, by simp [Instr.sameNow]⟩
    · have hk' : (a == k) = false := beq_eq_false_iff_ne.2 fun e => hk e.symm
      rcases findNow_some (ps := ps) (ms := ms) (a := a) (i + 1) h2 with ⟨j, hj⟩ | hj
      · exact .inl ⟨j, by simp [Instr.sameNow, hk, hk', hj]⟩
      · exact .inr (by simp [Instr.sameNow, hk, hk', hj])
theorem findNow_none {a : Int} : ∀ {ps : List (Int × Int)} {ms : List MapEntry} (i : Nat), ms.map (fun e => (e.key, e.val)) = (mV ps).map (fun e => (Value.int .i64 e.1, e.2)) → ps.all (fun p => !(p.1 == a)) = true →
    Instr.findNow (.int .i64) (.int .i64 a) ms i = some none
  | [], [], i, _, _ => rfl
  | [], _ :: _, _, h, _ => by cases h
  | _ :: _, [], _, h, _ => by cases h
  | (k, v) :: ps, e :: ms, i, h, hn => by
    obtain ⟨h1, h2⟩ := List.cons.inj h
    injection h1 with h3 h4
    rw [List.all_cons, Bool.and_eq_true] at hn
    have hk : ¬ k = a := by simpa using hn.1
    have hk' : (a == k) = false := beq_eq_false_iff_ne.2 fun e => hk e.symm
    unfold Instr.findNow
    rw [h3]
    simp [Instr.sameNow, hk', findNow_none (i + 1) h2 hn.2]
section
variable {P : Program} {st : AState} {o : Oper}
theorem g_makeMap {t : TypeId} (k : Nat) (ho : o.op = .makeMap t none) : GOp P o st (.v (.c (.m k))) [(k, .map (mV []) 0)] [] :=
  GOp.new (P := P) fun σ T ac w C hk => by
    refine ⟨.map (some w.heap.size), .map #[] 0, 0, ?_, ⟨⟨w.heap.size, 0⟩, #[], rfl, .inr rfl, heap_alloc_new w _, rfl⟩, ⟨_, upd_self _ _ _, rfl⟩⟩
    unfold execOp
    simp only [ho, Option.map_none, Sem.run_bind, (show ∀ t w, (Instr.makeMap t none).run P w = .ok (.map (some w.heap.size)) (w.alloc (.map #[] 0)) from fun _ _ => rfl), Result.andThen_ok]
    rfl
theorem g_insert {t kt et : TypeId} {m x y : Operand} {k cl : Nat} {a v : Int} {ps ps' : List (Int × Int)} (hu : P.underlying t = some (.map kt et)) (hkt : P.underlying kt = some (.int .i64)) (ho : o.op = .insert t m x y)
    (hm : ev st m (.v (.c (.m k)))) (hx : ev st x (.v (.c (.d (.v (.int .i64 a)))))) (hy : ev st y (.v (.c (.d (.v (.int .i64 v)))))) (hb : look st.h k = some (.map (mV ps) cl)) (hn : ps.all (fun p => !(p.1 == a)) = true) (hp : ps ++ [(a, v)] = ps') :
    GOp P o st (.v (.c .any)) [(k, .map (mV ps') (cl + 1))] [k] := by
  intro σ T ac w C _
  obtain ⟨g, h1, h2⟩ := ev_rel C hm
  have h3 := DRel.inv (ev_rel C hx)
  have h4 := DRel.inv (ev_rel C hy)
  obtain ⟨g', ms, e1, e2, e3, e4⟩ := C.heap k _ hb
  rw [h1] at e1; injection e1 with e1; subst e1
  have hf := findNow_none (a := a) 0 e4 hn
  have hlt := (Array.getElem?_eq_some_iff.1 e3).1
  refine wp_skipv (w' := { w with heap := w.heap.setIfInBounds g.g (.map (ms.push { key := .int .i64 a, val := .int .i64 v, born := cl }) (cl + 1)) }) ?_ ⟨undef, σ, T, rfl, Ext.write C hb h1 rfl rfl rfl (by simp) (fun i hi => (MapKept.heap_set e3).2 i hi) fun G => ?_, trivial⟩
  · unfold execOp
    simp only [ho, h2, h3, h4, Instr.mapUpdate, Sem.run_bind, run_underlying hu, Result.andThen_ok, MapKept.run_getObj_map e3, MapKept.run_checkKey hkt (show MapKept.IsKey (.int .i64) (.int .i64 a) from rfl), MapKept.run_findKey hkt hf, MapKept.run_setObj_map _ e3]
    rfl
  · refine ⟨g, _, rfl, e2, (MapKept.heap_set e3).1, ?_⟩
    subst hp
    rw [Array.toList_push, List.map_append, e4]
    simp [mV]
theorem g_lookup {t kt et : TypeId} {m x : Operand} {k cl : Nat} {a : Int} {ps : List (Int × Int)} (hu : P.underlying t = some (.map kt et)) (hkt : P.underlying kt = some (.int .i64)) (hz : (P.info? et).bind (fun i => i.zero) = some (.int .i64 0)) (ho : o.op = .lookup t m x false)
    (hm : ev st m (.v (.c (.m k)))) (hx : ev st x (.v (.c (.d (.v (.int .i64 a)))))) (hb : look st.h k = some (.map (mV ps) cl)) :
    GOp P o st (.v (.c (.d (.v (.int .i64 (mlook ps a)))))) [] [] :=
  GOp.val fun σ T ac w C => by
    obtain ⟨g, h1, h2⟩ := ev_rel C hm
    have h3 := DRel.inv (ev_rel C hx)
    obtain ⟨g', ms, e1, e2, e3, e4⟩ := C.heap k _ hb
    rw [h1] at e1; injection e1 with e1; subst e1
    refine ⟨.int .i64 (mlook ps a), ?_, DRel.v _ rfl⟩
    cases hq : P.info? et with
    | none => simp [hq] at hz
    | some i =>
      have hzz : i.zero = some (.int .i64 0) := by simpa [hq] using hz
      unfold execOp
      rcases findNow_some (a := a) 0 e4 with ⟨j, hf⟩ | ⟨hf, h0⟩
      · simp [ho, h2, h3, Instr.lookup, run_underlying hu, MapKept.run_getObj_map e3, MapKept.run_checkKey hkt (show MapKept.IsKey (.int .i64) (.int .i64 a) from rfl), MapKept.run_findKey hkt hf, Result.andThen]
      · simp [ho, h2, h3, Instr.lookup, run_underlying hu, MapKept.run_getObj_map e3, MapKept.run_checkKey hkt (show MapKept.IsKey (.int .i64) (.int .i64 a) from rfl), MapKept.run_findKey hkt hf, Result.andThen, zeroValue, typeInfo, hq, hzz, h0]
end
end Go.Proofs.Ytgmcdlfmifijlaa.Dev
