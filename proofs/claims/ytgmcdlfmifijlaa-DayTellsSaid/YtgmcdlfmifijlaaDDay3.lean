/- payref1.Sorted. -/
import Derived.Test.YtgmcdlfmifijlaaDDay2
set_option linter.unusedVariables false
set_option linter.unusedSimpArgs false
namespace Go.Proofs.Ytgmcdlfmifijlaa.Dev
open Go.RowKit

set_option maxRecDepth 100000 in
set_option maxHeartbeats 4000000 in
theorem c_ref_Sorted (l : List Record) (hl : l.length * 32 ≤ 140737488355328) (r : List Record) (hr : sortR l = r) : Fn Try.prog 95 [(.c (cR 4 ((l).map rRecord)))] (.v (.c (.s 0 0 4 r.length))) [(0, (.arr 127 4 ((r).map rRecord)))] := by
  refine Fn.mk' 66 [(0, (aC (cR 4 ((l).map rRecord))))] Try.func95 rfl rfl rfl rfl ?_
  intro W0 T0
  refine AC.len1 0 rfl (fun hlen0 => ?_)
  refine AC.seq ?_
  refine AC.region ?_
  refine AL.fast 1 rfl ?_
  refine AL.nil ?_
  refine then_ok ?_
  refine AC.seq ?_
  refine AC.region ?_
  refine AL.fast 1 rfl ?_
  refine AL.nil ?_
  refine then_ok ?_
  refine AC.seq ?_
  refine AC.seq ?_
  refine AC.region ?_
  refine AL.fast 1 rfl ?_
  refine AL.val (Wanted.plain rfl) (g_lenM rfl rfl rfl rfl rfl Try.underlying114) rfl rfl ?_
  refine AL.fast 1 rfl ?_
  refine AL.nil ?_
  refine then_ok ?_
  refine AC.block ?_
  refine AC.weak (Weak.nil 3 127 4 (by decide) rfl) ?_
  refine AC.loop (β := Nat × List Record) (fun (p : Nat × List Record) => match p with | (q, m) => ⟨[(2, (aC cN)), (3, (aC (.s 0 0 4 m.length))), (7, (aC (cR 4 ((l).map rRecord)))), (8, (aI (↑l.length : Int))), (9, (aI (↑q : Int)))], [(0, (.arr 127 4 ((m).map rRecord)))], 1⟩) (fun (p : Nat × List Record) => match p with | (q, m) => q ≤ l.length ∧ m = insP (l.take q) ∧ m.length = q) (fun (p : Nat × List Record) => match p with | (q, m) => l.length - q) (0, ([] : List Record)) ?_ ?_ ?_
  · exact ⟨by omega, rfl, rfl⟩
  · exact Weak.ren id (by refine ⟨?_, ?_, ?_, ?_, ?_,  trivial⟩ <;> first | rfl | (simp only [AV.map, GV.map, CV.map, AB.map', id]; done) | (congr 3; omega) | (congr 4; omega) | (simp only [List.length_append, List.length_cons, List.length_nil, List.length_set]; rfl)) (⟨by first | rfl | (simp only [AV.map, GV.map, CV.map, AB.map', id]; done) | (congr 3; omega) | (congr 4; omega) | (simp only [List.length_append, List.length_cons, List.length_nil, List.length_set]; rfl), trivial⟩) rfl
  ·
    rintro ⟨q, m⟩ ⟨hi0_0, hi0_1, hi0_2⟩
    refine AC.seq ?_
    refine AC.region ?_
    refine AL.val (Wanted.plain rfl) (g_binI rfl rfl rfl rfl) rfl rfl ?_
    refine AL.nil ?_
    refine then_ok ?_
    refine AC.seq ?_
    refine AC.cond rfl (fun hc1 => ?_) (fun hc1 => ?_)
    ·
      have hc1' := hc1; try simp only [sumB, Bool.not_eq_true', Bool.not_eq_false', Bool.or_eq_true, Bool.or_eq_false_iff, Bool.and_eq_true, Bool.and_eq_false_imp, decide_eq_true_eq, decide_eq_false_iff_not, Bool.not_not, Bool.not_true, Bool.not_false] at hc1'
      refine AC.skip ?_
      refine then_ok ?_
      refine AC.seq ?_
      refine AC.block ?_
      refine AC.seq ?_
      refine AC.region ?_
      obtain ⟨x1, hx1⟩ := exget (xs := l) (i := q) (by first | omega | (simp; done) | (simp; omega))
      refine AL.val (Wanted.plain rfl) (g_indexQ (i := q) rfl rfl rfl Try.underlying114 sz127 (by first | omega | (simp; done) | (simp; omega)) (getmap hx1)) rfl rfl ?_
      refine AL.val (Wanted.plain rfl) (g_loadQs rfl rfl Try.underlying127 rfl sz127 rfl rfl) rfl rfl ?_
      refine AL.new (n' := 2) (Wanted.plain rfl) (g_alloc 1 rfl zv127 rfl rfl rfl) rfl rfl rfl ?_
      refine AL.sto (h' := [(1, (.box 127 [(cI x1.shop), (cI x1.auth), (cI x1.kind), (cI x1.sum)])), (0, (.arr 127 4 ((m).map rRecord)))]) (Wanted.plain rfl) (g_storeB rfl rfl rfl rfl rfl sz127 rfl (Nat.le_of_ble_eq_true rfl) rfl) rfl rfl rfl rfl ?_
      refine AL.nil ?_
      refine then_ok ?_
      refine AC.seq ?_
      refine AC.region ?_
      refine AL.fast 1 rfl ?_
      refine AL.val (Wanted.plain rfl) (g_lenS rfl rfl rfl rfl rfl Try.underlying114) rfl rfl ?_
      refine AL.fast 1 rfl ?_
      refine AL.nil ?_
      refine then_ok ?_
      refine AC.seq ?_
      refine AC.block ?_
      refine AC.loop (β := Nat) (fun (a : Nat) => ⟨[(2, (aC cN)), (3, (aC (.s 0 0 4 m.length))), (7, (aC (cR 4 ((l).map rRecord)))), (8, (aI (↑l.length : Int))), (9, (aI (↑q : Int))), (5, (aC (.p 1 0 0 0))), (6, (aI (↑a : Int)))], [(1, (.box 127 [(cI x1.shop), (cI x1.auth), (cI x1.kind), (cI x1.sum)])), (0, (.arr 127 4 ((m).map rRecord)))], 2⟩) (fun (a : Nat) => a ≤ m.length ∧ (∀ i y, a ≤ i → m[i]? = some y → ltR x1 y = true)) (fun (a : Nat) => a) m.length ?_ ?_ ?_
      · exact ⟨by omega, fun i y h0 hy => by have := (List.getElem?_eq_some_iff.1 hy).1; omega⟩
      · exact Weak.ren id (by refine ⟨?_, ?_, ?_, ?_, ?_, ?_, ?_,  trivial⟩ <;> first | rfl | (simp only [AV.map, GV.map, CV.map, AB.map', id]; done) | (congr 3; omega) | (congr 4; omega) | (simp only [List.length_append, List.length_cons, List.length_nil, List.length_set]; rfl)) (by refine ⟨?_, ?_,  trivial⟩ <;> first | rfl | (simp only [AV.map, GV.map, CV.map, AB.map', id]; done) | (congr 3; omega) | (congr 4; omega) | (simp only [List.length_append, List.length_cons, List.length_nil, List.length_set]; rfl)) rfl
      ·
        rintro a ⟨hi1_0, hi1_1⟩
        refine AC.seq ?_
        refine AC.seq ?_
        rcases Bool.eq_false_or_eq_true (decide ((↑a : Int) > 0)) with hb2 | hb2
        ·
          have hb2' := hb2; try simp only [sumB, Bool.not_eq_true', Bool.not_eq_false', Bool.or_eq_true, Bool.or_eq_false_iff, Bool.and_eq_true, Bool.and_eq_false_imp, decide_eq_true_eq, decide_eq_false_iff_not, Bool.not_not, Bool.not_true, Bool.not_false] at hb2'
          obtain ⟨x2, hx2⟩ := exget (xs := m) (i := (a) - 1) (by first | omega | (simp; done) | (simp; omega))
          rcases Bool.eq_false_or_eq_true (decide (x2.shop > x1.shop)) with hb3 | hb3
          ·
            have hb3' := hb3; try simp only [sumB, Bool.not_eq_true', Bool.not_eq_false', Bool.or_eq_true, Bool.or_eq_false_iff, Bool.and_eq_true, Bool.and_eq_false_imp, decide_eq_true_eq, decide_eq_false_iff_not, Bool.not_not, Bool.not_true, Bool.not_false] at hb3'
            refine AC.weak (st' := ⟨[(2, (aC cN)), (3, (aC (.s 0 0 4 m.length))), (7, (aC (cR 4 ((l).map rRecord)))), (8, (aI (↑l.length : Int))), (9, (aI (↑q : Int))), (5, (aC (.p 1 0 0 0))), (6, (aI (↑a : Int)))], [(1, (.box 127 [(cI x1.shop), (cI x1.auth), (cI x1.kind), (cI x1.sum)])), (0, (.arr 127 4 ((m).map rRecord)))], 2⟩) (Weak.ren id (by refine ⟨?_, ?_, ?_, ?_, ?_, ?_, ?_,  trivial⟩ <;> first | rfl | (simp only [AV.map, GV.map, CV.map, AB.map', id]; done) | (congr 3; omega) | (congr 4; omega) | (simp only [List.length_append, List.length_cons, List.length_nil, List.length_set]; rfl)) (by refine ⟨?_, ?_,  trivial⟩ <;> first | rfl | (simp only [AV.map, GV.map, CV.map, AB.map', id]; done) | (congr 3; omega) | (congr 4; omega) | (simp only [List.length_append, List.length_cons, List.length_nil, List.length_set]; rfl)) rfl) ?_
            refine AC.draw [⟨some 15, (aI (↑a : Int)), [], [], [], [(6, (aI (↑a : Int)))], []⟩,
      ⟨some 16, (aB true), [], [], [0], [(15, (aI (↑a : Int)))], []⟩,
      ⟨some 17, (aB true), [], [], [1], [(16, (aB true))], []⟩,
      ⟨some 18, (aC (.s 0 0 4 m.length)), [], [], [2], [(3, (aC (.s 0 0 4 m.length))), (17, (aB true))], [(0, (.arr 127 4 ((m).map rRecord)))]⟩,
      ⟨some 19, (aI (↑a : Int)), [], [], [2], [(6, (aI (↑a : Int))), (17, (aB true))], []⟩,
      ⟨some 20, (aI ((↑a : Int) - 1)), [], [], [2, 4], [(19, (aI (↑a : Int))), (17, (aB true))], []⟩,
      ⟨some 21, (aC (.p 0 ((a) - 1) 4 0)), [], [], [2, 3, 5], [(18, (aC (.s 0 0 4 m.length))), (20, (aI ((↑a : Int) - 1))), (17, (aB true))], [(0, (.arr 127 4 ((m).map rRecord)))]⟩,
      ⟨some 22, (aC (.p 0 ((a) - 1) 4 0)), [], [], [2, 6], [(21, (aC (.p 0 ((a) - 1) 4 0))), (17, (aB true))], [(0, (.arr 127 4 ((m).map rRecord)))]⟩,
      ⟨some 23, (aI x2.shop), [], [], [2, 7], [(22, (aC (.p 0 ((a) - 1) 4 0))), (17, (aB true))], [(0, (.arr 127 4 ((m).map rRecord)))]⟩,
      ⟨some 24, (aC (.p 1 0 0 0)), [], [], [2], [(5, (aC (.p 1 0 0 0))), (17, (aB true))], [(1, (.box 127 [(cI x1.shop), (cI x1.auth), (cI x1.kind), (cI x1.sum)]))]⟩,
      ⟨some 25, (aI x1.shop), [], [], [2, 9], [(24, (aC (.p 1 0 0 0))), (17, (aB true))], [(1, (.box 127 [(cI x1.shop), (cI x1.auth), (cI x1.kind), (cI x1.sum)]))]⟩,
      ⟨some 26, (aB true), [], [], [2, 8, 10], [(23, (aI x2.shop)), (25, (aI x1.shop)), (17, (aB true))], []⟩,
      ⟨some 27, (aB true), [], [], [2, 11], [(26, (aB true)), (17, (aB true))], []⟩,
      ⟨some 28, (.t []), [], [], [12], [(3, (aC (.s 0 0 4 m.length))), (27, (aB true))], []⟩,
      ⟨some 29, (.t []), [], [], [12], [(6, (aI (↑a : Int))), (27, (aB true))], []⟩,
      ⟨some 30, (.t []), [], [], [12, 14], [(29, (.t [])), (27, (aB true))], []⟩,
      ⟨some 31, (.t []), [], [], [12, 13, 15], [(28, (.t [])), (30, (.t [])), (27, (aB true))], []⟩,
      ⟨some 32, (.t []), [], [], [12, 16], [(31, (.t [])), (27, (aB true))], []⟩,
      ⟨some 33, (.t []), [], [], [12, 17], [(32, (.t [])), (27, (aB true))], []⟩,
      ⟨some 34, (.t []), [], [], [12], [(5, (aC (.p 1 0 0 0))), (27, (aB true))], []⟩,
      ⟨some 35, (.t []), [], [], [12, 19], [(34, (.t [])), (27, (aB true))], []⟩,
      ⟨some 36, (.t []), [], [], [12, 18, 20], [(33, (.t [])), (35, (.t [])), (27, (aB true))], []⟩,
      ⟨some 37, (.t []), [], [], [12, 21], [(36, (.t [])), (27, (aB true))], []⟩,
      ⟨some 38, (.t []), [], [], [22], [(3, (aC (.s 0 0 4 m.length))), (37, (.t []))], []⟩,
      ⟨some 39, (.t []), [], [], [22], [(6, (aI (↑a : Int))), (37, (.t []))], []⟩,
      ⟨some 40, (.t []), [], [], [22, 24], [(39, (.t [])), (37, (.t []))], []⟩,
      ⟨some 41, (.t []), [], [], [22, 23, 25], [(38, (.t [])), (40, (.t [])), (37, (.t []))], []⟩,
      ⟨some 42, (.t []), [], [], [22, 26], [(41, (.t [])), (37, (.t []))], []⟩,
      ⟨some 43, (.t []), [], [], [22, 27], [(42, (.t [])), (37, (.t []))], []⟩,
      ⟨some 44, (.t []), [], [], [22], [(5, (aC (.p 1 0 0 0))), (37, (.t []))], []⟩,
      ⟨some 45, (.t []), [], [], [22, 29], [(44, (.t [])), (37, (.t []))], []⟩,
      ⟨some 46, (.t []), [], [], [22, 28, 30], [(43, (.t [])), (45, (.t [])), (37, (.t []))], []⟩,
      ⟨some 47, (.t []), [], [], [12, 22, 31], [(37, (.t [])), (46, (.t [])), (27, (aB true))], []⟩,
      ⟨some 48, (aB true), [], [], [2, 12, 32], [(27, (aB true)), (47, (.t [])), (17, (aB true))], []⟩,
      ⟨some 49, (aB true), [], [], [2, 33], [(17, (aB true)), (48, (aB true))], []⟩] ⟨[(2, (aC cN)), (3, (aC (.s 0 0 4 m.length))), (7, (aC (cR 4 ((l).map rRecord)))), (8, (aI (↑l.length : Int))), (9, (aI (↑q : Int))), (5, (aC (.p 1 0 0 0))), (6, (aI (↑a : Int))), (49, (aB true))], [(1, (.box 127 [(cI x1.shop), (cI x1.auth), (cI x1.kind), (cI x1.sum)])), (0, (.arr 127 4 ((m).map rRecord)))], 2⟩ mixed (by kernel_rfl) ?_ ?_ ?_ ?_
            · exact ⟨.inl ⟨(Wanted.plain rfl), GOp.cast (g_move rfl rfl) rfl⟩,
      .inl ⟨(Wanted.plain rfl), GOp.cast (g_binI rfl rfl rfl (congrArg (fun b => some (Value.bool b)) hb2)) rfl⟩,
      .inl ⟨(Wanted.plain rfl), GOp.cast (g_move rfl rfl) rfl⟩,
      .inl ⟨(Wanted.yes rfl rfl rfl), GOp.cast (g_move rfl rfl) rfl⟩,
      .inl ⟨(Wanted.yes rfl rfl rfl), GOp.cast (g_move rfl rfl) rfl⟩,
      .inl ⟨(Wanted.yes rfl rfl rfl), GOp.cast (g_binI rfl rfl rfl (wrap_ok (by first | omega | (simp; done) | (simp; omega)))) rfl⟩,
      .inl ⟨(Wanted.yes rfl rfl rfl), GOp.cast (g_indexP0 (i := (a) - 1) rfl rfl rfl Try.underlying114 sz127 (by first | omega | (simp; done) | (simp; omega)) (by first | omega | (simp; done) | (simp; omega))) rfl⟩,
      .inl ⟨(Wanted.yes rfl rfl rfl), GOp.cast (g_fieldP rfl rfl Try.underlying127 rfl sz3 (by decide)) rfl⟩,
      .inl ⟨(Wanted.yes rfl rfl rfl), GOp.cast (g_loadA rfl rfl rfl Try.underlying3 rfl (getmap hx2) rfl) rfl⟩,
      .inl ⟨(Wanted.yes rfl rfl rfl), GOp.cast (g_fieldP rfl rfl Try.underlying127 rfl sz3 (by decide)) rfl⟩,
      .inl ⟨(Wanted.yes rfl rfl rfl), GOp.cast (g_loadB rfl rfl rfl Try.underlying3 rfl rfl) rfl⟩,
      .inl ⟨(Wanted.yes rfl rfl rfl), GOp.cast (g_binI rfl rfl rfl (congrArg (fun b => some (Value.bool b)) hb3)) rfl⟩,
      .inl ⟨(Wanted.yes rfl rfl rfl), GOp.cast (g_move rfl rfl) rfl⟩,
      .inr ⟨(Unwanted.no rfl rfl rfl), rfl, rfl, rfl⟩,
      .inr ⟨(Unwanted.no rfl rfl rfl), rfl, rfl, rfl⟩,
      .inr ⟨(Unwanted.no rfl rfl rfl), rfl, rfl, rfl⟩,
      .inr ⟨(Unwanted.no rfl rfl rfl), rfl, rfl, rfl⟩,
      .inr ⟨(Unwanted.no rfl rfl rfl), rfl, rfl, rfl⟩,
      .inr ⟨(Unwanted.no rfl rfl rfl), rfl, rfl, rfl⟩,
      .inr ⟨(Unwanted.no rfl rfl rfl), rfl, rfl, rfl⟩,
      .inr ⟨(Unwanted.no rfl rfl rfl), rfl, rfl, rfl⟩,
      .inr ⟨(Unwanted.no rfl rfl rfl), rfl, rfl, rfl⟩,
      .inr ⟨(Unwanted.no rfl rfl rfl), rfl, rfl, rfl⟩,
      .inr ⟨(Unwanted.un rfl rfl rfl), rfl, rfl, rfl⟩,
      .inr ⟨(Unwanted.un rfl rfl rfl), rfl, rfl, rfl⟩,
      .inr ⟨(Unwanted.un rfl rfl rfl), rfl, rfl, rfl⟩,
      .inr ⟨(Unwanted.un rfl rfl rfl), rfl, rfl, rfl⟩,
      .inr ⟨(Unwanted.un rfl rfl rfl), rfl, rfl, rfl⟩,
      .inr ⟨(Unwanted.un rfl rfl rfl), rfl, rfl, rfl⟩,
      .inr ⟨(Unwanted.un rfl rfl rfl), rfl, rfl, rfl⟩,
      .inr ⟨(Unwanted.un rfl rfl rfl), rfl, rfl, rfl⟩,
      .inr ⟨(Unwanted.un rfl rfl rfl), rfl, rfl, rfl⟩,
      .inr ⟨(Unwanted.no rfl rfl rfl), rfl, rfl, rfl⟩,
      .inl ⟨(Wanted.yes rfl rfl rfl), GOp.cast (g_pick rfl rfl rfl) rfl⟩,
      .inl ⟨(Wanted.plain rfl), GOp.cast (g_pick rfl rfl rfl) rfl⟩,
       trivial⟩
            · exact ⟨⟨⟨.inl rfl,  trivial⟩, trivial⟩, ⟨⟨.inr ⟨0, .head _, _, rfl, rfl, rfl⟩,  trivial⟩, trivial⟩, ⟨⟨.inr ⟨1, .head _, _, rfl, rfl, rfl⟩,  trivial⟩, trivial⟩, ⟨⟨.inl rfl, .inr ⟨2, .head _, _, rfl, rfl, rfl⟩,  trivial⟩, ⟨.inl rfl,  trivial⟩⟩, ⟨⟨.inl rfl, .inr ⟨2, .head _, _, rfl, rfl, rfl⟩,  trivial⟩, trivial⟩, ⟨⟨.inr ⟨4, .tail _ (.head _), _, rfl, rfl, rfl⟩, .inr ⟨2, .head _, _, rfl, rfl, rfl⟩,  trivial⟩, trivial⟩, ⟨⟨.inr ⟨3, .tail _ (.head _), _, rfl, rfl, rfl⟩, .inr ⟨5, .tail _ (.tail _ (.head _)), _, rfl, rfl, rfl⟩, .inr ⟨2, .head _, _, rfl, rfl, rfl⟩,  trivial⟩, ⟨.inl rfl,  trivial⟩⟩, ⟨⟨.inr ⟨6, .tail _ (.head _), _, rfl, rfl, rfl⟩, .inr ⟨2, .head _, _, rfl, rfl, rfl⟩,  trivial⟩, ⟨.inl rfl,  trivial⟩⟩, ⟨⟨.inr ⟨7, .tail _ (.head _), _, rfl, rfl, rfl⟩, .inr ⟨2, .head _, _, rfl, rfl, rfl⟩,  trivial⟩, ⟨.inl rfl,  trivial⟩⟩, ⟨⟨.inl rfl, .inr ⟨2, .head _, _, rfl, rfl, rfl⟩,  trivial⟩, ⟨.inl rfl,  trivial⟩⟩, ⟨⟨.inr ⟨9, .tail _ (.head _), _, rfl, rfl, rfl⟩, .inr ⟨2, .head _, _, rfl, rfl, rfl⟩,  trivial⟩, ⟨.inl rfl,  trivial⟩⟩, ⟨⟨.inr ⟨8, .tail _ (.head _), _, rfl, rfl, rfl⟩, .inr ⟨10, .tail _ (.tail _ (.head _)), _, rfl, rfl, rfl⟩, .inr ⟨2, .head _, _, rfl, rfl, rfl⟩,  trivial⟩, trivial⟩, ⟨⟨.inr ⟨11, .tail _ (.head _), _, rfl, rfl, rfl⟩, .inr ⟨2, .head _, _, rfl, rfl, rfl⟩,  trivial⟩, trivial⟩, ⟨⟨.inl rfl, .inr ⟨12, .head _, _, rfl, rfl, rfl⟩,  trivial⟩, trivial⟩, ⟨⟨.inl rfl, .inr ⟨12, .head _, _, rfl, rfl, rfl⟩,  trivial⟩, trivial⟩, ⟨⟨.inr ⟨14, .tail _ (.head _), _, rfl, rfl, rfl⟩, .inr ⟨12, .head _, _, rfl, rfl, rfl⟩,  trivial⟩, trivial⟩, ⟨⟨.inr ⟨13, .tail _ (.head _), _, rfl, rfl, rfl⟩, .inr ⟨15, .tail _ (.tail _ (.head _)), _, rfl, rfl, rfl⟩, .inr ⟨12, .head _, _, rfl, rfl, rfl⟩,  trivial⟩, trivial⟩, ⟨⟨.inr ⟨16, .tail _ (.head _), _, rfl, rfl, rfl⟩, .inr ⟨12, .head _, _, rfl, rfl, rfl⟩,  trivial⟩, trivial⟩, ⟨⟨.inr ⟨17, .tail _ (.head _), _, rfl, rfl, rfl⟩, .inr ⟨12, .head _, _, rfl, rfl, rfl⟩,  trivial⟩, trivial⟩, ⟨⟨.inl rfl, .inr ⟨12, .head _, _, rfl, rfl, rfl⟩,  trivial⟩, trivial⟩, ⟨⟨.inr ⟨19, .tail _ (.head _), _, rfl, rfl, rfl⟩, .inr ⟨12, .head _, _, rfl, rfl, rfl⟩,  trivial⟩, trivial⟩, ⟨⟨.inr ⟨18, .tail _ (.head _), _, rfl, rfl, rfl⟩, .inr ⟨20, .tail _ (.tail _ (.head _)), _, rfl, rfl, rfl⟩, .inr ⟨12, .head _, _, rfl, rfl, rfl⟩,  trivial⟩, trivial⟩, ⟨⟨.inr ⟨21, .tail _ (.head _), _, rfl, rfl, rfl⟩, .inr ⟨12, .head _, _, rfl, rfl, rfl⟩,  trivial⟩, trivial⟩, ⟨⟨.inl rfl, .inr ⟨22, .head _, _, rfl, rfl, rfl⟩,  trivial⟩, trivial⟩, ⟨⟨.inl rfl, .inr ⟨22, .head _, _, rfl, rfl, rfl⟩,  trivial⟩, trivial⟩, ⟨⟨.inr ⟨24, .tail _ (.head _), _, rfl, rfl, rfl⟩, .inr ⟨22, .head _, _, rfl, rfl, rfl⟩,  trivial⟩, trivial⟩, ⟨⟨.inr ⟨23, .tail _ (.head _), _, rfl, rfl, rfl⟩, .inr ⟨25, .tail _ (.tail _ (.head _)), _, rfl, rfl, rfl⟩, .inr ⟨22, .head _, _, rfl, rfl, rfl⟩,  trivial⟩, trivial⟩, ⟨⟨.inr ⟨26, .tail _ (.head _), _, rfl, rfl, rfl⟩, .inr ⟨22, .head _, _, rfl, rfl, rfl⟩,  trivial⟩, trivial⟩, ⟨⟨.inr ⟨27, .tail _ (.head _), _, rfl, rfl, rfl⟩, .inr ⟨22, .head _, _, rfl, rfl, rfl⟩,  trivial⟩, trivial⟩, ⟨⟨.inl rfl, .inr ⟨22, .head _, _, rfl, rfl, rfl⟩,  trivial⟩, trivial⟩, ⟨⟨.inr ⟨29, .tail _ (.head _), _, rfl, rfl, rfl⟩, .inr ⟨22, .head _, _, rfl, rfl, rfl⟩,  trivial⟩, trivial⟩, ⟨⟨.inr ⟨28, .tail _ (.head _), _, rfl, rfl, rfl⟩, .inr ⟨30, .tail _ (.tail _ (.head _)), _, rfl, rfl, rfl⟩, .inr ⟨22, .head _, _, rfl, rfl, rfl⟩,  trivial⟩, trivial⟩, ⟨⟨.inr ⟨22, .tail _ (.head _), _, rfl, rfl, rfl⟩, .inr ⟨31, .tail _ (.tail _ (.head _)), _, rfl, rfl, rfl⟩, .inr ⟨12, .head _, _, rfl, rfl, rfl⟩,  trivial⟩, trivial⟩, ⟨⟨.inr ⟨12, .tail _ (.head _), _, rfl, rfl, rfl⟩, .inr ⟨32, .tail _ (.tail _ (.head _)), _, rfl, rfl, rfl⟩, .inr ⟨2, .head _, _, rfl, rfl, rfl⟩,  trivial⟩, trivial⟩, ⟨⟨.inr ⟨2, .head _, _, rfl, rfl, rfl⟩, .inr ⟨33, .tail _ (.head _), _, rfl, rfl, rfl⟩,  trivial⟩, trivial⟩,  trivial⟩
            · exact ⟨⟨.inl rfl, .inl rfl, .inl rfl, .inl rfl, .inl rfl, .inl rfl, .inl rfl, .inr ⟨34, _, rfl, rfl, rfl⟩,  trivial⟩, ⟨.inl rfl, .inl rfl,  trivial⟩⟩
            ·
              refine AL.nil ?_
              refine then_ok ?_
              refine AC.cond rfl (fun _ => ?_) (fun hno => by cases hno)
              refine AC.skip ?_
              refine then_ok ?_
              refine AC.block ?_
              refine AC.region ?_
              refine AL.fast 1 rfl ?_
              refine AL.val (Wanted.plain rfl) (g_binI rfl rfl rfl (wrap_ok (by first | omega | (simp; done) | (simp; omega)))) rfl rfl ?_
              refine AL.fast 1 rfl ?_
              refine AL.nil ?_
              refine block_ok ?_
              refine then_ok ?_
              refine ⟨a - 1, ⟨by omega, fun i y h0 hy => by
                      by_cases hia : i = a - 1
                      · subst hia; rw [hx2] at hy; injection hy with hy; subst hy; rw [ltR_t]; omega
                      · exact hi1_1 i y (by omega) hy⟩, by first | omega | (simp; done) | (simp; omega), Weak.ren id (by refine ⟨?_, ?_, ?_, ?_, ?_, ?_, ?_,  trivial⟩ <;> first | rfl | (simp only [AV.map, GV.map, CV.map, AB.map', id]; done) | (congr 3; omega) | (congr 4; omega) | (simp only [List.length_append, List.length_cons, List.length_nil, List.length_set]; rfl) | (exact look_i rfl (by omega))) (by refine ⟨?_, ?_,  trivial⟩ <;> first | rfl | (simp only [AV.map, GV.map, CV.map, AB.map', id]; done) | (congr 3; omega) | (congr 4; omega) | (simp only [List.length_append, List.length_cons, List.length_nil, List.length_set]; rfl)) rfl⟩
          ·
            have hb3' := hb3; try simp only [sumB, Bool.not_eq_true', Bool.not_eq_false', Bool.or_eq_true, Bool.or_eq_false_iff, Bool.and_eq_true, Bool.and_eq_false_imp, decide_eq_true_eq, decide_eq_false_iff_not, Bool.not_not, Bool.not_true, Bool.not_false] at hb3'
            rcases Bool.eq_false_or_eq_true (decide (x2.shop = x1.shop)) with hb5 | hb5
            ·
              have hb5' := hb5; try simp only [sumB, Bool.not_eq_true', Bool.not_eq_false', Bool.or_eq_true, Bool.or_eq_false_iff, Bool.and_eq_true, Bool.and_eq_false_imp, decide_eq_true_eq, decide_eq_false_iff_not, Bool.not_not, Bool.not_true, Bool.not_false] at hb5'
              refine AC.weak (st' := ⟨[(2, (aC cN)), (3, (aC (.s 0 0 4 m.length))), (7, (aC (cR 4 ((l).map rRecord)))), (8, (aI (↑l.length : Int))), (9, (aI (↑q : Int))), (5, (aC (.p 1 0 0 0))), (6, (aI (↑a : Int)))], [(1, (.box 127 [(cI x1.shop), (cI x1.auth), (cI x1.kind), (cI x1.sum)])), (0, (.arr 127 4 ((m).map rRecord)))], 2⟩) (Weak.ren id (by refine ⟨?_, ?_, ?_, ?_, ?_, ?_, ?_,  trivial⟩ <;> first | rfl | (simp only [AV.map, GV.map, CV.map, AB.map', id]; done) | (congr 3; omega) | (congr 4; omega) | (simp only [List.length_append, List.length_cons, List.length_nil, List.length_set]; rfl)) (by refine ⟨?_, ?_,  trivial⟩ <;> first | rfl | (simp only [AV.map, GV.map, CV.map, AB.map', id]; done) | (congr 3; omega) | (congr 4; omega) | (simp only [List.length_append, List.length_cons, List.length_nil, List.length_set]; rfl)) rfl) ?_
              refine AC.draw [⟨some 15, (aI (↑a : Int)), [], [], [], [(6, (aI (↑a : Int)))], []⟩,
      ⟨some 16, (aB true), [], [], [0], [(15, (aI (↑a : Int)))], []⟩,
      ⟨some 17, (aB true), [], [], [1], [(16, (aB true))], []⟩,
      ⟨some 18, (aC (.s 0 0 4 m.length)), [], [], [2], [(3, (aC (.s 0 0 4 m.length))), (17, (aB true))], [(0, (.arr 127 4 ((m).map rRecord)))]⟩,
      ⟨some 19, (aI (↑a : Int)), [], [], [2], [(6, (aI (↑a : Int))), (17, (aB true))], []⟩,
      ⟨some 20, (aI ((↑a : Int) - 1)), [], [], [2, 4], [(19, (aI (↑a : Int))), (17, (aB true))], []⟩,
      ⟨some 21, (aC (.p 0 ((a) - 1) 4 0)), [], [], [2, 3, 5], [(18, (aC (.s 0 0 4 m.length))), (20, (aI ((↑a : Int) - 1))), (17, (aB true))], [(0, (.arr 127 4 ((m).map rRecord)))]⟩,
      ⟨some 22, (aC (.p 0 ((a) - 1) 4 0)), [], [], [2, 6], [(21, (aC (.p 0 ((a) - 1) 4 0))), (17, (aB true))], [(0, (.arr 127 4 ((m).map rRecord)))]⟩,
      ⟨some 23, (aI x2.shop), [], [], [2, 7], [(22, (aC (.p 0 ((a) - 1) 4 0))), (17, (aB true))], [(0, (.arr 127 4 ((m).map rRecord)))]⟩,
      ⟨some 24, (aC (.p 1 0 0 0)), [], [], [2], [(5, (aC (.p 1 0 0 0))), (17, (aB true))], [(1, (.box 127 [(cI x1.shop), (cI x1.auth), (cI x1.kind), (cI x1.sum)]))]⟩,
      ⟨some 25, (aI x1.shop), [], [], [2, 9], [(24, (aC (.p 1 0 0 0))), (17, (aB true))], [(1, (.box 127 [(cI x1.shop), (cI x1.auth), (cI x1.kind), (cI x1.sum)]))]⟩,
      ⟨some 26, (aB false), [], [], [2, 8, 10], [(23, (aI x2.shop)), (25, (aI x1.shop)), (17, (aB true))], []⟩,
      ⟨some 27, (aB false), [], [], [2, 11], [(26, (aB false)), (17, (aB true))], []⟩,
      ⟨some 28, (aC (.s 0 0 4 m.length)), [], [], [12], [(3, (aC (.s 0 0 4 m.length))), (27, (aB false))], [(0, (.arr 127 4 ((m).map rRecord)))]⟩,
      ⟨some 29, (aI (↑a : Int)), [], [], [12], [(6, (aI (↑a : Int))), (27, (aB false))], []⟩,
      ⟨some 30, (aI ((↑a : Int) - 1)), [], [], [12, 14], [(29, (aI (↑a : Int))), (27, (aB false))], []⟩,
      ⟨some 31, (aC (.p 0 ((a) - 1) 4 0)), [], [], [12, 13, 15], [(28, (aC (.s 0 0 4 m.length))), (30, (aI ((↑a : Int) - 1))), (27, (aB false))], [(0, (.arr 127 4 ((m).map rRecord)))]⟩,
      ⟨some 32, (aC (.p 0 ((a) - 1) 4 0)), [], [], [12, 16], [(31, (aC (.p 0 ((a) - 1) 4 0))), (27, (aB false))], [(0, (.arr 127 4 ((m).map rRecord)))]⟩,
      ⟨some 33, (aI x2.shop), [], [], [12, 17], [(32, (aC (.p 0 ((a) - 1) 4 0))), (27, (aB false))], [(0, (.arr 127 4 ((m).map rRecord)))]⟩,
      ⟨some 34, (aC (.p 1 0 0 0)), [], [], [12], [(5, (aC (.p 1 0 0 0))), (27, (aB false))], [(1, (.box 127 [(cI x1.shop), (cI x1.auth), (cI x1.kind), (cI x1.sum)]))]⟩,
      ⟨some 35, (aI x1.shop), [], [], [12, 19], [(34, (aC (.p 1 0 0 0))), (27, (aB false))], [(1, (.box 127 [(cI x1.shop), (cI x1.auth), (cI x1.kind), (cI x1.sum)]))]⟩,
      ⟨some 36, (aB true), [], [], [12, 18, 20], [(33, (aI x2.shop)), (35, (aI x1.shop)), (27, (aB false))], []⟩,
      ⟨some 37, (aB true), [], [], [12, 21], [(36, (aB true)), (27, (aB false))], []⟩,
      ⟨some 38, (aC (.s 0 0 4 m.length)), [], [], [22], [(3, (aC (.s 0 0 4 m.length))), (37, (aB true))], [(0, (.arr 127 4 ((m).map rRecord)))]⟩,
      ⟨some 39, (aI (↑a : Int)), [], [], [22], [(6, (aI (↑a : Int))), (37, (aB true))], []⟩,
      ⟨some 40, (aI ((↑a : Int) - 1)), [], [], [22, 24], [(39, (aI (↑a : Int))), (37, (aB true))], []⟩,
      ⟨some 41, (aC (.p 0 ((a) - 1) 4 0)), [], [], [22, 23, 25], [(38, (aC (.s 0 0 4 m.length))), (40, (aI ((↑a : Int) - 1))), (37, (aB true))], [(0, (.arr 127 4 ((m).map rRecord)))]⟩,
      ⟨some 42, (aC (.p 0 ((a) - 1) 4 1)), [], [], [22, 26], [(41, (aC (.p 0 ((a) - 1) 4 0))), (37, (aB true))], [(0, (.arr 127 4 ((m).map rRecord)))]⟩,
      ⟨some 43, (aI x2.auth), [], [], [22, 27], [(42, (aC (.p 0 ((a) - 1) 4 1))), (37, (aB true))], [(0, (.arr 127 4 ((m).map rRecord)))]⟩,
      ⟨some 44, (aC (.p 1 0 0 1)), [], [], [22], [(5, (aC (.p 1 0 0 0))), (37, (aB true))], [(1, (.box 127 [(cI x1.shop), (cI x1.auth), (cI x1.kind), (cI x1.sum)]))]⟩,
      ⟨some 45, (aI x1.auth), [], [], [22, 29], [(44, (aC (.p 1 0 0 1))), (37, (aB true))], [(1, (.box 127 [(cI x1.shop), (cI x1.auth), (cI x1.kind), (cI x1.sum)]))]⟩,
      ⟨some 46, (aB (decide (x2.auth > x1.auth))), [], [], [22, 28, 30], [(43, (aI x2.auth)), (45, (aI x1.auth)), (37, (aB true))], []⟩,
      ⟨some 47, (aB (decide (x2.auth > x1.auth))), [], [], [12, 22, 31], [(37, (aB true)), (46, (aB (decide (x2.auth > x1.auth)))), (27, (aB false))], []⟩,
      ⟨some 48, (aB (decide (x2.auth > x1.auth))), [], [], [2, 12, 32], [(27, (aB false)), (47, (aB (decide (x2.auth > x1.auth)))), (17, (aB true))], []⟩,
      ⟨some 49, (aB (decide (x2.auth > x1.auth))), [], [], [2, 33], [(17, (aB true)), (48, (aB (decide (x2.auth > x1.auth))))], []⟩] ⟨[(2, (aC cN)), (3, (aC (.s 0 0 4 m.length))), (7, (aC (cR 4 ((l).map rRecord)))), (8, (aI (↑l.length : Int))), (9, (aI (↑q : Int))), (5, (aC (.p 1 0 0 0))), (6, (aI (↑a : Int))), (49, (aB (decide (x2.auth > x1.auth))))], [(1, (.box 127 [(cI x1.shop), (cI x1.auth), (cI x1.kind), (cI x1.sum)])), (0, (.arr 127 4 ((m).map rRecord)))], 2⟩ mixed (by kernel_rfl) ?_ ?_ ?_ ?_
              · exact ⟨.inl ⟨(Wanted.plain rfl), GOp.cast (g_move rfl rfl) rfl⟩,
      .inl ⟨(Wanted.plain rfl), GOp.cast (g_binI rfl rfl rfl (congrArg (fun b => some (Value.bool b)) hb2)) rfl⟩,
      .inl ⟨(Wanted.plain rfl), GOp.cast (g_move rfl rfl) rfl⟩,
      .inl ⟨(Wanted.yes rfl rfl rfl), GOp.cast (g_move rfl rfl) rfl⟩,
      .inl ⟨(Wanted.yes rfl rfl rfl), GOp.cast (g_move rfl rfl) rfl⟩,
      .inl ⟨(Wanted.yes rfl rfl rfl), GOp.cast (g_binI rfl rfl rfl (wrap_ok (by first | omega | (simp; done) | (simp; omega)))) rfl⟩,
      .inl ⟨(Wanted.yes rfl rfl rfl), GOp.cast (g_indexP0 (i := (a) - 1) rfl rfl rfl Try.underlying114 sz127 (by first | omega | (simp; done) | (simp; omega)) (by first | omega | (simp; done) | (simp; omega))) rfl⟩,
      .inl ⟨(Wanted.yes rfl rfl rfl), GOp.cast (g_fieldP rfl rfl Try.underlying127 rfl sz3 (by decide)) rfl⟩,
      .inl ⟨(Wanted.yes rfl rfl rfl), GOp.cast (g_loadA rfl rfl rfl Try.underlying3 rfl (getmap hx2) rfl) rfl⟩,
      .inl ⟨(Wanted.yes rfl rfl rfl), GOp.cast (g_fieldP rfl rfl Try.underlying127 rfl sz3 (by decide)) rfl⟩,
      .inl ⟨(Wanted.yes rfl rfl rfl), GOp.cast (g_loadB rfl rfl rfl Try.underlying3 rfl rfl) rfl⟩,
      .inl ⟨(Wanted.yes rfl rfl rfl), GOp.cast (g_binI rfl rfl rfl (congrArg (fun b => some (Value.bool b)) hb3)) rfl⟩,
      .inl ⟨(Wanted.yes rfl rfl rfl), GOp.cast (g_move rfl rfl) rfl⟩,
      .inl ⟨(Wanted.yes rfl rfl rfl), GOp.cast (g_move rfl rfl) rfl⟩,
      .inl ⟨(Wanted.yes rfl rfl rfl), GOp.cast (g_move rfl rfl) rfl⟩,
      .inl ⟨(Wanted.yes rfl rfl rfl), GOp.cast (g_binI rfl rfl rfl (wrap_ok (by first | omega | (simp; done) | (simp; omega)))) rfl⟩,
      .inl ⟨(Wanted.yes rfl rfl rfl), GOp.cast (g_indexP0 (i := (a) - 1) rfl rfl rfl Try.underlying114 sz127 (by first | omega | (simp; done) | (simp; omega)) (by first | omega | (simp; done) | (simp; omega))) rfl⟩,
      .inl ⟨(Wanted.yes rfl rfl rfl), GOp.cast (g_fieldP rfl rfl Try.underlying127 rfl sz3 (by decide)) rfl⟩,
      .inl ⟨(Wanted.yes rfl rfl rfl), GOp.cast (g_loadA rfl rfl rfl Try.underlying3 rfl (getmap hx2) rfl) rfl⟩,
      .inl ⟨(Wanted.yes rfl rfl rfl), GOp.cast (g_fieldP rfl rfl Try.underlying127 rfl sz3 (by decide)) rfl⟩,
      .inl ⟨(Wanted.yes rfl rfl rfl), GOp.cast (g_loadB rfl rfl rfl Try.underlying3 rfl rfl) rfl⟩,
      .inl ⟨(Wanted.yes rfl rfl rfl), GOp.cast (g_binI rfl rfl rfl (congrArg (fun b => some (Value.bool b)) hb5)) rfl⟩,
      .inl ⟨(Wanted.yes rfl rfl rfl), GOp.cast (g_move rfl rfl) rfl⟩,
      .inl ⟨(Wanted.yes rfl rfl rfl), GOp.cast (g_move rfl rfl) rfl⟩,
      .inl ⟨(Wanted.yes rfl rfl rfl), GOp.cast (g_move rfl rfl) rfl⟩,
      .inl ⟨(Wanted.yes rfl rfl rfl), GOp.cast (g_binI rfl rfl rfl (wrap_ok (by first | omega | (simp; done) | (simp; omega)))) rfl⟩,
      .inl ⟨(Wanted.yes rfl rfl rfl), GOp.cast (g_indexP0 (i := (a) - 1) rfl rfl rfl Try.underlying114 sz127 (by first | omega | (simp; done) | (simp; omega)) (by first | omega | (simp; done) | (simp; omega))) rfl⟩,
      .inl ⟨(Wanted.yes rfl rfl rfl), GOp.cast (g_fieldP rfl rfl Try.underlying127 rfl sz3 (by decide)) rfl⟩,
      .inl ⟨(Wanted.yes rfl rfl rfl), GOp.cast (g_loadA rfl rfl rfl Try.underlying3 rfl (getmap hx2) rfl) rfl⟩,
      .inl ⟨(Wanted.yes rfl rfl rfl), GOp.cast (g_fieldP rfl rfl Try.underlying127 rfl sz3 (by decide)) rfl⟩,
      .inl ⟨(Wanted.yes rfl rfl rfl), GOp.cast (g_loadB rfl rfl rfl Try.underlying3 rfl rfl) rfl⟩,
      .inl ⟨(Wanted.yes rfl rfl rfl), GOp.cast (g_binI rfl rfl rfl rfl) rfl⟩,
      .inl ⟨(Wanted.yes rfl rfl rfl), GOp.cast (g_pick rfl rfl rfl) rfl⟩,
      .inl ⟨(Wanted.yes rfl rfl rfl), GOp.cast (g_pick rfl rfl rfl) rfl⟩,
      .inl ⟨(Wanted.plain rfl), GOp.cast (g_pick rfl rfl rfl) rfl⟩,
       trivial⟩
              · exact ⟨⟨⟨.inl rfl,  trivial⟩, trivial⟩, ⟨⟨.inr ⟨0, .head _, _, rfl, rfl, rfl⟩,  trivial⟩, trivial⟩, ⟨⟨.inr ⟨1, .head _, _, rfl, rfl, rfl⟩,  trivial⟩, trivial⟩, ⟨⟨.inl rfl, .inr ⟨2, .head _, _, rfl, rfl, rfl⟩,  trivial⟩, ⟨.inl rfl,  trivial⟩⟩, ⟨⟨.inl rfl, .inr ⟨2, .head _, _, rfl, rfl, rfl⟩,  trivial⟩, trivial⟩, ⟨⟨.inr ⟨4, .tail _ (.head _), _, rfl, rfl, rfl⟩, .inr ⟨2, .head _, _, rfl, rfl, rfl⟩,  trivial⟩, trivial⟩, ⟨⟨.inr ⟨3, .tail _ (.head _), _, rfl, rfl, rfl⟩, .inr ⟨5, .tail _ (.tail _ (.head _)), _, rfl, rfl, rfl⟩, .inr ⟨2, .head _, _, rfl, rfl, rfl⟩,  trivial⟩, ⟨.inl rfl,  trivial⟩⟩, ⟨⟨.inr ⟨6, .tail _ (.head _), _, rfl, rfl, rfl⟩, .inr ⟨2, .head _, _, rfl, rfl, rfl⟩,  trivial⟩, ⟨.inl rfl,  trivial⟩⟩, ⟨⟨.inr ⟨7, .tail _ (.head _), _, rfl, rfl, rfl⟩, .inr ⟨2, .head _, _, rfl, rfl, rfl⟩,  trivial⟩, ⟨.inl rfl,  trivial⟩⟩, ⟨⟨.inl rfl, .inr ⟨2, .head _, _, rfl, rfl, rfl⟩,  trivial⟩, ⟨.inl rfl,  trivial⟩⟩, ⟨⟨.inr ⟨9, .tail _ (.head _), _, rfl, rfl, rfl⟩, .inr ⟨2, .head _, _, rfl, rfl, rfl⟩,  trivial⟩, ⟨.inl rfl,  trivial⟩⟩, ⟨⟨.inr ⟨8, .tail _ (.head _), _, rfl, rfl, rfl⟩, .inr ⟨10, .tail _ (.tail _ (.head _)), _, rfl, rfl, rfl⟩, .inr ⟨2, .head _, _, rfl, rfl, rfl⟩,  trivial⟩, trivial⟩, ⟨⟨.inr ⟨11, .tail _ (.head _), _, rfl, rfl, rfl⟩, .inr ⟨2, .head _, _, rfl, rfl, rfl⟩,  trivial⟩, trivial⟩, ⟨⟨.inl rfl, .inr ⟨12, .head _, _, rfl, rfl, rfl⟩,  trivial⟩, ⟨.inl rfl,  trivial⟩⟩, ⟨⟨.inl rfl, .inr ⟨12, .head _, _, rfl, rfl, rfl⟩,  trivial⟩, trivial⟩, ⟨⟨.inr ⟨14, .tail _ (.head _), _, rfl, rfl, rfl⟩, .inr ⟨12, .head _, _, rfl, rfl, rfl⟩,  trivial⟩, trivial⟩, ⟨⟨.inr ⟨13, .tail _ (.head _), _, rfl, rfl, rfl⟩, .inr ⟨15, .tail _ (.tail _ (.head _)), _, rfl, rfl, rfl⟩, .inr ⟨12, .head _, _, rfl, rfl, rfl⟩,  trivial⟩, ⟨.inl rfl,  trivial⟩⟩, ⟨⟨.inr ⟨16, .tail _ (.head _), _, rfl, rfl, rfl⟩, .inr ⟨12, .head _, _, rfl, rfl, rfl⟩,  trivial⟩, ⟨.inl rfl,  trivial⟩⟩, ⟨⟨.inr ⟨17, .tail _ (.head _), _, rfl, rfl, rfl⟩, .inr ⟨12, .head _, _, rfl, rfl, rfl⟩,  trivial⟩, ⟨.inl rfl,  trivial⟩⟩, ⟨⟨.inl rfl, .inr ⟨12, .head _, _, rfl, rfl, rfl⟩,  trivial⟩, ⟨.inl rfl,  trivial⟩⟩, ⟨⟨.inr ⟨19, .tail _ (.head _), _, rfl, rfl, rfl⟩, .inr ⟨12, .head _, _, rfl, rfl, rfl⟩,  trivial⟩, ⟨.inl rfl,  trivial⟩⟩, ⟨⟨.inr ⟨18, .tail _ (.head _), _, rfl, rfl, rfl⟩, .inr ⟨20, .tail _ (.tail _ (.head _)), _, rfl, rfl, rfl⟩, .inr ⟨12, .head _, _, rfl, rfl, rfl⟩,  trivial⟩, trivial⟩, ⟨⟨.inr ⟨21, .tail _ (.head _), _, rfl, rfl, rfl⟩, .inr ⟨12, .head _, _, rfl, rfl, rfl⟩,  trivial⟩, trivial⟩, ⟨⟨.inl rfl, .inr ⟨22, .head _, _, rfl, rfl, rfl⟩,  trivial⟩, ⟨.inl rfl,  trivial⟩⟩, ⟨⟨.inl rfl, .inr ⟨22, .head _, _, rfl, rfl, rfl⟩,  trivial⟩, trivial⟩, ⟨⟨.inr ⟨24, .tail _ (.head _), _, rfl, rfl, rfl⟩, .inr ⟨22, .head _, _, rfl, rfl, rfl⟩,  trivial⟩, trivial⟩, ⟨⟨.inr ⟨23, .tail _ (.head _), _, rfl, rfl, rfl⟩, .inr ⟨25, .tail _ (.tail _ (.head _)), _, rfl, rfl, rfl⟩, .inr ⟨22, .head _, _, rfl, rfl, rfl⟩,  trivial⟩, ⟨.inl rfl,  trivial⟩⟩, ⟨⟨.inr ⟨26, .tail _ (.head _), _, rfl, rfl, rfl⟩, .inr ⟨22, .head _, _, rfl, rfl, rfl⟩,  trivial⟩, ⟨.inl rfl,  trivial⟩⟩, ⟨⟨.inr ⟨27, .tail _ (.head _), _, rfl, rfl, rfl⟩, .inr ⟨22, .head _, _, rfl, rfl, rfl⟩,  trivial⟩, ⟨.inl rfl,  trivial⟩⟩, ⟨⟨.inl rfl, .inr ⟨22, .head _, _, rfl, rfl, rfl⟩,  trivial⟩, ⟨.inl rfl,  trivial⟩⟩, ⟨⟨.inr ⟨29, .tail _ (.head _), _, rfl, rfl, rfl⟩, .inr ⟨22, .head _, _, rfl, rfl, rfl⟩,  trivial⟩, ⟨.inl rfl,  trivial⟩⟩, ⟨⟨.inr ⟨28, .tail _ (.head _), _, rfl, rfl, rfl⟩, .inr ⟨30, .tail _ (.tail _ (.head _)), _, rfl, rfl, rfl⟩, .inr ⟨22, .head _, _, rfl, rfl, rfl⟩,  trivial⟩, trivial⟩, ⟨⟨.inr ⟨22, .tail _ (.head _), _, rfl, rfl, rfl⟩, .inr ⟨31, .tail _ (.tail _ (.head _)), _, rfl, rfl, rfl⟩, .inr ⟨12, .head _, _, rfl, rfl, rfl⟩,  trivial⟩, trivial⟩, ⟨⟨.inr ⟨12, .tail _ (.head _), _, rfl, rfl, rfl⟩, .inr ⟨32, .tail _ (.tail _ (.head _)), _, rfl, rfl, rfl⟩, .inr ⟨2, .head _, _, rfl, rfl, rfl⟩,  trivial⟩, trivial⟩, ⟨⟨.inr ⟨2, .head _, _, rfl, rfl, rfl⟩, .inr ⟨33, .tail _ (.head _), _, rfl, rfl, rfl⟩,  trivial⟩, trivial⟩,  trivial⟩
              · exact ⟨⟨.inl rfl, .inl rfl, .inl rfl, .inl rfl, .inl rfl, .inl rfl, .inl rfl, .inr ⟨34, _, rfl, rfl, rfl⟩,  trivial⟩, ⟨.inl rfl, .inl rfl,  trivial⟩⟩
              ·
                refine AL.nil ?_
                refine then_ok ?_
                refine AC.cond rfl (fun hc6 => ?_) (fun hc6 => ?_)
                ·
                  have hc6' := hc6; try simp only [sumB, Bool.not_eq_true', Bool.not_eq_false', Bool.or_eq_true, Bool.or_eq_false_iff, Bool.and_eq_true, Bool.and_eq_false_imp, decide_eq_true_eq, decide_eq_false_iff_not, Bool.not_not, Bool.not_true, Bool.not_false] at hc6'
                  refine AC.skip ?_
                  refine then_ok ?_
                  refine AC.block ?_
                  refine AC.region ?_
                  refine AL.fast 1 rfl ?_
                  refine AL.val (Wanted.plain rfl) (g_binI rfl rfl rfl (wrap_ok (by first | omega | (simp; done) | (simp; omega)))) rfl rfl ?_
                  refine AL.fast 1 rfl ?_
                  refine AL.nil ?_
                  refine block_ok ?_
                  refine then_ok ?_
                  refine ⟨a - 1, ⟨by omega, fun i y h0 hy => by
                      by_cases hia : i = a - 1
                      · subst hia; rw [hx2] at hy; injection hy with hy; subst hy; rw [ltR_t]; omega
                      · exact hi1_1 i y (by omega) hy⟩, by first | omega | (simp; done) | (simp; omega), Weak.ren id (by refine ⟨?_, ?_, ?_, ?_, ?_, ?_, ?_,  trivial⟩ <;> first | rfl | (simp only [AV.map, GV.map, CV.map, AB.map', id]; done) | (congr 3; omega) | (congr 4; omega) | (simp only [List.length_append, List.length_cons, List.length_nil, List.length_set]; rfl) | (exact look_i rfl (by omega))) (by refine ⟨?_, ?_,  trivial⟩ <;> first | rfl | (simp only [AV.map, GV.map, CV.map, AB.map', id]; done) | (congr 3; omega) | (congr 4; omega) | (simp only [List.length_append, List.length_cons, List.length_nil, List.length_set]; rfl)) rfl⟩
                ·
                  have hc6' := hc6; try simp only [sumB, Bool.not_eq_true', Bool.not_eq_false', Bool.or_eq_true, Bool.or_eq_false_iff, Bool.and_eq_true, Bool.and_eq_false_imp, decide_eq_true_eq, decide_eq_false_iff_not, Bool.not_not, Bool.not_true, Bool.not_false] at hc6'
                  refine AC.exit ?_
                  refine then_exit ?_
                  refine then_exit ?_
                  refine block_hit ?_
                  refine then_ok ?_
                  rcases (show a = m.length ∨ a < m.length from by omega) with hs7 | hs7
                  ·
                    refine AC.weak (st' := ⟨[(2, (aC cN)), (3, (aC (.s 0 0 4 m.length))), (7, (aC (cR 4 ((l).map rRecord)))), (8, (aI (↑l.length : Int))), (9, (aI (↑q : Int))), (5, (aC (.p 1 0 0 0))), (6, (aI (↑a : Int)))], [(1, (.box 127 [(cI x1.shop), (cI x1.auth), (cI x1.kind), (cI x1.sum)])), (0, (.arr 127 4 ((m).map rRecord)))], 2⟩) (Weak.ren id (by refine ⟨?_, ?_, ?_, ?_, ?_, ?_, ?_,  trivial⟩ <;> first | rfl | (simp only [AV.map, GV.map, CV.map, AB.map', id]; done) | (congr 3; omega) | (congr 4; omega) | (simp only [List.length_append, List.length_cons, List.length_nil, List.length_set]; rfl)) (by refine ⟨?_, ?_,  trivial⟩ <;> first | rfl | (simp only [AV.map, GV.map, CV.map, AB.map', id]; done) | (congr 3; omega) | (congr 4; omega) | (simp only [List.length_append, List.length_cons, List.length_nil, List.length_set]; rfl)) rfl) ?_
                    refine AC.draw [⟨some 52, (aC (.s 2 0 4 0)), [(2, (.arr 127 4 ((([] : List Record)).map rRecord)))], [], [], [], []⟩,
      ⟨some 53, (aC (.s 0 0 4 m.length)), [], [], [], [(3, (aC (.s 0 0 4 m.length)))], [(0, (.arr 127 4 ((m).map rRecord)))]⟩,
      ⟨some 54, (aI (↑a : Int)), [], [], [], [(6, (aI (↑a : Int)))], []⟩,
      ⟨some 55, (aC (.s 0 0 4 a)), [], [], [1, 2], [(53, (aC (.s 0 0 4 m.length))), (54, (aI (↑a : Int)))], [(0, (.arr 127 4 ((m).map rRecord)))]⟩,
      ⟨some 56, (aC (.s 3 0 4 a)), [(3, (.arr 127 4 ((((m).drop 0).take a).map rRecord)))], [2], [0, 3], [(52, (aC (.s 2 0 4 0))), (55, (aC (.s 0 0 4 a)))], [(0, (.arr 127 4 ((m).map rRecord))), (2, (.arr 127 4 ((([] : List Record)).map rRecord)))]⟩,
      ⟨some 57, (aG [(cI x1.shop), (cI x1.auth), (cI x1.kind), (cI x1.sum)]), [], [], [], [(5, (aC (.p 1 0 0 0)))], [(1, (.box 127 [(cI x1.shop), (cI x1.auth), (cI x1.kind), (cI x1.sum)]))]⟩,
      ⟨some 58, (aC (.s 4 0 4 1)), [(4, (.arr 127 4 (([x1]).map rRecord)))], [], [5], [(57, (aG [(cI x1.shop), (cI x1.auth), (cI x1.kind), (cI x1.sum)]))], []⟩,
      ⟨some 59, (aC (.s 5 0 4 (a + 1))), [(5, (.arr 127 4 (((((m).drop 0).take a) ++ ([x1])).map rRecord)))], [3], [4, 6], [(56, (aC (.s 3 0 4 a))), (58, (aC (.s 4 0 4 1)))], [(4, (.arr 127 4 (([x1]).map rRecord))), (3, (.arr 127 4 ((((m).drop 0).take a).map rRecord)))]⟩,
      ⟨some 60, (aC (.s 0 0 4 m.length)), [], [], [], [(3, (aC (.s 0 0 4 m.length)))], [(0, (.arr 127 4 ((m).map rRecord)))]⟩,
      ⟨some 61, (aI (↑a : Int)), [], [], [], [(6, (aI (↑a : Int)))], []⟩,
      ⟨some 62, (aC (cR 4 ((([] : List Record)).map rRecord))), [], [], [8, 9], [(60, (aC (.s 0 0 4 m.length))), (61, (aI (↑a : Int)))], [(0, (.arr 127 4 ((m).map rRecord)))]⟩,
      ⟨some 63, (aC (.s 6 0 4 ((a + 1) + ((([] : List Record)).length)))), [(6, (.arr 127 4 ((((((m).drop 0).take a) ++ ([x1])) ++ ([] : List Record)).map rRecord)))], [5], [7, 10], [(59, (aC (.s 5 0 4 (a + 1)))), (62, (aC (cR 4 ((([] : List Record)).map rRecord))))], [(5, (.arr 127 4 (((((m).drop 0).take a) ++ ([x1])).map rRecord)))]⟩] ⟨[(2, (aC cN)), (3, (aC (.s 0 0 4 m.length))), (7, (aC (cR 4 ((l).map rRecord)))), (8, (aI (↑l.length : Int))), (9, (aI (↑q : Int))), (5, (aC (.p 1 0 0 0))), (6, (aI (↑a : Int))), (63, (aC (.s 6 0 4 ((a + 1) + ((([] : List Record)).length)))))], [(6, (.arr 127 4 ((((((m).drop 0).take a) ++ ([x1])) ++ ([] : List Record)).map rRecord))), (1, (.box 127 [(cI x1.shop), (cI x1.auth), (cI x1.kind), (cI x1.sum)])), (0, (.arr 127 4 ((m).map rRecord)))], 7⟩ mixed (by kernel_rfl) ?_ ?_ ?_ ?_
                    · exact ⟨.inl ⟨(Wanted.plain rfl), GOp.cast (g_lit (ys := []) (rows := (([] : List Record)).map rRecord) 2 sl114 rfl (by decide) trivial rfl rfl rfl rfl) rfl⟩,
      .inl ⟨(Wanted.plain rfl), GOp.cast (g_move rfl rfl) rfl⟩,
      .inl ⟨(Wanted.plain rfl), GOp.cast (g_move rfl rfl) rfl⟩,
      .inl ⟨(Wanted.plain rfl), GOp.cast (g_sliceP (l := 0) (h := a) rfl Try.underlying114 sz127 rfl (.inl ⟨rfl, rfl⟩) (.inr ⟨_, rfl, rfl⟩) (by first | omega | (simp; done) | (simp; omega)) (by first | omega | (simp; done) | (simp; omega)) (by first | omega | (simp; done) | (simp; omega)) rfl) rfl⟩,
      .inl ⟨(Wanted.plain rfl), GOp.cast (g_append (m := a) (N := a) (k2 := 3) (ys := (((m).drop 0).take a).map rRecord) sl114 rfl rfl rfl rfl rfl rfl (by first | omega | (simp; done) | (simp; omega)) rfl (.sub rfl (by first | omega | (simp; done) | (simp; omega)) (by simp)) (by first | omega | (simp; done) | (simp; omega)) (by first | omega | (simp; done) | (simp; omega)) rfl (by decide) (by first | omega | (simp; done) | (simp; omega)) (by first | omega | (simp; done) | (simp; omega))) rfl⟩,
      .inl ⟨(Wanted.plain rfl), GOp.cast (g_loadBs rfl rfl rfl Try.underlying127 rfl sz127 rfl rfl) rfl⟩,
      .inl ⟨(Wanted.plain rfl), GOp.cast (g_lit (ys := [(0, (.g [(cI x1.shop), (cI x1.auth), (cI x1.kind), (cI x1.sum)]))]) (rows := ([x1]).map rRecord) 4 sl114 rfl (by decide) ⟨⟨rfl, rfl⟩,  trivial⟩ rfl rfl rfl rfl) rfl⟩,
      .inl ⟨(Wanted.plain rfl), GOp.cast (g_append (m := 1) (N := a + 1) (k2 := 5) (ys := ([x1]).map rRecord) sl114 rfl rfl rfl rfl rfl rfl (by first | omega | (simp; done) | (simp; omega)) rfl (.s rfl (by first | omega | (simp; done) | (simp; omega))) (by first | omega | (simp; done) | (simp; omega)) (by first | omega | (simp; done) | (simp; omega)) appmap (by decide) (by first | omega | (simp; done) | (simp; omega)) (by first | omega | (simp; done) | (simp; omega))) rfl⟩,
      .inl ⟨(Wanted.plain rfl), GOp.cast (g_move rfl rfl) rfl⟩,
      .inl ⟨(Wanted.plain rfl), GOp.cast (g_move rfl rfl) rfl⟩,
      .inl ⟨(Wanted.plain rfl), GOp.cast (g_sliceE rfl Try.underlying114 sz127 rfl (evI rfl (by first | omega | (simp; done) | (simp; omega)))) rfl⟩,
      .inl ⟨(Wanted.plain rfl), GOp.cast (g_append (m := (([] : List Record)).length) (N := (a + 1) + ((([] : List Record)).length)) (k2 := 6) (ys := (([] : List Record)).map rRecord) sl114 rfl rfl rfl rfl rfl rfl (by first | omega | (simp; done) | (simp; omega)) rfl (.d _ _) (by first | omega | (simp; done) | (simp; omega)) (by first | omega | (simp; done) | (simp; omega)) appmap (by decide) (by first | omega | (simp; done) | (simp; omega)) (by first | omega | (simp; done) | (simp; omega))) rfl⟩,
       trivial⟩
                    · exact ⟨⟨trivial, trivial⟩, ⟨⟨.inl rfl,  trivial⟩, ⟨.inl rfl,  trivial⟩⟩, ⟨⟨.inl rfl,  trivial⟩, trivial⟩, ⟨⟨.inr ⟨1, .head _, _, rfl, rfl, rfl⟩, .inr ⟨2, .tail _ (.head _), _, rfl, rfl, rfl⟩,  trivial⟩, ⟨.inl rfl,  trivial⟩⟩, ⟨⟨.inr ⟨0, .head _, _, rfl, rfl, rfl⟩, .inr ⟨3, .tail _ (.head _), _, rfl, rfl, rfl⟩,  trivial⟩, ⟨.inl rfl, .inr ⟨0, .head _, _, rfl, .head _⟩,  trivial⟩⟩, ⟨⟨.inl rfl,  trivial⟩, ⟨.inl rfl,  trivial⟩⟩, ⟨⟨.inr ⟨5, .head _, _, rfl, rfl, rfl⟩,  trivial⟩, trivial⟩, ⟨⟨.inr ⟨4, .head _, _, rfl, rfl, rfl⟩, .inr ⟨6, .tail _ (.head _), _, rfl, rfl, rfl⟩,  trivial⟩, ⟨.inr ⟨6, .tail _ (.head _), _, rfl, .head _⟩, .inr ⟨4, .head _, _, rfl, .head _⟩,  trivial⟩⟩, ⟨⟨.inl rfl,  trivial⟩, ⟨.inl rfl,  trivial⟩⟩, ⟨⟨.inl rfl,  trivial⟩, trivial⟩, ⟨⟨.inr ⟨8, .head _, _, rfl, rfl, rfl⟩, .inr ⟨9, .tail _ (.head _), _, rfl, rfl, rfl⟩,  trivial⟩, ⟨.inl rfl,  trivial⟩⟩, ⟨⟨.inr ⟨7, .head _, _, rfl, rfl, rfl⟩, .inr ⟨10, .tail _ (.head _), _, rfl, rfl, rfl⟩,  trivial⟩, ⟨.inr ⟨7, .head _, _, rfl, .head _⟩,  trivial⟩⟩,  trivial⟩
                    · exact ⟨⟨.inl rfl, .inl rfl, .inl rfl, .inl rfl, .inl rfl, .inl rfl, .inl rfl, .inr ⟨11, _, rfl, rfl, rfl⟩,  trivial⟩, ⟨.inr ⟨11, _, rfl, .head _⟩, .inl rfl, .inl rfl,  trivial⟩⟩
                    ·
                      refine AL.fast 1 rfl ?_
                      refine AL.nil ?_
                      refine block_ok ?_
                      refine then_ok ?_
                      refine AC.region ?_
                      refine AL.val (Wanted.plain rfl) (g_binI rfl rfl rfl (wrap_ok (by first | omega | (simp; done) | (simp; omega)))) rfl rfl ?_
                      refine AL.fast 1 rfl ?_
                      refine AL.nil ?_
                      refine then_ok ?_
                      have hsm : Srt m := by rw [hi0_1]; exact insP_srt _
                      refine ⟨(q + 1, ((((m).drop 0).take a) ++ ([x1])) ++ ([] : List Record)), ⟨by omega, by rw [insP_take hx1, ← hi0_1, insR_at (a := a) (by omega) hsm hi1_1 (fun y h0 hy => by first | omega | (rw [hx2] at hy; injection hy with hy; subst hy; unfold leR; omega))]; first | (subst hs1; simp; done) | (rw [List.drop_zero, Nat.zero_add, List.take_of_length_le (l := m.drop a) (by rw [List.length_drop]; omega)]; done) | (simp; omega) | (simp_all; done), by simp only [List.length_append, List.length_take, List.length_drop, List.length_cons, List.length_nil]; omega⟩, by first | omega | (simp; done) | (simp; omega), Weak.ren (fun k => if k = 0 then 6 else k) (by refine ⟨?_, ?_, ?_, ?_, ?_,  trivial⟩ <;> first | rfl | (simp only [AV.map, GV.map, CV.map, AB.map', id]; done) | (congr 3; omega) | (congr 4; omega) | (simp only [List.length_append, List.length_cons, List.length_nil, List.length_set]; rfl) | (first | exact look_i rfl (by omega) | exact look_s rfl (by simp only [List.length_append, List.length_take, List.length_drop, List.length_cons, List.length_nil]; omega))) (⟨by first | rfl | (simp only [AV.map, GV.map, CV.map, AB.map', id]; done) | (congr 3; omega) | (congr 4; omega) | (simp only [List.length_append, List.length_cons, List.length_nil, List.length_set]; rfl), trivial⟩) rfl⟩
                  ·
                    refine AC.weak (st' := ⟨[(2, (aC cN)), (3, (aC (.s 0 0 4 m.length))), (7, (aC (cR 4 ((l).map rRecord)))), (8, (aI (↑l.length : Int))), (9, (aI (↑q : Int))), (5, (aC (.p 1 0 0 0))), (6, (aI (↑a : Int)))], [(1, (.box 127 [(cI x1.shop), (cI x1.auth), (cI x1.kind), (cI x1.sum)])), (0, (.arr 127 4 ((m).map rRecord)))], 2⟩) (Weak.ren id (by refine ⟨?_, ?_, ?_, ?_, ?_, ?_, ?_,  trivial⟩ <;> first | rfl | (simp only [AV.map, GV.map, CV.map, AB.map', id]; done) | (congr 3; omega) | (congr 4; omega) | (simp only [List.length_append, List.length_cons, List.length_nil, List.length_set]; rfl)) (by refine ⟨?_, ?_,  trivial⟩ <;> first | rfl | (simp only [AV.map, GV.map, CV.map, AB.map', id]; done) | (congr 3; omega) | (congr 4; omega) | (simp only [List.length_append, List.length_cons, List.length_nil, List.length_set]; rfl)) rfl) ?_
                    refine AC.draw [⟨some 52, (aC (.s 2 0 4 0)), [(2, (.arr 127 4 ((([] : List Record)).map rRecord)))], [], [], [], []⟩,
      ⟨some 53, (aC (.s 0 0 4 m.length)), [], [], [], [(3, (aC (.s 0 0 4 m.length)))], [(0, (.arr 127 4 ((m).map rRecord)))]⟩,
      ⟨some 54, (aI (↑a : Int)), [], [], [], [(6, (aI (↑a : Int)))], []⟩,
      ⟨some 55, (aC (.s 0 0 4 a)), [], [], [1, 2], [(53, (aC (.s 0 0 4 m.length))), (54, (aI (↑a : Int)))], [(0, (.arr 127 4 ((m).map rRecord)))]⟩,
      ⟨some 56, (aC (.s 3 0 4 a)), [(3, (.arr 127 4 ((((m).drop 0).take a).map rRecord)))], [2], [0, 3], [(52, (aC (.s 2 0 4 0))), (55, (aC (.s 0 0 4 a)))], [(0, (.arr 127 4 ((m).map rRecord))), (2, (.arr 127 4 ((([] : List Record)).map rRecord)))]⟩,
      ⟨some 57, (aG [(cI x1.shop), (cI x1.auth), (cI x1.kind), (cI x1.sum)]), [], [], [], [(5, (aC (.p 1 0 0 0)))], [(1, (.box 127 [(cI x1.shop), (cI x1.auth), (cI x1.kind), (cI x1.sum)]))]⟩,
      ⟨some 58, (aC (.s 4 0 4 1)), [(4, (.arr 127 4 (([x1]).map rRecord)))], [], [5], [(57, (aG [(cI x1.shop), (cI x1.auth), (cI x1.kind), (cI x1.sum)]))], []⟩,
      ⟨some 59, (aC (.s 5 0 4 (a + 1))), [(5, (.arr 127 4 (((((m).drop 0).take a) ++ ([x1])).map rRecord)))], [3], [4, 6], [(56, (aC (.s 3 0 4 a))), (58, (aC (.s 4 0 4 1)))], [(4, (.arr 127 4 (([x1]).map rRecord))), (3, (.arr 127 4 ((((m).drop 0).take a).map rRecord)))]⟩,
      ⟨some 60, (aC (.s 0 0 4 m.length)), [], [], [], [(3, (aC (.s 0 0 4 m.length)))], [(0, (.arr 127 4 ((m).map rRecord)))]⟩,
      ⟨some 61, (aI (↑a : Int)), [], [], [], [(6, (aI (↑a : Int)))], []⟩,
      ⟨some 62, (aC (.s 0 (0 + a) 4 (m.length - a))), [], [], [8, 9], [(60, (aC (.s 0 0 4 m.length))), (61, (aI (↑a : Int)))], [(0, (.arr 127 4 ((m).map rRecord)))]⟩,
      ⟨some 63, (aC (.s 6 0 4 ((a + 1) + (m.length - a)))), [(6, (.arr 127 4 ((((((m).drop 0).take a) ++ ([x1])) ++ (((m).drop (0 + a)).take (m.length - a))).map rRecord)))], [5], [7, 10], [(59, (aC (.s 5 0 4 (a + 1)))), (62, (aC (.s 0 (0 + a) 4 (m.length - a))))], [(0, (.arr 127 4 ((m).map rRecord))), (5, (.arr 127 4 (((((m).drop 0).take a) ++ ([x1])).map rRecord)))]⟩] ⟨[(2, (aC cN)), (3, (aC (.s 0 0 4 m.length))), (7, (aC (cR 4 ((l).map rRecord)))), (8, (aI (↑l.length : Int))), (9, (aI (↑q : Int))), (5, (aC (.p 1 0 0 0))), (6, (aI (↑a : Int))), (63, (aC (.s 6 0 4 ((a + 1) + (m.length - a)))))], [(6, (.arr 127 4 ((((((m).drop 0).take a) ++ ([x1])) ++ (((m).drop (0 + a)).take (m.length - a))).map rRecord))), (1, (.box 127 [(cI x1.shop), (cI x1.auth), (cI x1.kind), (cI x1.sum)])), (0, (.arr 127 4 ((m).map rRecord)))], 7⟩ mixed (by kernel_rfl) ?_ ?_ ?_ ?_
                    · exact ⟨.inl ⟨(Wanted.plain rfl), GOp.cast (g_lit (ys := []) (rows := (([] : List Record)).map rRecord) 2 sl114 rfl (by decide) trivial rfl rfl rfl rfl) rfl⟩,
      .inl ⟨(Wanted.plain rfl), GOp.cast (g_move rfl rfl) rfl⟩,
      .inl ⟨(Wanted.plain rfl), GOp.cast (g_move rfl rfl) rfl⟩,
      .inl ⟨(Wanted.plain rfl), GOp.cast (g_sliceP (l := 0) (h := a) rfl Try.underlying114 sz127 rfl (.inl ⟨rfl, rfl⟩) (.inr ⟨_, rfl, rfl⟩) (by first | omega | (simp; done) | (simp; omega)) (by first | omega | (simp; done) | (simp; omega)) (by first | omega | (simp; done) | (simp; omega)) rfl) rfl⟩,
      .inl ⟨(Wanted.plain rfl), GOp.cast (g_append (m := a) (N := a) (k2 := 3) (ys := (((m).drop 0).take a).map rRecord) sl114 rfl rfl rfl rfl rfl rfl (by first | omega | (simp; done) | (simp; omega)) rfl (.sub rfl (by first | omega | (simp; done) | (simp; omega)) (by simp)) (by first | omega | (simp; done) | (simp; omega)) (by first | omega | (simp; done) | (simp; omega)) rfl (by decide) (by first | omega | (simp; done) | (simp; omega)) (by first | omega | (simp; done) | (simp; omega))) rfl⟩,
      .inl ⟨(Wanted.plain rfl), GOp.cast (g_loadBs rfl rfl rfl Try.underlying127 rfl sz127 rfl rfl) rfl⟩,
      .inl ⟨(Wanted.plain rfl), GOp.cast (g_lit (ys := [(0, (.g [(cI x1.shop), (cI x1.auth), (cI x1.kind), (cI x1.sum)]))]) (rows := ([x1]).map rRecord) 4 sl114 rfl (by decide) ⟨⟨rfl, rfl⟩,  trivial⟩ rfl rfl rfl rfl) rfl⟩,
      .inl ⟨(Wanted.plain rfl), GOp.cast (g_append (m := 1) (N := a + 1) (k2 := 5) (ys := ([x1]).map rRecord) sl114 rfl rfl rfl rfl rfl rfl (by first | omega | (simp; done) | (simp; omega)) rfl (.s rfl (by first | omega | (simp; done) | (simp; omega))) (by first | omega | (simp; done) | (simp; omega)) (by first | omega | (simp; done) | (simp; omega)) appmap (by decide) (by first | omega | (simp; done) | (simp; omega)) (by first | omega | (simp; done) | (simp; omega))) rfl⟩,
      .inl ⟨(Wanted.plain rfl), GOp.cast (g_move rfl rfl) rfl⟩,
      .inl ⟨(Wanted.plain rfl), GOp.cast (g_move rfl rfl) rfl⟩,
      .inl ⟨(Wanted.plain rfl), GOp.cast (g_sliceP (l := a) (h := m.length) rfl Try.underlying114 sz127 rfl (.inr ⟨_, rfl, rfl⟩) (.inl ⟨rfl, rfl⟩) (by first | omega | (simp; done) | (simp; omega)) (by first | omega | (simp; done) | (simp; omega)) (by first | omega | (simp; done) | (simp; omega)) rfl) rfl⟩,
      .inl ⟨(Wanted.plain rfl), GOp.cast (g_append (m := m.length - a) (N := (a + 1) + (m.length - a)) (k2 := 6) (ys := (((m).drop (0 + a)).take (m.length - a)).map rRecord) sl114 rfl rfl rfl rfl rfl rfl (by first | omega | (simp; done) | (simp; omega)) rfl (.sub rfl (by first | omega | (simp; done) | (simp; omega)) (by simp)) (by first | omega | (simp; done) | (simp; omega)) (by first | omega | (simp; done) | (simp; omega)) appmap (by decide) (by first | omega | (simp; done) | (simp; omega)) (by first | omega | (simp; done) | (simp; omega))) rfl⟩,
       trivial⟩
                    · exact ⟨⟨trivial, trivial⟩, ⟨⟨.inl rfl,  trivial⟩, ⟨.inl rfl,  trivial⟩⟩, ⟨⟨.inl rfl,  trivial⟩, trivial⟩, ⟨⟨.inr ⟨1, .head _, _, rfl, rfl, rfl⟩, .inr ⟨2, .tail _ (.head _), _, rfl, rfl, rfl⟩,  trivial⟩, ⟨.inl rfl,  trivial⟩⟩, ⟨⟨.inr ⟨0, .head _, _, rfl, rfl, rfl⟩, .inr ⟨3, .tail _ (.head _), _, rfl, rfl, rfl⟩,  trivial⟩, ⟨.inl rfl, .inr ⟨0, .head _, _, rfl, .head _⟩,  trivial⟩⟩, ⟨⟨.inl rfl,  trivial⟩, ⟨.inl rfl,  trivial⟩⟩, ⟨⟨.inr ⟨5, .head _, _, rfl, rfl, rfl⟩,  trivial⟩, trivial⟩, ⟨⟨.inr ⟨4, .head _, _, rfl, rfl, rfl⟩, .inr ⟨6, .tail _ (.head _), _, rfl, rfl, rfl⟩,  trivial⟩, ⟨.inr ⟨6, .tail _ (.head _), _, rfl, .head _⟩, .inr ⟨4, .head _, _, rfl, .head _⟩,  trivial⟩⟩, ⟨⟨.inl rfl,  trivial⟩, ⟨.inl rfl,  trivial⟩⟩, ⟨⟨.inl rfl,  trivial⟩, trivial⟩, ⟨⟨.inr ⟨8, .head _, _, rfl, rfl, rfl⟩, .inr ⟨9, .tail _ (.head _), _, rfl, rfl, rfl⟩,  trivial⟩, ⟨.inl rfl,  trivial⟩⟩, ⟨⟨.inr ⟨7, .head _, _, rfl, rfl, rfl⟩, .inr ⟨10, .tail _ (.head _), _, rfl, rfl, rfl⟩,  trivial⟩, ⟨.inl rfl, .inr ⟨7, .head _, _, rfl, .head _⟩,  trivial⟩⟩,  trivial⟩
                    · exact ⟨⟨.inl rfl, .inl rfl, .inl rfl, .inl rfl, .inl rfl, .inl rfl, .inl rfl, .inr ⟨11, _, rfl, rfl, rfl⟩,  trivial⟩, ⟨.inr ⟨11, _, rfl, .head _⟩, .inl rfl, .inl rfl,  trivial⟩⟩
                    ·
                      refine AL.fast 1 rfl ?_
                      refine AL.nil ?_
                      refine block_ok ?_
                      refine then_ok ?_
                      refine AC.region ?_
                      refine AL.val (Wanted.plain rfl) (g_binI rfl rfl rfl (wrap_ok (by first | omega | (simp; done) | (simp; omega)))) rfl rfl ?_
                      refine AL.fast 1 rfl ?_
                      refine AL.nil ?_
                      refine then_ok ?_
                      have hsm : Srt m := by rw [hi0_1]; exact insP_srt _
                      refine ⟨(q + 1, ((((m).drop 0).take a) ++ ([x1])) ++ (((m).drop (0 + a)).take (m.length - a))), ⟨by omega, by rw [insP_take hx1, ← hi0_1, insR_at (a := a) (by omega) hsm hi1_1 (fun y h0 hy => by first | omega | (rw [hx2] at hy; injection hy with hy; subst hy; unfold leR; omega))]; first | (subst hs1; simp; done) | (rw [List.drop_zero, Nat.zero_add, List.take_of_length_le (l := m.drop a) (by rw [List.length_drop]; omega)]; done) | (simp; omega) | (simp_all; done), by simp only [List.length_append, List.length_take, List.length_drop, List.length_cons, List.length_nil]; omega⟩, by first | omega | (simp; done) | (simp; omega), Weak.ren (fun k => if k = 0 then 6 else k) (by refine ⟨?_, ?_, ?_, ?_, ?_,  trivial⟩ <;> first | rfl | (simp only [AV.map, GV.map, CV.map, AB.map', id]; done) | (congr 3; omega) | (congr 4; omega) | (simp only [List.length_append, List.length_cons, List.length_nil, List.length_set]; rfl) | (first | exact look_i rfl (by omega) | exact look_s rfl (by simp only [List.length_append, List.length_take, List.length_drop, List.length_cons, List.length_nil]; omega))) (⟨by first | rfl | (simp only [AV.map, GV.map, CV.map, AB.map', id]; done) | (congr 3; omega) | (congr 4; omega) | (simp only [List.length_append, List.length_cons, List.length_nil, List.length_set]; rfl), trivial⟩) rfl⟩
            ·
              have hb5' := hb5; try simp only [sumB, Bool.not_eq_true', Bool.not_eq_false', Bool.or_eq_true, Bool.or_eq_false_iff, Bool.and_eq_true, Bool.and_eq_false_imp, decide_eq_true_eq, decide_eq_false_iff_not, Bool.not_not, Bool.not_true, Bool.not_false] at hb5'
              refine AC.weak (st' := ⟨[(2, (aC cN)), (3, (aC (.s 0 0 4 m.length))), (7, (aC (cR 4 ((l).map rRecord)))), (8, (aI (↑l.length : Int))), (9, (aI (↑q : Int))), (5, (aC (.p 1 0 0 0))), (6, (aI (↑a : Int)))], [(1, (.box 127 [(cI x1.shop), (cI x1.auth), (cI x1.kind), (cI x1.sum)])), (0, (.arr 127 4 ((m).map rRecord)))], 2⟩) (Weak.ren id (by refine ⟨?_, ?_, ?_, ?_, ?_, ?_, ?_,  trivial⟩ <;> first | rfl | (simp only [AV.map, GV.map, CV.map, AB.map', id]; done) | (congr 3; omega) | (congr 4; omega) | (simp only [List.length_append, List.length_cons, List.length_nil, List.length_set]; rfl)) (by refine ⟨?_, ?_,  trivial⟩ <;> first | rfl | (simp only [AV.map, GV.map, CV.map, AB.map', id]; done) | (congr 3; omega) | (congr 4; omega) | (simp only [List.length_append, List.length_cons, List.length_nil, List.length_set]; rfl)) rfl) ?_
              refine AC.draw [⟨some 15, (aI (↑a : Int)), [], [], [], [(6, (aI (↑a : Int)))], []⟩,
      ⟨some 16, (aB true), [], [], [0], [(15, (aI (↑a : Int)))], []⟩,
      ⟨some 17, (aB true), [], [], [1], [(16, (aB true))], []⟩,
      ⟨some 18, (aC (.s 0 0 4 m.length)), [], [], [2], [(3, (aC (.s 0 0 4 m.length))), (17, (aB true))], [(0, (.arr 127 4 ((m).map rRecord)))]⟩,
      ⟨some 19, (aI (↑a : Int)), [], [], [2], [(6, (aI (↑a : Int))), (17, (aB true))], []⟩,
      ⟨some 20, (aI ((↑a : Int) - 1)), [], [], [2, 4], [(19, (aI (↑a : Int))), (17, (aB true))], []⟩,
      ⟨some 21, (aC (.p 0 ((a) - 1) 4 0)), [], [], [2, 3, 5], [(18, (aC (.s 0 0 4 m.length))), (20, (aI ((↑a : Int) - 1))), (17, (aB true))], [(0, (.arr 127 4 ((m).map rRecord)))]⟩,
      ⟨some 22, (aC (.p 0 ((a) - 1) 4 0)), [], [], [2, 6], [(21, (aC (.p 0 ((a) - 1) 4 0))), (17, (aB true))], [(0, (.arr 127 4 ((m).map rRecord)))]⟩,
      ⟨some 23, (aI x2.shop), [], [], [2, 7], [(22, (aC (.p 0 ((a) - 1) 4 0))), (17, (aB true))], [(0, (.arr 127 4 ((m).map rRecord)))]⟩,
      ⟨some 24, (aC (.p 1 0 0 0)), [], [], [2], [(5, (aC (.p 1 0 0 0))), (17, (aB true))], [(1, (.box 127 [(cI x1.shop), (cI x1.auth), (cI x1.kind), (cI x1.sum)]))]⟩,
      ⟨some 25, (aI x1.shop), [], [], [2, 9], [(24, (aC (.p 1 0 0 0))), (17, (aB true))], [(1, (.box 127 [(cI x1.shop), (cI x1.auth), (cI x1.kind), (cI x1.sum)]))]⟩,
      ⟨some 26, (aB false), [], [], [2, 8, 10], [(23, (aI x2.shop)), (25, (aI x1.shop)), (17, (aB true))], []⟩,
      ⟨some 27, (aB false), [], [], [2, 11], [(26, (aB false)), (17, (aB true))], []⟩,
      ⟨some 28, (aC (.s 0 0 4 m.length)), [], [], [12], [(3, (aC (.s 0 0 4 m.length))), (27, (aB false))], [(0, (.arr 127 4 ((m).map rRecord)))]⟩,
      ⟨some 29, (aI (↑a : Int)), [], [], [12], [(6, (aI (↑a : Int))), (27, (aB false))], []⟩,
      ⟨some 30, (aI ((↑a : Int) - 1)), [], [], [12, 14], [(29, (aI (↑a : Int))), (27, (aB false))], []⟩,
      ⟨some 31, (aC (.p 0 ((a) - 1) 4 0)), [], [], [12, 13, 15], [(28, (aC (.s 0 0 4 m.length))), (30, (aI ((↑a : Int) - 1))), (27, (aB false))], [(0, (.arr 127 4 ((m).map rRecord)))]⟩,
      ⟨some 32, (aC (.p 0 ((a) - 1) 4 0)), [], [], [12, 16], [(31, (aC (.p 0 ((a) - 1) 4 0))), (27, (aB false))], [(0, (.arr 127 4 ((m).map rRecord)))]⟩,
      ⟨some 33, (aI x2.shop), [], [], [12, 17], [(32, (aC (.p 0 ((a) - 1) 4 0))), (27, (aB false))], [(0, (.arr 127 4 ((m).map rRecord)))]⟩,
      ⟨some 34, (aC (.p 1 0 0 0)), [], [], [12], [(5, (aC (.p 1 0 0 0))), (27, (aB false))], [(1, (.box 127 [(cI x1.shop), (cI x1.auth), (cI x1.kind), (cI x1.sum)]))]⟩,
      ⟨some 35, (aI x1.shop), [], [], [12, 19], [(34, (aC (.p 1 0 0 0))), (27, (aB false))], [(1, (.box 127 [(cI x1.shop), (cI x1.auth), (cI x1.kind), (cI x1.sum)]))]⟩,
      ⟨some 36, (aB false), [], [], [12, 18, 20], [(33, (aI x2.shop)), (35, (aI x1.shop)), (27, (aB false))], []⟩,
      ⟨some 37, (aB false), [], [], [12, 21], [(36, (aB false)), (27, (aB false))], []⟩,
      ⟨some 38, (.t []), [], [], [22], [(3, (aC (.s 0 0 4 m.length))), (37, (aB false))], []⟩,
      ⟨some 39, (.t []), [], [], [22], [(6, (aI (↑a : Int))), (37, (aB false))], []⟩,
      ⟨some 40, (.t []), [], [], [22, 24], [(39, (.t [])), (37, (aB false))], []⟩,
      ⟨some 41, (.t []), [], [], [22, 23, 25], [(38, (.t [])), (40, (.t [])), (37, (aB false))], []⟩,
      ⟨some 42, (.t []), [], [], [22, 26], [(41, (.t [])), (37, (aB false))], []⟩,
      ⟨some 43, (.t []), [], [], [22, 27], [(42, (.t [])), (37, (aB false))], []⟩,
      ⟨some 44, (.t []), [], [], [22], [(5, (aC (.p 1 0 0 0))), (37, (aB false))], []⟩,
      ⟨some 45, (.t []), [], [], [22, 29], [(44, (.t [])), (37, (aB false))], []⟩,
      ⟨some 46, (.t []), [], [], [22, 28, 30], [(43, (.t [])), (45, (.t [])), (37, (aB false))], []⟩,
      ⟨some 47, (aB false), [], [], [12, 22, 31], [(37, (aB false)), (46, (.t [])), (27, (aB false))], []⟩,
      ⟨some 48, (aB false), [], [], [2, 12, 32], [(27, (aB false)), (47, (aB false)), (17, (aB true))], []⟩,
      ⟨some 49, (aB false), [], [], [2, 33], [(17, (aB true)), (48, (aB false))], []⟩] ⟨[(2, (aC cN)), (3, (aC (.s 0 0 4 m.length))), (7, (aC (cR 4 ((l).map rRecord)))), (8, (aI (↑l.length : Int))), (9, (aI (↑q : Int))), (5, (aC (.p 1 0 0 0))), (6, (aI (↑a : Int))), (49, (aB false))], [(1, (.box 127 [(cI x1.shop), (cI x1.auth), (cI x1.kind), (cI x1.sum)])), (0, (.arr 127 4 ((m).map rRecord)))], 2⟩ mixed (by kernel_rfl) ?_ ?_ ?_ ?_
              · exact ⟨.inl ⟨(Wanted.plain rfl), GOp.cast (g_move rfl rfl) rfl⟩,
      .inl ⟨(Wanted.plain rfl), GOp.cast (g_binI rfl rfl rfl (congrArg (fun b => some (Value.bool b)) hb2)) rfl⟩,
      .inl ⟨(Wanted.plain rfl), GOp.cast (g_move rfl rfl) rfl⟩,
      .inl ⟨(Wanted.yes rfl rfl rfl), GOp.cast (g_move rfl rfl) rfl⟩,
      .inl ⟨(Wanted.yes rfl rfl rfl), GOp.cast (g_move rfl rfl) rfl⟩,
      .inl ⟨(Wanted.yes rfl rfl rfl), GOp.cast (g_binI rfl rfl rfl (wrap_ok (by first | omega | (simp; done) | (simp; omega)))) rfl⟩,
      .inl ⟨(Wanted.yes rfl rfl rfl), GOp.cast (g_indexP0 (i := (a) - 1) rfl rfl rfl Try.underlying114 sz127 (by first | omega | (simp; done) | (simp; omega)) (by first | omega | (simp; done) | (simp; omega))) rfl⟩,
      .inl ⟨(Wanted.yes rfl rfl rfl), GOp.cast (g_fieldP rfl rfl Try.underlying127 rfl sz3 (by decide)) rfl⟩,
      .inl ⟨(Wanted.yes rfl rfl rfl), GOp.cast (g_loadA rfl rfl rfl Try.underlying3 rfl (getmap hx2) rfl) rfl⟩,
      .inl ⟨(Wanted.yes rfl rfl rfl), GOp.cast (g_fieldP rfl rfl Try.underlying127 rfl sz3 (by decide)) rfl⟩,
      .inl ⟨(Wanted.yes rfl rfl rfl), GOp.cast (g_loadB rfl rfl rfl Try.underlying3 rfl rfl) rfl⟩,
      .inl ⟨(Wanted.yes rfl rfl rfl), GOp.cast (g_binI rfl rfl rfl (congrArg (fun b => some (Value.bool b)) hb3)) rfl⟩,
      .inl ⟨(Wanted.yes rfl rfl rfl), GOp.cast (g_move rfl rfl) rfl⟩,
      .inl ⟨(Wanted.yes rfl rfl rfl), GOp.cast (g_move rfl rfl) rfl⟩,
      .inl ⟨(Wanted.yes rfl rfl rfl), GOp.cast (g_move rfl rfl) rfl⟩,
      .inl ⟨(Wanted.yes rfl rfl rfl), GOp.cast (g_binI rfl rfl rfl (wrap_ok (by first | omega | (simp; done) | (simp; omega)))) rfl⟩,
      .inl ⟨(Wanted.yes rfl rfl rfl), GOp.cast (g_indexP0 (i := (a) - 1) rfl rfl rfl Try.underlying114 sz127 (by first | omega | (simp; done) | (simp; omega)) (by first | omega | (simp; done) | (simp; omega))) rfl⟩,
      .inl ⟨(Wanted.yes rfl rfl rfl), GOp.cast (g_fieldP rfl rfl Try.underlying127 rfl sz3 (by decide)) rfl⟩,
      .inl ⟨(Wanted.yes rfl rfl rfl), GOp.cast (g_loadA rfl rfl rfl Try.underlying3 rfl (getmap hx2) rfl) rfl⟩,
      .inl ⟨(Wanted.yes rfl rfl rfl), GOp.cast (g_fieldP rfl rfl Try.underlying127 rfl sz3 (by decide)) rfl⟩,
      .inl ⟨(Wanted.yes rfl rfl rfl), GOp.cast (g_loadB rfl rfl rfl Try.underlying3 rfl rfl) rfl⟩,
      .inl ⟨(Wanted.yes rfl rfl rfl), GOp.cast (g_binI rfl rfl rfl (congrArg (fun b => some (Value.bool b)) hb5)) rfl⟩,
      .inl ⟨(Wanted.yes rfl rfl rfl), GOp.cast (g_move rfl rfl) rfl⟩,
      .inr ⟨(Unwanted.no rfl rfl rfl), rfl, rfl, rfl⟩,
      .inr ⟨(Unwanted.no rfl rfl rfl), rfl, rfl, rfl⟩,
      .inr ⟨(Unwanted.no rfl rfl rfl), rfl, rfl, rfl⟩,
      .inr ⟨(Unwanted.no rfl rfl rfl), rfl, rfl, rfl⟩,
      .inr ⟨(Unwanted.no rfl rfl rfl), rfl, rfl, rfl⟩,
      .inr ⟨(Unwanted.no rfl rfl rfl), rfl, rfl, rfl⟩,
      .inr ⟨(Unwanted.no rfl rfl rfl), rfl, rfl, rfl⟩,
      .inr ⟨(Unwanted.no rfl rfl rfl), rfl, rfl, rfl⟩,
      .inr ⟨(Unwanted.no rfl rfl rfl), rfl, rfl, rfl⟩,
      .inl ⟨(Wanted.yes rfl rfl rfl), GOp.cast (g_pick rfl rfl rfl) rfl⟩,
      .inl ⟨(Wanted.yes rfl rfl rfl), GOp.cast (g_pick rfl rfl rfl) rfl⟩,
      .inl ⟨(Wanted.plain rfl), GOp.cast (g_pick rfl rfl rfl) rfl⟩,
       trivial⟩
              · exact ⟨⟨⟨.inl rfl,  trivial⟩, trivial⟩, ⟨⟨.inr ⟨0, .head _, _, rfl, rfl, rfl⟩,  trivial⟩, trivial⟩, ⟨⟨.inr ⟨1, .head _, _, rfl, rfl, rfl⟩,  trivial⟩, trivial⟩, ⟨⟨.inl rfl, .inr ⟨2, .head _, _, rfl, rfl, rfl⟩,  trivial⟩, ⟨.inl rfl,  trivial⟩⟩, ⟨⟨.inl rfl, .inr ⟨2, .head _, _, rfl, rfl, rfl⟩,  trivial⟩, trivial⟩, ⟨⟨.inr ⟨4, .tail _ (.head _), _, rfl, rfl, rfl⟩, .inr ⟨2, .head _, _, rfl, rfl, rfl⟩,  trivial⟩, trivial⟩, ⟨⟨.inr ⟨3, .tail _ (.head _), _, rfl, rfl, rfl⟩, .inr ⟨5, .tail _ (.tail _ (.head _)), _, rfl, rfl, rfl⟩, .inr ⟨2, .head _, _, rfl, rfl, rfl⟩,  trivial⟩, ⟨.inl rfl,  trivial⟩⟩, ⟨⟨.inr ⟨6, .tail _ (.head _), _, rfl, rfl, rfl⟩, .inr ⟨2, .head _, _, rfl, rfl, rfl⟩,  trivial⟩, ⟨.inl rfl,  trivial⟩⟩, ⟨⟨.inr ⟨7, .tail _ (.head _), _, rfl, rfl, rfl⟩, .inr ⟨2, .head _, _, rfl, rfl, rfl⟩,  trivial⟩, ⟨.inl rfl,  trivial⟩⟩, ⟨⟨.inl rfl, .inr ⟨2, .head _, _, rfl, rfl, rfl⟩,  trivial⟩, ⟨.inl rfl,  trivial⟩⟩, ⟨⟨.inr ⟨9, .tail _ (.head _), _, rfl, rfl, rfl⟩, .inr ⟨2, .head _, _, rfl, rfl, rfl⟩,  trivial⟩, ⟨.inl rfl,  trivial⟩⟩, ⟨⟨.inr ⟨8, .tail _ (.head _), _, rfl, rfl, rfl⟩, .inr ⟨10, .tail _ (.tail _ (.head _)), _, rfl, rfl, rfl⟩, .inr ⟨2, .head _, _, rfl, rfl, rfl⟩,  trivial⟩, trivial⟩, ⟨⟨.inr ⟨11, .tail _ (.head _), _, rfl, rfl, rfl⟩, .inr ⟨2, .head _, _, rfl, rfl, rfl⟩,  trivial⟩, trivial⟩, ⟨⟨.inl rfl, .inr ⟨12, .head _, _, rfl, rfl, rfl⟩,  trivial⟩, ⟨.inl rfl,  trivial⟩⟩, ⟨⟨.inl rfl, .inr ⟨12, .head _, _, rfl, rfl, rfl⟩,  trivial⟩, trivial⟩, ⟨⟨.inr ⟨14, .tail _ (.head _), _, rfl, rfl, rfl⟩, .inr ⟨12, .head _, _, rfl, rfl, rfl⟩,  trivial⟩, trivial⟩, ⟨⟨.inr ⟨13, .tail _ (.head _), _, rfl, rfl, rfl⟩, .inr ⟨15, .tail _ (.tail _ (.head _)), _, rfl, rfl, rfl⟩, .inr ⟨12, .head _, _, rfl, rfl, rfl⟩,  trivial⟩, ⟨.inl rfl,  trivial⟩⟩, ⟨⟨.inr ⟨16, .tail _ (.head _), _, rfl, rfl, rfl⟩, .inr ⟨12, .head _, _, rfl, rfl, rfl⟩,  trivial⟩, ⟨.inl rfl,  trivial⟩⟩, ⟨⟨.inr ⟨17, .tail _ (.head _), _, rfl, rfl, rfl⟩, .inr ⟨12, .head _, _, rfl, rfl, rfl⟩,  trivial⟩, ⟨.inl rfl,  trivial⟩⟩, ⟨⟨.inl rfl, .inr ⟨12, .head _, _, rfl, rfl, rfl⟩,  trivial⟩, ⟨.inl rfl,  trivial⟩⟩, ⟨⟨.inr ⟨19, .tail _ (.head _), _, rfl, rfl, rfl⟩, .inr ⟨12, .head _, _, rfl, rfl, rfl⟩,  trivial⟩, ⟨.inl rfl,  trivial⟩⟩, ⟨⟨.inr ⟨18, .tail _ (.head _), _, rfl, rfl, rfl⟩, .inr ⟨20, .tail _ (.tail _ (.head _)), _, rfl, rfl, rfl⟩, .inr ⟨12, .head _, _, rfl, rfl, rfl⟩,  trivial⟩, trivial⟩, ⟨⟨.inr ⟨21, .tail _ (.head _), _, rfl, rfl, rfl⟩, .inr ⟨12, .head _, _, rfl, rfl, rfl⟩,  trivial⟩, trivial⟩, ⟨⟨.inl rfl, .inr ⟨22, .head _, _, rfl, rfl, rfl⟩,  trivial⟩, trivial⟩, ⟨⟨.inl rfl, .inr ⟨22, .head _, _, rfl, rfl, rfl⟩,  trivial⟩, trivial⟩, ⟨⟨.inr ⟨24, .tail _ (.head _), _, rfl, rfl, rfl⟩, .inr ⟨22, .head _, _, rfl, rfl, rfl⟩,  trivial⟩, trivial⟩, ⟨⟨.inr ⟨23, .tail _ (.head _), _, rfl, rfl, rfl⟩, .inr ⟨25, .tail _ (.tail _ (.head _)), _, rfl, rfl, rfl⟩, .inr ⟨22, .head _, _, rfl, rfl, rfl⟩,  trivial⟩, trivial⟩, ⟨⟨.inr ⟨26, .tail _ (.head _), _, rfl, rfl, rfl⟩, .inr ⟨22, .head _, _, rfl, rfl, rfl⟩,  trivial⟩, trivial⟩, ⟨⟨.inr ⟨27, .tail _ (.head _), _, rfl, rfl, rfl⟩, .inr ⟨22, .head _, _, rfl, rfl, rfl⟩,  trivial⟩, trivial⟩, ⟨⟨.inl rfl, .inr ⟨22, .head _, _, rfl, rfl, rfl⟩,  trivial⟩, trivial⟩, ⟨⟨.inr ⟨29, .tail _ (.head _), _, rfl, rfl, rfl⟩, .inr ⟨22, .head _, _, rfl, rfl, rfl⟩,  trivial⟩, trivial⟩, ⟨⟨.inr ⟨28, .tail _ (.head _), _, rfl, rfl, rfl⟩, .inr ⟨30, .tail _ (.tail _ (.head _)), _, rfl, rfl, rfl⟩, .inr ⟨22, .head _, _, rfl, rfl, rfl⟩,  trivial⟩, trivial⟩, ⟨⟨.inr ⟨22, .tail _ (.head _), _, rfl, rfl, rfl⟩, .inr ⟨31, .tail _ (.tail _ (.head _)), _, rfl, rfl, rfl⟩, .inr ⟨12, .head _, _, rfl, rfl, rfl⟩,  trivial⟩, trivial⟩, ⟨⟨.inr ⟨12, .tail _ (.head _), _, rfl, rfl, rfl⟩, .inr ⟨32, .tail _ (.tail _ (.head _)), _, rfl, rfl, rfl⟩, .inr ⟨2, .head _, _, rfl, rfl, rfl⟩,  trivial⟩, trivial⟩, ⟨⟨.inr ⟨2, .head _, _, rfl, rfl, rfl⟩, .inr ⟨33, .tail _ (.head _), _, rfl, rfl, rfl⟩,  trivial⟩, trivial⟩,  trivial⟩
              · exact ⟨⟨.inl rfl, .inl rfl, .inl rfl, .inl rfl, .inl rfl, .inl rfl, .inl rfl, .inr ⟨34, _, rfl, rfl, rfl⟩,  trivial⟩, ⟨.inl rfl, .inl rfl,  trivial⟩⟩
              ·
                refine AL.nil ?_
                refine then_ok ?_
                refine AC.cond rfl (fun hno => by cases hno) (fun _ => ?_)
                refine AC.exit ?_
                refine then_exit ?_
                refine then_exit ?_
                refine block_hit ?_
                refine then_ok ?_
                rcases (show a = m.length ∨ a < m.length from by omega) with hs9 | hs9
                ·
                  refine AC.weak (st' := ⟨[(2, (aC cN)), (3, (aC (.s 0 0 4 m.length))), (7, (aC (cR 4 ((l).map rRecord)))), (8, (aI (↑l.length : Int))), (9, (aI (↑q : Int))), (5, (aC (.p 1 0 0 0))), (6, (aI (↑a : Int)))], [(1, (.box 127 [(cI x1.shop), (cI x1.auth), (cI x1.kind), (cI x1.sum)])), (0, (.arr 127 4 ((m).map rRecord)))], 2⟩) (Weak.ren id (by refine ⟨?_, ?_, ?_, ?_, ?_, ?_, ?_,  trivial⟩ <;> first | rfl | (simp only [AV.map, GV.map, CV.map, AB.map', id]; done) | (congr 3; omega) | (congr 4; omega) | (simp only [List.length_append, List.length_cons, List.length_nil, List.length_set]; rfl)) (by refine ⟨?_, ?_,  trivial⟩ <;> first | rfl | (simp only [AV.map, GV.map, CV.map, AB.map', id]; done) | (congr 3; omega) | (congr 4; omega) | (simp only [List.length_append, List.length_cons, List.length_nil, List.length_set]; rfl)) rfl) ?_
                  refine AC.draw [⟨some 52, (aC (.s 2 0 4 0)), [(2, (.arr 127 4 ((([] : List Record)).map rRecord)))], [], [], [], []⟩,
      ⟨some 53, (aC (.s 0 0 4 m.length)), [], [], [], [(3, (aC (.s 0 0 4 m.length)))], [(0, (.arr 127 4 ((m).map rRecord)))]⟩,
      ⟨some 54, (aI (↑a : Int)), [], [], [], [(6, (aI (↑a : Int)))], []⟩,
      ⟨some 55, (aC (.s 0 0 4 a)), [], [], [1, 2], [(53, (aC (.s 0 0 4 m.length))), (54, (aI (↑a : Int)))], [(0, (.arr 127 4 ((m).map rRecord)))]⟩,
      ⟨some 56, (aC (.s 3 0 4 a)), [(3, (.arr 127 4 ((((m).drop 0).take a).map rRecord)))], [2], [0, 3], [(52, (aC (.s 2 0 4 0))), (55, (aC (.s 0 0 4 a)))], [(0, (.arr 127 4 ((m).map rRecord))), (2, (.arr 127 4 ((([] : List Record)).map rRecord)))]⟩,
      ⟨some 57, (aG [(cI x1.shop), (cI x1.auth), (cI x1.kind), (cI x1.sum)]), [], [], [], [(5, (aC (.p 1 0 0 0)))], [(1, (.box 127 [(cI x1.shop), (cI x1.auth), (cI x1.kind), (cI x1.sum)]))]⟩,
      ⟨some 58, (aC (.s 4 0 4 1)), [(4, (.arr 127 4 (([x1]).map rRecord)))], [], [5], [(57, (aG [(cI x1.shop), (cI x1.auth), (cI x1.kind), (cI x1.sum)]))], []⟩,
      ⟨some 59, (aC (.s 5 0 4 (a + 1))), [(5, (.arr 127 4 (((((m).drop 0).take a) ++ ([x1])).map rRecord)))], [3], [4, 6], [(56, (aC (.s 3 0 4 a))), (58, (aC (.s 4 0 4 1)))], [(4, (.arr 127 4 (([x1]).map rRecord))), (3, (.arr 127 4 ((((m).drop 0).take a).map rRecord)))]⟩,
      ⟨some 60, (aC (.s 0 0 4 m.length)), [], [], [], [(3, (aC (.s 0 0 4 m.length)))], [(0, (.arr 127 4 ((m).map rRecord)))]⟩,
      ⟨some 61, (aI (↑a : Int)), [], [], [], [(6, (aI (↑a : Int)))], []⟩,
      ⟨some 62, (aC (cR 4 ((([] : List Record)).map rRecord))), [], [], [8, 9], [(60, (aC (.s 0 0 4 m.length))), (61, (aI (↑a : Int)))], [(0, (.arr 127 4 ((m).map rRecord)))]⟩,
      ⟨some 63, (aC (.s 6 0 4 ((a + 1) + ((([] : List Record)).length)))), [(6, (.arr 127 4 ((((((m).drop 0).take a) ++ ([x1])) ++ ([] : List Record)).map rRecord)))], [5], [7, 10], [(59, (aC (.s 5 0 4 (a + 1)))), (62, (aC (cR 4 ((([] : List Record)).map rRecord))))], [(5, (.arr 127 4 (((((m).drop 0).take a) ++ ([x1])).map rRecord)))]⟩] ⟨[(2, (aC cN)), (3, (aC (.s 0 0 4 m.length))), (7, (aC (cR 4 ((l).map rRecord)))), (8, (aI (↑l.length : Int))), (9, (aI (↑q : Int))), (5, (aC (.p 1 0 0 0))), (6, (aI (↑a : Int))), (63, (aC (.s 6 0 4 ((a + 1) + ((([] : List Record)).length)))))], [(6, (.arr 127 4 ((((((m).drop 0).take a) ++ ([x1])) ++ ([] : List Record)).map rRecord))), (1, (.box 127 [(cI x1.shop), (cI x1.auth), (cI x1.kind), (cI x1.sum)])), (0, (.arr 127 4 ((m).map rRecord)))], 7⟩ mixed (by kernel_rfl) ?_ ?_ ?_ ?_
                  · exact ⟨.inl ⟨(Wanted.plain rfl), GOp.cast (g_lit (ys := []) (rows := (([] : List Record)).map rRecord) 2 sl114 rfl (by decide) trivial rfl rfl rfl rfl) rfl⟩,
      .inl ⟨(Wanted.plain rfl), GOp.cast (g_move rfl rfl) rfl⟩,
      .inl ⟨(Wanted.plain rfl), GOp.cast (g_move rfl rfl) rfl⟩,
      .inl ⟨(Wanted.plain rfl), GOp.cast (g_sliceP (l := 0) (h := a) rfl Try.underlying114 sz127 rfl (.inl ⟨rfl, rfl⟩) (.inr ⟨_, rfl, rfl⟩) (by first | omega | (simp; done) | (simp; omega)) (by first | omega | (simp; done) | (simp; omega)) (by first | omega | (simp; done) | (simp; omega)) rfl) rfl⟩,
      .inl ⟨(Wanted.plain rfl), GOp.cast (g_append (m := a) (N := a) (k2 := 3) (ys := (((m).drop 0).take a).map rRecord) sl114 rfl rfl rfl rfl rfl rfl (by first | omega | (simp; done) | (simp; omega)) rfl (.sub rfl (by first | omega | (simp; done) | (simp; omega)) (by simp)) (by first | omega | (simp; done) | (simp; omega)) (by first | omega | (simp; done) | (simp; omega)) rfl (by decide) (by first | omega | (simp; done) | (simp; omega)) (by first | omega | (simp; done) | (simp; omega))) rfl⟩,
      .inl ⟨(Wanted.plain rfl), GOp.cast (g_loadBs rfl rfl rfl Try.underlying127 rfl sz127 rfl rfl) rfl⟩,
      .inl ⟨(Wanted.plain rfl), GOp.cast (g_lit (ys := [(0, (.g [(cI x1.shop), (cI x1.auth), (cI x1.kind), (cI x1.sum)]))]) (rows := ([x1]).map rRecord) 4 sl114 rfl (by decide) ⟨⟨rfl, rfl⟩,  trivial⟩ rfl rfl rfl rfl) rfl⟩,
      .inl ⟨(Wanted.plain rfl), GOp.cast (g_append (m := 1) (N := a + 1) (k2 := 5) (ys := ([x1]).map rRecord) sl114 rfl rfl rfl rfl rfl rfl (by first | omega | (simp; done) | (simp; omega)) rfl (.s rfl (by first | omega | (simp; done) | (simp; omega))) (by first | omega | (simp; done) | (simp; omega)) (by first | omega | (simp; done) | (simp; omega)) appmap (by decide) (by first | omega | (simp; done) | (simp; omega)) (by first | omega | (simp; done) | (simp; omega))) rfl⟩,
      .inl ⟨(Wanted.plain rfl), GOp.cast (g_move rfl rfl) rfl⟩,
      .inl ⟨(Wanted.plain rfl), GOp.cast (g_move rfl rfl) rfl⟩,
      .inl ⟨(Wanted.plain rfl), GOp.cast (g_sliceE rfl Try.underlying114 sz127 rfl (evI rfl (by first | omega | (simp; done) | (simp; omega)))) rfl⟩,
      .inl ⟨(Wanted.plain rfl), GOp.cast (g_append (m := (([] : List Record)).length) (N := (a + 1) + ((([] : List Record)).length)) (k2 := 6) (ys := (([] : List Record)).map rRecord) sl114 rfl rfl rfl rfl rfl rfl (by first | omega | (simp; done) | (simp; omega)) rfl (.d _ _) (by first | omega | (simp; done) | (simp; omega)) (by first | omega | (simp; done) | (simp; omega)) appmap (by decide) (by first | omega | (simp; done) | (simp; omega)) (by first | omega | (simp; done) | (simp; omega))) rfl⟩,
       trivial⟩
                  · exact ⟨⟨trivial, trivial⟩, ⟨⟨.inl rfl,  trivial⟩, ⟨.inl rfl,  trivial⟩⟩, ⟨⟨.inl rfl,  trivial⟩, trivial⟩, ⟨⟨.inr ⟨1, .head _, _, rfl, rfl, rfl⟩, .inr ⟨2, .tail _ (.head _), _, rfl, rfl, rfl⟩,  trivial⟩, ⟨.inl rfl,  trivial⟩⟩, ⟨⟨.inr ⟨0, .head _, _, rfl, rfl, rfl⟩, .inr ⟨3, .tail _ (.head _), _, rfl, rfl, rfl⟩,  trivial⟩, ⟨.inl rfl, .inr ⟨0, .head _, _, rfl, .head _⟩,  trivial⟩⟩, ⟨⟨.inl rfl,  trivial⟩, ⟨.inl rfl,  trivial⟩⟩, ⟨⟨.inr ⟨5, .head _, _, rfl, rfl, rfl⟩,  trivial⟩, trivial⟩, ⟨⟨.inr ⟨4, .head _, _, rfl, rfl, rfl⟩, .inr ⟨6, .tail _ (.head _), _, rfl, rfl, rfl⟩,  trivial⟩, ⟨.inr ⟨6, .tail _ (.head _), _, rfl, .head _⟩, .inr ⟨4, .head _, _, rfl, .head _⟩,  trivial⟩⟩, ⟨⟨.inl rfl,  trivial⟩, ⟨.inl rfl,  trivial⟩⟩, ⟨⟨.inl rfl,  trivial⟩, trivial⟩, ⟨⟨.inr ⟨8, .head _, _, rfl, rfl, rfl⟩, .inr ⟨9, .tail _ (.head _), _, rfl, rfl, rfl⟩,  trivial⟩, ⟨.inl rfl,  trivial⟩⟩, ⟨⟨.inr ⟨7, .head _, _, rfl, rfl, rfl⟩, .inr ⟨10, .tail _ (.head _), _, rfl, rfl, rfl⟩,  trivial⟩, ⟨.inr ⟨7, .head _, _, rfl, .head _⟩,  trivial⟩⟩,  trivial⟩
                  · exact ⟨⟨.inl rfl, .inl rfl, .inl rfl, .inl rfl, .inl rfl, .inl rfl, .inl rfl, .inr ⟨11, _, rfl, rfl, rfl⟩,  trivial⟩, ⟨.inr ⟨11, _, rfl, .head _⟩, .inl rfl, .inl rfl,  trivial⟩⟩
                  ·
                    refine AL.fast 1 rfl ?_
                    refine AL.nil ?_
                    refine block_ok ?_
                    refine then_ok ?_
                    refine AC.region ?_
                    refine AL.val (Wanted.plain rfl) (g_binI rfl rfl rfl (wrap_ok (by first | omega | (simp; done) | (simp; omega)))) rfl rfl ?_
                    refine AL.fast 1 rfl ?_
                    refine AL.nil ?_
                    refine then_ok ?_
                    have hsm : Srt m := by rw [hi0_1]; exact insP_srt _
                    refine ⟨(q + 1, ((((m).drop 0).take a) ++ ([x1])) ++ ([] : List Record)), ⟨by omega, by rw [insP_take hx1, ← hi0_1, insR_at (a := a) (by omega) hsm hi1_1 (fun y h0 hy => by first | omega | (rw [hx2] at hy; injection hy with hy; subst hy; unfold leR; omega))]; first | (subst hs1; simp; done) | (rw [List.drop_zero, Nat.zero_add, List.take_of_length_le (l := m.drop a) (by rw [List.length_drop]; omega)]; done) | (simp; omega) | (simp_all; done), by simp only [List.length_append, List.length_take, List.length_drop, List.length_cons, List.length_nil]; omega⟩, by first | omega | (simp; done) | (simp; omega), Weak.ren (fun k => if k = 0 then 6 else k) (by refine ⟨?_, ?_, ?_, ?_, ?_,  trivial⟩ <;> first | rfl | (simp only [AV.map, GV.map, CV.map, AB.map', id]; done) | (congr 3; omega) | (congr 4; omega) | (simp only [List.length_append, List.length_cons, List.length_nil, List.length_set]; rfl) | (first | exact look_i rfl (by omega) | exact look_s rfl (by simp only [List.length_append, List.length_take, List.length_drop, List.length_cons, List.length_nil]; omega))) (⟨by first | rfl | (simp only [AV.map, GV.map, CV.map, AB.map', id]; done) | (congr 3; omega) | (congr 4; omega) | (simp only [List.length_append, List.length_cons, List.length_nil, List.length_set]; rfl), trivial⟩) rfl⟩
                ·
                  refine AC.weak (st' := ⟨[(2, (aC cN)), (3, (aC (.s 0 0 4 m.length))), (7, (aC (cR 4 ((l).map rRecord)))), (8, (aI (↑l.length : Int))), (9, (aI (↑q : Int))), (5, (aC (.p 1 0 0 0))), (6, (aI (↑a : Int)))], [(1, (.box 127 [(cI x1.shop), (cI x1.auth), (cI x1.kind), (cI x1.sum)])), (0, (.arr 127 4 ((m).map rRecord)))], 2⟩) (Weak.ren id (by refine ⟨?_, ?_, ?_, ?_, ?_, ?_, ?_,  trivial⟩ <;> first | rfl | (simp only [AV.map, GV.map, CV.map, AB.map', id]; done) | (congr 3; omega) | (congr 4; omega) | (simp only [List.length_append, List.length_cons, List.length_nil, List.length_set]; rfl)) (by refine ⟨?_, ?_,  trivial⟩ <;> first | rfl | (simp only [AV.map, GV.map, CV.map, AB.map', id]; done) | (congr 3; omega) | (congr 4; omega) | (simp only [List.length_append, List.length_cons, List.length_nil, List.length_set]; rfl)) rfl) ?_
                  refine AC.draw [⟨some 52, (aC (.s 2 0 4 0)), [(2, (.arr 127 4 ((([] : List Record)).map rRecord)))], [], [], [], []⟩,
      ⟨some 53, (aC (.s 0 0 4 m.length)), [], [], [], [(3, (aC (.s 0 0 4 m.length)))], [(0, (.arr 127 4 ((m).map rRecord)))]⟩,
      ⟨some 54, (aI (↑a : Int)), [], [], [], [(6, (aI (↑a : Int)))], []⟩,
      ⟨some 55, (aC (.s 0 0 4 a)), [], [], [1, 2], [(53, (aC (.s 0 0 4 m.length))), (54, (aI (↑a : Int)))], [(0, (.arr 127 4 ((m).map rRecord)))]⟩,
      ⟨some 56, (aC (.s 3 0 4 a)), [(3, (.arr 127 4 ((((m).drop 0).take a).map rRecord)))], [2], [0, 3], [(52, (aC (.s 2 0 4 0))), (55, (aC (.s 0 0 4 a)))], [(0, (.arr 127 4 ((m).map rRecord))), (2, (.arr 127 4 ((([] : List Record)).map rRecord)))]⟩,
      ⟨some 57, (aG [(cI x1.shop), (cI x1.auth), (cI x1.kind), (cI x1.sum)]), [], [], [], [(5, (aC (.p 1 0 0 0)))], [(1, (.box 127 [(cI x1.shop), (cI x1.auth), (cI x1.kind), (cI x1.sum)]))]⟩,
      ⟨some 58, (aC (.s 4 0 4 1)), [(4, (.arr 127 4 (([x1]).map rRecord)))], [], [5], [(57, (aG [(cI x1.shop), (cI x1.auth), (cI x1.kind), (cI x1.sum)]))], []⟩,
      ⟨some 59, (aC (.s 5 0 4 (a + 1))), [(5, (.arr 127 4 (((((m).drop 0).take a) ++ ([x1])).map rRecord)))], [3], [4, 6], [(56, (aC (.s 3 0 4 a))), (58, (aC (.s 4 0 4 1)))], [(4, (.arr 127 4 (([x1]).map rRecord))), (3, (.arr 127 4 ((((m).drop 0).take a).map rRecord)))]⟩,
      ⟨some 60, (aC (.s 0 0 4 m.length)), [], [], [], [(3, (aC (.s 0 0 4 m.length)))], [(0, (.arr 127 4 ((m).map rRecord)))]⟩,
      ⟨some 61, (aI (↑a : Int)), [], [], [], [(6, (aI (↑a : Int)))], []⟩,
      ⟨some 62, (aC (.s 0 (0 + a) 4 (m.length - a))), [], [], [8, 9], [(60, (aC (.s 0 0 4 m.length))), (61, (aI (↑a : Int)))], [(0, (.arr 127 4 ((m).map rRecord)))]⟩,
      ⟨some 63, (aC (.s 6 0 4 ((a + 1) + (m.length - a)))), [(6, (.arr 127 4 ((((((m).drop 0).take a) ++ ([x1])) ++ (((m).drop (0 + a)).take (m.length - a))).map rRecord)))], [5], [7, 10], [(59, (aC (.s 5 0 4 (a + 1)))), (62, (aC (.s 0 (0 + a) 4 (m.length - a))))], [(0, (.arr 127 4 ((m).map rRecord))), (5, (.arr 127 4 (((((m).drop 0).take a) ++ ([x1])).map rRecord)))]⟩] ⟨[(2, (aC cN)), (3, (aC (.s 0 0 4 m.length))), (7, (aC (cR 4 ((l).map rRecord)))), (8, (aI (↑l.length : Int))), (9, (aI (↑q : Int))), (5, (aC (.p 1 0 0 0))), (6, (aI (↑a : Int))), (63, (aC (.s 6 0 4 ((a + 1) + (m.length - a)))))], [(6, (.arr 127 4 ((((((m).drop 0).take a) ++ ([x1])) ++ (((m).drop (0 + a)).take (m.length - a))).map rRecord))), (1, (.box 127 [(cI x1.shop), (cI x1.auth), (cI x1.kind), (cI x1.sum)])), (0, (.arr 127 4 ((m).map rRecord)))], 7⟩ mixed (by kernel_rfl) ?_ ?_ ?_ ?_
                  · exact ⟨.inl ⟨(Wanted.plain rfl), GOp.cast (g_lit (ys := []) (rows := (([] : List Record)).map rRecord) 2 sl114 rfl (by decide) trivial rfl rfl rfl rfl) rfl⟩,
      .inl ⟨(Wanted.plain rfl), GOp.cast (g_move rfl rfl) rfl⟩,
      .inl ⟨(Wanted.plain rfl), GOp.cast (g_move rfl rfl) rfl⟩,
      .inl ⟨(Wanted.plain rfl), GOp.cast (g_sliceP (l := 0) (h := a) rfl Try.underlying114 sz127 rfl (.inl ⟨rfl, rfl⟩) (.inr ⟨_, rfl, rfl⟩) (by first | omega | (simp; done) | (simp; omega)) (by first | omega | (simp; done) | (simp; omega)) (by first | omega | (simp; done) | (simp; omega)) rfl) rfl⟩,
      .inl ⟨(Wanted.plain rfl), GOp.cast (g_append (m := a) (N := a) (k2 := 3) (ys := (((m).drop 0).take a).map rRecord) sl114 rfl rfl rfl rfl rfl rfl (by first | omega | (simp; done) | (simp; omega)) rfl (.sub rfl (by first | omega | (simp; done) | (simp; omega)) (by simp)) (by first | omega | (simp; done) | (simp; omega)) (by first | omega | (simp; done) | (simp; omega)) rfl (by decide) (by first | omega | (simp; done) | (simp; omega)) (by first | omega | (simp; done) | (simp; omega))) rfl⟩,
      .inl ⟨(Wanted.plain rfl), GOp.cast (g_loadBs rfl rfl rfl Try.underlying127 rfl sz127 rfl rfl) rfl⟩,
      .inl ⟨(Wanted.plain rfl), GOp.cast (g_lit (ys := [(0, (.g [(cI x1.shop), (cI x1.auth), (cI x1.kind), (cI x1.sum)]))]) (rows := ([x1]).map rRecord) 4 sl114 rfl (by decide) ⟨⟨rfl, rfl⟩,  trivial⟩ rfl rfl rfl rfl) rfl⟩,
      .inl ⟨(Wanted.plain rfl), GOp.cast (g_append (m := 1) (N := a + 1) (k2 := 5) (ys := ([x1]).map rRecord) sl114 rfl rfl rfl rfl rfl rfl (by first | omega | (simp; done) | (simp; omega)) rfl (.s rfl (by first | omega | (simp; done) | (simp; omega))) (by first | omega | (simp; done) | (simp; omega)) (by first | omega | (simp; done) | (simp; omega)) appmap (by decide) (by first | omega | (simp; done) | (simp; omega)) (by first | omega | (simp; done) | (simp; omega))) rfl⟩,
      .inl ⟨(Wanted.plain rfl), GOp.cast (g_move rfl rfl) rfl⟩,
      .inl ⟨(Wanted.plain rfl), GOp.cast (g_move rfl rfl) rfl⟩,
      .inl ⟨(Wanted.plain rfl), GOp.cast (g_sliceP (l := a) (h := m.length) rfl Try.underlying114 sz127 rfl (.inr ⟨_, rfl, rfl⟩) (.inl ⟨rfl, rfl⟩) (by first | omega | (simp; done) | (simp; omega)) (by first | omega | (simp; done) | (simp; omega)) (by first | omega | (simp; done) | (simp; omega)) rfl) rfl⟩,
      .inl ⟨(Wanted.plain rfl), GOp.cast (g_append (m := m.length - a) (N := (a + 1) + (m.length - a)) (k2 := 6) (ys := (((m).drop (0 + a)).take (m.length - a)).map rRecord) sl114 rfl rfl rfl rfl rfl rfl (by first | omega | (simp; done) | (simp; omega)) rfl (.sub rfl (by first | omega | (simp; done) | (simp; omega)) (by simp)) (by first | omega | (simp; done) | (simp; omega)) (by first | omega | (simp; done) | (simp; omega)) appmap (by decide) (by first | omega | (simp; done) | (simp; omega)) (by first | omega | (simp; done) | (simp; omega))) rfl⟩,
       trivial⟩
                  · exact ⟨⟨trivial, trivial⟩, ⟨⟨.inl rfl,  trivial⟩, ⟨.inl rfl,  trivial⟩⟩, ⟨⟨.inl rfl,  trivial⟩, trivial⟩, ⟨⟨.inr ⟨1, .head _, _, rfl, rfl, rfl⟩, .inr ⟨2, .tail _ (.head _), _, rfl, rfl, rfl⟩,  trivial⟩, ⟨.inl rfl,  trivial⟩⟩, ⟨⟨.inr ⟨0, .head _, _, rfl, rfl, rfl⟩, .inr ⟨3, .tail _ (.head _), _, rfl, rfl, rfl⟩,  trivial⟩, ⟨.inl rfl, .inr ⟨0, .head _, _, rfl, .head _⟩,  trivial⟩⟩, ⟨⟨.inl rfl,  trivial⟩, ⟨.inl rfl,  trivial⟩⟩, ⟨⟨.inr ⟨5, .head _, _, rfl, rfl, rfl⟩,  trivial⟩, trivial⟩, ⟨⟨.inr ⟨4, .head _, _, rfl, rfl, rfl⟩, .inr ⟨6, .tail _ (.head _), _, rfl, rfl, rfl⟩,  trivial⟩, ⟨.inr ⟨6, .tail _ (.head _), _, rfl, .head _⟩, .inr ⟨4, .head _, _, rfl, .head _⟩,  trivial⟩⟩, ⟨⟨.inl rfl,  trivial⟩, ⟨.inl rfl,  trivial⟩⟩, ⟨⟨.inl rfl,  trivial⟩, trivial⟩, ⟨⟨.inr ⟨8, .head _, _, rfl, rfl, rfl⟩, .inr ⟨9, .tail _ (.head _), _, rfl, rfl, rfl⟩,  trivial⟩, ⟨.inl rfl,  trivial⟩⟩, ⟨⟨.inr ⟨7, .head _, _, rfl, rfl, rfl⟩, .inr ⟨10, .tail _ (.head _), _, rfl, rfl, rfl⟩,  trivial⟩, ⟨.inl rfl, .inr ⟨7, .head _, _, rfl, .head _⟩,  trivial⟩⟩,  trivial⟩
                  · exact ⟨⟨.inl rfl, .inl rfl, .inl rfl, .inl rfl, .inl rfl, .inl rfl, .inl rfl, .inr ⟨11, _, rfl, rfl, rfl⟩,  trivial⟩, ⟨.inr ⟨11, _, rfl, .head _⟩, .inl rfl, .inl rfl,  trivial⟩⟩
                  ·
                    refine AL.fast 1 rfl ?_
                    refine AL.nil ?_
                    refine block_ok ?_
                    refine then_ok ?_
                    refine AC.region ?_
                    refine AL.val (Wanted.plain rfl) (g_binI rfl rfl rfl (wrap_ok (by first | omega | (simp; done) | (simp; omega)))) rfl rfl ?_
                    refine AL.fast 1 rfl ?_
                    refine AL.nil ?_
                    refine then_ok ?_
                    have hsm : Srt m := by rw [hi0_1]; exact insP_srt _
                    refine ⟨(q + 1, ((((m).drop 0).take a) ++ ([x1])) ++ (((m).drop (0 + a)).take (m.length - a))), ⟨by omega, by rw [insP_take hx1, ← hi0_1, insR_at (a := a) (by omega) hsm hi1_1 (fun y h0 hy => by first | omega | (rw [hx2] at hy; injection hy with hy; subst hy; unfold leR; omega))]; first | (subst hs1; simp; done) | (rw [List.drop_zero, Nat.zero_add, List.take_of_length_le (l := m.drop a) (by rw [List.length_drop]; omega)]; done) | (simp; omega) | (simp_all; done), by simp only [List.length_append, List.length_take, List.length_drop, List.length_cons, List.length_nil]; omega⟩, by first | omega | (simp; done) | (simp; omega), Weak.ren (fun k => if k = 0 then 6 else k) (by refine ⟨?_, ?_, ?_, ?_, ?_,  trivial⟩ <;> first | rfl | (simp only [AV.map, GV.map, CV.map, AB.map', id]; done) | (congr 3; omega) | (congr 4; omega) | (simp only [List.length_append, List.length_cons, List.length_nil, List.length_set]; rfl) | (first | exact look_i rfl (by omega) | exact look_s rfl (by simp only [List.length_append, List.length_take, List.length_drop, List.length_cons, List.length_nil]; omega))) (⟨by first | rfl | (simp only [AV.map, GV.map, CV.map, AB.map', id]; done) | (congr 3; omega) | (congr 4; omega) | (simp only [List.length_append, List.length_cons, List.length_nil, List.length_set]; rfl), trivial⟩) rfl⟩
        ·
          have hb2' := hb2; try simp only [sumB, Bool.not_eq_true', Bool.not_eq_false', Bool.or_eq_true, Bool.or_eq_false_iff, Bool.and_eq_true, Bool.and_eq_false_imp, decide_eq_true_eq, decide_eq_false_iff_not, Bool.not_not, Bool.not_true, Bool.not_false] at hb2'
          refine AC.weak (st' := ⟨[(2, (aC cN)), (3, (aC (.s 0 0 4 m.length))), (7, (aC (cR 4 ((l).map rRecord)))), (8, (aI (↑l.length : Int))), (9, (aI (↑q : Int))), (5, (aC (.p 1 0 0 0))), (6, (aI (↑a : Int)))], [(1, (.box 127 [(cI x1.shop), (cI x1.auth), (cI x1.kind), (cI x1.sum)])), (0, (.arr 127 4 ((m).map rRecord)))], 2⟩) (Weak.ren id (by refine ⟨?_, ?_, ?_, ?_, ?_, ?_, ?_,  trivial⟩ <;> first | rfl | (simp only [AV.map, GV.map, CV.map, AB.map', id]; done) | (congr 3; omega) | (congr 4; omega) | (simp only [List.length_append, List.length_cons, List.length_nil, List.length_set]; rfl)) (by refine ⟨?_, ?_,  trivial⟩ <;> first | rfl | (simp only [AV.map, GV.map, CV.map, AB.map', id]; done) | (congr 3; omega) | (congr 4; omega) | (simp only [List.length_append, List.length_cons, List.length_nil, List.length_set]; rfl)) rfl) ?_
          refine AC.draw [⟨some 15, (aI (↑a : Int)), [], [], [], [(6, (aI (↑a : Int)))], []⟩,
      ⟨some 16, (aB false), [], [], [0], [(15, (aI (↑a : Int)))], []⟩,
      ⟨some 17, (aB false), [], [], [1], [(16, (aB false))], []⟩,
      ⟨some 18, (.t []), [], [], [2], [(3, (aC (.s 0 0 4 m.length))), (17, (aB false))], []⟩,
      ⟨some 19, (.t []), [], [], [2], [(6, (aI (↑a : Int))), (17, (aB false))], []⟩,
      ⟨some 20, (.t []), [], [], [2, 4], [(19, (.t [])), (17, (aB false))], []⟩,
      ⟨some 21, (.t []), [], [], [2, 3, 5], [(18, (.t [])), (20, (.t [])), (17, (aB false))], []⟩,
      ⟨some 22, (.t []), [], [], [2, 6], [(21, (.t [])), (17, (aB false))], []⟩,
      ⟨some 23, (.t []), [], [], [2, 7], [(22, (.t [])), (17, (aB false))], []⟩,
      ⟨some 24, (.t []), [], [], [2], [(5, (aC (.p 1 0 0 0))), (17, (aB false))], []⟩,
      ⟨some 25, (.t []), [], [], [2, 9], [(24, (.t [])), (17, (aB false))], []⟩,
      ⟨some 26, (.t []), [], [], [2, 8, 10], [(23, (.t [])), (25, (.t [])), (17, (aB false))], []⟩,
      ⟨some 27, (.t []), [], [], [2, 11], [(26, (.t [])), (17, (aB false))], []⟩,
      ⟨some 28, (.t []), [], [], [12], [(3, (aC (.s 0 0 4 m.length))), (27, (.t []))], []⟩,
      ⟨some 29, (.t []), [], [], [12], [(6, (aI (↑a : Int))), (27, (.t []))], []⟩,
      ⟨some 30, (.t []), [], [], [12, 14], [(29, (.t [])), (27, (.t []))], []⟩,
      ⟨some 31, (.t []), [], [], [12, 13, 15], [(28, (.t [])), (30, (.t [])), (27, (.t []))], []⟩,
      ⟨some 32, (.t []), [], [], [12, 16], [(31, (.t [])), (27, (.t []))], []⟩,
      ⟨some 33, (.t []), [], [], [12, 17], [(32, (.t [])), (27, (.t []))], []⟩,
      ⟨some 34, (.t []), [], [], [12], [(5, (aC (.p 1 0 0 0))), (27, (.t []))], []⟩,
      ⟨some 35, (.t []), [], [], [12, 19], [(34, (.t [])), (27, (.t []))], []⟩,
      ⟨some 36, (.t []), [], [], [12, 18, 20], [(33, (.t [])), (35, (.t [])), (27, (.t []))], []⟩,
      ⟨some 37, (.t []), [], [], [12, 21], [(36, (.t [])), (27, (.t []))], []⟩,
      ⟨some 38, (.t []), [], [], [22], [(3, (aC (.s 0 0 4 m.length))), (37, (.t []))], []⟩,
      ⟨some 39, (.t []), [], [], [22], [(6, (aI (↑a : Int))), (37, (.t []))], []⟩,
      ⟨some 40, (.t []), [], [], [22, 24], [(39, (.t [])), (37, (.t []))], []⟩,
      ⟨some 41, (.t []), [], [], [22, 23, 25], [(38, (.t [])), (40, (.t [])), (37, (.t []))], []⟩,
      ⟨some 42, (.t []), [], [], [22, 26], [(41, (.t [])), (37, (.t []))], []⟩,
      ⟨some 43, (.t []), [], [], [22, 27], [(42, (.t [])), (37, (.t []))], []⟩,
      ⟨some 44, (.t []), [], [], [22], [(5, (aC (.p 1 0 0 0))), (37, (.t []))], []⟩,
      ⟨some 45, (.t []), [], [], [22, 29], [(44, (.t [])), (37, (.t []))], []⟩,
      ⟨some 46, (.t []), [], [], [22, 28, 30], [(43, (.t [])), (45, (.t [])), (37, (.t []))], []⟩,
      ⟨some 47, (.t []), [], [], [12, 22, 31], [(37, (.t [])), (46, (.t [])), (27, (.t []))], []⟩,
      ⟨some 48, (.t []), [], [], [2, 12, 32], [(27, (.t [])), (47, (.t [])), (17, (aB false))], []⟩,
      ⟨some 49, (aB false), [], [], [2, 33], [(17, (aB false)), (48, (.t []))], []⟩] ⟨[(2, (aC cN)), (3, (aC (.s 0 0 4 m.length))), (7, (aC (cR 4 ((l).map rRecord)))), (8, (aI (↑l.length : Int))), (9, (aI (↑q : Int))), (5, (aC (.p 1 0 0 0))), (6, (aI (↑a : Int))), (49, (aB false))], [(1, (.box 127 [(cI x1.shop), (cI x1.auth), (cI x1.kind), (cI x1.sum)])), (0, (.arr 127 4 ((m).map rRecord)))], 2⟩ mixed (by kernel_rfl) ?_ ?_ ?_ ?_
          · exact ⟨.inl ⟨(Wanted.plain rfl), GOp.cast (g_move rfl rfl) rfl⟩,
      .inl ⟨(Wanted.plain rfl), GOp.cast (g_binI rfl rfl rfl (congrArg (fun b => some (Value.bool b)) hb2)) rfl⟩,
      .inl ⟨(Wanted.plain rfl), GOp.cast (g_move rfl rfl) rfl⟩,
      .inr ⟨(Unwanted.no rfl rfl rfl), rfl, rfl, rfl⟩,
      .inr ⟨(Unwanted.no rfl rfl rfl), rfl, rfl, rfl⟩,
      .inr ⟨(Unwanted.no rfl rfl rfl), rfl, rfl, rfl⟩,
      .inr ⟨(Unwanted.no rfl rfl rfl), rfl, rfl, rfl⟩,
      .inr ⟨(Unwanted.no rfl rfl rfl), rfl, rfl, rfl⟩,
      .inr ⟨(Unwanted.no rfl rfl rfl), rfl, rfl, rfl⟩,
      .inr ⟨(Unwanted.no rfl rfl rfl), rfl, rfl, rfl⟩,
      .inr ⟨(Unwanted.no rfl rfl rfl), rfl, rfl, rfl⟩,
      .inr ⟨(Unwanted.no rfl rfl rfl), rfl, rfl, rfl⟩,
      .inr ⟨(Unwanted.no rfl rfl rfl), rfl, rfl, rfl⟩,
      .inr ⟨(Unwanted.un rfl rfl rfl), rfl, rfl, rfl⟩,
      .inr ⟨(Unwanted.un rfl rfl rfl), rfl, rfl, rfl⟩,
      .inr ⟨(Unwanted.un rfl rfl rfl), rfl, rfl, rfl⟩,
      .inr ⟨(Unwanted.un rfl rfl rfl), rfl, rfl, rfl⟩,
      .inr ⟨(Unwanted.un rfl rfl rfl), rfl, rfl, rfl⟩,
      .inr ⟨(Unwanted.un rfl rfl rfl), rfl, rfl, rfl⟩,
      .inr ⟨(Unwanted.un rfl rfl rfl), rfl, rfl, rfl⟩,
      .inr ⟨(Unwanted.un rfl rfl rfl), rfl, rfl, rfl⟩,
      .inr ⟨(Unwanted.un rfl rfl rfl), rfl, rfl, rfl⟩,
      .inr ⟨(Unwanted.un rfl rfl rfl), rfl, rfl, rfl⟩,
      .inr ⟨(Unwanted.un rfl rfl rfl), rfl, rfl, rfl⟩,
      .inr ⟨(Unwanted.un rfl rfl rfl), rfl, rfl, rfl⟩,
      .inr ⟨(Unwanted.un rfl rfl rfl), rfl, rfl, rfl⟩,
      .inr ⟨(Unwanted.un rfl rfl rfl), rfl, rfl, rfl⟩,
      .inr ⟨(Unwanted.un rfl rfl rfl), rfl, rfl, rfl⟩,
      .inr ⟨(Unwanted.un rfl rfl rfl), rfl, rfl, rfl⟩,
      .inr ⟨(Unwanted.un rfl rfl rfl), rfl, rfl, rfl⟩,
      .inr ⟨(Unwanted.un rfl rfl rfl), rfl, rfl, rfl⟩,
      .inr ⟨(Unwanted.un rfl rfl rfl), rfl, rfl, rfl⟩,
      .inr ⟨(Unwanted.un rfl rfl rfl), rfl, rfl, rfl⟩,
      .inr ⟨(Unwanted.no rfl rfl rfl), rfl, rfl, rfl⟩,
      .inl ⟨(Wanted.plain rfl), GOp.cast (g_pick rfl rfl rfl) rfl⟩,
       trivial⟩
          · exact ⟨⟨⟨.inl rfl,  trivial⟩, trivial⟩, ⟨⟨.inr ⟨0, .head _, _, rfl, rfl, rfl⟩,  trivial⟩, trivial⟩, ⟨⟨.inr ⟨1, .head _, _, rfl, rfl, rfl⟩,  trivial⟩, trivial⟩, ⟨⟨.inl rfl, .inr ⟨2, .head _, _, rfl, rfl, rfl⟩,  trivial⟩, trivial⟩, ⟨⟨.inl rfl, .inr ⟨2, .head _, _, rfl, rfl, rfl⟩,  trivial⟩, trivial⟩, ⟨⟨.inr ⟨4, .tail _ (.head _), _, rfl, rfl, rfl⟩, .inr ⟨2, .head _, _, rfl, rfl, rfl⟩,  trivial⟩, trivial⟩, ⟨⟨.inr ⟨3, .tail _ (.head _), _, rfl, rfl, rfl⟩, .inr ⟨5, .tail _ (.tail _ (.head _)), _, rfl, rfl, rfl⟩, .inr ⟨2, .head _, _, rfl, rfl, rfl⟩,  trivial⟩, trivial⟩, ⟨⟨.inr ⟨6, .tail _ (.head _), _, rfl, rfl, rfl⟩, .inr ⟨2, .head _, _, rfl, rfl, rfl⟩,  trivial⟩, trivial⟩, ⟨⟨.inr ⟨7, .tail _ (.head _), _, rfl, rfl, rfl⟩, .inr ⟨2, .head _, _, rfl, rfl, rfl⟩,  trivial⟩, trivial⟩, ⟨⟨.inl rfl, .inr ⟨2, .head _, _, rfl, rfl, rfl⟩,  trivial⟩, trivial⟩, ⟨⟨.inr ⟨9, .tail _ (.head _), _, rfl, rfl, rfl⟩, .inr ⟨2, .head _, _, rfl, rfl, rfl⟩,  trivial⟩, trivial⟩, ⟨⟨.inr ⟨8, .tail _ (.head _), _, rfl, rfl, rfl⟩, .inr ⟨10, .tail _ (.tail _ (.head _)), _, rfl, rfl, rfl⟩, .inr ⟨2, .head _, _, rfl, rfl, rfl⟩,  trivial⟩, trivial⟩, ⟨⟨.inr ⟨11, .tail _ (.head _), _, rfl, rfl, rfl⟩, .inr ⟨2, .head _, _, rfl, rfl, rfl⟩,  trivial⟩, trivial⟩, ⟨⟨.inl rfl, .inr ⟨12, .head _, _, rfl, rfl, rfl⟩,  trivial⟩, trivial⟩, ⟨⟨.inl rfl, .inr ⟨12, .head _, _, rfl, rfl, rfl⟩,  trivial⟩, trivial⟩, ⟨⟨.inr ⟨14, .tail _ (.head _), _, rfl, rfl, rfl⟩, .inr ⟨12, .head _, _, rfl, rfl, rfl⟩,  trivial⟩, trivial⟩, ⟨⟨.inr ⟨13, .tail _ (.head _), _, rfl, rfl, rfl⟩, .inr ⟨15, .tail _ (.tail _ (.head _)), _, rfl, rfl, rfl⟩, .inr ⟨12, .head _, _, rfl, rfl, rfl⟩,  trivial⟩, trivial⟩, ⟨⟨.inr ⟨16, .tail _ (.head _), _, rfl, rfl, rfl⟩, .inr ⟨12, .head _, _, rfl, rfl, rfl⟩,  trivial⟩, trivial⟩, ⟨⟨.inr ⟨17, .tail _ (.head _), _, rfl, rfl, rfl⟩, .inr ⟨12, .head _, _, rfl, rfl, rfl⟩,  trivial⟩, trivial⟩, ⟨⟨.inl rfl, .inr ⟨12, .head _, _, rfl, rfl, rfl⟩,  trivial⟩, trivial⟩, ⟨⟨.inr ⟨19, .tail _ (.head _), _, rfl, rfl, rfl⟩, .inr ⟨12, .head _, _, rfl, rfl, rfl⟩,  trivial⟩, trivial⟩, ⟨⟨.inr ⟨18, .tail _ (.head _), _, rfl, rfl, rfl⟩, .inr ⟨20, .tail _ (.tail _ (.head _)), _, rfl, rfl, rfl⟩, .inr ⟨12, .head _, _, rfl, rfl, rfl⟩,  trivial⟩, trivial⟩, ⟨⟨.inr ⟨21, .tail _ (.head _), _, rfl, rfl, rfl⟩, .inr ⟨12, .head _, _, rfl, rfl, rfl⟩,  trivial⟩, trivial⟩, ⟨⟨.inl rfl, .inr ⟨22, .head _, _, rfl, rfl, rfl⟩,  trivial⟩, trivial⟩, ⟨⟨.inl rfl, .inr ⟨22, .head _, _, rfl, rfl, rfl⟩,  trivial⟩, trivial⟩, ⟨⟨.inr ⟨24, .tail _ (.head _), _, rfl, rfl, rfl⟩, .inr ⟨22, .head _, _, rfl, rfl, rfl⟩,  trivial⟩, trivial⟩, ⟨⟨.inr ⟨23, .tail _ (.head _), _, rfl, rfl, rfl⟩, .inr ⟨25, .tail _ (.tail _ (.head _)), _, rfl, rfl, rfl⟩, .inr ⟨22, .head _, _, rfl, rfl, rfl⟩,  trivial⟩, trivial⟩, ⟨⟨.inr ⟨26, .tail _ (.head _), _, rfl, rfl, rfl⟩, .inr ⟨22, .head _, _, rfl, rfl, rfl⟩,  trivial⟩, trivial⟩, ⟨⟨.inr ⟨27, .tail _ (.head _), _, rfl, rfl, rfl⟩, .inr ⟨22, .head _, _, rfl, rfl, rfl⟩,  trivial⟩, trivial⟩, ⟨⟨.inl rfl, .inr ⟨22, .head _, _, rfl, rfl, rfl⟩,  trivial⟩, trivial⟩, ⟨⟨.inr ⟨29, .tail _ (.head _), _, rfl, rfl, rfl⟩, .inr ⟨22, .head _, _, rfl, rfl, rfl⟩,  trivial⟩, trivial⟩, ⟨⟨.inr ⟨28, .tail _ (.head _), _, rfl, rfl, rfl⟩, .inr ⟨30, .tail _ (.tail _ (.head _)), _, rfl, rfl, rfl⟩, .inr ⟨22, .head _, _, rfl, rfl, rfl⟩,  trivial⟩, trivial⟩, ⟨⟨.inr ⟨22, .tail _ (.head _), _, rfl, rfl, rfl⟩, .inr ⟨31, .tail _ (.tail _ (.head _)), _, rfl, rfl, rfl⟩, .inr ⟨12, .head _, _, rfl, rfl, rfl⟩,  trivial⟩, trivial⟩, ⟨⟨.inr ⟨12, .tail _ (.head _), _, rfl, rfl, rfl⟩, .inr ⟨32, .tail _ (.tail _ (.head _)), _, rfl, rfl, rfl⟩, .inr ⟨2, .head _, _, rfl, rfl, rfl⟩,  trivial⟩, trivial⟩, ⟨⟨.inr ⟨2, .head _, _, rfl, rfl, rfl⟩, .inr ⟨33, .tail _ (.head _), _, rfl, rfl, rfl⟩,  trivial⟩, trivial⟩,  trivial⟩
          · exact ⟨⟨.inl rfl, .inl rfl, .inl rfl, .inl rfl, .inl rfl, .inl rfl, .inl rfl, .inr ⟨34, _, rfl, rfl, rfl⟩,  trivial⟩, ⟨.inl rfl, .inl rfl,  trivial⟩⟩
          ·
            refine AL.nil ?_
            refine then_ok ?_
            refine AC.cond rfl (fun hno => by cases hno) (fun _ => ?_)
            refine AC.exit ?_
            refine then_exit ?_
            refine then_exit ?_
            refine block_hit ?_
            refine then_ok ?_
            rcases (show a = m.length ∨ a < m.length from by omega) with hs11 | hs11
            ·
              refine AC.weak (st' := ⟨[(2, (aC cN)), (3, (aC (.s 0 0 4 m.length))), (7, (aC (cR 4 ((l).map rRecord)))), (8, (aI (↑l.length : Int))), (9, (aI (↑q : Int))), (5, (aC (.p 1 0 0 0))), (6, (aI (↑a : Int)))], [(1, (.box 127 [(cI x1.shop), (cI x1.auth), (cI x1.kind), (cI x1.sum)])), (0, (.arr 127 4 ((m).map rRecord)))], 2⟩) (Weak.ren id (by refine ⟨?_, ?_, ?_, ?_, ?_, ?_, ?_,  trivial⟩ <;> first | rfl | (simp only [AV.map, GV.map, CV.map, AB.map', id]; done) | (congr 3; omega) | (congr 4; omega) | (simp only [List.length_append, List.length_cons, List.length_nil, List.length_set]; rfl)) (by refine ⟨?_, ?_,  trivial⟩ <;> first | rfl | (simp only [AV.map, GV.map, CV.map, AB.map', id]; done) | (congr 3; omega) | (congr 4; omega) | (simp only [List.length_append, List.length_cons, List.length_nil, List.length_set]; rfl)) rfl) ?_
              refine AC.draw [⟨some 52, (aC (.s 2 0 4 0)), [(2, (.arr 127 4 ((([] : List Record)).map rRecord)))], [], [], [], []⟩,
      ⟨some 53, (aC (.s 0 0 4 m.length)), [], [], [], [(3, (aC (.s 0 0 4 m.length)))], [(0, (.arr 127 4 ((m).map rRecord)))]⟩,
      ⟨some 54, (aI (↑a : Int)), [], [], [], [(6, (aI (↑a : Int)))], []⟩,
      ⟨some 55, (aC (.s 0 0 4 a)), [], [], [1, 2], [(53, (aC (.s 0 0 4 m.length))), (54, (aI (↑a : Int)))], [(0, (.arr 127 4 ((m).map rRecord)))]⟩,
      ⟨some 56, (aC (.s 3 0 4 a)), [(3, (.arr 127 4 ((((m).drop 0).take a).map rRecord)))], [2], [0, 3], [(52, (aC (.s 2 0 4 0))), (55, (aC (.s 0 0 4 a)))], [(0, (.arr 127 4 ((m).map rRecord))), (2, (.arr 127 4 ((([] : List Record)).map rRecord)))]⟩,
      ⟨some 57, (aG [(cI x1.shop), (cI x1.auth), (cI x1.kind), (cI x1.sum)]), [], [], [], [(5, (aC (.p 1 0 0 0)))], [(1, (.box 127 [(cI x1.shop), (cI x1.auth), (cI x1.kind), (cI x1.sum)]))]⟩,
      ⟨some 58, (aC (.s 4 0 4 1)), [(4, (.arr 127 4 (([x1]).map rRecord)))], [], [5], [(57, (aG [(cI x1.shop), (cI x1.auth), (cI x1.kind), (cI x1.sum)]))], []⟩,
      ⟨some 59, (aC (.s 5 0 4 (a + 1))), [(5, (.arr 127 4 (((((m).drop 0).take a) ++ ([x1])).map rRecord)))], [3], [4, 6], [(56, (aC (.s 3 0 4 a))), (58, (aC (.s 4 0 4 1)))], [(4, (.arr 127 4 (([x1]).map rRecord))), (3, (.arr 127 4 ((((m).drop 0).take a).map rRecord)))]⟩,
      ⟨some 60, (aC (.s 0 0 4 m.length)), [], [], [], [(3, (aC (.s 0 0 4 m.length)))], [(0, (.arr 127 4 ((m).map rRecord)))]⟩,
      ⟨some 61, (aI (↑a : Int)), [], [], [], [(6, (aI (↑a : Int)))], []⟩,
      ⟨some 62, (aC (cR 4 ((([] : List Record)).map rRecord))), [], [], [8, 9], [(60, (aC (.s 0 0 4 m.length))), (61, (aI (↑a : Int)))], [(0, (.arr 127 4 ((m).map rRecord)))]⟩,
      ⟨some 63, (aC (.s 6 0 4 ((a + 1) + ((([] : List Record)).length)))), [(6, (.arr 127 4 ((((((m).drop 0).take a) ++ ([x1])) ++ ([] : List Record)).map rRecord)))], [5], [7, 10], [(59, (aC (.s 5 0 4 (a + 1)))), (62, (aC (cR 4 ((([] : List Record)).map rRecord))))], [(5, (.arr 127 4 (((((m).drop 0).take a) ++ ([x1])).map rRecord)))]⟩] ⟨[(2, (aC cN)), (3, (aC (.s 0 0 4 m.length))), (7, (aC (cR 4 ((l).map rRecord)))), (8, (aI (↑l.length : Int))), (9, (aI (↑q : Int))), (5, (aC (.p 1 0 0 0))), (6, (aI (↑a : Int))), (63, (aC (.s 6 0 4 ((a + 1) + ((([] : List Record)).length)))))], [(6, (.arr 127 4 ((((((m).drop 0).take a) ++ ([x1])) ++ ([] : List Record)).map rRecord))), (1, (.box 127 [(cI x1.shop), (cI x1.auth), (cI x1.kind), (cI x1.sum)])), (0, (.arr 127 4 ((m).map rRecord)))], 7⟩ mixed (by kernel_rfl) ?_ ?_ ?_ ?_
              · exact ⟨.inl ⟨(Wanted.plain rfl), GOp.cast (g_lit (ys := []) (rows := (([] : List Record)).map rRecord) 2 sl114 rfl (by decide) trivial rfl rfl rfl rfl) rfl⟩,
      .inl ⟨(Wanted.plain rfl), GOp.cast (g_move rfl rfl) rfl⟩,
      .inl ⟨(Wanted.plain rfl), GOp.cast (g_move rfl rfl) rfl⟩,
      .inl ⟨(Wanted.plain rfl), GOp.cast (g_sliceP (l := 0) (h := a) rfl Try.underlying114 sz127 rfl (.inl ⟨rfl, rfl⟩) (.inr ⟨_, rfl, rfl⟩) (by first | omega | (simp; done) | (simp; omega)) (by first | omega | (simp; done) | (simp; omega)) (by first | omega | (simp; done) | (simp; omega)) rfl) rfl⟩,
      .inl ⟨(Wanted.plain rfl), GOp.cast (g_append (m := a) (N := a) (k2 := 3) (ys := (((m).drop 0).take a).map rRecord) sl114 rfl rfl rfl rfl rfl rfl (by first | omega | (simp; done) | (simp; omega)) rfl (.sub rfl (by first | omega | (simp; done) | (simp; omega)) (by simp)) (by first | omega | (simp; done) | (simp; omega)) (by first | omega | (simp; done) | (simp; omega)) rfl (by decide) (by first | omega | (simp; done) | (simp; omega)) (by first | omega | (simp; done) | (simp; omega))) rfl⟩,
      .inl ⟨(Wanted.plain rfl), GOp.cast (g_loadBs rfl rfl rfl Try.underlying127 rfl sz127 rfl rfl) rfl⟩,
      .inl ⟨(Wanted.plain rfl), GOp.cast (g_lit (ys := [(0, (.g [(cI x1.shop), (cI x1.auth), (cI x1.kind), (cI x1.sum)]))]) (rows := ([x1]).map rRecord) 4 sl114 rfl (by decide) ⟨⟨rfl, rfl⟩,  trivial⟩ rfl rfl rfl rfl) rfl⟩,
      .inl ⟨(Wanted.plain rfl), GOp.cast (g_append (m := 1) (N := a + 1) (k2 := 5) (ys := ([x1]).map rRecord) sl114 rfl rfl rfl rfl rfl rfl (by first | omega | (simp; done) | (simp; omega)) rfl (.s rfl (by first | omega | (simp; done) | (simp; omega))) (by first | omega | (simp; done) | (simp; omega)) (by first | omega | (simp; done) | (simp; omega)) appmap (by decide) (by first | omega | (simp; done) | (simp; omega)) (by first | omega | (simp; done) | (simp; omega))) rfl⟩,
      .inl ⟨(Wanted.plain rfl), GOp.cast (g_move rfl rfl) rfl⟩,
      .inl ⟨(Wanted.plain rfl), GOp.cast (g_move rfl rfl) rfl⟩,
      .inl ⟨(Wanted.plain rfl), GOp.cast (g_sliceE rfl Try.underlying114 sz127 rfl (evI rfl (by first | omega | (simp; done) | (simp; omega)))) rfl⟩,
      .inl ⟨(Wanted.plain rfl), GOp.cast (g_append (m := (([] : List Record)).length) (N := (a + 1) + ((([] : List Record)).length)) (k2 := 6) (ys := (([] : List Record)).map rRecord) sl114 rfl rfl rfl rfl rfl rfl (by first | omega | (simp; done) | (simp; omega)) rfl (.d _ _) (by first | omega | (simp; done) | (simp; omega)) (by first | omega | (simp; done) | (simp; omega)) appmap (by decide) (by first | omega | (simp; done) | (simp; omega)) (by first | omega | (simp; done) | (simp; omega))) rfl⟩,
       trivial⟩
              · exact ⟨⟨trivial, trivial⟩, ⟨⟨.inl rfl,  trivial⟩, ⟨.inl rfl,  trivial⟩⟩, ⟨⟨.inl rfl,  trivial⟩, trivial⟩, ⟨⟨.inr ⟨1, .head _, _, rfl, rfl, rfl⟩, .inr ⟨2, .tail _ (.head _), _, rfl, rfl, rfl⟩,  trivial⟩, ⟨.inl rfl,  trivial⟩⟩, ⟨⟨.inr ⟨0, .head _, _, rfl, rfl, rfl⟩, .inr ⟨3, .tail _ (.head _), _, rfl, rfl, rfl⟩,  trivial⟩, ⟨.inl rfl, .inr ⟨0, .head _, _, rfl, .head _⟩,  trivial⟩⟩, ⟨⟨.inl rfl,  trivial⟩, ⟨.inl rfl,  trivial⟩⟩, ⟨⟨.inr ⟨5, .head _, _, rfl, rfl, rfl⟩,  trivial⟩, trivial⟩, ⟨⟨.inr ⟨4, .head _, _, rfl, rfl, rfl⟩, .inr ⟨6, .tail _ (.head _), _, rfl, rfl, rfl⟩,  trivial⟩, ⟨.inr ⟨6, .tail _ (.head _), _, rfl, .head _⟩, .inr ⟨4, .head _, _, rfl, .head _⟩,  trivial⟩⟩, ⟨⟨.inl rfl,  trivial⟩, ⟨.inl rfl,  trivial⟩⟩, ⟨⟨.inl rfl,  trivial⟩, trivial⟩, ⟨⟨.inr ⟨8, .head _, _, rfl, rfl, rfl⟩, .inr ⟨9, .tail _ (.head _), _, rfl, rfl, rfl⟩,  trivial⟩, ⟨.inl rfl,  trivial⟩⟩, ⟨⟨.inr ⟨7, .head _, _, rfl, rfl, rfl⟩, .inr ⟨10, .tail _ (.head _), _, rfl, rfl, rfl⟩,  trivial⟩, ⟨.inr ⟨7, .head _, _, rfl, .head _⟩,  trivial⟩⟩,  trivial⟩
              · exact ⟨⟨.inl rfl, .inl rfl, .inl rfl, .inl rfl, .inl rfl, .inl rfl, .inl rfl, .inr ⟨11, _, rfl, rfl, rfl⟩,  trivial⟩, ⟨.inr ⟨11, _, rfl, .head _⟩, .inl rfl, .inl rfl,  trivial⟩⟩
              ·
                refine AL.fast 1 rfl ?_
                refine AL.nil ?_
                refine block_ok ?_
                refine then_ok ?_
                refine AC.region ?_
                refine AL.val (Wanted.plain rfl) (g_binI rfl rfl rfl (wrap_ok (by first | omega | (simp; done) | (simp; omega)))) rfl rfl ?_
                refine AL.fast 1 rfl ?_
                refine AL.nil ?_
                refine then_ok ?_
                have hsm : Srt m := by rw [hi0_1]; exact insP_srt _
                refine ⟨(q + 1, ((((m).drop 0).take a) ++ ([x1])) ++ ([] : List Record)), ⟨by omega, by rw [insP_take hx1, ← hi0_1, insR_at (a := a) (by omega) hsm hi1_1 (fun y h0 hy => by first | omega | (rw [hx2] at hy; injection hy with hy; subst hy; unfold leR; omega))]; first | (subst hs1; simp; done) | (rw [List.drop_zero, Nat.zero_add, List.take_of_length_le (l := m.drop a) (by rw [List.length_drop]; omega)]; done) | (simp; omega) | (simp_all; done), by simp only [List.length_append, List.length_take, List.length_drop, List.length_cons, List.length_nil]; omega⟩, by first | omega | (simp; done) | (simp; omega), Weak.ren (fun k => if k = 0 then 6 else k) (by refine ⟨?_, ?_, ?_, ?_, ?_,  trivial⟩ <;> first | rfl | (simp only [AV.map, GV.map, CV.map, AB.map', id]; done) | (congr 3; omega) | (congr 4; omega) | (simp only [List.length_append, List.length_cons, List.length_nil, List.length_set]; rfl) | (first | exact look_i rfl (by omega) | exact look_s rfl (by simp only [List.length_append, List.length_take, List.length_drop, List.length_cons, List.length_nil]; omega))) (⟨by first | rfl | (simp only [AV.map, GV.map, CV.map, AB.map', id]; done) | (congr 3; omega) | (congr 4; omega) | (simp only [List.length_append, List.length_cons, List.length_nil, List.length_set]; rfl), trivial⟩) rfl⟩
            ·
              refine AC.weak (st' := ⟨[(2, (aC cN)), (3, (aC (.s 0 0 4 m.length))), (7, (aC (cR 4 ((l).map rRecord)))), (8, (aI (↑l.length : Int))), (9, (aI (↑q : Int))), (5, (aC (.p 1 0 0 0))), (6, (aI (↑a : Int)))], [(1, (.box 127 [(cI x1.shop), (cI x1.auth), (cI x1.kind), (cI x1.sum)])), (0, (.arr 127 4 ((m).map rRecord)))], 2⟩) (Weak.ren id (by refine ⟨?_, ?_, ?_, ?_, ?_, ?_, ?_,  trivial⟩ <;> first | rfl | (simp only [AV.map, GV.map, CV.map, AB.map', id]; done) | (congr 3; omega) | (congr 4; omega) | (simp only [List.length_append, List.length_cons, List.length_nil, List.length_set]; rfl)) (by refine ⟨?_, ?_,  trivial⟩ <;> first | rfl | (simp only [AV.map, GV.map, CV.map, AB.map', id]; done) | (congr 3; omega) | (congr 4; omega) | (simp only [List.length_append, List.length_cons, List.length_nil, List.length_set]; rfl)) rfl) ?_
              refine AC.draw [⟨some 52, (aC (.s 2 0 4 0)), [(2, (.arr 127 4 ((([] : List Record)).map rRecord)))], [], [], [], []⟩,
      ⟨some 53, (aC (.s 0 0 4 m.length)), [], [], [], [(3, (aC (.s 0 0 4 m.length)))], [(0, (.arr 127 4 ((m).map rRecord)))]⟩,
      ⟨some 54, (aI (↑a : Int)), [], [], [], [(6, (aI (↑a : Int)))], []⟩,
      ⟨some 55, (aC (.s 0 0 4 a)), [], [], [1, 2], [(53, (aC (.s 0 0 4 m.length))), (54, (aI (↑a : Int)))], [(0, (.arr 127 4 ((m).map rRecord)))]⟩,
      ⟨some 56, (aC (.s 3 0 4 a)), [(3, (.arr 127 4 ((((m).drop 0).take a).map rRecord)))], [2], [0, 3], [(52, (aC (.s 2 0 4 0))), (55, (aC (.s 0 0 4 a)))], [(0, (.arr 127 4 ((m).map rRecord))), (2, (.arr 127 4 ((([] : List Record)).map rRecord)))]⟩,
      ⟨some 57, (aG [(cI x1.shop), (cI x1.auth), (cI x1.kind), (cI x1.sum)]), [], [], [], [(5, (aC (.p 1 0 0 0)))], [(1, (.box 127 [(cI x1.shop), (cI x1.auth), (cI x1.kind), (cI x1.sum)]))]⟩,
      ⟨some 58, (aC (.s 4 0 4 1)), [(4, (.arr 127 4 (([x1]).map rRecord)))], [], [5], [(57, (aG [(cI x1.shop), (cI x1.auth), (cI x1.kind), (cI x1.sum)]))], []⟩,
      ⟨some 59, (aC (.s 5 0 4 (a + 1))), [(5, (.arr 127 4 (((((m).drop 0).take a) ++ ([x1])).map rRecord)))], [3], [4, 6], [(56, (aC (.s 3 0 4 a))), (58, (aC (.s 4 0 4 1)))], [(4, (.arr 127 4 (([x1]).map rRecord))), (3, (.arr 127 4 ((((m).drop 0).take a).map rRecord)))]⟩,
      ⟨some 60, (aC (.s 0 0 4 m.length)), [], [], [], [(3, (aC (.s 0 0 4 m.length)))], [(0, (.arr 127 4 ((m).map rRecord)))]⟩,
      ⟨some 61, (aI (↑a : Int)), [], [], [], [(6, (aI (↑a : Int)))], []⟩,
      ⟨some 62, (aC (.s 0 (0 + a) 4 (m.length - a))), [], [], [8, 9], [(60, (aC (.s 0 0 4 m.length))), (61, (aI (↑a : Int)))], [(0, (.arr 127 4 ((m).map rRecord)))]⟩,
      ⟨some 63, (aC (.s 6 0 4 ((a + 1) + (m.length - a)))), [(6, (.arr 127 4 ((((((m).drop 0).take a) ++ ([x1])) ++ (((m).drop (0 + a)).take (m.length - a))).map rRecord)))], [5], [7, 10], [(59, (aC (.s 5 0 4 (a + 1)))), (62, (aC (.s 0 (0 + a) 4 (m.length - a))))], [(0, (.arr 127 4 ((m).map rRecord))), (5, (.arr 127 4 (((((m).drop 0).take a) ++ ([x1])).map rRecord)))]⟩] ⟨[(2, (aC cN)), (3, (aC (.s 0 0 4 m.length))), (7, (aC (cR 4 ((l).map rRecord)))), (8, (aI (↑l.length : Int))), (9, (aI (↑q : Int))), (5, (aC (.p 1 0 0 0))), (6, (aI (↑a : Int))), (63, (aC (.s 6 0 4 ((a + 1) + (m.length - a)))))], [(6, (.arr 127 4 ((((((m).drop 0).take a) ++ ([x1])) ++ (((m).drop (0 + a)).take (m.length - a))).map rRecord))), (1, (.box 127 [(cI x1.shop), (cI x1.auth), (cI x1.kind), (cI x1.sum)])), (0, (.arr 127 4 ((m).map rRecord)))], 7⟩ mixed (by kernel_rfl) ?_ ?_ ?_ ?_
              · exact ⟨.inl ⟨(Wanted.plain rfl), GOp.cast (g_lit (ys := []) (rows := (([] : List Record)).map rRecord) 2 sl114 rfl (by decide) trivial rfl rfl rfl rfl) rfl⟩,
      .inl ⟨(Wanted.plain rfl), GOp.cast (g_move rfl rfl) rfl⟩,
      .inl ⟨(Wanted.plain rfl), GOp.cast (g_move rfl rfl) rfl⟩,
      .inl ⟨(Wanted.plain rfl), GOp.cast (g_sliceP (l := 0) (h := a) rfl Try.underlying114 sz127 rfl (.inl ⟨rfl, rfl⟩) (.inr ⟨_, rfl, rfl⟩) (by first | omega | (simp; done) | (simp; omega)) (by first | omega | (simp; done) | (simp; omega)) (by first | omega | (simp; done) | (simp; omega)) rfl) rfl⟩,
      .inl ⟨(Wanted.plain rfl), GOp.cast (g_append (m := a) (N := a) (k2 := 3) (ys := (((m).drop 0).take a).map rRecord) sl114 rfl rfl rfl rfl rfl rfl (by first | omega | (simp; done) | (simp; omega)) rfl (.sub rfl (by first | omega | (simp; done) | (simp; omega)) (by simp)) (by first | omega | (simp; done) | (simp; omega)) (by first | omega | (simp; done) | (simp; omega)) rfl (by decide) (by first | omega | (simp; done) | (simp; omega)) (by first | omega | (simp; done) | (simp; omega))) rfl⟩,
      .inl ⟨(Wanted.plain rfl), GOp.cast (g_loadBs rfl rfl rfl Try.underlying127 rfl sz127 rfl rfl) rfl⟩,
      .inl ⟨(Wanted.plain rfl), GOp.cast (g_lit (ys := [(0, (.g [(cI x1.shop), (cI x1.auth), (cI x1.kind), (cI x1.sum)]))]) (rows := ([x1]).map rRecord) 4 sl114 rfl (by decide) ⟨⟨rfl, rfl⟩,  trivial⟩ rfl rfl rfl rfl) rfl⟩,
      .inl ⟨(Wanted.plain rfl), GOp.cast (g_append (m := 1) (N := a + 1) (k2 := 5) (ys := ([x1]).map rRecord) sl114 rfl rfl rfl rfl rfl rfl (by first | omega | (simp; done) | (simp; omega)) rfl (.s rfl (by first | omega | (simp; done) | (simp; omega))) (by first | omega | (simp; done) | (simp; omega)) (by first | omega | (simp; done) | (simp; omega)) appmap (by decide) (by first | omega | (simp; done) | (simp; omega)) (by first | omega | (simp; done) | (simp; omega))) rfl⟩,
      .inl ⟨(Wanted.plain rfl), GOp.cast (g_move rfl rfl) rfl⟩,
      .inl ⟨(Wanted.plain rfl), GOp.cast (g_move rfl rfl) rfl⟩,
      .inl ⟨(Wanted.plain rfl), GOp.cast (g_sliceP (l := a) (h := m.length) rfl Try.underlying114 sz127 rfl (.inr ⟨_, rfl, rfl⟩) (.inl ⟨rfl, rfl⟩) (by first | omega | (simp; done) | (simp; omega)) (by first | omega | (simp; done) | (simp; omega)) (by first | omega | (simp; done) | (simp; omega)) rfl) rfl⟩,
      .inl ⟨(Wanted.plain rfl), GOp.cast (g_append (m := m.length - a) (N := (a + 1) + (m.length - a)) (k2 := 6) (ys := (((m).drop (0 + a)).take (m.length - a)).map rRecord) sl114 rfl rfl rfl rfl rfl rfl (by first | omega | (simp; done) | (simp; omega)) rfl (.sub rfl (by first | omega | (simp; done) | (simp; omega)) (by simp)) (by first | omega | (simp; done) | (simp; omega)) (by first | omega | (simp; done) | (simp; omega)) appmap (by decide) (by first | omega | (simp; done) | (simp; omega)) (by first | omega | (simp; done) | (simp; omega))) rfl⟩,
       trivial⟩
              · exact ⟨⟨trivial, trivial⟩, ⟨⟨.inl rfl,  trivial⟩, ⟨.inl rfl,  trivial⟩⟩, ⟨⟨.inl rfl,  trivial⟩, trivial⟩, ⟨⟨.inr ⟨1, .head _, _, rfl, rfl, rfl⟩, .inr ⟨2, .tail _ (.head _), _, rfl, rfl, rfl⟩,  trivial⟩, ⟨.inl rfl,  trivial⟩⟩, ⟨⟨.inr ⟨0, .head _, _, rfl, rfl, rfl⟩, .inr ⟨3, .tail _ (.head _), _, rfl, rfl, rfl⟩,  trivial⟩, ⟨.inl rfl, .inr ⟨0, .head _, _, rfl, .head _⟩,  trivial⟩⟩, ⟨⟨.inl rfl,  trivial⟩, ⟨.inl rfl,  trivial⟩⟩, ⟨⟨.inr ⟨5, .head _, _, rfl, rfl, rfl⟩,  trivial⟩, trivial⟩, ⟨⟨.inr ⟨4, .head _, _, rfl, rfl, rfl⟩, .inr ⟨6, .tail _ (.head _), _, rfl, rfl, rfl⟩,  trivial⟩, ⟨.inr ⟨6, .tail _ (.head _), _, rfl, .head _⟩, .inr ⟨4, .head _, _, rfl, .head _⟩,  trivial⟩⟩, ⟨⟨.inl rfl,  trivial⟩, ⟨.inl rfl,  trivial⟩⟩, ⟨⟨.inl rfl,  trivial⟩, trivial⟩, ⟨⟨.inr ⟨8, .head _, _, rfl, rfl, rfl⟩, .inr ⟨9, .tail _ (.head _), _, rfl, rfl, rfl⟩,  trivial⟩, ⟨.inl rfl,  trivial⟩⟩, ⟨⟨.inr ⟨7, .head _, _, rfl, rfl, rfl⟩, .inr ⟨10, .tail _ (.head _), _, rfl, rfl, rfl⟩,  trivial⟩, ⟨.inl rfl, .inr ⟨7, .head _, _, rfl, .head _⟩,  trivial⟩⟩,  trivial⟩
              · exact ⟨⟨.inl rfl, .inl rfl, .inl rfl, .inl rfl, .inl rfl, .inl rfl, .inl rfl, .inr ⟨11, _, rfl, rfl, rfl⟩,  trivial⟩, ⟨.inr ⟨11, _, rfl, .head _⟩, .inl rfl, .inl rfl,  trivial⟩⟩
              ·
                refine AL.fast 1 rfl ?_
                refine AL.nil ?_
                refine block_ok ?_
                refine then_ok ?_
                refine AC.region ?_
                refine AL.val (Wanted.plain rfl) (g_binI rfl rfl rfl (wrap_ok (by first | omega | (simp; done) | (simp; omega)))) rfl rfl ?_
                refine AL.fast 1 rfl ?_
                refine AL.nil ?_
                refine then_ok ?_
                have hsm : Srt m := by rw [hi0_1]; exact insP_srt _
                refine ⟨(q + 1, ((((m).drop 0).take a) ++ ([x1])) ++ (((m).drop (0 + a)).take (m.length - a))), ⟨by omega, by rw [insP_take hx1, ← hi0_1, insR_at (a := a) (by omega) hsm hi1_1 (fun y h0 hy => by first | omega | (rw [hx2] at hy; injection hy with hy; subst hy; unfold leR; omega))]; first | (subst hs1; simp; done) | (rw [List.drop_zero, Nat.zero_add, List.take_of_length_le (l := m.drop a) (by rw [List.length_drop]; omega)]; done) | (simp; omega) | (simp_all; done), by simp only [List.length_append, List.length_take, List.length_drop, List.length_cons, List.length_nil]; omega⟩, by first | omega | (simp; done) | (simp; omega), Weak.ren (fun k => if k = 0 then 6 else k) (by refine ⟨?_, ?_, ?_, ?_, ?_,  trivial⟩ <;> first | rfl | (simp only [AV.map, GV.map, CV.map, AB.map', id]; done) | (congr 3; omega) | (congr 4; omega) | (simp only [List.length_append, List.length_cons, List.length_nil, List.length_set]; rfl) | (first | exact look_i rfl (by omega) | exact look_s rfl (by simp only [List.length_append, List.length_take, List.length_drop, List.length_cons, List.length_nil]; omega))) (⟨by first | rfl | (simp only [AV.map, GV.map, CV.map, AB.map', id]; done) | (congr 3; omega) | (congr 4; omega) | (simp only [List.length_append, List.length_cons, List.length_nil, List.length_set]; rfl), trivial⟩) rfl⟩
    ·
      have hc1' := hc1; try simp only [sumB, Bool.not_eq_true', Bool.not_eq_false', Bool.or_eq_true, Bool.or_eq_false_iff, Bool.and_eq_true, Bool.and_eq_false_imp, decide_eq_true_eq, decide_eq_false_iff_not, Bool.not_not, Bool.not_true, Bool.not_false] at hc1'
      refine AC.exit ?_
      refine then_exit ?_
      refine then_exit ?_
      refine block_hit ?_
      refine then_ok ?_
      refine AC.seq ?_
      refine AC.region ?_
      refine AL.fast 2 rfl ?_
      refine AL.nil ?_
      refine then_ok ?_
      refine AC.ret ?_
      have hX : sortR l = m := by
        rw [hi0_1, List.take_of_length_le (by omega)]; rfl
      rw [hX] at hr; clear hX
      subst hr
      refine retQ_mk (av' := outOf [(.c (.s 0 0 4 m.length))]) (nb' := [(0, (.arr 127 4 ((m).map rRecord)))]) (retQ_ret ⟨[(2, (aC (.s 0 0 4 m.length)))], [(0, (.arr 127 4 ((m).map rRecord)))], 1⟩ [.tmp 2] [(.c (.s 0 0 4 m.length))] (Weak.ren (fun k => if k = 0 then 0 else k) (⟨by first | rfl | (simp only [AV.map, GV.map, CV.map, AB.map', id]; done) | (congr 3; omega) | (congr 4; omega) | (simp only [List.length_append, List.length_cons, List.length_nil, List.length_set]; rfl), trivial⟩) (⟨by first | rfl | (simp only [AV.map, GV.map, CV.map, AB.map', id]; done) | (congr 3; omega) | (congr 4; omega) | (simp only [List.length_append, List.length_cons, List.length_nil, List.length_set]; rfl), trivial⟩) rfl) rfl ⟨.tmp rfl, trivial⟩ ⟨by first | rfl | (simp only [AV.map, GV.map, CV.map, AB.map', id]; done) | (congr 3; omega) | (congr 4; omega) | (simp only [List.length_append, List.length_cons, List.length_nil, List.length_set]; rfl), trivial⟩) ?_ ?_
      · first | rfl | (simp [outOf, aC]; done) | (simp [outOf, aC]; omega)
      · first | rfl | (simp; done) | (simp; omega)
end Go.Proofs.Ytgmcdlfmifijlaa.Dev
