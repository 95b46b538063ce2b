/- payref1.Parse. -/
import Derived.Test.YtgmcdlfmifijlaaDDay13
set_option linter.unusedVariables false
set_option linter.unusedSimpArgs false
namespace Go.Proofs.Ytgmcdlfmifijlaa.Dev
open Go.RowKit

set_option maxRecDepth 100000 in
set_option maxHeartbeats 4000000 in
theorem c_ref_Parse (b : List Int) (hb : ∀ c ∈ b, 0 ≤ c ∧ c ≤ 255) (hl : b.length ≤ 9223372036854775807) (r : List Record) (e : Int) (hr : parseR b = (r, e)) : Fn Try.prog 99 [(.c (cR 1 ((b).map rU8)))] (.t [(.c (.s 0 0 4 r.length)), (.c (cI e))]) [(0, (.arr 127 4 ((r).map rRecord)))] := by
  refine Fn.mk' 120 [(0, (aC (cR 1 ((b).map rU8))))] Try.func99 rfl rfl rfl rfl ?_
  intro W0 T0
  refine AC.len1 0 rfl (fun hlen0 => ?_)
  refine AC.seq ?_
  refine AC.region ?_
  refine AL.fast 2 rfl ?_
  refine AL.nil ?_
  refine then_ok ?_
  refine AC.seq ?_
  refine AC.seq ?_
  refine AC.region ?_
  refine AL.fast 1 rfl ?_
  refine AL.val (Wanted.plain rfl) (g_lenM rfl rfl rfl rfl rfl Try.underlying115) rfl rfl ?_
  refine AL.val (Wanted.plain rfl) (g_binI rfl rfl rfl rfl) rfl rfl ?_
  refine AL.fast 1 rfl ?_
  refine AL.dec (t := 14) rfl (fun hb1 => ?_) (fun hb1 => ?_)
  ·
    have hb1' := hb1; try simp only [sumB, Bool.not_eq_true', Bool.not_eq_false', Bool.or_eq_true, Bool.or_eq_false_iff, Bool.and_eq_true, Bool.and_eq_false_imp, decide_eq_true_eq, decide_eq_false_iff_not, Bool.not_not, Bool.not_true, Bool.not_false] at hb1'
    refine AL.fast 11 rfl ?_
    refine AL.nil ?_
    refine then_ok ?_
    refine AC.cond rfl (fun _ => ?_) (fun hno => by cases hno)
    refine AC.seq ?_
    refine AC.region ?_
    refine AL.fast 2 rfl ?_
    refine AL.nil ?_
    refine then_ok ?_
    refine AC.ret ?_
    refine then_ret ?_
    refine retQ_weak (Weak.nil 2 127 4 (by decide) rfl) ?_
    have hX : parseR b = (([] : List Record), 2) := by
      first | exact parseR_none (by omega) | exact parseR_form hx1 (by omega)
    rw [hX] at hr; clear hX
    simp only [Prod.mk.injEq] at hr; obtain ⟨rfl, rfl⟩ := hr
    refine retQ_mk (av' := outOf [(.c (.s 0 0 4 0)), (.c (cI 2))]) (nb' := [(0, (.arr 127 4 ((([] : List Record)).map rRecord)))]) (retQ_ret ⟨[(2, (aC (.s 0 0 4 0))), (3, (aI 2))], [(0, (.arr 127 4 ((([] : List Record)).map rRecord)))], 1⟩ [.tmp 2, .tmp 3] [(.c (.s 0 0 4 0)), (.c (cI 2))] (Weak.ren (fun k => if k = 0 then 0 else k) (by refine ⟨?_, ?_,  trivial⟩ <;> first | rfl | (simp only [AV.map, GV.map, CV.map, AB.map', id]; done) | (congr 3; omega) | (congr 4; omega) | (simp only [List.length_append, List.length_cons, List.length_nil, List.length_set]; rfl)) (⟨by first | rfl | (simp only [AV.map, GV.map, CV.map, AB.map', id]; done) | (congr 3; omega) | (congr 4; omega) | (simp only [List.length_append, List.length_cons, List.length_nil, List.length_set]; rfl), trivial⟩) rfl) rfl ⟨.tmp rfl, .tmp rfl, trivial⟩ ⟨by first | rfl | (simp only [AV.map, GV.map, CV.map, AB.map', id]; done) | (congr 3; omega) | (congr 4; omega) | (simp only [List.length_append, List.length_cons, List.length_nil, List.length_set]; rfl), trivial⟩) ?_ ?_
    · first | rfl | (simp [outOf, aC]; done) | (simp [outOf, aC]; omega)
    · first | rfl | (simp; done) | (simp; omega)
  ·
    have hb1' := hb1; try simp only [sumB, Bool.not_eq_true', Bool.not_eq_false', Bool.or_eq_true, Bool.or_eq_false_iff, Bool.and_eq_true, Bool.and_eq_false_imp, decide_eq_true_eq, decide_eq_false_iff_not, Bool.not_not, Bool.not_true, Bool.not_false] at hb1'
    refine AL.fast 1 rfl ?_
    refine AL.val (Wanted.yes rfl rfl rfl) (g_lenM rfl rfl rfl rfl rfl Try.underlying115) rfl rfl ?_
    refine AL.fast 1 rfl ?_
    obtain ⟨x1, hx1⟩ := exget (xs := b) (i := 0) (by first | omega | (simp; done) | (simp; omega))
    have hx1b := hb x1 (by first | exact List.mem_of_getElem? hx1 | exact List.mem_of_mem_drop (List.mem_of_getElem? hx1))
    refine AL.val (Wanted.yes rfl rfl rfl) (g_indexQ (i := 0) rfl rfl rfl Try.underlying115 sz5 (by first | omega | (simp; done) | (simp; omega)) (getmap hx1)) rfl rfl ?_
    refine AL.val (Wanted.yes rfl rfl rfl) (g_loadQ rfl rfl Try.underlying5 rfl rfl) rfl rfl ?_
    refine AL.val (Wanted.yes rfl rfl rfl) (g_convI rfl rfl (by rw [Try.underlying5]; rfl) Try.underlying3 (conv_i64 (by first | omega | (simp; done) | (simp; omega)))) rfl rfl ?_
    refine AL.val (Wanted.yes rfl rfl rfl) (g_binI rfl rfl rfl (wrap_ok (by first | omega | (simp; done) | (simp; omega)))) rfl rfl ?_
    refine AL.val (Wanted.yes rfl rfl rfl) (g_binI rfl rfl rfl (wrap_ok (by first | omega | (simp; done) | (simp; omega)))) rfl rfl ?_
    refine AL.val (Wanted.yes rfl rfl rfl) (g_binI rfl rfl rfl (wrap_ok (by first | omega | (simp; done) | (simp; omega)))) rfl rfl ?_
    refine AL.val (Wanted.yes rfl rfl rfl) (g_binI rfl rfl rfl rfl) rfl rfl ?_
    refine AL.fast 1 rfl ?_
    refine AL.nil ?_
    refine then_ok ?_
    refine AC.cond rfl (fun hc3 => ?_) (fun hc3 => ?_)
    ·
      have hc3' := hc3; try simp only [sumB, Bool.not_eq_true', Bool.not_eq_false', Bool.or_eq_true, Bool.or_eq_false_iff, Bool.and_eq_true, Bool.and_eq_false_imp, decide_eq_true_eq, decide_eq_false_iff_not, Bool.not_not, Bool.not_true, Bool.not_false] at hc3'
      refine AC.seq ?_
      refine AC.region ?_
      refine AL.fast 2 rfl ?_
      refine AL.nil ?_
      refine then_ok ?_
      refine AC.ret ?_
      refine then_ret ?_
      refine retQ_weak (Weak.nil 2 127 4 (by decide) rfl) ?_
      have hX : parseR b = (([] : List Record), 2) := by
        first | exact parseR_none (by omega) | exact parseR_form hx1 (by omega)
      rw [hX] at hr; clear hX
      simp only [Prod.mk.injEq] at hr; obtain ⟨rfl, rfl⟩ := hr
      refine retQ_mk (av' := outOf [(.c (.s 0 0 4 0)), (.c (cI 2))]) (nb' := [(0, (.arr 127 4 ((([] : List Record)).map rRecord)))]) (retQ_ret ⟨[(2, (aC (.s 0 0 4 0))), (3, (aI 2))], [(0, (.arr 127 4 ((([] : List Record)).map rRecord)))], 1⟩ [.tmp 2, .tmp 3] [(.c (.s 0 0 4 0)), (.c (cI 2))] (Weak.ren (fun k => if k = 0 then 0 else k) (by refine ⟨?_, ?_,  trivial⟩ <;> first | rfl | (simp only [AV.map, GV.map, CV.map, AB.map', id]; done) | (congr 3; omega) | (congr 4; omega) | (simp only [List.length_append, List.length_cons, List.length_nil, List.length_set]; rfl)) (⟨by first | rfl | (simp only [AV.map, GV.map, CV.map, AB.map', id]; done) | (congr 3; omega) | (congr 4; omega) | (simp only [List.length_append, List.length_cons, List.length_nil, List.length_set]; rfl), trivial⟩) rfl) rfl ⟨.tmp rfl, .tmp rfl, trivial⟩ ⟨by first | rfl | (simp only [AV.map, GV.map, CV.map, AB.map', id]; done) | (congr 3; omega) | (congr 4; omega) | (simp only [List.length_append, List.length_cons, List.length_nil, List.length_set]; rfl), trivial⟩) ?_ ?_
      · first | rfl | (simp [outOf, aC]; done) | (simp [outOf, aC]; omega)
      · first | rfl | (simp; done) | (simp; omega)
    ·
      have hc3' := hc3; try simp only [sumB, Bool.not_eq_true', Bool.not_eq_false', Bool.or_eq_true, Bool.or_eq_false_iff, Bool.and_eq_true, Bool.and_eq_false_imp, decide_eq_true_eq, decide_eq_false_iff_not, Bool.not_not, Bool.not_true, Bool.not_false] at hc3'
      refine AC.skip ?_
      refine then_ok ?_
      refine AC.seq ?_
      refine AC.region ?_
      refine AL.fast 1 rfl ?_
      refine AL.nil ?_
      refine then_ok ?_
      refine AC.seq ?_
      refine AC.region ?_
      refine AL.fast 1 rfl ?_
      refine AL.nil ?_
      refine then_ok ?_
      refine AC.seq ?_
      refine AC.seq ?_
      refine AC.region ?_
      refine AL.fast 1 rfl ?_
      refine AL.nil ?_
      refine then_ok ?_
      refine AC.block ?_
      refine AC.weak (Weak.nil 4 127 4 (by decide) rfl) ?_
      refine AC.loop (β := Nat × List Record × Int) (fun (p : Nat × List Record × Int) => match p with | (q, m, all) => ⟨[(0, (aC (cR 1 ((b).map rU8)))), (2, (aC cN)), (3, (aI 0)), (4, (aC (.s 0 0 4 m.length))), (5, (aI all)), (6, (aI (↑q : Int)))], [(0, (.arr 127 4 ((m).map rRecord)))], 1⟩) (fun (p : Nat × List Record × Int) => match p with | (q, m, all) => (q : Int) ≤ x1 ∧ m = recsB ((b.drop 1).take (6 * q)) ∧ m.length = q ∧ all = sumR m ∧ 0 ≤ all ∧ all ≤ 16777215 * (q : Int)) (fun (p : Nat × List Record × Int) => match p with | (q, m, all) => x1.toNat - q) (0, ([] : List Record), 0) ?_ ?_ ?_
      · exact ⟨by omega, rfl, rfl, rfl, by omega⟩
      · exact Weak.ren id (by refine ⟨?_, ?_, ?_, ?_, ?_, ?_,  trivial⟩ <;> first | rfl | (simp only [AV.map, GV.map, CV.map, AB.map', id]; done) | (congr 3; omega) | (congr 4; omega) | (simp only [List.length_append, List.length_cons, List.length_nil, List.length_set]; rfl)) (⟨by first | rfl | (simp only [AV.map, GV.map, CV.map, AB.map', id]; done) | (congr 3; omega) | (congr 4; omega) | (simp only [List.length_append, List.length_cons, List.length_nil, List.length_set]; rfl), trivial⟩) rfl
      ·
        rintro ⟨q, m, all⟩ ⟨hi0_0, hi0_1, hi0_2, hi0_3, hi0_4⟩
        refine AC.seq ?_
        refine AC.seq ?_
        refine AC.region ?_
        refine AL.fast 2 rfl ?_
        refine AL.val (Wanted.plain rfl) (g_indexQ (i := 0) rfl rfl rfl Try.underlying115 sz5 (by first | omega | (simp; done) | (simp; omega)) (getmap hx1)) rfl rfl ?_
        refine AL.val (Wanted.plain rfl) (g_loadQ rfl rfl Try.underlying5 rfl rfl) rfl rfl ?_
        refine AL.val (Wanted.plain rfl) (g_convI rfl rfl (by rw [Try.underlying5]; rfl) Try.underlying3 (conv_i64 (by first | omega | (simp; done) | (simp; omega)))) rfl rfl ?_
        refine AL.val (Wanted.plain rfl) (g_binI rfl rfl rfl rfl) rfl rfl ?_
        refine AL.nil ?_
        refine then_ok ?_
        refine AC.cond rfl (fun hc4 => ?_) (fun hc4 => ?_)
        ·
          have hc4' := hc4; try simp only [sumB, Bool.not_eq_true', Bool.not_eq_false', Bool.or_eq_true, Bool.or_eq_false_iff, Bool.and_eq_true, Bool.and_eq_false_imp, decide_eq_true_eq, decide_eq_false_iff_not, Bool.not_not, Bool.not_true, Bool.not_false] at hc4'
          refine AC.skip ?_
          refine then_ok ?_
          refine AC.seq ?_
          refine AC.block ?_
          refine AC.seq ?_
          refine AC.region ?_
          refine AL.fast 2 rfl ?_
          refine AL.val (Wanted.plain rfl) (g_binI rfl rfl rfl (wrap_ok (by first | omega | (simp; done) | (simp; omega)))) rfl rfl ?_
          refine AL.val (Wanted.plain rfl) (g_binI rfl rfl rfl (wrap_ok (by first | omega | (simp; done) | (simp; omega)))) rfl rfl ?_
          refine AL.val (Wanted.plain rfl) (g_sliceD (l := 1 + (6 * (q))) (h := b.length) (ys := ((b).drop (1 + (6 * (q)))).map rU8) rfl Try.underlying115 sz5 rfl (.inr ⟨_, rfl, (evI rfl (by first | omega | (simp; done) | (simp; omega)))⟩) (.inl ⟨rfl, by simp⟩) (by first | omega | (simp; done) | (simp; omega)) (by first | omega | (simp; done) | (simp; omega)) (by first | (simp; done) | (rw [List.map_drop]; exact List.take_of_length_le (by simp)))) rfl rfl ?_
          refine AL.fast 1 rfl ?_
          refine AL.nil ?_
          refine then_ok ?_
          refine AC.seq ?_
          obtain ⟨x2, hx2⟩ := exget (xs := ((b).drop (1 + (6 * (q))))) (i := 0) (by first | omega | (simp; done) | (simp; omega))
          have hx2b := hb x2 (by first | exact List.mem_of_getElem? hx2 | exact List.mem_of_mem_drop (List.mem_of_getElem? hx2))
          obtain ⟨x3, hx3⟩ := exget (xs := ((b).drop (1 + (6 * (q))))) (i := 1) (by first | omega | (simp; done) | (simp; omega))
          have hx3b := hb x3 (by first | exact List.mem_of_getElem? hx3 | exact List.mem_of_mem_drop (List.mem_of_getElem? hx3))
          obtain ⟨x4, hx4⟩ := exget (xs := ((b).drop (1 + (6 * (q))))) (i := 2) (by first | omega | (simp; done) | (simp; omega))
          have hx4b := hb x4 (by first | exact List.mem_of_getElem? hx4 | exact List.mem_of_mem_drop (List.mem_of_getElem? hx4))
          obtain ⟨x5, hx5⟩ := exget (xs := ((b).drop (1 + (6 * (q))))) (i := 3) (by first | omega | (simp; done) | (simp; omega))
          have hx5b := hb x5 (by first | exact List.mem_of_getElem? hx5 | exact List.mem_of_mem_drop (List.mem_of_getElem? hx5))
          obtain ⟨x6, hx6⟩ := exget (xs := ((b).drop (1 + (6 * (q))))) (i := 4) (by first | omega | (simp; done) | (simp; omega))
          have hx6b := hb x6 (by first | exact List.mem_of_getElem? hx6 | exact List.mem_of_mem_drop (List.mem_of_getElem? hx6))
          obtain ⟨x7, hx7⟩ := exget (xs := ((b).drop (1 + (6 * (q))))) (i := 5) (by first | omega | (simp; done) | (simp; omega))
          have hx7b := hb x7 (by first | exact List.mem_of_getElem? hx7 | exact List.mem_of_mem_drop (List.mem_of_getElem? hx7))
          refine AC.weak (st' := ⟨[(0, (aC (cR 1 ((b).map rU8)))), (2, (aC cN)), (3, (aI 0)), (4, (aC (.s 0 0 4 m.length))), (5, (aI all)), (6, (aI (↑q : Int))), (7, (aC (cR 1 (((b).drop (1 + (6 * (q)))).map rU8))))], [(0, (.arr 127 4 ((m).map rRecord)))], 1⟩) (Weak.ren id (by refine ⟨?_, ?_, ?_, ?_, ?_, ?_, ?_,  trivial⟩ <;> first | rfl | (simp only [AV.map, GV.map, CV.map, AB.map', id]; done) | (congr 3; omega) | (congr 4; omega) | (simp only [List.length_append, List.length_cons, List.length_nil, List.length_set]; rfl)) (⟨by first | rfl | (simp only [AV.map, GV.map, CV.map, AB.map', id]; done) | (congr 3; omega) | (congr 4; omega) | (simp only [List.length_append, List.length_cons, List.length_nil, List.length_set]; rfl), trivial⟩) rfl) ?_
          refine AC.draw [⟨some 39, (aC (cR 1 (((b).drop (1 + (6 * (q)))).map rU8))), [], [], [], [(7, (aC (cR 1 (((b).drop (1 + (6 * (q)))).map rU8))))], []⟩,
      ⟨some 40, (aC (.q (rU8 x2) 0)), [], [], [0], [(39, (aC (cR 1 (((b).drop (1 + (6 * (q)))).map rU8))))], []⟩,
      ⟨some 41, (aC (.d (.v (.int .u8 (x2 : Int))))), [], [], [1], [(40, (aC (.q (rU8 x2) 0)))], []⟩,
      ⟨some 42, (aI (x2 : Int)), [], [], [2], [(41, (aC (.d (.v (.int .u8 (x2 : Int))))))], []⟩,
      ⟨some 43, (aC (cR 1 (((b).drop (1 + (6 * (q)))).map rU8))), [], [], [], [(7, (aC (cR 1 (((b).drop (1 + (6 * (q)))).map rU8))))], []⟩,
      ⟨some 44, (aC (.q (rU8 x3) 0)), [], [], [4], [(43, (aC (cR 1 (((b).drop (1 + (6 * (q)))).map rU8))))], []⟩,
      ⟨some 45, (aC (.d (.v (.int .u8 (x3 : Int))))), [], [], [5], [(44, (aC (.q (rU8 x3) 0)))], []⟩,
      ⟨some 46, (aI (x3 : Int)), [], [], [6], [(45, (aC (.d (.v (.int .u8 (x3 : Int))))))], []⟩,
      ⟨some 47, (aC (cR 1 (((b).drop (1 + (6 * (q)))).map rU8))), [], [], [], [(7, (aC (cR 1 (((b).drop (1 + (6 * (q)))).map rU8))))], []⟩,
      ⟨some 48, (aC (.q (rU8 x4) 0)), [], [], [8], [(47, (aC (cR 1 (((b).drop (1 + (6 * (q)))).map rU8))))], []⟩,
      ⟨some 49, (aC (.d (.v (.int .u8 (x4 : Int))))), [], [], [9], [(48, (aC (.q (rU8 x4) 0)))], []⟩,
      ⟨some 50, (aI (x4 : Int)), [], [], [10], [(49, (aC (.d (.v (.int .u8 (x4 : Int))))))], []⟩,
      ⟨some 51, (aC (cR 1 (((b).drop (1 + (6 * (q)))).map rU8))), [], [], [], [(7, (aC (cR 1 (((b).drop (1 + (6 * (q)))).map rU8))))], []⟩,
      ⟨some 52, (aC (.q (rU8 x5) 0)), [], [], [12], [(51, (aC (cR 1 (((b).drop (1 + (6 * (q)))).map rU8))))], []⟩,
      ⟨some 53, (aC (.d (.v (.int .u8 (x5 : Int))))), [], [], [13], [(52, (aC (.q (rU8 x5) 0)))], []⟩,
      ⟨some 54, (aI (x5 : Int)), [], [], [14], [(53, (aC (.d (.v (.int .u8 (x5 : Int))))))], []⟩,
      ⟨some 55, (aI (65536 * (x5 : Int))), [], [], [15], [(54, (aI (x5 : Int)))], []⟩,
      ⟨some 56, (aC (cR 1 (((b).drop (1 + (6 * (q)))).map rU8))), [], [], [], [(7, (aC (cR 1 (((b).drop (1 + (6 * (q)))).map rU8))))], []⟩,
      ⟨some 57, (aC (.q (rU8 x6) 0)), [], [], [17], [(56, (aC (cR 1 (((b).drop (1 + (6 * (q)))).map rU8))))], []⟩,
      ⟨some 58, (aC (.d (.v (.int .u8 (x6 : Int))))), [], [], [18], [(57, (aC (.q (rU8 x6) 0)))], []⟩,
      ⟨some 59, (aI (x6 : Int)), [], [], [19], [(58, (aC (.d (.v (.int .u8 (x6 : Int))))))], []⟩,
      ⟨some 60, (aI (256 * (x6 : Int))), [], [], [20], [(59, (aI (x6 : Int)))], []⟩,
      ⟨some 61, (aI ((65536 * (x5 : Int)) + (256 * (x6 : Int)))), [], [], [16, 21], [(55, (aI (65536 * (x5 : Int)))), (60, (aI (256 * (x6 : Int))))], []⟩,
      ⟨some 62, (aC (cR 1 (((b).drop (1 + (6 * (q)))).map rU8))), [], [], [], [(7, (aC (cR 1 (((b).drop (1 + (6 * (q)))).map rU8))))], []⟩,
      ⟨some 63, (aC (.q (rU8 x7) 0)), [], [], [23], [(62, (aC (cR 1 (((b).drop (1 + (6 * (q)))).map rU8))))], []⟩,
      ⟨some 64, (aC (.d (.v (.int .u8 (x7 : Int))))), [], [], [24], [(63, (aC (.q (rU8 x7) 0)))], []⟩,
      ⟨some 65, (aI (x7 : Int)), [], [], [25], [(64, (aC (.d (.v (.int .u8 (x7 : Int))))))], []⟩,
      ⟨some 66, (aI (((65536 * (x5 : Int)) + (256 * (x6 : Int))) + (x7 : Int))), [], [], [22, 26], [(61, (aI ((65536 * (x5 : Int)) + (256 * (x6 : Int))))), (65, (aI (x7 : Int)))], []⟩,
      ⟨some 67, (aG [(cI (x2 : Int)), (cI (x3 : Int)), (cI (x4 : Int)), (cI (((65536 * (x5 : Int)) + (256 * (x6 : Int))) + (x7 : Int)))]), [], [], [3, 7, 11, 27], [(42, (aI (x2 : Int))), (46, (aI (x3 : Int))), (50, (aI (x4 : Int))), (66, (aI (((65536 * (x5 : Int)) + (256 * (x6 : Int))) + (x7 : Int))))], []⟩,
      ⟨some 8, (aC (.p 1 0 0 0)), [(1, (.box 127 [(cI 0), (cI 0), (cI 0), (cI 0)]))], [], [], [], []⟩] ⟨[(0, (aC (cR 1 ((b).map rU8)))), (2, (aC cN)), (3, (aI 0)), (4, (aC (.s 0 0 4 m.length))), (5, (aI all)), (6, (aI (↑q : Int))), (7, (aC (cR 1 (((b).drop (1 + (6 * (q)))).map rU8)))), (67, (aG [(cI (x2 : Int)), (cI (x3 : Int)), (cI (x4 : Int)), (cI (((65536 * (x5 : Int)) + (256 * (x6 : Int))) + (x7 : Int)))])), (8, (aC (.p 1 0 0 0)))], [(1, (.box 127 [(cI 0), (cI 0), (cI 0), (cI 0)])), (0, (.arr 127 4 ((m).map rRecord)))], 2⟩ mixed (by kernel_rfl) ?_ ?_ ?_ ?_
          · exact ⟨.inl ⟨(Wanted.plain rfl), GOp.cast (g_move rfl rfl) rfl⟩,
      .inl ⟨(Wanted.plain rfl), GOp.cast (g_indexQ (i := 0) rfl rfl rfl Try.underlying115 sz5 (by first | omega | (simp; done) | (simp; omega)) (getmap hx2)) rfl⟩,
      .inl ⟨(Wanted.plain rfl), GOp.cast (g_loadQ rfl rfl Try.underlying5 rfl rfl) rfl⟩,
      .inl ⟨(Wanted.plain rfl), GOp.cast (g_convI rfl rfl (by rw [Try.underlying5]; rfl) Try.underlying3 (conv_i64 (by first | omega | (simp; done) | (simp; omega)))) rfl⟩,
      .inl ⟨(Wanted.plain rfl), GOp.cast (g_move rfl rfl) rfl⟩,
      .inl ⟨(Wanted.plain rfl), GOp.cast (g_indexQ (i := 1) rfl rfl rfl Try.underlying115 sz5 (by first | omega | (simp; done) | (simp; omega)) (getmap hx3)) rfl⟩,
      .inl ⟨(Wanted.plain rfl), GOp.cast (g_loadQ rfl rfl Try.underlying5 rfl rfl) rfl⟩,
      .inl ⟨(Wanted.plain rfl), GOp.cast (g_convI rfl rfl (by rw [Try.underlying5]; rfl) Try.underlying3 (conv_i64 (by first | omega | (simp; done) | (simp; omega)))) rfl⟩,
      .inl ⟨(Wanted.plain rfl), GOp.cast (g_move rfl rfl) rfl⟩,
      .inl ⟨(Wanted.plain rfl), GOp.cast (g_indexQ (i := 2) rfl rfl rfl Try.underlying115 sz5 (by first | omega | (simp; done) | (simp; omega)) (getmap hx4)) rfl⟩,
      .inl ⟨(Wanted.plain rfl), GOp.cast (g_loadQ rfl rfl Try.underlying5 rfl rfl) rfl⟩,
      .inl ⟨(Wanted.plain rfl), GOp.cast (g_convI rfl rfl (by rw [Try.underlying5]; rfl) Try.underlying3 (conv_i64 (by first | omega | (simp; done) | (simp; omega)))) rfl⟩,
      .inl ⟨(Wanted.plain rfl), GOp.cast (g_move rfl rfl) rfl⟩,
      .inl ⟨(Wanted.plain rfl), GOp.cast (g_indexQ (i := 3) rfl rfl rfl Try.underlying115 sz5 (by first | omega | (simp; done) | (simp; omega)) (getmap hx5)) rfl⟩,
      .inl ⟨(Wanted.plain rfl), GOp.cast (g_loadQ rfl rfl Try.underlying5 rfl rfl) rfl⟩,
      .inl ⟨(Wanted.plain rfl), GOp.cast (g_convI rfl rfl (by rw [Try.underlying5]; rfl) Try.underlying3 (conv_i64 (by first | omega | (simp; done) | (simp; omega)))) rfl⟩,
      .inl ⟨(Wanted.plain rfl), GOp.cast (g_binI rfl rfl rfl (wrap_ok (by first | omega | (simp; done) | (simp; omega)))) rfl⟩,
      .inl ⟨(Wanted.plain rfl), GOp.cast (g_move rfl rfl) rfl⟩,
      .inl ⟨(Wanted.plain rfl), GOp.cast (g_indexQ (i := 4) rfl rfl rfl Try.underlying115 sz5 (by first | omega | (simp; done) | (simp; omega)) (getmap hx6)) rfl⟩,
      .inl ⟨(Wanted.plain rfl), GOp.cast (g_loadQ rfl rfl Try.underlying5 rfl rfl) rfl⟩,
      .inl ⟨(Wanted.plain rfl), GOp.cast (g_convI rfl rfl (by rw [Try.underlying5]; rfl) Try.underlying3 (conv_i64 (by first | omega | (simp; done) | (simp; omega)))) rfl⟩,
      .inl ⟨(Wanted.plain rfl), GOp.cast (g_binI rfl rfl rfl (wrap_ok (by first | omega | (simp; done) | (simp; omega)))) rfl⟩,
      .inl ⟨(Wanted.plain rfl), GOp.cast (g_binI rfl rfl rfl (wrap_ok (by first | omega | (simp; done) | (simp; omega)))) rfl⟩,
      .inl ⟨(Wanted.plain rfl), GOp.cast (g_move rfl rfl) rfl⟩,
      .inl ⟨(Wanted.plain rfl), GOp.cast (g_indexQ (i := 5) rfl rfl rfl Try.underlying115 sz5 (by first | omega | (simp; done) | (simp; omega)) (getmap hx7)) rfl⟩,
      .inl ⟨(Wanted.plain rfl), GOp.cast (g_loadQ rfl rfl Try.underlying5 rfl rfl) rfl⟩,
      .inl ⟨(Wanted.plain rfl), GOp.cast (g_convI rfl rfl (by rw [Try.underlying5]; rfl) Try.underlying3 (conv_i64 (by first | omega | (simp; done) | (simp; omega)))) rfl⟩,
      .inl ⟨(Wanted.plain rfl), GOp.cast (g_binI rfl rfl rfl (wrap_ok (by first | omega | (simp; done) | (simp; omega)))) rfl⟩,
      .inl ⟨(Wanted.plain rfl), GOp.cast (g_build (ys := [(0, (.c (cI (x2 : Int)))), (1, (.c (cI (x3 : Int)))), (2, (.c (cI (x4 : Int)))), (3, (.c (cI (((65536 * (x5 : Int)) + (256 * (x6 : Int))) + (x7 : Int)))))]) rfl bld127 rfl ⟨⟨rfl, rfl⟩, ⟨rfl, rfl⟩, ⟨rfl, rfl⟩, ⟨rfl, rfl⟩,  trivial⟩ rfl rfl) rfl⟩,
      .inl ⟨(Wanted.plain rfl), GOp.cast (g_alloc 1 rfl zv127 rfl rfl rfl) rfl⟩,
       trivial⟩
          · exact ⟨⟨⟨.inl rfl,  trivial⟩, trivial⟩, ⟨⟨.inr ⟨0, .head _, _, rfl, rfl, rfl⟩,  trivial⟩, trivial⟩, ⟨⟨.inr ⟨1, .head _, _, rfl, rfl, rfl⟩,  trivial⟩, trivial⟩, ⟨⟨.inr ⟨2, .head _, _, rfl, rfl, rfl⟩,  trivial⟩, trivial⟩, ⟨⟨.inl rfl,  trivial⟩, trivial⟩, ⟨⟨.inr ⟨4, .head _, _, rfl, rfl, rfl⟩,  trivial⟩, trivial⟩, ⟨⟨.inr ⟨5, .head _, _, rfl, rfl, rfl⟩,  trivial⟩, trivial⟩, ⟨⟨.inr ⟨6, .head _, _, rfl, rfl, rfl⟩,  trivial⟩, trivial⟩, ⟨⟨.inl rfl,  trivial⟩, trivial⟩, ⟨⟨.inr ⟨8, .head _, _, rfl, rfl, rfl⟩,  trivial⟩, trivial⟩, ⟨⟨.inr ⟨9, .head _, _, rfl, rfl, rfl⟩,  trivial⟩, trivial⟩, ⟨⟨.inr ⟨10, .head _, _, rfl, rfl, rfl⟩,  trivial⟩, trivial⟩, ⟨⟨.inl rfl,  trivial⟩, trivial⟩, ⟨⟨.inr ⟨12, .head _, _, rfl, rfl, rfl⟩,  trivial⟩, trivial⟩, ⟨⟨.inr ⟨13, .head _, _, rfl, rfl, rfl⟩,  trivial⟩, trivial⟩, ⟨⟨.inr ⟨14, .head _, _, rfl, rfl, rfl⟩,  trivial⟩, trivial⟩, ⟨⟨.inr ⟨15, .head _, _, rfl, rfl, rfl⟩,  trivial⟩, trivial⟩, ⟨⟨.inl rfl,  trivial⟩, trivial⟩, ⟨⟨.inr ⟨17, .head _, _, rfl, rfl, rfl⟩,  trivial⟩, trivial⟩, ⟨⟨.inr ⟨18, .head _, _, rfl, rfl, rfl⟩,  trivial⟩, trivial⟩, ⟨⟨.inr ⟨19, .head _, _, rfl, rfl, rfl⟩,  trivial⟩, trivial⟩, ⟨⟨.inr ⟨20, .head _, _, rfl, rfl, rfl⟩,  trivial⟩, trivial⟩, ⟨⟨.inr ⟨16, .head _, _, rfl, rfl, rfl⟩, .inr ⟨21, .tail _ (.head _), _, rfl, rfl, rfl⟩,  trivial⟩, trivial⟩, ⟨⟨.inl rfl,  trivial⟩, trivial⟩, ⟨⟨.inr ⟨23, .head _, _, rfl, rfl, rfl⟩,  trivial⟩, trivial⟩, ⟨⟨.inr ⟨24, .head _, _, rfl, rfl, rfl⟩,  trivial⟩, trivial⟩, ⟨⟨.inr ⟨25, .head _, _, rfl, rfl, rfl⟩,  trivial⟩, trivial⟩, ⟨⟨.inr ⟨22, .head _, _, rfl, rfl, rfl⟩, .inr ⟨26, .tail _ (.head _), _, rfl, rfl, rfl⟩,  trivial⟩, trivial⟩, ⟨⟨.inr ⟨3, .head _, _, rfl, rfl, rfl⟩, .inr ⟨7, .tail _ (.head _), _, rfl, rfl, rfl⟩, .inr ⟨11, .tail _ (.tail _ (.head _)), _, rfl, rfl, rfl⟩, .inr ⟨27, .tail _ (.tail _ (.tail _ (.head _))), _, rfl, rfl, rfl⟩,  trivial⟩, trivial⟩, ⟨trivial, trivial⟩,  trivial⟩
          · exact ⟨⟨.inl rfl, .inl rfl, .inl rfl, .inl rfl, .inl rfl, .inl rfl, .inl rfl, .inr ⟨28, _, rfl, rfl, rfl⟩, .inr ⟨29, _, rfl, rfl, rfl⟩,  trivial⟩, ⟨.inr ⟨29, _, rfl, .head _⟩, .inl rfl,  trivial⟩⟩
          ·
            refine AL.sto (h' := [(1, (.box 127 [(cI (x2 : Int)), (cI (x3 : Int)), (cI (x4 : Int)), (cI (((65536 * (x5 : Int)) + (256 * (x6 : Int))) + (x7 : Int)))])), (0, (.arr 127 4 ((m).map rRecord)))]) (Wanted.plain rfl) (g_storeB rfl rfl rfl rfl rfl sz127 rfl (Nat.le_of_ble_eq_true rfl) rfl) rfl rfl rfl rfl ?_
            refine AL.nil ?_
            refine then_ok ?_
            refine AC.seq ?_
            refine AC.region ?_
            refine AL.fast 1 rfl ?_
            refine AL.val (Wanted.plain rfl) (g_loadBs rfl rfl rfl Try.underlying127 rfl sz127 rfl rfl) rfl rfl ?_
            refine AL.new (n' := 3) (Wanted.plain rfl) (g_lit (ys := [(0, (.g [(cI (x2 : Int)), (cI (x3 : Int)), (cI (x4 : Int)), (cI (((65536 * (x5 : Int)) + (256 * (x6 : Int))) + (x7 : Int)))]))]) (rows := ([(⟨(x2 : Int), (x3 : Int), (x4 : Int), ((65536 * (x5 : Int)) + (256 * (x6 : Int))) + (x7 : Int)⟩ : Record)]).map rRecord) 2 sl114 rfl (by decide) ⟨⟨rfl, rfl⟩,  trivial⟩ rfl rfl rfl rfl) rfl rfl rfl ?_
            refine AL.eat (n' := 4) (h' := [(3, (.arr 127 4 ((m ++ ([(⟨(x2 : Int), (x3 : Int), (x4 : Int), ((65536 * (x5 : Int)) + (256 * (x6 : Int))) + (x7 : Int)⟩ : Record)])).map rRecord))), (2, (.arr 127 4 (([(⟨(x2 : Int), (x3 : Int), (x4 : Int), ((65536 * (x5 : Int)) + (256 * (x6 : Int))) + (x7 : Int)⟩ : Record)]).map rRecord))), (1, (.box 127 [(cI (x2 : Int)), (cI (x3 : Int)), (cI (x4 : Int)), (cI (((65536 * (x5 : Int)) + (256 * (x6 : Int))) + (x7 : Int)))]))]) (Wanted.plain rfl) (g_append (m := 1) (N := m.length + 1) (k2 := 3) (ys := ([(⟨(x2 : Int), (x3 : Int), (x4 : Int), ((65536 * (x5 : Int)) + (256 * (x6 : Int))) + (x7 : Int)⟩ : Record)]).map rRecord) sl114 rfl rfl rfl rfl rfl rfl (by first | omega | (simp; done) | (simp; omega)) rfl (.s rfl (by first | omega | (simp; done) | (simp; omega))) (by first | omega | (simp; done) | (simp; omega)) (by first | omega | (simp; done) | (simp; omega)) appmap (by decide) (by first | omega | (simp; done) | (simp; omega)) (by first | omega | (simp; done) | (simp; omega))) rfl rfl rfl rfl rfl ?_
            refine AL.fast 1 rfl ?_
            refine AL.nil ?_
            refine then_ok ?_
            refine AC.region ?_
            refine AL.fast 1 rfl ?_
            refine AL.val (Wanted.plain rfl) (g_fieldP rfl rfl Try.underlying127 rfl sz3 (by decide)) rfl rfl ?_
            refine AL.val (Wanted.plain rfl) (g_loadB rfl rfl rfl Try.underlying3 rfl rfl) rfl rfl ?_
            refine AL.val (Wanted.plain rfl) (g_binI rfl rfl rfl (wrap_ok (by first | omega | (simp; done) | (simp; omega)))) rfl rfl ?_
            refine AL.fast 1 rfl ?_
            refine AL.nil ?_
            refine block_ok ?_
            refine then_ok ?_
            refine AC.region ?_
            refine AL.fast 1 rfl ?_
            refine AL.val (Wanted.plain rfl) (g_binI rfl rfl rfl (wrap_ok (by first | omega | (simp; done) | (simp; omega)))) rfl rfl ?_
            refine AL.fast 1 rfl ?_
            refine AL.nil ?_
            refine then_ok ?_
            refine ⟨(q + 1, m ++ ([(⟨(x2 : Int), (x3 : Int), (x4 : Int), ((65536 * (x5 : Int)) + (256 * (x6 : Int))) + (x7 : Int)⟩ : Record)]), all + (((65536 * (x5 : Int)) + (256 * (x6 : Int))) + (x7 : Int))), ⟨by omega, by rw [recsB_step (by rw [List.drop_drop]; exact hx2) (by rw [List.drop_drop]; exact hx3) (by rw [List.drop_drop]; exact hx4) (by rw [List.drop_drop]; exact hx5) (by rw [List.drop_drop]; exact hx6) (by rw [List.drop_drop]; exact hx7), ← hi0_1], by simp only [List.length_append, List.length_cons, List.length_nil]; omega, by rw [sumR_app, ← hi0_3]; simp [sumR], by omega⟩, by first | omega | (simp; done) | (simp; omega), Weak.ren (fun k => if k = 0 then 3 else k) (by refine ⟨?_, ?_, ?_, ?_, ?_, ?_,  trivial⟩ <;> first | rfl | (simp only [AV.map, GV.map, CV.map, AB.map', id]; done) | (congr 3; omega) | (congr 4; omega) | (simp only [List.length_append, List.length_cons, List.length_nil, List.length_set]; rfl) | (first | exact look_i rfl (by omega) | exact look_s rfl (by simp only [List.length_append, List.length_take, List.length_drop, List.length_cons, List.length_nil]; omega))) (⟨by first | rfl | (simp only [AV.map, GV.map, CV.map, AB.map', id]; done) | (congr 3; omega) | (congr 4; omega) | (simp only [List.length_append, List.length_cons, List.length_nil, List.length_set]; rfl), trivial⟩) rfl⟩
        ·
          have hc4' := hc4; try simp only [sumB, Bool.not_eq_true', Bool.not_eq_false', Bool.or_eq_true, Bool.or_eq_false_iff, Bool.and_eq_true, Bool.and_eq_false_imp, decide_eq_true_eq, decide_eq_false_iff_not, Bool.not_not, Bool.not_true, Bool.not_false] at hc4'
          refine AC.exit ?_
          refine then_exit ?_
          refine then_exit ?_
          refine block_hit ?_
          refine then_ok ?_
          refine AC.seq ?_
          refine AC.seq ?_
          refine AC.region ?_
          refine AL.fast 1 rfl ?_
          obtain ⟨f0, hr0⟩ : ∃ (f0 : Fault), wrongR m = f0 := ⟨_, rfl⟩
          refine AL.call (n' := 1) (h' := [(0, (.arr 127 4 ((m).map rRecord)))]) (Wanted.plain rfl) (g_callE 1 [0] (c_ref_WrongR m  f0 hr0) en92 rfl rfl ⟨⟨_, rfl, .c (.s rfl (by decide) (by first | omega | (simp; done) | (simp; omega)))⟩,  trivial⟩ ⟨rfl, rfl,  trivial⟩ trivial rfl rfl rfl rfl) rfl rfl rfl rfl rfl ?_
          refine AL.new (n' := 2) (Wanted.plain rfl) (g_alloc 1 rfl zv47 rfl rfl rfl) rfl rfl rfl ?_
          refine AL.sto (h' := [(1, (.box 47 [(cI f0.err), (cI f0.at_)])), (0, (.arr 127 4 ((m).map rRecord)))]) (Wanted.plain rfl) (g_storeB rfl rfl rfl rfl rfl sz47 rfl (Nat.le_of_ble_eq_true rfl) rfl) rfl rfl rfl rfl ?_
          refine AL.nil ?_
          refine then_ok ?_
          refine AC.seq ?_
          refine AC.region ?_
          refine AL.val (Wanted.plain rfl) (g_fieldP rfl rfl Try.underlying47 rfl sz27 (by decide)) rfl rfl ?_
          refine AL.val (Wanted.plain rfl) (g_loadB rfl rfl rfl Try.underlying27 rfl rfl) rfl rfl ?_
          refine AL.val (Wanted.plain rfl) (g_binI rfl rfl rfl rfl) rfl rfl ?_
          refine AL.nil ?_
          refine then_ok ?_
          refine AC.cond rfl (fun hc5 => ?_) (fun hc5 => ?_)
          ·
            have hc5' := hc5; try simp only [sumB, Bool.not_eq_true', Bool.not_eq_false', Bool.or_eq_true, Bool.or_eq_false_iff, Bool.and_eq_true, Bool.and_eq_false_imp, decide_eq_true_eq, decide_eq_false_iff_not, Bool.not_not, Bool.not_true, Bool.not_false] at hc5'
            refine AC.seq ?_
            refine AC.weak (st' := ⟨[(0, (aC (cR 1 ((b).map rU8)))), (4, (aC (.s 0 0 4 m.length))), (5, (aI all)), (6, (aI (↑q : Int))), (9, (aC (.p 1 0 0 0)))], [(1, (.box 47 [(cI f0.err), (cI f0.at_)])), (0, (.arr 127 4 ((m).map rRecord)))], 2⟩) (Weak.ren id (by refine ⟨?_, ?_, ?_, ?_, ?_,  trivial⟩ <;> first | rfl | (simp only [AV.map, GV.map, CV.map, AB.map', id]; done) | (congr 3; omega) | (congr 4; omega) | (simp only [List.length_append, List.length_cons, List.length_nil, List.length_set]; rfl)) (by refine ⟨?_, ?_,  trivial⟩ <;> first | rfl | (simp only [AV.map, GV.map, CV.map, AB.map', id]; done) | (congr 3; omega) | (congr 4; omega) | (simp only [List.length_append, List.length_cons, List.length_nil, List.length_set]; rfl)) rfl) ?_
            refine AC.draw [⟨some 81, (aC (.p 1 0 0 0)), [], [], [], [(9, (aC (.p 1 0 0 0)))], []⟩,
      ⟨some 82, (aI f0.err), [], [], [0], [(81, (aC (.p 1 0 0 0)))], [(1, (.box 47 [(cI f0.err), (cI f0.at_)]))]⟩,
      ⟨some 2, (aC cN), [], [], [], [], []⟩,
      ⟨some 3, (aI f0.err), [], [], [1], [(82, (aI f0.err))], []⟩] ⟨[(0, (aC (cR 1 ((b).map rU8)))), (4, (aC (.s 0 0 4 m.length))), (5, (aI all)), (6, (aI (↑q : Int))), (9, (aC (.p 1 0 0 0))), (2, (aC cN)), (3, (aI f0.err))], [(1, (.box 47 [(cI f0.err), (cI f0.at_)])), (0, (.arr 127 4 ((m).map rRecord)))], 2⟩ mixed (by kernel_rfl) ?_ ?_ ?_ ?_
            · exact ⟨.inl ⟨(Wanted.plain rfl), GOp.cast (g_fieldP rfl rfl Try.underlying47 rfl sz27 (by decide)) rfl⟩,
      .inl ⟨(Wanted.plain rfl), GOp.cast (g_loadB rfl rfl rfl Try.underlying27 rfl rfl) rfl⟩,
      .inl ⟨(Wanted.plain rfl), GOp.cast (g_assign rfl rfl) rfl⟩,
      .inl ⟨(Wanted.plain rfl), GOp.cast (g_assign rfl rfl) rfl⟩,
       trivial⟩
            · exact ⟨⟨⟨.inl rfl,  trivial⟩, trivial⟩, ⟨⟨.inr ⟨0, .head _, _, rfl, rfl, rfl⟩,  trivial⟩, ⟨.inl rfl,  trivial⟩⟩, ⟨trivial, trivial⟩, ⟨⟨.inr ⟨1, .head _, _, rfl, rfl, rfl⟩,  trivial⟩, trivial⟩,  trivial⟩
            · exact ⟨⟨.inl rfl, .inl rfl, .inl rfl, .inl rfl, .inl rfl, .inr ⟨2, _, rfl, rfl, rfl⟩, .inr ⟨3, _, rfl, rfl, rfl⟩,  trivial⟩, ⟨.inl rfl, .inl rfl,  trivial⟩⟩
            ·
              refine AL.nil ?_
              refine then_ok ?_
              refine AC.ret ?_
              refine then_ret ?_
              refine retQ_weak (Weak.nil 2 127 4 (by decide) rfl) ?_
              have hX : parseR b = (([] : List Record), f0.err) := by
                rw [parseR_go hx1 (by omega) (show m = _ by rw [hi0_1]; congr 2; omega)]; rw [if_neg (by rw [hr0]; omega), hr0]
              rw [hX] at hr; clear hX
              simp only [Prod.mk.injEq] at hr; obtain ⟨rfl, rfl⟩ := hr
              refine retQ_mk (av' := outOf [(.c (.s 0 0 4 0)), (.c (cI f0.err))]) (nb' := [(0, (.arr 127 4 ((([] : List Record)).map rRecord)))]) (retQ_ret ⟨[(2, (aC (.s 0 0 4 0))), (3, (aI f0.err))], [(0, (.arr 127 4 ((([] : List Record)).map rRecord)))], 1⟩ [.tmp 2, .tmp 3] [(.c (.s 0 0 4 0)), (.c (cI f0.err))] (Weak.ren (fun k => if k = 0 then 2 else k) (by refine ⟨?_, ?_,  trivial⟩ <;> first | rfl | (simp only [AV.map, GV.map, CV.map, AB.map', id]; done) | (congr 3; omega) | (congr 4; omega) | (simp only [List.length_append, List.length_cons, List.length_nil, List.length_set]; rfl)) (⟨by first | rfl | (simp only [AV.map, GV.map, CV.map, AB.map', id]; done) | (congr 3; omega) | (congr 4; omega) | (simp only [List.length_append, List.length_cons, List.length_nil, List.length_set]; rfl), trivial⟩) rfl) rfl ⟨.tmp rfl, .tmp rfl, trivial⟩ ⟨by first | rfl | (simp only [AV.map, GV.map, CV.map, AB.map', id]; done) | (congr 3; omega) | (congr 4; omega) | (simp only [List.length_append, List.length_cons, List.length_nil, List.length_set]; rfl), trivial⟩) ?_ ?_
              · first | rfl | (simp [outOf, aC]; done) | (simp [outOf, aC]; omega)
              · first | rfl | (simp; done) | (simp; omega)
          ·
            have hc5' := hc5; try simp only [sumB, Bool.not_eq_true', Bool.not_eq_false', Bool.or_eq_true, Bool.or_eq_false_iff, Bool.and_eq_true, Bool.and_eq_false_imp, decide_eq_true_eq, decide_eq_false_iff_not, Bool.not_not, Bool.not_true, Bool.not_false] at hc5'
            refine AC.skip ?_
            refine then_ok ?_
            refine AC.seq ?_
            refine AC.region ?_
            refine AL.fast 2 rfl ?_
            refine AL.val (Wanted.plain rfl) (g_lenM rfl rfl rfl rfl rfl Try.underlying115) rfl rfl ?_
            refine AL.val (Wanted.plain rfl) (g_binI rfl rfl rfl (wrap_ok (by first | omega | (simp; done) | (simp; omega)))) rfl rfl ?_
            refine AL.val (Wanted.plain rfl) (g_sliceD (l := (b.length) - 4) (h := b.length) (ys := ((b).drop ((b.length) - 4)).map rU8) rfl Try.underlying115 sz5 rfl (.inr ⟨_, rfl, (evI rfl (by first | omega | (simp; done) | (simp; omega)))⟩) (.inl ⟨rfl, by simp⟩) (by first | omega | (simp; done) | (simp; omega)) (by first | omega | (simp; done) | (simp; omega)) (by first | (simp; done) | (rw [List.map_drop]; exact List.take_of_length_le (by simp)))) rfl rfl ?_
            refine AL.fast 1 rfl ?_
            refine AL.nil ?_
            refine then_ok ?_
            refine AC.seq ?_
            refine AC.seq ?_
            obtain ⟨x2, hx2⟩ := exget (xs := ((b).drop ((b.length) - 4))) (i := 0) (by first | omega | (simp; done) | (simp; omega))
            have hx2b := hb x2 (by first | exact List.mem_of_getElem? hx2 | exact List.mem_of_mem_drop (List.mem_of_getElem? hx2))
            obtain ⟨x3, hx3⟩ := exget (xs := ((b).drop ((b.length) - 4))) (i := 1) (by first | omega | (simp; done) | (simp; omega))
            have hx3b := hb x3 (by first | exact List.mem_of_getElem? hx3 | exact List.mem_of_mem_drop (List.mem_of_getElem? hx3))
            obtain ⟨x4, hx4⟩ := exget (xs := ((b).drop ((b.length) - 4))) (i := 2) (by first | omega | (simp; done) | (simp; omega))
            have hx4b := hb x4 (by first | exact List.mem_of_getElem? hx4 | exact List.mem_of_mem_drop (List.mem_of_getElem? hx4))
            obtain ⟨x5, hx5⟩ := exget (xs := ((b).drop ((b.length) - 4))) (i := 3) (by first | omega | (simp; done) | (simp; omega))
            have hx5b := hb x5 (by first | exact List.mem_of_getElem? hx5 | exact List.mem_of_mem_drop (List.mem_of_getElem? hx5))
            rcases Bool.eq_false_or_eq_true (decide (¬ all = ((((16777216 * (x2 : Int)) + (65536 * (x3 : Int))) + (256 * (x4 : Int))) + (x5 : Int)))) with hb6 | hb6
            ·
              have hb6' := hb6; try simp only [sumB, Bool.not_eq_true', Bool.not_eq_false', Bool.or_eq_true, Bool.or_eq_false_iff, Bool.and_eq_true, Bool.and_eq_false_imp, decide_eq_true_eq, decide_eq_false_iff_not, Bool.not_not, Bool.not_true, Bool.not_false] at hb6'
              refine AC.weak (st' := ⟨[(0, (aC (cR 1 ((b).map rU8)))), (2, (aC cN)), (3, (aI 0)), (4, (aC (.s 0 0 4 m.length))), (5, (aI all)), (6, (aI (↑q : Int))), (10, (aC (cR 1 (((b).drop ((b.length) - 4)).map rU8))))], [(0, (.arr 127 4 ((m).map rRecord)))], 2⟩) (Weak.ren id (by refine ⟨?_, ?_, ?_, ?_, ?_, ?_, ?_,  trivial⟩ <;> first | rfl | (simp only [AV.map, GV.map, CV.map, AB.map', id]; done) | (congr 3; omega) | (congr 4; omega) | (simp only [List.length_append, List.length_cons, List.length_nil, List.length_set]; rfl)) (⟨by first | rfl | (simp only [AV.map, GV.map, CV.map, AB.map', id]; done) | (congr 3; omega) | (congr 4; omega) | (simp only [List.length_append, List.length_cons, List.length_nil, List.length_set]; rfl), trivial⟩) rfl) ?_
              refine AC.draw [⟨some 88, (aI all), [], [], [], [(5, (aI all))], []⟩,
      ⟨some 89, (aC (cR 1 (((b).drop ((b.length) - 4)).map rU8))), [], [], [], [(10, (aC (cR 1 (((b).drop ((b.length) - 4)).map rU8))))], []⟩,
      ⟨some 90, (aC (.q (rU8 x2) 0)), [], [], [1], [(89, (aC (cR 1 (((b).drop ((b.length) - 4)).map rU8))))], []⟩,
      ⟨some 91, (aC (.d (.v (.int .u8 (x2 : Int))))), [], [], [2], [(90, (aC (.q (rU8 x2) 0)))], []⟩,
      ⟨some 92, (aI (x2 : Int)), [], [], [3], [(91, (aC (.d (.v (.int .u8 (x2 : Int))))))], []⟩,
      ⟨some 93, (aI (16777216 * (x2 : Int))), [], [], [4], [(92, (aI (x2 : Int)))], []⟩,
      ⟨some 94, (aC (cR 1 (((b).drop ((b.length) - 4)).map rU8))), [], [], [], [(10, (aC (cR 1 (((b).drop ((b.length) - 4)).map rU8))))], []⟩,
      ⟨some 95, (aC (.q (rU8 x3) 0)), [], [], [6], [(94, (aC (cR 1 (((b).drop ((b.length) - 4)).map rU8))))], []⟩,
      ⟨some 96, (aC (.d (.v (.int .u8 (x3 : Int))))), [], [], [7], [(95, (aC (.q (rU8 x3) 0)))], []⟩,
      ⟨some 97, (aI (x3 : Int)), [], [], [8], [(96, (aC (.d (.v (.int .u8 (x3 : Int))))))], []⟩,
      ⟨some 98, (aI (65536 * (x3 : Int))), [], [], [9], [(97, (aI (x3 : Int)))], []⟩,
      ⟨some 99, (aI ((16777216 * (x2 : Int)) + (65536 * (x3 : Int)))), [], [], [5, 10], [(93, (aI (16777216 * (x2 : Int)))), (98, (aI (65536 * (x3 : Int))))], []⟩,
      ⟨some 100, (aC (cR 1 (((b).drop ((b.length) - 4)).map rU8))), [], [], [], [(10, (aC (cR 1 (((b).drop ((b.length) - 4)).map rU8))))], []⟩,
      ⟨some 101, (aC (.q (rU8 x4) 0)), [], [], [12], [(100, (aC (cR 1 (((b).drop ((b.length) - 4)).map rU8))))], []⟩,
      ⟨some 102, (aC (.d (.v (.int .u8 (x4 : Int))))), [], [], [13], [(101, (aC (.q (rU8 x4) 0)))], []⟩,
      ⟨some 103, (aI (x4 : Int)), [], [], [14], [(102, (aC (.d (.v (.int .u8 (x4 : Int))))))], []⟩,
      ⟨some 104, (aI (256 * (x4 : Int))), [], [], [15], [(103, (aI (x4 : Int)))], []⟩,
      ⟨some 105, (aI (((16777216 * (x2 : Int)) + (65536 * (x3 : Int))) + (256 * (x4 : Int)))), [], [], [11, 16], [(99, (aI ((16777216 * (x2 : Int)) + (65536 * (x3 : Int))))), (104, (aI (256 * (x4 : Int))))], []⟩,
      ⟨some 106, (aC (cR 1 (((b).drop ((b.length) - 4)).map rU8))), [], [], [], [(10, (aC (cR 1 (((b).drop ((b.length) - 4)).map rU8))))], []⟩,
      ⟨some 107, (aC (.q (rU8 x5) 0)), [], [], [18], [(106, (aC (cR 1 (((b).drop ((b.length) - 4)).map rU8))))], []⟩,
      ⟨some 108, (aC (.d (.v (.int .u8 (x5 : Int))))), [], [], [19], [(107, (aC (.q (rU8 x5) 0)))], []⟩,
      ⟨some 109, (aI (x5 : Int)), [], [], [20], [(108, (aC (.d (.v (.int .u8 (x5 : Int))))))], []⟩,
      ⟨some 110, (aI ((((16777216 * (x2 : Int)) + (65536 * (x3 : Int))) + (256 * (x4 : Int))) + (x5 : Int))), [], [], [17, 21], [(105, (aI (((16777216 * (x2 : Int)) + (65536 * (x3 : Int))) + (256 * (x4 : Int))))), (109, (aI (x5 : Int)))], []⟩,
      ⟨some 111, (aB true), [], [], [0, 22], [(88, (aI all)), (110, (aI ((((16777216 * (x2 : Int)) + (65536 * (x3 : Int))) + (256 * (x4 : Int))) + (x5 : Int))))], []⟩,
      ⟨some 112, (aB true), [], [], [23], [(111, (aB true))], []⟩,
      ⟨some 113, (.t []), [], [], [24], [(4, (aC (.s 0 0 4 m.length))), (112, (aB true))], []⟩,
      ⟨some 114, (.t []), [], [], [24], [(4, (aC (.s 0 0 4 m.length))), (112, (aB true))], []⟩,
      ⟨some 115, (.t []), [], [], [24, 26], [(114, (.t [])), (112, (aB true))], []⟩,
      ⟨some 116, (.t []), [], [], [24, 25, 27], [(113, (.t [])), (115, (.t [])), (112, (aB true))], []⟩,
      ⟨some 117, (.t []), [], [], [24, 28], [(116, (.t [])), (112, (aB true))], []⟩,
      ⟨some 118, (aB true), [], [], [24, 29], [(112, (aB true)), (117, (.t []))], []⟩] ⟨[(0, (aC (cR 1 ((b).map rU8)))), (2, (aC cN)), (3, (aI 0)), (4, (aC (.s 0 0 4 m.length))), (5, (aI all)), (6, (aI (↑q : Int))), (10, (aC (cR 1 (((b).drop ((b.length) - 4)).map rU8)))), (118, (aB true))], [(0, (.arr 127 4 ((m).map rRecord)))], 2⟩ mixed (by kernel_rfl) ?_ ?_ ?_ ?_
              · exact ⟨.inl ⟨(Wanted.plain rfl), GOp.cast (g_move rfl rfl) rfl⟩,
      .inl ⟨(Wanted.plain rfl), GOp.cast (g_move rfl rfl) rfl⟩,
      .inl ⟨(Wanted.plain rfl), GOp.cast (g_indexQ (i := 0) rfl rfl rfl Try.underlying115 sz5 (by first | omega | (simp; done) | (simp; omega)) (getmap hx2)) rfl⟩,
      .inl ⟨(Wanted.plain rfl), GOp.cast (g_loadQ rfl rfl Try.underlying5 rfl rfl) rfl⟩,
      .inl ⟨(Wanted.plain rfl), GOp.cast (g_convI rfl rfl (by rw [Try.underlying5]; rfl) Try.underlying3 (conv_i64 (by first | omega | (simp; done) | (simp; omega)))) rfl⟩,
      .inl ⟨(Wanted.plain rfl), GOp.cast (g_binI rfl rfl rfl (wrap_ok (by first | omega | (simp; done) | (simp; omega)))) rfl⟩,
      .inl ⟨(Wanted.plain rfl), GOp.cast (g_move rfl rfl) rfl⟩,
      .inl ⟨(Wanted.plain rfl), GOp.cast (g_indexQ (i := 1) rfl rfl rfl Try.underlying115 sz5 (by first | omega | (simp; done) | (simp; omega)) (getmap hx3)) rfl⟩,
      .inl ⟨(Wanted.plain rfl), GOp.cast (g_loadQ rfl rfl Try.underlying5 rfl rfl) rfl⟩,
      .inl ⟨(Wanted.plain rfl), GOp.cast (g_convI rfl rfl (by rw [Try.underlying5]; rfl) Try.underlying3 (conv_i64 (by first | omega | (simp; done) | (simp; omega)))) rfl⟩,
      .inl ⟨(Wanted.plain rfl), GOp.cast (g_binI rfl rfl rfl (wrap_ok (by first | omega | (simp; done) | (simp; omega)))) rfl⟩,
      .inl ⟨(Wanted.plain rfl), GOp.cast (g_binI rfl rfl rfl (wrap_ok (by first | omega | (simp; done) | (simp; omega)))) rfl⟩,
      .inl ⟨(Wanted.plain rfl), GOp.cast (g_move rfl rfl) rfl⟩,
      .inl ⟨(Wanted.plain rfl), GOp.cast (g_indexQ (i := 2) rfl rfl rfl Try.underlying115 sz5 (by first | omega | (simp; done) | (simp; omega)) (getmap hx4)) rfl⟩,
      .inl ⟨(Wanted.plain rfl), GOp.cast (g_loadQ rfl rfl Try.underlying5 rfl rfl) rfl⟩,
      .inl ⟨(Wanted.plain rfl), GOp.cast (g_convI rfl rfl (by rw [Try.underlying5]; rfl) Try.underlying3 (conv_i64 (by first | omega | (simp; done) | (simp; omega)))) rfl⟩,
      .inl ⟨(Wanted.plain rfl), GOp.cast (g_binI rfl rfl rfl (wrap_ok (by first | omega | (simp; done) | (simp; omega)))) rfl⟩,
      .inl ⟨(Wanted.plain rfl), GOp.cast (g_binI rfl rfl rfl (wrap_ok (by first | omega | (simp; done) | (simp; omega)))) rfl⟩,
      .inl ⟨(Wanted.plain rfl), GOp.cast (g_move rfl rfl) rfl⟩,
      .inl ⟨(Wanted.plain rfl), GOp.cast (g_indexQ (i := 3) rfl rfl rfl Try.underlying115 sz5 (by first | omega | (simp; done) | (simp; omega)) (getmap hx5)) rfl⟩,
      .inl ⟨(Wanted.plain rfl), GOp.cast (g_loadQ rfl rfl Try.underlying5 rfl rfl) rfl⟩,
      .inl ⟨(Wanted.plain rfl), GOp.cast (g_convI rfl rfl (by rw [Try.underlying5]; rfl) Try.underlying3 (conv_i64 (by first | omega | (simp; done) | (simp; omega)))) rfl⟩,
      .inl ⟨(Wanted.plain rfl), GOp.cast (g_binI rfl rfl rfl (wrap_ok (by first | omega | (simp; done) | (simp; omega)))) rfl⟩,
      .inl ⟨(Wanted.plain rfl), GOp.cast (g_binI rfl rfl rfl (congrArg (fun b => some (Value.bool b)) hb6)) rfl⟩,
      .inl ⟨(Wanted.plain rfl), GOp.cast (g_move rfl rfl) rfl⟩,
      .inr ⟨(Unwanted.no rfl rfl rfl), rfl, rfl, rfl⟩,
      .inr ⟨(Unwanted.no rfl rfl rfl), rfl, rfl, rfl⟩,
      .inr ⟨(Unwanted.no rfl rfl rfl), rfl, rfl, rfl⟩,
      .inr ⟨(Unwanted.no rfl rfl rfl), rfl, rfl, rfl⟩,
      .inr ⟨(Unwanted.no rfl rfl rfl), rfl, rfl, rfl⟩,
      .inl ⟨(Wanted.plain rfl), GOp.cast (g_pick rfl rfl rfl) rfl⟩,
       trivial⟩
              · exact ⟨⟨⟨.inl rfl,  trivial⟩, trivial⟩, ⟨⟨.inl rfl,  trivial⟩, trivial⟩, ⟨⟨.inr ⟨1, .head _, _, rfl, rfl, rfl⟩,  trivial⟩, trivial⟩, ⟨⟨.inr ⟨2, .head _, _, rfl, rfl, rfl⟩,  trivial⟩, trivial⟩, ⟨⟨.inr ⟨3, .head _, _, rfl, rfl, rfl⟩,  trivial⟩, trivial⟩, ⟨⟨.inr ⟨4, .head _, _, rfl, rfl, rfl⟩,  trivial⟩, trivial⟩, ⟨⟨.inl rfl,  trivial⟩, trivial⟩, ⟨⟨.inr ⟨6, .head _, _, rfl, rfl, rfl⟩,  trivial⟩, trivial⟩, ⟨⟨.inr ⟨7, .head _, _, rfl, rfl, rfl⟩,  trivial⟩, trivial⟩, ⟨⟨.inr ⟨8, .head _, _, rfl, rfl, rfl⟩,  trivial⟩, trivial⟩, ⟨⟨.inr ⟨9, .head _, _, rfl, rfl, rfl⟩,  trivial⟩, trivial⟩, ⟨⟨.inr ⟨5, .head _, _, rfl, rfl, rfl⟩, .inr ⟨10, .tail _ (.head _), _, rfl, rfl, rfl⟩,  trivial⟩, trivial⟩, ⟨⟨.inl rfl,  trivial⟩, trivial⟩, ⟨⟨.inr ⟨12, .head _, _, rfl, rfl, rfl⟩,  trivial⟩, trivial⟩, ⟨⟨.inr ⟨13, .head _, _, rfl, rfl, rfl⟩,  trivial⟩, trivial⟩, ⟨⟨.inr ⟨14, .head _, _, rfl, rfl, rfl⟩,  trivial⟩, trivial⟩, ⟨⟨.inr ⟨15, .head _, _, rfl, rfl, rfl⟩,  trivial⟩, trivial⟩, ⟨⟨.inr ⟨11, .head _, _, rfl, rfl, rfl⟩, .inr ⟨16, .tail _ (.head _), _, rfl, rfl, rfl⟩,  trivial⟩, trivial⟩, ⟨⟨.inl rfl,  trivial⟩, trivial⟩, ⟨⟨.inr ⟨18, .head _, _, rfl, rfl, rfl⟩,  trivial⟩, trivial⟩, ⟨⟨.inr ⟨19, .head _, _, rfl, rfl, rfl⟩,  trivial⟩, trivial⟩, ⟨⟨.inr ⟨20, .head _, _, rfl, rfl, rfl⟩,  trivial⟩, trivial⟩, ⟨⟨.inr ⟨17, .head _, _, rfl, rfl, rfl⟩, .inr ⟨21, .tail _ (.head _), _, rfl, rfl, rfl⟩,  trivial⟩, trivial⟩, ⟨⟨.inr ⟨0, .head _, _, rfl, rfl, rfl⟩, .inr ⟨22, .tail _ (.head _), _, rfl, rfl, rfl⟩,  trivial⟩, trivial⟩, ⟨⟨.inr ⟨23, .head _, _, rfl, rfl, rfl⟩,  trivial⟩, trivial⟩, ⟨⟨.inl rfl, .inr ⟨24, .head _, _, rfl, rfl, rfl⟩,  trivial⟩, trivial⟩, ⟨⟨.inl rfl, .inr ⟨24, .head _, _, rfl, rfl, rfl⟩,  trivial⟩, trivial⟩, ⟨⟨.inr ⟨26, .tail _ (.head _), _, rfl, rfl, rfl⟩, .inr ⟨24, .head _, _, rfl, rfl, rfl⟩,  trivial⟩, trivial⟩, ⟨⟨.inr ⟨25, .tail _ (.head _), _, rfl, rfl, rfl⟩, .inr ⟨27, .tail _ (.tail _ (.head _)), _, rfl, rfl, rfl⟩, .inr ⟨24, .head _, _, rfl, rfl, rfl⟩,  trivial⟩, trivial⟩, ⟨⟨.inr ⟨28, .tail _ (.head _), _, rfl, rfl, rfl⟩, .inr ⟨24, .head _, _, rfl, rfl, rfl⟩,  trivial⟩, trivial⟩, ⟨⟨.inr ⟨24, .head _, _, rfl, rfl, rfl⟩, .inr ⟨29, .tail _ (.head _), _, rfl, rfl, rfl⟩,  trivial⟩, trivial⟩,  trivial⟩
              · exact ⟨⟨.inl rfl, .inl rfl, .inl rfl, .inl rfl, .inl rfl, .inl rfl, .inl rfl, .inr ⟨30, _, rfl, rfl, rfl⟩,  trivial⟩, ⟨.inl rfl,  trivial⟩⟩
              ·
                refine AL.nil ?_
                refine then_ok ?_
                refine AC.cond rfl (fun _ => ?_) (fun hno => by cases hno)
                refine AC.seq ?_
                refine AC.region ?_
                refine AL.fast 2 rfl ?_
                refine AL.nil ?_
                refine then_ok ?_
                refine AC.ret ?_
                refine then_ret ?_
                refine retQ_weak (Weak.nil 2 127 4 (by decide) rfl) ?_
                have hX : parseR b = (([] : List Record), 8) := by
                  have hnb := numB4 (d := b.drop (b.length - 4)) (by simp; omega) hx2 hx3 hx4 hx5
                  rw [parseR_go hx1 (by omega) (show m = _ by rw [hi0_1]; congr 2; omega)]
                  rw [if_pos (by rw [hr0]; omega), if_neg]
                  rintro ⟨h1, h2⟩
                  first | omega | (simp_all [sameList]; done)
                rw [hX] at hr; clear hX
                simp only [Prod.mk.injEq] at hr; obtain ⟨rfl, rfl⟩ := hr
                refine retQ_mk (av' := outOf [(.c (.s 0 0 4 0)), (.c (cI 8))]) (nb' := [(0, (.arr 127 4 ((([] : List Record)).map rRecord)))]) (retQ_ret ⟨[(2, (aC (.s 0 0 4 0))), (3, (aI 8))], [(0, (.arr 127 4 ((([] : List Record)).map rRecord)))], 1⟩ [.tmp 2, .tmp 3] [(.c (.s 0 0 4 0)), (.c (cI 8))] (Weak.ren (fun k => if k = 0 then 2 else k) (by refine ⟨?_, ?_,  trivial⟩ <;> first | rfl | (simp only [AV.map, GV.map, CV.map, AB.map', id]; done) | (congr 3; omega) | (congr 4; omega) | (simp only [List.length_append, List.length_cons, List.length_nil, List.length_set]; rfl)) (⟨by first | rfl | (simp only [AV.map, GV.map, CV.map, AB.map', id]; done) | (congr 3; omega) | (congr 4; omega) | (simp only [List.length_append, List.length_cons, List.length_nil, List.length_set]; rfl), trivial⟩) rfl) rfl ⟨.tmp rfl, .tmp rfl, trivial⟩ ⟨by first | rfl | (simp only [AV.map, GV.map, CV.map, AB.map', id]; done) | (congr 3; omega) | (congr 4; omega) | (simp only [List.length_append, List.length_cons, List.length_nil, List.length_set]; rfl), trivial⟩) ?_ ?_
                · first | rfl | (simp [outOf, aC]; done) | (simp [outOf, aC]; omega)
                · first | rfl | (simp; done) | (simp; omega)
            ·
              have hb6' := hb6; try simp only [sumB, Bool.not_eq_true', Bool.not_eq_false', Bool.or_eq_true, Bool.or_eq_false_iff, Bool.and_eq_true, Bool.and_eq_false_imp, decide_eq_true_eq, decide_eq_false_iff_not, Bool.not_not, Bool.not_true, Bool.not_false] at hb6'
              obtain ⟨r1, hr1⟩ : ∃ (r1 : List Record), sortR m = r1 := ⟨_, rfl⟩
              have hlr1 : r1.length = m.length := by rw [← hr1]; exact sortR_len _
              obtain ⟨r2, hr2⟩ : ∃ (r2 : Bool), sameList m r1 = r2 := ⟨_, rfl⟩
              refine AC.weak (st' := ⟨[(0, (aC (cR 1 ((b).map rU8)))), (2, (aC cN)), (3, (aI 0)), (4, (aC (.s 0 0 4 m.length))), (5, (aI all)), (6, (aI (↑q : Int))), (10, (aC (cR 1 (((b).drop ((b.length) - 4)).map rU8))))], [(0, (.arr 127 4 ((m).map rRecord)))], 2⟩) (Weak.ren id (by refine ⟨?_, ?_, ?_, ?_, ?_, ?_, ?_,  trivial⟩ <;> first | rfl | (simp only [AV.map, GV.map, CV.map, AB.map', id]; done) | (congr 3; omega) | (congr 4; omega) | (simp only [List.length_append, List.length_cons, List.length_nil, List.length_set]; rfl)) (⟨by first | rfl | (simp only [AV.map, GV.map, CV.map, AB.map', id]; done) | (congr 3; omega) | (congr 4; omega) | (simp only [List.length_append, List.length_cons, List.length_nil, List.length_set]; rfl), trivial⟩) rfl) ?_
              refine AC.draw [⟨some 88, (aI all), [], [], [], [(5, (aI all))], []⟩,
      ⟨some 89, (aC (cR 1 (((b).drop ((b.length) - 4)).map rU8))), [], [], [], [(10, (aC (cR 1 (((b).drop ((b.length) - 4)).map rU8))))], []⟩,
      ⟨some 90, (aC (.q (rU8 x2) 0)), [], [], [1], [(89, (aC (cR 1 (((b).drop ((b.length) - 4)).map rU8))))], []⟩,
      ⟨some 91, (aC (.d (.v (.int .u8 (x2 : Int))))), [], [], [2], [(90, (aC (.q (rU8 x2) 0)))], []⟩,
      ⟨some 92, (aI (x2 : Int)), [], [], [3], [(91, (aC (.d (.v (.int .u8 (x2 : Int))))))], []⟩,
      ⟨some 93, (aI (16777216 * (x2 : Int))), [], [], [4], [(92, (aI (x2 : Int)))], []⟩,
      ⟨some 94, (aC (cR 1 (((b).drop ((b.length) - 4)).map rU8))), [], [], [], [(10, (aC (cR 1 (((b).drop ((b.length) - 4)).map rU8))))], []⟩,
      ⟨some 95, (aC (.q (rU8 x3) 0)), [], [], [6], [(94, (aC (cR 1 (((b).drop ((b.length) - 4)).map rU8))))], []⟩,
      ⟨some 96, (aC (.d (.v (.int .u8 (x3 : Int))))), [], [], [7], [(95, (aC (.q (rU8 x3) 0)))], []⟩,
      ⟨some 97, (aI (x3 : Int)), [], [], [8], [(96, (aC (.d (.v (.int .u8 (x3 : Int))))))], []⟩,
      ⟨some 98, (aI (65536 * (x3 : Int))), [], [], [9], [(97, (aI (x3 : Int)))], []⟩,
      ⟨some 99, (aI ((16777216 * (x2 : Int)) + (65536 * (x3 : Int)))), [], [], [5, 10], [(93, (aI (16777216 * (x2 : Int)))), (98, (aI (65536 * (x3 : Int))))], []⟩,
      ⟨some 100, (aC (cR 1 (((b).drop ((b.length) - 4)).map rU8))), [], [], [], [(10, (aC (cR 1 (((b).drop ((b.length) - 4)).map rU8))))], []⟩,
      ⟨some 101, (aC (.q (rU8 x4) 0)), [], [], [12], [(100, (aC (cR 1 (((b).drop ((b.length) - 4)).map rU8))))], []⟩,
      ⟨some 102, (aC (.d (.v (.int .u8 (x4 : Int))))), [], [], [13], [(101, (aC (.q (rU8 x4) 0)))], []⟩,
      ⟨some 103, (aI (x4 : Int)), [], [], [14], [(102, (aC (.d (.v (.int .u8 (x4 : Int))))))], []⟩,
      ⟨some 104, (aI (256 * (x4 : Int))), [], [], [15], [(103, (aI (x4 : Int)))], []⟩,
      ⟨some 105, (aI (((16777216 * (x2 : Int)) + (65536 * (x3 : Int))) + (256 * (x4 : Int)))), [], [], [11, 16], [(99, (aI ((16777216 * (x2 : Int)) + (65536 * (x3 : Int))))), (104, (aI (256 * (x4 : Int))))], []⟩,
      ⟨some 106, (aC (cR 1 (((b).drop ((b.length) - 4)).map rU8))), [], [], [], [(10, (aC (cR 1 (((b).drop ((b.length) - 4)).map rU8))))], []⟩,
      ⟨some 107, (aC (.q (rU8 x5) 0)), [], [], [18], [(106, (aC (cR 1 (((b).drop ((b.length) - 4)).map rU8))))], []⟩,
      ⟨some 108, (aC (.d (.v (.int .u8 (x5 : Int))))), [], [], [19], [(107, (aC (.q (rU8 x5) 0)))], []⟩,
      ⟨some 109, (aI (x5 : Int)), [], [], [20], [(108, (aC (.d (.v (.int .u8 (x5 : Int))))))], []⟩,
      ⟨some 110, (aI ((((16777216 * (x2 : Int)) + (65536 * (x3 : Int))) + (256 * (x4 : Int))) + (x5 : Int))), [], [], [17, 21], [(105, (aI (((16777216 * (x2 : Int)) + (65536 * (x3 : Int))) + (256 * (x4 : Int))))), (109, (aI (x5 : Int)))], []⟩,
      ⟨some 111, (aB false), [], [], [0, 22], [(88, (aI all)), (110, (aI ((((16777216 * (x2 : Int)) + (65536 * (x3 : Int))) + (256 * (x4 : Int))) + (x5 : Int))))], []⟩,
      ⟨some 112, (aB false), [], [], [23], [(111, (aB false))], []⟩,
      ⟨some 113, (aC (.s 0 0 4 m.length)), [], [], [24], [(4, (aC (.s 0 0 4 m.length))), (112, (aB false))], []⟩,
      ⟨some 114, (aC (.s 0 0 4 m.length)), [], [], [24], [(4, (aC (.s 0 0 4 m.length))), (112, (aB false))], []⟩,
      ⟨some 115, (aC (.s 2 0 4 r1.length)), [(2, (.arr 127 4 ((r1).map rRecord)))], [], [24, 26], [(114, (aC (.s 0 0 4 m.length))), (112, (aB false))], [(0, (.arr 127 4 ((m).map rRecord)))]⟩,
      ⟨some 116, (aB r2), [], [], [24, 25, 27], [(113, (aC (.s 0 0 4 m.length))), (115, (aC (.s 2 0 4 r1.length))), (112, (aB false))], [(2, (.arr 127 4 ((r1).map rRecord))), (0, (.arr 127 4 ((m).map rRecord)))]⟩,
      ⟨some 117, (aB (!r2)), [], [], [24, 28], [(116, (aB r2)), (112, (aB false))], []⟩,
      ⟨some 118, (aB (!r2)), [], [], [24, 29], [(112, (aB false)), (117, (aB (!r2)))], []⟩] ⟨[(0, (aC (cR 1 ((b).map rU8)))), (2, (aC cN)), (3, (aI 0)), (4, (aC (.s 0 0 4 m.length))), (5, (aI all)), (6, (aI (↑q : Int))), (10, (aC (cR 1 (((b).drop ((b.length) - 4)).map rU8)))), (118, (aB (!r2)))], [(0, (.arr 127 4 ((m).map rRecord)))], 3⟩ mixed (by kernel_rfl) ?_ ?_ ?_ ?_
              · exact ⟨.inl ⟨(Wanted.plain rfl), GOp.cast (g_move rfl rfl) rfl⟩,
      .inl ⟨(Wanted.plain rfl), GOp.cast (g_move rfl rfl) rfl⟩,
      .inl ⟨(Wanted.plain rfl), GOp.cast (g_indexQ (i := 0) rfl rfl rfl Try.underlying115 sz5 (by first | omega | (simp; done) | (simp; omega)) (getmap hx2)) rfl⟩,
      .inl ⟨(Wanted.plain rfl), GOp.cast (g_loadQ rfl rfl Try.underlying5 rfl rfl) rfl⟩,
      .inl ⟨(Wanted.plain rfl), GOp.cast (g_convI rfl rfl (by rw [Try.underlying5]; rfl) Try.underlying3 (conv_i64 (by first | omega | (simp; done) | (simp; omega)))) rfl⟩,
      .inl ⟨(Wanted.plain rfl), GOp.cast (g_binI rfl rfl rfl (wrap_ok (by first | omega | (simp; done) | (simp; omega)))) rfl⟩,
      .inl ⟨(Wanted.plain rfl), GOp.cast (g_move rfl rfl) rfl⟩,
      .inl ⟨(Wanted.plain rfl), GOp.cast (g_indexQ (i := 1) rfl rfl rfl Try.underlying115 sz5 (by first | omega | (simp; done) | (simp; omega)) (getmap hx3)) rfl⟩,
      .inl ⟨(Wanted.plain rfl), GOp.cast (g_loadQ rfl rfl Try.underlying5 rfl rfl) rfl⟩,
      .inl ⟨(Wanted.plain rfl), GOp.cast (g_convI rfl rfl (by rw [Try.underlying5]; rfl) Try.underlying3 (conv_i64 (by first | omega | (simp; done) | (simp; omega)))) rfl⟩,
      .inl ⟨(Wanted.plain rfl), GOp.cast (g_binI rfl rfl rfl (wrap_ok (by first | omega | (simp; done) | (simp; omega)))) rfl⟩,
      .inl ⟨(Wanted.plain rfl), GOp.cast (g_binI rfl rfl rfl (wrap_ok (by first | omega | (simp; done) | (simp; omega)))) rfl⟩,
      .inl ⟨(Wanted.plain rfl), GOp.cast (g_move rfl rfl) rfl⟩,
      .inl ⟨(Wanted.plain rfl), GOp.cast (g_indexQ (i := 2) rfl rfl rfl Try.underlying115 sz5 (by first | omega | (simp; done) | (simp; omega)) (getmap hx4)) rfl⟩,
      .inl ⟨(Wanted.plain rfl), GOp.cast (g_loadQ rfl rfl Try.underlying5 rfl rfl) rfl⟩,
      .inl ⟨(Wanted.plain rfl), GOp.cast (g_convI rfl rfl (by rw [Try.underlying5]; rfl) Try.underlying3 (conv_i64 (by first | omega | (simp; done) | (simp; omega)))) rfl⟩,
      .inl ⟨(Wanted.plain rfl), GOp.cast (g_binI rfl rfl rfl (wrap_ok (by first | omega | (simp; done) | (simp; omega)))) rfl⟩,
      .inl ⟨(Wanted.plain rfl), GOp.cast (g_binI rfl rfl rfl (wrap_ok (by first | omega | (simp; done) | (simp; omega)))) rfl⟩,
      .inl ⟨(Wanted.plain rfl), GOp.cast (g_move rfl rfl) rfl⟩,
      .inl ⟨(Wanted.plain rfl), GOp.cast (g_indexQ (i := 3) rfl rfl rfl Try.underlying115 sz5 (by first | omega | (simp; done) | (simp; omega)) (getmap hx5)) rfl⟩,
      .inl ⟨(Wanted.plain rfl), GOp.cast (g_loadQ rfl rfl Try.underlying5 rfl rfl) rfl⟩,
      .inl ⟨(Wanted.plain rfl), GOp.cast (g_convI rfl rfl (by rw [Try.underlying5]; rfl) Try.underlying3 (conv_i64 (by first | omega | (simp; done) | (simp; omega)))) rfl⟩,
      .inl ⟨(Wanted.plain rfl), GOp.cast (g_binI rfl rfl rfl (wrap_ok (by first | omega | (simp; done) | (simp; omega)))) rfl⟩,
      .inl ⟨(Wanted.plain rfl), GOp.cast (g_binI rfl rfl rfl (congrArg (fun b => some (Value.bool b)) hb6)) rfl⟩,
      .inl ⟨(Wanted.plain rfl), GOp.cast (g_move rfl rfl) rfl⟩,
      .inl ⟨(Wanted.yes rfl rfl rfl), GOp.cast (g_move rfl rfl) rfl⟩,
      .inl ⟨(Wanted.yes rfl rfl rfl), GOp.cast (g_move rfl rfl) rfl⟩,
      .inl ⟨(Wanted.yes rfl rfl rfl), GOp.cast (g_callE 2 [0] (c_ref_Sorted m (by first | omega | (simp; done) | (simp; omega)) r1 hr1) en95 rfl rfl ⟨⟨_, rfl, .c (.s rfl (by decide) (by first | omega | (simp; done) | (simp; omega)))⟩,  trivial⟩ trivial ⟨(isv_rRecord _),  trivial⟩ rfl rfl rfl rfl) rfl⟩,
      .inl ⟨(Wanted.yes rfl rfl rfl), GOp.cast (g_callE 3 [0, 2] (c_SameRecords m r1  r2 hr2) en93 rfl rfl ⟨⟨_, rfl, .c (.s rfl (by decide) (by first | omega | (simp; done) | (simp; omega)))⟩, ⟨_, rfl, .c (.s rfl (by decide) (by first | omega | (simp; done) | (simp; omega)))⟩,  trivial⟩ rfl trivial rfl rfl rfl rfl) rfl⟩,
      .inl ⟨(Wanted.yes rfl rfl rfl), GOp.cast (g_notB rfl rfl) rfl⟩,
      .inl ⟨(Wanted.plain rfl), GOp.cast (g_pick rfl rfl rfl) rfl⟩,
       trivial⟩
              · exact ⟨⟨⟨.inl rfl,  trivial⟩, trivial⟩, ⟨⟨.inl rfl,  trivial⟩, trivial⟩, ⟨⟨.inr ⟨1, .head _, _, rfl, rfl, rfl⟩,  trivial⟩, trivial⟩, ⟨⟨.inr ⟨2, .head _, _, rfl, rfl, rfl⟩,  trivial⟩, trivial⟩, ⟨⟨.inr ⟨3, .head _, _, rfl, rfl, rfl⟩,  trivial⟩, trivial⟩, ⟨⟨.inr ⟨4, .head _, _, rfl, rfl, rfl⟩,  trivial⟩, trivial⟩, ⟨⟨.inl rfl,  trivial⟩, trivial⟩, ⟨⟨.inr ⟨6, .head _, _, rfl, rfl, rfl⟩,  trivial⟩, trivial⟩, ⟨⟨.inr ⟨7, .head _, _, rfl, rfl, rfl⟩,  trivial⟩, trivial⟩, ⟨⟨.inr ⟨8, .head _, _, rfl, rfl, rfl⟩,  trivial⟩, trivial⟩, ⟨⟨.inr ⟨9, .head _, _, rfl, rfl, rfl⟩,  trivial⟩, trivial⟩, ⟨⟨.inr ⟨5, .head _, _, rfl, rfl, rfl⟩, .inr ⟨10, .tail _ (.head _), _, rfl, rfl, rfl⟩,  trivial⟩, trivial⟩, ⟨⟨.inl rfl,  trivial⟩, trivial⟩, ⟨⟨.inr ⟨12, .head _, _, rfl, rfl, rfl⟩,  trivial⟩, trivial⟩, ⟨⟨.inr ⟨13, .head _, _, rfl, rfl, rfl⟩,  trivial⟩, trivial⟩, ⟨⟨.inr ⟨14, .head _, _, rfl, rfl, rfl⟩,  trivial⟩, trivial⟩, ⟨⟨.inr ⟨15, .head _, _, rfl, rfl, rfl⟩,  trivial⟩, trivial⟩, ⟨⟨.inr ⟨11, .head _, _, rfl, rfl, rfl⟩, .inr ⟨16, .tail _ (.head _), _, rfl, rfl, rfl⟩,  trivial⟩, trivial⟩, ⟨⟨.inl rfl,  trivial⟩, trivial⟩, ⟨⟨.inr ⟨18, .head _, _, rfl, rfl, rfl⟩,  trivial⟩, trivial⟩, ⟨⟨.inr ⟨19, .head _, _, rfl, rfl, rfl⟩,  trivial⟩, trivial⟩, ⟨⟨.inr ⟨20, .head _, _, rfl, rfl, rfl⟩,  trivial⟩, trivial⟩, ⟨⟨.inr ⟨17, .head _, _, rfl, rfl, rfl⟩, .inr ⟨21, .tail _ (.head _), _, rfl, rfl, rfl⟩,  trivial⟩, trivial⟩, ⟨⟨.inr ⟨0, .head _, _, rfl, rfl, rfl⟩, .inr ⟨22, .tail _ (.head _), _, rfl, rfl, rfl⟩,  trivial⟩, trivial⟩, ⟨⟨.inr ⟨23, .head _, _, rfl, rfl, rfl⟩,  trivial⟩, trivial⟩, ⟨⟨.inl rfl, .inr ⟨24, .head _, _, rfl, rfl, rfl⟩,  trivial⟩, trivial⟩, ⟨⟨.inl rfl, .inr ⟨24, .head _, _, rfl, rfl, rfl⟩,  trivial⟩, trivial⟩, ⟨⟨.inr ⟨26, .tail _ (.head _), _, rfl, rfl, rfl⟩, .inr ⟨24, .head _, _, rfl, rfl, rfl⟩,  trivial⟩, ⟨.inl rfl,  trivial⟩⟩, ⟨⟨.inr ⟨25, .tail _ (.head _), _, rfl, rfl, rfl⟩, .inr ⟨27, .tail _ (.tail _ (.head _)), _, rfl, rfl, rfl⟩, .inr ⟨24, .head _, _, rfl, rfl, rfl⟩,  trivial⟩, ⟨.inr ⟨27, .tail _ (.tail _ (.head _)), _, rfl, .head _⟩, .inl rfl,  trivial⟩⟩, ⟨⟨.inr ⟨28, .tail _ (.head _), _, rfl, rfl, rfl⟩, .inr ⟨24, .head _, _, rfl, rfl, rfl⟩,  trivial⟩, trivial⟩, ⟨⟨.inr ⟨24, .head _, _, rfl, rfl, rfl⟩, .inr ⟨29, .tail _ (.head _), _, rfl, rfl, rfl⟩,  trivial⟩, trivial⟩,  trivial⟩
              · exact ⟨⟨.inl rfl, .inl rfl, .inl rfl, .inl rfl, .inl rfl, .inl rfl, .inl rfl, .inr ⟨30, _, rfl, rfl, rfl⟩,  trivial⟩, ⟨.inl rfl,  trivial⟩⟩
              ·
                refine AL.nil ?_
                refine then_ok ?_
                refine AC.cond rfl (fun hc8 => ?_) (fun hc8 => ?_)
                ·
                  have hc8' := hc8; try simp only [sumB, Bool.not_eq_true', Bool.not_eq_false', Bool.or_eq_true, Bool.or_eq_false_iff, Bool.and_eq_true, Bool.and_eq_false_imp, decide_eq_true_eq, decide_eq_false_iff_not, Bool.not_not, Bool.not_true, Bool.not_false] at hc8'
                  refine AC.seq ?_
                  refine AC.region ?_
                  refine AL.fast 2 rfl ?_
                  refine AL.nil ?_
                  refine then_ok ?_
                  refine AC.ret ?_
                  refine then_ret ?_
                  refine retQ_weak (Weak.nil 2 127 4 (by decide) rfl) ?_
                  have hX : parseR b = (([] : List Record), 8) := by
                    have hnb := numB4 (d := b.drop (b.length - 4)) (by simp; omega) hx2 hx3 hx4 hx5
                    rw [parseR_go hx1 (by omega) (show m = _ by rw [hi0_1]; congr 2; omega)]
                    rw [if_pos (by rw [hr0]; omega), if_neg]
                    rintro ⟨h1, h2⟩
                    first | omega | (simp_all [sameList]; done)
                  rw [hX] at hr; clear hX
                  simp only [Prod.mk.injEq] at hr; obtain ⟨rfl, rfl⟩ := hr
                  refine retQ_mk (av' := outOf [(.c (.s 0 0 4 0)), (.c (cI 8))]) (nb' := [(0, (.arr 127 4 ((([] : List Record)).map rRecord)))]) (retQ_ret ⟨[(2, (aC (.s 0 0 4 0))), (3, (aI 8))], [(0, (.arr 127 4 ((([] : List Record)).map rRecord)))], 1⟩ [.tmp 2, .tmp 3] [(.c (.s 0 0 4 0)), (.c (cI 8))] (Weak.ren (fun k => if k = 0 then 3 else k) (by refine ⟨?_, ?_,  trivial⟩ <;> first | rfl | (simp only [AV.map, GV.map, CV.map, AB.map', id]; done) | (congr 3; omega) | (congr 4; omega) | (simp only [List.length_append, List.length_cons, List.length_nil, List.length_set]; rfl)) (⟨by first | rfl | (simp only [AV.map, GV.map, CV.map, AB.map', id]; done) | (congr 3; omega) | (congr 4; omega) | (simp only [List.length_append, List.length_cons, List.length_nil, List.length_set]; rfl), trivial⟩) rfl) rfl ⟨.tmp rfl, .tmp rfl, trivial⟩ ⟨by first | rfl | (simp only [AV.map, GV.map, CV.map, AB.map', id]; done) | (congr 3; omega) | (congr 4; omega) | (simp only [List.length_append, List.length_cons, List.length_nil, List.length_set]; rfl), trivial⟩) ?_ ?_
                  · first | rfl | (simp [outOf, aC]; done) | (simp [outOf, aC]; omega)
                  · first | rfl | (simp; done) | (simp; omega)
                ·
                  have hc8' := hc8; try simp only [sumB, Bool.not_eq_true', Bool.not_eq_false', Bool.or_eq_true, Bool.or_eq_false_iff, Bool.and_eq_true, Bool.and_eq_false_imp, decide_eq_true_eq, decide_eq_false_iff_not, Bool.not_not, Bool.not_true, Bool.not_false] at hc8'
                  refine AC.skip ?_
                  refine then_ok ?_
                  refine AC.seq ?_
                  refine AC.region ?_
                  refine AL.fast 3 rfl ?_
                  refine AL.nil ?_
                  refine then_ok ?_
                  refine AC.ret ?_
                  have hX : parseR b = (m, 0) := by
                    have hnb := numB4 (d := b.drop (b.length - 4)) (by simp; omega) hx2 hx3 hx4 hx5
                    rw [parseR_go hx1 (by omega) (show m = _ by rw [hi0_1]; congr 2; omega)]
                    rw [if_pos (by rw [hr0]; omega), if_pos]
                    refine ⟨by omega, ?_⟩
                    simp_all [sameList]
                  rw [hX] at hr; clear hX
                  simp only [Prod.mk.injEq] at hr; obtain ⟨rfl, rfl⟩ := hr
                  refine retQ_mk (av' := outOf [(.c (.s 0 0 4 m.length)), (.c (cI 0))]) (nb' := [(0, (.arr 127 4 ((m).map rRecord)))]) (retQ_ret ⟨[(2, (aC (.s 0 0 4 m.length))), (3, (aI 0))], [(0, (.arr 127 4 ((m).map rRecord)))], 1⟩ [.tmp 2, .tmp 3] [(.c (.s 0 0 4 m.length)), (.c (cI 0))] (Weak.ren (fun k => if k = 0 then 0 else k) (by refine ⟨?_, ?_,  trivial⟩ <;> first | rfl | (simp only [AV.map, GV.map, CV.map, AB.map', id]; done) | (congr 3; omega) | (congr 4; omega) | (simp only [List.length_append, List.length_cons, List.length_nil, List.length_set]; rfl)) (⟨by first | rfl | (simp only [AV.map, GV.map, CV.map, AB.map', id]; done) | (congr 3; omega) | (congr 4; omega) | (simp only [List.length_append, List.length_cons, List.length_nil, List.length_set]; rfl), trivial⟩) rfl) rfl ⟨.tmp rfl, .tmp rfl, trivial⟩ ⟨by first | rfl | (simp only [AV.map, GV.map, CV.map, AB.map', id]; done) | (congr 3; omega) | (congr 4; omega) | (simp only [List.length_append, List.length_cons, List.length_nil, List.length_set]; rfl), trivial⟩) ?_ ?_
                  · first | rfl | (simp [outOf, aC]; done) | (simp [outOf, aC]; omega)
                  · first | rfl | (simp; done) | (simp; omega)
end Go.Proofs.Ytgmcdlfmifijlaa.Dev
