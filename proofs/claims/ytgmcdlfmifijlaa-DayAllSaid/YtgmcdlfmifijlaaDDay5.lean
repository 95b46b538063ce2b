/- day.Bytes. -/
import Derived.Test.YtgmcdlfmifijlaaDDay4
set_option linter.unusedVariables false
set_option linter.unusedSimpArgs false
namespace Go.Proofs.Ytgmcdlfmifijlaa.Dev
open Go.RowKit

set_option maxRecDepth 100000 in
set_option maxHeartbeats 4000000 in
theorem c_day_Bytes (l : List Record) (hl : l.length * 32 ≤ 140737488355328) (x : List Int) (f : Fault) (hr : bytesR l = (x, f)) : Fn Try.prog 89 [(.c (cR 4 ((l).map rRecord)))] (.t [(.c (.s 0 0 1 x.length)), (.g [(cI f.err), (cI f.at_)])]) [(0, (.arr 5 1 ((x).map rU8)))] := by
  refine Fn.mk' 50 [(0, (aC (cR 4 ((l).map rRecord))))] Try.func89 rfl rfl rfl rfl ?_
  intro W0 T0
  refine AC.len1 0 rfl (fun hlen0 => ?_)
  refine AC.seq ?_
  refine AC.region ?_
  refine AL.fast 1 rfl ?_
  refine AL.new (n' := 1) (Wanted.plain rfl) (g_alloc 0 rfl zv47 rfl rfl rfl) rfl rfl rfl ?_
  refine AL.nil ?_
  refine then_ok ?_
  refine AC.seq ?_
  refine AC.seq ?_
  refine AC.region ?_
  refine AL.fast 1 rfl ?_
  obtain ⟨f0, hr0⟩ : ∃ (f0 : Fault), wrongR l = f0 := ⟨_, rfl⟩
  refine AL.call (n' := 1) (h' := [(0, (.box 47 [(cI 0), (cI 0)]))]) (Wanted.plain rfl) (g_call 1 (c_day_Wrong l  f0 hr0) en91 rfl rfl ⟨⟨_, rfl, .c (.d _)⟩,  trivial⟩ ⟨trivial, trivial,  trivial⟩ trivial rfl rfl rfl rfl) rfl rfl rfl rfl rfl ?_
  refine AL.new (n' := 2) (Wanted.plain rfl) (g_alloc 1 rfl zv47 rfl rfl rfl) rfl rfl rfl ?_
  refine AL.sto (h' := [(1, (.box 47 [(cI f0.err), (cI f0.at_)])), (0, (.box 47 [(cI 0), (cI 0)]))]) (Wanted.plain rfl) (g_storeB rfl rfl rfl rfl rfl sz47 rfl (Nat.le_of_ble_eq_true rfl) rfl) rfl rfl rfl rfl ?_
  refine AL.nil ?_
  refine then_ok ?_
  refine AC.seq ?_
  refine AC.region ?_
  refine AL.val (Wanted.plain rfl) (g_fieldP rfl rfl Try.underlying47 rfl sz27 (by decide)) rfl rfl ?_
  refine AL.val (Wanted.plain rfl) (g_loadB rfl rfl rfl Try.underlying27 rfl rfl) rfl rfl ?_
  refine AL.val (Wanted.plain rfl) (g_binI rfl rfl rfl rfl) rfl rfl ?_
  refine AL.nil ?_
  refine then_ok ?_
  refine AC.cond rfl (fun hc1 => ?_) (fun hc1 => ?_)
  ·
    have hc1' := hc1; try simp only [sumB, Bool.not_eq_true', Bool.not_eq_false', Bool.or_eq_true, Bool.or_eq_false_iff, Bool.and_eq_true, Bool.and_eq_false_imp, decide_eq_true_eq, decide_eq_false_iff_not, Bool.not_not, Bool.not_true, Bool.not_false] at hc1'
    refine AC.seq ?_
    refine AC.weak (st' := ⟨[(0, (aC (cR 4 ((l).map rRecord)))), (3, (aC (.p 0 0 0 0))), (4, (aC (.p 1 0 0 0)))], [(1, (.box 47 [(cI f0.err), (cI f0.at_)])), (0, (.box 47 [(cI 0), (cI 0)]))], 2⟩) (Weak.ren id (by refine ⟨?_, ?_, ?_,  trivial⟩ <;> first | rfl | (simp only [AV.map, GV.map, CV.map, AB.map', id]; done) | (congr 3; omega) | (congr 4; omega) | (simp only [List.length_append, List.length_cons, List.length_nil, List.length_set]; rfl)) (by refine ⟨?_, ?_,  trivial⟩ <;> first | rfl | (simp only [AV.map, GV.map, CV.map, AB.map', id]; done) | (congr 3; omega) | (congr 4; omega) | (simp only [List.length_append, List.length_cons, List.length_nil, List.length_set]; rfl)) rfl) ?_
    refine AC.draw [⟨some 14, (aG [(cI f0.err), (cI f0.at_)]), [], [], [], [(4, (aC (.p 1 0 0 0)))], [(1, (.box 47 [(cI f0.err), (cI f0.at_)]))]⟩,
      ⟨some 2, (aC cN), [], [], [], [], []⟩] ⟨[(0, (aC (cR 4 ((l).map rRecord)))), (3, (aC (.p 0 0 0 0))), (4, (aC (.p 1 0 0 0))), (14, (aG [(cI f0.err), (cI f0.at_)])), (2, (aC cN))], [(1, (.box 47 [(cI f0.err), (cI f0.at_)])), (0, (.box 47 [(cI 0), (cI 0)]))], 2⟩ mixed (by kernel_rfl) ?_ ?_ ?_ ?_
    · exact ⟨.inl ⟨(Wanted.plain rfl), GOp.cast (g_loadBs rfl rfl rfl Try.underlying47 rfl sz47 rfl rfl) rfl⟩,
      .inl ⟨(Wanted.plain rfl), GOp.cast (g_assign rfl rfl) rfl⟩,
       trivial⟩
    · exact ⟨⟨⟨.inl rfl,  trivial⟩, ⟨.inl rfl,  trivial⟩⟩, ⟨trivial, trivial⟩,  trivial⟩
    · exact ⟨⟨.inl rfl, .inl rfl, .inl rfl, .inr ⟨0, _, rfl, rfl, rfl⟩, .inr ⟨1, _, rfl, rfl, rfl⟩,  trivial⟩, ⟨.inl rfl, .inl rfl,  trivial⟩⟩
    ·
      refine AL.sto (h' := [(1, (.box 47 [(cI f0.err), (cI f0.at_)])), (0, (.box 47 [(cI f0.err), (cI f0.at_)]))]) (Wanted.plain rfl) (g_storeB rfl rfl rfl rfl rfl sz47 rfl (Nat.le_of_ble_eq_true rfl) rfl) rfl rfl rfl rfl ?_
      refine AL.nil ?_
      refine then_ok ?_
      refine AC.ret ?_
      refine then_ret ?_
      refine retQ_weak (Weak.nil 2 5 1 (by decide) rfl) ?_
      have hX : bytesR l = (([] : List Int), f0) := by
        unfold bytesR; rw [if_neg (by rw [hr0]; omega), hr0]
      rw [hX] at hr; clear hX
      simp only [Prod.mk.injEq] at hr; obtain ⟨rfl, rfl⟩ := hr
      refine retQ_mk (av' := outOf [(.c (.s 0 0 1 0)), (.g [(cI f0.err), (cI f0.at_)])]) (nb' := [(0, (.arr 5 1 ((([] : List Int)).map rU8)))]) (retQ_ret ⟨[(2, (aC (.s 0 0 1 0))), (3, (aC (.p 1 0 0 0)))], [(0, (.arr 5 1 ((([] : List Int)).map rU8))), (1, (.box 47 [(cI f0.err), (cI f0.at_)]))], 2⟩ [.tmp 2, .cell 3 47] [(.c (.s 0 0 1 0)), (.g [(cI f0.err), (cI f0.at_)])] (Weak.ren (fun k => if k = 0 then 2 else if k = 1 then 0 else k) (by refine ⟨?_, ?_,  trivial⟩ <;> first | rfl | (simp only [AV.map, GV.map, CV.map, AB.map', id]; done) | (congr 3; omega) | (congr 4; omega) | (simp only [List.length_append, List.length_cons, List.length_nil, List.length_set]; rfl)) (by refine ⟨?_, ?_,  trivial⟩ <;> first | rfl | (simp only [AV.map, GV.map, CV.map, AB.map', id]; done) | (congr 3; omega) | (congr 4; omega) | (simp only [List.length_append, List.length_cons, List.length_nil, List.length_set]; rfl)) rfl) rfl ⟨.tmp rfl, .agg rfl rfl (fun _ => run_isAgg Try.underlying47) sz47, trivial⟩ ⟨by first | rfl | (simp only [AV.map, GV.map, CV.map, AB.map', id]; done) | (congr 3; omega) | (congr 4; omega) | (simp only [List.length_append, List.length_cons, List.length_nil, List.length_set]; rfl), trivial⟩) ?_ ?_
      · first | rfl | (simp [outOf, aC]; done) | (simp [outOf, aC]; omega)
      · first | rfl | (simp; done) | (simp; omega)
  ·
    have hc1' := hc1; try simp only [sumB, Bool.not_eq_true', Bool.not_eq_false', Bool.or_eq_true, Bool.or_eq_false_iff, Bool.and_eq_true, Bool.and_eq_false_imp, decide_eq_true_eq, decide_eq_false_iff_not, Bool.not_not, Bool.not_true, Bool.not_false] at hc1'
    refine AC.skip ?_
    refine then_ok ?_
    have hw : (wrongR l).err = 0 := by rw [hr0]; omega
    have hok := wrongR_ok.1 hw
    refine AC.seq ?_
    refine AC.region ?_
    refine AL.fast 1 rfl ?_
    refine AL.val (Wanted.plain rfl) (g_lenM rfl rfl rfl rfl rfl Try.underlying114) rfl rfl ?_
    refine AL.val (Wanted.plain rfl) (g_convI rfl rfl (by rw [Try.underlying3]; rfl) Try.underlying5 conv_m8) rfl rfl ?_
    refine AL.new (n' := 3) (Wanted.plain rfl) (g_lit (ys := [(0, (.c (.d (.v (.int .u8 ((↑l.length : Int) % 256))))))]) (rows := ([(↑l.length : Int) % 256]).map rU8) 2 sl115 rfl (by decide) ⟨⟨rfl, rfl⟩,  trivial⟩ rfl rfl rfl rfl) rfl rfl rfl ?_
    refine AL.fast 1 rfl ?_
    refine AL.nil ?_
    refine then_ok ?_
    refine AC.seq ?_
    refine AC.region ?_
    refine AL.fast 1 rfl ?_
    refine AL.nil ?_
    refine then_ok ?_
    refine AC.seq ?_
    refine AC.seq ?_
    refine AC.region ?_
    refine AL.fast 1 rfl ?_
    obtain ⟨r1, hr1⟩ : ∃ (r1 : List Record), sortR l = r1 := ⟨_, rfl⟩
    have hlr : r1.length = l.length := by rw [← hr1]; exact sortR_len _
    have hrok : ∀ x ∈ r1, okR x := fun x hx => hok.2 x ((sortR_same l).mem.2 (by rw [hr1]; exact hx))
    refine AL.call (n' := 4) (h' := [(3, (.arr 127 4 ((r1).map rRecord))), (2, (.arr 5 1 (([(↑l.length : Int) % 256]).map rU8))), (1, (.box 47 [(cI f0.err), (cI f0.at_)])), (0, (.box 47 [(cI 0), (cI 0)]))]) (Wanted.plain rfl) (g_call 3 (c_Sorted l (by first | omega | (simp; done) | (simp; omega)) r1 hr1) en94 rfl rfl ⟨⟨_, rfl, .c (.d _)⟩,  trivial⟩ trivial ⟨(fun _ _ _ _ => trivial),  trivial⟩ rfl rfl rfl rfl) rfl rfl rfl rfl rfl ?_
    refine AL.val (Wanted.plain rfl) (g_lenS rfl rfl rfl rfl rfl Try.underlying114) rfl rfl ?_
    refine AL.fast 1 rfl ?_
    refine AL.nil ?_
    refine then_ok ?_
    refine AC.block ?_
    refine AC.loop (β := Nat × List Int × Int) (fun (p : Nat × List Int × Int) => match p with | (q, m, all) => ⟨[(2, (aC cN)), (3, (aC (.p 0 0 0 0))), (5, (aC (.s 2 0 1 m.length))), (6, (aI all)), (20, (aC (.s 3 0 4 r1.length))), (21, (aI (↑r1.length : Int))), (22, (aI (↑q : Int)))], [(3, (.arr 127 4 ((r1).map rRecord))), (2, (.arr 5 1 ((m).map rU8))), (0, (.box 47 [(cI 0), (cI 0)]))], 4⟩) (fun (p : Nat × List Int × Int) => match p with | (q, m, all) => q ≤ r1.length ∧ m = headB l (r1.take q) ∧ all = sumR (r1.take q) ∧ 0 ≤ all ∧ all ≤ 1000000 * (q : Int)) (fun (p : Nat × List Int × Int) => match p with | (q, m, all) => r1.length - q) (0, [(↑l.length : Int) % 256], 0) ?_ ?_ ?_
    · exact ⟨by omega, by simp [headB], rfl, by omega⟩
    · exact Weak.ren id (by refine ⟨?_, ?_, ?_, ?_, ?_, ?_, ?_,  trivial⟩ <;> first | rfl | (simp only [AV.map, GV.map, CV.map, AB.map', id]; done) | (congr 3; omega) | (congr 4; omega) | (simp only [List.length_append, List.length_cons, List.length_nil, List.length_set]; rfl)) (by refine ⟨?_, ?_, ?_,  trivial⟩ <;> first | rfl | (simp only [AV.map, GV.map, CV.map, AB.map', id]; done) | (congr 3; omega) | (congr 4; omega) | (simp only [List.length_append, List.length_cons, List.length_nil, List.length_set]; rfl)) rfl
    ·
      rintro ⟨q, m, all⟩ ⟨hi0_0, hi0_1, hi0_2, hi0_3⟩
      have hml : m.length = 1 + 6 * q := by rw [hi0_1, headB_len, List.length_take]; omega
      refine AC.seq ?_
      refine AC.region ?_
      refine AL.val (Wanted.plain rfl) (g_binI rfl rfl rfl rfl) rfl rfl ?_
      refine AL.nil ?_
      refine then_ok ?_
      refine AC.seq ?_
      refine AC.cond rfl (fun hc2 => ?_) (fun hc2 => ?_)
      ·
        have hc2' := hc2; try simp only [sumB, Bool.not_eq_true', Bool.not_eq_false', Bool.or_eq_true, Bool.or_eq_false_iff, Bool.and_eq_true, Bool.and_eq_false_imp, decide_eq_true_eq, decide_eq_false_iff_not, Bool.not_not, Bool.not_true, Bool.not_false] at hc2'
        refine AC.skip ?_
        refine then_ok ?_
        refine AC.seq ?_
        refine AC.block ?_
        refine AC.seq ?_
        refine AC.region ?_
        refine AL.val (Wanted.plain rfl) (g_indexP0 (i := q) rfl rfl rfl Try.underlying114 sz127 (by first | omega | (simp; done) | (simp; omega)) (by first | omega | (simp; done) | (simp; omega))) rfl rfl ?_
        obtain ⟨x1, hx1⟩ := exget (xs := r1) (i := q) (by first | omega | (simp; done) | (simp; omega))
        have hx1b := okR_b (hrok x1 (List.mem_of_getElem? hx1))
        refine AL.val (Wanted.plain rfl) (g_loadAs rfl rfl rfl Try.underlying127 rfl sz127 (getmap hx1) rfl) rfl rfl ?_
        refine AL.new (n' := 5) (Wanted.plain rfl) (g_alloc 4 rfl zv127 rfl rfl rfl) rfl rfl rfl ?_
        refine AL.sto (h' := [(4, (.box 127 [(cI x1.shop), (cI x1.auth), (cI x1.kind), (cI x1.sum)])), (3, (.arr 127 4 ((r1).map rRecord))), (2, (.arr 5 1 ((m).map rU8))), (0, (.box 47 [(cI 0), (cI 0)]))]) (Wanted.plain rfl) (g_storeB rfl rfl rfl rfl rfl sz127 rfl (Nat.le_of_ble_eq_true rfl) rfl) rfl rfl rfl rfl ?_
        refine AL.nil ?_
        refine then_ok ?_
        refine AC.seq ?_
        obtain ⟨r2, hr2⟩ : ∃ (r2 : List Int), (m ++ ([x1.shop % 256, x1.auth % 256, x1.kind % 256])) ++ beR x1.sum 3 = r2 := ⟨_, rfl⟩
        have hlr2 : r2.length = m.length + 6 := by rw [← hr2]; simp [beR_len]
        refine AC.weak (st' := ⟨[(2, (aC cN)), (3, (aC (.p 0 0 0 0))), (5, (aC (.s 2 0 1 m.length))), (6, (aI all)), (20, (aC (.s 3 0 4 r1.length))), (21, (aI (↑r1.length : Int))), (22, (aI (↑q : Int))), (8, (aC (.p 4 0 0 0)))], [(4, (.box 127 [(cI x1.shop), (cI x1.auth), (cI x1.kind), (cI x1.sum)])), (3, (.arr 127 4 ((r1).map rRecord))), (2, (.arr 5 1 ((m).map rU8))), (0, (.box 47 [(cI 0), (cI 0)]))], 5⟩) (Weak.ren id (by refine ⟨?_, ?_, ?_, ?_, ?_, ?_, ?_, ?_,  trivial⟩ <;> first | rfl | (simp only [AV.map, GV.map, CV.map, AB.map', id]; done) | (congr 3; omega) | (congr 4; omega) | (simp only [List.length_append, List.length_cons, List.length_nil, List.length_set]; rfl)) (by refine ⟨?_, ?_, ?_, ?_,  trivial⟩ <;> first | rfl | (simp only [AV.map, GV.map, CV.map, AB.map', id]; done) | (congr 3; omega) | (congr 4; omega) | (simp only [List.length_append, List.length_cons, List.length_nil, List.length_set]; rfl)) rfl) ?_
        refine AC.draw [⟨some 26, (aC (.s 2 0 1 m.length)), [], [], [], [(5, (aC (.s 2 0 1 m.length)))], []⟩,
      ⟨some 27, (aC (.p 4 0 0 0)), [], [], [], [(8, (aC (.p 4 0 0 0)))], []⟩,
      ⟨some 28, (aI x1.shop), [], [], [1], [(27, (aC (.p 4 0 0 0)))], [(4, (.box 127 [(cI x1.shop), (cI x1.auth), (cI x1.kind), (cI x1.sum)]))]⟩,
      ⟨some 29, (aC (.d (.v (.int .u8 (x1.shop % 256))))), [], [], [2], [(28, (aI x1.shop))], []⟩,
      ⟨some 30, (aC (.p 4 0 0 1)), [], [], [], [(8, (aC (.p 4 0 0 0)))], []⟩,
      ⟨some 31, (aI x1.auth), [], [], [4], [(30, (aC (.p 4 0 0 1)))], [(4, (.box 127 [(cI x1.shop), (cI x1.auth), (cI x1.kind), (cI x1.sum)]))]⟩,
      ⟨some 32, (aC (.d (.v (.int .u8 (x1.auth % 256))))), [], [], [5], [(31, (aI x1.auth))], []⟩,
      ⟨some 33, (aC (.p 4 0 0 2)), [], [], [], [(8, (aC (.p 4 0 0 0)))], []⟩,
      ⟨some 34, (aI x1.kind), [], [], [7], [(33, (aC (.p 4 0 0 2)))], [(4, (.box 127 [(cI x1.shop), (cI x1.auth), (cI x1.kind), (cI x1.sum)]))]⟩,
      ⟨some 35, (aC (.d (.v (.int .u8 (x1.kind % 256))))), [], [], [8], [(34, (aI x1.kind))], []⟩,
      ⟨some 36, (aC (.s 5 0 1 3)), [(5, (.arr 5 1 (([x1.shop % 256, x1.auth % 256, x1.kind % 256]).map rU8)))], [], [3, 6, 9], [(29, (aC (.d (.v (.int .u8 (x1.shop % 256)))))), (32, (aC (.d (.v (.int .u8 (x1.auth % 256)))))), (35, (aC (.d (.v (.int .u8 (x1.kind % 256))))))], []⟩,
      ⟨some 37, (aC (.s 6 0 1 (m.length + 3))), [(6, (.arr 5 1 ((m ++ ([x1.shop % 256, x1.auth % 256, x1.kind % 256])).map rU8)))], [2], [0, 10], [(26, (aC (.s 2 0 1 m.length))), (36, (aC (.s 5 0 1 3)))], [(5, (.arr 5 1 (([x1.shop % 256, x1.auth % 256, x1.kind % 256]).map rU8))), (2, (.arr 5 1 ((m).map rU8)))]⟩,
      ⟨some 38, (aC (.p 4 0 0 3)), [], [], [], [(8, (aC (.p 4 0 0 0)))], []⟩,
      ⟨some 39, (aI x1.sum), [], [], [12], [(38, (aC (.p 4 0 0 3)))], [(4, (.box 127 [(cI x1.shop), (cI x1.auth), (cI x1.kind), (cI x1.sum)]))]⟩,
      ⟨some 40, (aC (.s 7 0 1 r2.length)), [(7, (.arr 5 1 ((r2).map rU8)))], [6], [11, 13], [(37, (aC (.s 6 0 1 (m.length + 3)))), (39, (aI x1.sum))], [(6, (.arr 5 1 ((m ++ ([x1.shop % 256, x1.auth % 256, x1.kind % 256])).map rU8)))]⟩] ⟨[(2, (aC cN)), (3, (aC (.p 0 0 0 0))), (5, (aC (.s 2 0 1 m.length))), (6, (aI all)), (20, (aC (.s 3 0 4 r1.length))), (21, (aI (↑r1.length : Int))), (22, (aI (↑q : Int))), (8, (aC (.p 4 0 0 0))), (40, (aC (.s 7 0 1 r2.length)))], [(7, (.arr 5 1 ((r2).map rU8))), (4, (.box 127 [(cI x1.shop), (cI x1.auth), (cI x1.kind), (cI x1.sum)])), (3, (.arr 127 4 ((r1).map rRecord))), (0, (.box 47 [(cI 0), (cI 0)]))], 8⟩ mixed (by kernel_rfl) ?_ ?_ ?_ ?_
        · exact ⟨.inl ⟨(Wanted.plain rfl), GOp.cast (g_move rfl rfl) rfl⟩,
      .inl ⟨(Wanted.plain rfl), GOp.cast (g_fieldP rfl rfl Try.underlying127 rfl sz3 (by decide)) rfl⟩,
      .inl ⟨(Wanted.plain rfl), GOp.cast (g_loadB rfl rfl rfl Try.underlying3 rfl rfl) rfl⟩,
      .inl ⟨(Wanted.plain rfl), GOp.cast (g_convI rfl rfl (by rw [Try.underlying3]; rfl) Try.underlying5 conv_m8) rfl⟩,
      .inl ⟨(Wanted.plain rfl), GOp.cast (g_fieldP rfl rfl Try.underlying127 rfl sz3 (by decide)) rfl⟩,
      .inl ⟨(Wanted.plain rfl), GOp.cast (g_loadB rfl rfl rfl Try.underlying3 rfl rfl) rfl⟩,
      .inl ⟨(Wanted.plain rfl), GOp.cast (g_convI rfl rfl (by rw [Try.underlying3]; rfl) Try.underlying5 conv_m8) rfl⟩,
      .inl ⟨(Wanted.plain rfl), GOp.cast (g_fieldP rfl rfl Try.underlying127 rfl sz3 (by decide)) rfl⟩,
      .inl ⟨(Wanted.plain rfl), GOp.cast (g_loadB rfl rfl rfl Try.underlying3 rfl rfl) rfl⟩,
      .inl ⟨(Wanted.plain rfl), GOp.cast (g_convI rfl rfl (by rw [Try.underlying3]; rfl) Try.underlying5 conv_m8) rfl⟩,
      .inl ⟨(Wanted.plain rfl), GOp.cast (g_lit (ys := [(0, (.c (.d (.v (.int .u8 (x1.shop % 256)))))), (1, (.c (.d (.v (.int .u8 (x1.auth % 256)))))), (2, (.c (.d (.v (.int .u8 (x1.kind % 256))))))]) (rows := ([x1.shop % 256, x1.auth % 256, x1.kind % 256]).map rU8) 5 sl115 rfl (by decide) ⟨⟨rfl, rfl⟩, ⟨rfl, rfl⟩, ⟨rfl, rfl⟩,  trivial⟩ rfl rfl rfl rfl) rfl⟩,
      .inl ⟨(Wanted.plain rfl), GOp.cast (g_append (m := 3) (N := m.length + 3) (k2 := 6) (ys := ([x1.shop % 256, x1.auth % 256, x1.kind % 256]).map rU8) sl115 rfl rfl rfl rfl rfl rfl (by first | omega | (simp; done) | (simp; omega)) rfl (.s rfl (by first | omega | (simp; done) | (simp; omega))) (by first | omega | (simp; done) | (simp; omega)) (by first | omega | (simp; done) | (simp; omega)) appmap (by decide) (by first | omega | (simp; done) | (simp; omega)) (by first | omega | (simp; done) | (simp; omega))) rfl⟩,
      .inl ⟨(Wanted.plain rfl), GOp.cast (g_fieldP rfl rfl Try.underlying127 rfl sz3 (by decide)) rfl⟩,
      .inl ⟨(Wanted.plain rfl), GOp.cast (g_loadB rfl rfl rfl Try.underlying3 rfl rfl) rfl⟩,
      .inl ⟨(Wanted.plain rfl), GOp.cast (g_callM (fun k => if k = 0 then 6 else k) (fun k => if k = 0 then 7 else k) (c_day_put (m ++ ([x1.shop % 256, x1.auth % 256, x1.kind % 256])) (m.length + 3) x1.sum 3 (by first | omega | (simp; done) | (simp; omega)) (by first | omega | (simp; done) | (simp; omega)) (by first | omega | (simp; done) | (simp; omega)) r2 hr2) en117 rfl rfl ⟨⟨_, rfl, .inl ⟨rfl, rfl⟩⟩, ⟨_, rfl, .inr (.c (.d _))⟩, ⟨_, rfl, .inr (.c (.d _))⟩,  trivial⟩ ⟨rfl,  trivial⟩ rfl rfl rfl rfl rfl rfl trivial ⟨(fun _ _ _ _ => trivial),  trivial⟩ rfl rfl rfl rfl) rfl⟩,
       trivial⟩
        · exact ⟨⟨⟨.inl rfl,  trivial⟩, trivial⟩, ⟨⟨.inl rfl,  trivial⟩, trivial⟩, ⟨⟨.inr ⟨1, .head _, _, rfl, rfl, rfl⟩,  trivial⟩, ⟨.inl rfl,  trivial⟩⟩, ⟨⟨.inr ⟨2, .head _, _, rfl, rfl, rfl⟩,  trivial⟩, trivial⟩, ⟨⟨.inl rfl,  trivial⟩, trivial⟩, ⟨⟨.inr ⟨4, .head _, _, rfl, rfl, rfl⟩,  trivial⟩, ⟨.inl rfl,  trivial⟩⟩, ⟨⟨.inr ⟨5, .head _, _, rfl, rfl, rfl⟩,  trivial⟩, trivial⟩, ⟨⟨.inl rfl,  trivial⟩, trivial⟩, ⟨⟨.inr ⟨7, .head _, _, rfl, rfl, rfl⟩,  trivial⟩, ⟨.inl rfl,  trivial⟩⟩, ⟨⟨.inr ⟨8, .head _, _, rfl, rfl, rfl⟩,  trivial⟩, trivial⟩, ⟨⟨.inr ⟨3, .head _, _, rfl, rfl, rfl⟩, .inr ⟨6, .tail _ (.head _), _, rfl, rfl, rfl⟩, .inr ⟨9, .tail _ (.tail _ (.head _)), _, rfl, rfl, rfl⟩,  trivial⟩, trivial⟩, ⟨⟨.inr ⟨0, .head _, _, rfl, rfl, rfl⟩, .inr ⟨10, .tail _ (.head _), _, rfl, rfl, rfl⟩,  trivial⟩, ⟨.inr ⟨10, .tail _ (.head _), _, rfl, .head _⟩, .inl rfl,  trivial⟩⟩, ⟨⟨.inl rfl,  trivial⟩, trivial⟩, ⟨⟨.inr ⟨12, .head _, _, rfl, rfl, rfl⟩,  trivial⟩, ⟨.inl rfl,  trivial⟩⟩, ⟨⟨.inr ⟨11, .head _, _, rfl, rfl, rfl⟩, .inr ⟨13, .tail _ (.head _), _, rfl, rfl, rfl⟩,  trivial⟩, ⟨.inr ⟨11, .head _, _, rfl, .head _⟩,  trivial⟩⟩,  trivial⟩
        · exact ⟨⟨.inl rfl, .inl rfl, .inl rfl, .inl rfl, .inl rfl, .inl rfl, .inl rfl, .inl rfl, .inr ⟨14, _, rfl, rfl, rfl⟩,  trivial⟩, ⟨.inr ⟨14, _, rfl, .head _⟩, .inl rfl, .inl rfl, .inl rfl,  trivial⟩⟩
        ·
          refine AL.fast 1 rfl ?_
          refine AL.nil ?_
          refine then_ok ?_
          refine AC.region ?_
          refine AL.fast 1 rfl ?_
          refine AL.val (Wanted.plain rfl) (g_fieldP rfl rfl Try.underlying127 rfl sz3 (by decide)) rfl rfl ?_
          refine AL.val (Wanted.plain rfl) (g_loadB rfl rfl rfl Try.underlying3 rfl rfl) rfl rfl ?_
          refine AL.val (Wanted.plain rfl) (g_binI rfl rfl rfl (wrap_ok (by first | omega | (simp; done) | (simp; omega)))) rfl rfl ?_
          refine AL.fast 1 rfl ?_
          refine AL.nil ?_
          refine block_ok ?_
          refine then_ok ?_
          refine AC.region ?_
          refine AL.val (Wanted.plain rfl) (g_binI rfl rfl rfl (wrap_ok (by first | omega | (simp; done) | (simp; omega)))) rfl rfl ?_
          refine AL.fast 1 rfl ?_
          refine AL.nil ?_
          refine then_ok ?_
          refine ⟨(q + 1, r2, all + x1.sum), ⟨by omega, by rw [headB_take hx1, ← hi0_1, ← hr2]; simp [recB], by rw [sumR_take hx1, ← hi0_2], by omega⟩, by first | omega | (simp; done) | (simp; omega), Weak.ren (fun k => if k = 2 then 7 else k) (by refine ⟨?_, ?_, ?_, ?_, ?_, ?_, ?_,  trivial⟩ <;> first | rfl | (simp only [AV.map, GV.map, CV.map, AB.map', id]; done) | (congr 3; omega) | (congr 4; omega) | (simp only [List.length_append, List.length_cons, List.length_nil, List.length_set]; rfl) | (first | exact look_i rfl (by omega) | exact look_s rfl (by simp only [List.length_append, List.length_take, List.length_drop, List.length_cons, List.length_nil]; omega))) (by refine ⟨?_, ?_, ?_,  trivial⟩ <;> first | rfl | (simp only [AV.map, GV.map, CV.map, AB.map', id]; done) | (congr 3; omega) | (congr 4; omega) | (simp only [List.length_append, List.length_cons, List.length_nil, List.length_set]; rfl)) rfl⟩
      ·
        have hc2' := hc2; try simp only [sumB, Bool.not_eq_true', Bool.not_eq_false', Bool.or_eq_true, Bool.or_eq_false_iff, Bool.and_eq_true, Bool.and_eq_false_imp, decide_eq_true_eq, decide_eq_false_iff_not, Bool.not_not, Bool.not_true, Bool.not_false] at hc2'
        refine AC.exit ?_
        refine then_exit ?_
        refine then_exit ?_
        refine block_hit ?_
        refine then_ok ?_
        refine AC.seq ?_
        refine AC.region ?_
        refine AL.fast 2 rfl ?_
        obtain ⟨r3, hr3⟩ : ∃ (r3 : List Int), m ++ beR all 4 = r3 := ⟨_, rfl⟩
        have hlr3 : r3.length = m.length + 4 := by rw [← hr3]; simp [beR_len]
        refine AL.callM (n' := 5) (h' := [(4, (.arr 5 1 ((r3).map rU8))), (3, (.arr 127 4 ((r1).map rRecord))), (0, (.box 47 [(cI 0), (cI 0)]))]) (Wanted.plain rfl) (g_callM (fun k => if k = 0 then 2 else k) (fun k => if k = 0 then 4 else k) (c_day_put m m.length all 4 (by first | omega | (simp; done) | (simp; omega)) (by first | omega | (simp; done) | (simp; omega)) (by first | omega | (simp; done) | (simp; omega)) r3 hr3) en117 rfl rfl ⟨⟨_, rfl, .inl ⟨rfl, rfl⟩⟩, ⟨_, rfl, .inr (.c (.d _))⟩, ⟨_, rfl, .inr (.c (.d _))⟩,  trivial⟩ ⟨rfl,  trivial⟩ rfl rfl rfl rfl rfl rfl trivial ⟨(fun _ _ _ _ => trivial),  trivial⟩ rfl rfl rfl rfl) rfl rfl rfl rfl rfl rfl ?_
        refine AL.val (Wanted.plain rfl) (g_build (ys := []) rfl bld47 rfl trivial rfl rfl) rfl rfl ?_
        refine AL.fast 1 rfl ?_
        refine AL.sto (h' := [(4, (.arr 5 1 ((r3).map rU8))), (3, (.arr 127 4 ((r1).map rRecord))), (0, (.box 47 [(cI 0), (cI 0)]))]) (Wanted.plain rfl) (g_storeB rfl rfl rfl rfl rfl sz47 rfl (Nat.le_of_ble_eq_true rfl) rfl) rfl rfl rfl rfl ?_
        refine AL.nil ?_
        refine then_ok ?_
        refine AC.ret ?_
        have hX : bytesR l = (r3, (⟨0, 0⟩ : Fault)) := by
          have ht : r1.take q = r1 := List.take_of_length_le (by omega)
          rw [ht] at hi0_1 hi0_2
          unfold bytesR
          rw [if_pos hw, hr1, ← hi0_1, ← hi0_2]
          rw [hr3]
        rw [hX] at hr; clear hX
        simp only [Prod.mk.injEq] at hr; obtain ⟨rfl, rfl⟩ := hr
        refine retQ_mk (av' := outOf [(.c (.s 0 0 1 r3.length)), (.g [(cI 0), (cI 0)])]) (nb' := [(0, (.arr 5 1 ((r3).map rU8)))]) (retQ_ret ⟨[(2, (aC (.s 0 0 1 r3.length))), (3, (aC (.p 1 0 0 0)))], [(0, (.arr 5 1 ((r3).map rU8))), (1, (.box 47 [(cI 0), (cI 0)]))], 2⟩ [.tmp 2, .cell 3 47] [(.c (.s 0 0 1 r3.length)), (.g [(cI 0), (cI 0)])] (Weak.ren (fun k => if k = 0 then 4 else if k = 1 then 0 else k) (by refine ⟨?_, ?_,  trivial⟩ <;> first | rfl | (simp only [AV.map, GV.map, CV.map, AB.map', id]; done) | (congr 3; omega) | (congr 4; omega) | (simp only [List.length_append, List.length_cons, List.length_nil, List.length_set]; rfl)) (by refine ⟨?_, ?_,  trivial⟩ <;> first | rfl | (simp only [AV.map, GV.map, CV.map, AB.map', id]; done) | (congr 3; omega) | (congr 4; omega) | (simp only [List.length_append, List.length_cons, List.length_nil, List.length_set]; rfl)) rfl) rfl ⟨.tmp rfl, .agg rfl rfl (fun _ => run_isAgg Try.underlying47) sz47, trivial⟩ ⟨by first | rfl | (simp only [AV.map, GV.map, CV.map, AB.map', id]; done) | (congr 3; omega) | (congr 4; omega) | (simp only [List.length_append, List.length_cons, List.length_nil, List.length_set]; rfl), trivial⟩) ?_ ?_
        · first | rfl | (simp [outOf, aC]; done) | (simp [outOf, aC]; omega)
        · first | rfl | (simp; done) | (simp; omega)
end Go.Proofs.Ytgmcdlfmifijlaa.Dev
