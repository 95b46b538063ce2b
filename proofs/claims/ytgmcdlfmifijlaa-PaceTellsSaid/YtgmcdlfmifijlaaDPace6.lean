/- payref1.AddUse. -/
import Derived.Test.YtgmcdlfmifijlaaDPace5
set_option linter.unusedVariables false
set_option linter.unusedSimpArgs false
namespace Go.Proofs.Ytgmcdlfmifijlaa.Dev
open Go.RowKit

set_option maxRecDepth 100000 in
set_option maxHeartbeats 1000000 in
theorem c_ref_AddUse (p : Pace) (l : List Use) (x : Use) (r : List Use) (e : Int) (hr : addUse p l x = (r, e)) : Fn Try.prog 46 [(.g [(cI p.ticks), (cI p.count), (cI p.sum)]), (.c (cR 2 ((l).map rUse))), (.g [(cI x.time), (cI x.sum)])] (.t [(.c (.s 0 0 2 r.length)), (.c (cI e))]) [(0, (.arr 44 2 ((r).map rUse)))] := by
  refine Fn.mk' 81 [(0, (aG [(cI p.ticks), (cI p.count), (cI p.sum)])), (1, (aC (cR 2 ((l).map rUse)))), (2, (aG [(cI x.time), (cI x.sum)]))] Try.func46 rfl rfl rfl rfl ?_
  intro W0 T0
  refine AC.len1 1 rfl (fun hlen1 => ?_)
  have hrp := @rightP p
  have hru : (usesF l).err = 0 → l.length ≤ 30 := fun h => (rightU h).1
  have hrx : (usesF [x]).err = 0 → 0 ≤ x.time ∧ x.time ≤ 1000000 ∧ 0 ≤ x.sum ∧ x.sum ≤ 1000000 := fun h => (@rightU [x] h).2 x (by simp)
  refine AC.seq ?_
  refine AC.region ?_
  refine AL.new (n' := 1) (Wanted.plain rfl) (g_boxS 0 rfl rfl) rfl rfl rfl ?_
  refine AL.new (n' := 2) (Wanted.plain rfl) (g_boxS 1 rfl rfl) rfl rfl rfl ?_
  refine AL.fast 2 rfl ?_
  refine AL.nil ?_
  refine then_ok ?_
  refine AC.seq ?_
  refine AC.seq ?_
  refine AC.region ?_
  refine AL.val (Wanted.plain rfl) (g_loadBs rfl rfl rfl Try.underlying41 rfl sz41 rfl rfl) rfl rfl ?_
  obtain ⟨e0, hr0⟩ : ∃ (e0 : Int), wrongP p = e0 := ⟨_, rfl⟩
  refine AL.call (n' := 2) (h' := [(1, (.box 44 [(cI x.time), (cI x.sum)])), (0, (.box 41 [(cI p.ticks), (cI p.count), (cI p.sum)]))]) (Wanted.plain rfl) (g_call 2 (c_ref_WrongPaceN p  e0 hr0) en39 rfl rfl ⟨⟨_, rfl, .g ⟨.d _, .d _, .d _,  trivial⟩⟩,  trivial⟩ trivial trivial rfl rfl rfl rfl) rfl rfl rfl rfl rfl ?_
  refine AL.fast 1 rfl ?_
  refine AL.nil ?_
  refine then_ok ?_
  refine AC.seq ?_
  refine AC.region ?_
  refine AL.fast 1 rfl ?_
  refine AL.val (Wanted.plain rfl) (g_binI rfl rfl rfl rfl) rfl rfl ?_
  refine AL.nil ?_
  refine then_ok ?_
  refine AC.cond rfl (fun hc1 => ?_) (fun hc1 => ?_)
  ·
    have hc1' := hc1; try simp only [sumB, Bool.not_eq_true', Bool.not_eq_false', Bool.or_eq_true, Bool.or_eq_false_iff, Bool.and_eq_true, Bool.and_eq_false_imp, decide_eq_true_eq, decide_eq_false_iff_not, Bool.not_not, Bool.not_true, Bool.not_false] at hc1'
    refine AC.seq ?_
    refine AC.region ?_
    refine AL.fast 3 rfl ?_
    refine AL.nil ?_
    refine then_ok ?_
    refine AC.ret ?_
    refine then_ret ?_
    refine retQ_weak (Weak.nil 6 44 2 (by decide) rfl) ?_
    have hX : addUse p l x = (([] : List Use), e0) := by
      unfold addUse; rw [if_pos (by omega), hr0]
    rw [hX] at hr; clear hX
    simp only [Prod.mk.injEq] at hr; obtain ⟨rfl, rfl⟩ := hr
    refine retQ_mk (av' := outOf [(.c (.s 0 0 2 0)), (.c (cI e0))]) (nb' := [(0, (.arr 44 2 ((([] : List Use)).map rUse)))]) (retQ_ret ⟨[(6, (aC (.s 0 0 2 0))), (7, (aI e0))], [(0, (.arr 44 2 ((([] : List Use)).map rUse)))], 1⟩ [.tmp 6, .tmp 7] [(.c (.s 0 0 2 0)), (.c (cI e0))] (Weak.ren (fun k => if k = 0 then 2 else k) (⟨by first | rfl | (simp only [AV.map, GV.map, CV.map, AB.map', id]; done) | (congr 3; omega) | (congr 4; omega) | (simp only [List.length_append, List.length_cons, List.length_nil, List.length_set]; rfl), by first | rfl | (simp only [AV.map, GV.map, CV.map, AB.map', id]; done) | (congr 3; omega) | (congr 4; omega) | (simp only [List.length_append, List.length_cons, List.length_nil, List.length_set]; rfl),  trivial⟩) (⟨by first | rfl | (simp only [AV.map, GV.map, CV.map, AB.map', id]; done) | (congr 3; omega) | (congr 4; omega) | (simp only [List.length_append, List.length_cons, List.length_nil, List.length_set]; rfl),  trivial⟩) rfl) rfl ⟨.tmp rfl, .tmp rfl, trivial⟩ ⟨by first | rfl | (simp only [AV.map, GV.map, CV.map, AB.map', id]; done) | (congr 3; omega) | (congr 4; omega) | (simp only [List.length_append, List.length_cons, List.length_nil, List.length_set]; rfl),  trivial⟩) ?_ ?_
    · first | rfl | (simp [outOf, aC]; done) | (simp [outOf, aC]; omega)
    · first | rfl | (simp; done) | (simp; omega)
  ·
    have hc1' := hc1; try simp only [sumB, Bool.not_eq_true', Bool.not_eq_false', Bool.or_eq_true, Bool.or_eq_false_iff, Bool.and_eq_true, Bool.and_eq_false_imp, decide_eq_true_eq, decide_eq_false_iff_not, Bool.not_not, Bool.not_true, Bool.not_false] at hc1'
    refine AC.skip ?_
    refine then_ok ?_
    refine AC.seq ?_
    refine AC.seq ?_
    refine AC.region ?_
    refine AL.fast 1 rfl ?_
    obtain ⟨f1, hr1⟩ : ∃ (f1 : Fault), usesF l = f1 := ⟨_, rfl⟩
    have hq1 : (usesF l).err = f1.err := by rw [hr1]
    refine AL.call (n' := 2) (h' := [(1, (.box 44 [(cI x.time), (cI x.sum)])), (0, (.box 41 [(cI p.ticks), (cI p.count), (cI p.sum)]))]) (Wanted.plain rfl) (g_call 2 (c_ref_WrongUsesN l  f1 hr1) en41 rfl rfl ⟨⟨_, rfl, .c (.d _)⟩,  trivial⟩ ⟨trivial, trivial,  trivial⟩ trivial rfl rfl rfl rfl) rfl rfl rfl rfl rfl ?_
    refine AL.new (n' := 3) (Wanted.plain rfl) (g_alloc 2 rfl zv47 rfl rfl rfl) rfl rfl rfl ?_
    refine AL.sto (h' := [(2, (.box 47 [(cI f1.err), (cI f1.at_)])), (1, (.box 44 [(cI x.time), (cI x.sum)])), (0, (.box 41 [(cI p.ticks), (cI p.count), (cI p.sum)]))]) (Wanted.plain rfl) (g_storeB rfl rfl rfl rfl rfl sz47 rfl (Nat.le_of_ble_eq_true rfl) rfl) rfl rfl rfl rfl ?_
    refine AL.nil ?_
    refine then_ok ?_
    refine AC.seq ?_
    refine AC.region ?_
    refine AL.val (Wanted.plain rfl) (g_fieldP rfl rfl Try.underlying47 rfl sz27 (by decide)) rfl rfl ?_
    refine AL.val (Wanted.plain rfl) (g_loadB rfl rfl rfl Try.underlying27 rfl rfl) rfl rfl ?_
    refine AL.val (Wanted.plain rfl) (g_binI rfl rfl rfl rfl) rfl rfl ?_
    refine AL.nil ?_
    refine then_ok ?_
    refine AC.cond rfl (fun hc2 => ?_) (fun hc2 => ?_)
    ·
      have hc2' := hc2; try simp only [sumB, Bool.not_eq_true', Bool.not_eq_false', Bool.or_eq_true, Bool.or_eq_false_iff, Bool.and_eq_true, Bool.and_eq_false_imp, decide_eq_true_eq, decide_eq_false_iff_not, Bool.not_not, Bool.not_true, Bool.not_false] at hc2'
      refine AC.seq ?_
      refine AC.weak (st' := ⟨[(1, (aC (cR 2 ((l).map rUse)))), (3, (aC (.p 0 0 0 0))), (5, (aC (.p 1 0 0 0))), (9, (aC (.p 2 0 0 0)))], [(2, (.box 47 [(cI f1.err), (cI f1.at_)])), (1, (.box 44 [(cI x.time), (cI x.sum)])), (0, (.box 41 [(cI p.ticks), (cI p.count), (cI p.sum)]))], 3⟩) (Weak.ren id (⟨by first | rfl | (simp only [AV.map, GV.map, CV.map, AB.map', id]; done) | (congr 3; omega) | (congr 4; omega) | (simp only [List.length_append, List.length_cons, List.length_nil, List.length_set]; rfl), by first | rfl | (simp only [AV.map, GV.map, CV.map, AB.map', id]; done) | (congr 3; omega) | (congr 4; omega) | (simp only [List.length_append, List.length_cons, List.length_nil, List.length_set]; rfl), by first | rfl | (simp only [AV.map, GV.map, CV.map, AB.map', id]; done) | (congr 3; omega) | (congr 4; omega) | (simp only [List.length_append, List.length_cons, List.length_nil, List.length_set]; rfl), by first | rfl | (simp only [AV.map, GV.map, CV.map, AB.map', id]; done) | (congr 3; omega) | (congr 4; omega) | (simp only [List.length_append, List.length_cons, List.length_nil, List.length_set]; rfl),  trivial⟩) (⟨by first | rfl | (simp only [AV.map, GV.map, CV.map, AB.map', id]; done) | (congr 3; omega) | (congr 4; omega) | (simp only [List.length_append, List.length_cons, List.length_nil, List.length_set]; rfl), by first | rfl | (simp only [AV.map, GV.map, CV.map, AB.map', id]; done) | (congr 3; omega) | (congr 4; omega) | (simp only [List.length_append, List.length_cons, List.length_nil, List.length_set]; rfl), by first | rfl | (simp only [AV.map, GV.map, CV.map, AB.map', id]; done) | (congr 3; omega) | (congr 4; omega) | (simp only [List.length_append, List.length_cons, List.length_nil, List.length_set]; rfl),  trivial⟩) rfl) ?_
      refine AC.draw [⟨some 25, (aC (.p 2 0 0 0)), [], [], [], [(9, (aC (.p 2 0 0 0)))], [(2, (.box 47 [(cI f1.err), (cI f1.at_)]))]⟩,
      ⟨some 26, (aI f1.err), [], [], [0], [(25, (aC (.p 2 0 0 0)))], [(2, (.box 47 [(cI f1.err), (cI f1.at_)]))]⟩,
      ⟨some 6, (aC cN), [], [], [], [], []⟩,
      ⟨some 7, (aI f1.err), [], [], [1], [(26, (aI f1.err))], []⟩] ⟨[(1, (aC (cR 2 ((l).map rUse)))), (3, (aC (.p 0 0 0 0))), (5, (aC (.p 1 0 0 0))), (9, (aC (.p 2 0 0 0))), (6, (aC cN)), (7, (aI f1.err))], [(2, (.box 47 [(cI f1.err), (cI f1.at_)])), (1, (.box 44 [(cI x.time), (cI x.sum)])), (0, (.box 41 [(cI p.ticks), (cI p.count), (cI p.sum)]))], 3⟩ mixed (by kernel_rfl) ?_ ?_ ?_ ?_
      · exact ⟨.inl ⟨(Wanted.plain rfl), GOp.cast (g_fieldP rfl rfl Try.underlying47 rfl sz27 (by decide)) rfl⟩,
      .inl ⟨(Wanted.plain rfl), GOp.cast (g_loadB rfl rfl rfl Try.underlying27 rfl rfl) rfl⟩,
      .inl ⟨(Wanted.plain rfl), GOp.cast (g_assign rfl rfl) rfl⟩,
      .inl ⟨(Wanted.plain rfl), GOp.cast (g_assign rfl rfl) rfl⟩,
       trivial⟩
      · exact ⟨⟨⟨.inl rfl,  trivial⟩, ⟨.inl rfl,  trivial⟩⟩, ⟨⟨.inr ⟨0, .head _, _, rfl, rfl, rfl⟩,  trivial⟩, ⟨.inl rfl,  trivial⟩⟩, ⟨trivial, trivial⟩, ⟨⟨.inr ⟨1, .head _, _, rfl, rfl, rfl⟩,  trivial⟩, trivial⟩,  trivial⟩
      · exact ⟨⟨.inl rfl, .inl rfl, .inl rfl, .inl rfl, .inr ⟨2, _, rfl, rfl, rfl⟩, .inr ⟨3, _, rfl, rfl, rfl⟩,  trivial⟩, ⟨.inl rfl, .inl rfl, .inl rfl,  trivial⟩⟩
      ·
        refine AL.nil ?_
        refine then_ok ?_
        refine AC.ret ?_
        refine then_ret ?_
        refine retQ_weak (Weak.nil 6 44 2 (by decide) rfl) ?_
        have hX : addUse p l x = (([] : List Use), f1.err) := by
          unfold addUse; rw [if_neg (by omega), if_pos (by rw [hr1]; omega), hr1]
        rw [hX] at hr; clear hX
        simp only [Prod.mk.injEq] at hr; obtain ⟨rfl, rfl⟩ := hr
        refine retQ_mk (av' := outOf [(.c (.s 0 0 2 0)), (.c (cI f1.err))]) (nb' := [(0, (.arr 44 2 ((([] : List Use)).map rUse)))]) (retQ_ret ⟨[(6, (aC (.s 0 0 2 0))), (7, (aI f1.err))], [(0, (.arr 44 2 ((([] : List Use)).map rUse)))], 1⟩ [.tmp 6, .tmp 7] [(.c (.s 0 0 2 0)), (.c (cI f1.err))] (Weak.ren (fun k => if k = 0 then 3 else k) (⟨by first | rfl | (simp only [AV.map, GV.map, CV.map, AB.map', id]; done) | (congr 3; omega) | (congr 4; omega) | (simp only [List.length_append, List.length_cons, List.length_nil, List.length_set]; rfl), by first | rfl | (simp only [AV.map, GV.map, CV.map, AB.map', id]; done) | (congr 3; omega) | (congr 4; omega) | (simp only [List.length_append, List.length_cons, List.length_nil, List.length_set]; rfl),  trivial⟩) (⟨by first | rfl | (simp only [AV.map, GV.map, CV.map, AB.map', id]; done) | (congr 3; omega) | (congr 4; omega) | (simp only [List.length_append, List.length_cons, List.length_nil, List.length_set]; rfl),  trivial⟩) rfl) rfl ⟨.tmp rfl, .tmp rfl, trivial⟩ ⟨by first | rfl | (simp only [AV.map, GV.map, CV.map, AB.map', id]; done) | (congr 3; omega) | (congr 4; omega) | (simp only [List.length_append, List.length_cons, List.length_nil, List.length_set]; rfl),  trivial⟩) ?_ ?_
        · first | rfl | (simp [outOf, aC]; done) | (simp [outOf, aC]; omega)
        · first | rfl | (simp; done) | (simp; omega)
    ·
      have hc2' := hc2; try simp only [sumB, Bool.not_eq_true', Bool.not_eq_false', Bool.or_eq_true, Bool.or_eq_false_iff, Bool.and_eq_true, Bool.and_eq_false_imp, decide_eq_true_eq, decide_eq_false_iff_not, Bool.not_not, Bool.not_true, Bool.not_false] at hc2'
      refine AC.skip ?_
      refine then_ok ?_
      refine AC.seq ?_
      refine AC.seq ?_
      refine AC.region ?_
      refine AL.val (Wanted.plain rfl) (g_loadBs rfl rfl rfl Try.underlying44 rfl sz44 rfl rfl) rfl rfl ?_
      refine AL.new (n' := 4) (Wanted.plain rfl) (g_lit (ys := [(0, (.g [(cI x.time), (cI x.sum)]))]) (rows := ([x]).map rUse) 3 sl42 rfl (by decide) ⟨⟨rfl, rfl⟩,  trivial⟩ rfl rfl rfl rfl) rfl rfl rfl ?_
      obtain ⟨f2, hr2⟩ : ∃ (f2 : Fault), usesF ([x]) = f2 := ⟨_, rfl⟩
      have hq2 : (usesF ([x])).err = f2.err := by rw [hr2]
      refine AL.call (n' := 4) (h' := [(3, (.arr 44 2 (([x]).map rUse))), (2, (.box 47 [(cI f1.err), (cI f1.at_)])), (1, (.box 44 [(cI x.time), (cI x.sum)])), (0, (.box 41 [(cI p.ticks), (cI p.count), (cI p.sum)]))]) (Wanted.plain rfl) (g_callE 4 [3] (c_ref_WrongUsesN ([x])  f2 hr2) en41 rfl rfl ⟨⟨_, rfl, .c (.s rfl (by decide) (by first | omega | (simp; done) | (simp; omega)))⟩,  trivial⟩ ⟨rfl, rfl,  trivial⟩ trivial rfl rfl rfl rfl) rfl rfl rfl rfl rfl ?_
      refine AL.new (n' := 5) (Wanted.plain rfl) (g_alloc 4 rfl zv47 rfl rfl rfl) rfl rfl rfl ?_
      refine AL.sto (h' := [(4, (.box 47 [(cI f2.err), (cI f2.at_)])), (3, (.arr 44 2 (([x]).map rUse))), (2, (.box 47 [(cI f1.err), (cI f1.at_)])), (1, (.box 44 [(cI x.time), (cI x.sum)])), (0, (.box 41 [(cI p.ticks), (cI p.count), (cI p.sum)]))]) (Wanted.plain rfl) (g_storeB rfl rfl rfl rfl rfl sz47 rfl (Nat.le_of_ble_eq_true rfl) rfl) rfl rfl rfl rfl ?_
      refine AL.nil ?_
      refine then_ok ?_
      refine AC.seq ?_
      refine AC.region ?_
      refine AL.val (Wanted.plain rfl) (g_fieldP rfl rfl Try.underlying47 rfl sz27 (by decide)) rfl rfl ?_
      refine AL.val (Wanted.plain rfl) (g_loadB rfl rfl rfl Try.underlying27 rfl rfl) rfl rfl ?_
      refine AL.val (Wanted.plain rfl) (g_binI rfl rfl rfl rfl) rfl rfl ?_
      refine AL.nil ?_
      refine then_ok ?_
      refine AC.cond rfl (fun hc3 => ?_) (fun hc3 => ?_)
      ·
        have hc3' := hc3; try simp only [sumB, Bool.not_eq_true', Bool.not_eq_false', Bool.or_eq_true, Bool.or_eq_false_iff, Bool.and_eq_true, Bool.and_eq_false_imp, decide_eq_true_eq, decide_eq_false_iff_not, Bool.not_not, Bool.not_true, Bool.not_false] at hc3'
        refine AC.seq ?_
        refine AC.weak (st' := ⟨[(1, (aC (cR 2 ((l).map rUse)))), (3, (aC (.p 0 0 0 0))), (5, (aC (.p 1 0 0 0))), (10, (aC (.p 4 0 0 0)))], [(4, (.box 47 [(cI f2.err), (cI f2.at_)])), (1, (.box 44 [(cI x.time), (cI x.sum)])), (0, (.box 41 [(cI p.ticks), (cI p.count), (cI p.sum)]))], 5⟩) (Weak.ren id (⟨by first | rfl | (simp only [AV.map, GV.map, CV.map, AB.map', id]; done) | (congr 3; omega) | (congr 4; omega) | (simp only [List.length_append, List.length_cons, List.length_nil, List.length_set]; rfl), by first | rfl | (simp only [AV.map, GV.map, CV.map, AB.map', id]; done) | (congr 3; omega) | (congr 4; omega) | (simp only [List.length_append, List.length_cons, List.length_nil, List.length_set]; rfl), by first | rfl | (simp only [AV.map, GV.map, CV.map, AB.map', id]; done) | (congr 3; omega) | (congr 4; omega) | (simp only [List.length_append, List.length_cons, List.length_nil, List.length_set]; rfl), by first | rfl | (simp only [AV.map, GV.map, CV.map, AB.map', id]; done) | (congr 3; omega) | (congr 4; omega) | (simp only [List.length_append, List.length_cons, List.length_nil, List.length_set]; rfl),  trivial⟩) (⟨by first | rfl | (simp only [AV.map, GV.map, CV.map, AB.map', id]; done) | (congr 3; omega) | (congr 4; omega) | (simp only [List.length_append, List.length_cons, List.length_nil, List.length_set]; rfl), by first | rfl | (simp only [AV.map, GV.map, CV.map, AB.map', id]; done) | (congr 3; omega) | (congr 4; omega) | (simp only [List.length_append, List.length_cons, List.length_nil, List.length_set]; rfl), by first | rfl | (simp only [AV.map, GV.map, CV.map, AB.map', id]; done) | (congr 3; omega) | (congr 4; omega) | (simp only [List.length_append, List.length_cons, List.length_nil, List.length_set]; rfl),  trivial⟩) rfl) ?_
        refine AC.draw [⟨some 33, (aC (.p 4 0 0 0)), [], [], [], [(10, (aC (.p 4 0 0 0)))], [(4, (.box 47 [(cI f2.err), (cI f2.at_)]))]⟩,
      ⟨some 34, (aI f2.err), [], [], [0], [(33, (aC (.p 4 0 0 0)))], [(4, (.box 47 [(cI f2.err), (cI f2.at_)]))]⟩,
      ⟨some 6, (aC cN), [], [], [], [], []⟩,
      ⟨some 7, (aI f2.err), [], [], [1], [(34, (aI f2.err))], []⟩] ⟨[(1, (aC (cR 2 ((l).map rUse)))), (3, (aC (.p 0 0 0 0))), (5, (aC (.p 1 0 0 0))), (10, (aC (.p 4 0 0 0))), (6, (aC cN)), (7, (aI f2.err))], [(4, (.box 47 [(cI f2.err), (cI f2.at_)])), (1, (.box 44 [(cI x.time), (cI x.sum)])), (0, (.box 41 [(cI p.ticks), (cI p.count), (cI p.sum)]))], 5⟩ mixed (by kernel_rfl) ?_ ?_ ?_ ?_
        · exact ⟨.inl ⟨(Wanted.plain rfl), GOp.cast (g_fieldP rfl rfl Try.underlying47 rfl sz27 (by decide)) rfl⟩,
      .inl ⟨(Wanted.plain rfl), GOp.cast (g_loadB rfl rfl rfl Try.underlying27 rfl rfl) rfl⟩,
      .inl ⟨(Wanted.plain rfl), GOp.cast (g_assign rfl rfl) rfl⟩,
      .inl ⟨(Wanted.plain rfl), GOp.cast (g_assign rfl rfl) rfl⟩,
       trivial⟩
        · exact ⟨⟨⟨.inl rfl,  trivial⟩, ⟨.inl rfl,  trivial⟩⟩, ⟨⟨.inr ⟨0, .head _, _, rfl, rfl, rfl⟩,  trivial⟩, ⟨.inl rfl,  trivial⟩⟩, ⟨trivial, trivial⟩, ⟨⟨.inr ⟨1, .head _, _, rfl, rfl, rfl⟩,  trivial⟩, trivial⟩,  trivial⟩
        · exact ⟨⟨.inl rfl, .inl rfl, .inl rfl, .inl rfl, .inr ⟨2, _, rfl, rfl, rfl⟩, .inr ⟨3, _, rfl, rfl, rfl⟩,  trivial⟩, ⟨.inl rfl, .inl rfl, .inl rfl,  trivial⟩⟩
        ·
          refine AL.nil ?_
          refine then_ok ?_
          refine AC.ret ?_
          refine then_ret ?_
          refine retQ_weak (Weak.nil 6 44 2 (by decide) rfl) ?_
          have hX : addUse p l x = (([] : List Use), f2.err) := by
            unfold addUse; rw [if_neg (by omega), if_neg (by rw [hr1]; omega), if_pos (by rw [hr2]; omega), hr2]
          rw [hX] at hr; clear hX
          simp only [Prod.mk.injEq] at hr; obtain ⟨rfl, rfl⟩ := hr
          refine retQ_mk (av' := outOf [(.c (.s 0 0 2 0)), (.c (cI f2.err))]) (nb' := [(0, (.arr 44 2 ((([] : List Use)).map rUse)))]) (retQ_ret ⟨[(6, (aC (.s 0 0 2 0))), (7, (aI f2.err))], [(0, (.arr 44 2 ((([] : List Use)).map rUse)))], 1⟩ [.tmp 6, .tmp 7] [(.c (.s 0 0 2 0)), (.c (cI f2.err))] (Weak.ren (fun k => if k = 0 then 5 else k) (⟨by first | rfl | (simp only [AV.map, GV.map, CV.map, AB.map', id]; done) | (congr 3; omega) | (congr 4; omega) | (simp only [List.length_append, List.length_cons, List.length_nil, List.length_set]; rfl), by first | rfl | (simp only [AV.map, GV.map, CV.map, AB.map', id]; done) | (congr 3; omega) | (congr 4; omega) | (simp only [List.length_append, List.length_cons, List.length_nil, List.length_set]; rfl),  trivial⟩) (⟨by first | rfl | (simp only [AV.map, GV.map, CV.map, AB.map', id]; done) | (congr 3; omega) | (congr 4; omega) | (simp only [List.length_append, List.length_cons, List.length_nil, List.length_set]; rfl),  trivial⟩) rfl) rfl ⟨.tmp rfl, .tmp rfl, trivial⟩ ⟨by first | rfl | (simp only [AV.map, GV.map, CV.map, AB.map', id]; done) | (congr 3; omega) | (congr 4; omega) | (simp only [List.length_append, List.length_cons, List.length_nil, List.length_set]; rfl),  trivial⟩) ?_ ?_
          · first | rfl | (simp [outOf, aC]; done) | (simp [outOf, aC]; omega)
          · first | rfl | (simp; done) | (simp; omega)
      ·
        have hc3' := hc3; try simp only [sumB, Bool.not_eq_true', Bool.not_eq_false', Bool.or_eq_true, Bool.or_eq_false_iff, Bool.and_eq_true, Bool.and_eq_false_imp, decide_eq_true_eq, decide_eq_false_iff_not, Bool.not_not, Bool.not_true, Bool.not_false] at hc3'
        refine AC.skip ?_
        refine then_ok ?_
        refine AC.seq ?_
        refine AC.seq ?_
        rcases Bool.eq_false_or_eq_true (decide ((↑l.length : Int) > 0)) with hb4 | hb4
        ·
          have hb4' := hb4; try simp only [sumB, Bool.not_eq_true', Bool.not_eq_false', Bool.or_eq_true, Bool.or_eq_false_iff, Bool.and_eq_true, Bool.and_eq_false_imp, decide_eq_true_eq, decide_eq_false_iff_not, Bool.not_not, Bool.not_true, Bool.not_false] at hb4'
          obtain ⟨x1, hx1⟩ := exget (xs := l) (i := (l.length) - 1) (by first | omega | (simp; done) | (simp; omega))
          refine AC.weak (st' := ⟨[(1, (aC (cR 2 ((l).map rUse)))), (3, (aC (.p 0 0 0 0))), (5, (aC (.p 1 0 0 0)))], [(1, (.box 44 [(cI x.time), (cI x.sum)])), (0, (.box 41 [(cI p.ticks), (cI p.count), (cI p.sum)]))], 5⟩) (Weak.ren id (⟨by first | rfl | (simp only [AV.map, GV.map, CV.map, AB.map', id]; done) | (congr 3; omega) | (congr 4; omega) | (simp only [List.length_append, List.length_cons, List.length_nil, List.length_set]; rfl), by first | rfl | (simp only [AV.map, GV.map, CV.map, AB.map', id]; done) | (congr 3; omega) | (congr 4; omega) | (simp only [List.length_append, List.length_cons, List.length_nil, List.length_set]; rfl), by first | rfl | (simp only [AV.map, GV.map, CV.map, AB.map', id]; done) | (congr 3; omega) | (congr 4; omega) | (simp only [List.length_append, List.length_cons, List.length_nil, List.length_set]; rfl),  trivial⟩) (⟨by first | rfl | (simp only [AV.map, GV.map, CV.map, AB.map', id]; done) | (congr 3; omega) | (congr 4; omega) | (simp only [List.length_append, List.length_cons, List.length_nil, List.length_set]; rfl), by first | rfl | (simp only [AV.map, GV.map, CV.map, AB.map', id]; done) | (congr 3; omega) | (congr 4; omega) | (simp only [List.length_append, List.length_cons, List.length_nil, List.length_set]; rfl),  trivial⟩) rfl) ?_
          refine AC.draw [⟨some 35, (aC (cR 2 ((l).map rUse))), [], [], [], [(1, (aC (cR 2 ((l).map rUse))))], []⟩,
      ⟨some 36, (aI (↑l.length : Int)), [], [], [0], [(35, (aC (cR 2 ((l).map rUse))))], []⟩,
      ⟨some 37, (aB true), [], [], [1], [(36, (aI (↑l.length : Int)))], []⟩,
      ⟨some 38, (aB true), [], [], [2], [(37, (aB true))], []⟩,
      ⟨some 39, (aC (cR 2 ((l).map rUse))), [], [], [3], [(1, (aC (cR 2 ((l).map rUse)))), (38, (aB true))], []⟩,
      ⟨some 40, (aC (cR 2 ((l).map rUse))), [], [], [3], [(1, (aC (cR 2 ((l).map rUse)))), (38, (aB true))], []⟩,
      ⟨some 41, (aI (↑l.length : Int)), [], [], [3, 5], [(40, (aC (cR 2 ((l).map rUse)))), (38, (aB true))], []⟩,
      ⟨some 42, (aI ((↑l.length : Int) - 1)), [], [], [3, 6], [(41, (aI (↑l.length : Int))), (38, (aB true))], []⟩,
      ⟨some 43, (aC (.q (rUse x1) 0)), [], [], [3, 4, 7], [(39, (aC (cR 2 ((l).map rUse)))), (42, (aI ((↑l.length : Int) - 1))), (38, (aB true))], []⟩,
      ⟨some 44, (aC (.q (rUse x1) 0)), [], [], [3, 8], [(43, (aC (.q (rUse x1) 0))), (38, (aB true))], []⟩,
      ⟨some 45, (aI x1.time), [], [], [3, 9], [(44, (aC (.q (rUse x1) 0))), (38, (aB true))], []⟩,
      ⟨some 46, (aC (.p 1 0 0 0)), [], [], [3], [(5, (aC (.p 1 0 0 0))), (38, (aB true))], [(1, (.box 44 [(cI x.time), (cI x.sum)]))]⟩,
      ⟨some 47, (aI x.time), [], [], [3, 11], [(46, (aC (.p 1 0 0 0))), (38, (aB true))], [(1, (.box 44 [(cI x.time), (cI x.sum)]))]⟩,
      ⟨some 48, (aB (decide (x1.time > x.time))), [], [], [3, 10, 12], [(45, (aI x1.time)), (47, (aI x.time)), (38, (aB true))], []⟩,
      ⟨some 49, (aB (decide (x1.time > x.time))), [], [], [3, 13], [(38, (aB true)), (48, (aB (decide (x1.time > x.time))))], []⟩] ⟨[(1, (aC (cR 2 ((l).map rUse)))), (3, (aC (.p 0 0 0 0))), (5, (aC (.p 1 0 0 0))), (49, (aB (decide (x1.time > x.time))))], [(1, (.box 44 [(cI x.time), (cI x.sum)])), (0, (.box 41 [(cI p.ticks), (cI p.count), (cI p.sum)]))], 5⟩ mixed (by kernel_rfl) ?_ ?_ ?_ ?_
          · exact ⟨.inl ⟨(Wanted.plain rfl), GOp.cast (g_move rfl rfl) rfl⟩,
      .inl ⟨(Wanted.plain rfl), GOp.cast (g_lenM rfl rfl rfl rfl rfl Try.underlying42) rfl⟩,
      .inl ⟨(Wanted.plain rfl), GOp.cast (g_binI rfl rfl rfl (congrArg (fun b => some (Value.bool b)) hb4)) rfl⟩,
      .inl ⟨(Wanted.plain rfl), GOp.cast (g_move rfl rfl) rfl⟩,
      .inl ⟨(Wanted.yes rfl rfl rfl), GOp.cast (g_move rfl rfl) rfl⟩,
      .inl ⟨(Wanted.yes rfl rfl rfl), GOp.cast (g_move rfl rfl) rfl⟩,
      .inl ⟨(Wanted.yes rfl rfl rfl), GOp.cast (g_lenM rfl rfl rfl rfl rfl Try.underlying42) rfl⟩,
      .inl ⟨(Wanted.yes rfl rfl rfl), GOp.cast (g_binI rfl rfl rfl (wrap_ok (by first | omega | (simp; done) | (simp; omega)))) rfl⟩,
      .inl ⟨(Wanted.yes rfl rfl rfl), GOp.cast (g_indexQ (i := (l.length) - 1) rfl rfl rfl Try.underlying42 sz44 (by first | omega | (simp; done) | (simp; omega)) (getmap hx1)) rfl⟩,
      .inl ⟨(Wanted.yes rfl rfl rfl), GOp.cast (g_fieldQ rfl rfl Try.underlying44 rfl sz3 (by decide)) rfl⟩,
      .inl ⟨(Wanted.yes rfl rfl rfl), GOp.cast (g_loadQ rfl rfl Try.underlying3 rfl rfl) rfl⟩,
      .inl ⟨(Wanted.yes rfl rfl rfl), GOp.cast (g_fieldP rfl rfl Try.underlying44 rfl sz3 (by decide)) rfl⟩,
      .inl ⟨(Wanted.yes rfl rfl rfl), GOp.cast (g_loadB rfl rfl rfl Try.underlying3 rfl rfl) rfl⟩,
      .inl ⟨(Wanted.yes rfl rfl rfl), GOp.cast (g_binI rfl rfl rfl rfl) rfl⟩,
      .inl ⟨(Wanted.plain rfl), GOp.cast (g_pick rfl rfl rfl) rfl⟩,
       trivial⟩
          · exact ⟨⟨⟨.inl rfl,  trivial⟩, trivial⟩, ⟨⟨.inr ⟨0, .head _, _, rfl, rfl, rfl⟩,  trivial⟩, trivial⟩, ⟨⟨.inr ⟨1, .head _, _, rfl, rfl, rfl⟩,  trivial⟩, trivial⟩, ⟨⟨.inr ⟨2, .head _, _, rfl, rfl, rfl⟩,  trivial⟩, trivial⟩, ⟨⟨.inl rfl, .inr ⟨3, .head _, _, rfl, rfl, rfl⟩,  trivial⟩, trivial⟩, ⟨⟨.inl rfl, .inr ⟨3, .head _, _, rfl, rfl, rfl⟩,  trivial⟩, trivial⟩, ⟨⟨.inr ⟨5, .tail _ (.head _), _, rfl, rfl, rfl⟩, .inr ⟨3, .head _, _, rfl, rfl, rfl⟩,  trivial⟩, trivial⟩, ⟨⟨.inr ⟨6, .tail _ (.head _), _, rfl, rfl, rfl⟩, .inr ⟨3, .head _, _, rfl, rfl, rfl⟩,  trivial⟩, trivial⟩, ⟨⟨.inr ⟨4, .tail _ (.head _), _, rfl, rfl, rfl⟩, .inr ⟨7, .tail _ (.tail _ (.head _)), _, rfl, rfl, rfl⟩, .inr ⟨3, .head _, _, rfl, rfl, rfl⟩,  trivial⟩, trivial⟩, ⟨⟨.inr ⟨8, .tail _ (.head _), _, rfl, rfl, rfl⟩, .inr ⟨3, .head _, _, rfl, rfl, rfl⟩,  trivial⟩, trivial⟩, ⟨⟨.inr ⟨9, .tail _ (.head _), _, rfl, rfl, rfl⟩, .inr ⟨3, .head _, _, rfl, rfl, rfl⟩,  trivial⟩, trivial⟩, ⟨⟨.inl rfl, .inr ⟨3, .head _, _, rfl, rfl, rfl⟩,  trivial⟩, ⟨.inl rfl,  trivial⟩⟩, ⟨⟨.inr ⟨11, .tail _ (.head _), _, rfl, rfl, rfl⟩, .inr ⟨3, .head _, _, rfl, rfl, rfl⟩,  trivial⟩, ⟨.inl rfl,  trivial⟩⟩, ⟨⟨.inr ⟨10, .tail _ (.head _), _, rfl, rfl, rfl⟩, .inr ⟨12, .tail _ (.tail _ (.head _)), _, rfl, rfl, rfl⟩, .inr ⟨3, .head _, _, rfl, rfl, rfl⟩,  trivial⟩, trivial⟩, ⟨⟨.inr ⟨3, .head _, _, rfl, rfl, rfl⟩, .inr ⟨13, .tail _ (.head _), _, rfl, rfl, rfl⟩,  trivial⟩, trivial⟩,  trivial⟩
          · exact ⟨⟨.inl rfl, .inl rfl, .inl rfl, .inr ⟨14, _, rfl, rfl, rfl⟩,  trivial⟩, ⟨.inl rfl, .inl rfl,  trivial⟩⟩
          ·
            refine AL.nil ?_
            refine then_ok ?_
            refine AC.cond rfl (fun hc5 => ?_) (fun hc5 => ?_)
            ·
              have hc5' := hc5; try simp only [sumB, Bool.not_eq_true', Bool.not_eq_false', Bool.or_eq_true, Bool.or_eq_false_iff, Bool.and_eq_true, Bool.and_eq_false_imp, decide_eq_true_eq, decide_eq_false_iff_not, Bool.not_not, Bool.not_true, Bool.not_false] at hc5'
              refine AC.seq ?_
              refine AC.region ?_
              refine AL.fast 2 rfl ?_
              refine AL.nil ?_
              refine then_ok ?_
              refine AC.ret ?_
              refine then_ret ?_
              refine retQ_weak (Weak.nil 6 44 2 (by decide) rfl) ?_
              have hX : addUse p l x = (([] : List Use), 2) := by
                unfold addUse; rw [if_neg (by omega), if_neg (by rw [hr1]; omega), if_neg (by rw [hr2]; omega), if_pos (by rw [late_of hx1, decide_eq_true_eq]; omega)]
              rw [hX] at hr; clear hX
              simp only [Prod.mk.injEq] at hr; obtain ⟨rfl, rfl⟩ := hr
              refine retQ_mk (av' := outOf [(.c (.s 0 0 2 0)), (.c (cI 2))]) (nb' := [(0, (.arr 44 2 ((([] : List Use)).map rUse)))]) (retQ_ret ⟨[(6, (aC (.s 0 0 2 0))), (7, (aI 2))], [(0, (.arr 44 2 ((([] : List Use)).map rUse)))], 1⟩ [.tmp 6, .tmp 7] [(.c (.s 0 0 2 0)), (.c (cI 2))] (Weak.ren (fun k => if k = 0 then 5 else k) (⟨by first | rfl | (simp only [AV.map, GV.map, CV.map, AB.map', id]; done) | (congr 3; omega) | (congr 4; omega) | (simp only [List.length_append, List.length_cons, List.length_nil, List.length_set]; rfl), by first | rfl | (simp only [AV.map, GV.map, CV.map, AB.map', id]; done) | (congr 3; omega) | (congr 4; omega) | (simp only [List.length_append, List.length_cons, List.length_nil, List.length_set]; rfl),  trivial⟩) (⟨by first | rfl | (simp only [AV.map, GV.map, CV.map, AB.map', id]; done) | (congr 3; omega) | (congr 4; omega) | (simp only [List.length_append, List.length_cons, List.length_nil, List.length_set]; rfl),  trivial⟩) rfl) rfl ⟨.tmp rfl, .tmp rfl, trivial⟩ ⟨by first | rfl | (simp only [AV.map, GV.map, CV.map, AB.map', id]; done) | (congr 3; omega) | (congr 4; omega) | (simp only [List.length_append, List.length_cons, List.length_nil, List.length_set]; rfl),  trivial⟩) ?_ ?_
              · first | rfl | (simp [outOf, aC]; done) | (simp [outOf, aC]; omega)
              · first | rfl | (simp; done) | (simp; omega)
            ·
              have hc5' := hc5; try simp only [sumB, Bool.not_eq_true', Bool.not_eq_false', Bool.or_eq_true, Bool.or_eq_false_iff, Bool.and_eq_true, Bool.and_eq_false_imp, decide_eq_true_eq, decide_eq_false_iff_not, Bool.not_not, Bool.not_true, Bool.not_false] at hc5'
              refine AC.skip ?_
              refine then_ok ?_
              refine AC.seq ?_
              obtain ⟨r3, hr3⟩ : ∃ (r3 : List Use), recentP p l x.time = r3 := ⟨_, rfl⟩
              have hrl3 : r3.length ≤ l.length := by rw [← hr3]; exact keepL_len _ _
              refine AC.weak (st' := ⟨[(1, (aC (cR 2 ((l).map rUse)))), (3, (aC (.p 0 0 0 0))), (5, (aC (.p 1 0 0 0)))], [(1, (.box 44 [(cI x.time), (cI x.sum)])), (0, (.box 41 [(cI p.ticks), (cI p.count), (cI p.sum)]))], 5⟩) (Weak.ren id (⟨by first | rfl | (simp only [AV.map, GV.map, CV.map, AB.map', id]; done) | (congr 3; omega) | (congr 4; omega) | (simp only [List.length_append, List.length_cons, List.length_nil, List.length_set]; rfl), by first | rfl | (simp only [AV.map, GV.map, CV.map, AB.map', id]; done) | (congr 3; omega) | (congr 4; omega) | (simp only [List.length_append, List.length_cons, List.length_nil, List.length_set]; rfl), by first | rfl | (simp only [AV.map, GV.map, CV.map, AB.map', id]; done) | (congr 3; omega) | (congr 4; omega) | (simp only [List.length_append, List.length_cons, List.length_nil, List.length_set]; rfl),  trivial⟩) (⟨by first | rfl | (simp only [AV.map, GV.map, CV.map, AB.map', id]; done) | (congr 3; omega) | (congr 4; omega) | (simp only [List.length_append, List.length_cons, List.length_nil, List.length_set]; rfl), by first | rfl | (simp only [AV.map, GV.map, CV.map, AB.map', id]; done) | (congr 3; omega) | (congr 4; omega) | (simp only [List.length_append, List.length_cons, List.length_nil, List.length_set]; rfl),  trivial⟩) rfl) ?_
              refine AC.draw [⟨some 50, (aG [(cI p.ticks), (cI p.count), (cI p.sum)]), [], [], [], [(3, (aC (.p 0 0 0 0)))], [(0, (.box 41 [(cI p.ticks), (cI p.count), (cI p.sum)]))]⟩,
      ⟨some 51, (aC (cR 2 ((l).map rUse))), [], [], [], [(1, (aC (cR 2 ((l).map rUse))))], []⟩,
      ⟨some 52, (aC (.p 1 0 0 0)), [], [], [], [(5, (aC (.p 1 0 0 0)))], [(1, (.box 44 [(cI x.time), (cI x.sum)]))]⟩,
      ⟨some 53, (aI x.time), [], [], [2], [(52, (aC (.p 1 0 0 0)))], [(1, (.box 44 [(cI x.time), (cI x.sum)]))]⟩,
      ⟨some 54, (aC (.s 5 0 2 r3.length)), [(5, (.arr 44 2 ((r3).map rUse)))], [], [0, 1, 3], [(50, (aG [(cI p.ticks), (cI p.count), (cI p.sum)])), (51, (aC (cR 2 ((l).map rUse)))), (53, (aI x.time))], []⟩,
      ⟨some 55, (aG [(cI x.time), (cI x.sum)]), [], [], [], [(5, (aC (.p 1 0 0 0)))], [(1, (.box 44 [(cI x.time), (cI x.sum)]))]⟩,
      ⟨some 56, (aC (.s 6 0 2 1)), [(6, (.arr 44 2 (([x]).map rUse)))], [], [5], [(55, (aG [(cI x.time), (cI x.sum)]))], []⟩,
      ⟨some 57, (aC (.s 7 0 2 (r3.length + 1))), [(7, (.arr 44 2 ((r3 ++ ([x])).map rUse)))], [5], [4, 6], [(54, (aC (.s 5 0 2 r3.length))), (56, (aC (.s 6 0 2 1)))], [(6, (.arr 44 2 (([x]).map rUse))), (5, (.arr 44 2 ((r3).map rUse)))]⟩,
      ⟨some 11, (aC (.s 7 0 2 (r3.length + 1))), [], [], [7], [(57, (aC (.s 7 0 2 (r3.length + 1))))], [(7, (.arr 44 2 ((r3 ++ ([x])).map rUse)))]⟩] ⟨[(1, (aC (cR 2 ((l).map rUse)))), (3, (aC (.p 0 0 0 0))), (5, (aC (.p 1 0 0 0))), (11, (aC (.s 7 0 2 (r3.length + 1))))], [(7, (.arr 44 2 ((r3 ++ ([x])).map rUse))), (1, (.box 44 [(cI x.time), (cI x.sum)])), (0, (.box 41 [(cI p.ticks), (cI p.count), (cI p.sum)]))], 8⟩ mixed (by kernel_rfl) ?_ ?_ ?_ ?_
              · exact ⟨.inl ⟨(Wanted.plain rfl), GOp.cast (g_loadBs rfl rfl rfl Try.underlying41 rfl sz41 rfl rfl) rfl⟩,
      .inl ⟨(Wanted.plain rfl), GOp.cast (g_move rfl rfl) rfl⟩,
      .inl ⟨(Wanted.plain rfl), GOp.cast (g_fieldP rfl rfl Try.underlying44 rfl sz3 (by decide)) rfl⟩,
      .inl ⟨(Wanted.plain rfl), GOp.cast (g_loadB rfl rfl rfl Try.underlying3 rfl rfl) rfl⟩,
      .inl ⟨(Wanted.plain rfl), GOp.cast (g_call 5 (c_ref_Recent p l x.time (by first | assumption | omega | (have q1 := rightP (hr2.trans (by omega)); have q2 := uses1 (x := x) (by simp_all); omega)) (by first | assumption | omega) r3 hr3) en44 rfl rfl ⟨⟨_, rfl, .g ⟨.d _, .d _, .d _,  trivial⟩⟩, ⟨_, rfl, .c (.d _)⟩, ⟨_, rfl, .c (.d _)⟩,  trivial⟩ trivial ⟨(fun _ _ _ _ => trivial),  trivial⟩ rfl rfl rfl rfl) rfl⟩,
      .inl ⟨(Wanted.plain rfl), GOp.cast (g_loadBs rfl rfl rfl Try.underlying44 rfl sz44 rfl rfl) rfl⟩,
      .inl ⟨(Wanted.plain rfl), GOp.cast (g_lit (ys := [(0, (.g [(cI x.time), (cI x.sum)]))]) (rows := ([x]).map rUse) 6 sl42 rfl (by decide) ⟨⟨rfl, rfl⟩,  trivial⟩ rfl rfl rfl rfl) rfl⟩,
      .inl ⟨(Wanted.plain rfl), GOp.cast (g_append (m := 1) (N := r3.length + 1) (k2 := 7) (ys := ([x]).map rUse) sl42 rfl rfl rfl rfl rfl rfl (by first | omega | (simp; done) | (simp; omega)) rfl (.s rfl (by first | omega | (simp; done) | (simp; omega))) (by first | omega | (simp; done) | (simp; omega)) (by first | omega | (simp; done) | (simp; omega)) appmap (by decide) (by first | omega | (simp; done) | (simp; omega)) (by first | omega | (simp; done) | (simp; omega))) rfl⟩,
      .inl ⟨(Wanted.plain rfl), GOp.cast (g_assign rfl rfl) rfl⟩,
       trivial⟩
              · exact ⟨⟨⟨.inl rfl,  trivial⟩, ⟨.inl rfl,  trivial⟩⟩, ⟨⟨.inl rfl,  trivial⟩, trivial⟩, ⟨⟨.inl rfl,  trivial⟩, ⟨.inl rfl,  trivial⟩⟩, ⟨⟨.inr ⟨2, .head _, _, rfl, rfl, rfl⟩,  trivial⟩, ⟨.inl rfl,  trivial⟩⟩, ⟨⟨.inr ⟨0, .head _, _, rfl, rfl, rfl⟩, .inr ⟨1, .tail _ (.head _), _, rfl, rfl, rfl⟩, .inr ⟨3, .tail _ (.tail _ (.head _)), _, rfl, rfl, rfl⟩,  trivial⟩, trivial⟩, ⟨⟨.inl rfl,  trivial⟩, ⟨.inl rfl,  trivial⟩⟩, ⟨⟨.inr ⟨5, .head _, _, rfl, rfl, rfl⟩,  trivial⟩, trivial⟩, ⟨⟨.inr ⟨4, .head _, _, rfl, rfl, rfl⟩, .inr ⟨6, .tail _ (.head _), _, rfl, rfl, rfl⟩,  trivial⟩, ⟨.inr ⟨6, .tail _ (.head _), _, rfl, .head _⟩, .inr ⟨4, .head _, _, rfl, .head _⟩,  trivial⟩⟩, ⟨⟨.inr ⟨7, .head _, _, rfl, rfl, rfl⟩,  trivial⟩, ⟨.inr ⟨7, .head _, _, rfl, .head _⟩,  trivial⟩⟩,  trivial⟩
              · exact ⟨⟨.inl rfl, .inl rfl, .inl rfl, .inr ⟨8, _, rfl, rfl, rfl⟩,  trivial⟩, ⟨.inr ⟨7, _, rfl, .head _⟩, .inl rfl, .inl rfl,  trivial⟩⟩
              ·
                refine AL.nil ?_
                refine then_ok ?_
                refine AC.seq ?_
                refine AC.region ?_
                refine AL.fast 1 rfl ?_
                refine AL.nil ?_
                refine then_ok ?_
                refine AC.seq ?_
                refine AC.seq ?_
                refine AC.region ?_
                refine AL.fast 1 rfl ?_
                refine AL.val (Wanted.plain rfl) (g_lenS rfl rfl rfl rfl rfl Try.underlying42) rfl rfl ?_
                refine AL.fast 1 rfl ?_
                refine AL.nil ?_
                refine then_ok ?_
                refine AC.block ?_
                refine AC.loop (β := Nat) (fun (k : Nat) => ⟨[(3, (aC (.p 0 0 0 0))), (11, (aC (.s 7 0 2 (r3.length + 1)))), (12, (aI (sumU ((r3 ++ ([x])).take k)))), (58, (aC (.s 7 0 2 (r3.length + 1)))), (59, (aI (↑(r3.length + 1) : Int))), (60, (aI (↑k : Int)))], [(7, (.arr 44 2 ((r3 ++ ([x])).map rUse))), (0, (.box 41 [(cI p.ticks), (cI p.count), (cI p.sum)]))], 8⟩) (fun (k : Nat) => k ≤ (r3 ++ ([x])).length) (fun (k : Nat) => (r3 ++ ([x])).length - k) 0 ?_ ?_ ?_
                · exact (by omega)
                · exact Weak.ren id (⟨by first | rfl | (simp only [AV.map, GV.map, CV.map, AB.map', id]; done) | (congr 3; omega) | (congr 4; omega) | (simp only [List.length_append, List.length_cons, List.length_nil, List.length_set]; rfl) | ((rw [List.take_zero, sumU]; rfl)), by first | rfl | (simp only [AV.map, GV.map, CV.map, AB.map', id]; done) | (congr 3; omega) | (congr 4; omega) | (simp only [List.length_append, List.length_cons, List.length_nil, List.length_set]; rfl) | ((rw [List.take_zero, sumU]; rfl)), by first | rfl | (simp only [AV.map, GV.map, CV.map, AB.map', id]; done) | (congr 3; omega) | (congr 4; omega) | (simp only [List.length_append, List.length_cons, List.length_nil, List.length_set]; rfl) | ((rw [List.take_zero, sumU]; rfl)), by first | rfl | (simp only [AV.map, GV.map, CV.map, AB.map', id]; done) | (congr 3; omega) | (congr 4; omega) | (simp only [List.length_append, List.length_cons, List.length_nil, List.length_set]; rfl) | ((rw [List.take_zero, sumU]; rfl)), by first | rfl | (simp only [AV.map, GV.map, CV.map, AB.map', id]; done) | (congr 3; omega) | (congr 4; omega) | (simp only [List.length_append, List.length_cons, List.length_nil, List.length_set]; rfl) | ((rw [List.take_zero, sumU]; rfl)), by first | rfl | (simp only [AV.map, GV.map, CV.map, AB.map', id]; done) | (congr 3; omega) | (congr 4; omega) | (simp only [List.length_append, List.length_cons, List.length_nil, List.length_set]; rfl) | ((rw [List.take_zero, sumU]; rfl)),  trivial⟩) (⟨by first | rfl | (simp only [AV.map, GV.map, CV.map, AB.map', id]; done) | (congr 3; omega) | (congr 4; omega) | (simp only [List.length_append, List.length_cons, List.length_nil, List.length_set]; rfl), by first | rfl | (simp only [AV.map, GV.map, CV.map, AB.map', id]; done) | (congr 3; omega) | (congr 4; omega) | (simp only [List.length_append, List.length_cons, List.length_nil, List.length_set]; rfl),  trivial⟩) rfl
                ·
                  rintro k hi0_0
                  have hrl : (usesF l).err = 0 := by rw [hr1]; omega
                  have hrx1 : (usesF [x]).err = 0 := by rw [hr2]; omega
                  have hsb := sumU_recent' (p := p) (k := k) hrl hrx1
                  rw [hr3] at hsb
                  have hrn : (r3).length ≤ 30 := by rw [← hr3]; exact Nat.le_trans (keepL_len _ _) (hru hrl)
                  refine AC.seq ?_
                  refine AC.region ?_
                  refine AL.val (Wanted.plain rfl) (g_binI rfl rfl rfl rfl) rfl rfl ?_
                  refine AL.nil ?_
                  refine then_ok ?_
                  refine AC.seq ?_
                  refine AC.cond rfl (fun hc6 => ?_) (fun hc6 => ?_)
                  ·
                    have hc6' := hc6; try simp only [sumB, Bool.not_eq_true', Bool.not_eq_false', Bool.or_eq_true, Bool.or_eq_false_iff, Bool.and_eq_true, Bool.and_eq_false_imp, decide_eq_true_eq, decide_eq_false_iff_not, Bool.not_not, Bool.not_true, Bool.not_false] at hc6'
                    refine AC.skip ?_
                    refine then_ok ?_
                    refine AC.seq ?_
                    refine AC.block ?_
                    refine AC.seq ?_
                    refine AC.region ?_
                    refine AL.val (Wanted.plain rfl) (g_indexP0 (i := k) rfl rfl rfl Try.underlying42 sz44 (by first | omega | (simp; done) | (simp; omega)) (by first | omega | (simp; done) | (simp; omega))) rfl rfl ?_
                    obtain ⟨x2, hx2⟩ := exget (xs := (r3 ++ ([x]))) (i := k) (by first | omega | (simp; done) | (simp; omega))
                    have hx2v : 0 ≤ x2.time ∧ x2.time ≤ 1000000 ∧ 0 ≤ x2.sum ∧ x2.sum ≤ 1000000 := by
                      rcases List.mem_append.1 (List.mem_of_getElem? hx2) with hm | hm
                      · exact (rightU hrl).2 x2 (mem_keep (hr3.symm ▸ hm : x2 ∈ recentP p l x.time))
                      · exact (rightU hrx1).2 x2 hm
                    refine AL.val (Wanted.plain rfl) (g_loadAs rfl rfl rfl Try.underlying44 rfl sz44 (getmap hx2) rfl) rfl rfl ?_
                    refine AL.new (n' := 9) (Wanted.plain rfl) (g_alloc 8 rfl zv44 rfl rfl rfl) rfl rfl rfl ?_
                    refine AL.sto (h' := [(8, (.box 44 [(cI x2.time), (cI x2.sum)])), (7, (.arr 44 2 ((r3 ++ ([x])).map rUse))), (0, (.box 41 [(cI p.ticks), (cI p.count), (cI p.sum)]))]) (Wanted.plain rfl) (g_storeB rfl rfl rfl rfl rfl sz44 rfl (Nat.le_of_ble_eq_true rfl) rfl) rfl rfl rfl rfl ?_
                    refine AL.nil ?_
                    refine then_ok ?_
                    refine AC.region ?_
                    refine AL.fast 1 rfl ?_
                    refine AL.val (Wanted.plain rfl) (g_fieldP rfl rfl Try.underlying44 rfl sz3 (by decide)) rfl rfl ?_
                    refine AL.val (Wanted.plain rfl) (g_loadB rfl rfl rfl Try.underlying3 rfl rfl) rfl rfl ?_
                    refine AL.val (Wanted.plain rfl) (g_binI rfl rfl rfl (wrap_ok (by first | omega | (simp; done) | (simp; omega)))) rfl rfl ?_
                    refine AL.fast 1 rfl ?_
                    refine AL.nil ?_
                    refine block_ok ?_
                    refine then_ok ?_
                    refine AC.region ?_
                    refine AL.val (Wanted.plain rfl) (g_binI rfl rfl rfl (wrap_ok (by first | omega | (simp; done) | (simp; omega)))) rfl rfl ?_
                    refine AL.fast 1 rfl ?_
                    refine AL.nil ?_
                    refine then_ok ?_
                    refine ⟨k + 1, by first | omega | (simp; omega), by first | omega | (simp; done) | (simp; omega), Weak.ren id (⟨by first | rfl | (simp only [AV.map, GV.map, CV.map, AB.map', id]; done) | (congr 3; omega) | (congr 4; omega) | (simp only [List.length_append, List.length_cons, List.length_nil, List.length_set]; rfl) | (first | (rw [take_get hx2, sumU_snoc]; rfl) | (rw [take_get hx1, sumU_snoc]; rfl)), by first | rfl | (simp only [AV.map, GV.map, CV.map, AB.map', id]; done) | (congr 3; omega) | (congr 4; omega) | (simp only [List.length_append, List.length_cons, List.length_nil, List.length_set]; rfl) | (first | (rw [take_get hx2, sumU_snoc]; rfl) | (rw [take_get hx1, sumU_snoc]; rfl)), by first | rfl | (simp only [AV.map, GV.map, CV.map, AB.map', id]; done) | (congr 3; omega) | (congr 4; omega) | (simp only [List.length_append, List.length_cons, List.length_nil, List.length_set]; rfl) | (first | (rw [take_get hx2, sumU_snoc]; rfl) | (rw [take_get hx1, sumU_snoc]; rfl)), by first | rfl | (simp only [AV.map, GV.map, CV.map, AB.map', id]; done) | (congr 3; omega) | (congr 4; omega) | (simp only [List.length_append, List.length_cons, List.length_nil, List.length_set]; rfl) | (first | (rw [take_get hx2, sumU_snoc]; rfl) | (rw [take_get hx1, sumU_snoc]; rfl)), by first | rfl | (simp only [AV.map, GV.map, CV.map, AB.map', id]; done) | (congr 3; omega) | (congr 4; omega) | (simp only [List.length_append, List.length_cons, List.length_nil, List.length_set]; rfl) | (first | (rw [take_get hx2, sumU_snoc]; rfl) | (rw [take_get hx1, sumU_snoc]; rfl)), by first | rfl | (simp only [AV.map, GV.map, CV.map, AB.map', id]; done) | (congr 3; omega) | (congr 4; omega) | (simp only [List.length_append, List.length_cons, List.length_nil, List.length_set]; rfl) | (first | (rw [take_get hx2, sumU_snoc]; rfl) | (rw [take_get hx1, sumU_snoc]; rfl)),  trivial⟩) (⟨by first | rfl | (simp only [AV.map, GV.map, CV.map, AB.map', id]; done) | (congr 3; omega) | (congr 4; omega) | (simp only [List.length_append, List.length_cons, List.length_nil, List.length_set]; rfl), by first | rfl | (simp only [AV.map, GV.map, CV.map, AB.map', id]; done) | (congr 3; omega) | (congr 4; omega) | (simp only [List.length_append, List.length_cons, List.length_nil, List.length_set]; rfl),  trivial⟩) rfl⟩
                  ·
                    have hc6' := hc6; try simp only [sumB, Bool.not_eq_true', Bool.not_eq_false', Bool.or_eq_true, Bool.or_eq_false_iff, Bool.and_eq_true, Bool.and_eq_false_imp, decide_eq_true_eq, decide_eq_false_iff_not, Bool.not_not, Bool.not_true, Bool.not_false] at hc6'
                    refine AC.exit ?_
                    refine then_exit ?_
                    refine then_exit ?_
                    refine block_hit ?_
                    refine then_ok ?_
                    refine AC.seq ?_
                    refine AC.cutB 79 ((decide ((↑(r3.length + 1) : Int) > p.count)) || (decide ((sumU ((r3 ++ ([x])).take k)) > p.sum))) ?_ ?_
                    ·
                      refine AC.region ?_
                      refine AL.fast 1 rfl ?_
                      refine AL.val (Wanted.plain rfl) (g_lenS rfl rfl rfl rfl rfl Try.underlying42) rfl rfl ?_
                      refine AL.val (Wanted.plain rfl) (g_fieldP rfl rfl Try.underlying41 rfl sz3 (by decide)) rfl rfl ?_
                      refine AL.val (Wanted.plain rfl) (g_loadB rfl rfl rfl Try.underlying3 rfl rfl) rfl rfl ?_
                      refine AL.val (Wanted.plain rfl) (g_binI rfl rfl rfl rfl) rfl rfl ?_
                      refine AL.fast 1 rfl ?_
                      refine AL.dec (t := 74) rfl (fun hb7 => ?_) (fun hb7 => ?_)
                      ·
                        have hb7' := hb7; try simp only [sumB, Bool.not_eq_true', Bool.not_eq_false', Bool.or_eq_true, Bool.or_eq_false_iff, Bool.and_eq_true, Bool.and_eq_false_imp, decide_eq_true_eq, decide_eq_false_iff_not, Bool.not_not, Bool.not_true, Bool.not_false] at hb7'
                        refine AL.fast 5 rfl ?_
                        refine AL.nil ?_
                        refine then_ok ?_
                        exact Weak.popB 12 rfl rfl (by first | (simp [hb7]; done) | (simp_all; done) | (exfalso; simp_all; done) | (simp_all; omega)) rfl
                      ·
                        have hb7' := hb7; try simp only [sumB, Bool.not_eq_true', Bool.not_eq_false', Bool.or_eq_true, Bool.or_eq_false_iff, Bool.and_eq_true, Bool.and_eq_false_imp, decide_eq_true_eq, decide_eq_false_iff_not, Bool.not_not, Bool.not_true, Bool.not_false] at hb7'
                        refine AL.fast 1 rfl ?_
                        refine AL.val (Wanted.yes rfl rfl rfl) (g_fieldP rfl rfl Try.underlying41 rfl sz3 (by decide)) rfl rfl ?_
                        refine AL.val (Wanted.yes rfl rfl rfl) (g_loadB rfl rfl rfl Try.underlying3 rfl rfl) rfl rfl ?_
                        refine AL.val (Wanted.yes rfl rfl rfl) (g_binI rfl rfl rfl rfl) rfl rfl ?_
                        refine AL.fast 1 rfl ?_
                        refine AL.nil ?_
                        refine then_ok ?_
                        exact Weak.popB 12 rfl rfl (by first | (simp [hb7]; done) | (simp_all; done) | (exfalso; simp_all; done) | (simp_all; omega)) rfl
                    ·
                      refine AC.cond rfl (fun hc8 => ?_) (fun hc8 => ?_)
                      ·
                        have hc8' := hc8; try simp only [sumB, Bool.not_eq_true', Bool.not_eq_false', Bool.or_eq_true, Bool.or_eq_false_iff, Bool.and_eq_true, Bool.and_eq_false_imp, decide_eq_true_eq, decide_eq_false_iff_not, Bool.not_not, Bool.not_true, Bool.not_false] at hc8'
                        refine AC.seq ?_
                        refine AC.region ?_
                        refine AL.fast 2 rfl ?_
                        refine AL.nil ?_
                        refine then_ok ?_
                        refine AC.ret ?_
                        refine then_ret ?_
                        refine retQ_weak (Weak.nil 6 44 2 (by decide) rfl) ?_
                        have hX : addUse p l x = (([] : List Use), 11) := by
                          have hlate : lastLate l x.time = false := by first | (rw [late_of hx1]; simp; omega) | (have : l = [] := List.eq_nil_of_length_eq_zero (by omega); subst this; rfl)
                          have hk : (r3 ++ [x]).take k = r3 ++ [x] := List.take_of_length_le (by simp; omega)
                          rw [hk, sumU_snoc] at hc8'
                          unfold addUse; rw [if_neg (by omega), if_neg (by rw [hr1]; omega), if_neg (by rw [hr2]; omega), if_neg (by rw [hlate]; simp), hr3, if_pos (by omega)]
                        rw [hX] at hr; clear hX
                        simp only [Prod.mk.injEq] at hr; obtain ⟨rfl, rfl⟩ := hr
                        refine retQ_mk (av' := outOf [(.c (.s 0 0 2 0)), (.c (cI 11))]) (nb' := [(0, (.arr 44 2 ((([] : List Use)).map rUse)))]) (retQ_ret ⟨[(6, (aC (.s 0 0 2 0))), (7, (aI 11))], [(0, (.arr 44 2 ((([] : List Use)).map rUse)))], 1⟩ [.tmp 6, .tmp 7] [(.c (.s 0 0 2 0)), (.c (cI 11))] (Weak.ren (fun k => if k = 0 then 8 else k) (⟨by first | rfl | (simp only [AV.map, GV.map, CV.map, AB.map', id]; done) | (congr 3; omega) | (congr 4; omega) | (simp only [List.length_append, List.length_cons, List.length_nil, List.length_set]; rfl), by first | rfl | (simp only [AV.map, GV.map, CV.map, AB.map', id]; done) | (congr 3; omega) | (congr 4; omega) | (simp only [List.length_append, List.length_cons, List.length_nil, List.length_set]; rfl),  trivial⟩) (⟨by first | rfl | (simp only [AV.map, GV.map, CV.map, AB.map', id]; done) | (congr 3; omega) | (congr 4; omega) | (simp only [List.length_append, List.length_cons, List.length_nil, List.length_set]; rfl),  trivial⟩) rfl) rfl ⟨.tmp rfl, .tmp rfl, trivial⟩ ⟨by first | rfl | (simp only [AV.map, GV.map, CV.map, AB.map', id]; done) | (congr 3; omega) | (congr 4; omega) | (simp only [List.length_append, List.length_cons, List.length_nil, List.length_set]; rfl),  trivial⟩) ?_ ?_
                        · first | rfl | (simp [outOf, aC]; done) | (simp [outOf, aC]; omega)
                        · first | rfl | (simp; done) | (simp; omega)
                      ·
                        have hc8' := hc8; try simp only [sumB, Bool.not_eq_true', Bool.not_eq_false', Bool.or_eq_true, Bool.or_eq_false_iff, Bool.and_eq_true, Bool.and_eq_false_imp, decide_eq_true_eq, decide_eq_false_iff_not, Bool.not_not, Bool.not_true, Bool.not_false] at hc8'
                        refine AC.skip ?_
                        refine then_ok ?_
                        refine AC.seq ?_
                        refine AC.region ?_
                        refine AL.fast 3 rfl ?_
                        refine AL.nil ?_
                        refine then_ok ?_
                        refine AC.ret ?_
                        have hX : addUse p l x = (r3 ++ ([x]), 0) := by
                          have hlate : lastLate l x.time = false := by first | (rw [late_of hx1]; simp; omega) | (have : l = [] := List.eq_nil_of_length_eq_zero (by omega); subst this; rfl)
                          have hk : (r3 ++ [x]).take k = r3 ++ [x] := List.take_of_length_le (by simp; omega)
                          rw [hk, sumU_snoc] at hc8'
                          unfold addUse; rw [if_neg (by omega), if_neg (by rw [hr1]; omega), if_neg (by rw [hr2]; omega), if_neg (by rw [hlate]; simp), hr3, if_neg (by omega)]
                        rw [hX] at hr; clear hX
                        simp only [Prod.mk.injEq] at hr; obtain ⟨rfl, rfl⟩ := hr
                        refine retQ_mk (av' := outOf [(.c (.s 0 0 2 (r3.length + 1))), (.c (cI 0))]) (nb' := [(0, (.arr 44 2 ((r3 ++ ([x])).map rUse)))]) (retQ_ret ⟨[(6, (aC (.s 0 0 2 (r3.length + 1)))), (7, (aI 0))], [(0, (.arr 44 2 ((r3 ++ ([x])).map rUse)))], 1⟩ [.tmp 6, .tmp 7] [(.c (.s 0 0 2 (r3.length + 1))), (.c (cI 0))] (Weak.ren (fun k => if k = 0 then 7 else k) (⟨by first | rfl | (simp only [AV.map, GV.map, CV.map, AB.map', id]; done) | (congr 3; omega) | (congr 4; omega) | (simp only [List.length_append, List.length_cons, List.length_nil, List.length_set]; rfl), by first | rfl | (simp only [AV.map, GV.map, CV.map, AB.map', id]; done) | (congr 3; omega) | (congr 4; omega) | (simp only [List.length_append, List.length_cons, List.length_nil, List.length_set]; rfl),  trivial⟩) (⟨by first | rfl | (simp only [AV.map, GV.map, CV.map, AB.map', id]; done) | (congr 3; omega) | (congr 4; omega) | (simp only [List.length_append, List.length_cons, List.length_nil, List.length_set]; rfl),  trivial⟩) rfl) rfl ⟨.tmp rfl, .tmp rfl, trivial⟩ ⟨by first | rfl | (simp only [AV.map, GV.map, CV.map, AB.map', id]; done) | (congr 3; omega) | (congr 4; omega) | (simp only [List.length_append, List.length_cons, List.length_nil, List.length_set]; rfl),  trivial⟩) ?_ ?_
                        · first | rfl | (simp [outOf, aC]; done) | (simp [outOf, aC]; omega)
                        · first | rfl | (simp; done) | (simp; omega)
        ·
          have hb4' := hb4; try simp only [sumB, Bool.not_eq_true', Bool.not_eq_false', Bool.or_eq_true, Bool.or_eq_false_iff, Bool.and_eq_true, Bool.and_eq_false_imp, decide_eq_true_eq, decide_eq_false_iff_not, Bool.not_not, Bool.not_true, Bool.not_false] at hb4'
          refine AC.weak (st' := ⟨[(1, (aC (cR 2 ((l).map rUse)))), (3, (aC (.p 0 0 0 0))), (5, (aC (.p 1 0 0 0))), (6, (aC cN)), (7, (aI 0))], [(1, (.box 44 [(cI x.time), (cI x.sum)])), (0, (.box 41 [(cI p.ticks), (cI p.count), (cI p.sum)]))], 5⟩) (Weak.ren id (⟨by first | rfl | (simp only [AV.map, GV.map, CV.map, AB.map', id]; done) | (congr 3; omega) | (congr 4; omega) | (simp only [List.length_append, List.length_cons, List.length_nil, List.length_set]; rfl), by first | rfl | (simp only [AV.map, GV.map, CV.map, AB.map', id]; done) | (congr 3; omega) | (congr 4; omega) | (simp only [List.length_append, List.length_cons, List.length_nil, List.length_set]; rfl), by first | rfl | (simp only [AV.map, GV.map, CV.map, AB.map', id]; done) | (congr 3; omega) | (congr 4; omega) | (simp only [List.length_append, List.length_cons, List.length_nil, List.length_set]; rfl), by first | rfl | (simp only [AV.map, GV.map, CV.map, AB.map', id]; done) | (congr 3; omega) | (congr 4; omega) | (simp only [List.length_append, List.length_cons, List.length_nil, List.length_set]; rfl), by first | rfl | (simp only [AV.map, GV.map, CV.map, AB.map', id]; done) | (congr 3; omega) | (congr 4; omega) | (simp only [List.length_append, List.length_cons, List.length_nil, List.length_set]; rfl),  trivial⟩) (⟨by first | rfl | (simp only [AV.map, GV.map, CV.map, AB.map', id]; done) | (congr 3; omega) | (congr 4; omega) | (simp only [List.length_append, List.length_cons, List.length_nil, List.length_set]; rfl), by first | rfl | (simp only [AV.map, GV.map, CV.map, AB.map', id]; done) | (congr 3; omega) | (congr 4; omega) | (simp only [List.length_append, List.length_cons, List.length_nil, List.length_set]; rfl),  trivial⟩) rfl) ?_
          refine AC.draw [⟨some 35, (aC (cR 2 ((l).map rUse))), [], [], [], [(1, (aC (cR 2 ((l).map rUse))))], []⟩,
      ⟨some 36, (aI (↑l.length : Int)), [], [], [0], [(35, (aC (cR 2 ((l).map rUse))))], []⟩,
      ⟨some 37, (aB false), [], [], [1], [(36, (aI (↑l.length : Int)))], []⟩,
      ⟨some 38, (aB false), [], [], [2], [(37, (aB false))], []⟩,
      ⟨some 39, (.t []), [], [], [3], [(1, (aC (cR 2 ((l).map rUse)))), (38, (aB false))], []⟩,
      ⟨some 40, (.t []), [], [], [3], [(1, (aC (cR 2 ((l).map rUse)))), (38, (aB false))], []⟩,
      ⟨some 41, (.t []), [], [], [3, 5], [(40, (.t [])), (38, (aB false))], []⟩,
      ⟨some 42, (.t []), [], [], [3, 6], [(41, (.t [])), (38, (aB false))], []⟩,
      ⟨some 43, (.t []), [], [], [3, 4, 7], [(39, (.t [])), (42, (.t [])), (38, (aB false))], []⟩,
      ⟨some 44, (.t []), [], [], [3, 8], [(43, (.t [])), (38, (aB false))], []⟩,
      ⟨some 45, (.t []), [], [], [3, 9], [(44, (.t [])), (38, (aB false))], []⟩,
      ⟨some 46, (.t []), [], [], [3], [(5, (aC (.p 1 0 0 0))), (38, (aB false))], []⟩,
      ⟨some 47, (.t []), [], [], [3, 11], [(46, (.t [])), (38, (aB false))], []⟩,
      ⟨some 48, (.t []), [], [], [3, 10, 12], [(45, (.t [])), (47, (.t [])), (38, (aB false))], []⟩,
      ⟨some 49, (aB false), [], [], [3, 13], [(38, (aB false)), (48, (.t []))], []⟩] ⟨[(1, (aC (cR 2 ((l).map rUse)))), (3, (aC (.p 0 0 0 0))), (5, (aC (.p 1 0 0 0))), (6, (aC cN)), (7, (aI 0)), (49, (aB false))], [(1, (.box 44 [(cI x.time), (cI x.sum)])), (0, (.box 41 [(cI p.ticks), (cI p.count), (cI p.sum)]))], 5⟩ mixed (by kernel_rfl) ?_ ?_ ?_ ?_
          · exact ⟨.inl ⟨(Wanted.plain rfl), GOp.cast (g_move rfl rfl) rfl⟩,
      .inl ⟨(Wanted.plain rfl), GOp.cast (g_lenM rfl rfl rfl rfl rfl Try.underlying42) rfl⟩,
      .inl ⟨(Wanted.plain rfl), GOp.cast (g_binI rfl rfl rfl (congrArg (fun b => some (Value.bool b)) hb4)) rfl⟩,
      .inl ⟨(Wanted.plain rfl), GOp.cast (g_move rfl rfl) rfl⟩,
      .inr ⟨(Unwanted.no rfl rfl rfl), rfl, rfl, rfl⟩,
      .inr ⟨(Unwanted.no rfl rfl rfl), rfl, rfl, rfl⟩,
      .inr ⟨(Unwanted.no rfl rfl rfl), rfl, rfl, rfl⟩,
      .inr ⟨(Unwanted.no rfl rfl rfl), rfl, rfl, rfl⟩,
      .inr ⟨(Unwanted.no rfl rfl rfl), rfl, rfl, rfl⟩,
      .inr ⟨(Unwanted.no rfl rfl rfl), rfl, rfl, rfl⟩,
      .inr ⟨(Unwanted.no rfl rfl rfl), rfl, rfl, rfl⟩,
      .inr ⟨(Unwanted.no rfl rfl rfl), rfl, rfl, rfl⟩,
      .inr ⟨(Unwanted.no rfl rfl rfl), rfl, rfl, rfl⟩,
      .inr ⟨(Unwanted.no rfl rfl rfl), rfl, rfl, rfl⟩,
      .inl ⟨(Wanted.plain rfl), GOp.cast (g_pick rfl rfl rfl) rfl⟩,
       trivial⟩
          · exact ⟨⟨⟨.inl rfl,  trivial⟩, trivial⟩, ⟨⟨.inr ⟨0, .head _, _, rfl, rfl, rfl⟩,  trivial⟩, trivial⟩, ⟨⟨.inr ⟨1, .head _, _, rfl, rfl, rfl⟩,  trivial⟩, trivial⟩, ⟨⟨.inr ⟨2, .head _, _, rfl, rfl, rfl⟩,  trivial⟩, trivial⟩, ⟨⟨.inl rfl, .inr ⟨3, .head _, _, rfl, rfl, rfl⟩,  trivial⟩, trivial⟩, ⟨⟨.inl rfl, .inr ⟨3, .head _, _, rfl, rfl, rfl⟩,  trivial⟩, trivial⟩, ⟨⟨.inr ⟨5, .tail _ (.head _), _, rfl, rfl, rfl⟩, .inr ⟨3, .head _, _, rfl, rfl, rfl⟩,  trivial⟩, trivial⟩, ⟨⟨.inr ⟨6, .tail _ (.head _), _, rfl, rfl, rfl⟩, .inr ⟨3, .head _, _, rfl, rfl, rfl⟩,  trivial⟩, trivial⟩, ⟨⟨.inr ⟨4, .tail _ (.head _), _, rfl, rfl, rfl⟩, .inr ⟨7, .tail _ (.tail _ (.head _)), _, rfl, rfl, rfl⟩, .inr ⟨3, .head _, _, rfl, rfl, rfl⟩,  trivial⟩, trivial⟩, ⟨⟨.inr ⟨8, .tail _ (.head _), _, rfl, rfl, rfl⟩, .inr ⟨3, .head _, _, rfl, rfl, rfl⟩,  trivial⟩, trivial⟩, ⟨⟨.inr ⟨9, .tail _ (.head _), _, rfl, rfl, rfl⟩, .inr ⟨3, .head _, _, rfl, rfl, rfl⟩,  trivial⟩, trivial⟩, ⟨⟨.inl rfl, .inr ⟨3, .head _, _, rfl, rfl, rfl⟩,  trivial⟩, trivial⟩, ⟨⟨.inr ⟨11, .tail _ (.head _), _, rfl, rfl, rfl⟩, .inr ⟨3, .head _, _, rfl, rfl, rfl⟩,  trivial⟩, trivial⟩, ⟨⟨.inr ⟨10, .tail _ (.head _), _, rfl, rfl, rfl⟩, .inr ⟨12, .tail _ (.tail _ (.head _)), _, rfl, rfl, rfl⟩, .inr ⟨3, .head _, _, rfl, rfl, rfl⟩,  trivial⟩, trivial⟩, ⟨⟨.inr ⟨3, .head _, _, rfl, rfl, rfl⟩, .inr ⟨13, .tail _ (.head _), _, rfl, rfl, rfl⟩,  trivial⟩, trivial⟩,  trivial⟩
          · exact ⟨⟨.inl rfl, .inl rfl, .inl rfl, .inl rfl, .inl rfl, .inr ⟨14, _, rfl, rfl, rfl⟩,  trivial⟩, ⟨.inl rfl, .inl rfl,  trivial⟩⟩
          ·
            refine AL.nil ?_
            refine then_ok ?_
            refine AC.cond rfl (fun hno => by cases hno) (fun _ => ?_)
            refine AC.skip ?_
            refine then_ok ?_
            refine AC.seq ?_
            obtain ⟨r4, hr4⟩ : ∃ (r4 : List Use), recentP p l x.time = r4 := ⟨_, rfl⟩
            have hrl4 : r4.length ≤ l.length := by rw [← hr4]; exact keepL_len _ _
            refine AC.weak (st' := ⟨[(1, (aC (cR 2 ((l).map rUse)))), (3, (aC (.p 0 0 0 0))), (5, (aC (.p 1 0 0 0))), (6, (aC cN)), (7, (aI 0))], [(1, (.box 44 [(cI x.time), (cI x.sum)])), (0, (.box 41 [(cI p.ticks), (cI p.count), (cI p.sum)]))], 5⟩) (Weak.ren id (⟨by first | rfl | (simp only [AV.map, GV.map, CV.map, AB.map', id]; done) | (congr 3; omega) | (congr 4; omega) | (simp only [List.length_append, List.length_cons, List.length_nil, List.length_set]; rfl), by first | rfl | (simp only [AV.map, GV.map, CV.map, AB.map', id]; done) | (congr 3; omega) | (congr 4; omega) | (simp only [List.length_append, List.length_cons, List.length_nil, List.length_set]; rfl), by first | rfl | (simp only [AV.map, GV.map, CV.map, AB.map', id]; done) | (congr 3; omega) | (congr 4; omega) | (simp only [List.length_append, List.length_cons, List.length_nil, List.length_set]; rfl), by first | rfl | (simp only [AV.map, GV.map, CV.map, AB.map', id]; done) | (congr 3; omega) | (congr 4; omega) | (simp only [List.length_append, List.length_cons, List.length_nil, List.length_set]; rfl), by first | rfl | (simp only [AV.map, GV.map, CV.map, AB.map', id]; done) | (congr 3; omega) | (congr 4; omega) | (simp only [List.length_append, List.length_cons, List.length_nil, List.length_set]; rfl),  trivial⟩) (⟨by first | rfl | (simp only [AV.map, GV.map, CV.map, AB.map', id]; done) | (congr 3; omega) | (congr 4; omega) | (simp only [List.length_append, List.length_cons, List.length_nil, List.length_set]; rfl), by first | rfl | (simp only [AV.map, GV.map, CV.map, AB.map', id]; done) | (congr 3; omega) | (congr 4; omega) | (simp only [List.length_append, List.length_cons, List.length_nil, List.length_set]; rfl),  trivial⟩) rfl) ?_
            refine AC.draw [⟨some 50, (aG [(cI p.ticks), (cI p.count), (cI p.sum)]), [], [], [], [(3, (aC (.p 0 0 0 0)))], [(0, (.box 41 [(cI p.ticks), (cI p.count), (cI p.sum)]))]⟩,
      ⟨some 51, (aC (cR 2 ((l).map rUse))), [], [], [], [(1, (aC (cR 2 ((l).map rUse))))], []⟩,
      ⟨some 52, (aC (.p 1 0 0 0)), [], [], [], [(5, (aC (.p 1 0 0 0)))], [(1, (.box 44 [(cI x.time), (cI x.sum)]))]⟩,
      ⟨some 53, (aI x.time), [], [], [2], [(52, (aC (.p 1 0 0 0)))], [(1, (.box 44 [(cI x.time), (cI x.sum)]))]⟩,
      ⟨some 54, (aC (.s 5 0 2 r4.length)), [(5, (.arr 44 2 ((r4).map rUse)))], [], [0, 1, 3], [(50, (aG [(cI p.ticks), (cI p.count), (cI p.sum)])), (51, (aC (cR 2 ((l).map rUse)))), (53, (aI x.time))], []⟩,
      ⟨some 55, (aG [(cI x.time), (cI x.sum)]), [], [], [], [(5, (aC (.p 1 0 0 0)))], [(1, (.box 44 [(cI x.time), (cI x.sum)]))]⟩,
      ⟨some 56, (aC (.s 6 0 2 1)), [(6, (.arr 44 2 (([x]).map rUse)))], [], [5], [(55, (aG [(cI x.time), (cI x.sum)]))], []⟩,
      ⟨some 57, (aC (.s 7 0 2 (r4.length + 1))), [(7, (.arr 44 2 ((r4 ++ ([x])).map rUse)))], [5], [4, 6], [(54, (aC (.s 5 0 2 r4.length))), (56, (aC (.s 6 0 2 1)))], [(6, (.arr 44 2 (([x]).map rUse))), (5, (.arr 44 2 ((r4).map rUse)))]⟩,
      ⟨some 11, (aC (.s 7 0 2 (r4.length + 1))), [], [], [7], [(57, (aC (.s 7 0 2 (r4.length + 1))))], [(7, (.arr 44 2 ((r4 ++ ([x])).map rUse)))]⟩] ⟨[(1, (aC (cR 2 ((l).map rUse)))), (3, (aC (.p 0 0 0 0))), (5, (aC (.p 1 0 0 0))), (6, (aC cN)), (7, (aI 0)), (11, (aC (.s 7 0 2 (r4.length + 1))))], [(7, (.arr 44 2 ((r4 ++ ([x])).map rUse))), (1, (.box 44 [(cI x.time), (cI x.sum)])), (0, (.box 41 [(cI p.ticks), (cI p.count), (cI p.sum)]))], 8⟩ mixed (by kernel_rfl) ?_ ?_ ?_ ?_
            · exact ⟨.inl ⟨(Wanted.plain rfl), GOp.cast (g_loadBs rfl rfl rfl Try.underlying41 rfl sz41 rfl rfl) rfl⟩,
      .inl ⟨(Wanted.plain rfl), GOp.cast (g_move rfl rfl) rfl⟩,
      .inl ⟨(Wanted.plain rfl), GOp.cast (g_fieldP rfl rfl Try.underlying44 rfl sz3 (by decide)) rfl⟩,
      .inl ⟨(Wanted.plain rfl), GOp.cast (g_loadB rfl rfl rfl Try.underlying3 rfl rfl) rfl⟩,
      .inl ⟨(Wanted.plain rfl), GOp.cast (g_call 5 (c_ref_Recent p l x.time (by first | assumption | omega | (have q1 := rightP (hr2.trans (by omega)); have q2 := uses1 (x := x) (by simp_all); omega)) (by first | assumption | omega) r4 hr4) en44 rfl rfl ⟨⟨_, rfl, .g ⟨.d _, .d _, .d _,  trivial⟩⟩, ⟨_, rfl, .c (.d _)⟩, ⟨_, rfl, .c (.d _)⟩,  trivial⟩ trivial ⟨(fun _ _ _ _ => trivial),  trivial⟩ rfl rfl rfl rfl) rfl⟩,
      .inl ⟨(Wanted.plain rfl), GOp.cast (g_loadBs rfl rfl rfl Try.underlying44 rfl sz44 rfl rfl) rfl⟩,
      .inl ⟨(Wanted.plain rfl), GOp.cast (g_lit (ys := [(0, (.g [(cI x.time), (cI x.sum)]))]) (rows := ([x]).map rUse) 6 sl42 rfl (by decide) ⟨⟨rfl, rfl⟩,  trivial⟩ rfl rfl rfl rfl) rfl⟩,
      .inl ⟨(Wanted.plain rfl), GOp.cast (g_append (m := 1) (N := r4.length + 1) (k2 := 7) (ys := ([x]).map rUse) sl42 rfl rfl rfl rfl rfl rfl (by first | omega | (simp; done) | (simp; omega)) rfl (.s rfl (by first | omega | (simp; done) | (simp; omega))) (by first | omega | (simp; done) | (simp; omega)) (by first | omega | (simp; done) | (simp; omega)) appmap (by decide) (by first | omega | (simp; done) | (simp; omega)) (by first | omega | (simp; done) | (simp; omega))) rfl⟩,
      .inl ⟨(Wanted.plain rfl), GOp.cast (g_assign rfl rfl) rfl⟩,
       trivial⟩
            · exact ⟨⟨⟨.inl rfl,  trivial⟩, ⟨.inl rfl,  trivial⟩⟩, ⟨⟨.inl rfl,  trivial⟩, trivial⟩, ⟨⟨.inl rfl,  trivial⟩, ⟨.inl rfl,  trivial⟩⟩, ⟨⟨.inr ⟨2, .head _, _, rfl, rfl, rfl⟩,  trivial⟩, ⟨.inl rfl,  trivial⟩⟩, ⟨⟨.inr ⟨0, .head _, _, rfl, rfl, rfl⟩, .inr ⟨1, .tail _ (.head _), _, rfl, rfl, rfl⟩, .inr ⟨3, .tail _ (.tail _ (.head _)), _, rfl, rfl, rfl⟩,  trivial⟩, trivial⟩, ⟨⟨.inl rfl,  trivial⟩, ⟨.inl rfl,  trivial⟩⟩, ⟨⟨.inr ⟨5, .head _, _, rfl, rfl, rfl⟩,  trivial⟩, trivial⟩, ⟨⟨.inr ⟨4, .head _, _, rfl, rfl, rfl⟩, .inr ⟨6, .tail _ (.head _), _, rfl, rfl, rfl⟩,  trivial⟩, ⟨.inr ⟨6, .tail _ (.head _), _, rfl, .head _⟩, .inr ⟨4, .head _, _, rfl, .head _⟩,  trivial⟩⟩, ⟨⟨.inr ⟨7, .head _, _, rfl, rfl, rfl⟩,  trivial⟩, ⟨.inr ⟨7, .head _, _, rfl, .head _⟩,  trivial⟩⟩,  trivial⟩
            · exact ⟨⟨.inl rfl, .inl rfl, .inl rfl, .inl rfl, .inl rfl, .inr ⟨8, _, rfl, rfl, rfl⟩,  trivial⟩, ⟨.inr ⟨7, _, rfl, .head _⟩, .inl rfl, .inl rfl,  trivial⟩⟩
            ·
              refine AL.nil ?_
              refine then_ok ?_
              refine AC.seq ?_
              refine AC.region ?_
              refine AL.fast 1 rfl ?_
              refine AL.nil ?_
              refine then_ok ?_
              refine AC.seq ?_
              refine AC.seq ?_
              refine AC.region ?_
              refine AL.fast 1 rfl ?_
              refine AL.val (Wanted.plain rfl) (g_lenS rfl rfl rfl rfl rfl Try.underlying42) rfl rfl ?_
              refine AL.fast 1 rfl ?_
              refine AL.nil ?_
              refine then_ok ?_
              refine AC.block ?_
              refine AC.loop (β := Nat) (fun (k : Nat) => ⟨[(3, (aC (.p 0 0 0 0))), (6, (aC cN)), (7, (aI 0)), (11, (aC (.s 7 0 2 (r4.length + 1)))), (12, (aI (sumU ((r4 ++ ([x])).take k)))), (58, (aC (.s 7 0 2 (r4.length + 1)))), (59, (aI (↑(r4.length + 1) : Int))), (60, (aI (↑k : Int)))], [(7, (.arr 44 2 ((r4 ++ ([x])).map rUse))), (0, (.box 41 [(cI p.ticks), (cI p.count), (cI p.sum)]))], 8⟩) (fun (k : Nat) => k ≤ (r4 ++ ([x])).length) (fun (k : Nat) => (r4 ++ ([x])).length - k) 0 ?_ ?_ ?_
              · exact (by omega)
              · exact Weak.ren id (⟨by first | rfl | (simp only [AV.map, GV.map, CV.map, AB.map', id]; done) | (congr 3; omega) | (congr 4; omega) | (simp only [List.length_append, List.length_cons, List.length_nil, List.length_set]; rfl) | ((rw [List.take_zero, sumU]; rfl)), by first | rfl | (simp only [AV.map, GV.map, CV.map, AB.map', id]; done) | (congr 3; omega) | (congr 4; omega) | (simp only [List.length_append, List.length_cons, List.length_nil, List.length_set]; rfl) | ((rw [List.take_zero, sumU]; rfl)), by first | rfl | (simp only [AV.map, GV.map, CV.map, AB.map', id]; done) | (congr 3; omega) | (congr 4; omega) | (simp only [List.length_append, List.length_cons, List.length_nil, List.length_set]; rfl) | ((rw [List.take_zero, sumU]; rfl)), by first | rfl | (simp only [AV.map, GV.map, CV.map, AB.map', id]; done) | (congr 3; omega) | (congr 4; omega) | (simp only [List.length_append, List.length_cons, List.length_nil, List.length_set]; rfl) | ((rw [List.take_zero, sumU]; rfl)), by first | rfl | (simp only [AV.map, GV.map, CV.map, AB.map', id]; done) | (congr 3; omega) | (congr 4; omega) | (simp only [List.length_append, List.length_cons, List.length_nil, List.length_set]; rfl) | ((rw [List.take_zero, sumU]; rfl)), by first | rfl | (simp only [AV.map, GV.map, CV.map, AB.map', id]; done) | (congr 3; omega) | (congr 4; omega) | (simp only [List.length_append, List.length_cons, List.length_nil, List.length_set]; rfl) | ((rw [List.take_zero, sumU]; rfl)), by first | rfl | (simp only [AV.map, GV.map, CV.map, AB.map', id]; done) | (congr 3; omega) | (congr 4; omega) | (simp only [List.length_append, List.length_cons, List.length_nil, List.length_set]; rfl) | ((rw [List.take_zero, sumU]; rfl)), by first | rfl | (simp only [AV.map, GV.map, CV.map, AB.map', id]; done) | (congr 3; omega) | (congr 4; omega) | (simp only [List.length_append, List.length_cons, List.length_nil, List.length_set]; rfl) | ((rw [List.take_zero, sumU]; rfl)),  trivial⟩) (⟨by first | rfl | (simp only [AV.map, GV.map, CV.map, AB.map', id]; done) | (congr 3; omega) | (congr 4; omega) | (simp only [List.length_append, List.length_cons, List.length_nil, List.length_set]; rfl), by first | rfl | (simp only [AV.map, GV.map, CV.map, AB.map', id]; done) | (congr 3; omega) | (congr 4; omega) | (simp only [List.length_append, List.length_cons, List.length_nil, List.length_set]; rfl),  trivial⟩) rfl
              ·
                rintro k hi0_0
                have hrl : (usesF l).err = 0 := by rw [hr1]; omega
                have hrx1 : (usesF [x]).err = 0 := by rw [hr2]; omega
                have hsb := sumU_recent' (p := p) (k := k) hrl hrx1
                rw [hr4] at hsb
                have hrn : (r4).length ≤ 30 := by rw [← hr4]; exact Nat.le_trans (keepL_len _ _) (hru hrl)
                refine AC.seq ?_
                refine AC.region ?_
                refine AL.val (Wanted.plain rfl) (g_binI rfl rfl rfl rfl) rfl rfl ?_
                refine AL.nil ?_
                refine then_ok ?_
                refine AC.seq ?_
                refine AC.cond rfl (fun hc10 => ?_) (fun hc10 => ?_)
                ·
                  have hc10' := hc10; try simp only [sumB, Bool.not_eq_true', Bool.not_eq_false', Bool.or_eq_true, Bool.or_eq_false_iff, Bool.and_eq_true, Bool.and_eq_false_imp, decide_eq_true_eq, decide_eq_false_iff_not, Bool.not_not, Bool.not_true, Bool.not_false] at hc10'
                  refine AC.skip ?_
                  refine then_ok ?_
                  refine AC.seq ?_
                  refine AC.block ?_
                  refine AC.seq ?_
                  refine AC.region ?_
                  refine AL.val (Wanted.plain rfl) (g_indexP0 (i := k) rfl rfl rfl Try.underlying42 sz44 (by first | omega | (simp; done) | (simp; omega)) (by first | omega | (simp; done) | (simp; omega))) rfl rfl ?_
                  obtain ⟨x1, hx1⟩ := exget (xs := (r4 ++ ([x]))) (i := k) (by first | omega | (simp; done) | (simp; omega))
                  have hx1v : 0 ≤ x1.time ∧ x1.time ≤ 1000000 ∧ 0 ≤ x1.sum ∧ x1.sum ≤ 1000000 := by
                    rcases List.mem_append.1 (List.mem_of_getElem? hx1) with hm | hm
                    · exact (rightU hrl).2 x1 (mem_keep (hr4.symm ▸ hm : x1 ∈ recentP p l x.time))
                    · exact (rightU hrx1).2 x1 hm
                  refine AL.val (Wanted.plain rfl) (g_loadAs rfl rfl rfl Try.underlying44 rfl sz44 (getmap hx1) rfl) rfl rfl ?_
                  refine AL.new (n' := 9) (Wanted.plain rfl) (g_alloc 8 rfl zv44 rfl rfl rfl) rfl rfl rfl ?_
                  refine AL.sto (h' := [(8, (.box 44 [(cI x1.time), (cI x1.sum)])), (7, (.arr 44 2 ((r4 ++ ([x])).map rUse))), (0, (.box 41 [(cI p.ticks), (cI p.count), (cI p.sum)]))]) (Wanted.plain rfl) (g_storeB rfl rfl rfl rfl rfl sz44 rfl (Nat.le_of_ble_eq_true rfl) rfl) rfl rfl rfl rfl ?_
                  refine AL.nil ?_
                  refine then_ok ?_
                  refine AC.region ?_
                  refine AL.fast 1 rfl ?_
                  refine AL.val (Wanted.plain rfl) (g_fieldP rfl rfl Try.underlying44 rfl sz3 (by decide)) rfl rfl ?_
                  refine AL.val (Wanted.plain rfl) (g_loadB rfl rfl rfl Try.underlying3 rfl rfl) rfl rfl ?_
                  refine AL.val (Wanted.plain rfl) (g_binI rfl rfl rfl (wrap_ok (by first | omega | (simp; done) | (simp; omega)))) rfl rfl ?_
                  refine AL.fast 1 rfl ?_
                  refine AL.nil ?_
                  refine block_ok ?_
                  refine then_ok ?_
                  refine AC.region ?_
                  refine AL.val (Wanted.plain rfl) (g_binI rfl rfl rfl (wrap_ok (by first | omega | (simp; done) | (simp; omega)))) rfl rfl ?_
                  refine AL.fast 1 rfl ?_
                  refine AL.nil ?_
                  refine then_ok ?_
                  refine ⟨k + 1, by first | omega | (simp; omega), by first | omega | (simp; done) | (simp; omega), Weak.ren id (⟨by first | rfl | (simp only [AV.map, GV.map, CV.map, AB.map', id]; done) | (congr 3; omega) | (congr 4; omega) | (simp only [List.length_append, List.length_cons, List.length_nil, List.length_set]; rfl) | (first | (rw [take_get hx2, sumU_snoc]; rfl) | (rw [take_get hx1, sumU_snoc]; rfl)), by first | rfl | (simp only [AV.map, GV.map, CV.map, AB.map', id]; done) | (congr 3; omega) | (congr 4; omega) | (simp only [List.length_append, List.length_cons, List.length_nil, List.length_set]; rfl) | (first | (rw [take_get hx2, sumU_snoc]; rfl) | (rw [take_get hx1, sumU_snoc]; rfl)), by first | rfl | (simp only [AV.map, GV.map, CV.map, AB.map', id]; done) | (congr 3; omega) | (congr 4; omega) | (simp only [List.length_append, List.length_cons, List.length_nil, List.length_set]; rfl) | (first | (rw [take_get hx2, sumU_snoc]; rfl) | (rw [take_get hx1, sumU_snoc]; rfl)), by first | rfl | (simp only [AV.map, GV.map, CV.map, AB.map', id]; done) | (congr 3; omega) | (congr 4; omega) | (simp only [List.length_append, List.length_cons, List.length_nil, List.length_set]; rfl) | (first | (rw [take_get hx2, sumU_snoc]; rfl) | (rw [take_get hx1, sumU_snoc]; rfl)), by first | rfl | (simp only [AV.map, GV.map, CV.map, AB.map', id]; done) | (congr 3; omega) | (congr 4; omega) | (simp only [List.length_append, List.length_cons, List.length_nil, List.length_set]; rfl) | (first | (rw [take_get hx2, sumU_snoc]; rfl) | (rw [take_get hx1, sumU_snoc]; rfl)), by first | rfl | (simp only [AV.map, GV.map, CV.map, AB.map', id]; done) | (congr 3; omega) | (congr 4; omega) | (simp only [List.length_append, List.length_cons, List.length_nil, List.length_set]; rfl) | (first | (rw [take_get hx2, sumU_snoc]; rfl) | (rw [take_get hx1, sumU_snoc]; rfl)), by first | rfl | (simp only [AV.map, GV.map, CV.map, AB.map', id]; done) | (congr 3; omega) | (congr 4; omega) | (simp only [List.length_append, List.length_cons, List.length_nil, List.length_set]; rfl) | (first | (rw [take_get hx2, sumU_snoc]; rfl) | (rw [take_get hx1, sumU_snoc]; rfl)), by first | rfl | (simp only [AV.map, GV.map, CV.map, AB.map', id]; done) | (congr 3; omega) | (congr 4; omega) | (simp only [List.length_append, List.length_cons, List.length_nil, List.length_set]; rfl) | (first | (rw [take_get hx2, sumU_snoc]; rfl) | (rw [take_get hx1, sumU_snoc]; rfl)),  trivial⟩) (⟨by first | rfl | (simp only [AV.map, GV.map, CV.map, AB.map', id]; done) | (congr 3; omega) | (congr 4; omega) | (simp only [List.length_append, List.length_cons, List.length_nil, List.length_set]; rfl), by first | rfl | (simp only [AV.map, GV.map, CV.map, AB.map', id]; done) | (congr 3; omega) | (congr 4; omega) | (simp only [List.length_append, List.length_cons, List.length_nil, List.length_set]; rfl),  trivial⟩) rfl⟩
                ·
                  have hc10' := hc10; try simp only [sumB, Bool.not_eq_true', Bool.not_eq_false', Bool.or_eq_true, Bool.or_eq_false_iff, Bool.and_eq_true, Bool.and_eq_false_imp, decide_eq_true_eq, decide_eq_false_iff_not, Bool.not_not, Bool.not_true, Bool.not_false] at hc10'
                  refine AC.exit ?_
                  refine then_exit ?_
                  refine then_exit ?_
                  refine block_hit ?_
                  refine then_ok ?_
                  refine AC.seq ?_
                  refine AC.cutB 79 ((decide ((↑(r4.length + 1) : Int) > p.count)) || (decide ((sumU ((r4 ++ ([x])).take k)) > p.sum))) ?_ ?_
                  ·
                    refine AC.region ?_
                    refine AL.fast 1 rfl ?_
                    refine AL.val (Wanted.plain rfl) (g_lenS rfl rfl rfl rfl rfl Try.underlying42) rfl rfl ?_
                    refine AL.val (Wanted.plain rfl) (g_fieldP rfl rfl Try.underlying41 rfl sz3 (by decide)) rfl rfl ?_
                    refine AL.val (Wanted.plain rfl) (g_loadB rfl rfl rfl Try.underlying3 rfl rfl) rfl rfl ?_
                    refine AL.val (Wanted.plain rfl) (g_binI rfl rfl rfl rfl) rfl rfl ?_
                    refine AL.fast 1 rfl ?_
                    refine AL.dec (t := 74) rfl (fun hb11 => ?_) (fun hb11 => ?_)
                    ·
                      have hb11' := hb11; try simp only [sumB, Bool.not_eq_true', Bool.not_eq_false', Bool.or_eq_true, Bool.or_eq_false_iff, Bool.and_eq_true, Bool.and_eq_false_imp, decide_eq_true_eq, decide_eq_false_iff_not, Bool.not_not, Bool.not_true, Bool.not_false] at hb11'
                      refine AL.fast 5 rfl ?_
                      refine AL.nil ?_
                      refine then_ok ?_
                      exact Weak.popB 12 rfl rfl (by first | (simp [hb11]; done) | (simp_all; done) | (exfalso; simp_all; done) | (simp_all; omega)) rfl
                    ·
                      have hb11' := hb11; try simp only [sumB, Bool.not_eq_true', Bool.not_eq_false', Bool.or_eq_true, Bool.or_eq_false_iff, Bool.and_eq_true, Bool.and_eq_false_imp, decide_eq_true_eq, decide_eq_false_iff_not, Bool.not_not, Bool.not_true, Bool.not_false] at hb11'
                      refine AL.fast 1 rfl ?_
                      refine AL.val (Wanted.yes rfl rfl rfl) (g_fieldP rfl rfl Try.underlying41 rfl sz3 (by decide)) rfl rfl ?_
                      refine AL.val (Wanted.yes rfl rfl rfl) (g_loadB rfl rfl rfl Try.underlying3 rfl rfl) rfl rfl ?_
                      refine AL.val (Wanted.yes rfl rfl rfl) (g_binI rfl rfl rfl rfl) rfl rfl ?_
                      refine AL.fast 1 rfl ?_
                      refine AL.nil ?_
                      refine then_ok ?_
                      exact Weak.popB 12 rfl rfl (by first | (simp [hb11]; done) | (simp_all; done) | (exfalso; simp_all; done) | (simp_all; omega)) rfl
                  ·
                    refine AC.cond rfl (fun hc12 => ?_) (fun hc12 => ?_)
                    ·
                      have hc12' := hc12; try simp only [sumB, Bool.not_eq_true', Bool.not_eq_false', Bool.or_eq_true, Bool.or_eq_false_iff, Bool.and_eq_true, Bool.and_eq_false_imp, decide_eq_true_eq, decide_eq_false_iff_not, Bool.not_not, Bool.not_true, Bool.not_false] at hc12'
                      refine AC.seq ?_
                      refine AC.region ?_
                      refine AL.fast 2 rfl ?_
                      refine AL.nil ?_
                      refine then_ok ?_
                      refine AC.ret ?_
                      refine then_ret ?_
                      refine retQ_weak (Weak.nil 6 44 2 (by decide) rfl) ?_
                      have hX : addUse p l x = (([] : List Use), 11) := by
                        have hlate : lastLate l x.time = false := by first | (rw [late_of hx1]; simp; omega) | (have : l = [] := List.eq_nil_of_length_eq_zero (by omega); subst this; rfl)
                        have hk : (r4 ++ [x]).take k = r4 ++ [x] := List.take_of_length_le (by simp; omega)
                        rw [hk, sumU_snoc] at hc12'
                        unfold addUse; rw [if_neg (by omega), if_neg (by rw [hr1]; omega), if_neg (by rw [hr2]; omega), if_neg (by rw [hlate]; simp), hr4, if_pos (by omega)]
                      rw [hX] at hr; clear hX
                      simp only [Prod.mk.injEq] at hr; obtain ⟨rfl, rfl⟩ := hr
                      refine retQ_mk (av' := outOf [(.c (.s 0 0 2 0)), (.c (cI 11))]) (nb' := [(0, (.arr 44 2 ((([] : List Use)).map rUse)))]) (retQ_ret ⟨[(6, (aC (.s 0 0 2 0))), (7, (aI 11))], [(0, (.arr 44 2 ((([] : List Use)).map rUse)))], 1⟩ [.tmp 6, .tmp 7] [(.c (.s 0 0 2 0)), (.c (cI 11))] (Weak.ren (fun k => if k = 0 then 8 else k) (⟨by first | rfl | (simp only [AV.map, GV.map, CV.map, AB.map', id]; done) | (congr 3; omega) | (congr 4; omega) | (simp only [List.length_append, List.length_cons, List.length_nil, List.length_set]; rfl), by first | rfl | (simp only [AV.map, GV.map, CV.map, AB.map', id]; done) | (congr 3; omega) | (congr 4; omega) | (simp only [List.length_append, List.length_cons, List.length_nil, List.length_set]; rfl),  trivial⟩) (⟨by first | rfl | (simp only [AV.map, GV.map, CV.map, AB.map', id]; done) | (congr 3; omega) | (congr 4; omega) | (simp only [List.length_append, List.length_cons, List.length_nil, List.length_set]; rfl),  trivial⟩) rfl) rfl ⟨.tmp rfl, .tmp rfl, trivial⟩ ⟨by first | rfl | (simp only [AV.map, GV.map, CV.map, AB.map', id]; done) | (congr 3; omega) | (congr 4; omega) | (simp only [List.length_append, List.length_cons, List.length_nil, List.length_set]; rfl),  trivial⟩) ?_ ?_
                      · first | rfl | (simp [outOf, aC]; done) | (simp [outOf, aC]; omega)
                      · first | rfl | (simp; done) | (simp; omega)
                    ·
                      have hc12' := hc12; try simp only [sumB, Bool.not_eq_true', Bool.not_eq_false', Bool.or_eq_true, Bool.or_eq_false_iff, Bool.and_eq_true, Bool.and_eq_false_imp, decide_eq_true_eq, decide_eq_false_iff_not, Bool.not_not, Bool.not_true, Bool.not_false] at hc12'
                      refine AC.skip ?_
                      refine then_ok ?_
                      refine AC.seq ?_
                      refine AC.region ?_
                      refine AL.fast 3 rfl ?_
                      refine AL.nil ?_
                      refine then_ok ?_
                      refine AC.ret ?_
                      have hX : addUse p l x = (r4 ++ ([x]), 0) := by
                        have hlate : lastLate l x.time = false := by first | (rw [late_of hx1]; simp; omega) | (have : l = [] := List.eq_nil_of_length_eq_zero (by omega); subst this; rfl)
                        have hk : (r4 ++ [x]).take k = r4 ++ [x] := List.take_of_length_le (by simp; omega)
                        rw [hk, sumU_snoc] at hc12'
                        unfold addUse; rw [if_neg (by omega), if_neg (by rw [hr1]; omega), if_neg (by rw [hr2]; omega), if_neg (by rw [hlate]; simp), hr4, if_neg (by omega)]
                      rw [hX] at hr; clear hX
                      simp only [Prod.mk.injEq] at hr; obtain ⟨rfl, rfl⟩ := hr
                      refine retQ_mk (av' := outOf [(.c (.s 0 0 2 (r4.length + 1))), (.c (cI 0))]) (nb' := [(0, (.arr 44 2 ((r4 ++ ([x])).map rUse)))]) (retQ_ret ⟨[(6, (aC (.s 0 0 2 (r4.length + 1)))), (7, (aI 0))], [(0, (.arr 44 2 ((r4 ++ ([x])).map rUse)))], 1⟩ [.tmp 6, .tmp 7] [(.c (.s 0 0 2 (r4.length + 1))), (.c (cI 0))] (Weak.ren (fun k => if k = 0 then 7 else k) (⟨by first | rfl | (simp only [AV.map, GV.map, CV.map, AB.map', id]; done) | (congr 3; omega) | (congr 4; omega) | (simp only [List.length_append, List.length_cons, List.length_nil, List.length_set]; rfl), by first | rfl | (simp only [AV.map, GV.map, CV.map, AB.map', id]; done) | (congr 3; omega) | (congr 4; omega) | (simp only [List.length_append, List.length_cons, List.length_nil, List.length_set]; rfl),  trivial⟩) (⟨by first | rfl | (simp only [AV.map, GV.map, CV.map, AB.map', id]; done) | (congr 3; omega) | (congr 4; omega) | (simp only [List.length_append, List.length_cons, List.length_nil, List.length_set]; rfl),  trivial⟩) rfl) rfl ⟨.tmp rfl, .tmp rfl, trivial⟩ ⟨by first | rfl | (simp only [AV.map, GV.map, CV.map, AB.map', id]; done) | (congr 3; omega) | (congr 4; omega) | (simp only [List.length_append, List.length_cons, List.length_nil, List.length_set]; rfl),  trivial⟩) ?_ ?_
                      · first | rfl | (simp [outOf, aC]; done) | (simp [outOf, aC]; omega)
                      · first | rfl | (simp; done) | (simp; omega)
end Go.Proofs.Ytgmcdlfmifijlaa.Dev
