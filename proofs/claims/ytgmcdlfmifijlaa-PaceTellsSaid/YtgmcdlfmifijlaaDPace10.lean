/- paylaw3: PaceTells. -/
import Derived.Test.YtgmcdlfmifijlaaDPace7
set_option linter.unusedVariables false
set_option linter.unusedSimpArgs false
namespace Go.Proofs.Ytgmcdlfmifijlaa.Dev
open Go.RowKit


theorem uses1 {x : Use} (h : (usesF [x]).err = 0) : 0 ≤ x.time ∧ x.time ≤ 1000000 := by
  have h1 := (uses_iff.1 h).2 0 (by simp)
  simp only [uErr, List.getElem?_cons_zero] at h1
  split at h1
  · cases h1
  · omega
theorem sameList_self (r : List Use) : sameList r r = true := by simp [sameList]

set_option maxRecDepth 100000 in
set_option maxHeartbeats 1000000 in
theorem c_PaceTells (p : Pace) (l : List Use) (x : Use) (hl : l.length * 16 ≤ 140737488355328) : Fn Try.prog 6 [(.g [(cI p.ticks), (cI p.count), (cI p.sum)]), (.c (cR 2 ((l).map rUse))), (.g [(cI x.time), (cI x.sum)])] (aB true) [] := by
  refine Fn.mk' 69 [(0, (aG [(cI p.ticks), (cI p.count), (cI p.sum)])), (1, (aC (cR 2 ((l).map rUse)))), (2, (aG [(cI x.time), (cI x.sum)]))] Try.func6 rfl rfl rfl rfl ?_
  intro W0 T0
  refine AC.len1 1 rfl (fun hlen1 => ?_)
  have hrp := @rightP p
  refine AC.seq ?_
  refine AC.region ?_
  refine AL.new (n' := 1) (Wanted.plain rfl) (g_boxS 0 rfl rfl) rfl rfl rfl ?_
  refine AL.new (n' := 2) (Wanted.plain rfl) (g_boxS 1 rfl rfl) rfl rfl rfl ?_
  refine AL.fast 1 rfl ?_
  refine AL.nil ?_
  refine then_ok ?_
  refine AC.seq ?_
  refine AC.seq ?_
  obtain ⟨e2, hr2⟩ : ∃ (e2 : Int), wrongP p = e2 := ⟨_, rfl⟩
  obtain ⟨f3, hr3⟩ : ∃ (f3 : Fault), usesF l = f3 := ⟨_, rfl⟩
  refine AC.weak (st' := ⟨[(1, (aC (cR 2 ((l).map rUse)))), (3, (aC (.p 0 0 0 0))), (5, (aC (.p 1 0 0 0)))], [(1, (.box 44 [(cI x.time), (cI x.sum)])), (0, (.box 41 [(cI p.ticks), (cI p.count), (cI p.sum)]))], 2⟩) (Weak.ren id (⟨by first | rfl | (simp only [AV.map, GV.map, CV.map, AB.map', id]; done) | (congr 3; omega) | (congr 4; omega) | (simp only [List.length_append, List.length_cons, List.length_nil, List.length_set]; rfl), by first | rfl | (simp only [AV.map, GV.map, CV.map, AB.map', id]; done) | (congr 3; omega) | (congr 4; omega) | (simp only [List.length_append, List.length_cons, List.length_nil, List.length_set]; rfl), by first | rfl | (simp only [AV.map, GV.map, CV.map, AB.map', id]; done) | (congr 3; omega) | (congr 4; omega) | (simp only [List.length_append, List.length_cons, List.length_nil, List.length_set]; rfl),  trivial⟩) (⟨by first | rfl | (simp only [AV.map, GV.map, CV.map, AB.map', id]; done) | (congr 3; omega) | (congr 4; omega) | (simp only [List.length_append, List.length_cons, List.length_nil, List.length_set]; rfl), by first | rfl | (simp only [AV.map, GV.map, CV.map, AB.map', id]; done) | (congr 3; omega) | (congr 4; omega) | (simp only [List.length_append, List.length_cons, List.length_nil, List.length_set]; rfl),  trivial⟩) rfl) ?_
  refine AC.draw [⟨some 11, (aG [(cI p.ticks), (cI p.count), (cI p.sum)]), [], [], [], [(3, (aC (.p 0 0 0 0)))], [(0, (.box 41 [(cI p.ticks), (cI p.count), (cI p.sum)]))]⟩,
      ⟨some 12, (aI e2), [], [], [0], [(11, (aG [(cI p.ticks), (cI p.count), (cI p.sum)]))], []⟩,
      ⟨some 13, (aG [(cI p.ticks), (cI p.count), (cI p.sum)]), [], [], [], [(3, (aC (.p 0 0 0 0)))], [(0, (.box 41 [(cI p.ticks), (cI p.count), (cI p.sum)]))]⟩,
      ⟨some 14, (aI e2), [], [], [2], [(13, (aG [(cI p.ticks), (cI p.count), (cI p.sum)]))], []⟩,
      ⟨some 15, (aB false), [], [], [1, 3], [(12, (aI e2)), (14, (aI e2))], []⟩,
      ⟨some 16, (aB false), [], [], [4], [(15, (aB false))], []⟩,
      ⟨some 17, (aC (cR 2 ((l).map rUse))), [], [], [5], [(1, (aC (cR 2 ((l).map rUse)))), (16, (aB false))], []⟩,
      ⟨some 18, (aG [(cI f3.err), (cI f3.at_)]), [], [], [5, 6], [(17, (aC (cR 2 ((l).map rUse)))), (16, (aB false))], []⟩,
      ⟨some 19, (aC (cR 2 ((l).map rUse))), [], [], [5], [(1, (aC (cR 2 ((l).map rUse)))), (16, (aB false))], []⟩,
      ⟨some 20, (aG [(cI f3.err), (cI f3.at_)]), [], [], [5, 8], [(19, (aC (cR 2 ((l).map rUse)))), (16, (aB false))], []⟩,
      ⟨some 21, (aB false), [], [], [5, 7, 9], [(18, (aG [(cI f3.err), (cI f3.at_)])), (20, (aG [(cI f3.err), (cI f3.at_)])), (16, (aB false))], []⟩,
      ⟨some 22, (aB false), [], [], [5, 10], [(16, (aB false)), (21, (aB false))], []⟩] ⟨[(1, (aC (cR 2 ((l).map rUse)))), (3, (aC (.p 0 0 0 0))), (5, (aC (.p 1 0 0 0))), (22, (aB false))], [(1, (.box 44 [(cI x.time), (cI x.sum)])), (0, (.box 41 [(cI p.ticks), (cI p.count), (cI p.sum)]))], 2⟩ mixed (by kernel_rfl) ?_ ?_ ?_ ?_
  · exact ⟨.inl ⟨(Wanted.plain rfl), GOp.cast (g_loadBs rfl rfl rfl Try.underlying41 rfl sz41 rfl rfl) rfl⟩,
      .inl ⟨(Wanted.plain rfl), GOp.cast (g_call 2 (c_pace_WrongN p  e2 hr2) en38 rfl rfl ⟨⟨_, rfl, .g ⟨.d _, .d _, .d _,  trivial⟩⟩,  trivial⟩ trivial trivial rfl rfl rfl rfl) rfl⟩,
      .inl ⟨(Wanted.plain rfl), GOp.cast (g_loadBs rfl rfl rfl Try.underlying41 rfl sz41 rfl rfl) rfl⟩,
      .inl ⟨(Wanted.plain rfl), GOp.cast (g_call 2 (c_ref_WrongPaceN p  e2 hr2) en39 rfl rfl ⟨⟨_, rfl, .g ⟨.d _, .d _, .d _,  trivial⟩⟩,  trivial⟩ trivial trivial rfl rfl rfl rfl) rfl⟩,
      .inl ⟨(Wanted.plain rfl), GOp.cast (g_binI rfl rfl rfl (congrArg (fun b => some (Value.bool b)) (decide_eq_false (fun h => h rfl)))) rfl⟩,
      .inl ⟨(Wanted.plain rfl), GOp.cast (g_move rfl rfl) rfl⟩,
      .inl ⟨(Wanted.yes rfl rfl rfl), GOp.cast (g_move rfl rfl) rfl⟩,
      .inl ⟨(Wanted.yes rfl rfl rfl), GOp.cast (g_call 2 (c_pace_UsesN l  f3 hr3) en40 rfl rfl ⟨⟨_, rfl, .c (.d _)⟩,  trivial⟩ ⟨trivial, trivial,  trivial⟩ trivial rfl rfl rfl rfl) rfl⟩,
      .inl ⟨(Wanted.yes rfl rfl rfl), GOp.cast (g_move rfl rfl) rfl⟩,
      .inl ⟨(Wanted.yes rfl rfl rfl), GOp.cast (g_call 2 (c_ref_WrongUsesN l  f3 hr3) en41 rfl rfl ⟨⟨_, rfl, .c (.d _)⟩,  trivial⟩ ⟨trivial, trivial,  trivial⟩ trivial rfl rfl rfl rfl) rfl⟩,
      .inl ⟨(Wanted.yes rfl rfl rfl), GOp.cast (GOp.cast (g_neq (cmp47 _ _ _ _) rfl rfl rfl rfl rfl rfl) (congrArg aB (show (!(sameL [.int .i64 f3.err, .int .i64 f3.at_] [.int .i64 f3.err, .int .i64 f3.at_])) = false by simp [sameL, sameV]))) rfl⟩,
      .inl ⟨(Wanted.plain rfl), GOp.cast (g_pick rfl rfl rfl) rfl⟩,
       trivial⟩
  · exact ⟨⟨⟨.inl rfl,  trivial⟩, ⟨.inl rfl,  trivial⟩⟩, ⟨⟨.inr ⟨0, .head _, _, rfl, rfl, rfl⟩,  trivial⟩, trivial⟩, ⟨⟨.inl rfl,  trivial⟩, ⟨.inl rfl,  trivial⟩⟩, ⟨⟨.inr ⟨2, .head _, _, rfl, rfl, rfl⟩,  trivial⟩, trivial⟩, ⟨⟨.inr ⟨1, .head _, _, rfl, rfl, rfl⟩, .inr ⟨3, .tail _ (.head _), _, rfl, rfl, rfl⟩,  trivial⟩, trivial⟩, ⟨⟨.inr ⟨4, .head _, _, rfl, rfl, rfl⟩,  trivial⟩, trivial⟩, ⟨⟨.inl rfl, .inr ⟨5, .head _, _, rfl, rfl, rfl⟩,  trivial⟩, trivial⟩, ⟨⟨.inr ⟨6, .tail _ (.head _), _, rfl, rfl, rfl⟩, .inr ⟨5, .head _, _, rfl, rfl, rfl⟩,  trivial⟩, trivial⟩, ⟨⟨.inl rfl, .inr ⟨5, .head _, _, rfl, rfl, rfl⟩,  trivial⟩, trivial⟩, ⟨⟨.inr ⟨8, .tail _ (.head _), _, rfl, rfl, rfl⟩, .inr ⟨5, .head _, _, rfl, rfl, rfl⟩,  trivial⟩, trivial⟩, ⟨⟨.inr ⟨7, .tail _ (.head _), _, rfl, rfl, rfl⟩, .inr ⟨9, .tail _ (.tail _ (.head _)), _, rfl, rfl, rfl⟩, .inr ⟨5, .head _, _, rfl, rfl, rfl⟩,  trivial⟩, trivial⟩, ⟨⟨.inr ⟨5, .head _, _, rfl, rfl, rfl⟩, .inr ⟨10, .tail _ (.head _), _, rfl, rfl, rfl⟩,  trivial⟩, trivial⟩,  trivial⟩
  · exact ⟨⟨.inl rfl, .inl rfl, .inl rfl, .inr ⟨11, _, rfl, rfl, rfl⟩,  trivial⟩, ⟨.inl rfl, .inl rfl,  trivial⟩⟩
  ·
    refine AL.nil ?_
    refine then_ok ?_
    refine AC.cond rfl (fun hno => by cases hno) (fun _ => ?_)
    refine AC.skip ?_
    refine then_ok ?_
    refine AC.seq ?_
    refine AC.seq ?_
    rcases Bool.eq_false_or_eq_true (decide (e2 = 0)) with hb2 | hb2
    ·
      have hb2' := hb2; try simp only [sumB, Bool.not_eq_true', Bool.not_eq_false', Bool.or_eq_true, Bool.or_eq_false_iff, Bool.and_eq_true, Bool.and_eq_false_imp, decide_eq_true_eq, decide_eq_false_iff_not, Bool.not_not, Bool.not_true, Bool.not_false] at hb2'
      obtain ⟨f4, hr4⟩ : ∃ (f4 : Fault), usesF ([x]) = f4 := ⟨_, rfl⟩
      rcases Bool.eq_false_or_eq_true (decide (f4.err = 0)) with hb3 | hb3
      ·
        have hb3' := hb3; try simp only [sumB, Bool.not_eq_true', Bool.not_eq_false', Bool.or_eq_true, Bool.or_eq_false_iff, Bool.and_eq_true, Bool.and_eq_false_imp, decide_eq_true_eq, decide_eq_false_iff_not, Bool.not_not, Bool.not_true, Bool.not_false] at hb3'
        obtain ⟨r5, hr5⟩ : ∃ (r5 : List Use), recentP p l x.time = r5 := ⟨_, rfl⟩
        obtain ⟨r6, hr6⟩ : ∃ (r6 : Bool), sameList r5 r5 = r6 := ⟨_, rfl⟩
        refine AC.weak (st' := ⟨[(1, (aC (cR 2 ((l).map rUse)))), (3, (aC (.p 0 0 0 0))), (5, (aC (.p 1 0 0 0)))], [(1, (.box 44 [(cI x.time), (cI x.sum)])), (0, (.box 41 [(cI p.ticks), (cI p.count), (cI p.sum)]))], 2⟩) (Weak.ren id (⟨by first | rfl | (simp only [AV.map, GV.map, CV.map, AB.map', id]; done) | (congr 3; omega) | (congr 4; omega) | (simp only [List.length_append, List.length_cons, List.length_nil, List.length_set]; rfl), by first | rfl | (simp only [AV.map, GV.map, CV.map, AB.map', id]; done) | (congr 3; omega) | (congr 4; omega) | (simp only [List.length_append, List.length_cons, List.length_nil, List.length_set]; rfl), by first | rfl | (simp only [AV.map, GV.map, CV.map, AB.map', id]; done) | (congr 3; omega) | (congr 4; omega) | (simp only [List.length_append, List.length_cons, List.length_nil, List.length_set]; rfl),  trivial⟩) (⟨by first | rfl | (simp only [AV.map, GV.map, CV.map, AB.map', id]; done) | (congr 3; omega) | (congr 4; omega) | (simp only [List.length_append, List.length_cons, List.length_nil, List.length_set]; rfl), by first | rfl | (simp only [AV.map, GV.map, CV.map, AB.map', id]; done) | (congr 3; omega) | (congr 4; omega) | (simp only [List.length_append, List.length_cons, List.length_nil, List.length_set]; rfl),  trivial⟩) rfl) ?_
        refine AC.draw [⟨some 23, (aG [(cI p.ticks), (cI p.count), (cI p.sum)]), [], [], [], [(3, (aC (.p 0 0 0 0)))], [(0, (.box 41 [(cI p.ticks), (cI p.count), (cI p.sum)]))]⟩,
      ⟨some 24, (aI e2), [], [], [0], [(23, (aG [(cI p.ticks), (cI p.count), (cI p.sum)]))], []⟩,
      ⟨some 25, (aB true), [], [], [1], [(24, (aI e2))], []⟩,
      ⟨some 26, (aB true), [], [], [2], [(25, (aB true))], []⟩,
      ⟨some 27, (aG [(cI x.time), (cI x.sum)]), [], [], [3], [(5, (aC (.p 1 0 0 0))), (26, (aB true))], [(1, (.box 44 [(cI x.time), (cI x.sum)]))]⟩,
      ⟨some 28, (aC (.s 2 0 2 1)), [(2, (.arr 44 2 (([x]).map rUse)))], [], [3, 4], [(27, (aG [(cI x.time), (cI x.sum)])), (26, (aB true))], []⟩,
      ⟨some 29, (aG [(cI f4.err), (cI f4.at_)]), [], [], [3, 5], [(28, (aC (.s 2 0 2 1))), (26, (aB true))], [(2, (.arr 44 2 (([x]).map rUse)))]⟩,
      ⟨some 30, (aI f4.err), [], [], [3, 6], [(29, (aG [(cI f4.err), (cI f4.at_)])), (26, (aB true))], []⟩,
      ⟨some 31, (aB true), [], [], [3, 7], [(30, (aI f4.err)), (26, (aB true))], []⟩,
      ⟨some 32, (aB true), [], [], [3, 8], [(26, (aB true)), (31, (aB true))], []⟩,
      ⟨some 33, (aB true), [], [], [9], [(32, (aB true))], []⟩,
      ⟨some 34, (aG [(cI p.ticks), (cI p.count), (cI p.sum)]), [], [], [10], [(3, (aC (.p 0 0 0 0))), (33, (aB true))], [(0, (.box 41 [(cI p.ticks), (cI p.count), (cI p.sum)]))]⟩,
      ⟨some 35, (aC (cR 2 ((l).map rUse))), [], [], [10], [(1, (aC (cR 2 ((l).map rUse)))), (33, (aB true))], []⟩,
      ⟨some 36, (aC (.p 1 0 0 0)), [], [], [10], [(5, (aC (.p 1 0 0 0))), (33, (aB true))], [(1, (.box 44 [(cI x.time), (cI x.sum)]))]⟩,
      ⟨some 37, (aI x.time), [], [], [10, 13], [(36, (aC (.p 1 0 0 0))), (33, (aB true))], [(1, (.box 44 [(cI x.time), (cI x.sum)]))]⟩,
      ⟨some 38, (aC (.s 3 0 2 r5.length)), [(3, (.arr 44 2 ((r5).map rUse)))], [], [10, 11, 12, 14], [(34, (aG [(cI p.ticks), (cI p.count), (cI p.sum)])), (35, (aC (cR 2 ((l).map rUse)))), (37, (aI x.time)), (33, (aB true))], []⟩,
      ⟨some 39, (aG [(cI p.ticks), (cI p.count), (cI p.sum)]), [], [], [10], [(3, (aC (.p 0 0 0 0))), (33, (aB true))], [(0, (.box 41 [(cI p.ticks), (cI p.count), (cI p.sum)]))]⟩,
      ⟨some 40, (aC (cR 2 ((l).map rUse))), [], [], [10], [(1, (aC (cR 2 ((l).map rUse)))), (33, (aB true))], []⟩,
      ⟨some 41, (aC (.p 1 0 0 0)), [], [], [10], [(5, (aC (.p 1 0 0 0))), (33, (aB true))], [(1, (.box 44 [(cI x.time), (cI x.sum)]))]⟩,
      ⟨some 42, (aI x.time), [], [], [10, 18], [(41, (aC (.p 1 0 0 0))), (33, (aB true))], [(1, (.box 44 [(cI x.time), (cI x.sum)]))]⟩,
      ⟨some 43, (aC (.s 4 0 2 r5.length)), [(4, (.arr 44 2 ((r5).map rUse)))], [], [10, 16, 17, 19], [(39, (aG [(cI p.ticks), (cI p.count), (cI p.sum)])), (40, (aC (cR 2 ((l).map rUse)))), (42, (aI x.time)), (33, (aB true))], []⟩,
      ⟨some 44, (aB r6), [], [], [10, 15, 20], [(38, (aC (.s 3 0 2 r5.length))), (43, (aC (.s 4 0 2 r5.length))), (33, (aB true))], [(4, (.arr 44 2 ((r5).map rUse))), (3, (.arr 44 2 ((r5).map rUse)))]⟩,
      ⟨some 45, (aB (!r6)), [], [], [10, 21], [(44, (aB r6)), (33, (aB true))], []⟩,
      ⟨some 46, (aB (!r6)), [], [], [10, 22], [(33, (aB true)), (45, (aB (!r6)))], []⟩] ⟨[(1, (aC (cR 2 ((l).map rUse)))), (3, (aC (.p 0 0 0 0))), (5, (aC (.p 1 0 0 0))), (46, (aB (!r6)))], [(1, (.box 44 [(cI x.time), (cI x.sum)])), (0, (.box 41 [(cI p.ticks), (cI p.count), (cI p.sum)]))], 5⟩ mixed (by kernel_rfl) ?_ ?_ ?_ ?_
        · exact ⟨.inl ⟨(Wanted.plain rfl), GOp.cast (g_loadBs rfl rfl rfl Try.underlying41 rfl sz41 rfl rfl) rfl⟩,
      .inl ⟨(Wanted.plain rfl), GOp.cast (g_call 2 (c_ref_WrongPaceN p  e2 hr2) en39 rfl rfl ⟨⟨_, rfl, .g ⟨.d _, .d _, .d _,  trivial⟩⟩,  trivial⟩ trivial trivial rfl rfl rfl rfl) rfl⟩,
      .inl ⟨(Wanted.plain rfl), GOp.cast (g_binI rfl rfl rfl (congrArg (fun b => some (Value.bool b)) hb2)) rfl⟩,
      .inl ⟨(Wanted.plain rfl), GOp.cast (g_move rfl rfl) rfl⟩,
      .inl ⟨(Wanted.yes rfl rfl rfl), GOp.cast (g_loadBs rfl rfl rfl Try.underlying44 rfl sz44 rfl rfl) rfl⟩,
      .inl ⟨(Wanted.yes rfl rfl rfl), GOp.cast (g_lit (ys := [(0, (.g [(cI x.time), (cI x.sum)]))]) (rows := ([x]).map rUse) 2 sl42 rfl (by decide) ⟨⟨rfl, rfl⟩,  trivial⟩ rfl rfl rfl rfl) rfl⟩,
      .inl ⟨(Wanted.yes rfl rfl rfl), GOp.cast (g_callE 3 [2] (c_ref_WrongUsesN ([x])  f4 hr4) en41 rfl rfl ⟨⟨_, rfl, .c (.s rfl (by decide) (by first | omega | (simp; done) | (simp; omega)))⟩,  trivial⟩ ⟨rfl, rfl,  trivial⟩ trivial rfl rfl rfl rfl) rfl⟩,
      .inl ⟨(Wanted.yes rfl rfl rfl), GOp.cast (g_field1 rfl rfl Try.underlying47 rfl Try.underlying27 rfl rfl) rfl⟩,
      .inl ⟨(Wanted.yes rfl rfl rfl), GOp.cast (g_binI rfl rfl rfl (congrArg (fun b => some (Value.bool b)) hb3)) rfl⟩,
      .inl ⟨(Wanted.plain rfl), GOp.cast (g_pick rfl rfl rfl) rfl⟩,
      .inl ⟨(Wanted.plain rfl), GOp.cast (g_move rfl rfl) rfl⟩,
      .inl ⟨(Wanted.yes rfl rfl rfl), GOp.cast (g_loadBs rfl rfl rfl Try.underlying41 rfl sz41 rfl rfl) rfl⟩,
      .inl ⟨(Wanted.yes rfl rfl rfl), GOp.cast (g_move rfl rfl) rfl⟩,
      .inl ⟨(Wanted.yes rfl rfl rfl), GOp.cast (g_fieldP rfl rfl Try.underlying44 rfl sz3 (by decide)) rfl⟩,
      .inl ⟨(Wanted.yes rfl rfl rfl), GOp.cast (g_loadB rfl rfl rfl Try.underlying3 rfl rfl) rfl⟩,
      .inl ⟨(Wanted.yes rfl rfl rfl), GOp.cast (g_call 3 (c_pace_Recent p l x.time (by first | assumption | omega | (have q1 := rightP (hr2.trans (by omega)); have q2 := uses1 (x := x) (by simp_all); omega)) (by first | assumption | omega) r5 hr5) en43 rfl rfl ⟨⟨_, rfl, .g ⟨.d _, .d _, .d _,  trivial⟩⟩, ⟨_, rfl, .c (.d _)⟩, ⟨_, rfl, .c (.d _)⟩,  trivial⟩ trivial ⟨(fun _ _ _ _ => trivial),  trivial⟩ rfl rfl rfl rfl) rfl⟩,
      .inl ⟨(Wanted.yes rfl rfl rfl), GOp.cast (g_loadBs rfl rfl rfl Try.underlying41 rfl sz41 rfl rfl) rfl⟩,
      .inl ⟨(Wanted.yes rfl rfl rfl), GOp.cast (g_move rfl rfl) rfl⟩,
      .inl ⟨(Wanted.yes rfl rfl rfl), GOp.cast (g_fieldP rfl rfl Try.underlying44 rfl sz3 (by decide)) rfl⟩,
      .inl ⟨(Wanted.yes rfl rfl rfl), GOp.cast (g_loadB rfl rfl rfl Try.underlying3 rfl rfl) rfl⟩,
      .inl ⟨(Wanted.yes rfl rfl rfl), GOp.cast (g_call 4 (c_ref_Recent p l x.time (by first | assumption | omega | (have q1 := rightP (hr2.trans (by omega)); have q2 := uses1 (x := x) (by simp_all); omega)) (by first | assumption | omega) r5 hr5) en44 rfl rfl ⟨⟨_, rfl, .g ⟨.d _, .d _, .d _,  trivial⟩⟩, ⟨_, rfl, .c (.d _)⟩, ⟨_, rfl, .c (.d _)⟩,  trivial⟩ trivial ⟨(fun _ _ _ _ => trivial),  trivial⟩ rfl rfl rfl rfl) rfl⟩,
      .inl ⟨(Wanted.yes rfl rfl rfl), GOp.cast (g_callE 5 [3, 4] (c_SameUses r5 r5  r6 hr6) en42 rfl rfl ⟨⟨_, rfl, .c (.s rfl (by decide) (by first | omega | (simp; done) | (simp; omega)))⟩, ⟨_, rfl, .c (.s rfl (by decide) (by first | omega | (simp; done) | (simp; omega)))⟩,  trivial⟩ rfl trivial rfl rfl rfl rfl) rfl⟩,
      .inl ⟨(Wanted.yes rfl rfl rfl), GOp.cast (g_notB rfl rfl) rfl⟩,
      .inl ⟨(Wanted.plain rfl), GOp.cast (g_pick rfl rfl rfl) rfl⟩,
       trivial⟩
        · exact ⟨⟨⟨.inl rfl,  trivial⟩, ⟨.inl rfl,  trivial⟩⟩, ⟨⟨.inr ⟨0, .head _, _, rfl, rfl, rfl⟩,  trivial⟩, trivial⟩, ⟨⟨.inr ⟨1, .head _, _, rfl, rfl, rfl⟩,  trivial⟩, trivial⟩, ⟨⟨.inr ⟨2, .head _, _, rfl, rfl, rfl⟩,  trivial⟩, trivial⟩, ⟨⟨.inl rfl, .inr ⟨3, .head _, _, rfl, rfl, rfl⟩,  trivial⟩, ⟨.inl rfl,  trivial⟩⟩, ⟨⟨.inr ⟨4, .tail _ (.head _), _, rfl, rfl, rfl⟩, .inr ⟨3, .head _, _, rfl, rfl, rfl⟩,  trivial⟩, trivial⟩, ⟨⟨.inr ⟨5, .tail _ (.head _), _, rfl, rfl, rfl⟩, .inr ⟨3, .head _, _, rfl, rfl, rfl⟩,  trivial⟩, ⟨.inr ⟨5, .tail _ (.head _), _, rfl, .head _⟩,  trivial⟩⟩, ⟨⟨.inr ⟨6, .tail _ (.head _), _, rfl, rfl, rfl⟩, .inr ⟨3, .head _, _, rfl, rfl, rfl⟩,  trivial⟩, trivial⟩, ⟨⟨.inr ⟨7, .tail _ (.head _), _, rfl, rfl, rfl⟩, .inr ⟨3, .head _, _, rfl, rfl, rfl⟩,  trivial⟩, trivial⟩, ⟨⟨.inr ⟨3, .head _, _, rfl, rfl, rfl⟩, .inr ⟨8, .tail _ (.head _), _, rfl, rfl, rfl⟩,  trivial⟩, trivial⟩, ⟨⟨.inr ⟨9, .head _, _, rfl, rfl, rfl⟩,  trivial⟩, trivial⟩, ⟨⟨.inl rfl, .inr ⟨10, .head _, _, rfl, rfl, rfl⟩,  trivial⟩, ⟨.inl rfl,  trivial⟩⟩, ⟨⟨.inl rfl, .inr ⟨10, .head _, _, rfl, rfl, rfl⟩,  trivial⟩, trivial⟩, ⟨⟨.inl rfl, .inr ⟨10, .head _, _, rfl, rfl, rfl⟩,  trivial⟩, ⟨.inl rfl,  trivial⟩⟩, ⟨⟨.inr ⟨13, .tail _ (.head _), _, rfl, rfl, rfl⟩, .inr ⟨10, .head _, _, rfl, rfl, rfl⟩,  trivial⟩, ⟨.inl rfl,  trivial⟩⟩, ⟨⟨.inr ⟨11, .tail _ (.head _), _, rfl, rfl, rfl⟩, .inr ⟨12, .tail _ (.tail _ (.head _)), _, rfl, rfl, rfl⟩, .inr ⟨14, .tail _ (.tail _ (.tail _ (.head _))), _, rfl, rfl, rfl⟩, .inr ⟨10, .head _, _, rfl, rfl, rfl⟩,  trivial⟩, trivial⟩, ⟨⟨.inl rfl, .inr ⟨10, .head _, _, rfl, rfl, rfl⟩,  trivial⟩, ⟨.inl rfl,  trivial⟩⟩, ⟨⟨.inl rfl, .inr ⟨10, .head _, _, rfl, rfl, rfl⟩,  trivial⟩, trivial⟩, ⟨⟨.inl rfl, .inr ⟨10, .head _, _, rfl, rfl, rfl⟩,  trivial⟩, ⟨.inl rfl,  trivial⟩⟩, ⟨⟨.inr ⟨18, .tail _ (.head _), _, rfl, rfl, rfl⟩, .inr ⟨10, .head _, _, rfl, rfl, rfl⟩,  trivial⟩, ⟨.inl rfl,  trivial⟩⟩, ⟨⟨.inr ⟨16, .tail _ (.head _), _, rfl, rfl, rfl⟩, .inr ⟨17, .tail _ (.tail _ (.head _)), _, rfl, rfl, rfl⟩, .inr ⟨19, .tail _ (.tail _ (.tail _ (.head _))), _, rfl, rfl, rfl⟩, .inr ⟨10, .head _, _, rfl, rfl, rfl⟩,  trivial⟩, trivial⟩, ⟨⟨.inr ⟨15, .tail _ (.head _), _, rfl, rfl, rfl⟩, .inr ⟨20, .tail _ (.tail _ (.head _)), _, rfl, rfl, rfl⟩, .inr ⟨10, .head _, _, rfl, rfl, rfl⟩,  trivial⟩, ⟨.inr ⟨20, .tail _ (.tail _ (.head _)), _, rfl, .head _⟩, .inr ⟨15, .tail _ (.head _), _, rfl, .head _⟩,  trivial⟩⟩, ⟨⟨.inr ⟨21, .tail _ (.head _), _, rfl, rfl, rfl⟩, .inr ⟨10, .head _, _, rfl, rfl, rfl⟩,  trivial⟩, trivial⟩, ⟨⟨.inr ⟨10, .head _, _, rfl, rfl, rfl⟩, .inr ⟨22, .tail _ (.head _), _, rfl, rfl, rfl⟩,  trivial⟩, trivial⟩,  trivial⟩
        · exact ⟨⟨.inl rfl, .inl rfl, .inl rfl, .inr ⟨23, _, rfl, rfl, rfl⟩,  trivial⟩, ⟨.inl rfl, .inl rfl,  trivial⟩⟩
        ·
          refine AL.nil ?_
          refine then_ok ?_
          refine AC.cond rfl (fun hc4 => ?_) (fun hc4 => ?_)
          ·
            have hc4' := hc4; try simp only [sumB, Bool.not_eq_true', Bool.not_eq_false', Bool.or_eq_true, Bool.or_eq_false_iff, Bool.and_eq_true, Bool.and_eq_false_imp, decide_eq_true_eq, decide_eq_false_iff_not, Bool.not_not, Bool.not_true, Bool.not_false] at hc4'
            refine AC.seq ?_
            refine AC.region ?_
            refine AL.fast 1 rfl ?_
            refine AL.nil ?_
            refine then_ok ?_
            refine AC.ret ?_
            refine then_ret ?_
            refine retQ_mk (av' := outOf [(.c (cB false))]) (nb' := []) (retQ_ret ⟨[(6, (aB false))], [], 0⟩ [.tmp 6] [(.c (cB false))] (Weak.ren id (⟨by first | rfl | (simp only [AV.map, GV.map, CV.map, AB.map', id]; done) | (congr 3; omega) | (congr 4; omega) | (simp only [List.length_append, List.length_cons, List.length_nil, List.length_set]; rfl),  trivial⟩) (trivial) rfl) rfl ⟨.tmp rfl, trivial⟩ trivial) ?_ ?_
            · exact congrArg aB (show (false) = true by (simp_all [sameList_self]))
            · rfl
          ·
            have hc4' := hc4; try simp only [sumB, Bool.not_eq_true', Bool.not_eq_false', Bool.or_eq_true, Bool.or_eq_false_iff, Bool.and_eq_true, Bool.and_eq_false_imp, decide_eq_true_eq, decide_eq_false_iff_not, Bool.not_not, Bool.not_true, Bool.not_false] at hc4'
            refine AC.skip ?_
            refine then_ok ?_
            refine AC.seq ?_
            refine AC.region ?_
            refine AL.val (Wanted.plain rfl) (g_loadBs rfl rfl rfl Try.underlying41 rfl sz41 rfl rfl) rfl rfl ?_
            refine AL.fast 1 rfl ?_
            refine AL.val (Wanted.plain rfl) (g_loadBs rfl rfl rfl Try.underlying44 rfl sz44 rfl rfl) rfl rfl ?_
            obtain ⟨r7, e7, hr7⟩ : ∃ (r7 : List Use) (e7 : Int), addUse p l x = (r7, e7) := ⟨_, _, rfl⟩
            refine AL.call (n' := 6) (h' := [(5, (.arr 44 2 ((r7).map rUse))), (1, (.box 44 [(cI x.time), (cI x.sum)])), (0, (.box 41 [(cI p.ticks), (cI p.count), (cI p.sum)]))]) (Wanted.plain rfl) (g_call 5 (c_pace_Add p l x  r7 e7 hr7) en45 rfl rfl ⟨⟨_, rfl, .g ⟨.d _, .d _, .d _,  trivial⟩⟩, ⟨_, rfl, .c (.d _)⟩, ⟨_, rfl, .g ⟨.d _, .d _,  trivial⟩⟩,  trivial⟩ ⟨trivial, trivial,  trivial⟩ ⟨(fun _ _ _ _ => trivial),  trivial⟩ rfl rfl rfl rfl) rfl rfl rfl rfl rfl ?_
            refine AL.fast 1 rfl ?_
            refine AL.val (Wanted.plain rfl) (g_extract rfl rfl rfl) rfl rfl ?_
            refine AL.val (Wanted.plain rfl) (g_extract rfl rfl rfl) rfl rfl ?_
            refine AL.fast 2 rfl ?_
            refine AL.nil ?_
            refine then_ok ?_
            refine AC.seq ?_
            refine AC.region ?_
            refine AL.val (Wanted.plain rfl) (g_loadBs rfl rfl rfl Try.underlying41 rfl sz41 rfl rfl) rfl rfl ?_
            refine AL.fast 1 rfl ?_
            refine AL.val (Wanted.plain rfl) (g_loadBs rfl rfl rfl Try.underlying44 rfl sz44 rfl rfl) rfl rfl ?_
            refine AL.call (n' := 7) (h' := [(6, (.arr 44 2 ((r7).map rUse))), (5, (.arr 44 2 ((r7).map rUse))), (1, (.box 44 [(cI x.time), (cI x.sum)])), (0, (.box 41 [(cI p.ticks), (cI p.count), (cI p.sum)]))]) (Wanted.plain rfl) (g_call 6 (c_ref_AddUse p l x  r7 e7 hr7) en46 rfl rfl ⟨⟨_, rfl, .g ⟨.d _, .d _, .d _,  trivial⟩⟩, ⟨_, rfl, .c (.d _)⟩, ⟨_, rfl, .g ⟨.d _, .d _,  trivial⟩⟩,  trivial⟩ ⟨trivial, trivial,  trivial⟩ ⟨(fun _ _ _ _ => trivial),  trivial⟩ rfl rfl rfl rfl) rfl rfl rfl rfl rfl ?_
            refine AL.fast 1 rfl ?_
            refine AL.val (Wanted.plain rfl) (g_extract rfl rfl rfl) rfl rfl ?_
            refine AL.val (Wanted.plain rfl) (g_extract rfl rfl rfl) rfl rfl ?_
            refine AL.fast 2 rfl ?_
            refine AL.nil ?_
            refine then_ok ?_
            obtain ⟨r8, hr8⟩ : ∃ (r8 : Bool), sameList r7 r7 = r8 := ⟨_, rfl⟩
            refine AC.cutB 6 (true && r8) ?_ ?_
            ·
              refine AC.region ?_
              refine AL.fast 2 rfl ?_
              refine AL.val (Wanted.plain rfl) (g_binI rfl rfl rfl (congrArg (fun b => some (Value.bool b)) (decide_eq_true rfl))) rfl rfl ?_
              refine AL.fast 3 rfl ?_
              refine AL.call (n' := 7) (h' := [(6, (.arr 44 2 ((r7).map rUse))), (5, (.arr 44 2 ((r7).map rUse))), (1, (.box 44 [(cI x.time), (cI x.sum)])), (0, (.box 41 [(cI p.ticks), (cI p.count), (cI p.sum)]))]) (Wanted.yes rfl rfl rfl) (g_callE 7 [5, 6] (c_SameUses r7 r7  r8 hr8) en42 rfl rfl ⟨⟨_, rfl, .c (.s rfl (by decide) (by first | omega | (simp; done) | (simp; omega)))⟩, ⟨_, rfl, .c (.s rfl (by decide) (by first | omega | (simp; done) | (simp; omega)))⟩,  trivial⟩ rfl trivial rfl rfl rfl rfl) rfl rfl rfl rfl rfl ?_
              refine AL.fast 2 rfl ?_
              refine AL.nil ?_
              refine then_ok ?_
              exact Weak.popB 9 rfl rfl (by first | (simp []; done) | (simp_all; done) | (exfalso; simp_all; done) | (simp_all; omega)) rfl
            ·
              refine AC.ret ?_
              refine retQ_mk (av' := outOf [(.c (cB (true && r8)))]) (nb' := []) (retQ_ret ⟨[(6, (aB (true && r8)))], [], 0⟩ [.tmp 6] [(.c (cB (true && r8)))] (Weak.ren id (⟨by first | rfl | (simp only [AV.map, GV.map, CV.map, AB.map', id]; done) | (congr 3; omega) | (congr 4; omega) | (simp only [List.length_append, List.length_cons, List.length_nil, List.length_set]; rfl),  trivial⟩) (trivial) rfl) rfl ⟨.tmp rfl, trivial⟩ trivial) ?_ ?_
              · exact congrArg aB (show (true && r8) = true by (simp_all [sameList_self]))
              · rfl
      ·
        have hb3' := hb3; try simp only [sumB, Bool.not_eq_true', Bool.not_eq_false', Bool.or_eq_true, Bool.or_eq_false_iff, Bool.and_eq_true, Bool.and_eq_false_imp, decide_eq_true_eq, decide_eq_false_iff_not, Bool.not_not, Bool.not_true, Bool.not_false] at hb3'
        refine AC.weak (st' := ⟨[(1, (aC (cR 2 ((l).map rUse)))), (3, (aC (.p 0 0 0 0))), (5, (aC (.p 1 0 0 0)))], [(1, (.box 44 [(cI x.time), (cI x.sum)])), (0, (.box 41 [(cI p.ticks), (cI p.count), (cI p.sum)]))], 2⟩) (Weak.ren id (⟨by first | rfl | (simp only [AV.map, GV.map, CV.map, AB.map', id]; done) | (congr 3; omega) | (congr 4; omega) | (simp only [List.length_append, List.length_cons, List.length_nil, List.length_set]; rfl), by first | rfl | (simp only [AV.map, GV.map, CV.map, AB.map', id]; done) | (congr 3; omega) | (congr 4; omega) | (simp only [List.length_append, List.length_cons, List.length_nil, List.length_set]; rfl), by first | rfl | (simp only [AV.map, GV.map, CV.map, AB.map', id]; done) | (congr 3; omega) | (congr 4; omega) | (simp only [List.length_append, List.length_cons, List.length_nil, List.length_set]; rfl),  trivial⟩) (⟨by first | rfl | (simp only [AV.map, GV.map, CV.map, AB.map', id]; done) | (congr 3; omega) | (congr 4; omega) | (simp only [List.length_append, List.length_cons, List.length_nil, List.length_set]; rfl), by first | rfl | (simp only [AV.map, GV.map, CV.map, AB.map', id]; done) | (congr 3; omega) | (congr 4; omega) | (simp only [List.length_append, List.length_cons, List.length_nil, List.length_set]; rfl),  trivial⟩) rfl) ?_
        refine AC.draw [⟨some 23, (aG [(cI p.ticks), (cI p.count), (cI p.sum)]), [], [], [], [(3, (aC (.p 0 0 0 0)))], [(0, (.box 41 [(cI p.ticks), (cI p.count), (cI p.sum)]))]⟩,
      ⟨some 24, (aI e2), [], [], [0], [(23, (aG [(cI p.ticks), (cI p.count), (cI p.sum)]))], []⟩,
      ⟨some 25, (aB true), [], [], [1], [(24, (aI e2))], []⟩,
      ⟨some 26, (aB true), [], [], [2], [(25, (aB true))], []⟩,
      ⟨some 27, (aG [(cI x.time), (cI x.sum)]), [], [], [3], [(5, (aC (.p 1 0 0 0))), (26, (aB true))], [(1, (.box 44 [(cI x.time), (cI x.sum)]))]⟩,
      ⟨some 28, (aC (.s 2 0 2 1)), [(2, (.arr 44 2 (([x]).map rUse)))], [], [3, 4], [(27, (aG [(cI x.time), (cI x.sum)])), (26, (aB true))], []⟩,
      ⟨some 29, (aG [(cI f4.err), (cI f4.at_)]), [], [], [3, 5], [(28, (aC (.s 2 0 2 1))), (26, (aB true))], [(2, (.arr 44 2 (([x]).map rUse)))]⟩,
      ⟨some 30, (aI f4.err), [], [], [3, 6], [(29, (aG [(cI f4.err), (cI f4.at_)])), (26, (aB true))], []⟩,
      ⟨some 31, (aB false), [], [], [3, 7], [(30, (aI f4.err)), (26, (aB true))], []⟩,
      ⟨some 32, (aB false), [], [], [3, 8], [(26, (aB true)), (31, (aB false))], []⟩,
      ⟨some 33, (aB false), [], [], [9], [(32, (aB false))], []⟩,
      ⟨some 34, (.t []), [], [], [10], [(3, (aC (.p 0 0 0 0))), (33, (aB false))], []⟩,
      ⟨some 35, (.t []), [], [], [10], [(1, (aC (cR 2 ((l).map rUse)))), (33, (aB false))], []⟩,
      ⟨some 36, (.t []), [], [], [10], [(5, (aC (.p 1 0 0 0))), (33, (aB false))], []⟩,
      ⟨some 37, (.t []), [], [], [10, 13], [(36, (.t [])), (33, (aB false))], []⟩,
      ⟨some 38, (.t []), [], [], [10, 11, 12, 14], [(34, (.t [])), (35, (.t [])), (37, (.t [])), (33, (aB false))], []⟩,
      ⟨some 39, (.t []), [], [], [10], [(3, (aC (.p 0 0 0 0))), (33, (aB false))], []⟩,
      ⟨some 40, (.t []), [], [], [10], [(1, (aC (cR 2 ((l).map rUse)))), (33, (aB false))], []⟩,
      ⟨some 41, (.t []), [], [], [10], [(5, (aC (.p 1 0 0 0))), (33, (aB false))], []⟩,
      ⟨some 42, (.t []), [], [], [10, 18], [(41, (.t [])), (33, (aB false))], []⟩,
      ⟨some 43, (.t []), [], [], [10, 16, 17, 19], [(39, (.t [])), (40, (.t [])), (42, (.t [])), (33, (aB false))], []⟩,
      ⟨some 44, (.t []), [], [], [10, 15, 20], [(38, (.t [])), (43, (.t [])), (33, (aB false))], []⟩,
      ⟨some 45, (.t []), [], [], [10, 21], [(44, (.t [])), (33, (aB false))], []⟩,
      ⟨some 46, (aB false), [], [], [10, 22], [(33, (aB false)), (45, (.t []))], []⟩] ⟨[(1, (aC (cR 2 ((l).map rUse)))), (3, (aC (.p 0 0 0 0))), (5, (aC (.p 1 0 0 0))), (46, (aB false))], [(1, (.box 44 [(cI x.time), (cI x.sum)])), (0, (.box 41 [(cI p.ticks), (cI p.count), (cI p.sum)]))], 3⟩ mixed (by kernel_rfl) ?_ ?_ ?_ ?_
        · exact ⟨.inl ⟨(Wanted.plain rfl), GOp.cast (g_loadBs rfl rfl rfl Try.underlying41 rfl sz41 rfl rfl) rfl⟩,
      .inl ⟨(Wanted.plain rfl), GOp.cast (g_call 2 (c_ref_WrongPaceN p  e2 hr2) en39 rfl rfl ⟨⟨_, rfl, .g ⟨.d _, .d _, .d _,  trivial⟩⟩,  trivial⟩ trivial trivial rfl rfl rfl rfl) rfl⟩,
      .inl ⟨(Wanted.plain rfl), GOp.cast (g_binI rfl rfl rfl (congrArg (fun b => some (Value.bool b)) hb2)) rfl⟩,
      .inl ⟨(Wanted.plain rfl), GOp.cast (g_move rfl rfl) rfl⟩,
      .inl ⟨(Wanted.yes rfl rfl rfl), GOp.cast (g_loadBs rfl rfl rfl Try.underlying44 rfl sz44 rfl rfl) rfl⟩,
      .inl ⟨(Wanted.yes rfl rfl rfl), GOp.cast (g_lit (ys := [(0, (.g [(cI x.time), (cI x.sum)]))]) (rows := ([x]).map rUse) 2 sl42 rfl (by decide) ⟨⟨rfl, rfl⟩,  trivial⟩ rfl rfl rfl rfl) rfl⟩,
      .inl ⟨(Wanted.yes rfl rfl rfl), GOp.cast (g_callE 3 [2] (c_ref_WrongUsesN ([x])  f4 hr4) en41 rfl rfl ⟨⟨_, rfl, .c (.s rfl (by decide) (by first | omega | (simp; done) | (simp; omega)))⟩,  trivial⟩ ⟨rfl, rfl,  trivial⟩ trivial rfl rfl rfl rfl) rfl⟩,
      .inl ⟨(Wanted.yes rfl rfl rfl), GOp.cast (g_field1 rfl rfl Try.underlying47 rfl Try.underlying27 rfl rfl) rfl⟩,
      .inl ⟨(Wanted.yes rfl rfl rfl), GOp.cast (g_binI rfl rfl rfl (congrArg (fun b => some (Value.bool b)) hb3)) rfl⟩,
      .inl ⟨(Wanted.plain rfl), GOp.cast (g_pick rfl rfl rfl) rfl⟩,
      .inl ⟨(Wanted.plain rfl), GOp.cast (g_move rfl rfl) rfl⟩,
      .inr ⟨(Unwanted.no rfl rfl rfl), rfl, rfl, rfl⟩,
      .inr ⟨(Unwanted.no rfl rfl rfl), rfl, rfl, rfl⟩,
      .inr ⟨(Unwanted.no rfl rfl rfl), rfl, rfl, rfl⟩,
      .inr ⟨(Unwanted.no rfl rfl rfl), rfl, rfl, rfl⟩,
      .inr ⟨(Unwanted.no rfl rfl rfl), rfl, rfl, rfl⟩,
      .inr ⟨(Unwanted.no rfl rfl rfl), rfl, rfl, rfl⟩,
      .inr ⟨(Unwanted.no rfl rfl rfl), rfl, rfl, rfl⟩,
      .inr ⟨(Unwanted.no rfl rfl rfl), rfl, rfl, rfl⟩,
      .inr ⟨(Unwanted.no rfl rfl rfl), rfl, rfl, rfl⟩,
      .inr ⟨(Unwanted.no rfl rfl rfl), rfl, rfl, rfl⟩,
      .inr ⟨(Unwanted.no rfl rfl rfl), rfl, rfl, rfl⟩,
      .inr ⟨(Unwanted.no rfl rfl rfl), rfl, rfl, rfl⟩,
      .inl ⟨(Wanted.plain rfl), GOp.cast (g_pick rfl rfl rfl) rfl⟩,
       trivial⟩
        · exact ⟨⟨⟨.inl rfl,  trivial⟩, ⟨.inl rfl,  trivial⟩⟩, ⟨⟨.inr ⟨0, .head _, _, rfl, rfl, rfl⟩,  trivial⟩, trivial⟩, ⟨⟨.inr ⟨1, .head _, _, rfl, rfl, rfl⟩,  trivial⟩, trivial⟩, ⟨⟨.inr ⟨2, .head _, _, rfl, rfl, rfl⟩,  trivial⟩, trivial⟩, ⟨⟨.inl rfl, .inr ⟨3, .head _, _, rfl, rfl, rfl⟩,  trivial⟩, ⟨.inl rfl,  trivial⟩⟩, ⟨⟨.inr ⟨4, .tail _ (.head _), _, rfl, rfl, rfl⟩, .inr ⟨3, .head _, _, rfl, rfl, rfl⟩,  trivial⟩, trivial⟩, ⟨⟨.inr ⟨5, .tail _ (.head _), _, rfl, rfl, rfl⟩, .inr ⟨3, .head _, _, rfl, rfl, rfl⟩,  trivial⟩, ⟨.inr ⟨5, .tail _ (.head _), _, rfl, .head _⟩,  trivial⟩⟩, ⟨⟨.inr ⟨6, .tail _ (.head _), _, rfl, rfl, rfl⟩, .inr ⟨3, .head _, _, rfl, rfl, rfl⟩,  trivial⟩, trivial⟩, ⟨⟨.inr ⟨7, .tail _ (.head _), _, rfl, rfl, rfl⟩, .inr ⟨3, .head _, _, rfl, rfl, rfl⟩,  trivial⟩, trivial⟩, ⟨⟨.inr ⟨3, .head _, _, rfl, rfl, rfl⟩, .inr ⟨8, .tail _ (.head _), _, rfl, rfl, rfl⟩,  trivial⟩, trivial⟩, ⟨⟨.inr ⟨9, .head _, _, rfl, rfl, rfl⟩,  trivial⟩, trivial⟩, ⟨⟨.inl rfl, .inr ⟨10, .head _, _, rfl, rfl, rfl⟩,  trivial⟩, trivial⟩, ⟨⟨.inl rfl, .inr ⟨10, .head _, _, rfl, rfl, rfl⟩,  trivial⟩, trivial⟩, ⟨⟨.inl rfl, .inr ⟨10, .head _, _, rfl, rfl, rfl⟩,  trivial⟩, trivial⟩, ⟨⟨.inr ⟨13, .tail _ (.head _), _, rfl, rfl, rfl⟩, .inr ⟨10, .head _, _, rfl, rfl, rfl⟩,  trivial⟩, trivial⟩, ⟨⟨.inr ⟨11, .tail _ (.head _), _, rfl, rfl, rfl⟩, .inr ⟨12, .tail _ (.tail _ (.head _)), _, rfl, rfl, rfl⟩, .inr ⟨14, .tail _ (.tail _ (.tail _ (.head _))), _, rfl, rfl, rfl⟩, .inr ⟨10, .head _, _, rfl, rfl, rfl⟩,  trivial⟩, trivial⟩, ⟨⟨.inl rfl, .inr ⟨10, .head _, _, rfl, rfl, rfl⟩,  trivial⟩, trivial⟩, ⟨⟨.inl rfl, .inr ⟨10, .head _, _, rfl, rfl, rfl⟩,  trivial⟩, trivial⟩, ⟨⟨.inl rfl, .inr ⟨10, .head _, _, rfl, rfl, rfl⟩,  trivial⟩, trivial⟩, ⟨⟨.inr ⟨18, .tail _ (.head _), _, rfl, rfl, rfl⟩, .inr ⟨10, .head _, _, rfl, rfl, rfl⟩,  trivial⟩, trivial⟩, ⟨⟨.inr ⟨16, .tail _ (.head _), _, rfl, rfl, rfl⟩, .inr ⟨17, .tail _ (.tail _ (.head _)), _, rfl, rfl, rfl⟩, .inr ⟨19, .tail _ (.tail _ (.tail _ (.head _))), _, rfl, rfl, rfl⟩, .inr ⟨10, .head _, _, rfl, rfl, rfl⟩,  trivial⟩, trivial⟩, ⟨⟨.inr ⟨15, .tail _ (.head _), _, rfl, rfl, rfl⟩, .inr ⟨20, .tail _ (.tail _ (.head _)), _, rfl, rfl, rfl⟩, .inr ⟨10, .head _, _, rfl, rfl, rfl⟩,  trivial⟩, trivial⟩, ⟨⟨.inr ⟨21, .tail _ (.head _), _, rfl, rfl, rfl⟩, .inr ⟨10, .head _, _, rfl, rfl, rfl⟩,  trivial⟩, trivial⟩, ⟨⟨.inr ⟨10, .head _, _, rfl, rfl, rfl⟩, .inr ⟨22, .tail _ (.head _), _, rfl, rfl, rfl⟩,  trivial⟩, trivial⟩,  trivial⟩
        · exact ⟨⟨.inl rfl, .inl rfl, .inl rfl, .inr ⟨23, _, rfl, rfl, rfl⟩,  trivial⟩, ⟨.inl rfl, .inl rfl,  trivial⟩⟩
        ·
          refine AL.nil ?_
          refine then_ok ?_
          refine AC.cond rfl (fun hno => by cases hno) (fun _ => ?_)
          refine AC.skip ?_
          refine then_ok ?_
          refine AC.seq ?_
          refine AC.region ?_
          refine AL.val (Wanted.plain rfl) (g_loadBs rfl rfl rfl Try.underlying41 rfl sz41 rfl rfl) rfl rfl ?_
          refine AL.fast 1 rfl ?_
          refine AL.val (Wanted.plain rfl) (g_loadBs rfl rfl rfl Try.underlying44 rfl sz44 rfl rfl) rfl rfl ?_
          obtain ⟨r9, e9, hr9⟩ : ∃ (r9 : List Use) (e9 : Int), addUse p l x = (r9, e9) := ⟨_, _, rfl⟩
          refine AL.call (n' := 4) (h' := [(3, (.arr 44 2 ((r9).map rUse))), (1, (.box 44 [(cI x.time), (cI x.sum)])), (0, (.box 41 [(cI p.ticks), (cI p.count), (cI p.sum)]))]) (Wanted.plain rfl) (g_call 3 (c_pace_Add p l x  r9 e9 hr9) en45 rfl rfl ⟨⟨_, rfl, .g ⟨.d _, .d _, .d _,  trivial⟩⟩, ⟨_, rfl, .c (.d _)⟩, ⟨_, rfl, .g ⟨.d _, .d _,  trivial⟩⟩,  trivial⟩ ⟨trivial, trivial,  trivial⟩ ⟨(fun _ _ _ _ => trivial),  trivial⟩ rfl rfl rfl rfl) rfl rfl rfl rfl rfl ?_
          refine AL.fast 1 rfl ?_
          refine AL.val (Wanted.plain rfl) (g_extract rfl rfl rfl) rfl rfl ?_
          refine AL.val (Wanted.plain rfl) (g_extract rfl rfl rfl) rfl rfl ?_
          refine AL.fast 2 rfl ?_
          refine AL.nil ?_
          refine then_ok ?_
          refine AC.seq ?_
          refine AC.region ?_
          refine AL.val (Wanted.plain rfl) (g_loadBs rfl rfl rfl Try.underlying41 rfl sz41 rfl rfl) rfl rfl ?_
          refine AL.fast 1 rfl ?_
          refine AL.val (Wanted.plain rfl) (g_loadBs rfl rfl rfl Try.underlying44 rfl sz44 rfl rfl) rfl rfl ?_
          refine AL.call (n' := 5) (h' := [(4, (.arr 44 2 ((r9).map rUse))), (3, (.arr 44 2 ((r9).map rUse))), (1, (.box 44 [(cI x.time), (cI x.sum)])), (0, (.box 41 [(cI p.ticks), (cI p.count), (cI p.sum)]))]) (Wanted.plain rfl) (g_call 4 (c_ref_AddUse p l x  r9 e9 hr9) en46 rfl rfl ⟨⟨_, rfl, .g ⟨.d _, .d _, .d _,  trivial⟩⟩, ⟨_, rfl, .c (.d _)⟩, ⟨_, rfl, .g ⟨.d _, .d _,  trivial⟩⟩,  trivial⟩ ⟨trivial, trivial,  trivial⟩ ⟨(fun _ _ _ _ => trivial),  trivial⟩ rfl rfl rfl rfl) rfl rfl rfl rfl rfl ?_
          refine AL.fast 1 rfl ?_
          refine AL.val (Wanted.plain rfl) (g_extract rfl rfl rfl) rfl rfl ?_
          refine AL.val (Wanted.plain rfl) (g_extract rfl rfl rfl) rfl rfl ?_
          refine AL.fast 2 rfl ?_
          refine AL.nil ?_
          refine then_ok ?_
          obtain ⟨r10, hr10⟩ : ∃ (r10 : Bool), sameList r9 r9 = r10 := ⟨_, rfl⟩
          refine AC.cutB 6 (true && r10) ?_ ?_
          ·
            refine AC.region ?_
            refine AL.fast 2 rfl ?_
            refine AL.val (Wanted.plain rfl) (g_binI rfl rfl rfl (congrArg (fun b => some (Value.bool b)) (decide_eq_true rfl))) rfl rfl ?_
            refine AL.fast 3 rfl ?_
            refine AL.call (n' := 5) (h' := [(4, (.arr 44 2 ((r9).map rUse))), (3, (.arr 44 2 ((r9).map rUse))), (1, (.box 44 [(cI x.time), (cI x.sum)])), (0, (.box 41 [(cI p.ticks), (cI p.count), (cI p.sum)]))]) (Wanted.yes rfl rfl rfl) (g_callE 5 [3, 4] (c_SameUses r9 r9  r10 hr10) en42 rfl rfl ⟨⟨_, rfl, .c (.s rfl (by decide) (by first | omega | (simp; done) | (simp; omega)))⟩, ⟨_, rfl, .c (.s rfl (by decide) (by first | omega | (simp; done) | (simp; omega)))⟩,  trivial⟩ rfl trivial rfl rfl rfl rfl) rfl rfl rfl rfl rfl ?_
            refine AL.fast 2 rfl ?_
            refine AL.nil ?_
            refine then_ok ?_
            exact Weak.popB 9 rfl rfl (by first | (simp []; done) | (simp_all; done) | (exfalso; simp_all; done) | (simp_all; omega)) rfl
          ·
            refine AC.ret ?_
            refine retQ_mk (av' := outOf [(.c (cB (true && r10)))]) (nb' := []) (retQ_ret ⟨[(6, (aB (true && r10)))], [], 0⟩ [.tmp 6] [(.c (cB (true && r10)))] (Weak.ren id (⟨by first | rfl | (simp only [AV.map, GV.map, CV.map, AB.map', id]; done) | (congr 3; omega) | (congr 4; omega) | (simp only [List.length_append, List.length_cons, List.length_nil, List.length_set]; rfl),  trivial⟩) (trivial) rfl) rfl ⟨.tmp rfl, trivial⟩ trivial) ?_ ?_
            · exact congrArg aB (show (true && r10) = true by (simp_all [sameList_self]))
            · rfl
    ·
      have hb2' := hb2; try simp only [sumB, Bool.not_eq_true', Bool.not_eq_false', Bool.or_eq_true, Bool.or_eq_false_iff, Bool.and_eq_true, Bool.and_eq_false_imp, decide_eq_true_eq, decide_eq_false_iff_not, Bool.not_not, Bool.not_true, Bool.not_false] at hb2'
      refine AC.weak (st' := ⟨[(1, (aC (cR 2 ((l).map rUse)))), (3, (aC (.p 0 0 0 0))), (5, (aC (.p 1 0 0 0)))], [(1, (.box 44 [(cI x.time), (cI x.sum)])), (0, (.box 41 [(cI p.ticks), (cI p.count), (cI p.sum)]))], 2⟩) (Weak.ren id (⟨by first | rfl | (simp only [AV.map, GV.map, CV.map, AB.map', id]; done) | (congr 3; omega) | (congr 4; omega) | (simp only [List.length_append, List.length_cons, List.length_nil, List.length_set]; rfl), by first | rfl | (simp only [AV.map, GV.map, CV.map, AB.map', id]; done) | (congr 3; omega) | (congr 4; omega) | (simp only [List.length_append, List.length_cons, List.length_nil, List.length_set]; rfl), by first | rfl | (simp only [AV.map, GV.map, CV.map, AB.map', id]; done) | (congr 3; omega) | (congr 4; omega) | (simp only [List.length_append, List.length_cons, List.length_nil, List.length_set]; rfl),  trivial⟩) (⟨by first | rfl | (simp only [AV.map, GV.map, CV.map, AB.map', id]; done) | (congr 3; omega) | (congr 4; omega) | (simp only [List.length_append, List.length_cons, List.length_nil, List.length_set]; rfl), by first | rfl | (simp only [AV.map, GV.map, CV.map, AB.map', id]; done) | (congr 3; omega) | (congr 4; omega) | (simp only [List.length_append, List.length_cons, List.length_nil, List.length_set]; rfl),  trivial⟩) rfl) ?_
      refine AC.draw [⟨some 23, (aG [(cI p.ticks), (cI p.count), (cI p.sum)]), [], [], [], [(3, (aC (.p 0 0 0 0)))], [(0, (.box 41 [(cI p.ticks), (cI p.count), (cI p.sum)]))]⟩,
      ⟨some 24, (aI e2), [], [], [0], [(23, (aG [(cI p.ticks), (cI p.count), (cI p.sum)]))], []⟩,
      ⟨some 25, (aB false), [], [], [1], [(24, (aI e2))], []⟩,
      ⟨some 26, (aB false), [], [], [2], [(25, (aB false))], []⟩,
      ⟨some 27, (.t []), [], [], [3], [(5, (aC (.p 1 0 0 0))), (26, (aB false))], []⟩,
      ⟨some 28, (.t []), [], [], [3, 4], [(27, (.t [])), (26, (aB false))], []⟩,
      ⟨some 29, (.t []), [], [], [3, 5], [(28, (.t [])), (26, (aB false))], []⟩,
      ⟨some 30, (.t []), [], [], [3, 6], [(29, (.t [])), (26, (aB false))], []⟩,
      ⟨some 31, (.t []), [], [], [3, 7], [(30, (.t [])), (26, (aB false))], []⟩,
      ⟨some 32, (aB false), [], [], [3, 8], [(26, (aB false)), (31, (.t []))], []⟩,
      ⟨some 33, (aB false), [], [], [9], [(32, (aB false))], []⟩,
      ⟨some 34, (.t []), [], [], [10], [(3, (aC (.p 0 0 0 0))), (33, (aB false))], []⟩,
      ⟨some 35, (.t []), [], [], [10], [(1, (aC (cR 2 ((l).map rUse)))), (33, (aB false))], []⟩,
      ⟨some 36, (.t []), [], [], [10], [(5, (aC (.p 1 0 0 0))), (33, (aB false))], []⟩,
      ⟨some 37, (.t []), [], [], [10, 13], [(36, (.t [])), (33, (aB false))], []⟩,
      ⟨some 38, (.t []), [], [], [10, 11, 12, 14], [(34, (.t [])), (35, (.t [])), (37, (.t [])), (33, (aB false))], []⟩,
      ⟨some 39, (.t []), [], [], [10], [(3, (aC (.p 0 0 0 0))), (33, (aB false))], []⟩,
      ⟨some 40, (.t []), [], [], [10], [(1, (aC (cR 2 ((l).map rUse)))), (33, (aB false))], []⟩,
      ⟨some 41, (.t []), [], [], [10], [(5, (aC (.p 1 0 0 0))), (33, (aB false))], []⟩,
      ⟨some 42, (.t []), [], [], [10, 18], [(41, (.t [])), (33, (aB false))], []⟩,
      ⟨some 43, (.t []), [], [], [10, 16, 17, 19], [(39, (.t [])), (40, (.t [])), (42, (.t [])), (33, (aB false))], []⟩,
      ⟨some 44, (.t []), [], [], [10, 15, 20], [(38, (.t [])), (43, (.t [])), (33, (aB false))], []⟩,
      ⟨some 45, (.t []), [], [], [10, 21], [(44, (.t [])), (33, (aB false))], []⟩,
      ⟨some 46, (aB false), [], [], [10, 22], [(33, (aB false)), (45, (.t []))], []⟩] ⟨[(1, (aC (cR 2 ((l).map rUse)))), (3, (aC (.p 0 0 0 0))), (5, (aC (.p 1 0 0 0))), (46, (aB false))], [(1, (.box 44 [(cI x.time), (cI x.sum)])), (0, (.box 41 [(cI p.ticks), (cI p.count), (cI p.sum)]))], 2⟩ mixed (by kernel_rfl) ?_ ?_ ?_ ?_
      · exact ⟨.inl ⟨(Wanted.plain rfl), GOp.cast (g_loadBs rfl rfl rfl Try.underlying41 rfl sz41 rfl rfl) rfl⟩,
      .inl ⟨(Wanted.plain rfl), GOp.cast (g_call 2 (c_ref_WrongPaceN p  e2 hr2) en39 rfl rfl ⟨⟨_, rfl, .g ⟨.d _, .d _, .d _,  trivial⟩⟩,  trivial⟩ trivial trivial rfl rfl rfl rfl) rfl⟩,
      .inl ⟨(Wanted.plain rfl), GOp.cast (g_binI rfl rfl rfl (congrArg (fun b => some (Value.bool b)) hb2)) rfl⟩,
      .inl ⟨(Wanted.plain rfl), GOp.cast (g_move rfl rfl) rfl⟩,
      .inr ⟨(Unwanted.no rfl rfl rfl), rfl, rfl, rfl⟩,
      .inr ⟨(Unwanted.no rfl rfl rfl), rfl, rfl, rfl⟩,
      .inr ⟨(Unwanted.no rfl rfl rfl), rfl, rfl, rfl⟩,
      .inr ⟨(Unwanted.no rfl rfl rfl), rfl, rfl, rfl⟩,
      .inr ⟨(Unwanted.no rfl rfl rfl), rfl, rfl, rfl⟩,
      .inl ⟨(Wanted.plain rfl), GOp.cast (g_pick rfl rfl rfl) rfl⟩,
      .inl ⟨(Wanted.plain rfl), GOp.cast (g_move rfl rfl) rfl⟩,
      .inr ⟨(Unwanted.no rfl rfl rfl), rfl, rfl, rfl⟩,
      .inr ⟨(Unwanted.no rfl rfl rfl), rfl, rfl, rfl⟩,
      .inr ⟨(Unwanted.no rfl rfl rfl), rfl, rfl, rfl⟩,
      .inr ⟨(Unwanted.no rfl rfl rfl), rfl, rfl, rfl⟩,
      .inr ⟨(Unwanted.no rfl rfl rfl), rfl, rfl, rfl⟩,
      .inr ⟨(Unwanted.no rfl rfl rfl), rfl, rfl, rfl⟩,
      .inr ⟨(Unwanted.no rfl rfl rfl), rfl, rfl, rfl⟩,
      .inr ⟨(Unwanted.no rfl rfl rfl), rfl, rfl, rfl⟩,
      .inr ⟨(Unwanted.no rfl rfl rfl), rfl, rfl, rfl⟩,
      .inr ⟨(Unwanted.no rfl rfl rfl), rfl, rfl, rfl⟩,
      .inr ⟨(Unwanted.no rfl rfl rfl), rfl, rfl, rfl⟩,
      .inr ⟨(Unwanted.no rfl rfl rfl), rfl, rfl, rfl⟩,
      .inl ⟨(Wanted.plain rfl), GOp.cast (g_pick rfl rfl rfl) rfl⟩,
       trivial⟩
      · exact ⟨⟨⟨.inl rfl,  trivial⟩, ⟨.inl rfl,  trivial⟩⟩, ⟨⟨.inr ⟨0, .head _, _, rfl, rfl, rfl⟩,  trivial⟩, trivial⟩, ⟨⟨.inr ⟨1, .head _, _, rfl, rfl, rfl⟩,  trivial⟩, trivial⟩, ⟨⟨.inr ⟨2, .head _, _, rfl, rfl, rfl⟩,  trivial⟩, trivial⟩, ⟨⟨.inl rfl, .inr ⟨3, .head _, _, rfl, rfl, rfl⟩,  trivial⟩, trivial⟩, ⟨⟨.inr ⟨4, .tail _ (.head _), _, rfl, rfl, rfl⟩, .inr ⟨3, .head _, _, rfl, rfl, rfl⟩,  trivial⟩, trivial⟩, ⟨⟨.inr ⟨5, .tail _ (.head _), _, rfl, rfl, rfl⟩, .inr ⟨3, .head _, _, rfl, rfl, rfl⟩,  trivial⟩, trivial⟩, ⟨⟨.inr ⟨6, .tail _ (.head _), _, rfl, rfl, rfl⟩, .inr ⟨3, .head _, _, rfl, rfl, rfl⟩,  trivial⟩, trivial⟩, ⟨⟨.inr ⟨7, .tail _ (.head _), _, rfl, rfl, rfl⟩, .inr ⟨3, .head _, _, rfl, rfl, rfl⟩,  trivial⟩, trivial⟩, ⟨⟨.inr ⟨3, .head _, _, rfl, rfl, rfl⟩, .inr ⟨8, .tail _ (.head _), _, rfl, rfl, rfl⟩,  trivial⟩, trivial⟩, ⟨⟨.inr ⟨9, .head _, _, rfl, rfl, rfl⟩,  trivial⟩, trivial⟩, ⟨⟨.inl rfl, .inr ⟨10, .head _, _, rfl, rfl, rfl⟩,  trivial⟩, trivial⟩, ⟨⟨.inl rfl, .inr ⟨10, .head _, _, rfl, rfl, rfl⟩,  trivial⟩, trivial⟩, ⟨⟨.inl rfl, .inr ⟨10, .head _, _, rfl, rfl, rfl⟩,  trivial⟩, trivial⟩, ⟨⟨.inr ⟨13, .tail _ (.head _), _, rfl, rfl, rfl⟩, .inr ⟨10, .head _, _, rfl, rfl, rfl⟩,  trivial⟩, trivial⟩, ⟨⟨.inr ⟨11, .tail _ (.head _), _, rfl, rfl, rfl⟩, .inr ⟨12, .tail _ (.tail _ (.head _)), _, rfl, rfl, rfl⟩, .inr ⟨14, .tail _ (.tail _ (.tail _ (.head _))), _, rfl, rfl, rfl⟩, .inr ⟨10, .head _, _, rfl, rfl, rfl⟩,  trivial⟩, trivial⟩, ⟨⟨.inl rfl, .inr ⟨10, .head _, _, rfl, rfl, rfl⟩,  trivial⟩, trivial⟩, ⟨⟨.inl rfl, .inr ⟨10, .head _, _, rfl, rfl, rfl⟩,  trivial⟩, trivial⟩, ⟨⟨.inl rfl, .inr ⟨10, .head _, _, rfl, rfl, rfl⟩,  trivial⟩, trivial⟩, ⟨⟨.inr ⟨18, .tail _ (.head _), _, rfl, rfl, rfl⟩, .inr ⟨10, .head _, _, rfl, rfl, rfl⟩,  trivial⟩, trivial⟩, ⟨⟨.inr ⟨16, .tail _ (.head _), _, rfl, rfl, rfl⟩, .inr ⟨17, .tail _ (.tail _ (.head _)), _, rfl, rfl, rfl⟩, .inr ⟨19, .tail _ (.tail _ (.tail _ (.head _))), _, rfl, rfl, rfl⟩, .inr ⟨10, .head _, _, rfl, rfl, rfl⟩,  trivial⟩, trivial⟩, ⟨⟨.inr ⟨15, .tail _ (.head _), _, rfl, rfl, rfl⟩, .inr ⟨20, .tail _ (.tail _ (.head _)), _, rfl, rfl, rfl⟩, .inr ⟨10, .head _, _, rfl, rfl, rfl⟩,  trivial⟩, trivial⟩, ⟨⟨.inr ⟨21, .tail _ (.head _), _, rfl, rfl, rfl⟩, .inr ⟨10, .head _, _, rfl, rfl, rfl⟩,  trivial⟩, trivial⟩, ⟨⟨.inr ⟨10, .head _, _, rfl, rfl, rfl⟩, .inr ⟨22, .tail _ (.head _), _, rfl, rfl, rfl⟩,  trivial⟩, trivial⟩,  trivial⟩
      · exact ⟨⟨.inl rfl, .inl rfl, .inl rfl, .inr ⟨23, _, rfl, rfl, rfl⟩,  trivial⟩, ⟨.inl rfl, .inl rfl,  trivial⟩⟩
      ·
        refine AL.nil ?_
        refine then_ok ?_
        refine AC.cond rfl (fun hno => by cases hno) (fun _ => ?_)
        refine AC.skip ?_
        refine then_ok ?_
        refine AC.seq ?_
        refine AC.region ?_
        refine AL.val (Wanted.plain rfl) (g_loadBs rfl rfl rfl Try.underlying41 rfl sz41 rfl rfl) rfl rfl ?_
        refine AL.fast 1 rfl ?_
        refine AL.val (Wanted.plain rfl) (g_loadBs rfl rfl rfl Try.underlying44 rfl sz44 rfl rfl) rfl rfl ?_
        obtain ⟨r11, e11, hr11⟩ : ∃ (r11 : List Use) (e11 : Int), addUse p l x = (r11, e11) := ⟨_, _, rfl⟩
        refine AL.call (n' := 3) (h' := [(2, (.arr 44 2 ((r11).map rUse))), (1, (.box 44 [(cI x.time), (cI x.sum)])), (0, (.box 41 [(cI p.ticks), (cI p.count), (cI p.sum)]))]) (Wanted.plain rfl) (g_call 2 (c_pace_Add p l x  r11 e11 hr11) en45 rfl rfl ⟨⟨_, rfl, .g ⟨.d _, .d _, .d _,  trivial⟩⟩, ⟨_, rfl, .c (.d _)⟩, ⟨_, rfl, .g ⟨.d _, .d _,  trivial⟩⟩,  trivial⟩ ⟨trivial, trivial,  trivial⟩ ⟨(fun _ _ _ _ => trivial),  trivial⟩ rfl rfl rfl rfl) rfl rfl rfl rfl rfl ?_
        refine AL.fast 1 rfl ?_
        refine AL.val (Wanted.plain rfl) (g_extract rfl rfl rfl) rfl rfl ?_
        refine AL.val (Wanted.plain rfl) (g_extract rfl rfl rfl) rfl rfl ?_
        refine AL.fast 2 rfl ?_
        refine AL.nil ?_
        refine then_ok ?_
        refine AC.seq ?_
        refine AC.region ?_
        refine AL.val (Wanted.plain rfl) (g_loadBs rfl rfl rfl Try.underlying41 rfl sz41 rfl rfl) rfl rfl ?_
        refine AL.fast 1 rfl ?_
        refine AL.val (Wanted.plain rfl) (g_loadBs rfl rfl rfl Try.underlying44 rfl sz44 rfl rfl) rfl rfl ?_
        refine AL.call (n' := 4) (h' := [(3, (.arr 44 2 ((r11).map rUse))), (2, (.arr 44 2 ((r11).map rUse))), (1, (.box 44 [(cI x.time), (cI x.sum)])), (0, (.box 41 [(cI p.ticks), (cI p.count), (cI p.sum)]))]) (Wanted.plain rfl) (g_call 3 (c_ref_AddUse p l x  r11 e11 hr11) en46 rfl rfl ⟨⟨_, rfl, .g ⟨.d _, .d _, .d _,  trivial⟩⟩, ⟨_, rfl, .c (.d _)⟩, ⟨_, rfl, .g ⟨.d _, .d _,  trivial⟩⟩,  trivial⟩ ⟨trivial, trivial,  trivial⟩ ⟨(fun _ _ _ _ => trivial),  trivial⟩ rfl rfl rfl rfl) rfl rfl rfl rfl rfl ?_
        refine AL.fast 1 rfl ?_
        refine AL.val (Wanted.plain rfl) (g_extract rfl rfl rfl) rfl rfl ?_
        refine AL.val (Wanted.plain rfl) (g_extract rfl rfl rfl) rfl rfl ?_
        refine AL.fast 2 rfl ?_
        refine AL.nil ?_
        refine then_ok ?_
        obtain ⟨r12, hr12⟩ : ∃ (r12 : Bool), sameList r11 r11 = r12 := ⟨_, rfl⟩
        refine AC.cutB 6 (true && r12) ?_ ?_
        ·
          refine AC.region ?_
          refine AL.fast 2 rfl ?_
          refine AL.val (Wanted.plain rfl) (g_binI rfl rfl rfl (congrArg (fun b => some (Value.bool b)) (decide_eq_true rfl))) rfl rfl ?_
          refine AL.fast 3 rfl ?_
          refine AL.call (n' := 4) (h' := [(3, (.arr 44 2 ((r11).map rUse))), (2, (.arr 44 2 ((r11).map rUse))), (1, (.box 44 [(cI x.time), (cI x.sum)])), (0, (.box 41 [(cI p.ticks), (cI p.count), (cI p.sum)]))]) (Wanted.yes rfl rfl rfl) (g_callE 4 [2, 3] (c_SameUses r11 r11  r12 hr12) en42 rfl rfl ⟨⟨_, rfl, .c (.s rfl (by decide) (by first | omega | (simp; done) | (simp; omega)))⟩, ⟨_, rfl, .c (.s rfl (by decide) (by first | omega | (simp; done) | (simp; omega)))⟩,  trivial⟩ rfl trivial rfl rfl rfl rfl) rfl rfl rfl rfl rfl ?_
          refine AL.fast 2 rfl ?_
          refine AL.nil ?_
          refine then_ok ?_
          exact Weak.popB 9 rfl rfl (by first | (simp []; done) | (simp_all; done) | (exfalso; simp_all; done) | (simp_all; omega)) rfl
        ·
          refine AC.ret ?_
          refine retQ_mk (av' := outOf [(.c (cB (true && r12)))]) (nb' := []) (retQ_ret ⟨[(6, (aB (true && r12)))], [], 0⟩ [.tmp 6] [(.c (cB (true && r12)))] (Weak.ren id (⟨by first | rfl | (simp only [AV.map, GV.map, CV.map, AB.map', id]; done) | (congr 3; omega) | (congr 4; omega) | (simp only [List.length_append, List.length_cons, List.length_nil, List.length_set]; rfl),  trivial⟩) (trivial) rfl) rfl ⟨.tmp rfl, trivial⟩ trivial) ?_ ?_
          · exact congrArg aB (show (true && r12) = true by (simp_all [sameList_self]))
          · rfl
end Go.Proofs.Ytgmcdlfmifijlaa.Dev
