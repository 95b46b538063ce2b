/- paylaw3: PaceMore. -/
import Derived.Test.YtgmcdlfmifijlaaDPace7
set_option linter.unusedVariables false
set_option linter.unusedSimpArgs false
namespace Go.Proofs.Ytgmcdlfmifijlaa.Dev
open Go.RowKit

set_option maxRecDepth 100000 in
set_option maxHeartbeats 1000000 in
theorem c_PaceMore (p : Pace) (count sum : Int) (l : List Use) (x : Use) : Fn Try.prog 8 [(.g [(cI p.ticks), (cI p.count), (cI p.sum)]), (.c (cI count)), (.c (cI sum)), (.c (cR 2 ((l).map rUse))), (.g [(cI x.time), (cI x.sum)])] (aB true) [] := by
  refine Fn.mk' 59 [(0, (aG [(cI p.ticks), (cI p.count), (cI p.sum)])), (1, (aI count)), (2, (aI sum)), (3, (aC (cR 2 ((l).map rUse)))), (4, (aG [(cI x.time), (cI x.sum)]))] Try.func8 rfl rfl rfl rfl ?_
  intro W0 T0
  refine AC.len1 3 rfl (fun hlen3 => ?_)
  refine AC.seq ?_
  refine AC.region ?_
  refine AL.new (n' := 1) (Wanted.plain rfl) (g_boxS 0 rfl rfl) rfl rfl rfl ?_
  refine AL.new (n' := 2) (Wanted.plain rfl) (g_boxS 1 rfl rfl) rfl rfl rfl ?_
  refine AL.fast 1 rfl ?_
  refine AL.nil ?_
  refine then_ok ?_
  refine AC.seq ?_
  refine AC.seq ?_
  refine AC.region ?_
  refine AL.call (n' := 2) (h' := [(1, (.box 44 [(cI x.time), (cI x.sum)])), (0, (.box 41 [(cI p.ticks), (cI p.count), (cI p.sum)]))]) (Wanted.plain rfl) (g_call 2 (c_pace_alive   ) en47 rfl rfl trivial trivial trivial rfl rfl rfl rfl) rfl rfl rfl rfl rfl ?_
  refine AL.val (Wanted.plain rfl) (g_notB rfl rfl) rfl rfl ?_
  refine AL.nil ?_
  refine then_ok ?_
  refine AC.cond rfl (fun hno => by cases hno) (fun _ => ?_)
  refine AC.skip ?_
  refine then_ok ?_
  refine AC.seq ?_
  refine AC.region ?_
  refine AL.val (Wanted.plain rfl) (g_loadBs rfl rfl rfl Try.underlying41 rfl sz41 rfl rfl) rfl rfl ?_
  refine AL.new (n' := 3) (Wanted.plain rfl) (g_alloc 2 rfl zv41 rfl rfl rfl) rfl rfl rfl ?_
  refine AL.sto (h' := [(2, (.box 41 [(cI p.ticks), (cI p.count), (cI p.sum)])), (1, (.box 44 [(cI x.time), (cI x.sum)])), (0, (.box 41 [(cI p.ticks), (cI p.count), (cI p.sum)]))]) (Wanted.plain rfl) (g_storeB rfl rfl rfl rfl rfl sz41 rfl (Nat.le_of_ble_eq_true rfl) rfl) rfl rfl rfl rfl ?_
  refine AL.nil ?_
  refine then_ok ?_
  refine AC.seq ?_
  refine AC.weak (st' := ⟨[(1, (aI count)), (2, (aI sum)), (3, (aC (cR 2 ((l).map rUse)))), (5, (aC (.p 0 0 0 0))), (9, (aC (.p 1 0 0 0))), (11, (aC (.p 2 0 0 0)))], [(2, (.box 41 [(cI p.ticks), (cI p.count), (cI p.sum)])), (1, (.box 44 [(cI x.time), (cI x.sum)])), (0, (.box 41 [(cI p.ticks), (cI p.count), (cI p.sum)]))], 3⟩) (Weak.ren id (⟨by first | rfl | (simp only [AV.map, GV.map, CV.map, AB.map', id]; done) | (congr 3; omega) | (congr 4; omega) | (simp only [List.length_append, List.length_cons, List.length_nil, List.length_set]; rfl), by first | rfl | (simp only [AV.map, GV.map, CV.map, AB.map', id]; done) | (congr 3; omega) | (congr 4; omega) | (simp only [List.length_append, List.length_cons, List.length_nil, List.length_set]; rfl), by first | rfl | (simp only [AV.map, GV.map, CV.map, AB.map', id]; done) | (congr 3; omega) | (congr 4; omega) | (simp only [List.length_append, List.length_cons, List.length_nil, List.length_set]; rfl), by first | rfl | (simp only [AV.map, GV.map, CV.map, AB.map', id]; done) | (congr 3; omega) | (congr 4; omega) | (simp only [List.length_append, List.length_cons, List.length_nil, List.length_set]; rfl), by first | rfl | (simp only [AV.map, GV.map, CV.map, AB.map', id]; done) | (congr 3; omega) | (congr 4; omega) | (simp only [List.length_append, List.length_cons, List.length_nil, List.length_set]; rfl), by first | rfl | (simp only [AV.map, GV.map, CV.map, AB.map', id]; done) | (congr 3; omega) | (congr 4; omega) | (simp only [List.length_append, List.length_cons, List.length_nil, List.length_set]; rfl),  trivial⟩) (⟨by first | rfl | (simp only [AV.map, GV.map, CV.map, AB.map', id]; done) | (congr 3; omega) | (congr 4; omega) | (simp only [List.length_append, List.length_cons, List.length_nil, List.length_set]; rfl), by first | rfl | (simp only [AV.map, GV.map, CV.map, AB.map', id]; done) | (congr 3; omega) | (congr 4; omega) | (simp only [List.length_append, List.length_cons, List.length_nil, List.length_set]; rfl), by first | rfl | (simp only [AV.map, GV.map, CV.map, AB.map', id]; done) | (congr 3; omega) | (congr 4; omega) | (simp only [List.length_append, List.length_cons, List.length_nil, List.length_set]; rfl),  trivial⟩) rfl) ?_
  refine AC.drawW [⟨some 19, (aC (.p 0 0 0 1)), [], [], [], [(5, (aC (.p 0 0 0 0)))], []⟩,
      ⟨some 20, (aI p.count), [], [], [0], [(19, (aC (.p 0 0 0 1)))], [(0, (.box 41 [(cI p.ticks), (cI p.count), (cI p.sum)]))]⟩,
      ⟨some 21, (aI count), [], [], [], [(1, (aI count))], []⟩,
      ⟨some 22, (aI (if count > p.count then count else p.count)), [], [], [2, 1], [(20, (aI p.count)), (21, (aI count))], []⟩,
      ⟨some 23, (aC (.p 0 0 0 2)), [], [], [], [(5, (aC (.p 0 0 0 0)))], []⟩,
      ⟨some 24, (aI p.sum), [], [], [4], [(23, (aC (.p 0 0 0 2)))], [(0, (.box 41 [(cI p.ticks), (cI p.count), (cI p.sum)]))]⟩,
      ⟨some 25, (aI sum), [], [], [], [(2, (aI sum))], []⟩,
      ⟨some 26, (aI (if sum > p.sum then sum else p.sum)), [], [], [6, 5], [(24, (aI p.sum)), (25, (aI sum))], []⟩,
      ⟨some 27, (aC (.p 2 0 0 1)), [], [], [], [(11, (aC (.p 2 0 0 0)))], []⟩,
      ⟨none, (.v (.c .any)), [(2, (.box 41 [(cI p.ticks), (cI (if count > p.count then count else p.count)), (cI p.sum)]))], [2], [8, 3], [(27, (aC (.p 2 0 0 1))), (22, (aI (if count > p.count then count else p.count)))], [(2, (.box 41 [(cI p.ticks), (cI p.count), (cI p.sum)]))]⟩,
      ⟨some 28, (aC (.p 2 0 0 2)), [], [], [], [(11, (aC (.p 2 0 0 0)))], []⟩,
      ⟨none, (.v (.c .any)), [(2, (.box 41 [(cI p.ticks), (cI (if count > p.count then count else p.count)), (cI (if sum > p.sum then sum else p.sum))]))], [2], [10, 9, 7], [(28, (aC (.p 2 0 0 2))), (26, (aI (if sum > p.sum then sum else p.sum)))], [(2, (.box 41 [(cI p.ticks), (cI (if count > p.count then count else p.count)), (cI p.sum)]))]⟩] ⟨[(3, (aC (cR 2 ((l).map rUse)))), (5, (aC (.p 0 0 0 0))), (9, (aC (.p 1 0 0 0))), (11, (aC (.p 2 0 0 0)))], [(2, (.box 41 [(cI p.ticks), (cI (if count > p.count then count else p.count)), (cI (if sum > p.sum then sum else p.sum))])), (1, (.box 44 [(cI x.time), (cI x.sum)])), (0, (.box 41 [(cI p.ticks), (cI p.count), (cI p.sum)]))], 3⟩ [11, 10, 9, 8, 7, 6, 5, 4, 3, 2, 1, 0] mixed (by kernel_rfl) ?_ ?_ ?_ ?_
  · exact ⟨.inl ⟨(Wanted.plain rfl), GOp.cast (g_fieldP rfl rfl Try.underlying41 rfl sz3 (by decide)) rfl⟩,
      .inl ⟨(Wanted.plain rfl), GOp.cast (g_loadB rfl rfl rfl Try.underlying3 rfl rfl) rfl⟩,
      .inl ⟨(Wanted.plain rfl), GOp.cast (g_move rfl rfl) rfl⟩,
      .inl ⟨(Wanted.plain rfl), GOp.cast (g_maxI rfl rfl rfl rfl rfl) rfl⟩,
      .inl ⟨(Wanted.plain rfl), GOp.cast (g_fieldP rfl rfl Try.underlying41 rfl sz3 (by decide)) rfl⟩,
      .inl ⟨(Wanted.plain rfl), GOp.cast (g_loadB rfl rfl rfl Try.underlying3 rfl rfl) rfl⟩,
      .inl ⟨(Wanted.plain rfl), GOp.cast (g_move rfl rfl) rfl⟩,
      .inl ⟨(Wanted.plain rfl), GOp.cast (g_maxI rfl rfl rfl rfl rfl) rfl⟩,
      .inl ⟨(Wanted.plain rfl), GOp.cast (g_fieldP rfl rfl Try.underlying41 rfl sz3 (by decide)) rfl⟩,
      .inl ⟨(Wanted.plain rfl), GOp.cast (g_storeB rfl rfl rfl rfl rfl sz3 rfl (Nat.le_of_ble_eq_true rfl) rfl) rfl⟩,
      .inl ⟨(Wanted.plain rfl), GOp.cast (g_fieldP rfl rfl Try.underlying41 rfl sz3 (by decide)) rfl⟩,
      .inl ⟨(Wanted.plain rfl), GOp.cast (g_storeB rfl rfl rfl rfl rfl sz3 rfl (Nat.le_of_ble_eq_true rfl) rfl) rfl⟩,
       trivial⟩
  · exact ⟨⟨⟨rfl,  trivial⟩, trivial⟩, ⟨⟨⟨_, rfl, rfl, rfl⟩,  trivial⟩, ⟨rfl,  trivial⟩⟩, ⟨⟨rfl,  trivial⟩, trivial⟩, ⟨⟨⟨_, rfl, rfl, rfl⟩, ⟨_, rfl, rfl, rfl⟩,  trivial⟩, trivial⟩, ⟨⟨rfl,  trivial⟩, trivial⟩, ⟨⟨⟨_, rfl, rfl, rfl⟩,  trivial⟩, ⟨rfl,  trivial⟩⟩, ⟨⟨rfl,  trivial⟩, trivial⟩, ⟨⟨⟨_, rfl, rfl, rfl⟩, ⟨_, rfl, rfl, rfl⟩,  trivial⟩, trivial⟩, ⟨⟨rfl,  trivial⟩, trivial⟩, ⟨⟨⟨_, rfl, rfl, rfl⟩, ⟨_, rfl, rfl, rfl⟩,  trivial⟩, ⟨rfl,  trivial⟩⟩, ⟨⟨rfl,  trivial⟩, trivial⟩, ⟨⟨⟨_, rfl, rfl, rfl⟩, ⟨_, rfl, rfl, rfl⟩,  trivial⟩, ⟨⟨_, rfl, .head _⟩,  trivial⟩⟩,  trivial⟩
  · exact ⟨⟨rfl, rfl, rfl, rfl,  trivial⟩, ⟨⟨_, rfl, .head _⟩, rfl, rfl,  trivial⟩⟩
  ·
    refine then_ok ?_
    refine AC.seq ?_
    refine AC.region ?_
    refine AL.val (Wanted.plain rfl) (g_loadBs rfl rfl rfl Try.underlying41 rfl sz41 rfl rfl) rfl rfl ?_
    refine AL.fast 1 rfl ?_
    refine AL.val (Wanted.plain rfl) (g_loadBs rfl rfl rfl Try.underlying44 rfl sz44 rfl rfl) rfl rfl ?_
    obtain ⟨r0, e0, hr0⟩ : ∃ (r0 : List Use) (e0 : Int), addUse p l x = (r0, e0) := ⟨_, _, rfl⟩
    refine AL.call (n' := 4) (h' := [(3, (.arr 44 2 ((r0).map rUse))), (2, (.box 41 [(cI p.ticks), (cI (if count > p.count then count else p.count)), (cI (if sum > p.sum then sum else p.sum))])), (1, (.box 44 [(cI x.time), (cI x.sum)])), (0, (.box 41 [(cI p.ticks), (cI p.count), (cI p.sum)]))]) (Wanted.plain rfl) (g_call 3 (c_pace_Add p l x  r0 e0 hr0) en45 rfl rfl ⟨⟨_, rfl, .g ⟨.d _, .d _, .d _,  trivial⟩⟩, ⟨_, rfl, .c (.d _)⟩, ⟨_, rfl, .g ⟨.d _, .d _,  trivial⟩⟩,  trivial⟩ ⟨trivial, trivial,  trivial⟩ ⟨(fun _ _ _ _ => trivial),  trivial⟩ rfl rfl rfl rfl) rfl rfl rfl rfl rfl ?_
    refine AL.fast 1 rfl ?_
    refine AL.val (Wanted.plain rfl) (g_extract rfl rfl rfl) rfl rfl ?_
    refine AL.val (Wanted.plain rfl) (g_extract rfl rfl rfl) rfl rfl ?_
    refine AL.fast 2 rfl ?_
    refine AL.nil ?_
    refine then_ok ?_
    refine AC.seq ?_
    refine AC.region ?_
    refine AL.val (Wanted.plain rfl) (g_loadBs rfl rfl rfl Try.underlying41 rfl sz41 rfl rfl) rfl rfl ?_
    refine AL.fast 1 rfl ?_
    refine AL.val (Wanted.plain rfl) (g_loadBs rfl rfl rfl Try.underlying44 rfl sz44 rfl rfl) rfl rfl ?_
    obtain ⟨r1, e1, hr1⟩ : ∃ (r1 : List Use) (e1 : Int), addUse (⟨p.ticks, (if count > p.count then count else p.count), (if sum > p.sum then sum else p.sum)⟩ : Pace) l x = (r1, e1) := ⟨_, _, rfl⟩
    refine AL.call (n' := 5) (h' := [(4, (.arr 44 2 ((r1).map rUse))), (3, (.arr 44 2 ((r0).map rUse))), (2, (.box 41 [(cI p.ticks), (cI (if count > p.count then count else p.count)), (cI (if sum > p.sum then sum else p.sum))])), (1, (.box 44 [(cI x.time), (cI x.sum)])), (0, (.box 41 [(cI p.ticks), (cI p.count), (cI p.sum)]))]) (Wanted.plain rfl) (g_call 4 (c_pace_Add (⟨p.ticks, (if count > p.count then count else p.count), (if sum > p.sum then sum else p.sum)⟩ : Pace) l x  r1 e1 hr1) en45 rfl rfl ⟨⟨_, rfl, .g ⟨.d _, .d _, .d _,  trivial⟩⟩, ⟨_, rfl, .c (.d _)⟩, ⟨_, rfl, .g ⟨.d _, .d _,  trivial⟩⟩,  trivial⟩ ⟨trivial, trivial,  trivial⟩ ⟨(fun _ _ _ _ => trivial),  trivial⟩ rfl rfl rfl rfl) rfl rfl rfl rfl rfl ?_
    refine AL.fast 1 rfl ?_
    refine AL.val (Wanted.plain rfl) (g_extract rfl rfl rfl) rfl rfl ?_
    refine AL.val (Wanted.plain rfl) (g_extract rfl rfl rfl) rfl rfl ?_
    refine AL.fast 2 rfl ?_
    refine AL.nil ?_
    refine then_ok ?_
    obtain ⟨e2, hr2⟩ : ∃ (e2 : Int), wrongP (⟨p.ticks, (if count > p.count then count else p.count), (if sum > p.sum then sum else p.sum)⟩ : Pace) = e2 := ⟨_, rfl⟩
    obtain ⟨r3, hr3⟩ : ∃ (r3 : Bool), sameList r0 r1 = r3 := ⟨_, rfl⟩
    refine AC.cutB 10 (((decide (¬ e0 = 0)) || (decide (¬ e2 = 0))) || ((decide (e1 = 0)) && r3)) ?_ ?_
    ·
      refine AC.region ?_
      refine AL.fast 1 rfl ?_
      refine AL.val (Wanted.plain rfl) (g_binI rfl rfl rfl rfl) rfl rfl ?_
      refine AL.fast 1 rfl ?_
      refine AL.dec (t := 45) rfl (fun hb2 => ?_) (fun hb2 => ?_)
      ·
        have hb2' := hb2; try simp only [sumB, Bool.not_eq_true', Bool.not_eq_false', Bool.or_eq_true, Bool.or_eq_false_iff, Bool.and_eq_true, Bool.and_eq_false_imp, decide_eq_true_eq, decide_eq_false_iff_not, Bool.not_not, Bool.not_true, Bool.not_false] at hb2'
        refine AL.fast 14 rfl ?_
        refine AL.nil ?_
        refine then_ok ?_
        exact Weak.popB 18 rfl rfl (by first | (simp [hb2]; done) | (simp_all; done) | (exfalso; simp_all; done) | (simp_all; omega)) rfl
      ·
        have hb2' := hb2; try simp only [sumB, Bool.not_eq_true', Bool.not_eq_false', Bool.or_eq_true, Bool.or_eq_false_iff, Bool.and_eq_true, Bool.and_eq_false_imp, decide_eq_true_eq, decide_eq_false_iff_not, Bool.not_not, Bool.not_true, Bool.not_false] at hb2'
        refine AL.val (Wanted.yes rfl rfl rfl) (g_loadBs rfl rfl rfl Try.underlying41 rfl sz41 rfl rfl) rfl rfl ?_
        refine AL.call (n' := 5) (h' := [(4, (.arr 44 2 ((r1).map rUse))), (3, (.arr 44 2 ((r0).map rUse))), (2, (.box 41 [(cI p.ticks), (cI (if count > p.count then count else p.count)), (cI (if sum > p.sum then sum else p.sum))])), (1, (.box 44 [(cI x.time), (cI x.sum)])), (0, (.box 41 [(cI p.ticks), (cI p.count), (cI p.sum)]))]) (Wanted.yes rfl rfl rfl) (g_call 5 (c_pace_WrongN (⟨p.ticks, (if count > p.count then count else p.count), (if sum > p.sum then sum else p.sum)⟩ : Pace)  e2 hr2) en38 rfl rfl ⟨⟨_, rfl, .g ⟨.d _, .d _, .d _,  trivial⟩⟩,  trivial⟩ trivial trivial rfl rfl rfl rfl) rfl rfl rfl rfl rfl ?_
        refine AL.val (Wanted.yes rfl rfl rfl) (g_binI rfl rfl rfl rfl) rfl rfl ?_
        refine AL.fast 2 rfl ?_
        refine AL.dec (t := 50) rfl (fun hb3 => ?_) (fun hb3 => ?_)
        ·
          have hb3' := hb3; try simp only [sumB, Bool.not_eq_true', Bool.not_eq_false', Bool.or_eq_true, Bool.or_eq_false_iff, Bool.and_eq_true, Bool.and_eq_false_imp, decide_eq_true_eq, decide_eq_false_iff_not, Bool.not_not, Bool.not_true, Bool.not_false] at hb3'
          refine AL.fast 9 rfl ?_
          refine AL.nil ?_
          refine then_ok ?_
          exact Weak.popB 19 rfl rfl (by first | (simp [hb2, hb3]; done) | (simp_all; done) | (exfalso; simp_all; done) | (simp_all; omega)) rfl
        ·
          have hb3' := hb3; try simp only [sumB, Bool.not_eq_true', Bool.not_eq_false', Bool.or_eq_true, Bool.or_eq_false_iff, Bool.and_eq_true, Bool.and_eq_false_imp, decide_eq_true_eq, decide_eq_false_iff_not, Bool.not_not, Bool.not_true, Bool.not_false] at hb3'
          refine AL.fast 1 rfl ?_
          refine AL.val (Wanted.yes rfl rfl rfl) (g_binI rfl rfl rfl rfl) rfl rfl ?_
          refine AL.fast 1 rfl ?_
          refine AL.dec (t := 53) rfl (fun hb4 => ?_) (fun hb4 => ?_)
          ·
            have hb4' := hb4; try simp only [sumB, Bool.not_eq_true', Bool.not_eq_false', Bool.or_eq_true, Bool.or_eq_false_iff, Bool.and_eq_true, Bool.and_eq_false_imp, decide_eq_true_eq, decide_eq_false_iff_not, Bool.not_not, Bool.not_true, Bool.not_false] at hb4'
            refine AL.fast 2 rfl ?_
            refine AL.call (n' := 5) (h' := [(4, (.arr 44 2 ((r1).map rUse))), (3, (.arr 44 2 ((r0).map rUse))), (2, (.box 41 [(cI p.ticks), (cI (if count > p.count then count else p.count)), (cI (if sum > p.sum then sum else p.sum))])), (1, (.box 44 [(cI x.time), (cI x.sum)])), (0, (.box 41 [(cI p.ticks), (cI p.count), (cI p.sum)]))]) (Wanted.yes rfl rfl rfl) (g_callE 5 [3, 4] (c_SameUses r0 r1  r3 hr3) en42 rfl rfl ⟨⟨_, rfl, .c (.s rfl (by decide) (by first | omega | (simp; done) | (simp; omega)))⟩, ⟨_, rfl, .c (.s rfl (by decide) (by first | omega | (simp; done) | (simp; omega)))⟩,  trivial⟩ rfl trivial rfl rfl rfl rfl) rfl rfl rfl rfl rfl ?_
            refine AL.fast 3 rfl ?_
            refine AL.nil ?_
            refine then_ok ?_
            exact Weak.popB 20 rfl rfl (by first | (simp [hb2, hb3, hb4]; done) | (simp_all; done) | (exfalso; simp_all; done) | (simp_all; omega)) rfl
          ·
            have hb4' := hb4; try simp only [sumB, Bool.not_eq_true', Bool.not_eq_false', Bool.or_eq_true, Bool.or_eq_false_iff, Bool.and_eq_true, Bool.and_eq_false_imp, decide_eq_true_eq, decide_eq_false_iff_not, Bool.not_not, Bool.not_true, Bool.not_false] at hb4'
            refine AL.fast 6 rfl ?_
            refine AL.nil ?_
            refine then_ok ?_
            exact Weak.popB 20 rfl rfl (by first | (simp [hb2, hb3, hb4]; done) | (simp_all; done) | (exfalso; simp_all; done) | (simp_all; omega)) rfl
    ·
      refine AC.ret ?_
      refine retQ_mk (av' := outOf [(.c (cB (((decide (¬ e0 = 0)) || (decide (¬ e2 = 0))) || ((decide (e1 = 0)) && r3))))]) (nb' := []) (retQ_ret ⟨[(10, (aB (((decide (¬ e0 = 0)) || (decide (¬ e2 = 0))) || ((decide (e1 = 0)) && r3))))], [], 0⟩ [.tmp 10] [(.c (cB (((decide (¬ e0 = 0)) || (decide (¬ e2 = 0))) || ((decide (e1 = 0)) && r3))))] (Weak.ren id (⟨by first | rfl | (simp only [AV.map, GV.map, CV.map, AB.map', id]; done) | (congr 3; omega) | (congr 4; omega) | (simp only [List.length_append, List.length_cons, List.length_nil, List.length_set]; rfl),  trivial⟩) (trivial) rfl) rfl ⟨.tmp rfl, trivial⟩ trivial) ?_ ?_
      · exact congrArg aB (show (((decide (¬ e0 = 0)) || (decide (¬ e2 = 0))) || ((decide (e1 = 0)) && r3)) = true by by_cases h0 : e0 = 0 <;> by_cases h2 : e2 = 0 <;> first | (simp [h0]; done) | (simp [h2]; done) | (subst h0; have ha := add_more hr0 (q := ⟨p.ticks, if count > p.count then count else p.count, if sum > p.sum then sum else p.sum⟩) rfl (by dsimp only; split <;> omega) (by dsimp only; split <;> omega) (hr2.trans h2); rw [hr1] at ha; cases ha; rw [same_self_list] at hr3; subst hr3; simp))
      · rfl
end Go.Proofs.Ytgmcdlfmifijlaa.Dev
