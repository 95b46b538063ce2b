/- stand.Give. -/
import Derived.Test.YtgmcdlfmifijlaaDStand4
set_option linter.unusedVariables false
set_option linter.unusedSimpArgs false
namespace Go.Proofs.Ytgmcdlfmifijlaa.Dev
open Go.RowKit

set_option maxRecDepth 100000 in
set_option maxHeartbeats 1000000 in
theorem c_stand_Give (s : Stand) (a : Advice) (x : Stand) (e : Int) (hr : giveStand s a = (x, e)) : Fn Try.prog 32 [(.g [(cI s.cap), (cR 1 ((s.used).map rI)), (cR 4 ((s.advices).map rAdvice))]), (.g [(cI a.card), (cI a.shop), (cI a.sum), (cI a.time)])] (.t [(.g [(cI x.cap), (.s 0 0 1 x.used.length), (.s 1 0 4 x.advices.length)]), (.c (cI e))]) [(0, (.arr 3 1 ((x.used).map rI))), (1, (.arr 32 4 ((x.advices).map rAdvice)))] := by
  refine Fn.mk' 74 [(0, (aG [(cI s.cap), (cR 1 ((s.used).map rI)), (cR 4 ((s.advices).map rAdvice))])), (1, (aG [(cI a.card), (cI a.shop), (cI a.sum), (cI a.time)]))] Try.func32 rfl rfl rfl rfl ?_
  intro W0 T0
  refine AC.lenG 0 1 rfl rfl (fun hlen0_1 => ?_)
  refine AC.lenG 0 2 rfl rfl (fun hlen0_2 => ?_)
  have hub := @used_bound s
  have hrp := @right_parts s
  refine AC.seq ?_
  refine AC.region ?_
  refine AL.new (n' := 1) (Wanted.plain rfl) (g_boxS 0 rfl rfl) rfl rfl rfl ?_
  refine AL.new (n' := 2) (Wanted.plain rfl) (g_boxS 1 rfl rfl) rfl rfl rfl ?_
  refine AL.new (n' := 3) (Wanted.plain rfl) (g_alloc 2 rfl zv26 rfl rfl rfl) rfl rfl rfl ?_
  refine AL.fast 1 rfl ?_
  refine AL.nil ?_
  refine then_ok ?_
  refine AC.seq ?_
  refine AC.seq ?_
  refine AC.region ?_
  refine AL.val (Wanted.plain rfl) (g_loadBs rfl rfl rfl Try.underlying26 rfl sz26 rfl rfl) rfl rfl ?_
  obtain ⟨e0, hr0⟩ : ∃ (e0 : Int), wrongStand s = e0 := ⟨_, rfl⟩
  refine AL.call (n' := 3) (h' := [(2, (.box 26 [(cI 0), cN, cN])), (1, (.box 32 [(cI a.card), (cI a.shop), (cI a.sum), (cI a.time)])), (0, (.box 26 [(cI s.cap), (cR 1 ((s.used).map rI)), (cR 4 ((s.advices).map rAdvice))]))]) (Wanted.plain rfl) (g_call 3 (c_stand_WrongN s  e0 hr0) en33 rfl rfl ⟨⟨_, rfl, .g ⟨.d _, .d _, .d _,  trivial⟩⟩,  trivial⟩ trivial trivial rfl rfl rfl rfl) rfl rfl rfl rfl rfl ?_
  refine AL.fast 1 rfl ?_
  refine AL.nil ?_
  refine then_ok ?_
  refine AC.seq ?_
  refine AC.region ?_
  refine AL.fast 1 rfl ?_
  refine AL.val (Wanted.plain rfl) (g_binI rfl rfl rfl rfl) rfl rfl ?_
  refine AL.nil ?_
  refine then_ok ?_
  refine AC.cond rfl (fun hc1 => ?_) (fun hc1 => ?_)
  ·
    have hc1' := hc1; try simp only [Bool.not_eq_true', Bool.not_eq_false', Bool.or_eq_true, Bool.or_eq_false_iff, Bool.and_eq_true, Bool.and_eq_false_imp, decide_eq_true_eq, decide_eq_false_iff_not, Bool.not_not, Bool.not_true, Bool.not_false] at hc1'
    refine AC.seq ?_
    refine AC.region ?_
    refine AL.val (Wanted.plain rfl) (g_build (ys := []) rfl bld26 rfl trivial rfl rfl) rfl rfl ?_
    refine AL.fast 1 rfl ?_
    refine AL.sto (h' := [(2, (.box 26 [(cI 0), cN, cN])), (1, (.box 32 [(cI a.card), (cI a.shop), (cI a.sum), (cI a.time)])), (0, (.box 26 [(cI s.cap), (cR 1 ((s.used).map rI)), (cR 4 ((s.advices).map rAdvice))]))]) (Wanted.plain rfl) (g_storeB rfl rfl rfl rfl rfl sz26 rfl (Nat.le_of_ble_eq_true rfl) rfl) rfl rfl rfl rfl ?_
    refine AL.fast 1 rfl ?_
    refine AL.nil ?_
    refine then_ok ?_
    refine AC.ret ?_
    refine then_ret ?_
    refine retQ_weak (Weak.nilB (n' := 4) (h' := [(3, (.arr 3 1 ((([] : List Int)).map rI))), (2, (.box 26 [(cI 0), (.s 3 0 1 0), cN])), (1, (.box 32 [(cI a.card), (cI a.shop), (cI a.sum), (cI a.time)])), (0, (.box 26 [(cI s.cap), (cR 1 ((s.used).map rI)), (cR 4 ((s.advices).map rAdvice))]))]) 2 1 3 1 26 (by decide) rfl rfl rfl rfl rfl) ?_
    refine retQ_weak (Weak.nilB (n' := 5) (h' := [(4, (.arr 32 4 ((([] : List Advice)).map rAdvice))), (3, (.arr 3 1 ((([] : List Int)).map rI))), (2, (.box 26 [(cI 0), (.s 3 0 1 0), (.s 4 0 4 0)])), (1, (.box 32 [(cI a.card), (cI a.shop), (cI a.sum), (cI a.time)])), (0, (.box 26 [(cI s.cap), (cR 1 ((s.used).map rI)), (cR 4 ((s.advices).map rAdvice))]))]) 2 2 32 4 26 (by decide) rfl rfl rfl rfl rfl) ?_
    have hX : giveStand s a = ((⟨0, ([] : List Int), ([] : List Advice)⟩ : Stand), e0) := by
      rw [give_wrong (by omega), hr0]; rfl
    rw [hX] at hr; clear hX
    simp only [Prod.mk.injEq] at hr; obtain ⟨rfl, rfl⟩ := hr
    refine retQ_mk (av' := outOf [(.g [(cI 0), (.s 0 0 1 0), (.s 1 0 4 0)]), (.c (cI e0))]) (nb' := [(0, (.arr 3 1 ((([] : List Int)).map rI))), (1, (.arr 32 4 ((([] : List Advice)).map rAdvice)))]) (retQ_ret ⟨[(4, (aC (.p 2 0 0 0))), (5, (aI e0))], [(1, (.arr 32 4 ((([] : List Advice)).map rAdvice))), (0, (.arr 3 1 ((([] : List Int)).map rI))), (2, (.box 26 [(cI 0), (.s 0 0 1 0), (.s 1 0 4 0)]))], 3⟩ [.cell 4 26, .tmp 5] [(.g [(cI 0), (.s 0 0 1 0), (.s 1 0 4 0)]), (.c (cI e0))] (Weak.ren (fun k => if k = 0 then 3 else if k = 1 then 4 else if k = 2 then 2 else k) (⟨by first | rfl | (simp only [AV.map, GV.map, CV.map, AB.map', id]; done) | (congr 3; omega) | (congr 4; omega), by first | rfl | (simp only [AV.map, GV.map, CV.map, AB.map', id]; done) | (congr 3; omega) | (congr 4; omega),  trivial⟩) (⟨by first | rfl | (simp only [AV.map, GV.map, CV.map, AB.map', id]; done) | (congr 3; omega) | (congr 4; omega), by first | rfl | (simp only [AV.map, GV.map, CV.map, AB.map', id]; done) | (congr 3; omega) | (congr 4; omega), by first | rfl | (simp only [AV.map, GV.map, CV.map, AB.map', id]; done) | (congr 3; omega) | (congr 4; omega),  trivial⟩) rfl) rfl ⟨.agg rfl rfl (fun _ => run_isAgg Try.underlying26) sz26, .tmp rfl, trivial⟩ ⟨by first | rfl | (simp only [AV.map, GV.map, CV.map, AB.map', id]; done) | (congr 3; omega) | (congr 4; omega), by first | rfl | (simp only [AV.map, GV.map, CV.map, AB.map', id]; done) | (congr 3; omega) | (congr 4; omega),  trivial⟩) ?_ ?_
    · first | rfl | (simp [outOf, aC]; done)
    · first | rfl | (simp; done)
  ·
    have hc1' := hc1; try simp only [Bool.not_eq_true', Bool.not_eq_false', Bool.or_eq_true, Bool.or_eq_false_iff, Bool.and_eq_true, Bool.and_eq_false_imp, decide_eq_true_eq, decide_eq_false_iff_not, Bool.not_not, Bool.not_true, Bool.not_false] at hc1'
    refine AC.skip ?_
    refine then_ok ?_
    refine AC.seq ?_
    refine AC.seq ?_
    refine AC.region ?_
    refine AL.val (Wanted.plain rfl) (g_fieldP rfl rfl Try.underlying26 rfl sz22 (by decide)) rfl rfl ?_
    refine AL.val (Wanted.plain rfl) (g_loadB rfl rfl rfl Try.underlying22 rfl rfl) rfl rfl ?_
    refine AL.val (Wanted.plain rfl) (g_lenM rfl rfl rfl rfl rfl Try.underlying22) rfl rfl ?_
    refine AL.val (Wanted.plain rfl) (g_binI rfl rfl rfl rfl) rfl rfl ?_
    refine AL.nil ?_
    refine then_ok ?_
    refine AC.cond rfl (fun hc2 => ?_) (fun hc2 => ?_)
    ·
      have hc2' := hc2; try simp only [Bool.not_eq_true', Bool.not_eq_false', Bool.or_eq_true, Bool.or_eq_false_iff, Bool.and_eq_true, Bool.and_eq_false_imp, decide_eq_true_eq, decide_eq_false_iff_not, Bool.not_not, Bool.not_true, Bool.not_false] at hc2'
      refine AC.seq ?_
      refine AC.region ?_
      refine AL.val (Wanted.plain rfl) (g_build (ys := []) rfl bld26 rfl trivial rfl rfl) rfl rfl ?_
      refine AL.sto (h' := [(2, (.box 26 [(cI 0), cN, cN])), (1, (.box 32 [(cI a.card), (cI a.shop), (cI a.sum), (cI a.time)])), (0, (.box 26 [(cI s.cap), (cR 1 ((s.used).map rI)), (cR 4 ((s.advices).map rAdvice))]))]) (Wanted.plain rfl) (g_storeB rfl rfl rfl rfl rfl sz26 rfl (Nat.le_of_ble_eq_true rfl) rfl) rfl rfl rfl rfl ?_
      refine AL.fast 1 rfl ?_
      refine AL.nil ?_
      refine then_ok ?_
      refine AC.ret ?_
      refine then_ret ?_
      refine retQ_weak (Weak.nilB (n' := 4) (h' := [(3, (.arr 3 1 ((([] : List Int)).map rI))), (2, (.box 26 [(cI 0), (.s 3 0 1 0), cN])), (1, (.box 32 [(cI a.card), (cI a.shop), (cI a.sum), (cI a.time)])), (0, (.box 26 [(cI s.cap), (cR 1 ((s.used).map rI)), (cR 4 ((s.advices).map rAdvice))]))]) 2 1 3 1 26 (by decide) rfl rfl rfl rfl rfl) ?_
      refine retQ_weak (Weak.nilB (n' := 5) (h' := [(4, (.arr 32 4 ((([] : List Advice)).map rAdvice))), (3, (.arr 3 1 ((([] : List Int)).map rI))), (2, (.box 26 [(cI 0), (.s 3 0 1 0), (.s 4 0 4 0)])), (1, (.box 32 [(cI a.card), (cI a.shop), (cI a.sum), (cI a.time)])), (0, (.box 26 [(cI s.cap), (cR 1 ((s.used).map rI)), (cR 4 ((s.advices).map rAdvice))]))]) 2 2 32 4 26 (by decide) rfl rfl rfl rfl rfl) ?_
      have hX : giveStand s a = ((⟨0, ([] : List Int), ([] : List Advice)⟩ : Stand), 5) := by
        exact give_many (by omega) (by omega)
      rw [hX] at hr; clear hX
      simp only [Prod.mk.injEq] at hr; obtain ⟨rfl, rfl⟩ := hr
      refine retQ_mk (av' := outOf [(.g [(cI 0), (.s 0 0 1 0), (.s 1 0 4 0)]), (.c (cI 5))]) (nb' := [(0, (.arr 3 1 ((([] : List Int)).map rI))), (1, (.arr 32 4 ((([] : List Advice)).map rAdvice)))]) (retQ_ret ⟨[(4, (aC (.p 2 0 0 0))), (5, (aI 5))], [(1, (.arr 32 4 ((([] : List Advice)).map rAdvice))), (0, (.arr 3 1 ((([] : List Int)).map rI))), (2, (.box 26 [(cI 0), (.s 0 0 1 0), (.s 1 0 4 0)]))], 3⟩ [.cell 4 26, .tmp 5] [(.g [(cI 0), (.s 0 0 1 0), (.s 1 0 4 0)]), (.c (cI 5))] (Weak.ren (fun k => if k = 0 then 3 else if k = 1 then 4 else if k = 2 then 2 else k) (⟨by first | rfl | (simp only [AV.map, GV.map, CV.map, AB.map', id]; done) | (congr 3; omega) | (congr 4; omega), by first | rfl | (simp only [AV.map, GV.map, CV.map, AB.map', id]; done) | (congr 3; omega) | (congr 4; omega),  trivial⟩) (⟨by first | rfl | (simp only [AV.map, GV.map, CV.map, AB.map', id]; done) | (congr 3; omega) | (congr 4; omega), by first | rfl | (simp only [AV.map, GV.map, CV.map, AB.map', id]; done) | (congr 3; omega) | (congr 4; omega), by first | rfl | (simp only [AV.map, GV.map, CV.map, AB.map', id]; done) | (congr 3; omega) | (congr 4; omega),  trivial⟩) rfl) rfl ⟨.agg rfl rfl (fun _ => run_isAgg Try.underlying26) sz26, .tmp rfl, trivial⟩ ⟨by first | rfl | (simp only [AV.map, GV.map, CV.map, AB.map', id]; done) | (congr 3; omega) | (congr 4; omega), by first | rfl | (simp only [AV.map, GV.map, CV.map, AB.map', id]; done) | (congr 3; omega) | (congr 4; omega),  trivial⟩) ?_ ?_
      · first | rfl | (simp [outOf, aC]; done)
      · first | rfl | (simp; done)
    ·
      have hc2' := hc2; try simp only [Bool.not_eq_true', Bool.not_eq_false', Bool.or_eq_true, Bool.or_eq_false_iff, Bool.and_eq_true, Bool.and_eq_false_imp, decide_eq_true_eq, decide_eq_false_iff_not, Bool.not_not, Bool.not_true, Bool.not_false] at hc2'
      refine AC.skip ?_
      refine then_ok ?_
      refine AC.seq ?_
      refine AC.weak (st' := ⟨[(2, (aC (.p 0 0 0 0))), (3, (aC (.p 1 0 0 0))), (4, (aC (.p 2 0 0 0))), (5, (aI 0))], [(2, (.box 26 [(cI 0), cN, cN])), (1, (.box 32 [(cI a.card), (cI a.shop), (cI a.sum), (cI a.time)])), (0, (.box 26 [(cI s.cap), (cR 1 ((s.used).map rI)), (cR 4 ((s.advices).map rAdvice))]))], 3⟩) (Weak.ren id (⟨by first | rfl | (simp only [AV.map, GV.map, CV.map, AB.map', id]; done) | (congr 3; omega) | (congr 4; omega), by first | rfl | (simp only [AV.map, GV.map, CV.map, AB.map', id]; done) | (congr 3; omega) | (congr 4; omega), by first | rfl | (simp only [AV.map, GV.map, CV.map, AB.map', id]; done) | (congr 3; omega) | (congr 4; omega), by first | rfl | (simp only [AV.map, GV.map, CV.map, AB.map', id]; done) | (congr 3; omega) | (congr 4; omega),  trivial⟩) (⟨by first | rfl | (simp only [AV.map, GV.map, CV.map, AB.map', id]; done) | (congr 3; omega) | (congr 4; omega), by first | rfl | (simp only [AV.map, GV.map, CV.map, AB.map', id]; done) | (congr 3; omega) | (congr 4; omega), by first | rfl | (simp only [AV.map, GV.map, CV.map, AB.map', id]; done) | (congr 3; omega) | (congr 4; omega),  trivial⟩) rfl) ?_
      refine AC.draw [⟨some 20, (aC (.p 0 0 0 0)), [], [], [], [(2, (aC (.p 0 0 0 0)))], [(0, (.box 26 [(cI s.cap), (cR 1 ((s.used).map rI)), (cR 4 ((s.advices).map rAdvice))]))]⟩,
      ⟨some 21, (aI s.cap), [], [], [0], [(20, (aC (.p 0 0 0 0)))], [(0, (.box 26 [(cI s.cap), (cR 1 ((s.used).map rI)), (cR 4 ((s.advices).map rAdvice))]))]⟩,
      ⟨some 22, (aC (.p 0 0 0 1)), [], [], [], [(2, (aC (.p 0 0 0 0)))], [(0, (.box 26 [(cI s.cap), (cR 1 ((s.used).map rI)), (cR 4 ((s.advices).map rAdvice))]))]⟩,
      ⟨some 23, (aC (cR 1 ((s.used).map rI))), [], [], [2], [(22, (aC (.p 0 0 0 1)))], [(0, (.box 26 [(cI s.cap), (cR 1 ((s.used).map rI)), (cR 4 ((s.advices).map rAdvice))]))]⟩,
      ⟨some 24, (aC (.s 3 0 1 s.used.length)), [(3, (.arr 3 1 ((s.used).map rI)))], [], [3], [(23, (aC (cR 1 ((s.used).map rI))))], []⟩,
      ⟨some 25, (aC (.p 0 0 0 2)), [], [], [], [(2, (aC (.p 0 0 0 0)))], [(0, (.box 26 [(cI s.cap), (cR 1 ((s.used).map rI)), (cR 4 ((s.advices).map rAdvice))]))]⟩,
      ⟨some 26, (aC (cR 4 ((s.advices).map rAdvice))), [], [], [5], [(25, (aC (.p 0 0 0 2)))], [(0, (.box 26 [(cI s.cap), (cR 1 ((s.used).map rI)), (cR 4 ((s.advices).map rAdvice))]))]⟩,
      ⟨some 27, (aC (.s 4 0 4 s.advices.length)), [(4, (.arr 32 4 ((s.advices).map rAdvice)))], [], [6], [(26, (aC (cR 4 ((s.advices).map rAdvice))))], []⟩,
      ⟨some 28, (aG [(cI a.card), (cI a.shop), (cI a.sum), (cI a.time)]), [], [], [], [(3, (aC (.p 1 0 0 0)))], [(1, (.box 32 [(cI a.card), (cI a.shop), (cI a.sum), (cI a.time)]))]⟩,
      ⟨some 29, (aC (.s 5 0 4 1)), [(5, (.arr 32 4 (([a]).map rAdvice)))], [], [8], [(28, (aG [(cI a.card), (cI a.shop), (cI a.sum), (cI a.time)]))], []⟩,
      ⟨some 30, (aC (.s 6 0 4 (s.advices.length + 1))), [(6, (.arr 32 4 ((s.advices ++ ([a])).map rAdvice)))], [4], [7, 9], [(27, (aC (.s 4 0 4 s.advices.length))), (29, (aC (.s 5 0 4 1)))], [(5, (.arr 32 4 (([a]).map rAdvice))), (4, (.arr 32 4 ((s.advices).map rAdvice)))]⟩,
      ⟨some 31, (aG [(cI s.cap), (.s 3 0 1 s.used.length), (.s 6 0 4 (s.advices.length + 1))]), [], [], [1, 4, 10], [(21, (aI s.cap)), (24, (aC (.s 3 0 1 s.used.length))), (30, (aC (.s 6 0 4 (s.advices.length + 1))))], [(6, (.arr 32 4 ((s.advices ++ ([a])).map rAdvice))), (3, (.arr 3 1 ((s.used).map rI)))]⟩,
      ⟨some 7, (aC (.p 7 0 0 0)), [(7, (.box 26 [(cI 0), cN, cN]))], [], [], [], []⟩] ⟨[(2, (aC (.p 0 0 0 0))), (3, (aC (.p 1 0 0 0))), (4, (aC (.p 2 0 0 0))), (5, (aI 0)), (31, (aG [(cI s.cap), (.s 3 0 1 s.used.length), (.s 6 0 4 (s.advices.length + 1))])), (7, (aC (.p 7 0 0 0)))], [(7, (.box 26 [(cI 0), cN, cN])), (6, (.arr 32 4 ((s.advices ++ ([a])).map rAdvice))), (3, (.arr 3 1 ((s.used).map rI))), (2, (.box 26 [(cI 0), cN, cN])), (1, (.box 32 [(cI a.card), (cI a.shop), (cI a.sum), (cI a.time)])), (0, (.box 26 [(cI s.cap), (cR 1 ((s.used).map rI)), (cR 4 ((s.advices).map rAdvice))]))], 8⟩ mixed (by kernel_rfl) ?_ ?_ ?_ ?_
      · exact ⟨.inl ⟨(Wanted.plain rfl), GOp.cast (g_fieldP rfl rfl Try.underlying26 rfl sz3 (by decide)) rfl⟩,
      .inl ⟨(Wanted.plain rfl), GOp.cast (g_loadB rfl rfl rfl Try.underlying3 rfl rfl) rfl⟩,
      .inl ⟨(Wanted.plain rfl), GOp.cast (g_fieldP rfl rfl Try.underlying26 rfl sz24 (by decide)) rfl⟩,
      .inl ⟨(Wanted.plain rfl), GOp.cast (g_loadB rfl rfl rfl Try.underlying24 rfl rfl) rfl⟩,
      .inl ⟨(Wanted.plain rfl), GOp.cast (g_call 3 (c_Clone_int s.used (by first | omega | (simp; done) | (simp; omega)) ) en101 rfl rfl ⟨⟨_, rfl, .c (.d _)⟩,  trivial⟩ trivial ⟨(fun _ _ _ _ => trivial),  trivial⟩ rfl rfl rfl rfl) rfl⟩,
      .inl ⟨(Wanted.plain rfl), GOp.cast (g_fieldP rfl rfl Try.underlying26 rfl sz22 (by decide)) rfl⟩,
      .inl ⟨(Wanted.plain rfl), GOp.cast (g_loadB rfl rfl rfl Try.underlying22 rfl rfl) rfl⟩,
      .inl ⟨(Wanted.plain rfl), GOp.cast (g_call 4 (c_Clone_Advice s.advices (by first | omega | (simp; done) | (simp; omega)) ) en102 rfl rfl ⟨⟨_, rfl, .c (.d _)⟩,  trivial⟩ trivial ⟨(fun _ _ _ _ => trivial),  trivial⟩ rfl rfl rfl rfl) rfl⟩,
      .inl ⟨(Wanted.plain rfl), GOp.cast (g_loadBs rfl rfl rfl Try.underlying32 rfl sz32 rfl rfl) rfl⟩,
      .inl ⟨(Wanted.plain rfl), GOp.cast (g_lit (ys := [(0, (.g [(cI a.card), (cI a.shop), (cI a.sum), (cI a.time)]))]) (rows := ([a]).map rAdvice) 5 sl22 rfl (by decide) ⟨⟨rfl, rfl⟩,  trivial⟩ rfl rfl rfl rfl) rfl⟩,
      .inl ⟨(Wanted.plain rfl), GOp.cast (g_append (m := 1) (N := s.advices.length + 1) (k2 := 6) (ys := ([a]).map rAdvice) sl22 rfl rfl rfl rfl rfl rfl (by first | omega | (simp; done) | (simp; omega)) rfl (.s rfl (by first | omega | (simp; done) | (simp; omega))) (by first | omega | (simp; done) | (simp; omega)) (by first | omega | (simp; done) | (simp; omega)) appmap (by decide) (by first | omega | (simp; done) | (simp; omega)) (by first | omega | (simp; done) | (simp; omega))) rfl⟩,
      .inl ⟨(Wanted.plain rfl), GOp.cast (g_build (ys := [(0, (.c (cI s.cap))), (1, (.c (.s 3 0 1 s.used.length))), (2, (.c (.s 6 0 4 (s.advices.length + 1))))]) rfl bld26 rfl ⟨⟨rfl, rfl⟩, ⟨rfl, rfl⟩, ⟨rfl, rfl⟩,  trivial⟩ rfl rfl) rfl⟩,
      .inl ⟨(Wanted.plain rfl), GOp.cast (g_alloc 7 rfl zv26 rfl rfl rfl) rfl⟩,
       trivial⟩
      · exact ⟨⟨⟨.inl rfl,  trivial⟩, ⟨.inl rfl,  trivial⟩⟩, ⟨⟨.inr ⟨0, .head _, _, rfl, rfl, rfl⟩,  trivial⟩, ⟨.inl rfl,  trivial⟩⟩, ⟨⟨.inl rfl,  trivial⟩, ⟨.inl rfl,  trivial⟩⟩, ⟨⟨.inr ⟨2, .head _, _, rfl, rfl, rfl⟩,  trivial⟩, ⟨.inl rfl,  trivial⟩⟩, ⟨⟨.inr ⟨3, .head _, _, rfl, rfl, rfl⟩,  trivial⟩, trivial⟩, ⟨⟨.inl rfl,  trivial⟩, ⟨.inl rfl,  trivial⟩⟩, ⟨⟨.inr ⟨5, .head _, _, rfl, rfl, rfl⟩,  trivial⟩, ⟨.inl rfl,  trivial⟩⟩, ⟨⟨.inr ⟨6, .head _, _, rfl, rfl, rfl⟩,  trivial⟩, trivial⟩, ⟨⟨.inl rfl,  trivial⟩, ⟨.inl rfl,  trivial⟩⟩, ⟨⟨.inr ⟨8, .head _, _, rfl, rfl, rfl⟩,  trivial⟩, trivial⟩, ⟨⟨.inr ⟨7, .head _, _, rfl, rfl, rfl⟩, .inr ⟨9, .tail _ (.head _), _, rfl, rfl, rfl⟩,  trivial⟩, ⟨.inr ⟨9, .tail _ (.head _), _, rfl, .head _⟩, .inr ⟨7, .head _, _, rfl, .head _⟩,  trivial⟩⟩, ⟨⟨.inr ⟨1, .head _, _, rfl, rfl, rfl⟩, .inr ⟨4, .tail _ (.head _), _, rfl, rfl, rfl⟩, .inr ⟨10, .tail _ (.tail _ (.head _)), _, rfl, rfl, rfl⟩,  trivial⟩, ⟨.inr ⟨10, .tail _ (.tail _ (.head _)), _, rfl, .head _⟩, .inr ⟨4, .tail _ (.head _), _, rfl, .head _⟩,  trivial⟩⟩, ⟨trivial, trivial⟩,  trivial⟩
      · exact ⟨⟨.inl rfl, .inl rfl, .inl rfl, .inl rfl, .inr ⟨11, _, rfl, rfl, rfl⟩, .inr ⟨12, _, rfl, rfl, rfl⟩,  trivial⟩, ⟨.inr ⟨12, _, rfl, .head _⟩, .inr ⟨10, _, rfl, .head _⟩, .inr ⟨4, _, rfl, .head _⟩, .inl rfl, .inl rfl, .inl rfl,  trivial⟩⟩
      ·
        refine AL.sto (h' := [(7, (.box 26 [(cI s.cap), (.s 3 0 1 s.used.length), (.s 6 0 4 (s.advices.length + 1))])), (6, (.arr 32 4 ((s.advices ++ ([a])).map rAdvice))), (3, (.arr 3 1 ((s.used).map rI))), (2, (.box 26 [(cI 0), cN, cN])), (1, (.box 32 [(cI a.card), (cI a.shop), (cI a.sum), (cI a.time)])), (0, (.box 26 [(cI s.cap), (cR 1 ((s.used).map rI)), (cR 4 ((s.advices).map rAdvice))]))]) (Wanted.plain rfl) (g_storeB rfl rfl rfl rfl rfl sz26 rfl (Nat.le_of_ble_eq_true rfl) rfl) rfl rfl rfl rfl ?_
        refine AL.nil ?_
        refine then_ok ?_
        refine AC.seq ?_
        refine AC.cutB 52 ((((decide (a.card ≥ 0)) && (decide (a.card < (↑s.used.length : Int)))) && (decide (a.sum ≥ 1))) && (decide (a.sum ≤ 1000000))) ?_ ?_
        ·
          refine AC.region ?_
          refine AL.val (Wanted.plain rfl) (g_fieldP rfl rfl Try.underlying32 rfl sz3 (by decide)) rfl rfl ?_
          refine AL.val (Wanted.plain rfl) (g_loadB rfl rfl rfl Try.underlying3 rfl rfl) rfl rfl ?_
          refine AL.val (Wanted.plain rfl) (g_binI rfl rfl rfl rfl) rfl rfl ?_
          refine AL.fast 1 rfl ?_
          refine AL.dec (t := 35) rfl (fun hb3 => ?_) (fun hb3 => ?_)
          ·
            have hb3' := hb3; try simp only [Bool.not_eq_true', Bool.not_eq_false', Bool.or_eq_true, Bool.or_eq_false_iff, Bool.and_eq_true, Bool.and_eq_false_imp, decide_eq_true_eq, decide_eq_false_iff_not, Bool.not_not, Bool.not_true, Bool.not_false] at hb3'
            refine AL.val (Wanted.yes rfl rfl rfl) (g_fieldP rfl rfl Try.underlying32 rfl sz3 (by decide)) rfl rfl ?_
            refine AL.val (Wanted.yes rfl rfl rfl) (g_loadB rfl rfl rfl Try.underlying3 rfl rfl) rfl rfl ?_
            refine AL.val (Wanted.yes rfl rfl rfl) (g_fieldP rfl rfl Try.underlying26 rfl sz24 (by decide)) rfl rfl ?_
            refine AL.val (Wanted.yes rfl rfl rfl) (g_loadB rfl rfl rfl Try.underlying24 rfl rfl) rfl rfl ?_
            refine AL.val (Wanted.yes rfl rfl rfl) (g_lenS rfl rfl rfl rfl rfl Try.underlying24) rfl rfl ?_
            refine AL.val (Wanted.yes rfl rfl rfl) (g_binI rfl rfl rfl rfl) rfl rfl ?_
            refine AL.fast 2 rfl ?_
            refine AL.dec (t := 43) rfl (fun hb4 => ?_) (fun hb4 => ?_)
            ·
              have hb4' := hb4; try simp only [Bool.not_eq_true', Bool.not_eq_false', Bool.or_eq_true, Bool.or_eq_false_iff, Bool.and_eq_true, Bool.and_eq_false_imp, decide_eq_true_eq, decide_eq_false_iff_not, Bool.not_not, Bool.not_true, Bool.not_false] at hb4'
              refine AL.val (Wanted.yes rfl rfl rfl) (g_fieldP rfl rfl Try.underlying32 rfl sz3 (by decide)) rfl rfl ?_
              refine AL.val (Wanted.yes rfl rfl rfl) (g_loadB rfl rfl rfl Try.underlying3 rfl rfl) rfl rfl ?_
              refine AL.val (Wanted.yes rfl rfl rfl) (g_binI rfl rfl rfl rfl) rfl rfl ?_
              refine AL.fast 2 rfl ?_
              refine AL.dec (t := 48) rfl (fun hb5 => ?_) (fun hb5 => ?_)
              ·
                have hb5' := hb5; try simp only [Bool.not_eq_true', Bool.not_eq_false', Bool.or_eq_true, Bool.or_eq_false_iff, Bool.and_eq_true, Bool.and_eq_false_imp, decide_eq_true_eq, decide_eq_false_iff_not, Bool.not_not, Bool.not_true, Bool.not_false] at hb5'
                refine AL.val (Wanted.yes rfl rfl rfl) (g_fieldP rfl rfl Try.underlying32 rfl sz3 (by decide)) rfl rfl ?_
                refine AL.val (Wanted.yes rfl rfl rfl) (g_loadB rfl rfl rfl Try.underlying3 rfl rfl) rfl rfl ?_
                refine AL.val (Wanted.yes rfl rfl rfl) (g_binI rfl rfl rfl rfl) rfl rfl ?_
                refine AL.fast 1 rfl ?_
                refine AL.nil ?_
                refine then_ok ?_
                exact Weak.popB 24 rfl rfl (by simp [hb3, hb4, hb5]) rfl
              ·
                have hb5' := hb5; try simp only [Bool.not_eq_true', Bool.not_eq_false', Bool.or_eq_true, Bool.or_eq_false_iff, Bool.and_eq_true, Bool.and_eq_false_imp, decide_eq_true_eq, decide_eq_false_iff_not, Bool.not_not, Bool.not_true, Bool.not_false] at hb5'
                refine AL.fast 4 rfl ?_
                refine AL.nil ?_
                refine then_ok ?_
                exact Weak.popB 24 rfl rfl (by simp [hb3, hb4, hb5]) rfl
            ·
              have hb4' := hb4; try simp only [Bool.not_eq_true', Bool.not_eq_false', Bool.or_eq_true, Bool.or_eq_false_iff, Bool.and_eq_true, Bool.and_eq_false_imp, decide_eq_true_eq, decide_eq_false_iff_not, Bool.not_not, Bool.not_true, Bool.not_false] at hb4'
              refine AL.fast 9 rfl ?_
              refine AL.nil ?_
              refine then_ok ?_
              exact Weak.popB 23 rfl rfl (by simp [hb3, hb4]) rfl
          ·
            have hb3' := hb3; try simp only [Bool.not_eq_true', Bool.not_eq_false', Bool.or_eq_true, Bool.or_eq_false_iff, Bool.and_eq_true, Bool.and_eq_false_imp, decide_eq_true_eq, decide_eq_false_iff_not, Bool.not_not, Bool.not_true, Bool.not_false] at hb3'
            refine AL.fast 17 rfl ?_
            refine AL.nil ?_
            refine then_ok ?_
            exact Weak.popB 22 rfl rfl (by simp [hb3]) rfl
        ·
          refine AC.cond rfl (fun hc6 => ?_) (fun hc6 => ?_)
          ·
            have hc6' := hc6; try simp only [Bool.not_eq_true', Bool.not_eq_false', Bool.or_eq_true, Bool.or_eq_false_iff, Bool.and_eq_true, Bool.and_eq_false_imp, decide_eq_true_eq, decide_eq_false_iff_not, Bool.not_not, Bool.not_true, Bool.not_false] at hc6'
            obtain ⟨x1, hx1⟩ := exget (xs := s.used) (i := Int.toNat (a.card)) (by first | omega | (simp; done) | (simp; omega))
            have hx1b := used_bound (s := s) (by omega) hx1
            refine AC.weak (st' := ⟨[(3, (aC (.p 1 0 0 0))), (4, (aC (.p 2 0 0 0))), (5, (aI 0)), (7, (aC (.p 7 0 0 0)))], [(7, (.box 26 [(cI s.cap), (.s 3 0 1 s.used.length), (.s 6 0 4 (s.advices.length + 1))])), (6, (.arr 32 4 ((s.advices ++ ([a])).map rAdvice))), (3, (.arr 3 1 ((s.used).map rI))), (2, (.box 26 [(cI 0), cN, cN])), (1, (.box 32 [(cI a.card), (cI a.shop), (cI a.sum), (cI a.time)]))], 8⟩) (Weak.ren id (⟨by first | rfl | (simp only [AV.map, GV.map, CV.map, AB.map', id]; done) | (congr 3; omega) | (congr 4; omega), by first | rfl | (simp only [AV.map, GV.map, CV.map, AB.map', id]; done) | (congr 3; omega) | (congr 4; omega), by first | rfl | (simp only [AV.map, GV.map, CV.map, AB.map', id]; done) | (congr 3; omega) | (congr 4; omega), by first | rfl | (simp only [AV.map, GV.map, CV.map, AB.map', id]; done) | (congr 3; omega) | (congr 4; omega),  trivial⟩) (⟨by first | rfl | (simp only [AV.map, GV.map, CV.map, AB.map', id]; done) | (congr 3; omega) | (congr 4; omega), by first | rfl | (simp only [AV.map, GV.map, CV.map, AB.map', id]; done) | (congr 3; omega) | (congr 4; omega), by first | rfl | (simp only [AV.map, GV.map, CV.map, AB.map', id]; done) | (congr 3; omega) | (congr 4; omega), by first | rfl | (simp only [AV.map, GV.map, CV.map, AB.map', id]; done) | (congr 3; omega) | (congr 4; omega), by first | rfl | (simp only [AV.map, GV.map, CV.map, AB.map', id]; done) | (congr 3; omega) | (congr 4; omega),  trivial⟩) rfl) ?_
            refine AC.draw [⟨some 53, (aC (.p 7 0 0 1)), [], [], [], [(7, (aC (.p 7 0 0 0)))], [(7, (.box 26 [(cI s.cap), (.s 3 0 1 s.used.length), (.s 6 0 4 (s.advices.length + 1))]))]⟩,
      ⟨some 54, (aC (.s 3 0 1 s.used.length)), [], [], [0], [(53, (aC (.p 7 0 0 1)))], [(7, (.box 26 [(cI s.cap), (.s 3 0 1 s.used.length), (.s 6 0 4 (s.advices.length + 1))]))]⟩,
      ⟨some 55, (aC (.p 1 0 0 0)), [], [], [], [(3, (aC (.p 1 0 0 0)))], [(1, (.box 32 [(cI a.card), (cI a.shop), (cI a.sum), (cI a.time)]))]⟩,
      ⟨some 56, (aI a.card), [], [], [2], [(55, (aC (.p 1 0 0 0)))], [(1, (.box 32 [(cI a.card), (cI a.shop), (cI a.sum), (cI a.time)]))]⟩,
      ⟨some 57, (aC (.p 3 (Int.toNat (a.card)) 1 0)), [], [], [1, 3], [(54, (aC (.s 3 0 1 s.used.length))), (56, (aI a.card))], [(3, (.arr 3 1 ((s.used).map rI)))]⟩,
      ⟨some 58, (aI x1), [], [], [4], [(57, (aC (.p 3 (Int.toNat (a.card)) 1 0)))], [(3, (.arr 3 1 ((s.used).map rI)))]⟩,
      ⟨some 59, (aC (.p 1 0 0 2)), [], [], [], [(3, (aC (.p 1 0 0 0)))], [(1, (.box 32 [(cI a.card), (cI a.shop), (cI a.sum), (cI a.time)]))]⟩,
      ⟨some 60, (aI a.sum), [], [], [6], [(59, (aC (.p 1 0 0 2)))], [(1, (.box 32 [(cI a.card), (cI a.shop), (cI a.sum), (cI a.time)]))]⟩,
      ⟨some 61, (aI (x1 + a.sum)), [], [], [5, 7], [(58, (aI x1)), (60, (aI a.sum))], []⟩,
      ⟨some 62, (aC (.p 3 (Int.toNat (a.card)) 1 0)), [], [], [1, 3], [(54, (aC (.s 3 0 1 s.used.length))), (56, (aI a.card))], [(3, (.arr 3 1 ((s.used).map rI)))]⟩] ⟨[(3, (aC (.p 1 0 0 0))), (4, (aC (.p 2 0 0 0))), (5, (aI 0)), (7, (aC (.p 7 0 0 0))), (61, (aI (x1 + a.sum))), (62, (aC (.p 3 (Int.toNat (a.card)) 1 0)))], [(7, (.box 26 [(cI s.cap), (.s 3 0 1 s.used.length), (.s 6 0 4 (s.advices.length + 1))])), (6, (.arr 32 4 ((s.advices ++ ([a])).map rAdvice))), (3, (.arr 3 1 ((s.used).map rI))), (2, (.box 26 [(cI 0), cN, cN])), (1, (.box 32 [(cI a.card), (cI a.shop), (cI a.sum), (cI a.time)]))], 8⟩ mixed (by kernel_rfl) ?_ ?_ ?_ ?_
            · exact ⟨.inl ⟨(Wanted.plain rfl), GOp.cast (g_fieldP rfl rfl Try.underlying26 rfl sz24 (by decide)) rfl⟩,
      .inl ⟨(Wanted.plain rfl), GOp.cast (g_loadB rfl rfl rfl Try.underlying24 rfl rfl) rfl⟩,
      .inl ⟨(Wanted.plain rfl), GOp.cast (g_fieldP rfl rfl Try.underlying32 rfl sz3 (by decide)) rfl⟩,
      .inl ⟨(Wanted.plain rfl), GOp.cast (g_loadB rfl rfl rfl Try.underlying3 rfl rfl) rfl⟩,
      .inl ⟨(Wanted.plain rfl), GOp.cast (g_indexP0 (i := Int.toNat (a.card)) rfl rfl rfl Try.underlying24 sz3 (by first | omega | (simp; done) | (simp; omega)) (by first | omega | (simp; done) | (simp; omega))) rfl⟩,
      .inl ⟨(Wanted.plain rfl), GOp.cast (g_loadA rfl rfl rfl Try.underlying3 rfl (getmap hx1) rfl) rfl⟩,
      .inl ⟨(Wanted.plain rfl), GOp.cast (g_fieldP rfl rfl Try.underlying32 rfl sz3 (by decide)) rfl⟩,
      .inl ⟨(Wanted.plain rfl), GOp.cast (g_loadB rfl rfl rfl Try.underlying3 rfl rfl) rfl⟩,
      .inl ⟨(Wanted.plain rfl), GOp.cast (g_binI rfl rfl rfl (wrap_ok (by first | omega | (simp; done) | (simp; omega)))) rfl⟩,
      .inl ⟨(Wanted.plain rfl), GOp.cast (g_indexP0 (i := Int.toNat (a.card)) rfl rfl rfl Try.underlying24 sz3 (by first | omega | (simp; done) | (simp; omega)) (by first | omega | (simp; done) | (simp; omega))) rfl⟩,
       trivial⟩
            · exact ⟨⟨⟨.inl rfl,  trivial⟩, ⟨.inl rfl,  trivial⟩⟩, ⟨⟨.inr ⟨0, .head _, _, rfl, rfl, rfl⟩,  trivial⟩, ⟨.inl rfl,  trivial⟩⟩, ⟨⟨.inl rfl,  trivial⟩, ⟨.inl rfl,  trivial⟩⟩, ⟨⟨.inr ⟨2, .head _, _, rfl, rfl, rfl⟩,  trivial⟩, ⟨.inl rfl,  trivial⟩⟩, ⟨⟨.inr ⟨1, .head _, _, rfl, rfl, rfl⟩, .inr ⟨3, .tail _ (.head _), _, rfl, rfl, rfl⟩,  trivial⟩, ⟨.inl rfl,  trivial⟩⟩, ⟨⟨.inr ⟨4, .head _, _, rfl, rfl, rfl⟩,  trivial⟩, ⟨.inl rfl,  trivial⟩⟩, ⟨⟨.inl rfl,  trivial⟩, ⟨.inl rfl,  trivial⟩⟩, ⟨⟨.inr ⟨6, .head _, _, rfl, rfl, rfl⟩,  trivial⟩, ⟨.inl rfl,  trivial⟩⟩, ⟨⟨.inr ⟨5, .head _, _, rfl, rfl, rfl⟩, .inr ⟨7, .tail _ (.head _), _, rfl, rfl, rfl⟩,  trivial⟩, trivial⟩, ⟨⟨.inr ⟨1, .head _, _, rfl, rfl, rfl⟩, .inr ⟨3, .tail _ (.head _), _, rfl, rfl, rfl⟩,  trivial⟩, ⟨.inl rfl,  trivial⟩⟩,  trivial⟩
            · exact ⟨⟨.inl rfl, .inl rfl, .inl rfl, .inl rfl, .inr ⟨8, _, rfl, rfl, rfl⟩, .inr ⟨9, _, rfl, rfl, rfl⟩,  trivial⟩, ⟨.inl rfl, .inl rfl, .inl rfl, .inl rfl, .inl rfl,  trivial⟩⟩
            ·
              refine AL.sto (h' := [(7, (.box 26 [(cI s.cap), (.s 3 0 1 s.used.length), (.s 6 0 4 (s.advices.length + 1))])), (6, (.arr 32 4 ((s.advices ++ ([a])).map rAdvice))), (3, (.arr 3 1 (((s.used).set (Int.toNat (a.card)) (x1 + a.sum)).map rI))), (2, (.box 26 [(cI 0), cN, cN])), (1, (.box 32 [(cI a.card), (cI a.shop), (cI a.sum), (cI a.time)]))]) (Wanted.plain rfl) (g_storeA (ds := [(dI (x1 + a.sum))]) rfl rfl rfl rfl rfl sz3 rfl (Nat.le_of_ble_eq_true rfl) (getmap hx1) rfl (setmap (x' := x1 + a.sum) rfl)) rfl rfl rfl rfl ?_
              refine AL.nil ?_
              refine then_ok ?_
              refine AC.seq ?_
              refine AC.region ?_
              refine AL.val (Wanted.plain rfl) (g_loadBs rfl rfl rfl Try.underlying26 rfl sz26 rfl rfl) rfl rfl ?_
              obtain ⟨e1, hr1⟩ : ∃ (e1 : Int), wrongStand (⟨s.cap, (s.used).set (Int.toNat (a.card)) (x1 + a.sum), s.advices ++ ([a])⟩ : Stand) = e1 := ⟨_, rfl⟩
              refine AL.call (n' := 8) (h' := [(7, (.box 26 [(cI s.cap), (.s 3 0 1 s.used.length), (.s 6 0 4 (s.advices.length + 1))])), (6, (.arr 32 4 ((s.advices ++ ([a])).map rAdvice))), (3, (.arr 3 1 (((s.used).set (Int.toNat (a.card)) (x1 + a.sum)).map rI))), (2, (.box 26 [(cI 0), cN, cN])), (1, (.box 32 [(cI a.card), (cI a.shop), (cI a.sum), (cI a.time)]))]) (Wanted.plain rfl) (g_callE 8 [3, 6] (c_stand_WrongN (⟨s.cap, (s.used).set (Int.toNat (a.card)) (x1 + a.sum), s.advices ++ ([a])⟩ : Stand)  e1 hr1) en33 rfl rfl ⟨⟨_, rfl, .g ⟨.d _, .s rfl (by decide) (by first | omega | (simp; done) | (simp; omega)), .s rfl (by decide) (by first | omega | (simp; done) | (simp; omega)),  trivial⟩⟩,  trivial⟩ rfl trivial rfl rfl rfl rfl) rfl rfl rfl rfl rfl ?_
              refine AL.fast 1 rfl ?_
              refine AL.nil ?_
              refine then_ok ?_
              refine AC.seq ?_
              refine AC.region ?_
              refine AL.fast 1 rfl ?_
              refine AL.nil ?_
              refine then_ok ?_
              refine AC.block ?_
              refine AC.seq ?_
              refine AC.region ?_
              refine AL.val (Wanted.plain rfl) (g_binI rfl rfl rfl rfl) rfl rfl ?_
              refine AL.fast 1 rfl ?_
              refine AL.nil ?_
              refine then_ok ?_
              refine AC.cond rfl (fun hc7 => ?_) (fun hc7 => ?_)
              ·
                have hc7' := hc7; try simp only [Bool.not_eq_true', Bool.not_eq_false', Bool.or_eq_true, Bool.or_eq_false_iff, Bool.and_eq_true, Bool.and_eq_false_imp, decide_eq_true_eq, decide_eq_false_iff_not, Bool.not_not, Bool.not_true, Bool.not_false] at hc7'
                refine AC.seq ?_
                refine AC.region ?_
                refine AL.val (Wanted.plain rfl) (g_loadBs rfl rfl rfl Try.underlying26 rfl sz26 rfl rfl) rfl rfl ?_
                refine AL.sto (h' := [(7, (.box 26 [(cI s.cap), (.s 3 0 1 s.used.length), (.s 6 0 4 (s.advices.length + 1))])), (6, (.arr 32 4 ((s.advices ++ ([a])).map rAdvice))), (3, (.arr 3 1 (((s.used).set (Int.toNat (a.card)) (x1 + a.sum)).map rI))), (2, (.box 26 [(cI s.cap), (.s 3 0 1 s.used.length), (.s 6 0 4 (s.advices.length + 1))])), (1, (.box 32 [(cI a.card), (cI a.shop), (cI a.sum), (cI a.time)]))]) (Wanted.plain rfl) (g_storeB rfl rfl rfl rfl rfl sz26 rfl (Nat.le_of_ble_eq_true rfl) rfl) rfl rfl rfl rfl ?_
                refine AL.fast 1 rfl ?_
                refine AL.nil ?_
                refine then_ok ?_
                refine AC.ret ?_
                refine block_ret ?_
                have hX : giveStand s a = ((⟨s.cap, (s.used).set (Int.toNat (a.card)) (x1 + a.sum), s.advices ++ ([a])⟩ : Stand), 0) := by
                  have hx : s.used.getD a.card.toNat 0 = x1 := by rw [List.getD_eq_getElem?_getD, hx1]; rfl
                  have hg := give_cases (a := a) (show wrongStand s = 0 by omega) (show s.advices.length < 20 by omega)
                  rw [hx, hr1] at hg
                  rcases hg with ⟨p1, p2⟩ | ⟨p1, p2⟩ | ⟨p1, p2⟩ <;> first | (exfalso; omega) | exact p2 | (subst p1; exact p2)
                rw [hX] at hr; clear hX
                simp only [Prod.mk.injEq] at hr; obtain ⟨rfl, rfl⟩ := hr
                refine retQ_mk (av' := outOf [(.g [(cI s.cap), (.s 0 0 1 s.used.length), (.s 1 0 4 (s.advices.length + 1))]), (.c (cI 0))]) (nb' := [(0, (.arr 3 1 (((s.used).set (Int.toNat (a.card)) (x1 + a.sum)).map rI))), (1, (.arr 32 4 ((s.advices ++ ([a])).map rAdvice)))]) (retQ_ret ⟨[(4, (aC (.p 2 0 0 0))), (5, (aI 0))], [(1, (.arr 32 4 ((s.advices ++ ([a])).map rAdvice))), (0, (.arr 3 1 (((s.used).set (Int.toNat (a.card)) (x1 + a.sum)).map rI))), (2, (.box 26 [(cI s.cap), (.s 0 0 1 s.used.length), (.s 1 0 4 (s.advices.length + 1))]))], 3⟩ [.cell 4 26, .tmp 5] [(.g [(cI s.cap), (.s 0 0 1 s.used.length), (.s 1 0 4 (s.advices.length + 1))]), (.c (cI 0))] (Weak.ren (fun k => if k = 0 then 3 else if k = 1 then 6 else if k = 2 then 2 else k) (⟨by first | rfl | (simp only [AV.map, GV.map, CV.map, AB.map', id]; done) | (congr 3; omega) | (congr 4; omega), by first | rfl | (simp only [AV.map, GV.map, CV.map, AB.map', id]; done) | (congr 3; omega) | (congr 4; omega),  trivial⟩) (⟨by first | rfl | (simp only [AV.map, GV.map, CV.map, AB.map', id]; done) | (congr 3; omega) | (congr 4; omega), by first | rfl | (simp only [AV.map, GV.map, CV.map, AB.map', id]; done) | (congr 3; omega) | (congr 4; omega), by first | rfl | (simp only [AV.map, GV.map, CV.map, AB.map', id]; done) | (congr 3; omega) | (congr 4; omega),  trivial⟩) rfl) rfl ⟨.agg rfl rfl (fun _ => run_isAgg Try.underlying26) sz26, .tmp rfl, trivial⟩ ⟨by first | rfl | (simp only [AV.map, GV.map, CV.map, AB.map', id]; done) | (congr 3; omega) | (congr 4; omega), by first | rfl | (simp only [AV.map, GV.map, CV.map, AB.map', id]; done) | (congr 3; omega) | (congr 4; omega),  trivial⟩) ?_ ?_
                · first | rfl | (simp [outOf, aC]; done)
                · first | rfl | (simp; done)
              ·
                have hc7' := hc7; try simp only [Bool.not_eq_true', Bool.not_eq_false', Bool.or_eq_true, Bool.or_eq_false_iff, Bool.and_eq_true, Bool.and_eq_false_imp, decide_eq_true_eq, decide_eq_false_iff_not, Bool.not_not, Bool.not_true, Bool.not_false] at hc7'
                refine AC.seq ?_
                refine AC.region ?_
                refine AL.val (Wanted.plain rfl) (g_binI rfl rfl rfl rfl) rfl rfl ?_
                refine AL.fast 1 rfl ?_
                refine AL.nil ?_
                refine then_ok ?_
                refine AC.cond rfl (fun hc8 => ?_) (fun hc8 => ?_)
                ·
                  have hc8' := hc8; try simp only [Bool.not_eq_true', Bool.not_eq_false', Bool.or_eq_true, Bool.or_eq_false_iff, Bool.and_eq_true, Bool.and_eq_false_imp, decide_eq_true_eq, decide_eq_false_iff_not, Bool.not_not, Bool.not_true, Bool.not_false] at hc8'
                  refine AC.seq ?_
                  refine AC.region ?_
                  refine AL.val (Wanted.plain rfl) (g_build (ys := []) rfl bld26 rfl trivial rfl rfl) rfl rfl ?_
                  refine AL.sto (h' := [(7, (.box 26 [(cI s.cap), (.s 3 0 1 s.used.length), (.s 6 0 4 (s.advices.length + 1))])), (6, (.arr 32 4 ((s.advices ++ ([a])).map rAdvice))), (3, (.arr 3 1 (((s.used).set (Int.toNat (a.card)) (x1 + a.sum)).map rI))), (2, (.box 26 [(cI 0), cN, cN])), (1, (.box 32 [(cI a.card), (cI a.shop), (cI a.sum), (cI a.time)]))]) (Wanted.plain rfl) (g_storeB rfl rfl rfl rfl rfl sz26 rfl (Nat.le_of_ble_eq_true rfl) rfl) rfl rfl rfl rfl ?_
                  refine AL.fast 1 rfl ?_
                  refine AL.nil ?_
                  refine then_ok ?_
                  refine AC.ret ?_
                  refine block_ret ?_
                  refine retQ_weak (Weak.nilB (n' := 9) (h' := [(8, (.arr 3 1 ((([] : List Int)).map rI))), (7, (.box 26 [(cI s.cap), (.s 3 0 1 s.used.length), (.s 6 0 4 (s.advices.length + 1))])), (6, (.arr 32 4 ((s.advices ++ ([a])).map rAdvice))), (3, (.arr 3 1 (((s.used).set (Int.toNat (a.card)) (x1 + a.sum)).map rI))), (2, (.box 26 [(cI 0), (.s 8 0 1 0), cN])), (1, (.box 32 [(cI a.card), (cI a.shop), (cI a.sum), (cI a.time)]))]) 2 1 3 1 26 (by decide) rfl rfl rfl rfl rfl) ?_
                  refine retQ_weak (Weak.nilB (n' := 10) (h' := [(9, (.arr 32 4 ((([] : List Advice)).map rAdvice))), (8, (.arr 3 1 ((([] : List Int)).map rI))), (7, (.box 26 [(cI s.cap), (.s 3 0 1 s.used.length), (.s 6 0 4 (s.advices.length + 1))])), (6, (.arr 32 4 ((s.advices ++ ([a])).map rAdvice))), (3, (.arr 3 1 (((s.used).set (Int.toNat (a.card)) (x1 + a.sum)).map rI))), (2, (.box 26 [(cI 0), (.s 8 0 1 0), (.s 9 0 4 0)])), (1, (.box 32 [(cI a.card), (cI a.shop), (cI a.sum), (cI a.time)]))]) 2 2 32 4 26 (by decide) rfl rfl rfl rfl rfl) ?_
                  have hX : giveStand s a = ((⟨0, ([] : List Int), ([] : List Advice)⟩ : Stand), 10) := by
                    have hx : s.used.getD a.card.toNat 0 = x1 := by rw [List.getD_eq_getElem?_getD, hx1]; rfl
                    have hg := give_cases (a := a) (show wrongStand s = 0 by omega) (show s.advices.length < 20 by omega)
                    rw [hx, hr1] at hg
                    rcases hg with ⟨p1, p2⟩ | ⟨p1, p2⟩ | ⟨p1, p2⟩ <;> first | (exfalso; omega) | exact p2 | (subst p1; exact p2)
                  rw [hX] at hr; clear hX
                  simp only [Prod.mk.injEq] at hr; obtain ⟨rfl, rfl⟩ := hr
                  refine retQ_mk (av' := outOf [(.g [(cI 0), (.s 0 0 1 0), (.s 1 0 4 0)]), (.c (cI 10))]) (nb' := [(0, (.arr 3 1 ((([] : List Int)).map rI))), (1, (.arr 32 4 ((([] : List Advice)).map rAdvice)))]) (retQ_ret ⟨[(4, (aC (.p 2 0 0 0))), (5, (aI 10))], [(1, (.arr 32 4 ((([] : List Advice)).map rAdvice))), (0, (.arr 3 1 ((([] : List Int)).map rI))), (2, (.box 26 [(cI 0), (.s 0 0 1 0), (.s 1 0 4 0)]))], 3⟩ [.cell 4 26, .tmp 5] [(.g [(cI 0), (.s 0 0 1 0), (.s 1 0 4 0)]), (.c (cI 10))] (Weak.ren (fun k => if k = 0 then 8 else if k = 1 then 9 else if k = 2 then 2 else k) (⟨by first | rfl | (simp only [AV.map, GV.map, CV.map, AB.map', id]; done) | (congr 3; omega) | (congr 4; omega), by first | rfl | (simp only [AV.map, GV.map, CV.map, AB.map', id]; done) | (congr 3; omega) | (congr 4; omega),  trivial⟩) (⟨by first | rfl | (simp only [AV.map, GV.map, CV.map, AB.map', id]; done) | (congr 3; omega) | (congr 4; omega), by first | rfl | (simp only [AV.map, GV.map, CV.map, AB.map', id]; done) | (congr 3; omega) | (congr 4; omega), by first | rfl | (simp only [AV.map, GV.map, CV.map, AB.map', id]; done) | (congr 3; omega) | (congr 4; omega),  trivial⟩) rfl) rfl ⟨.agg rfl rfl (fun _ => run_isAgg Try.underlying26) sz26, .tmp rfl, trivial⟩ ⟨by first | rfl | (simp only [AV.map, GV.map, CV.map, AB.map', id]; done) | (congr 3; omega) | (congr 4; omega), by first | rfl | (simp only [AV.map, GV.map, CV.map, AB.map', id]; done) | (congr 3; omega) | (congr 4; omega),  trivial⟩) ?_ ?_
                  · first | rfl | (simp [outOf, aC]; done)
                  · first | rfl | (simp; done)
                ·
                  have hc8' := hc8; try simp only [Bool.not_eq_true', Bool.not_eq_false', Bool.or_eq_true, Bool.or_eq_false_iff, Bool.and_eq_true, Bool.and_eq_false_imp, decide_eq_true_eq, decide_eq_false_iff_not, Bool.not_not, Bool.not_true, Bool.not_false] at hc8'
                  refine AC.seq ?_
                  refine AC.region ?_
                  refine AL.val (Wanted.plain rfl) (g_build (ys := []) rfl bld26 rfl trivial rfl rfl) rfl rfl ?_
                  refine AL.fast 1 rfl ?_
                  refine AL.sto (h' := [(7, (.box 26 [(cI s.cap), (.s 3 0 1 s.used.length), (.s 6 0 4 (s.advices.length + 1))])), (6, (.arr 32 4 ((s.advices ++ ([a])).map rAdvice))), (3, (.arr 3 1 (((s.used).set (Int.toNat (a.card)) (x1 + a.sum)).map rI))), (2, (.box 26 [(cI 0), cN, cN])), (1, (.box 32 [(cI a.card), (cI a.shop), (cI a.sum), (cI a.time)]))]) (Wanted.plain rfl) (g_storeB rfl rfl rfl rfl rfl sz26 rfl (Nat.le_of_ble_eq_true rfl) rfl) rfl rfl rfl rfl ?_
                  refine AL.fast 1 rfl ?_
                  refine AL.nil ?_
                  refine then_ok ?_
                  refine AC.ret ?_
                  refine block_ret ?_
                  refine retQ_weak (Weak.nilB (n' := 9) (h' := [(8, (.arr 3 1 ((([] : List Int)).map rI))), (7, (.box 26 [(cI s.cap), (.s 3 0 1 s.used.length), (.s 6 0 4 (s.advices.length + 1))])), (6, (.arr 32 4 ((s.advices ++ ([a])).map rAdvice))), (3, (.arr 3 1 (((s.used).set (Int.toNat (a.card)) (x1 + a.sum)).map rI))), (2, (.box 26 [(cI 0), (.s 8 0 1 0), cN])), (1, (.box 32 [(cI a.card), (cI a.shop), (cI a.sum), (cI a.time)]))]) 2 1 3 1 26 (by decide) rfl rfl rfl rfl rfl) ?_
                  refine retQ_weak (Weak.nilB (n' := 10) (h' := [(9, (.arr 32 4 ((([] : List Advice)).map rAdvice))), (8, (.arr 3 1 ((([] : List Int)).map rI))), (7, (.box 26 [(cI s.cap), (.s 3 0 1 s.used.length), (.s 6 0 4 (s.advices.length + 1))])), (6, (.arr 32 4 ((s.advices ++ ([a])).map rAdvice))), (3, (.arr 3 1 (((s.used).set (Int.toNat (a.card)) (x1 + a.sum)).map rI))), (2, (.box 26 [(cI 0), (.s 8 0 1 0), (.s 9 0 4 0)])), (1, (.box 32 [(cI a.card), (cI a.shop), (cI a.sum), (cI a.time)]))]) 2 2 32 4 26 (by decide) rfl rfl rfl rfl rfl) ?_
                  have hX : giveStand s a = ((⟨0, ([] : List Int), ([] : List Advice)⟩ : Stand), e1) := by
                    have hx : s.used.getD a.card.toNat 0 = x1 := by rw [List.getD_eq_getElem?_getD, hx1]; rfl
                    have hg := give_cases (a := a) (show wrongStand s = 0 by omega) (show s.advices.length < 20 by omega)
                    rw [hx, hr1] at hg
                    rcases hg with ⟨p1, p2⟩ | ⟨p1, p2⟩ | ⟨p1, p2⟩ <;> first | (exfalso; omega) | exact p2 | (subst p1; exact p2)
                  rw [hX] at hr; clear hX
                  simp only [Prod.mk.injEq] at hr; obtain ⟨rfl, rfl⟩ := hr
                  refine retQ_mk (av' := outOf [(.g [(cI 0), (.s 0 0 1 0), (.s 1 0 4 0)]), (.c (cI e1))]) (nb' := [(0, (.arr 3 1 ((([] : List Int)).map rI))), (1, (.arr 32 4 ((([] : List Advice)).map rAdvice)))]) (retQ_ret ⟨[(4, (aC (.p 2 0 0 0))), (5, (aI e1))], [(1, (.arr 32 4 ((([] : List Advice)).map rAdvice))), (0, (.arr 3 1 ((([] : List Int)).map rI))), (2, (.box 26 [(cI 0), (.s 0 0 1 0), (.s 1 0 4 0)]))], 3⟩ [.cell 4 26, .tmp 5] [(.g [(cI 0), (.s 0 0 1 0), (.s 1 0 4 0)]), (.c (cI e1))] (Weak.ren (fun k => if k = 0 then 8 else if k = 1 then 9 else if k = 2 then 2 else k) (⟨by first | rfl | (simp only [AV.map, GV.map, CV.map, AB.map', id]; done) | (congr 3; omega) | (congr 4; omega), by first | rfl | (simp only [AV.map, GV.map, CV.map, AB.map', id]; done) | (congr 3; omega) | (congr 4; omega),  trivial⟩) (⟨by first | rfl | (simp only [AV.map, GV.map, CV.map, AB.map', id]; done) | (congr 3; omega) | (congr 4; omega), by first | rfl | (simp only [AV.map, GV.map, CV.map, AB.map', id]; done) | (congr 3; omega) | (congr 4; omega), by first | rfl | (simp only [AV.map, GV.map, CV.map, AB.map', id]; done) | (congr 3; omega) | (congr 4; omega),  trivial⟩) rfl) rfl ⟨.agg rfl rfl (fun _ => run_isAgg Try.underlying26) sz26, .tmp rfl, trivial⟩ ⟨by first | rfl | (simp only [AV.map, GV.map, CV.map, AB.map', id]; done) | (congr 3; omega) | (congr 4; omega), by first | rfl | (simp only [AV.map, GV.map, CV.map, AB.map', id]; done) | (congr 3; omega) | (congr 4; omega),  trivial⟩) ?_ ?_
                  · first | rfl | (simp [outOf, aC]; done)
                  · first | rfl | (simp; done)
          ·
            have hc6' := hc6; try simp only [Bool.not_eq_true', Bool.not_eq_false', Bool.or_eq_true, Bool.or_eq_false_iff, Bool.and_eq_true, Bool.and_eq_false_imp, decide_eq_true_eq, decide_eq_false_iff_not, Bool.not_not, Bool.not_true, Bool.not_false] at hc6'
            refine AC.skip ?_
            refine then_ok ?_
            refine AC.seq ?_
            refine AC.region ?_
            refine AL.val (Wanted.plain rfl) (g_loadBs rfl rfl rfl Try.underlying26 rfl sz26 rfl rfl) rfl rfl ?_
            obtain ⟨e2, hr2⟩ : ∃ (e2 : Int), wrongStand (⟨s.cap, s.used, s.advices ++ ([a])⟩ : Stand) = e2 := ⟨_, rfl⟩
            refine AL.call (n' := 8) (h' := [(7, (.box 26 [(cI s.cap), (.s 3 0 1 s.used.length), (.s 6 0 4 (s.advices.length + 1))])), (6, (.arr 32 4 ((s.advices ++ ([a])).map rAdvice))), (3, (.arr 3 1 ((s.used).map rI))), (2, (.box 26 [(cI 0), cN, cN])), (1, (.box 32 [(cI a.card), (cI a.shop), (cI a.sum), (cI a.time)])), (0, (.box 26 [(cI s.cap), (cR 1 ((s.used).map rI)), (cR 4 ((s.advices).map rAdvice))]))]) (Wanted.plain rfl) (g_callE 8 [3, 6] (c_stand_WrongN (⟨s.cap, s.used, s.advices ++ ([a])⟩ : Stand)  e2 hr2) en33 rfl rfl ⟨⟨_, rfl, .g ⟨.d _, .s rfl (by decide) (by first | omega | (simp; done) | (simp; omega)), .s rfl (by decide) (by first | omega | (simp; done) | (simp; omega)),  trivial⟩⟩,  trivial⟩ rfl trivial rfl rfl rfl rfl) rfl rfl rfl rfl rfl ?_
            refine AL.fast 1 rfl ?_
            refine AL.nil ?_
            refine then_ok ?_
            refine AC.seq ?_
            refine AC.region ?_
            refine AL.fast 1 rfl ?_
            refine AL.nil ?_
            refine then_ok ?_
            refine AC.block ?_
            refine AC.seq ?_
            refine AC.region ?_
            refine AL.val (Wanted.plain rfl) (g_binI rfl rfl rfl rfl) rfl rfl ?_
            refine AL.fast 1 rfl ?_
            refine AL.nil ?_
            refine then_ok ?_
            refine AC.cond rfl (fun hc9 => ?_) (fun hc9 => ?_)
            ·
              have hc9' := hc9; try simp only [Bool.not_eq_true', Bool.not_eq_false', Bool.or_eq_true, Bool.or_eq_false_iff, Bool.and_eq_true, Bool.and_eq_false_imp, decide_eq_true_eq, decide_eq_false_iff_not, Bool.not_not, Bool.not_true, Bool.not_false] at hc9'
              refine AC.seq ?_
              refine AC.region ?_
              refine AL.val (Wanted.plain rfl) (g_loadBs rfl rfl rfl Try.underlying26 rfl sz26 rfl rfl) rfl rfl ?_
              refine AL.sto (h' := [(7, (.box 26 [(cI s.cap), (.s 3 0 1 s.used.length), (.s 6 0 4 (s.advices.length + 1))])), (6, (.arr 32 4 ((s.advices ++ ([a])).map rAdvice))), (3, (.arr 3 1 ((s.used).map rI))), (2, (.box 26 [(cI s.cap), (.s 3 0 1 s.used.length), (.s 6 0 4 (s.advices.length + 1))])), (1, (.box 32 [(cI a.card), (cI a.shop), (cI a.sum), (cI a.time)])), (0, (.box 26 [(cI s.cap), (cR 1 ((s.used).map rI)), (cR 4 ((s.advices).map rAdvice))]))]) (Wanted.plain rfl) (g_storeB rfl rfl rfl rfl rfl sz26 rfl (Nat.le_of_ble_eq_true rfl) rfl) rfl rfl rfl rfl ?_
              refine AL.fast 1 rfl ?_
              refine AL.nil ?_
              refine then_ok ?_
              refine AC.ret ?_
              refine block_ret ?_
              have hX : giveStand s a = ((⟨s.cap, s.used, s.advices ++ ([a])⟩ : Stand), 0) := by
                have hg := give_off (a := a) (show wrongStand s = 0 by omega) (show s.advices.length < 20 by omega) (by omega)
                rw [hr2] at hg
                obtain ⟨p1, p2⟩ := hg
                first | (exfalso; omega) | (subst p1; exact p2)
              rw [hX] at hr; clear hX
              simp only [Prod.mk.injEq] at hr; obtain ⟨rfl, rfl⟩ := hr
              refine retQ_mk (av' := outOf [(.g [(cI s.cap), (.s 0 0 1 s.used.length), (.s 1 0 4 (s.advices.length + 1))]), (.c (cI 0))]) (nb' := [(0, (.arr 3 1 ((s.used).map rI))), (1, (.arr 32 4 ((s.advices ++ ([a])).map rAdvice)))]) (retQ_ret ⟨[(4, (aC (.p 2 0 0 0))), (5, (aI 0))], [(1, (.arr 32 4 ((s.advices ++ ([a])).map rAdvice))), (0, (.arr 3 1 ((s.used).map rI))), (2, (.box 26 [(cI s.cap), (.s 0 0 1 s.used.length), (.s 1 0 4 (s.advices.length + 1))]))], 3⟩ [.cell 4 26, .tmp 5] [(.g [(cI s.cap), (.s 0 0 1 s.used.length), (.s 1 0 4 (s.advices.length + 1))]), (.c (cI 0))] (Weak.ren (fun k => if k = 0 then 3 else if k = 1 then 6 else if k = 2 then 2 else k) (⟨by first | rfl | (simp only [AV.map, GV.map, CV.map, AB.map', id]; done) | (congr 3; omega) | (congr 4; omega), by first | rfl | (simp only [AV.map, GV.map, CV.map, AB.map', id]; done) | (congr 3; omega) | (congr 4; omega),  trivial⟩) (⟨by first | rfl | (simp only [AV.map, GV.map, CV.map, AB.map', id]; done) | (congr 3; omega) | (congr 4; omega), by first | rfl | (simp only [AV.map, GV.map, CV.map, AB.map', id]; done) | (congr 3; omega) | (congr 4; omega), by first | rfl | (simp only [AV.map, GV.map, CV.map, AB.map', id]; done) | (congr 3; omega) | (congr 4; omega),  trivial⟩) rfl) rfl ⟨.agg rfl rfl (fun _ => run_isAgg Try.underlying26) sz26, .tmp rfl, trivial⟩ ⟨by first | rfl | (simp only [AV.map, GV.map, CV.map, AB.map', id]; done) | (congr 3; omega) | (congr 4; omega), by first | rfl | (simp only [AV.map, GV.map, CV.map, AB.map', id]; done) | (congr 3; omega) | (congr 4; omega),  trivial⟩) ?_ ?_
              · first | rfl | (simp [outOf, aC]; done)
              · first | rfl | (simp; done)
            ·
              have hc9' := hc9; try simp only [Bool.not_eq_true', Bool.not_eq_false', Bool.or_eq_true, Bool.or_eq_false_iff, Bool.and_eq_true, Bool.and_eq_false_imp, decide_eq_true_eq, decide_eq_false_iff_not, Bool.not_not, Bool.not_true, Bool.not_false] at hc9'
              refine AC.seq ?_
              refine AC.region ?_
              refine AL.val (Wanted.plain rfl) (g_binI rfl rfl rfl rfl) rfl rfl ?_
              refine AL.fast 1 rfl ?_
              refine AL.nil ?_
              refine then_ok ?_
              refine AC.cond rfl (fun hc10 => ?_) (fun hc10 => ?_)
              ·
                have hc10' := hc10; try simp only [Bool.not_eq_true', Bool.not_eq_false', Bool.or_eq_true, Bool.or_eq_false_iff, Bool.and_eq_true, Bool.and_eq_false_imp, decide_eq_true_eq, decide_eq_false_iff_not, Bool.not_not, Bool.not_true, Bool.not_false] at hc10'
                refine AC.seq ?_
                refine AC.region ?_
                refine AL.val (Wanted.plain rfl) (g_build (ys := []) rfl bld26 rfl trivial rfl rfl) rfl rfl ?_
                refine AL.sto (h' := [(7, (.box 26 [(cI s.cap), (.s 3 0 1 s.used.length), (.s 6 0 4 (s.advices.length + 1))])), (6, (.arr 32 4 ((s.advices ++ ([a])).map rAdvice))), (3, (.arr 3 1 ((s.used).map rI))), (2, (.box 26 [(cI 0), cN, cN])), (1, (.box 32 [(cI a.card), (cI a.shop), (cI a.sum), (cI a.time)])), (0, (.box 26 [(cI s.cap), (cR 1 ((s.used).map rI)), (cR 4 ((s.advices).map rAdvice))]))]) (Wanted.plain rfl) (g_storeB rfl rfl rfl rfl rfl sz26 rfl (Nat.le_of_ble_eq_true rfl) rfl) rfl rfl rfl rfl ?_
                refine AL.fast 1 rfl ?_
                refine AL.nil ?_
                refine then_ok ?_
                refine AC.ret ?_
                refine block_ret ?_
                refine retQ_weak (Weak.nilB (n' := 9) (h' := [(8, (.arr 3 1 ((([] : List Int)).map rI))), (7, (.box 26 [(cI s.cap), (.s 3 0 1 s.used.length), (.s 6 0 4 (s.advices.length + 1))])), (6, (.arr 32 4 ((s.advices ++ ([a])).map rAdvice))), (3, (.arr 3 1 ((s.used).map rI))), (2, (.box 26 [(cI 0), (.s 8 0 1 0), cN])), (1, (.box 32 [(cI a.card), (cI a.shop), (cI a.sum), (cI a.time)])), (0, (.box 26 [(cI s.cap), (cR 1 ((s.used).map rI)), (cR 4 ((s.advices).map rAdvice))]))]) 2 1 3 1 26 (by decide) rfl rfl rfl rfl rfl) ?_
                refine retQ_weak (Weak.nilB (n' := 10) (h' := [(9, (.arr 32 4 ((([] : List Advice)).map rAdvice))), (8, (.arr 3 1 ((([] : List Int)).map rI))), (7, (.box 26 [(cI s.cap), (.s 3 0 1 s.used.length), (.s 6 0 4 (s.advices.length + 1))])), (6, (.arr 32 4 ((s.advices ++ ([a])).map rAdvice))), (3, (.arr 3 1 ((s.used).map rI))), (2, (.box 26 [(cI 0), (.s 8 0 1 0), (.s 9 0 4 0)])), (1, (.box 32 [(cI a.card), (cI a.shop), (cI a.sum), (cI a.time)])), (0, (.box 26 [(cI s.cap), (cR 1 ((s.used).map rI)), (cR 4 ((s.advices).map rAdvice))]))]) 2 2 32 4 26 (by decide) rfl rfl rfl rfl rfl) ?_
                have hX : giveStand s a = ((⟨0, ([] : List Int), ([] : List Advice)⟩ : Stand), 10) := by
                  have hg := give_off (a := a) (show wrongStand s = 0 by omega) (show s.advices.length < 20 by omega) (by omega)
                  rw [hr2] at hg
                  obtain ⟨p1, p2⟩ := hg
                  first | (exfalso; omega) | (subst p1; exact p2)
                rw [hX] at hr; clear hX
                simp only [Prod.mk.injEq] at hr; obtain ⟨rfl, rfl⟩ := hr
                refine retQ_mk (av' := outOf [(.g [(cI 0), (.s 0 0 1 0), (.s 1 0 4 0)]), (.c (cI 10))]) (nb' := [(0, (.arr 3 1 ((([] : List Int)).map rI))), (1, (.arr 32 4 ((([] : List Advice)).map rAdvice)))]) (retQ_ret ⟨[(4, (aC (.p 2 0 0 0))), (5, (aI 10))], [(1, (.arr 32 4 ((([] : List Advice)).map rAdvice))), (0, (.arr 3 1 ((([] : List Int)).map rI))), (2, (.box 26 [(cI 0), (.s 0 0 1 0), (.s 1 0 4 0)]))], 3⟩ [.cell 4 26, .tmp 5] [(.g [(cI 0), (.s 0 0 1 0), (.s 1 0 4 0)]), (.c (cI 10))] (Weak.ren (fun k => if k = 0 then 8 else if k = 1 then 9 else if k = 2 then 2 else k) (⟨by first | rfl | (simp only [AV.map, GV.map, CV.map, AB.map', id]; done) | (congr 3; omega) | (congr 4; omega), by first | rfl | (simp only [AV.map, GV.map, CV.map, AB.map', id]; done) | (congr 3; omega) | (congr 4; omega),  trivial⟩) (⟨by first | rfl | (simp only [AV.map, GV.map, CV.map, AB.map', id]; done) | (congr 3; omega) | (congr 4; omega), by first | rfl | (simp only [AV.map, GV.map, CV.map, AB.map', id]; done) | (congr 3; omega) | (congr 4; omega), by first | rfl | (simp only [AV.map, GV.map, CV.map, AB.map', id]; done) | (congr 3; omega) | (congr 4; omega),  trivial⟩) rfl) rfl ⟨.agg rfl rfl (fun _ => run_isAgg Try.underlying26) sz26, .tmp rfl, trivial⟩ ⟨by first | rfl | (simp only [AV.map, GV.map, CV.map, AB.map', id]; done) | (congr 3; omega) | (congr 4; omega), by first | rfl | (simp only [AV.map, GV.map, CV.map, AB.map', id]; done) | (congr 3; omega) | (congr 4; omega),  trivial⟩) ?_ ?_
                · first | rfl | (simp [outOf, aC]; done)
                · first | rfl | (simp; done)
              ·
                have hc10' := hc10; try simp only [Bool.not_eq_true', Bool.not_eq_false', Bool.or_eq_true, Bool.or_eq_false_iff, Bool.and_eq_true, Bool.and_eq_false_imp, decide_eq_true_eq, decide_eq_false_iff_not, Bool.not_not, Bool.not_true, Bool.not_false] at hc10'
                refine AC.seq ?_
                refine AC.region ?_
                refine AL.val (Wanted.plain rfl) (g_build (ys := []) rfl bld26 rfl trivial rfl rfl) rfl rfl ?_
                refine AL.fast 1 rfl ?_
                refine AL.sto (h' := [(7, (.box 26 [(cI s.cap), (.s 3 0 1 s.used.length), (.s 6 0 4 (s.advices.length + 1))])), (6, (.arr 32 4 ((s.advices ++ ([a])).map rAdvice))), (3, (.arr 3 1 ((s.used).map rI))), (2, (.box 26 [(cI 0), cN, cN])), (1, (.box 32 [(cI a.card), (cI a.shop), (cI a.sum), (cI a.time)])), (0, (.box 26 [(cI s.cap), (cR 1 ((s.used).map rI)), (cR 4 ((s.advices).map rAdvice))]))]) (Wanted.plain rfl) (g_storeB rfl rfl rfl rfl rfl sz26 rfl (Nat.le_of_ble_eq_true rfl) rfl) rfl rfl rfl rfl ?_
                refine AL.fast 1 rfl ?_
                refine AL.nil ?_
                refine then_ok ?_
                refine AC.ret ?_
                refine block_ret ?_
                refine retQ_weak (Weak.nilB (n' := 9) (h' := [(8, (.arr 3 1 ((([] : List Int)).map rI))), (7, (.box 26 [(cI s.cap), (.s 3 0 1 s.used.length), (.s 6 0 4 (s.advices.length + 1))])), (6, (.arr 32 4 ((s.advices ++ ([a])).map rAdvice))), (3, (.arr 3 1 ((s.used).map rI))), (2, (.box 26 [(cI 0), (.s 8 0 1 0), cN])), (1, (.box 32 [(cI a.card), (cI a.shop), (cI a.sum), (cI a.time)])), (0, (.box 26 [(cI s.cap), (cR 1 ((s.used).map rI)), (cR 4 ((s.advices).map rAdvice))]))]) 2 1 3 1 26 (by decide) rfl rfl rfl rfl rfl) ?_
                refine retQ_weak (Weak.nilB (n' := 10) (h' := [(9, (.arr 32 4 ((([] : List Advice)).map rAdvice))), (8, (.arr 3 1 ((([] : List Int)).map rI))), (7, (.box 26 [(cI s.cap), (.s 3 0 1 s.used.length), (.s 6 0 4 (s.advices.length + 1))])), (6, (.arr 32 4 ((s.advices ++ ([a])).map rAdvice))), (3, (.arr 3 1 ((s.used).map rI))), (2, (.box 26 [(cI 0), (.s 8 0 1 0), (.s 9 0 4 0)])), (1, (.box 32 [(cI a.card), (cI a.shop), (cI a.sum), (cI a.time)])), (0, (.box 26 [(cI s.cap), (cR 1 ((s.used).map rI)), (cR 4 ((s.advices).map rAdvice))]))]) 2 2 32 4 26 (by decide) rfl rfl rfl rfl rfl) ?_
                have hX : giveStand s a = ((⟨0, ([] : List Int), ([] : List Advice)⟩ : Stand), e2) := by
                  have hg := give_off (a := a) (show wrongStand s = 0 by omega) (show s.advices.length < 20 by omega) (by omega)
                  rw [hr2] at hg
                  obtain ⟨p1, p2⟩ := hg
                  first | (exfalso; omega) | (subst p1; exact p2)
                rw [hX] at hr; clear hX
                simp only [Prod.mk.injEq] at hr; obtain ⟨rfl, rfl⟩ := hr
                refine retQ_mk (av' := outOf [(.g [(cI 0), (.s 0 0 1 0), (.s 1 0 4 0)]), (.c (cI e2))]) (nb' := [(0, (.arr 3 1 ((([] : List Int)).map rI))), (1, (.arr 32 4 ((([] : List Advice)).map rAdvice)))]) (retQ_ret ⟨[(4, (aC (.p 2 0 0 0))), (5, (aI e2))], [(1, (.arr 32 4 ((([] : List Advice)).map rAdvice))), (0, (.arr 3 1 ((([] : List Int)).map rI))), (2, (.box 26 [(cI 0), (.s 0 0 1 0), (.s 1 0 4 0)]))], 3⟩ [.cell 4 26, .tmp 5] [(.g [(cI 0), (.s 0 0 1 0), (.s 1 0 4 0)]), (.c (cI e2))] (Weak.ren (fun k => if k = 0 then 8 else if k = 1 then 9 else if k = 2 then 2 else k) (⟨by first | rfl | (simp only [AV.map, GV.map, CV.map, AB.map', id]; done) | (congr 3; omega) | (congr 4; omega), by first | rfl | (simp only [AV.map, GV.map, CV.map, AB.map', id]; done) | (congr 3; omega) | (congr 4; omega),  trivial⟩) (⟨by first | rfl | (simp only [AV.map, GV.map, CV.map, AB.map', id]; done) | (congr 3; omega) | (congr 4; omega), by first | rfl | (simp only [AV.map, GV.map, CV.map, AB.map', id]; done) | (congr 3; omega) | (congr 4; omega), by first | rfl | (simp only [AV.map, GV.map, CV.map, AB.map', id]; done) | (congr 3; omega) | (congr 4; omega),  trivial⟩) rfl) rfl ⟨.agg rfl rfl (fun _ => run_isAgg Try.underlying26) sz26, .tmp rfl, trivial⟩ ⟨by first | rfl | (simp only [AV.map, GV.map, CV.map, AB.map', id]; done) | (congr 3; omega) | (congr 4; omega), by first | rfl | (simp only [AV.map, GV.map, CV.map, AB.map', id]; done) | (congr 3; omega) | (congr 4; omega),  trivial⟩) ?_ ?_
                · first | rfl | (simp [outOf, aC]; done)
                · first | rfl | (simp; done)
end Go.Proofs.Ytgmcdlfmifijlaa.Dev
