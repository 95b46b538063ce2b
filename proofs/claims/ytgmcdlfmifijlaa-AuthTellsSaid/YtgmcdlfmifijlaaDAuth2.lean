/- auth: Late, left, open. -/
import Derived.Test.YtgmcdlfmifijlaaDAuth1
set_option linter.unusedVariables false
set_option linter.unusedSimpArgs false
namespace Go.Proofs.Ytgmcdlfmifijlaa.Dev
open Go.RowKit

set_option maxRecDepth 100000 in
set_option maxHeartbeats 1000000 in
theorem c_auth_Late (a : Auth) (t : Int) (b : Auth) (hr : lateAuth a t = b) : Fn Try.prog 59 [(.g [(cI a.card), (cI a.shop), (cI a.sum), (cI a.captured), (cI a.refunded), (cI a.disputed), (cI a.till), (cB a.shut)]), (.c (cI t))] (.v (.g [(cI b.card), (cI b.shop), (cI b.sum), (cI b.captured), (cI b.refunded), (cI b.disputed), (cI b.till), (cB b.shut)])) [] := by
  refine Fn.mk' 11 [(0, (aG [(cI a.card), (cI a.shop), (cI a.sum), (cI a.captured), (cI a.refunded), (cI a.disputed), (cI a.till), (cB a.shut)])), (1, (aI t))] Try.func59 rfl rfl rfl rfl ?_
  intro W0 T0
  refine AC.seq ?_
  refine AC.region ?_
  refine AL.new (n' := 1) (Wanted.plain rfl) (g_boxS 0 rfl rfl) rfl rfl rfl ?_
  refine AL.new (n' := 2) (Wanted.plain rfl) (g_alloc 1 rfl zv75 rfl rfl rfl) rfl rfl rfl ?_
  refine AL.nil ?_
  refine then_ok ?_
  refine AC.seq ?_
  refine AC.seq ?_
  refine AC.region ?_
  refine AL.fast 1 rfl ?_
  refine AL.val (Wanted.plain rfl) (g_fieldP rfl rfl Try.underlying75 rfl sz3 (by decide)) rfl rfl ?_
  refine AL.val (Wanted.plain rfl) (g_loadB rfl rfl rfl Try.underlying3 rfl rfl) rfl rfl ?_
  refine AL.val (Wanted.plain rfl) (g_binI rfl rfl rfl rfl) rfl rfl ?_
  refine AL.nil ?_
  refine then_ok ?_
  refine AC.cond rfl (fun hc1 => ?_) (fun hc1 => ?_)
  ·
    have hc1' := hc1; try simp only [sumB, Bool.not_eq_true', Bool.not_eq_false', Bool.or_eq_true, Bool.or_eq_false_iff, Bool.and_eq_true, Bool.and_eq_false_imp, decide_eq_true_eq, decide_eq_false_iff_not, Bool.not_not, Bool.not_true, Bool.not_false] at hc1'
    refine AC.region ?_
    refine AL.val (Wanted.plain rfl) (g_fieldP rfl rfl Try.underlying75 rfl sz4 (by decide)) rfl rfl ?_
    refine AL.sto (h' := [(1, (.box 75 [(cI 0), (cI 0), (cI 0), (cI 0), (cI 0), (cI 0), (cI 0), (cB false)])), (0, (.box 75 [(cI a.card), (cI a.shop), (cI a.sum), (cI a.captured), (cI a.refunded), (cI a.disputed), (cI a.till), (cB true)]))]) (Wanted.plain rfl) (g_storeB rfl rfl rfl rfl rfl sz4 rfl (Nat.le_of_ble_eq_true rfl) rfl) rfl rfl rfl rfl ?_
    refine AL.nil ?_
    refine then_ok ?_
    refine AC.seq ?_
    refine AC.region ?_
    refine AL.val (Wanted.plain rfl) (g_loadBs rfl rfl rfl Try.underlying75 rfl sz75 rfl rfl) rfl rfl ?_
    refine AL.sto (h' := [(1, (.box 75 [(cI a.card), (cI a.shop), (cI a.sum), (cI a.captured), (cI a.refunded), (cI a.disputed), (cI a.till), (cB true)])), (0, (.box 75 [(cI a.card), (cI a.shop), (cI a.sum), (cI a.captured), (cI a.refunded), (cI a.disputed), (cI a.till), (cB true)]))]) (Wanted.plain rfl) (g_storeB rfl rfl rfl rfl rfl sz75 rfl (Nat.le_of_ble_eq_true rfl) rfl) rfl rfl rfl rfl ?_
    refine AL.nil ?_
    refine then_ok ?_
    refine AC.ret ?_
    have hX : lateAuth a t = (⟨a.card, a.shop, a.sum, a.captured, a.refunded, a.disputed, a.till, true⟩ : Auth) := by
      refine auth_ext rfl rfl rfl rfl rfl rfl rfl ?_; by_cases hT : a.till ≤ t <;> first | (exfalso; omega) | simp [lateAuth, hT]
    rw [hX] at hr; clear hX
    subst hr
    refine retQ_mk (av' := outOf [(.g [(cI a.card), (cI a.shop), (cI a.sum), (cI a.captured), (cI a.refunded), (cI a.disputed), (cI a.till), (cB true)])]) (nb' := []) (retQ_ret ⟨[(4, (aC (.p 1 0 0 0)))], [(1, (.box 75 [(cI a.card), (cI a.shop), (cI a.sum), (cI a.captured), (cI a.refunded), (cI a.disputed), (cI a.till), (cB true)]))], 2⟩ [.cell 4 75] [(.g [(cI a.card), (cI a.shop), (cI a.sum), (cI a.captured), (cI a.refunded), (cI a.disputed), (cI a.till), (cB true)])] (Weak.ren id (⟨by first | rfl | (simp only [AV.map, GV.map, CV.map, AB.map', id]; done) | (congr 3; omega) | (congr 4; omega) | (simp only [List.length_append, List.length_cons, List.length_nil, List.length_set]; rfl),  trivial⟩) (⟨by first | rfl | (simp only [AV.map, GV.map, CV.map, AB.map', id]; done) | (congr 3; omega) | (congr 4; omega) | (simp only [List.length_append, List.length_cons, List.length_nil, List.length_set]; rfl),  trivial⟩) rfl) rfl ⟨.agg rfl rfl (fun _ => run_isAgg Try.underlying75) sz75, trivial⟩ trivial) ?_ ?_
    · first | rfl | (simp [outOf, aC]; done) | (simp [outOf, aC]; omega)
    · first | rfl | (simp; done) | (simp; omega)
  ·
    have hc1' := hc1; try simp only [sumB, Bool.not_eq_true', Bool.not_eq_false', Bool.or_eq_true, Bool.or_eq_false_iff, Bool.and_eq_true, Bool.and_eq_false_imp, decide_eq_true_eq, decide_eq_false_iff_not, Bool.not_not, Bool.not_true, Bool.not_false] at hc1'
    refine AC.skip ?_
    refine then_ok ?_
    refine AC.seq ?_
    refine AC.region ?_
    refine AL.val (Wanted.plain rfl) (g_loadBs rfl rfl rfl Try.underlying75 rfl sz75 rfl rfl) rfl rfl ?_
    refine AL.sto (h' := [(1, (.box 75 [(cI a.card), (cI a.shop), (cI a.sum), (cI a.captured), (cI a.refunded), (cI a.disputed), (cI a.till), (cB a.shut)])), (0, (.box 75 [(cI a.card), (cI a.shop), (cI a.sum), (cI a.captured), (cI a.refunded), (cI a.disputed), (cI a.till), (cB a.shut)]))]) (Wanted.plain rfl) (g_storeB rfl rfl rfl rfl rfl sz75 rfl (Nat.le_of_ble_eq_true rfl) rfl) rfl rfl rfl rfl ?_
    refine AL.nil ?_
    refine then_ok ?_
    refine AC.ret ?_
    have hX : lateAuth a t = a := by
      refine auth_ext rfl rfl rfl rfl rfl rfl rfl ?_; by_cases hT : a.till ≤ t <;> first | (exfalso; omega) | simp [lateAuth, hT]
    rw [hX] at hr; clear hX
    subst hr
    refine retQ_mk (av' := outOf [(.g [(cI a.card), (cI a.shop), (cI a.sum), (cI a.captured), (cI a.refunded), (cI a.disputed), (cI a.till), (cB a.shut)])]) (nb' := []) (retQ_ret ⟨[(4, (aC (.p 1 0 0 0)))], [(1, (.box 75 [(cI a.card), (cI a.shop), (cI a.sum), (cI a.captured), (cI a.refunded), (cI a.disputed), (cI a.till), (cB a.shut)]))], 2⟩ [.cell 4 75] [(.g [(cI a.card), (cI a.shop), (cI a.sum), (cI a.captured), (cI a.refunded), (cI a.disputed), (cI a.till), (cB a.shut)])] (Weak.ren id (⟨by first | rfl | (simp only [AV.map, GV.map, CV.map, AB.map', id]; done) | (congr 3; omega) | (congr 4; omega) | (simp only [List.length_append, List.length_cons, List.length_nil, List.length_set]; rfl),  trivial⟩) (⟨by first | rfl | (simp only [AV.map, GV.map, CV.map, AB.map', id]; done) | (congr 3; omega) | (congr 4; omega) | (simp only [List.length_append, List.length_cons, List.length_nil, List.length_set]; rfl),  trivial⟩) rfl) rfl ⟨.agg rfl rfl (fun _ => run_isAgg Try.underlying75) sz75, trivial⟩ trivial) ?_ ?_
    · first | rfl | (simp [outOf, aC]; done) | (simp [outOf, aC]; omega)
    · first | rfl | (simp; done) | (simp; omega)
set_option maxRecDepth 100000 in
set_option maxHeartbeats 1000000 in
theorem c_auth_Hold (a : Auth) (ha : wrongAuth a = 0) (e : Int) (hr : holdAuth a = e) : Fn Try.prog 61 [(.g [(cI a.card), (cI a.shop), (cI a.sum), (cI a.captured), (cI a.refunded), (cI a.disputed), (cI a.till), (cB a.shut)])] (.v (.c (cI e))) [] := by
  refine Fn.mk' 10 [(0, (aG [(cI a.card), (cI a.shop), (cI a.sum), (cI a.captured), (cI a.refunded), (cI a.disputed), (cI a.till), (cB a.shut)]))] Try.func61 rfl rfl rfl rfl ?_
  intro W0 T0
  have hw := rightAuth ha
  refine AC.seq ?_
  refine AC.region ?_
  refine AL.new (n' := 1) (Wanted.plain rfl) (g_boxS 0 rfl rfl) rfl rfl rfl ?_
  refine AL.fast 1 rfl ?_
  refine AL.nil ?_
  refine then_ok ?_
  refine AC.seq ?_
  refine AC.seq ?_
  refine AC.region ?_
  refine AL.val (Wanted.plain rfl) (g_fieldP rfl rfl Try.underlying75 rfl sz4 (by decide)) rfl rfl ?_
  refine AL.val (Wanted.plain rfl) (g_loadB rfl rfl rfl Try.underlying4 rfl rfl) rfl rfl ?_
  refine AL.nil ?_
  refine then_ok ?_
  refine AC.cond rfl (fun hc1 => ?_) (fun hc1 => ?_)
  ·
    have hc1' := hc1; try simp only [sumB, Bool.not_eq_true', Bool.not_eq_false', Bool.or_eq_true, Bool.or_eq_false_iff, Bool.and_eq_true, Bool.and_eq_false_imp, decide_eq_true_eq, decide_eq_false_iff_not, Bool.not_not, Bool.not_true, Bool.not_false] at hc1'
    refine AC.seq ?_
    refine AC.region ?_
    refine AL.fast 1 rfl ?_
    refine AL.nil ?_
    refine then_ok ?_
    refine AC.ret ?_
    refine then_ret ?_
    have hX : holdAuth a = 0 := by
      (unfold holdAuth; try dsimp only); (repeat' split) <;> first | rfl | omega | (exfalso; omega) | (subst_vars; rfl) | (simp_all; done) | (simp_all; omega)
    rw [hX] at hr; clear hX
    subst hr
    refine retQ_mk (av' := outOf [(.c (cI 0))]) (nb' := []) (retQ_ret ⟨[(2, (aI 0))], [], 0⟩ [.tmp 2] [(.c (cI 0))] (Weak.ren id (⟨by first | rfl | (simp only [AV.map, GV.map, CV.map, AB.map', id]; done) | (congr 3; omega) | (congr 4; omega) | (simp only [List.length_append, List.length_cons, List.length_nil, List.length_set]; rfl),  trivial⟩) (trivial) rfl) rfl ⟨.tmp rfl, trivial⟩ trivial) ?_ ?_
    · first | rfl | (simp [outOf, aC]; done) | (simp [outOf, aC]; omega)
    · first | rfl | (simp; done) | (simp; omega)
  ·
    have hc1' := hc1; try simp only [sumB, Bool.not_eq_true', Bool.not_eq_false', Bool.or_eq_true, Bool.or_eq_false_iff, Bool.and_eq_true, Bool.and_eq_false_imp, decide_eq_true_eq, decide_eq_false_iff_not, Bool.not_not, Bool.not_true, Bool.not_false] at hc1'
    refine AC.skip ?_
    refine then_ok ?_
    refine AC.seq ?_
    refine AC.region ?_
    refine AL.val (Wanted.plain rfl) (g_fieldP rfl rfl Try.underlying75 rfl sz3 (by decide)) rfl rfl ?_
    refine AL.val (Wanted.plain rfl) (g_loadB rfl rfl rfl Try.underlying3 rfl rfl) rfl rfl ?_
    refine AL.val (Wanted.plain rfl) (g_fieldP rfl rfl Try.underlying75 rfl sz3 (by decide)) rfl rfl ?_
    refine AL.val (Wanted.plain rfl) (g_loadB rfl rfl rfl Try.underlying3 rfl rfl) rfl rfl ?_
    refine AL.val (Wanted.plain rfl) (g_binI rfl rfl rfl (wrap_ok (by first | omega | (simp; done) | (simp; omega)))) rfl rfl ?_
    refine AL.fast 1 rfl ?_
    refine AL.nil ?_
    refine then_ok ?_
    refine AC.ret ?_
    have hX : holdAuth a = (a.sum - a.captured) := by
      (unfold holdAuth; try dsimp only); (repeat' split) <;> first | rfl | omega | (exfalso; omega) | (subst_vars; rfl) | (simp_all; done) | (simp_all; omega)
    rw [hX] at hr; clear hX
    subst hr
    refine retQ_mk (av' := outOf [(.c (cI (a.sum - a.captured)))]) (nb' := []) (retQ_ret ⟨[(2, (aI (a.sum - a.captured)))], [], 0⟩ [.tmp 2] [(.c (cI (a.sum - a.captured)))] (Weak.ren id (⟨by first | rfl | (simp only [AV.map, GV.map, CV.map, AB.map', id]; done) | (congr 3; omega) | (congr 4; omega) | (simp only [List.length_append, List.length_cons, List.length_nil, List.length_set]; rfl),  trivial⟩) (trivial) rfl) rfl ⟨.tmp rfl, trivial⟩ trivial) ?_ ?_
    · first | rfl | (simp [outOf, aC]; done) | (simp [outOf, aC]; omega)
    · first | rfl | (simp; done) | (simp; omega)
set_option maxRecDepth 100000 in
set_option maxHeartbeats 1000000 in
theorem c_auth_left (a : Auth) (h : wrongAuth a = 0) : FnE Try.prog 111 [(.c (.p 0 0 0 0))] [(0, (.box 75 [(cI a.card), (cI a.shop), (cI a.sum), (cI a.captured), (cI a.refunded), (cI a.disputed), (cI a.till), (cB a.shut)]))] [0] (aI (a.captured - a.refunded - a.disputed)) [(0, (.box 75 [(cI a.card), (cI a.shop), (cI a.sum), (cI a.captured), (cI a.refunded), (cI a.disputed), (cI a.till), (cB a.shut)]))] := by
  refine FnE.mk 17 [(0, (aC (.p 0 0 0 0)))] 1 Try.func111 rfl rfl rfl rfl rfl rfl rfl rfl rfl ?_
  intro W0 F0 T0 pg
  have hw := rightAuth h
  refine AC.seq ?_
  refine AC.region ?_
  refine AL.fast 1 rfl ?_
  refine AL.nil ?_
  refine then_ok ?_
  refine AC.seq ?_
  refine AC.weak (st' := ⟨[(0, (aC (.p 0 0 0 0)))], [(0, (.box 75 [(cI a.card), (cI a.shop), (cI a.sum), (cI a.captured), (cI a.refunded), (cI a.disputed), (cI a.till), (cB a.shut)]))], 1⟩) (Weak.ren id (⟨by first | rfl | (simp only [AV.map, GV.map, CV.map, AB.map', id]; done) | (congr 3; omega) | (congr 4; omega) | (simp only [List.length_append, List.length_cons, List.length_nil, List.length_set]; rfl),  trivial⟩) (⟨by first | rfl | (simp only [AV.map, GV.map, CV.map, AB.map', id]; done) | (congr 3; omega) | (congr 4; omega) | (simp only [List.length_append, List.length_cons, List.length_nil, List.length_set]; rfl),  trivial⟩) rfl) ?_
  refine AC.draw [⟨some 3, (aC (.p 0 0 0 0)), [], [], [], [(0, (aC (.p 0 0 0 0)))], [(0, (.box 75 [(cI a.card), (cI a.shop), (cI a.sum), (cI a.captured), (cI a.refunded), (cI a.disputed), (cI a.till), (cB a.shut)]))]⟩,
      ⟨some 4, (aC (.p 0 0 0 0)), [], [], [0], [(3, (aC (.p 0 0 0 0)))], [(0, (.box 75 [(cI a.card), (cI a.shop), (cI a.sum), (cI a.captured), (cI a.refunded), (cI a.disputed), (cI a.till), (cB a.shut)]))]⟩,
      ⟨some 5, (aC (.p 0 0 0 3)), [], [], [1], [(4, (aC (.p 0 0 0 0)))], [(0, (.box 75 [(cI a.card), (cI a.shop), (cI a.sum), (cI a.captured), (cI a.refunded), (cI a.disputed), (cI a.till), (cB a.shut)]))]⟩,
      ⟨some 6, (aI a.captured), [], [], [2], [(5, (aC (.p 0 0 0 3)))], [(0, (.box 75 [(cI a.card), (cI a.shop), (cI a.sum), (cI a.captured), (cI a.refunded), (cI a.disputed), (cI a.till), (cB a.shut)]))]⟩,
      ⟨some 7, (aC (.p 0 0 0 0)), [], [], [], [(0, (aC (.p 0 0 0 0)))], [(0, (.box 75 [(cI a.card), (cI a.shop), (cI a.sum), (cI a.captured), (cI a.refunded), (cI a.disputed), (cI a.till), (cB a.shut)]))]⟩,
      ⟨some 8, (aC (.p 0 0 0 0)), [], [], [4], [(7, (aC (.p 0 0 0 0)))], [(0, (.box 75 [(cI a.card), (cI a.shop), (cI a.sum), (cI a.captured), (cI a.refunded), (cI a.disputed), (cI a.till), (cB a.shut)]))]⟩,
      ⟨some 9, (aC (.p 0 0 0 4)), [], [], [5], [(8, (aC (.p 0 0 0 0)))], [(0, (.box 75 [(cI a.card), (cI a.shop), (cI a.sum), (cI a.captured), (cI a.refunded), (cI a.disputed), (cI a.till), (cB a.shut)]))]⟩,
      ⟨some 10, (aI a.refunded), [], [], [6], [(9, (aC (.p 0 0 0 4)))], [(0, (.box 75 [(cI a.card), (cI a.shop), (cI a.sum), (cI a.captured), (cI a.refunded), (cI a.disputed), (cI a.till), (cB a.shut)]))]⟩,
      ⟨some 11, (aI (a.captured - a.refunded)), [], [], [3, 7], [(6, (aI a.captured)), (10, (aI a.refunded))], []⟩,
      ⟨some 12, (aC (.p 0 0 0 0)), [], [], [], [(0, (aC (.p 0 0 0 0)))], [(0, (.box 75 [(cI a.card), (cI a.shop), (cI a.sum), (cI a.captured), (cI a.refunded), (cI a.disputed), (cI a.till), (cB a.shut)]))]⟩,
      ⟨some 13, (aC (.p 0 0 0 0)), [], [], [9], [(12, (aC (.p 0 0 0 0)))], [(0, (.box 75 [(cI a.card), (cI a.shop), (cI a.sum), (cI a.captured), (cI a.refunded), (cI a.disputed), (cI a.till), (cB a.shut)]))]⟩,
      ⟨some 14, (aC (.p 0 0 0 5)), [], [], [10], [(13, (aC (.p 0 0 0 0)))], [(0, (.box 75 [(cI a.card), (cI a.shop), (cI a.sum), (cI a.captured), (cI a.refunded), (cI a.disputed), (cI a.till), (cB a.shut)]))]⟩,
      ⟨some 15, (aI a.disputed), [], [], [11], [(14, (aC (.p 0 0 0 5)))], [(0, (.box 75 [(cI a.card), (cI a.shop), (cI a.sum), (cI a.captured), (cI a.refunded), (cI a.disputed), (cI a.till), (cB a.shut)]))]⟩,
      ⟨some 16, (aI ((a.captured - a.refunded) - a.disputed)), [], [], [8, 12], [(11, (aI (a.captured - a.refunded))), (15, (aI a.disputed))], []⟩,
      ⟨some 2, (aI ((a.captured - a.refunded) - a.disputed)), [], [], [13], [(16, (aI ((a.captured - a.refunded) - a.disputed)))], []⟩] ⟨[(0, (aC (.p 0 0 0 0))), (2, (aI ((a.captured - a.refunded) - a.disputed)))], [(0, (.box 75 [(cI a.card), (cI a.shop), (cI a.sum), (cI a.captured), (cI a.refunded), (cI a.disputed), (cI a.till), (cB a.shut)]))], 1⟩ mixed (by kernel_rfl) ?_ ?_ ?_ ?_
  · exact ⟨.inl ⟨(Wanted.plain rfl), GOp.cast (g_move rfl rfl) rfl⟩,
      .inl ⟨(Wanted.plain rfl), GOp.cast (g_nilCheck rfl rfl rfl) rfl⟩,
      .inl ⟨(Wanted.plain rfl), GOp.cast (g_fieldP rfl rfl Try.underlying75 rfl sz3 (by decide)) rfl⟩,
      .inl ⟨(Wanted.plain rfl), GOp.cast (g_loadB rfl rfl rfl Try.underlying3 rfl rfl) rfl⟩,
      .inl ⟨(Wanted.plain rfl), GOp.cast (g_move rfl rfl) rfl⟩,
      .inl ⟨(Wanted.plain rfl), GOp.cast (g_nilCheck rfl rfl rfl) rfl⟩,
      .inl ⟨(Wanted.plain rfl), GOp.cast (g_fieldP rfl rfl Try.underlying75 rfl sz3 (by decide)) rfl⟩,
      .inl ⟨(Wanted.plain rfl), GOp.cast (g_loadB rfl rfl rfl Try.underlying3 rfl rfl) rfl⟩,
      .inl ⟨(Wanted.plain rfl), GOp.cast (g_binI rfl rfl rfl (wrap_ok (by first | omega | (simp; done) | (simp; omega)))) rfl⟩,
      .inl ⟨(Wanted.plain rfl), GOp.cast (g_move rfl rfl) rfl⟩,
      .inl ⟨(Wanted.plain rfl), GOp.cast (g_nilCheck rfl rfl rfl) rfl⟩,
      .inl ⟨(Wanted.plain rfl), GOp.cast (g_fieldP rfl rfl Try.underlying75 rfl sz3 (by decide)) rfl⟩,
      .inl ⟨(Wanted.plain rfl), GOp.cast (g_loadB rfl rfl rfl Try.underlying3 rfl rfl) rfl⟩,
      .inl ⟨(Wanted.plain rfl), GOp.cast (g_binI rfl rfl rfl (wrap_ok (by first | omega | (simp; done) | (simp; omega)))) rfl⟩,
      .inl ⟨(Wanted.plain rfl), GOp.cast (g_assign rfl rfl) rfl⟩,
       trivial⟩
  · exact ⟨⟨⟨.inl rfl,  trivial⟩, ⟨.inl rfl,  trivial⟩⟩, ⟨⟨.inr ⟨0, .head _, _, rfl, rfl, rfl⟩,  trivial⟩, ⟨.inl rfl,  trivial⟩⟩, ⟨⟨.inr ⟨1, .head _, _, rfl, rfl, rfl⟩,  trivial⟩, ⟨.inl rfl,  trivial⟩⟩, ⟨⟨.inr ⟨2, .head _, _, rfl, rfl, rfl⟩,  trivial⟩, ⟨.inl rfl,  trivial⟩⟩, ⟨⟨.inl rfl,  trivial⟩, ⟨.inl rfl,  trivial⟩⟩, ⟨⟨.inr ⟨4, .head _, _, rfl, rfl, rfl⟩,  trivial⟩, ⟨.inl rfl,  trivial⟩⟩, ⟨⟨.inr ⟨5, .head _, _, rfl, rfl, rfl⟩,  trivial⟩, ⟨.inl rfl,  trivial⟩⟩, ⟨⟨.inr ⟨6, .head _, _, rfl, rfl, rfl⟩,  trivial⟩, ⟨.inl rfl,  trivial⟩⟩, ⟨⟨.inr ⟨3, .head _, _, rfl, rfl, rfl⟩, .inr ⟨7, .tail _ (.head _), _, rfl, rfl, rfl⟩,  trivial⟩, trivial⟩, ⟨⟨.inl rfl,  trivial⟩, ⟨.inl rfl,  trivial⟩⟩, ⟨⟨.inr ⟨9, .head _, _, rfl, rfl, rfl⟩,  trivial⟩, ⟨.inl rfl,  trivial⟩⟩, ⟨⟨.inr ⟨10, .head _, _, rfl, rfl, rfl⟩,  trivial⟩, ⟨.inl rfl,  trivial⟩⟩, ⟨⟨.inr ⟨11, .head _, _, rfl, rfl, rfl⟩,  trivial⟩, ⟨.inl rfl,  trivial⟩⟩, ⟨⟨.inr ⟨8, .head _, _, rfl, rfl, rfl⟩, .inr ⟨12, .tail _ (.head _), _, rfl, rfl, rfl⟩,  trivial⟩, trivial⟩, ⟨⟨.inr ⟨13, .head _, _, rfl, rfl, rfl⟩,  trivial⟩, trivial⟩,  trivial⟩
  · exact ⟨⟨.inl rfl, .inr ⟨14, _, rfl, rfl, rfl⟩,  trivial⟩, ⟨.inl rfl,  trivial⟩⟩
  ·
    refine AL.nil ?_
    refine then_ok ?_
    refine AC.ret ?_
    refine retQ_mk (av' := outOf [(.c (cI ((a.captured - a.refunded) - a.disputed)))]) (nb' := [(0, (.box 75 [(cI a.card), (cI a.shop), (cI a.sum), (cI a.captured), (cI a.refunded), (cI a.disputed), (cI a.till), (cB a.shut)]))]) (retQ_ret ⟨[(2, (aI ((a.captured - a.refunded) - a.disputed)))], [(0, (.box 75 [(cI a.card), (cI a.shop), (cI a.sum), (cI a.captured), (cI a.refunded), (cI a.disputed), (cI a.till), (cB a.shut)]))], 1⟩ [.tmp 2] [(.c (cI ((a.captured - a.refunded) - a.disputed)))] (Weak.ren (fun k => if k = 0 then 0 else k) (⟨by first | rfl | (simp only [AV.map, GV.map, CV.map, AB.map', id]; done) | (congr 3; omega) | (congr 4; omega) | (simp only [List.length_append, List.length_cons, List.length_nil, List.length_set]; rfl),  trivial⟩) (⟨by first | rfl | (simp only [AV.map, GV.map, CV.map, AB.map', id]; done) | (congr 3; omega) | (congr 4; omega) | (simp only [List.length_append, List.length_cons, List.length_nil, List.length_set]; rfl),  trivial⟩) rfl) rfl ⟨.tmp rfl, trivial⟩ ⟨by first | rfl | (simp only [AV.map, GV.map, CV.map, AB.map', id]; done) | (congr 3; omega) | (congr 4; omega) | (simp only [List.length_append, List.length_cons, List.length_nil, List.length_set]; rfl),  trivial⟩) ?_ ?_
    · first | rfl | (simp [outOf, aC]; done) | (simp [outOf, aC]; omega)
    · rfl
set_option maxRecDepth 100000 in
set_option maxHeartbeats 1000000 in
theorem c_auth_open (a : Auth) (kind n : Int) (h : wrongAuth a = 0) (h1 : 1 ≤ n) (h2 : n ≤ 1000000) (b : Auth) (e : Int) (hr : openAuth a kind n = (b, e)) : FnE Try.prog 112 [(.c (.p 0 0 0 0)), (.c (cI kind)), (.c (cI n))] [(0, (.box 75 [(cI a.card), (cI a.shop), (cI a.sum), (cI a.captured), (cI a.refunded), (cI a.disputed), (cI a.till), (cB a.shut)]))] [0] (.v (.c (cI e))) [(0, (.box 75 [(cI b.card), (cI b.shop), (cI b.sum), (cI b.captured), (cI b.refunded), (cI b.disputed), (cI b.till), (cB b.shut)]))] := by
  refine FnE.mk 91 [(0, (aC (.p 0 0 0 0))), (1, (aI kind)), (2, (aI n))] 1 Try.func112 rfl rfl rfl rfl rfl rfl rfl rfl rfl ?_
  intro W0 F0 T0 pg
  have hw := rightAuth h
  refine AC.seq ?_
  refine AC.region ?_
  refine AL.fast 1 rfl ?_
  refine AL.nil ?_
  refine then_ok ?_
  refine AC.seq ?_
  refine AC.weak (st' := ⟨[(0, (aC (.p 0 0 0 0))), (1, (aI kind)), (2, (aI n))], [(0, (.box 75 [(cI a.card), (cI a.shop), (cI a.sum), (cI a.captured), (cI a.refunded), (cI a.disputed), (cI a.till), (cB a.shut)]))], 1⟩) (Weak.ren id (⟨by first | rfl | (simp only [AV.map, GV.map, CV.map, AB.map', id]; done) | (congr 3; omega) | (congr 4; omega) | (simp only [List.length_append, List.length_cons, List.length_nil, List.length_set]; rfl), by first | rfl | (simp only [AV.map, GV.map, CV.map, AB.map', id]; done) | (congr 3; omega) | (congr 4; omega) | (simp only [List.length_append, List.length_cons, List.length_nil, List.length_set]; rfl), by first | rfl | (simp only [AV.map, GV.map, CV.map, AB.map', id]; done) | (congr 3; omega) | (congr 4; omega) | (simp only [List.length_append, List.length_cons, List.length_nil, List.length_set]; rfl),  trivial⟩) (⟨by first | rfl | (simp only [AV.map, GV.map, CV.map, AB.map', id]; done) | (congr 3; omega) | (congr 4; omega) | (simp only [List.length_append, List.length_cons, List.length_nil, List.length_set]; rfl),  trivial⟩) rfl) ?_
  refine AC.draw [⟨some 8, (aC (.p 0 0 0 0)), [], [], [], [(0, (aC (.p 0 0 0 0)))], [(0, (.box 75 [(cI a.card), (cI a.shop), (cI a.sum), (cI a.captured), (cI a.refunded), (cI a.disputed), (cI a.till), (cB a.shut)]))]⟩,
      ⟨some 9, (aC (.p 0 0 0 0)), [], [], [0], [(8, (aC (.p 0 0 0 0)))], [(0, (.box 75 [(cI a.card), (cI a.shop), (cI a.sum), (cI a.captured), (cI a.refunded), (cI a.disputed), (cI a.till), (cB a.shut)]))]⟩,
      ⟨some 10, (aC (.p 0 0 0 2)), [], [], [1], [(9, (aC (.p 0 0 0 0)))], [(0, (.box 75 [(cI a.card), (cI a.shop), (cI a.sum), (cI a.captured), (cI a.refunded), (cI a.disputed), (cI a.till), (cB a.shut)]))]⟩,
      ⟨some 11, (aI a.sum), [], [], [2], [(10, (aC (.p 0 0 0 2)))], [(0, (.box 75 [(cI a.card), (cI a.shop), (cI a.sum), (cI a.captured), (cI a.refunded), (cI a.disputed), (cI a.till), (cB a.shut)]))]⟩,
      ⟨some 12, (aC (.p 0 0 0 0)), [], [], [], [(0, (aC (.p 0 0 0 0)))], [(0, (.box 75 [(cI a.card), (cI a.shop), (cI a.sum), (cI a.captured), (cI a.refunded), (cI a.disputed), (cI a.till), (cB a.shut)]))]⟩,
      ⟨some 13, (aC (.p 0 0 0 0)), [], [], [4], [(12, (aC (.p 0 0 0 0)))], [(0, (.box 75 [(cI a.card), (cI a.shop), (cI a.sum), (cI a.captured), (cI a.refunded), (cI a.disputed), (cI a.till), (cB a.shut)]))]⟩,
      ⟨some 14, (aC (.p 0 0 0 3)), [], [], [5], [(13, (aC (.p 0 0 0 0)))], [(0, (.box 75 [(cI a.card), (cI a.shop), (cI a.sum), (cI a.captured), (cI a.refunded), (cI a.disputed), (cI a.till), (cB a.shut)]))]⟩,
      ⟨some 15, (aI a.captured), [], [], [6], [(14, (aC (.p 0 0 0 3)))], [(0, (.box 75 [(cI a.card), (cI a.shop), (cI a.sum), (cI a.captured), (cI a.refunded), (cI a.disputed), (cI a.till), (cB a.shut)]))]⟩,
      ⟨some 16, (aI (a.sum - a.captured)), [], [], [3, 7], [(11, (aI a.sum)), (15, (aI a.captured))], []⟩,
      ⟨some 7, (aI (a.sum - a.captured)), [], [], [8], [(16, (aI (a.sum - a.captured)))], []⟩] ⟨[(0, (aC (.p 0 0 0 0))), (1, (aI kind)), (2, (aI n)), (7, (aI (a.sum - a.captured)))], [(0, (.box 75 [(cI a.card), (cI a.shop), (cI a.sum), (cI a.captured), (cI a.refunded), (cI a.disputed), (cI a.till), (cB a.shut)]))], 1⟩ mixed (by kernel_rfl) ?_ ?_ ?_ ?_
  · exact ⟨.inl ⟨(Wanted.plain rfl), GOp.cast (g_move rfl rfl) rfl⟩,
      .inl ⟨(Wanted.plain rfl), GOp.cast (g_nilCheck rfl rfl rfl) rfl⟩,
      .inl ⟨(Wanted.plain rfl), GOp.cast (g_fieldP rfl rfl Try.underlying75 rfl sz3 (by decide)) rfl⟩,
      .inl ⟨(Wanted.plain rfl), GOp.cast (g_loadB rfl rfl rfl Try.underlying3 rfl rfl) rfl⟩,
      .inl ⟨(Wanted.plain rfl), GOp.cast (g_move rfl rfl) rfl⟩,
      .inl ⟨(Wanted.plain rfl), GOp.cast (g_nilCheck rfl rfl rfl) rfl⟩,
      .inl ⟨(Wanted.plain rfl), GOp.cast (g_fieldP rfl rfl Try.underlying75 rfl sz3 (by decide)) rfl⟩,
      .inl ⟨(Wanted.plain rfl), GOp.cast (g_loadB rfl rfl rfl Try.underlying3 rfl rfl) rfl⟩,
      .inl ⟨(Wanted.plain rfl), GOp.cast (g_binI rfl rfl rfl (wrap_ok (by first | omega | (simp; done) | (simp; omega)))) rfl⟩,
      .inl ⟨(Wanted.plain rfl), GOp.cast (g_assign rfl rfl) rfl⟩,
       trivial⟩
  · exact ⟨⟨⟨.inl rfl,  trivial⟩, ⟨.inl rfl,  trivial⟩⟩, ⟨⟨.inr ⟨0, .head _, _, rfl, rfl, rfl⟩,  trivial⟩, ⟨.inl rfl,  trivial⟩⟩, ⟨⟨.inr ⟨1, .head _, _, rfl, rfl, rfl⟩,  trivial⟩, ⟨.inl rfl,  trivial⟩⟩, ⟨⟨.inr ⟨2, .head _, _, rfl, rfl, rfl⟩,  trivial⟩, ⟨.inl rfl,  trivial⟩⟩, ⟨⟨.inl rfl,  trivial⟩, ⟨.inl rfl,  trivial⟩⟩, ⟨⟨.inr ⟨4, .head _, _, rfl, rfl, rfl⟩,  trivial⟩, ⟨.inl rfl,  trivial⟩⟩, ⟨⟨.inr ⟨5, .head _, _, rfl, rfl, rfl⟩,  trivial⟩, ⟨.inl rfl,  trivial⟩⟩, ⟨⟨.inr ⟨6, .head _, _, rfl, rfl, rfl⟩,  trivial⟩, ⟨.inl rfl,  trivial⟩⟩, ⟨⟨.inr ⟨3, .head _, _, rfl, rfl, rfl⟩, .inr ⟨7, .tail _ (.head _), _, rfl, rfl, rfl⟩,  trivial⟩, trivial⟩, ⟨⟨.inr ⟨8, .head _, _, rfl, rfl, rfl⟩,  trivial⟩, trivial⟩,  trivial⟩
  · exact ⟨⟨.inl rfl, .inl rfl, .inl rfl, .inr ⟨9, _, rfl, rfl, rfl⟩,  trivial⟩, ⟨.inl rfl,  trivial⟩⟩
  ·
    refine AL.nil ?_
    refine then_ok ?_
    refine AC.seq ?_
    refine AC.block ?_
    refine AC.seq ?_
    refine AC.region ?_
    refine AL.fast 1 rfl ?_
    refine AL.val (Wanted.plain rfl) (g_nilCheck rfl rfl rfl) rfl rfl ?_
    refine AL.val (Wanted.plain rfl) (g_fieldP rfl rfl Try.underlying75 rfl sz4 (by decide)) rfl rfl ?_
    refine AL.val (Wanted.plain rfl) (g_loadB rfl rfl rfl Try.underlying4 rfl rfl) rfl rfl ?_
    refine AL.fast 1 rfl ?_
    refine AL.nil ?_
    refine then_ok ?_
    refine AC.cond rfl (fun hc1 => ?_) (fun hc1 => ?_)
    ·
      have hc1' := hc1; try simp only [sumB, Bool.not_eq_true', Bool.not_eq_false', Bool.or_eq_true, Bool.or_eq_false_iff, Bool.and_eq_true, Bool.and_eq_false_imp, decide_eq_true_eq, decide_eq_false_iff_not, Bool.not_not, Bool.not_true, Bool.not_false] at hc1'
      refine AC.seq ?_
      refine AC.region ?_
      refine AL.fast 1 rfl ?_
      refine AL.nil ?_
      refine then_ok ?_
      refine AC.ret ?_
      refine block_ret ?_
      refine then_ret ?_
      have hX : openAuth a kind n = (a, 9) := by
        (unfold openAuth; try dsimp only); (repeat' split) <;> first | rfl | omega | (exfalso; omega) | (subst_vars; rfl) | (simp_all; done) | (simp_all; omega)
      rw [hX] at hr; clear hX
      simp only [Prod.mk.injEq] at hr; obtain ⟨rfl, rfl⟩ := hr
      refine retQ_mk (av' := outOf [(.c (cI 9))]) (nb' := [(0, (.box 75 [(cI a.card), (cI a.shop), (cI a.sum), (cI a.captured), (cI a.refunded), (cI a.disputed), (cI a.till), (cB a.shut)]))]) (retQ_ret ⟨[(6, (aI 9))], [(0, (.box 75 [(cI a.card), (cI a.shop), (cI a.sum), (cI a.captured), (cI a.refunded), (cI a.disputed), (cI a.till), (cB a.shut)]))], 1⟩ [.tmp 6] [(.c (cI 9))] (Weak.ren (fun k => if k = 0 then 0 else k) (⟨by first | rfl | (simp only [AV.map, GV.map, CV.map, AB.map', id]; done) | (congr 3; omega) | (congr 4; omega) | (simp only [List.length_append, List.length_cons, List.length_nil, List.length_set]; rfl),  trivial⟩) (⟨by first | rfl | (simp only [AV.map, GV.map, CV.map, AB.map', id]; done) | (congr 3; omega) | (congr 4; omega) | (simp only [List.length_append, List.length_cons, List.length_nil, List.length_set]; rfl),  trivial⟩) rfl) rfl ⟨.tmp rfl, trivial⟩ ⟨by first | rfl | (simp only [AV.map, GV.map, CV.map, AB.map', id]; done) | (congr 3; omega) | (congr 4; omega) | (simp only [List.length_append, List.length_cons, List.length_nil, List.length_set]; rfl),  trivial⟩) ?_ ?_
      · first | rfl | (simp [outOf, aC]; done) | (simp [outOf, aC]; omega)
      · first | rfl | (simp; done) | (simp; omega)
    ·
      have hc1' := hc1; try simp only [sumB, Bool.not_eq_true', Bool.not_eq_false', Bool.or_eq_true, Bool.or_eq_false_iff, Bool.and_eq_true, Bool.and_eq_false_imp, decide_eq_true_eq, decide_eq_false_iff_not, Bool.not_not, Bool.not_true, Bool.not_false] at hc1'
      refine AC.seq ?_
      refine AC.region ?_
      refine AL.fast 1 rfl ?_
      refine AL.val (Wanted.plain rfl) (g_binI rfl rfl rfl rfl) rfl rfl ?_
      refine AL.fast 1 rfl ?_
      refine AL.nil ?_
      refine then_ok ?_
      refine AC.cond rfl (fun hc2 => ?_) (fun hc2 => ?_)
      ·
        have hc2' := hc2; try simp only [sumB, Bool.not_eq_true', Bool.not_eq_false', Bool.or_eq_true, Bool.or_eq_false_iff, Bool.and_eq_true, Bool.and_eq_false_imp, decide_eq_true_eq, decide_eq_false_iff_not, Bool.not_not, Bool.not_true, Bool.not_false] at hc2'
        refine AC.seq ?_
        refine AC.seq ?_
        refine AC.region ?_
        refine AL.fast 2 rfl ?_
        refine AL.val (Wanted.plain rfl) (g_nilCheck rfl rfl rfl) rfl rfl ?_
        refine AL.val (Wanted.plain rfl) (g_fieldP rfl rfl Try.underlying75 rfl sz3 (by decide)) rfl rfl ?_
        refine AL.val (Wanted.plain rfl) (g_loadB rfl rfl rfl Try.underlying3 rfl rfl) rfl rfl ?_
        refine AL.val (Wanted.plain rfl) (g_binI rfl rfl rfl (wrap_ok (by first | omega | (simp; done) | (simp; omega)))) rfl rfl ?_
        refine AL.val (Wanted.plain rfl) (g_binI rfl rfl rfl rfl) rfl rfl ?_
        refine AL.nil ?_
        refine then_ok ?_
        refine AC.cond rfl (fun hc3 => ?_) (fun hc3 => ?_)
        ·
          have hc3' := hc3; try simp only [sumB, Bool.not_eq_true', Bool.not_eq_false', Bool.or_eq_true, Bool.or_eq_false_iff, Bool.and_eq_true, Bool.and_eq_false_imp, decide_eq_true_eq, decide_eq_false_iff_not, Bool.not_not, Bool.not_true, Bool.not_false] at hc3'
          refine AC.seq ?_
          refine AC.region ?_
          refine AL.fast 1 rfl ?_
          refine AL.nil ?_
          refine then_ok ?_
          refine AC.ret ?_
          refine then_ret ?_
          refine block_ret ?_
          refine then_ret ?_
          have hX : openAuth a kind n = (a, 4) := by
            (unfold openAuth; try dsimp only); (repeat' split) <;> first | rfl | omega | (exfalso; omega) | (subst_vars; rfl) | (simp_all; done) | (simp_all; omega)
          rw [hX] at hr; clear hX
          simp only [Prod.mk.injEq] at hr; obtain ⟨rfl, rfl⟩ := hr
          refine retQ_mk (av' := outOf [(.c (cI 4))]) (nb' := [(0, (.box 75 [(cI a.card), (cI a.shop), (cI a.sum), (cI a.captured), (cI a.refunded), (cI a.disputed), (cI a.till), (cB a.shut)]))]) (retQ_ret ⟨[(6, (aI 4))], [(0, (.box 75 [(cI a.card), (cI a.shop), (cI a.sum), (cI a.captured), (cI a.refunded), (cI a.disputed), (cI a.till), (cB a.shut)]))], 1⟩ [.tmp 6] [(.c (cI 4))] (Weak.ren (fun k => if k = 0 then 0 else k) (⟨by first | rfl | (simp only [AV.map, GV.map, CV.map, AB.map', id]; done) | (congr 3; omega) | (congr 4; omega) | (simp only [List.length_append, List.length_cons, List.length_nil, List.length_set]; rfl),  trivial⟩) (⟨by first | rfl | (simp only [AV.map, GV.map, CV.map, AB.map', id]; done) | (congr 3; omega) | (congr 4; omega) | (simp only [List.length_append, List.length_cons, List.length_nil, List.length_set]; rfl),  trivial⟩) rfl) rfl ⟨.tmp rfl, trivial⟩ ⟨by first | rfl | (simp only [AV.map, GV.map, CV.map, AB.map', id]; done) | (congr 3; omega) | (congr 4; omega) | (simp only [List.length_append, List.length_cons, List.length_nil, List.length_set]; rfl),  trivial⟩) ?_ ?_
          · first | rfl | (simp [outOf, aC]; done) | (simp [outOf, aC]; omega)
          · first | rfl | (simp; done) | (simp; omega)
        ·
          have hc3' := hc3; try simp only [sumB, Bool.not_eq_true', Bool.not_eq_false', Bool.or_eq_true, Bool.or_eq_false_iff, Bool.and_eq_true, Bool.and_eq_false_imp, decide_eq_true_eq, decide_eq_false_iff_not, Bool.not_not, Bool.not_true, Bool.not_false] at hc3'
          refine AC.skip ?_
          refine then_ok ?_
          refine AC.seq ?_
          refine AC.region ?_
          refine AL.fast 1 rfl ?_
          refine AL.val (Wanted.plain rfl) (g_nilCheck rfl rfl rfl) rfl rfl ?_
          refine AL.val (Wanted.plain rfl) (g_fieldP rfl rfl Try.underlying75 rfl sz3 (by decide)) rfl rfl ?_
          refine AL.val (Wanted.plain rfl) (g_loadB rfl rfl rfl Try.underlying3 rfl rfl) rfl rfl ?_
          refine AL.fast 1 rfl ?_
          refine AL.val (Wanted.plain rfl) (g_binI rfl rfl rfl (wrap_ok (by first | omega | (simp; done) | (simp; omega)))) rfl rfl ?_
          refine AL.val (Wanted.plain rfl) (g_nilCheck rfl rfl rfl) rfl rfl ?_
          refine AL.val (Wanted.plain rfl) (g_fieldP rfl rfl Try.underlying75 rfl sz3 (by decide)) rfl rfl ?_
          refine AL.sto (h' := [(0, (.box 75 [(cI a.card), (cI a.shop), (cI (a.sum + n)), (cI a.captured), (cI a.refunded), (cI a.disputed), (cI a.till), (cB a.shut)]))]) (Wanted.plain rfl) (g_storeB rfl rfl rfl rfl rfl sz3 rfl (Nat.le_of_ble_eq_true rfl) rfl) rfl rfl rfl rfl ?_
          refine AL.nil ?_
          refine then_ok ?_
          refine AC.seq ?_
          refine AC.region ?_
          refine AL.fast 1 rfl ?_
          refine AL.nil ?_
          refine then_ok ?_
          refine AC.ret ?_
          refine block_ret ?_
          refine then_ret ?_
          have hX : openAuth a kind n = ((⟨a.card, a.shop, a.sum + n, a.captured, a.refunded, a.disputed, a.till, a.shut⟩ : Auth), 0) := by
            (unfold openAuth; try dsimp only); (repeat' split) <;> first | rfl | omega | (exfalso; omega) | (subst_vars; rfl) | (simp_all; done) | (simp_all; omega)
          rw [hX] at hr; clear hX
          simp only [Prod.mk.injEq] at hr; obtain ⟨rfl, rfl⟩ := hr
          refine retQ_mk (av' := outOf [(.c (cI 0))]) (nb' := [(0, (.box 75 [(cI a.card), (cI a.shop), (cI (a.sum + n)), (cI a.captured), (cI a.refunded), (cI a.disputed), (cI a.till), (cB a.shut)]))]) (retQ_ret ⟨[(6, (aI 0))], [(0, (.box 75 [(cI a.card), (cI a.shop), (cI (a.sum + n)), (cI a.captured), (cI a.refunded), (cI a.disputed), (cI a.till), (cB a.shut)]))], 1⟩ [.tmp 6] [(.c (cI 0))] (Weak.ren (fun k => if k = 0 then 0 else k) (⟨by first | rfl | (simp only [AV.map, GV.map, CV.map, AB.map', id]; done) | (congr 3; omega) | (congr 4; omega) | (simp only [List.length_append, List.length_cons, List.length_nil, List.length_set]; rfl),  trivial⟩) (⟨by first | rfl | (simp only [AV.map, GV.map, CV.map, AB.map', id]; done) | (congr 3; omega) | (congr 4; omega) | (simp only [List.length_append, List.length_cons, List.length_nil, List.length_set]; rfl),  trivial⟩) rfl) rfl ⟨.tmp rfl, trivial⟩ ⟨by first | rfl | (simp only [AV.map, GV.map, CV.map, AB.map', id]; done) | (congr 3; omega) | (congr 4; omega) | (simp only [List.length_append, List.length_cons, List.length_nil, List.length_set]; rfl),  trivial⟩) ?_ ?_
          · first | rfl | (simp [outOf, aC]; done) | (simp [outOf, aC]; omega)
          · first | rfl | (simp; done) | (simp; omega)
      ·
        have hc2' := hc2; try simp only [sumB, Bool.not_eq_true', Bool.not_eq_false', Bool.or_eq_true, Bool.or_eq_false_iff, Bool.and_eq_true, Bool.and_eq_false_imp, decide_eq_true_eq, decide_eq_false_iff_not, Bool.not_not, Bool.not_true, Bool.not_false] at hc2'
        refine AC.seq ?_
        refine AC.region ?_
        refine AL.fast 2 rfl ?_
        refine AL.val (Wanted.plain rfl) (g_binI rfl rfl rfl rfl) rfl rfl ?_
        refine AL.fast 1 rfl ?_
        refine AL.nil ?_
        refine then_ok ?_
        refine AC.cond rfl (fun hc4 => ?_) (fun hc4 => ?_)
        ·
          have hc4' := hc4; try simp only [sumB, Bool.not_eq_true', Bool.not_eq_false', Bool.or_eq_true, Bool.or_eq_false_iff, Bool.and_eq_true, Bool.and_eq_false_imp, decide_eq_true_eq, decide_eq_false_iff_not, Bool.not_not, Bool.not_true, Bool.not_false] at hc4'
          refine AC.seq ?_
          refine AC.region ?_
          refine AL.fast 1 rfl ?_
          refine AL.nil ?_
          refine then_ok ?_
          refine AC.ret ?_
          refine block_ret ?_
          refine then_ret ?_
          have hX : openAuth a kind n = (a, 10) := by
            (unfold openAuth; try dsimp only); (repeat' split) <;> first | rfl | omega | (exfalso; omega) | (subst_vars; rfl) | (simp_all; done) | (simp_all; omega)
          rw [hX] at hr; clear hX
          simp only [Prod.mk.injEq] at hr; obtain ⟨rfl, rfl⟩ := hr
          refine retQ_mk (av' := outOf [(.c (cI 10))]) (nb' := [(0, (.box 75 [(cI a.card), (cI a.shop), (cI a.sum), (cI a.captured), (cI a.refunded), (cI a.disputed), (cI a.till), (cB a.shut)]))]) (retQ_ret ⟨[(6, (aI 10))], [(0, (.box 75 [(cI a.card), (cI a.shop), (cI a.sum), (cI a.captured), (cI a.refunded), (cI a.disputed), (cI a.till), (cB a.shut)]))], 1⟩ [.tmp 6] [(.c (cI 10))] (Weak.ren (fun k => if k = 0 then 0 else k) (⟨by first | rfl | (simp only [AV.map, GV.map, CV.map, AB.map', id]; done) | (congr 3; omega) | (congr 4; omega) | (simp only [List.length_append, List.length_cons, List.length_nil, List.length_set]; rfl),  trivial⟩) (⟨by first | rfl | (simp only [AV.map, GV.map, CV.map, AB.map', id]; done) | (congr 3; omega) | (congr 4; omega) | (simp only [List.length_append, List.length_cons, List.length_nil, List.length_set]; rfl),  trivial⟩) rfl) rfl ⟨.tmp rfl, trivial⟩ ⟨by first | rfl | (simp only [AV.map, GV.map, CV.map, AB.map', id]; done) | (congr 3; omega) | (congr 4; omega) | (simp only [List.length_append, List.length_cons, List.length_nil, List.length_set]; rfl),  trivial⟩) ?_ ?_
          · first | rfl | (simp [outOf, aC]; done) | (simp [outOf, aC]; omega)
          · first | rfl | (simp; done) | (simp; omega)
        ·
          have hc4' := hc4; try simp only [sumB, Bool.not_eq_true', Bool.not_eq_false', Bool.or_eq_true, Bool.or_eq_false_iff, Bool.and_eq_true, Bool.and_eq_false_imp, decide_eq_true_eq, decide_eq_false_iff_not, Bool.not_not, Bool.not_true, Bool.not_false] at hc4'
          refine AC.seq ?_
          refine AC.region ?_
          refine AL.fast 1 rfl ?_
          refine AL.val (Wanted.plain rfl) (g_binI rfl rfl rfl rfl) rfl rfl ?_
          refine AL.fast 1 rfl ?_
          refine AL.nil ?_
          refine then_ok ?_
          refine AC.cond rfl (fun hc5 => ?_) (fun hc5 => ?_)
          ·
            have hc5' := hc5; try simp only [sumB, Bool.not_eq_true', Bool.not_eq_false', Bool.or_eq_true, Bool.or_eq_false_iff, Bool.and_eq_true, Bool.and_eq_false_imp, decide_eq_true_eq, decide_eq_false_iff_not, Bool.not_not, Bool.not_true, Bool.not_false] at hc5'
            refine AC.seq ?_
            refine AC.region ?_
            refine AL.fast 1 rfl ?_
            refine AL.val (Wanted.plain rfl) (g_nilCheck rfl rfl rfl) rfl rfl ?_
            refine AL.val (Wanted.plain rfl) (g_fieldP rfl rfl Try.underlying75 rfl sz3 (by decide)) rfl rfl ?_
            refine AL.val (Wanted.plain rfl) (g_loadB rfl rfl rfl Try.underlying3 rfl rfl) rfl rfl ?_
            refine AL.fast 1 rfl ?_
            refine AL.val (Wanted.plain rfl) (g_binI rfl rfl rfl (wrap_ok (by first | omega | (simp; done) | (simp; omega)))) rfl rfl ?_
            refine AL.val (Wanted.plain rfl) (g_nilCheck rfl rfl rfl) rfl rfl ?_
            refine AL.val (Wanted.plain rfl) (g_fieldP rfl rfl Try.underlying75 rfl sz3 (by decide)) rfl rfl ?_
            refine AL.sto (h' := [(0, (.box 75 [(cI a.card), (cI a.shop), (cI (a.sum - n)), (cI a.captured), (cI a.refunded), (cI a.disputed), (cI a.till), (cB a.shut)]))]) (Wanted.plain rfl) (g_storeB rfl rfl rfl rfl rfl sz3 rfl (Nat.le_of_ble_eq_true rfl) rfl) rfl rfl rfl rfl ?_
            refine AL.nil ?_
            refine then_ok ?_
            refine AC.seq ?_
            refine AC.weak (st' := ⟨[(0, (aC (.p 0 0 0 0))), (1, (aI kind)), (2, (aI n))], [(0, (.box 75 [(cI a.card), (cI a.shop), (cI (a.sum - n)), (cI a.captured), (cI a.refunded), (cI a.disputed), (cI a.till), (cB a.shut)]))], 1⟩) (Weak.ren id (⟨by first | rfl | (simp only [AV.map, GV.map, CV.map, AB.map', id]; done) | (congr 3; omega) | (congr 4; omega) | (simp only [List.length_append, List.length_cons, List.length_nil, List.length_set]; rfl), by first | rfl | (simp only [AV.map, GV.map, CV.map, AB.map', id]; done) | (congr 3; omega) | (congr 4; omega) | (simp only [List.length_append, List.length_cons, List.length_nil, List.length_set]; rfl), by first | rfl | (simp only [AV.map, GV.map, CV.map, AB.map', id]; done) | (congr 3; omega) | (congr 4; omega) | (simp only [List.length_append, List.length_cons, List.length_nil, List.length_set]; rfl),  trivial⟩) (⟨by first | rfl | (simp only [AV.map, GV.map, CV.map, AB.map', id]; done) | (congr 3; omega) | (congr 4; omega) | (simp only [List.length_append, List.length_cons, List.length_nil, List.length_set]; rfl),  trivial⟩) rfl) ?_
            refine AC.draw [⟨some 55, (aC (.p 0 0 0 0)), [], [], [], [(0, (aC (.p 0 0 0 0)))], [(0, (.box 75 [(cI a.card), (cI a.shop), (cI (a.sum - n)), (cI a.captured), (cI a.refunded), (cI a.disputed), (cI a.till), (cB a.shut)]))]⟩,
      ⟨some 56, (aC (.p 0 0 0 0)), [], [], [], [(0, (aC (.p 0 0 0 0)))], [(0, (.box 75 [(cI a.card), (cI a.shop), (cI (a.sum - n)), (cI a.captured), (cI a.refunded), (cI a.disputed), (cI a.till), (cB a.shut)]))]⟩,
      ⟨some 57, (aC (.p 0 0 0 0)), [], [], [1], [(56, (aC (.p 0 0 0 0)))], [(0, (.box 75 [(cI a.card), (cI a.shop), (cI (a.sum - n)), (cI a.captured), (cI a.refunded), (cI a.disputed), (cI a.till), (cB a.shut)]))]⟩,
      ⟨some 58, (aC (.p 0 0 0 2)), [], [], [2], [(57, (aC (.p 0 0 0 0)))], [(0, (.box 75 [(cI a.card), (cI a.shop), (cI (a.sum - n)), (cI a.captured), (cI a.refunded), (cI a.disputed), (cI a.till), (cB a.shut)]))]⟩,
      ⟨some 59, (aI (a.sum - n)), [], [], [3], [(58, (aC (.p 0 0 0 2)))], [(0, (.box 75 [(cI a.card), (cI a.shop), (cI (a.sum - n)), (cI a.captured), (cI a.refunded), (cI a.disputed), (cI a.till), (cB a.shut)]))]⟩,
      ⟨some 60, (aC (.p 0 0 0 0)), [], [], [], [(0, (aC (.p 0 0 0 0)))], [(0, (.box 75 [(cI a.card), (cI a.shop), (cI (a.sum - n)), (cI a.captured), (cI a.refunded), (cI a.disputed), (cI a.till), (cB a.shut)]))]⟩,
      ⟨some 61, (aC (.p 0 0 0 0)), [], [], [5], [(60, (aC (.p 0 0 0 0)))], [(0, (.box 75 [(cI a.card), (cI a.shop), (cI (a.sum - n)), (cI a.captured), (cI a.refunded), (cI a.disputed), (cI a.till), (cB a.shut)]))]⟩,
      ⟨some 62, (aC (.p 0 0 0 3)), [], [], [6], [(61, (aC (.p 0 0 0 0)))], [(0, (.box 75 [(cI a.card), (cI a.shop), (cI (a.sum - n)), (cI a.captured), (cI a.refunded), (cI a.disputed), (cI a.till), (cB a.shut)]))]⟩,
      ⟨some 63, (aI a.captured), [], [], [7], [(62, (aC (.p 0 0 0 3)))], [(0, (.box 75 [(cI a.card), (cI a.shop), (cI (a.sum - n)), (cI a.captured), (cI a.refunded), (cI a.disputed), (cI a.till), (cB a.shut)]))]⟩,
      ⟨some 64, (aB (decide ((a.sum - n) = a.captured))), [], [], [4, 8], [(59, (aI (a.sum - n))), (63, (aI a.captured))], []⟩,
      ⟨some 65, (aC (.p 0 0 0 0)), [], [], [0], [(55, (aC (.p 0 0 0 0)))], [(0, (.box 75 [(cI a.card), (cI a.shop), (cI (a.sum - n)), (cI a.captured), (cI a.refunded), (cI a.disputed), (cI a.till), (cB a.shut)]))]⟩,
      ⟨some 66, (aC (.p 0 0 0 7)), [], [], [10], [(65, (aC (.p 0 0 0 0)))], [(0, (.box 75 [(cI a.card), (cI a.shop), (cI (a.sum - n)), (cI a.captured), (cI a.refunded), (cI a.disputed), (cI a.till), (cB a.shut)]))]⟩] ⟨[(0, (aC (.p 0 0 0 0))), (1, (aI kind)), (2, (aI n)), (64, (aB (decide ((a.sum - n) = a.captured)))), (66, (aC (.p 0 0 0 7)))], [(0, (.box 75 [(cI a.card), (cI a.shop), (cI (a.sum - n)), (cI a.captured), (cI a.refunded), (cI a.disputed), (cI a.till), (cB a.shut)]))], 1⟩ mixed (by kernel_rfl) ?_ ?_ ?_ ?_
            · exact ⟨.inl ⟨(Wanted.plain rfl), GOp.cast (g_move rfl rfl) rfl⟩,
      .inl ⟨(Wanted.plain rfl), GOp.cast (g_move rfl rfl) rfl⟩,
      .inl ⟨(Wanted.plain rfl), GOp.cast (g_nilCheck rfl rfl rfl) rfl⟩,
      .inl ⟨(Wanted.plain rfl), GOp.cast (g_fieldP rfl rfl Try.underlying75 rfl sz3 (by decide)) rfl⟩,
      .inl ⟨(Wanted.plain rfl), GOp.cast (g_loadB rfl rfl rfl Try.underlying3 rfl rfl) rfl⟩,
      .inl ⟨(Wanted.plain rfl), GOp.cast (g_move rfl rfl) rfl⟩,
      .inl ⟨(Wanted.plain rfl), GOp.cast (g_nilCheck rfl rfl rfl) rfl⟩,
      .inl ⟨(Wanted.plain rfl), GOp.cast (g_fieldP rfl rfl Try.underlying75 rfl sz3 (by decide)) rfl⟩,
      .inl ⟨(Wanted.plain rfl), GOp.cast (g_loadB rfl rfl rfl Try.underlying3 rfl rfl) rfl⟩,
      .inl ⟨(Wanted.plain rfl), GOp.cast (g_binI rfl rfl rfl rfl) rfl⟩,
      .inl ⟨(Wanted.plain rfl), GOp.cast (g_nilCheck rfl rfl rfl) rfl⟩,
      .inl ⟨(Wanted.plain rfl), GOp.cast (g_fieldP rfl rfl Try.underlying75 rfl sz4 (by decide)) rfl⟩,
       trivial⟩
            · exact ⟨⟨⟨.inl rfl,  trivial⟩, ⟨.inl rfl,  trivial⟩⟩, ⟨⟨.inl rfl,  trivial⟩, ⟨.inl rfl,  trivial⟩⟩, ⟨⟨.inr ⟨1, .head _, _, rfl, rfl, rfl⟩,  trivial⟩, ⟨.inl rfl,  trivial⟩⟩, ⟨⟨.inr ⟨2, .head _, _, rfl, rfl, rfl⟩,  trivial⟩, ⟨.inl rfl,  trivial⟩⟩, ⟨⟨.inr ⟨3, .head _, _, rfl, rfl, rfl⟩,  trivial⟩, ⟨.inl rfl,  trivial⟩⟩, ⟨⟨.inl rfl,  trivial⟩, ⟨.inl rfl,  trivial⟩⟩, ⟨⟨.inr ⟨5, .head _, _, rfl, rfl, rfl⟩,  trivial⟩, ⟨.inl rfl,  trivial⟩⟩, ⟨⟨.inr ⟨6, .head _, _, rfl, rfl, rfl⟩,  trivial⟩, ⟨.inl rfl,  trivial⟩⟩, ⟨⟨.inr ⟨7, .head _, _, rfl, rfl, rfl⟩,  trivial⟩, ⟨.inl rfl,  trivial⟩⟩, ⟨⟨.inr ⟨4, .head _, _, rfl, rfl, rfl⟩, .inr ⟨8, .tail _ (.head _), _, rfl, rfl, rfl⟩,  trivial⟩, trivial⟩, ⟨⟨.inr ⟨0, .head _, _, rfl, rfl, rfl⟩,  trivial⟩, ⟨.inl rfl,  trivial⟩⟩, ⟨⟨.inr ⟨10, .head _, _, rfl, rfl, rfl⟩,  trivial⟩, ⟨.inl rfl,  trivial⟩⟩,  trivial⟩
            · exact ⟨⟨.inl rfl, .inl rfl, .inl rfl, .inr ⟨9, _, rfl, rfl, rfl⟩, .inr ⟨11, _, rfl, rfl, rfl⟩,  trivial⟩, ⟨.inl rfl,  trivial⟩⟩
            ·
              refine AL.sto (h' := [(0, (.box 75 [(cI a.card), (cI a.shop), (cI (a.sum - n)), (cI a.captured), (cI a.refunded), (cI a.disputed), (cI a.till), (cB (decide ((a.sum - n) = a.captured)))]))]) (Wanted.plain rfl) (g_storeB rfl rfl rfl rfl rfl sz4 rfl (Nat.le_of_ble_eq_true rfl) rfl) rfl rfl rfl rfl ?_
              refine AL.nil ?_
              refine then_ok ?_
              refine AC.seq ?_
              refine AC.region ?_
              refine AL.fast 1 rfl ?_
              refine AL.nil ?_
              refine then_ok ?_
              refine AC.ret ?_
              refine block_ret ?_
              refine then_ret ?_
              have hX : openAuth a kind n = ((⟨a.card, a.shop, a.sum - n, a.captured, a.refunded, a.disputed, a.till, decide ((a.sum - n) = a.captured)⟩ : Auth), 0) := by
                (unfold openAuth; try dsimp only); (repeat' split) <;> first | rfl | omega | (exfalso; omega) | (subst_vars; rfl) | (simp_all; done) | (simp_all; omega)
              rw [hX] at hr; clear hX
              simp only [Prod.mk.injEq] at hr; obtain ⟨rfl, rfl⟩ := hr
              refine retQ_mk (av' := outOf [(.c (cI 0))]) (nb' := [(0, (.box 75 [(cI a.card), (cI a.shop), (cI (a.sum - n)), (cI a.captured), (cI a.refunded), (cI a.disputed), (cI a.till), (cB (decide ((a.sum - n) = a.captured)))]))]) (retQ_ret ⟨[(6, (aI 0))], [(0, (.box 75 [(cI a.card), (cI a.shop), (cI (a.sum - n)), (cI a.captured), (cI a.refunded), (cI a.disputed), (cI a.till), (cB (decide ((a.sum - n) = a.captured)))]))], 1⟩ [.tmp 6] [(.c (cI 0))] (Weak.ren (fun k => if k = 0 then 0 else k) (⟨by first | rfl | (simp only [AV.map, GV.map, CV.map, AB.map', id]; done) | (congr 3; omega) | (congr 4; omega) | (simp only [List.length_append, List.length_cons, List.length_nil, List.length_set]; rfl),  trivial⟩) (⟨by first | rfl | (simp only [AV.map, GV.map, CV.map, AB.map', id]; done) | (congr 3; omega) | (congr 4; omega) | (simp only [List.length_append, List.length_cons, List.length_nil, List.length_set]; rfl),  trivial⟩) rfl) rfl ⟨.tmp rfl, trivial⟩ ⟨by first | rfl | (simp only [AV.map, GV.map, CV.map, AB.map', id]; done) | (congr 3; omega) | (congr 4; omega) | (simp only [List.length_append, List.length_cons, List.length_nil, List.length_set]; rfl),  trivial⟩) ?_ ?_
              · first | rfl | (simp [outOf, aC]; done) | (simp [outOf, aC]; omega)
              · first | rfl | (simp; done) | (simp; omega)
          ·
            have hc5' := hc5; try simp only [sumB, Bool.not_eq_true', Bool.not_eq_false', Bool.or_eq_true, Bool.or_eq_false_iff, Bool.and_eq_true, Bool.and_eq_false_imp, decide_eq_true_eq, decide_eq_false_iff_not, Bool.not_not, Bool.not_true, Bool.not_false] at hc5'
            refine AC.skip ?_
            refine block_ok ?_
            refine then_ok ?_
            refine AC.seq ?_
            refine AC.region ?_
            refine AL.fast 1 rfl ?_
            refine AL.val (Wanted.plain rfl) (g_nilCheck rfl rfl rfl) rfl rfl ?_
            refine AL.val (Wanted.plain rfl) (g_fieldP rfl rfl Try.underlying75 rfl sz3 (by decide)) rfl rfl ?_
            refine AL.val (Wanted.plain rfl) (g_loadB rfl rfl rfl Try.underlying3 rfl rfl) rfl rfl ?_
            refine AL.fast 1 rfl ?_
            refine AL.val (Wanted.plain rfl) (g_binI rfl rfl rfl (wrap_ok (by first | omega | (simp; done) | (simp; omega)))) rfl rfl ?_
            refine AL.val (Wanted.plain rfl) (g_nilCheck rfl rfl rfl) rfl rfl ?_
            refine AL.val (Wanted.plain rfl) (g_fieldP rfl rfl Try.underlying75 rfl sz3 (by decide)) rfl rfl ?_
            refine AL.sto (h' := [(0, (.box 75 [(cI a.card), (cI a.shop), (cI a.sum), (cI (a.captured + n)), (cI a.refunded), (cI a.disputed), (cI a.till), (cB a.shut)]))]) (Wanted.plain rfl) (g_storeB rfl rfl rfl rfl rfl sz3 rfl (Nat.le_of_ble_eq_true rfl) rfl) rfl rfl rfl rfl ?_
            refine AL.nil ?_
            refine then_ok ?_
            refine AC.seq ?_
            rcases Bool.eq_false_or_eq_true (decide (kind = 3)) with hb6 | hb6
            ·
              have hb6' := hb6; try simp only [sumB, Bool.not_eq_true', Bool.not_eq_false', Bool.or_eq_true, Bool.or_eq_false_iff, Bool.and_eq_true, Bool.and_eq_false_imp, decide_eq_true_eq, decide_eq_false_iff_not, Bool.not_not, Bool.not_true, Bool.not_false] at hb6'
              refine AC.weak (st' := ⟨[(0, (aC (.p 0 0 0 0))), (1, (aI kind))], [(0, (.box 75 [(cI a.card), (cI a.shop), (cI a.sum), (cI (a.captured + n)), (cI a.refunded), (cI a.disputed), (cI a.till), (cB a.shut)]))], 1⟩) (Weak.ren id (⟨by first | rfl | (simp only [AV.map, GV.map, CV.map, AB.map', id]; done) | (congr 3; omega) | (congr 4; omega) | (simp only [List.length_append, List.length_cons, List.length_nil, List.length_set]; rfl), by first | rfl | (simp only [AV.map, GV.map, CV.map, AB.map', id]; done) | (congr 3; omega) | (congr 4; omega) | (simp only [List.length_append, List.length_cons, List.length_nil, List.length_set]; rfl),  trivial⟩) (⟨by first | rfl | (simp only [AV.map, GV.map, CV.map, AB.map', id]; done) | (congr 3; omega) | (congr 4; omega) | (simp only [List.length_append, List.length_cons, List.length_nil, List.length_set]; rfl),  trivial⟩) rfl) ?_
              refine AC.draw [⟨some 75, (aC (.p 0 0 0 0)), [], [], [], [(0, (aC (.p 0 0 0 0)))], [(0, (.box 75 [(cI a.card), (cI a.shop), (cI a.sum), (cI (a.captured + n)), (cI a.refunded), (cI a.disputed), (cI a.till), (cB a.shut)]))]⟩,
      ⟨some 76, (aI kind), [], [], [], [(1, (aI kind))], []⟩,
      ⟨some 77, (aB true), [], [], [1], [(76, (aI kind))], []⟩,
      ⟨some 78, (aB true), [], [], [2], [(77, (aB true))], []⟩,
      ⟨some 79, (.t []), [], [], [3], [(0, (aC (.p 0 0 0 0))), (78, (aB true))], []⟩,
      ⟨some 80, (.t []), [], [], [3, 4], [(79, (.t [])), (78, (aB true))], []⟩,
      ⟨some 81, (.t []), [], [], [3, 5], [(80, (.t [])), (78, (aB true))], []⟩,
      ⟨some 82, (.t []), [], [], [3, 6], [(81, (.t [])), (78, (aB true))], []⟩,
      ⟨some 83, (.t []), [], [], [3], [(0, (aC (.p 0 0 0 0))), (78, (aB true))], []⟩,
      ⟨some 84, (.t []), [], [], [3, 8], [(83, (.t [])), (78, (aB true))], []⟩,
      ⟨some 85, (.t []), [], [], [3, 9], [(84, (.t [])), (78, (aB true))], []⟩,
      ⟨some 86, (.t []), [], [], [3, 10], [(85, (.t [])), (78, (aB true))], []⟩,
      ⟨some 87, (.t []), [], [], [3, 7, 11], [(82, (.t [])), (86, (.t [])), (78, (aB true))], []⟩,
      ⟨some 88, (aB true), [], [], [3, 12], [(78, (aB true)), (87, (.t []))], []⟩,
      ⟨some 89, (aC (.p 0 0 0 0)), [], [], [0], [(75, (aC (.p 0 0 0 0)))], [(0, (.box 75 [(cI a.card), (cI a.shop), (cI a.sum), (cI (a.captured + n)), (cI a.refunded), (cI a.disputed), (cI a.till), (cB a.shut)]))]⟩,
      ⟨some 90, (aC (.p 0 0 0 7)), [], [], [14], [(89, (aC (.p 0 0 0 0)))], [(0, (.box 75 [(cI a.card), (cI a.shop), (cI a.sum), (cI (a.captured + n)), (cI a.refunded), (cI a.disputed), (cI a.till), (cB a.shut)]))]⟩] ⟨[(0, (aC (.p 0 0 0 0))), (1, (aI kind)), (88, (aB true)), (90, (aC (.p 0 0 0 7)))], [(0, (.box 75 [(cI a.card), (cI a.shop), (cI a.sum), (cI (a.captured + n)), (cI a.refunded), (cI a.disputed), (cI a.till), (cB a.shut)]))], 1⟩ mixed (by kernel_rfl) ?_ ?_ ?_ ?_
              · exact ⟨.inl ⟨(Wanted.plain rfl), GOp.cast (g_move rfl rfl) rfl⟩,
      .inl ⟨(Wanted.plain rfl), GOp.cast (g_move rfl rfl) rfl⟩,
      .inl ⟨(Wanted.plain rfl), GOp.cast (g_binI rfl rfl rfl (congrArg (fun b => some (Value.bool b)) hb6)) rfl⟩,
      .inl ⟨(Wanted.plain rfl), GOp.cast (g_move rfl rfl) rfl⟩,
      .inr ⟨(Unwanted.no rfl rfl rfl), rfl, rfl, rfl⟩,
      .inr ⟨(Unwanted.no rfl rfl rfl), rfl, rfl, rfl⟩,
      .inr ⟨(Unwanted.no rfl rfl rfl), rfl, rfl, rfl⟩,
      .inr ⟨(Unwanted.no rfl rfl rfl), rfl, rfl, rfl⟩,
      .inr ⟨(Unwanted.no rfl rfl rfl), rfl, rfl, rfl⟩,
      .inr ⟨(Unwanted.no rfl rfl rfl), rfl, rfl, rfl⟩,
      .inr ⟨(Unwanted.no rfl rfl rfl), rfl, rfl, rfl⟩,
      .inr ⟨(Unwanted.no rfl rfl rfl), rfl, rfl, rfl⟩,
      .inr ⟨(Unwanted.no rfl rfl rfl), rfl, rfl, rfl⟩,
      .inl ⟨(Wanted.plain rfl), GOp.cast (g_pick rfl rfl rfl) rfl⟩,
      .inl ⟨(Wanted.plain rfl), GOp.cast (g_nilCheck rfl rfl rfl) rfl⟩,
      .inl ⟨(Wanted.plain rfl), GOp.cast (g_fieldP rfl rfl Try.underlying75 rfl sz4 (by decide)) rfl⟩,
       trivial⟩
              · exact ⟨⟨⟨.inl rfl,  trivial⟩, ⟨.inl rfl,  trivial⟩⟩, ⟨⟨.inl rfl,  trivial⟩, trivial⟩, ⟨⟨.inr ⟨1, .head _, _, rfl, rfl, rfl⟩,  trivial⟩, trivial⟩, ⟨⟨.inr ⟨2, .head _, _, rfl, rfl, rfl⟩,  trivial⟩, trivial⟩, ⟨⟨.inl rfl, .inr ⟨3, .head _, _, rfl, rfl, rfl⟩,  trivial⟩, trivial⟩, ⟨⟨.inr ⟨4, .tail _ (.head _), _, rfl, rfl, rfl⟩, .inr ⟨3, .head _, _, rfl, rfl, rfl⟩,  trivial⟩, trivial⟩, ⟨⟨.inr ⟨5, .tail _ (.head _), _, rfl, rfl, rfl⟩, .inr ⟨3, .head _, _, rfl, rfl, rfl⟩,  trivial⟩, trivial⟩, ⟨⟨.inr ⟨6, .tail _ (.head _), _, rfl, rfl, rfl⟩, .inr ⟨3, .head _, _, rfl, rfl, rfl⟩,  trivial⟩, trivial⟩, ⟨⟨.inl rfl, .inr ⟨3, .head _, _, rfl, rfl, rfl⟩,  trivial⟩, trivial⟩, ⟨⟨.inr ⟨8, .tail _ (.head _), _, rfl, rfl, rfl⟩, .inr ⟨3, .head _, _, rfl, rfl, rfl⟩,  trivial⟩, trivial⟩, ⟨⟨.inr ⟨9, .tail _ (.head _), _, rfl, rfl, rfl⟩, .inr ⟨3, .head _, _, rfl, rfl, rfl⟩,  trivial⟩, trivial⟩, ⟨⟨.inr ⟨10, .tail _ (.head _), _, rfl, rfl, rfl⟩, .inr ⟨3, .head _, _, rfl, rfl, rfl⟩,  trivial⟩, trivial⟩, ⟨⟨.inr ⟨7, .tail _ (.head _), _, rfl, rfl, rfl⟩, .inr ⟨11, .tail _ (.tail _ (.head _)), _, rfl, rfl, rfl⟩, .inr ⟨3, .head _, _, rfl, rfl, rfl⟩,  trivial⟩, trivial⟩, ⟨⟨.inr ⟨3, .head _, _, rfl, rfl, rfl⟩, .inr ⟨12, .tail _ (.head _), _, rfl, rfl, rfl⟩,  trivial⟩, trivial⟩, ⟨⟨.inr ⟨0, .head _, _, rfl, rfl, rfl⟩,  trivial⟩, ⟨.inl rfl,  trivial⟩⟩, ⟨⟨.inr ⟨14, .head _, _, rfl, rfl, rfl⟩,  trivial⟩, ⟨.inl rfl,  trivial⟩⟩,  trivial⟩
              · exact ⟨⟨.inl rfl, .inl rfl, .inr ⟨13, _, rfl, rfl, rfl⟩, .inr ⟨15, _, rfl, rfl, rfl⟩,  trivial⟩, ⟨.inl rfl,  trivial⟩⟩
              ·
                refine AL.sto (h' := [(0, (.box 75 [(cI a.card), (cI a.shop), (cI a.sum), (cI (a.captured + n)), (cI a.refunded), (cI a.disputed), (cI a.till), (cB true)]))]) (Wanted.plain rfl) (g_storeB rfl rfl rfl rfl rfl sz4 rfl (Nat.le_of_ble_eq_true rfl) rfl) rfl rfl rfl rfl ?_
                refine AL.nil ?_
                refine then_ok ?_
                refine AC.seq ?_
                refine AC.region ?_
                refine AL.fast 1 rfl ?_
                refine AL.nil ?_
                refine then_ok ?_
                refine AC.ret ?_
                have hX : openAuth a kind n = ((⟨a.card, a.shop, a.sum, a.captured + n, a.refunded, a.disputed, a.till, true⟩ : Auth), 0) := by
                  (unfold openAuth; try dsimp only); (repeat' split) <;> first | rfl | omega | (exfalso; omega) | (subst_vars; rfl) | (simp_all; done) | (simp_all; omega)
                rw [hX] at hr; clear hX
                simp only [Prod.mk.injEq] at hr; obtain ⟨rfl, rfl⟩ := hr
                refine retQ_mk (av' := outOf [(.c (cI 0))]) (nb' := [(0, (.box 75 [(cI a.card), (cI a.shop), (cI a.sum), (cI (a.captured + n)), (cI a.refunded), (cI a.disputed), (cI a.till), (cB true)]))]) (retQ_ret ⟨[(6, (aI 0))], [(0, (.box 75 [(cI a.card), (cI a.shop), (cI a.sum), (cI (a.captured + n)), (cI a.refunded), (cI a.disputed), (cI a.till), (cB true)]))], 1⟩ [.tmp 6] [(.c (cI 0))] (Weak.ren (fun k => if k = 0 then 0 else k) (⟨by first | rfl | (simp only [AV.map, GV.map, CV.map, AB.map', id]; done) | (congr 3; omega) | (congr 4; omega) | (simp only [List.length_append, List.length_cons, List.length_nil, List.length_set]; rfl),  trivial⟩) (⟨by first | rfl | (simp only [AV.map, GV.map, CV.map, AB.map', id]; done) | (congr 3; omega) | (congr 4; omega) | (simp only [List.length_append, List.length_cons, List.length_nil, List.length_set]; rfl),  trivial⟩) rfl) rfl ⟨.tmp rfl, trivial⟩ ⟨by first | rfl | (simp only [AV.map, GV.map, CV.map, AB.map', id]; done) | (congr 3; omega) | (congr 4; omega) | (simp only [List.length_append, List.length_cons, List.length_nil, List.length_set]; rfl),  trivial⟩) ?_ ?_
                · first | rfl | (simp [outOf, aC]; done) | (simp [outOf, aC]; omega)
                · first | rfl | (simp; done) | (simp; omega)
            ·
              have hb6' := hb6; try simp only [sumB, Bool.not_eq_true', Bool.not_eq_false', Bool.or_eq_true, Bool.or_eq_false_iff, Bool.and_eq_true, Bool.and_eq_false_imp, decide_eq_true_eq, decide_eq_false_iff_not, Bool.not_not, Bool.not_true, Bool.not_false] at hb6'
              refine AC.weak (st' := ⟨[(0, (aC (.p 0 0 0 0))), (1, (aI kind))], [(0, (.box 75 [(cI a.card), (cI a.shop), (cI a.sum), (cI (a.captured + n)), (cI a.refunded), (cI a.disputed), (cI a.till), (cB a.shut)]))], 1⟩) (Weak.ren id (⟨by first | rfl | (simp only [AV.map, GV.map, CV.map, AB.map', id]; done) | (congr 3; omega) | (congr 4; omega) | (simp only [List.length_append, List.length_cons, List.length_nil, List.length_set]; rfl), by first | rfl | (simp only [AV.map, GV.map, CV.map, AB.map', id]; done) | (congr 3; omega) | (congr 4; omega) | (simp only [List.length_append, List.length_cons, List.length_nil, List.length_set]; rfl),  trivial⟩) (⟨by first | rfl | (simp only [AV.map, GV.map, CV.map, AB.map', id]; done) | (congr 3; omega) | (congr 4; omega) | (simp only [List.length_append, List.length_cons, List.length_nil, List.length_set]; rfl),  trivial⟩) rfl) ?_
              refine AC.draw [⟨some 75, (aC (.p 0 0 0 0)), [], [], [], [(0, (aC (.p 0 0 0 0)))], [(0, (.box 75 [(cI a.card), (cI a.shop), (cI a.sum), (cI (a.captured + n)), (cI a.refunded), (cI a.disputed), (cI a.till), (cB a.shut)]))]⟩,
      ⟨some 76, (aI kind), [], [], [], [(1, (aI kind))], []⟩,
      ⟨some 77, (aB false), [], [], [1], [(76, (aI kind))], []⟩,
      ⟨some 78, (aB false), [], [], [2], [(77, (aB false))], []⟩,
      ⟨some 79, (aC (.p 0 0 0 0)), [], [], [3], [(0, (aC (.p 0 0 0 0))), (78, (aB false))], [(0, (.box 75 [(cI a.card), (cI a.shop), (cI a.sum), (cI (a.captured + n)), (cI a.refunded), (cI a.disputed), (cI a.till), (cB a.shut)]))]⟩,
      ⟨some 80, (aC (.p 0 0 0 0)), [], [], [3, 4], [(79, (aC (.p 0 0 0 0))), (78, (aB false))], [(0, (.box 75 [(cI a.card), (cI a.shop), (cI a.sum), (cI (a.captured + n)), (cI a.refunded), (cI a.disputed), (cI a.till), (cB a.shut)]))]⟩,
      ⟨some 81, (aC (.p 0 0 0 3)), [], [], [3, 5], [(80, (aC (.p 0 0 0 0))), (78, (aB false))], [(0, (.box 75 [(cI a.card), (cI a.shop), (cI a.sum), (cI (a.captured + n)), (cI a.refunded), (cI a.disputed), (cI a.till), (cB a.shut)]))]⟩,
      ⟨some 82, (aI (a.captured + n)), [], [], [3, 6], [(81, (aC (.p 0 0 0 3))), (78, (aB false))], [(0, (.box 75 [(cI a.card), (cI a.shop), (cI a.sum), (cI (a.captured + n)), (cI a.refunded), (cI a.disputed), (cI a.till), (cB a.shut)]))]⟩,
      ⟨some 83, (aC (.p 0 0 0 0)), [], [], [3], [(0, (aC (.p 0 0 0 0))), (78, (aB false))], [(0, (.box 75 [(cI a.card), (cI a.shop), (cI a.sum), (cI (a.captured + n)), (cI a.refunded), (cI a.disputed), (cI a.till), (cB a.shut)]))]⟩,
      ⟨some 84, (aC (.p 0 0 0 0)), [], [], [3, 8], [(83, (aC (.p 0 0 0 0))), (78, (aB false))], [(0, (.box 75 [(cI a.card), (cI a.shop), (cI a.sum), (cI (a.captured + n)), (cI a.refunded), (cI a.disputed), (cI a.till), (cB a.shut)]))]⟩,
      ⟨some 85, (aC (.p 0 0 0 2)), [], [], [3, 9], [(84, (aC (.p 0 0 0 0))), (78, (aB false))], [(0, (.box 75 [(cI a.card), (cI a.shop), (cI a.sum), (cI (a.captured + n)), (cI a.refunded), (cI a.disputed), (cI a.till), (cB a.shut)]))]⟩,
      ⟨some 86, (aI a.sum), [], [], [3, 10], [(85, (aC (.p 0 0 0 2))), (78, (aB false))], [(0, (.box 75 [(cI a.card), (cI a.shop), (cI a.sum), (cI (a.captured + n)), (cI a.refunded), (cI a.disputed), (cI a.till), (cB a.shut)]))]⟩,
      ⟨some 87, (aB (decide ((a.captured + n) = a.sum))), [], [], [3, 7, 11], [(82, (aI (a.captured + n))), (86, (aI a.sum)), (78, (aB false))], []⟩,
      ⟨some 88, (aB (decide ((a.captured + n) = a.sum))), [], [], [3, 12], [(78, (aB false)), (87, (aB (decide ((a.captured + n) = a.sum))))], []⟩,
      ⟨some 89, (aC (.p 0 0 0 0)), [], [], [0], [(75, (aC (.p 0 0 0 0)))], [(0, (.box 75 [(cI a.card), (cI a.shop), (cI a.sum), (cI (a.captured + n)), (cI a.refunded), (cI a.disputed), (cI a.till), (cB a.shut)]))]⟩,
      ⟨some 90, (aC (.p 0 0 0 7)), [], [], [14], [(89, (aC (.p 0 0 0 0)))], [(0, (.box 75 [(cI a.card), (cI a.shop), (cI a.sum), (cI (a.captured + n)), (cI a.refunded), (cI a.disputed), (cI a.till), (cB a.shut)]))]⟩] ⟨[(0, (aC (.p 0 0 0 0))), (1, (aI kind)), (88, (aB (decide ((a.captured + n) = a.sum)))), (90, (aC (.p 0 0 0 7)))], [(0, (.box 75 [(cI a.card), (cI a.shop), (cI a.sum), (cI (a.captured + n)), (cI a.refunded), (cI a.disputed), (cI a.till), (cB a.shut)]))], 1⟩ mixed (by kernel_rfl) ?_ ?_ ?_ ?_
              · exact ⟨.inl ⟨(Wanted.plain rfl), GOp.cast (g_move rfl rfl) rfl⟩,
      .inl ⟨(Wanted.plain rfl), GOp.cast (g_move rfl rfl) rfl⟩,
      .inl ⟨(Wanted.plain rfl), GOp.cast (g_binI rfl rfl rfl (congrArg (fun b => some (Value.bool b)) hb6)) rfl⟩,
      .inl ⟨(Wanted.plain rfl), GOp.cast (g_move rfl rfl) rfl⟩,
      .inl ⟨(Wanted.yes rfl rfl rfl), GOp.cast (g_move rfl rfl) rfl⟩,
      .inl ⟨(Wanted.yes rfl rfl rfl), GOp.cast (g_nilCheck rfl rfl rfl) rfl⟩,
      .inl ⟨(Wanted.yes rfl rfl rfl), GOp.cast (g_fieldP rfl rfl Try.underlying75 rfl sz3 (by decide)) rfl⟩,
      .inl ⟨(Wanted.yes rfl rfl rfl), GOp.cast (g_loadB rfl rfl rfl Try.underlying3 rfl rfl) rfl⟩,
      .inl ⟨(Wanted.yes rfl rfl rfl), GOp.cast (g_move rfl rfl) rfl⟩,
      .inl ⟨(Wanted.yes rfl rfl rfl), GOp.cast (g_nilCheck rfl rfl rfl) rfl⟩,
      .inl ⟨(Wanted.yes rfl rfl rfl), GOp.cast (g_fieldP rfl rfl Try.underlying75 rfl sz3 (by decide)) rfl⟩,
      .inl ⟨(Wanted.yes rfl rfl rfl), GOp.cast (g_loadB rfl rfl rfl Try.underlying3 rfl rfl) rfl⟩,
      .inl ⟨(Wanted.yes rfl rfl rfl), GOp.cast (g_binI rfl rfl rfl rfl) rfl⟩,
      .inl ⟨(Wanted.plain rfl), GOp.cast (g_pick rfl rfl rfl) rfl⟩,
      .inl ⟨(Wanted.plain rfl), GOp.cast (g_nilCheck rfl rfl rfl) rfl⟩,
      .inl ⟨(Wanted.plain rfl), GOp.cast (g_fieldP rfl rfl Try.underlying75 rfl sz4 (by decide)) rfl⟩,
       trivial⟩
              · exact ⟨⟨⟨.inl rfl,  trivial⟩, ⟨.inl rfl,  trivial⟩⟩, ⟨⟨.inl rfl,  trivial⟩, trivial⟩, ⟨⟨.inr ⟨1, .head _, _, rfl, rfl, rfl⟩,  trivial⟩, trivial⟩, ⟨⟨.inr ⟨2, .head _, _, rfl, rfl, rfl⟩,  trivial⟩, trivial⟩, ⟨⟨.inl rfl, .inr ⟨3, .head _, _, rfl, rfl, rfl⟩,  trivial⟩, ⟨.inl rfl,  trivial⟩⟩, ⟨⟨.inr ⟨4, .tail _ (.head _), _, rfl, rfl, rfl⟩, .inr ⟨3, .head _, _, rfl, rfl, rfl⟩,  trivial⟩, ⟨.inl rfl,  trivial⟩⟩, ⟨⟨.inr ⟨5, .tail _ (.head _), _, rfl, rfl, rfl⟩, .inr ⟨3, .head _, _, rfl, rfl, rfl⟩,  trivial⟩, ⟨.inl rfl,  trivial⟩⟩, ⟨⟨.inr ⟨6, .tail _ (.head _), _, rfl, rfl, rfl⟩, .inr ⟨3, .head _, _, rfl, rfl, rfl⟩,  trivial⟩, ⟨.inl rfl,  trivial⟩⟩, ⟨⟨.inl rfl, .inr ⟨3, .head _, _, rfl, rfl, rfl⟩,  trivial⟩, ⟨.inl rfl,  trivial⟩⟩, ⟨⟨.inr ⟨8, .tail _ (.head _), _, rfl, rfl, rfl⟩, .inr ⟨3, .head _, _, rfl, rfl, rfl⟩,  trivial⟩, ⟨.inl rfl,  trivial⟩⟩, ⟨⟨.inr ⟨9, .tail _ (.head _), _, rfl, rfl, rfl⟩, .inr ⟨3, .head _, _, rfl, rfl, rfl⟩,  trivial⟩, ⟨.inl rfl,  trivial⟩⟩, ⟨⟨.inr ⟨10, .tail _ (.head _), _, rfl, rfl, rfl⟩, .inr ⟨3, .head _, _, rfl, rfl, rfl⟩,  trivial⟩, ⟨.inl rfl,  trivial⟩⟩, ⟨⟨.inr ⟨7, .tail _ (.head _), _, rfl, rfl, rfl⟩, .inr ⟨11, .tail _ (.tail _ (.head _)), _, rfl, rfl, rfl⟩, .inr ⟨3, .head _, _, rfl, rfl, rfl⟩,  trivial⟩, trivial⟩, ⟨⟨.inr ⟨3, .head _, _, rfl, rfl, rfl⟩, .inr ⟨12, .tail _ (.head _), _, rfl, rfl, rfl⟩,  trivial⟩, trivial⟩, ⟨⟨.inr ⟨0, .head _, _, rfl, rfl, rfl⟩,  trivial⟩, ⟨.inl rfl,  trivial⟩⟩, ⟨⟨.inr ⟨14, .head _, _, rfl, rfl, rfl⟩,  trivial⟩, ⟨.inl rfl,  trivial⟩⟩,  trivial⟩
              · exact ⟨⟨.inl rfl, .inl rfl, .inr ⟨13, _, rfl, rfl, rfl⟩, .inr ⟨15, _, rfl, rfl, rfl⟩,  trivial⟩, ⟨.inl rfl,  trivial⟩⟩
              ·
                refine AL.sto (h' := [(0, (.box 75 [(cI a.card), (cI a.shop), (cI a.sum), (cI (a.captured + n)), (cI a.refunded), (cI a.disputed), (cI a.till), (cB (decide ((a.captured + n) = a.sum)))]))]) (Wanted.plain rfl) (g_storeB rfl rfl rfl rfl rfl sz4 rfl (Nat.le_of_ble_eq_true rfl) rfl) rfl rfl rfl rfl ?_
                refine AL.nil ?_
                refine then_ok ?_
                refine AC.seq ?_
                refine AC.region ?_
                refine AL.fast 1 rfl ?_
                refine AL.nil ?_
                refine then_ok ?_
                refine AC.ret ?_
                have hX : openAuth a kind n = ((⟨a.card, a.shop, a.sum, a.captured + n, a.refunded, a.disputed, a.till, decide ((a.captured + n) = a.sum)⟩ : Auth), 0) := by
                  (unfold openAuth; try dsimp only); (repeat' split) <;> first | rfl | omega | (exfalso; omega) | (subst_vars; rfl) | (simp_all; done) | (simp_all; omega)
                rw [hX] at hr; clear hX
                simp only [Prod.mk.injEq] at hr; obtain ⟨rfl, rfl⟩ := hr
                refine retQ_mk (av' := outOf [(.c (cI 0))]) (nb' := [(0, (.box 75 [(cI a.card), (cI a.shop), (cI a.sum), (cI (a.captured + n)), (cI a.refunded), (cI a.disputed), (cI a.till), (cB (decide ((a.captured + n) = a.sum)))]))]) (retQ_ret ⟨[(6, (aI 0))], [(0, (.box 75 [(cI a.card), (cI a.shop), (cI a.sum), (cI (a.captured + n)), (cI a.refunded), (cI a.disputed), (cI a.till), (cB (decide ((a.captured + n) = a.sum)))]))], 1⟩ [.tmp 6] [(.c (cI 0))] (Weak.ren (fun k => if k = 0 then 0 else k) (⟨by first | rfl | (simp only [AV.map, GV.map, CV.map, AB.map', id]; done) | (congr 3; omega) | (congr 4; omega) | (simp only [List.length_append, List.length_cons, List.length_nil, List.length_set]; rfl),  trivial⟩) (⟨by first | rfl | (simp only [AV.map, GV.map, CV.map, AB.map', id]; done) | (congr 3; omega) | (congr 4; omega) | (simp only [List.length_append, List.length_cons, List.length_nil, List.length_set]; rfl),  trivial⟩) rfl) rfl ⟨.tmp rfl, trivial⟩ ⟨by first | rfl | (simp only [AV.map, GV.map, CV.map, AB.map', id]; done) | (congr 3; omega) | (congr 4; omega) | (simp only [List.length_append, List.length_cons, List.length_nil, List.length_set]; rfl),  trivial⟩) ?_ ?_
                · first | rfl | (simp [outOf, aC]; done) | (simp [outOf, aC]; omega)
                · first | rfl | (simp; done) | (simp; omega)
set_option maxRecDepth 100000 in
set_option maxHeartbeats 1000000 in
theorem c_auth_Move (a : Auth) (kind n : Int) (b : Auth) (e : Int) (hr : moveAuth a kind n = (b, e)) : Fn Try.prog 65 [(.g [(cI a.card), (cI a.shop), (cI a.sum), (cI a.captured), (cI a.refunded), (cI a.disputed), (cI a.till), (cB a.shut)]), (.c (cI kind)), (.c (cI n))] (.t [(.g [(cI b.card), (cI b.shop), (cI b.sum), (cI b.captured), (cI b.refunded), (cI b.disputed), (cI b.till), (cB b.shut)]), (.c (cI e))]) [] := by
  refine Fn.mk' 76 [(0, (aG [(cI a.card), (cI a.shop), (cI a.sum), (cI a.captured), (cI a.refunded), (cI a.disputed), (cI a.till), (cB a.shut)])), (1, (aI kind)), (2, (aI n))] Try.func65 rfl rfl rfl rfl ?_
  intro W0 T0
  have hw := @rightAuth a
  refine AC.seq ?_
  refine AC.region ?_
  refine AL.new (n' := 1) (Wanted.plain rfl) (g_boxS 0 rfl rfl) rfl rfl rfl ?_
  refine AL.new (n' := 2) (Wanted.plain rfl) (g_alloc 1 rfl zv75 rfl rfl rfl) rfl rfl rfl ?_
  refine AL.fast 1 rfl ?_
  refine AL.nil ?_
  refine then_ok ?_
  refine AC.seq ?_
  refine AC.seq ?_
  refine AC.region ?_
  refine AL.val (Wanted.plain rfl) (g_loadBs rfl rfl rfl Try.underlying75 rfl sz75 rfl rfl) rfl rfl ?_
  obtain ⟨e0, hr0⟩ : ∃ (e0 : Int), wrongAuth a = e0 := ⟨_, rfl⟩
  refine AL.call (n' := 2) (h' := [(1, (.box 75 [(cI 0), (cI 0), (cI 0), (cI 0), (cI 0), (cI 0), (cI 0), (cB false)])), (0, (.box 75 [(cI a.card), (cI a.shop), (cI a.sum), (cI a.captured), (cI a.refunded), (cI a.disputed), (cI a.till), (cB a.shut)]))]) (Wanted.plain rfl) (g_call 2 (c_auth_Wrong a  e0 hr0) en57 rfl rfl ⟨⟨_, rfl, .g ⟨.d _, .d _, .d _, .d _, .d _, .d _, .d _, .d _,  trivial⟩⟩,  trivial⟩ trivial trivial rfl rfl rfl rfl) rfl rfl rfl rfl rfl ?_
  refine AL.fast 1 rfl ?_
  refine AL.nil ?_
  refine then_ok ?_
  refine AC.seq ?_
  refine AC.region ?_
  refine AL.fast 1 rfl ?_
  refine AL.val (Wanted.plain rfl) (g_binI rfl rfl rfl rfl) rfl rfl ?_
  refine AL.nil ?_
  refine then_ok ?_
  refine AC.cond rfl (fun hc1 => ?_) (fun hc1 => ?_)
  ·
    have hc1' := hc1; try simp only [sumB, Bool.not_eq_true', Bool.not_eq_false', Bool.or_eq_true, Bool.or_eq_false_iff, Bool.and_eq_true, Bool.and_eq_false_imp, decide_eq_true_eq, decide_eq_false_iff_not, Bool.not_not, Bool.not_true, Bool.not_false] at hc1'
    refine AC.seq ?_
    refine AC.region ?_
    refine AL.val (Wanted.plain rfl) (g_build (ys := []) rfl bld75 rfl trivial rfl rfl) rfl rfl ?_
    refine AL.fast 1 rfl ?_
    refine AL.sto (h' := [(1, (.box 75 [(cI 0), (cI 0), (cI 0), (cI 0), (cI 0), (cI 0), (cI 0), (cB false)])), (0, (.box 75 [(cI a.card), (cI a.shop), (cI a.sum), (cI a.captured), (cI a.refunded), (cI a.disputed), (cI a.till), (cB a.shut)]))]) (Wanted.plain rfl) (g_storeB rfl rfl rfl rfl rfl sz75 rfl (Nat.le_of_ble_eq_true rfl) rfl) rfl rfl rfl rfl ?_
    refine AL.fast 1 rfl ?_
    refine AL.nil ?_
    refine then_ok ?_
    refine AC.ret ?_
    refine then_ret ?_
    have hX : moveAuth a kind n = ((⟨0, 0, 0, 0, 0, 0, 0, false⟩ : Auth), e0) := by
      (unfold moveAuth; try dsimp only); (try simp only [hr0]); (repeat' split) <;> first | rfl | omega | (exfalso; omega) | (subst_vars; rfl) | (simp_all; done) | (simp_all; omega)
    rw [hX] at hr; clear hX
    simp only [Prod.mk.injEq] at hr; obtain ⟨rfl, rfl⟩ := hr
    refine retQ_mk (av' := outOf [(.g [(cI 0), (cI 0), (cI 0), (cI 0), (cI 0), (cI 0), (cI 0), (cB false)]), (.c (cI e0))]) (nb' := []) (retQ_ret ⟨[(6, (aC (.p 1 0 0 0))), (7, (aI e0))], [(1, (.box 75 [(cI 0), (cI 0), (cI 0), (cI 0), (cI 0), (cI 0), (cI 0), (cB false)]))], 2⟩ [.cell 6 75, .tmp 7] [(.g [(cI 0), (cI 0), (cI 0), (cI 0), (cI 0), (cI 0), (cI 0), (cB false)]), (.c (cI e0))] (Weak.ren id (⟨by first | rfl | (simp only [AV.map, GV.map, CV.map, AB.map', id]; done) | (congr 3; omega) | (congr 4; omega) | (simp only [List.length_append, List.length_cons, List.length_nil, List.length_set]; rfl), by first | rfl | (simp only [AV.map, GV.map, CV.map, AB.map', id]; done) | (congr 3; omega) | (congr 4; omega) | (simp only [List.length_append, List.length_cons, List.length_nil, List.length_set]; rfl),  trivial⟩) (⟨by first | rfl | (simp only [AV.map, GV.map, CV.map, AB.map', id]; done) | (congr 3; omega) | (congr 4; omega) | (simp only [List.length_append, List.length_cons, List.length_nil, List.length_set]; rfl),  trivial⟩) rfl) rfl ⟨.agg rfl rfl (fun _ => run_isAgg Try.underlying75) sz75, .tmp rfl, trivial⟩ trivial) ?_ ?_
    · first | rfl | (simp [outOf, aC]; done) | (simp [outOf, aC]; omega)
    · first | rfl | (simp; done) | (simp; omega)
  ·
    have hc1' := hc1; try simp only [sumB, Bool.not_eq_true', Bool.not_eq_false', Bool.or_eq_true, Bool.or_eq_false_iff, Bool.and_eq_true, Bool.and_eq_false_imp, decide_eq_true_eq, decide_eq_false_iff_not, Bool.not_not, Bool.not_true, Bool.not_false] at hc1'
    refine AC.skip ?_
    refine then_ok ?_
    refine AC.seq ?_
    refine AC.cutB 21 ((decide (kind < 1)) || (decide (kind > 8))) ?_ ?_
    ·
      refine AC.region ?_
      refine AL.fast 1 rfl ?_
      refine AL.val (Wanted.plain rfl) (g_binI rfl rfl rfl rfl) rfl rfl ?_
      refine AL.fast 1 rfl ?_
      refine AL.dec (t := 18) rfl (fun hb2 => ?_) (fun hb2 => ?_)
      ·
        have hb2' := hb2; try simp only [sumB, Bool.not_eq_true', Bool.not_eq_false', Bool.or_eq_true, Bool.or_eq_false_iff, Bool.and_eq_true, Bool.and_eq_false_imp, decide_eq_true_eq, decide_eq_false_iff_not, Bool.not_not, Bool.not_true, Bool.not_false] at hb2'
        refine AL.fast 3 rfl ?_
        refine AL.nil ?_
        refine then_ok ?_
        exact Weak.popB 7 rfl rfl (by first | (simp [hb2]; done) | (simp_all; done) | (exfalso; simp_all; done) | (simp_all; omega)) rfl
      ·
        have hb2' := hb2; try simp only [sumB, Bool.not_eq_true', Bool.not_eq_false', Bool.or_eq_true, Bool.or_eq_false_iff, Bool.and_eq_true, Bool.and_eq_false_imp, decide_eq_true_eq, decide_eq_false_iff_not, Bool.not_not, Bool.not_true, Bool.not_false] at hb2'
        refine AL.fast 1 rfl ?_
        refine AL.val (Wanted.yes rfl rfl rfl) (g_binI rfl rfl rfl rfl) rfl rfl ?_
        refine AL.fast 1 rfl ?_
        refine AL.nil ?_
        refine then_ok ?_
        exact Weak.popB 7 rfl rfl (by first | (simp [hb2]; done) | (simp_all; done) | (exfalso; simp_all; done) | (simp_all; omega)) rfl
    ·
      refine AC.cond rfl (fun hc3 => ?_) (fun hc3 => ?_)
      ·
        have hc3' := hc3; try simp only [sumB, Bool.not_eq_true', Bool.not_eq_false', Bool.or_eq_true, Bool.or_eq_false_iff, Bool.and_eq_true, Bool.and_eq_false_imp, decide_eq_true_eq, decide_eq_false_iff_not, Bool.not_not, Bool.not_true, Bool.not_false] at hc3'
        refine AC.seq ?_
        refine AC.region ?_
        refine AL.val (Wanted.plain rfl) (g_build (ys := []) rfl bld75 rfl trivial rfl rfl) rfl rfl ?_
        refine AL.sto (h' := [(1, (.box 75 [(cI 0), (cI 0), (cI 0), (cI 0), (cI 0), (cI 0), (cI 0), (cB false)])), (0, (.box 75 [(cI a.card), (cI a.shop), (cI a.sum), (cI a.captured), (cI a.refunded), (cI a.disputed), (cI a.till), (cB a.shut)]))]) (Wanted.plain rfl) (g_storeB rfl rfl rfl rfl rfl sz75 rfl (Nat.le_of_ble_eq_true rfl) rfl) rfl rfl rfl rfl ?_
        refine AL.fast 1 rfl ?_
        refine AL.nil ?_
        refine then_ok ?_
        refine AC.ret ?_
        refine then_ret ?_
        have hX : moveAuth a kind n = ((⟨0, 0, 0, 0, 0, 0, 0, false⟩ : Auth), 1) := by
          (unfold moveAuth; try dsimp only); (try simp only [hr0]); (repeat' split) <;> first | rfl | omega | (exfalso; omega) | (subst_vars; rfl) | (simp_all; done) | (simp_all; omega)
        rw [hX] at hr; clear hX
        simp only [Prod.mk.injEq] at hr; obtain ⟨rfl, rfl⟩ := hr
        refine retQ_mk (av' := outOf [(.g [(cI 0), (cI 0), (cI 0), (cI 0), (cI 0), (cI 0), (cI 0), (cB false)]), (.c (cI 1))]) (nb' := []) (retQ_ret ⟨[(6, (aC (.p 1 0 0 0))), (7, (aI 1))], [(1, (.box 75 [(cI 0), (cI 0), (cI 0), (cI 0), (cI 0), (cI 0), (cI 0), (cB false)]))], 2⟩ [.cell 6 75, .tmp 7] [(.g [(cI 0), (cI 0), (cI 0), (cI 0), (cI 0), (cI 0), (cI 0), (cB false)]), (.c (cI 1))] (Weak.ren id (⟨by first | rfl | (simp only [AV.map, GV.map, CV.map, AB.map', id]; done) | (congr 3; omega) | (congr 4; omega) | (simp only [List.length_append, List.length_cons, List.length_nil, List.length_set]; rfl), by first | rfl | (simp only [AV.map, GV.map, CV.map, AB.map', id]; done) | (congr 3; omega) | (congr 4; omega) | (simp only [List.length_append, List.length_cons, List.length_nil, List.length_set]; rfl),  trivial⟩) (⟨by first | rfl | (simp only [AV.map, GV.map, CV.map, AB.map', id]; done) | (congr 3; omega) | (congr 4; omega) | (simp only [List.length_append, List.length_cons, List.length_nil, List.length_set]; rfl),  trivial⟩) rfl) rfl ⟨.agg rfl rfl (fun _ => run_isAgg Try.underlying75) sz75, .tmp rfl, trivial⟩ trivial) ?_ ?_
        · first | rfl | (simp [outOf, aC]; done) | (simp [outOf, aC]; omega)
        · first | rfl | (simp; done) | (simp; omega)
      ·
        have hc3' := hc3; try simp only [sumB, Bool.not_eq_true', Bool.not_eq_false', Bool.or_eq_true, Bool.or_eq_false_iff, Bool.and_eq_true, Bool.and_eq_false_imp, decide_eq_true_eq, decide_eq_false_iff_not, Bool.not_not, Bool.not_true, Bool.not_false] at hc3'
        refine AC.skip ?_
        refine then_ok ?_
        refine AC.seq ?_
        refine AC.cutB 28 ((decide (n < 1)) || (decide (n > 1000000))) ?_ ?_
        ·
          refine AC.region ?_
          refine AL.fast 1 rfl ?_
          refine AL.val (Wanted.plain rfl) (g_binI rfl rfl rfl rfl) rfl rfl ?_
          refine AL.fast 1 rfl ?_
          refine AL.dec (t := 25) rfl (fun hb4 => ?_) (fun hb4 => ?_)
          ·
            have hb4' := hb4; try simp only [sumB, Bool.not_eq_true', Bool.not_eq_false', Bool.or_eq_true, Bool.or_eq_false_iff, Bool.and_eq_true, Bool.and_eq_false_imp, decide_eq_true_eq, decide_eq_false_iff_not, Bool.not_not, Bool.not_true, Bool.not_false] at hb4'
            refine AL.fast 3 rfl ?_
            refine AL.nil ?_
            refine then_ok ?_
            exact Weak.popB 7 rfl rfl (by first | (simp [hb4]; done) | (simp_all; done) | (exfalso; simp_all; done) | (simp_all; omega)) rfl
          ·
            have hb4' := hb4; try simp only [sumB, Bool.not_eq_true', Bool.not_eq_false', Bool.or_eq_true, Bool.or_eq_false_iff, Bool.and_eq_true, Bool.and_eq_false_imp, decide_eq_true_eq, decide_eq_false_iff_not, Bool.not_not, Bool.not_true, Bool.not_false] at hb4'
            refine AL.fast 1 rfl ?_
            refine AL.val (Wanted.yes rfl rfl rfl) (g_binI rfl rfl rfl rfl) rfl rfl ?_
            refine AL.fast 1 rfl ?_
            refine AL.nil ?_
            refine then_ok ?_
            exact Weak.popB 7 rfl rfl (by first | (simp [hb4]; done) | (simp_all; done) | (exfalso; simp_all; done) | (simp_all; omega)) rfl
        ·
          refine AC.cond rfl (fun hc5 => ?_) (fun hc5 => ?_)
          ·
            have hc5' := hc5; try simp only [sumB, Bool.not_eq_true', Bool.not_eq_false', Bool.or_eq_true, Bool.or_eq_false_iff, Bool.and_eq_true, Bool.and_eq_false_imp, decide_eq_true_eq, decide_eq_false_iff_not, Bool.not_not, Bool.not_true, Bool.not_false] at hc5'
            refine AC.seq ?_
            refine AC.region ?_
            refine AL.val (Wanted.plain rfl) (g_build (ys := []) rfl bld75 rfl trivial rfl rfl) rfl rfl ?_
            refine AL.sto (h' := [(1, (.box 75 [(cI 0), (cI 0), (cI 0), (cI 0), (cI 0), (cI 0), (cI 0), (cB false)])), (0, (.box 75 [(cI a.card), (cI a.shop), (cI a.sum), (cI a.captured), (cI a.refunded), (cI a.disputed), (cI a.till), (cB a.shut)]))]) (Wanted.plain rfl) (g_storeB rfl rfl rfl rfl rfl sz75 rfl (Nat.le_of_ble_eq_true rfl) rfl) rfl rfl rfl rfl ?_
            refine AL.fast 1 rfl ?_
            refine AL.nil ?_
            refine then_ok ?_
            refine AC.ret ?_
            refine then_ret ?_
            have hX : moveAuth a kind n = ((⟨0, 0, 0, 0, 0, 0, 0, false⟩ : Auth), 3) := by
              (unfold moveAuth; try dsimp only); (try simp only [hr0]); (repeat' split) <;> first | rfl | omega | (exfalso; omega) | (subst_vars; rfl) | (simp_all; done) | (simp_all; omega)
            rw [hX] at hr; clear hX
            simp only [Prod.mk.injEq] at hr; obtain ⟨rfl, rfl⟩ := hr
            refine retQ_mk (av' := outOf [(.g [(cI 0), (cI 0), (cI 0), (cI 0), (cI 0), (cI 0), (cI 0), (cB false)]), (.c (cI 3))]) (nb' := []) (retQ_ret ⟨[(6, (aC (.p 1 0 0 0))), (7, (aI 3))], [(1, (.box 75 [(cI 0), (cI 0), (cI 0), (cI 0), (cI 0), (cI 0), (cI 0), (cB false)]))], 2⟩ [.cell 6 75, .tmp 7] [(.g [(cI 0), (cI 0), (cI 0), (cI 0), (cI 0), (cI 0), (cI 0), (cB false)]), (.c (cI 3))] (Weak.ren id (⟨by first | rfl | (simp only [AV.map, GV.map, CV.map, AB.map', id]; done) | (congr 3; omega) | (congr 4; omega) | (simp only [List.length_append, List.length_cons, List.length_nil, List.length_set]; rfl), by first | rfl | (simp only [AV.map, GV.map, CV.map, AB.map', id]; done) | (congr 3; omega) | (congr 4; omega) | (simp only [List.length_append, List.length_cons, List.length_nil, List.length_set]; rfl),  trivial⟩) (⟨by first | rfl | (simp only [AV.map, GV.map, CV.map, AB.map', id]; done) | (congr 3; omega) | (congr 4; omega) | (simp only [List.length_append, List.length_cons, List.length_nil, List.length_set]; rfl),  trivial⟩) rfl) rfl ⟨.agg rfl rfl (fun _ => run_isAgg Try.underlying75) sz75, .tmp rfl, trivial⟩ trivial) ?_ ?_
            · first | rfl | (simp [outOf, aC]; done) | (simp [outOf, aC]; omega)
            · first | rfl | (simp; done) | (simp; omega)
          ·
            have hc5' := hc5; try simp only [sumB, Bool.not_eq_true', Bool.not_eq_false', Bool.or_eq_true, Bool.or_eq_false_iff, Bool.and_eq_true, Bool.and_eq_false_imp, decide_eq_true_eq, decide_eq_false_iff_not, Bool.not_not, Bool.not_true, Bool.not_false] at hc5'
            refine AC.skip ?_
            refine then_ok ?_
            refine AC.seq ?_
            refine AC.region ?_
            refine AL.fast 1 rfl ?_
            refine AL.nil ?_
            refine then_ok ?_
            refine AC.seq ?_
            refine AC.seq ?_
            refine AC.region ?_
            refine AL.fast 1 rfl ?_
            refine AL.nil ?_
            refine then_ok ?_
            refine AC.block ?_
            refine AC.seq ?_
            refine AC.seq ?_
            refine AC.region ?_
            refine AL.val (Wanted.plain rfl) (g_binI rfl rfl rfl rfl) rfl rfl ?_
            refine AL.fast 1 rfl ?_
            refine AL.nil ?_
            refine then_ok ?_
            refine AC.cond rfl (fun hc6 => ?_) (fun hc6 => ?_)
            ·
              have hc6' := hc6; try simp only [sumB, Bool.not_eq_true', Bool.not_eq_false', Bool.or_eq_true, Bool.or_eq_false_iff, Bool.and_eq_true, Bool.and_eq_false_imp, decide_eq_true_eq, decide_eq_false_iff_not, Bool.not_not, Bool.not_true, Bool.not_false] at hc6'
              refine AC.skip ?_
              refine then_ok ?_
              refine AC.cond rfl (fun _ => ?_) (fun hno => absurd (hc6.symm.trans hno) (by decide))
              refine AC.seq ?_
              refine AC.region ?_
              refine AL.fast 1 rfl ?_
              refine AL.callM (n' := 2) (h' := [(0, (.box 75 [(cI a.card), (cI a.shop), (cI a.sum), (cI a.captured), (cI a.refunded), (cI a.disputed), (cI a.till), (cB a.shut)])), (1, (.box 75 [(cI 0), (cI 0), (cI 0), (cI 0), (cI 0), (cI 0), (cI 0), (cB false)]))]) (Wanted.plain rfl) (g_callM (fun k => k) (fun k => k) (c_auth_left a (by first | assumption | omega) ) en111 rfl rfl ⟨⟨_, rfl, .inl ⟨rfl, rfl⟩⟩,  trivial⟩ ⟨rfl,  trivial⟩ rfl rfl rfl rfl rfl rfl trivial ⟨⟨trivial, trivial, trivial, trivial, trivial, trivial, trivial, trivial,  trivial⟩,  trivial⟩ rfl rfl rfl rfl) rfl rfl rfl rfl rfl rfl ?_
              refine AL.val (Wanted.plain rfl) (g_binI rfl rfl rfl rfl) rfl rfl ?_
              refine AL.nil ?_
              refine then_ok ?_
              refine AC.cond rfl (fun hc8 => ?_) (fun hc8 => ?_)
              ·
                have hc8' := hc8; try simp only [sumB, Bool.not_eq_true', Bool.not_eq_false', Bool.or_eq_true, Bool.or_eq_false_iff, Bool.and_eq_true, Bool.and_eq_false_imp, decide_eq_true_eq, decide_eq_false_iff_not, Bool.not_not, Bool.not_true, Bool.not_false] at hc8'
                refine AC.region ?_
                refine AL.fast 1 rfl ?_
                refine AL.nil ?_
                refine block_ok ?_
                refine then_ok ?_
                refine AC.seq ?_
                refine AC.seq ?_
                refine AC.region ?_
                refine AL.fast 1 rfl ?_
                refine AL.val (Wanted.plain rfl) (g_binI rfl rfl rfl (show _ = some (Value.bool true) from rfl)) rfl rfl ?_
                refine AL.nil ?_
                refine then_ok ?_
                refine AC.cond rfl (fun _ => ?_) (fun hno => by cases hno)
                refine AC.seq ?_
                refine AC.region ?_
                refine AL.val (Wanted.plain rfl) (g_build (ys := []) rfl bld75 rfl trivial rfl rfl) rfl rfl ?_
                refine AL.fast 1 rfl ?_
                refine AL.sto (h' := [(0, (.box 75 [(cI a.card), (cI a.shop), (cI a.sum), (cI a.captured), (cI a.refunded), (cI a.disputed), (cI a.till), (cB a.shut)])), (1, (.box 75 [(cI 0), (cI 0), (cI 0), (cI 0), (cI 0), (cI 0), (cI 0), (cB false)]))]) (Wanted.plain rfl) (g_storeB rfl rfl rfl rfl rfl sz75 rfl (Nat.le_of_ble_eq_true rfl) rfl) rfl rfl rfl rfl ?_
                refine AL.fast 1 rfl ?_
                refine AL.nil ?_
                refine then_ok ?_
                refine AC.ret ?_
                refine then_ret ?_
                have hX : moveAuth a kind n = ((⟨0, 0, 0, 0, 0, 0, 0, false⟩ : Auth), 10) := by
                  (unfold moveAuth; try dsimp only); (try simp only [hr0]); (repeat' split) <;> first | rfl | omega | (exfalso; omega) | (subst_vars; rfl) | (simp_all; done) | (simp_all; omega)
                rw [hX] at hr; clear hX
                simp only [Prod.mk.injEq] at hr; obtain ⟨rfl, rfl⟩ := hr
                refine retQ_mk (av' := outOf [(.g [(cI 0), (cI 0), (cI 0), (cI 0), (cI 0), (cI 0), (cI 0), (cB false)]), (.c (cI 10))]) (nb' := []) (retQ_ret ⟨[(6, (aC (.p 1 0 0 0))), (7, (aI 10))], [(1, (.box 75 [(cI 0), (cI 0), (cI 0), (cI 0), (cI 0), (cI 0), (cI 0), (cB false)]))], 2⟩ [.cell 6 75, .tmp 7] [(.g [(cI 0), (cI 0), (cI 0), (cI 0), (cI 0), (cI 0), (cI 0), (cB false)]), (.c (cI 10))] (Weak.ren id (⟨by first | rfl | (simp only [AV.map, GV.map, CV.map, AB.map', id]; done) | (congr 3; omega) | (congr 4; omega) | (simp only [List.length_append, List.length_cons, List.length_nil, List.length_set]; rfl), by first | rfl | (simp only [AV.map, GV.map, CV.map, AB.map', id]; done) | (congr 3; omega) | (congr 4; omega) | (simp only [List.length_append, List.length_cons, List.length_nil, List.length_set]; rfl),  trivial⟩) (⟨by first | rfl | (simp only [AV.map, GV.map, CV.map, AB.map', id]; done) | (congr 3; omega) | (congr 4; omega) | (simp only [List.length_append, List.length_cons, List.length_nil, List.length_set]; rfl),  trivial⟩) rfl) rfl ⟨.agg rfl rfl (fun _ => run_isAgg Try.underlying75) sz75, .tmp rfl, trivial⟩ trivial) ?_ ?_
                · first | rfl | (simp [outOf, aC]; done) | (simp [outOf, aC]; omega)
                · first | rfl | (simp; done) | (simp; omega)
              ·
                have hc8' := hc8; try simp only [sumB, Bool.not_eq_true', Bool.not_eq_false', Bool.or_eq_true, Bool.or_eq_false_iff, Bool.and_eq_true, Bool.and_eq_false_imp, decide_eq_true_eq, decide_eq_false_iff_not, Bool.not_not, Bool.not_true, Bool.not_false] at hc8'
                refine AC.seq ?_
                refine AC.region ?_
                refine AL.fast 1 rfl ?_
                refine AL.val (Wanted.plain rfl) (g_binI rfl rfl rfl rfl) rfl rfl ?_
                refine AL.nil ?_
                refine then_ok ?_
                refine AC.cond rfl (fun _ => ?_) (fun hno => absurd (hc6.symm.trans hno) (by decide))
                refine AC.region ?_
                refine AL.val (Wanted.plain rfl) (g_fieldP rfl rfl Try.underlying75 rfl sz3 (by decide)) rfl rfl ?_
                refine AL.val (Wanted.plain rfl) (g_loadB rfl rfl rfl Try.underlying3 rfl rfl) rfl rfl ?_
                refine AL.fast 1 rfl ?_
                refine AL.val (Wanted.plain rfl) (g_binI rfl rfl rfl (wrap_ok (by first | omega | (simp; done) | (simp; omega)))) rfl rfl ?_
                refine AL.val (Wanted.plain rfl) (g_fieldP rfl rfl Try.underlying75 rfl sz3 (by decide)) rfl rfl ?_
                refine AL.sto (h' := [(0, (.box 75 [(cI a.card), (cI a.shop), (cI a.sum), (cI a.captured), (cI (a.refunded + n)), (cI a.disputed), (cI a.till), (cB a.shut)])), (1, (.box 75 [(cI 0), (cI 0), (cI 0), (cI 0), (cI 0), (cI 0), (cI 0), (cB false)]))]) (Wanted.plain rfl) (g_storeB rfl rfl rfl rfl rfl sz3 rfl (Nat.le_of_ble_eq_true rfl) rfl) rfl rfl rfl rfl ?_
                refine AL.nil ?_
                refine block_ok ?_
                refine then_ok ?_
                refine AC.seq ?_
                refine AC.seq ?_
                refine AC.region ?_
                refine AL.fast 1 rfl ?_
                refine AL.val (Wanted.plain rfl) (g_binI rfl rfl rfl (show _ = some (Value.bool false) from rfl)) rfl rfl ?_
                refine AL.nil ?_
                refine then_ok ?_
                refine AC.cond rfl (fun hno => by cases hno) (fun _ => ?_)
                refine AC.skip ?_
                refine then_ok ?_
                refine AC.seq ?_
                refine AC.region ?_
                refine AL.val (Wanted.plain rfl) (g_loadBs rfl rfl rfl Try.underlying75 rfl sz75 rfl rfl) rfl rfl ?_
                refine AL.sto (h' := [(0, (.box 75 [(cI a.card), (cI a.shop), (cI a.sum), (cI a.captured), (cI (a.refunded + n)), (cI a.disputed), (cI a.till), (cB a.shut)])), (1, (.box 75 [(cI a.card), (cI a.shop), (cI a.sum), (cI a.captured), (cI (a.refunded + n)), (cI a.disputed), (cI a.till), (cB a.shut)]))]) (Wanted.plain rfl) (g_storeB rfl rfl rfl rfl rfl sz75 rfl (Nat.le_of_ble_eq_true rfl) rfl) rfl rfl rfl rfl ?_
                refine AL.fast 1 rfl ?_
                refine AL.nil ?_
                refine then_ok ?_
                refine AC.ret ?_
                have hX : moveAuth a kind n = ((⟨a.card, a.shop, a.sum, a.captured, a.refunded + n, a.disputed, a.till, a.shut⟩ : Auth), 0) := by
                  (unfold moveAuth; try dsimp only); (try simp only [hr0]); (repeat' split) <;> first | rfl | omega | (exfalso; omega) | (subst_vars; rfl) | (simp_all; done) | (simp_all; omega)
                rw [hX] at hr; clear hX
                simp only [Prod.mk.injEq] at hr; obtain ⟨rfl, rfl⟩ := hr
                refine retQ_mk (av' := outOf [(.g [(cI a.card), (cI a.shop), (cI a.sum), (cI a.captured), (cI (a.refunded + n)), (cI a.disputed), (cI a.till), (cB a.shut)]), (.c (cI 0))]) (nb' := []) (retQ_ret ⟨[(6, (aC (.p 1 0 0 0))), (7, (aI 0))], [(1, (.box 75 [(cI a.card), (cI a.shop), (cI a.sum), (cI a.captured), (cI (a.refunded + n)), (cI a.disputed), (cI a.till), (cB a.shut)]))], 2⟩ [.cell 6 75, .tmp 7] [(.g [(cI a.card), (cI a.shop), (cI a.sum), (cI a.captured), (cI (a.refunded + n)), (cI a.disputed), (cI a.till), (cB a.shut)]), (.c (cI 0))] (Weak.ren id (⟨by first | rfl | (simp only [AV.map, GV.map, CV.map, AB.map', id]; done) | (congr 3; omega) | (congr 4; omega) | (simp only [List.length_append, List.length_cons, List.length_nil, List.length_set]; rfl), by first | rfl | (simp only [AV.map, GV.map, CV.map, AB.map', id]; done) | (congr 3; omega) | (congr 4; omega) | (simp only [List.length_append, List.length_cons, List.length_nil, List.length_set]; rfl),  trivial⟩) (⟨by first | rfl | (simp only [AV.map, GV.map, CV.map, AB.map', id]; done) | (congr 3; omega) | (congr 4; omega) | (simp only [List.length_append, List.length_cons, List.length_nil, List.length_set]; rfl),  trivial⟩) rfl) rfl ⟨.agg rfl rfl (fun _ => run_isAgg Try.underlying75) sz75, .tmp rfl, trivial⟩ trivial) ?_ ?_
                · first | rfl | (simp [outOf, aC]; done) | (simp [outOf, aC]; omega)
                · first | rfl | (simp; done) | (simp; omega)
            ·
              have hc6' := hc6; try simp only [sumB, Bool.not_eq_true', Bool.not_eq_false', Bool.or_eq_true, Bool.or_eq_false_iff, Bool.and_eq_true, Bool.and_eq_false_imp, decide_eq_true_eq, decide_eq_false_iff_not, Bool.not_not, Bool.not_true, Bool.not_false] at hc6'
              refine AC.region ?_
              refine AL.val (Wanted.plain rfl) (g_binI rfl rfl rfl rfl) rfl rfl ?_
              refine AL.fast 1 rfl ?_
              refine AL.nil ?_
              refine then_ok ?_
              refine AC.cond rfl (fun hc12 => ?_) (fun hc12 => ?_)
              ·
                have hc12' := hc12; try simp only [sumB, Bool.not_eq_true', Bool.not_eq_false', Bool.or_eq_true, Bool.or_eq_false_iff, Bool.and_eq_true, Bool.and_eq_false_imp, decide_eq_true_eq, decide_eq_false_iff_not, Bool.not_not, Bool.not_true, Bool.not_false] at hc12'
                refine AC.seq ?_
                refine AC.region ?_
                refine AL.fast 1 rfl ?_
                refine AL.callM (n' := 2) (h' := [(0, (.box 75 [(cI a.card), (cI a.shop), (cI a.sum), (cI a.captured), (cI a.refunded), (cI a.disputed), (cI a.till), (cB a.shut)])), (1, (.box 75 [(cI 0), (cI 0), (cI 0), (cI 0), (cI 0), (cI 0), (cI 0), (cB false)]))]) (Wanted.plain rfl) (g_callM (fun k => k) (fun k => k) (c_auth_left a (by first | assumption | omega) ) en111 rfl rfl ⟨⟨_, rfl, .inl ⟨rfl, rfl⟩⟩,  trivial⟩ ⟨rfl,  trivial⟩ rfl rfl rfl rfl rfl rfl trivial ⟨⟨trivial, trivial, trivial, trivial, trivial, trivial, trivial, trivial,  trivial⟩,  trivial⟩ rfl rfl rfl rfl) rfl rfl rfl rfl rfl rfl ?_
                refine AL.val (Wanted.plain rfl) (g_binI rfl rfl rfl rfl) rfl rfl ?_
                refine AL.nil ?_
                refine then_ok ?_
                refine AC.cond rfl (fun hc13 => ?_) (fun hc13 => ?_)
                ·
                  have hc13' := hc13; try simp only [sumB, Bool.not_eq_true', Bool.not_eq_false', Bool.or_eq_true, Bool.or_eq_false_iff, Bool.and_eq_true, Bool.and_eq_false_imp, decide_eq_true_eq, decide_eq_false_iff_not, Bool.not_not, Bool.not_true, Bool.not_false] at hc13'
                  refine AC.region ?_
                  refine AL.fast 1 rfl ?_
                  refine AL.nil ?_
                  refine block_ok ?_
                  refine then_ok ?_
                  refine AC.seq ?_
                  refine AC.seq ?_
                  refine AC.region ?_
                  refine AL.fast 1 rfl ?_
                  refine AL.val (Wanted.plain rfl) (g_binI rfl rfl rfl (show _ = some (Value.bool true) from rfl)) rfl rfl ?_
                  refine AL.nil ?_
                  refine then_ok ?_
                  refine AC.cond rfl (fun _ => ?_) (fun hno => by cases hno)
                  refine AC.seq ?_
                  refine AC.region ?_
                  refine AL.val (Wanted.plain rfl) (g_build (ys := []) rfl bld75 rfl trivial rfl rfl) rfl rfl ?_
                  refine AL.fast 1 rfl ?_
                  refine AL.sto (h' := [(0, (.box 75 [(cI a.card), (cI a.shop), (cI a.sum), (cI a.captured), (cI a.refunded), (cI a.disputed), (cI a.till), (cB a.shut)])), (1, (.box 75 [(cI 0), (cI 0), (cI 0), (cI 0), (cI 0), (cI 0), (cI 0), (cB false)]))]) (Wanted.plain rfl) (g_storeB rfl rfl rfl rfl rfl sz75 rfl (Nat.le_of_ble_eq_true rfl) rfl) rfl rfl rfl rfl ?_
                  refine AL.fast 1 rfl ?_
                  refine AL.nil ?_
                  refine then_ok ?_
                  refine AC.ret ?_
                  refine then_ret ?_
                  have hX : moveAuth a kind n = ((⟨0, 0, 0, 0, 0, 0, 0, false⟩ : Auth), 10) := by
                    (unfold moveAuth; try dsimp only); (try simp only [hr0]); (repeat' split) <;> first | rfl | omega | (exfalso; omega) | (subst_vars; rfl) | (simp_all; done) | (simp_all; omega)
                  rw [hX] at hr; clear hX
                  simp only [Prod.mk.injEq] at hr; obtain ⟨rfl, rfl⟩ := hr
                  refine retQ_mk (av' := outOf [(.g [(cI 0), (cI 0), (cI 0), (cI 0), (cI 0), (cI 0), (cI 0), (cB false)]), (.c (cI 10))]) (nb' := []) (retQ_ret ⟨[(6, (aC (.p 1 0 0 0))), (7, (aI 10))], [(1, (.box 75 [(cI 0), (cI 0), (cI 0), (cI 0), (cI 0), (cI 0), (cI 0), (cB false)]))], 2⟩ [.cell 6 75, .tmp 7] [(.g [(cI 0), (cI 0), (cI 0), (cI 0), (cI 0), (cI 0), (cI 0), (cB false)]), (.c (cI 10))] (Weak.ren id (⟨by first | rfl | (simp only [AV.map, GV.map, CV.map, AB.map', id]; done) | (congr 3; omega) | (congr 4; omega) | (simp only [List.length_append, List.length_cons, List.length_nil, List.length_set]; rfl), by first | rfl | (simp only [AV.map, GV.map, CV.map, AB.map', id]; done) | (congr 3; omega) | (congr 4; omega) | (simp only [List.length_append, List.length_cons, List.length_nil, List.length_set]; rfl),  trivial⟩) (⟨by first | rfl | (simp only [AV.map, GV.map, CV.map, AB.map', id]; done) | (congr 3; omega) | (congr 4; omega) | (simp only [List.length_append, List.length_cons, List.length_nil, List.length_set]; rfl),  trivial⟩) rfl) rfl ⟨.agg rfl rfl (fun _ => run_isAgg Try.underlying75) sz75, .tmp rfl, trivial⟩ trivial) ?_ ?_
                  · first | rfl | (simp [outOf, aC]; done) | (simp [outOf, aC]; omega)
                  · first | rfl | (simp; done) | (simp; omega)
                ·
                  have hc13' := hc13; try simp only [sumB, Bool.not_eq_true', Bool.not_eq_false', Bool.or_eq_true, Bool.or_eq_false_iff, Bool.and_eq_true, Bool.and_eq_false_imp, decide_eq_true_eq, decide_eq_false_iff_not, Bool.not_not, Bool.not_true, Bool.not_false] at hc13'
                  refine AC.seq ?_
                  refine AC.region ?_
                  refine AL.fast 1 rfl ?_
                  refine AL.val (Wanted.plain rfl) (g_binI rfl rfl rfl rfl) rfl rfl ?_
                  refine AL.nil ?_
                  refine then_ok ?_
                  refine AC.cond rfl (fun hno => absurd (hc6.symm.trans hno) (by decide)) (fun _ => ?_)
                  refine AC.region ?_
                  refine AL.val (Wanted.plain rfl) (g_fieldP rfl rfl Try.underlying75 rfl sz3 (by decide)) rfl rfl ?_
                  refine AL.val (Wanted.plain rfl) (g_loadB rfl rfl rfl Try.underlying3 rfl rfl) rfl rfl ?_
                  refine AL.fast 1 rfl ?_
                  refine AL.val (Wanted.plain rfl) (g_binI rfl rfl rfl (wrap_ok (by first | omega | (simp; done) | (simp; omega)))) rfl rfl ?_
                  refine AL.val (Wanted.plain rfl) (g_fieldP rfl rfl Try.underlying75 rfl sz3 (by decide)) rfl rfl ?_
                  refine AL.sto (h' := [(0, (.box 75 [(cI a.card), (cI a.shop), (cI a.sum), (cI a.captured), (cI a.refunded), (cI (a.disputed + n)), (cI a.till), (cB a.shut)])), (1, (.box 75 [(cI 0), (cI 0), (cI 0), (cI 0), (cI 0), (cI 0), (cI 0), (cB false)]))]) (Wanted.plain rfl) (g_storeB rfl rfl rfl rfl rfl sz3 rfl (Nat.le_of_ble_eq_true rfl) rfl) rfl rfl rfl rfl ?_
                  refine AL.nil ?_
                  refine block_ok ?_
                  refine then_ok ?_
                  refine AC.seq ?_
                  refine AC.seq ?_
                  refine AC.region ?_
                  refine AL.fast 1 rfl ?_
                  refine AL.val (Wanted.plain rfl) (g_binI rfl rfl rfl (show _ = some (Value.bool false) from rfl)) rfl rfl ?_
                  refine AL.nil ?_
                  refine then_ok ?_
                  refine AC.cond rfl (fun hno => by cases hno) (fun _ => ?_)
                  refine AC.skip ?_
                  refine then_ok ?_
                  refine AC.seq ?_
                  refine AC.region ?_
                  refine AL.val (Wanted.plain rfl) (g_loadBs rfl rfl rfl Try.underlying75 rfl sz75 rfl rfl) rfl rfl ?_
                  refine AL.sto (h' := [(0, (.box 75 [(cI a.card), (cI a.shop), (cI a.sum), (cI a.captured), (cI a.refunded), (cI (a.disputed + n)), (cI a.till), (cB a.shut)])), (1, (.box 75 [(cI a.card), (cI a.shop), (cI a.sum), (cI a.captured), (cI a.refunded), (cI (a.disputed + n)), (cI a.till), (cB a.shut)]))]) (Wanted.plain rfl) (g_storeB rfl rfl rfl rfl rfl sz75 rfl (Nat.le_of_ble_eq_true rfl) rfl) rfl rfl rfl rfl ?_
                  refine AL.fast 1 rfl ?_
                  refine AL.nil ?_
                  refine then_ok ?_
                  refine AC.ret ?_
                  have hX : moveAuth a kind n = ((⟨a.card, a.shop, a.sum, a.captured, a.refunded, a.disputed + n, a.till, a.shut⟩ : Auth), 0) := by
                    (unfold moveAuth; try dsimp only); (try simp only [hr0]); (repeat' split) <;> first | rfl | omega | (exfalso; omega) | (subst_vars; rfl) | (simp_all; done) | (simp_all; omega)
                  rw [hX] at hr; clear hX
                  simp only [Prod.mk.injEq] at hr; obtain ⟨rfl, rfl⟩ := hr
                  refine retQ_mk (av' := outOf [(.g [(cI a.card), (cI a.shop), (cI a.sum), (cI a.captured), (cI a.refunded), (cI (a.disputed + n)), (cI a.till), (cB a.shut)]), (.c (cI 0))]) (nb' := []) (retQ_ret ⟨[(6, (aC (.p 1 0 0 0))), (7, (aI 0))], [(1, (.box 75 [(cI a.card), (cI a.shop), (cI a.sum), (cI a.captured), (cI a.refunded), (cI (a.disputed + n)), (cI a.till), (cB a.shut)]))], 2⟩ [.cell 6 75, .tmp 7] [(.g [(cI a.card), (cI a.shop), (cI a.sum), (cI a.captured), (cI a.refunded), (cI (a.disputed + n)), (cI a.till), (cB a.shut)]), (.c (cI 0))] (Weak.ren id (⟨by first | rfl | (simp only [AV.map, GV.map, CV.map, AB.map', id]; done) | (congr 3; omega) | (congr 4; omega) | (simp only [List.length_append, List.length_cons, List.length_nil, List.length_set]; rfl), by first | rfl | (simp only [AV.map, GV.map, CV.map, AB.map', id]; done) | (congr 3; omega) | (congr 4; omega) | (simp only [List.length_append, List.length_cons, List.length_nil, List.length_set]; rfl),  trivial⟩) (⟨by first | rfl | (simp only [AV.map, GV.map, CV.map, AB.map', id]; done) | (congr 3; omega) | (congr 4; omega) | (simp only [List.length_append, List.length_cons, List.length_nil, List.length_set]; rfl),  trivial⟩) rfl) rfl ⟨.agg rfl rfl (fun _ => run_isAgg Try.underlying75) sz75, .tmp rfl, trivial⟩ trivial) ?_ ?_
                  · first | rfl | (simp [outOf, aC]; done) | (simp [outOf, aC]; omega)
                  · first | rfl | (simp; done) | (simp; omega)
              ·
                have hc12' := hc12; try simp only [sumB, Bool.not_eq_true', Bool.not_eq_false', Bool.or_eq_true, Bool.or_eq_false_iff, Bool.and_eq_true, Bool.and_eq_false_imp, decide_eq_true_eq, decide_eq_false_iff_not, Bool.not_not, Bool.not_true, Bool.not_false] at hc12'
                refine AC.seq ?_
                refine AC.seq ?_
                refine AC.region ?_
                refine AL.val (Wanted.plain rfl) (g_binI rfl rfl rfl rfl) rfl rfl ?_
                refine AL.fast 1 rfl ?_
                refine AL.nil ?_
                refine then_ok ?_
                refine AC.cond rfl (fun hc17 => ?_) (fun hc17 => ?_)
                ·
                  have hc17' := hc17; try simp only [sumB, Bool.not_eq_true', Bool.not_eq_false', Bool.or_eq_true, Bool.or_eq_false_iff, Bool.and_eq_true, Bool.and_eq_false_imp, decide_eq_true_eq, decide_eq_false_iff_not, Bool.not_not, Bool.not_true, Bool.not_false] at hc17'
                  refine AC.skip ?_
                  refine then_ok ?_
                  refine AC.cond rfl (fun _ => ?_) (fun hno => absurd (hc17.symm.trans hno) (by decide))
                  refine AC.seq ?_
                  refine AC.seq ?_
                  refine AC.region ?_
                  refine AL.fast 1 rfl ?_
                  refine AL.val (Wanted.plain rfl) (g_fieldP rfl rfl Try.underlying75 rfl sz3 (by decide)) rfl rfl ?_
                  refine AL.val (Wanted.plain rfl) (g_loadB rfl rfl rfl Try.underlying3 rfl rfl) rfl rfl ?_
                  refine AL.val (Wanted.plain rfl) (g_binI rfl rfl rfl rfl) rfl rfl ?_
                  refine AL.nil ?_
                  refine then_ok ?_
                  refine AC.cond rfl (fun hc19 => ?_) (fun hc19 => ?_)
                  ·
                    have hc19' := hc19; try simp only [sumB, Bool.not_eq_true', Bool.not_eq_false', Bool.or_eq_true, Bool.or_eq_false_iff, Bool.and_eq_true, Bool.and_eq_false_imp, decide_eq_true_eq, decide_eq_false_iff_not, Bool.not_not, Bool.not_true, Bool.not_false] at hc19'
                    refine AC.seq ?_
                    refine AC.region ?_
                    refine AL.fast 1 rfl ?_
                    refine AL.nil ?_
                    refine then_ok ?_
                    refine AC.exit ?_
                    refine then_exit ?_
                    refine block_hit ?_
                    refine then_ok ?_
                    refine AC.seq ?_
                    refine AC.seq ?_
                    refine AC.region ?_
                    refine AL.fast 1 rfl ?_
                    refine AL.val (Wanted.plain rfl) (g_binI rfl rfl rfl (show _ = some (Value.bool true) from rfl)) rfl rfl ?_
                    refine AL.nil ?_
                    refine then_ok ?_
                    refine AC.cond rfl (fun _ => ?_) (fun hno => by cases hno)
                    refine AC.seq ?_
                    refine AC.region ?_
                    refine AL.val (Wanted.plain rfl) (g_build (ys := []) rfl bld75 rfl trivial rfl rfl) rfl rfl ?_
                    refine AL.fast 1 rfl ?_
                    refine AL.sto (h' := [(1, (.box 75 [(cI 0), (cI 0), (cI 0), (cI 0), (cI 0), (cI 0), (cI 0), (cB false)])), (0, (.box 75 [(cI a.card), (cI a.shop), (cI a.sum), (cI a.captured), (cI a.refunded), (cI a.disputed), (cI a.till), (cB a.shut)]))]) (Wanted.plain rfl) (g_storeB rfl rfl rfl rfl rfl sz75 rfl (Nat.le_of_ble_eq_true rfl) rfl) rfl rfl rfl rfl ?_
                    refine AL.fast 1 rfl ?_
                    refine AL.nil ?_
                    refine then_ok ?_
                    refine AC.ret ?_
                    refine then_ret ?_
                    have hX : moveAuth a kind n = ((⟨0, 0, 0, 0, 0, 0, 0, false⟩ : Auth), 10) := by
                      (unfold moveAuth; try dsimp only); (try simp only [hr0]); (repeat' split) <;> first | rfl | omega | (exfalso; omega) | (subst_vars; rfl) | (simp_all; done) | (simp_all; omega)
                    rw [hX] at hr; clear hX
                    simp only [Prod.mk.injEq] at hr; obtain ⟨rfl, rfl⟩ := hr
                    refine retQ_mk (av' := outOf [(.g [(cI 0), (cI 0), (cI 0), (cI 0), (cI 0), (cI 0), (cI 0), (cB false)]), (.c (cI 10))]) (nb' := []) (retQ_ret ⟨[(6, (aC (.p 1 0 0 0))), (7, (aI 10))], [(1, (.box 75 [(cI 0), (cI 0), (cI 0), (cI 0), (cI 0), (cI 0), (cI 0), (cB false)]))], 2⟩ [.cell 6 75, .tmp 7] [(.g [(cI 0), (cI 0), (cI 0), (cI 0), (cI 0), (cI 0), (cI 0), (cB false)]), (.c (cI 10))] (Weak.ren id (⟨by first | rfl | (simp only [AV.map, GV.map, CV.map, AB.map', id]; done) | (congr 3; omega) | (congr 4; omega) | (simp only [List.length_append, List.length_cons, List.length_nil, List.length_set]; rfl), by first | rfl | (simp only [AV.map, GV.map, CV.map, AB.map', id]; done) | (congr 3; omega) | (congr 4; omega) | (simp only [List.length_append, List.length_cons, List.length_nil, List.length_set]; rfl),  trivial⟩) (⟨by first | rfl | (simp only [AV.map, GV.map, CV.map, AB.map', id]; done) | (congr 3; omega) | (congr 4; omega) | (simp only [List.length_append, List.length_cons, List.length_nil, List.length_set]; rfl),  trivial⟩) rfl) rfl ⟨.agg rfl rfl (fun _ => run_isAgg Try.underlying75) sz75, .tmp rfl, trivial⟩ trivial) ?_ ?_
                    · first | rfl | (simp [outOf, aC]; done) | (simp [outOf, aC]; omega)
                    · first | rfl | (simp; done) | (simp; omega)
                  ·
                    have hc19' := hc19; try simp only [sumB, Bool.not_eq_true', Bool.not_eq_false', Bool.or_eq_true, Bool.or_eq_false_iff, Bool.and_eq_true, Bool.and_eq_false_imp, decide_eq_true_eq, decide_eq_false_iff_not, Bool.not_not, Bool.not_true, Bool.not_false] at hc19'
                    refine AC.skip ?_
                    refine then_ok ?_
                    refine AC.seq ?_
                    refine AC.region ?_
                    refine AL.val (Wanted.plain rfl) (g_fieldP rfl rfl Try.underlying75 rfl sz3 (by decide)) rfl rfl ?_
                    refine AL.val (Wanted.plain rfl) (g_loadB rfl rfl rfl Try.underlying3 rfl rfl) rfl rfl ?_
                    refine AL.fast 1 rfl ?_
                    refine AL.val (Wanted.plain rfl) (g_binI rfl rfl rfl (wrap_ok (by first | omega | (simp; done) | (simp; omega)))) rfl rfl ?_
                    refine AL.val (Wanted.plain rfl) (g_fieldP rfl rfl Try.underlying75 rfl sz3 (by decide)) rfl rfl ?_
                    refine AL.sto (h' := [(1, (.box 75 [(cI 0), (cI 0), (cI 0), (cI 0), (cI 0), (cI 0), (cI 0), (cB false)])), (0, (.box 75 [(cI a.card), (cI a.shop), (cI a.sum), (cI a.captured), (cI a.refunded), (cI (a.disputed - n)), (cI a.till), (cB a.shut)]))]) (Wanted.plain rfl) (g_storeB rfl rfl rfl rfl rfl sz3 rfl (Nat.le_of_ble_eq_true rfl) rfl) rfl rfl rfl rfl ?_
                    refine AL.nil ?_
                    refine then_ok ?_
                    refine AC.seq ?_
                    refine AC.region ?_
                    refine AL.fast 1 rfl ?_
                    refine AL.val (Wanted.plain rfl) (g_binI rfl rfl rfl rfl) rfl rfl ?_
                    refine AL.nil ?_
                    refine then_ok ?_
                    refine AC.cond rfl (fun _ => ?_) (fun hno => absurd (hc17.symm.trans hno) (by decide))
                    refine AC.region ?_
                    refine AL.val (Wanted.plain rfl) (g_fieldP rfl rfl Try.underlying75 rfl sz3 (by decide)) rfl rfl ?_
                    refine AL.val (Wanted.plain rfl) (g_loadB rfl rfl rfl Try.underlying3 rfl rfl) rfl rfl ?_
                    refine AL.fast 1 rfl ?_
                    refine AL.val (Wanted.plain rfl) (g_binI rfl rfl rfl (wrap_ok (by first | omega | (simp; done) | (simp; omega)))) rfl rfl ?_
                    refine AL.val (Wanted.plain rfl) (g_fieldP rfl rfl Try.underlying75 rfl sz3 (by decide)) rfl rfl ?_
                    refine AL.sto (h' := [(1, (.box 75 [(cI 0), (cI 0), (cI 0), (cI 0), (cI 0), (cI 0), (cI 0), (cB false)])), (0, (.box 75 [(cI a.card), (cI a.shop), (cI a.sum), (cI a.captured), (cI (a.refunded + n)), (cI (a.disputed - n)), (cI a.till), (cB a.shut)]))]) (Wanted.plain rfl) (g_storeB rfl rfl rfl rfl rfl sz3 rfl (Nat.le_of_ble_eq_true rfl) rfl) rfl rfl rfl rfl ?_
                    refine AL.nil ?_
                    refine block_ok ?_
                    refine then_ok ?_
                    refine AC.seq ?_
                    refine AC.seq ?_
                    refine AC.region ?_
                    refine AL.fast 1 rfl ?_
                    refine AL.val (Wanted.plain rfl) (g_binI rfl rfl rfl (show _ = some (Value.bool false) from rfl)) rfl rfl ?_
                    refine AL.nil ?_
                    refine then_ok ?_
                    refine AC.cond rfl (fun hno => by cases hno) (fun _ => ?_)
                    refine AC.skip ?_
                    refine then_ok ?_
                    refine AC.seq ?_
                    refine AC.region ?_
                    refine AL.val (Wanted.plain rfl) (g_loadBs rfl rfl rfl Try.underlying75 rfl sz75 rfl rfl) rfl rfl ?_
                    refine AL.sto (h' := [(1, (.box 75 [(cI a.card), (cI a.shop), (cI a.sum), (cI a.captured), (cI (a.refunded + n)), (cI (a.disputed - n)), (cI a.till), (cB a.shut)])), (0, (.box 75 [(cI a.card), (cI a.shop), (cI a.sum), (cI a.captured), (cI (a.refunded + n)), (cI (a.disputed - n)), (cI a.till), (cB a.shut)]))]) (Wanted.plain rfl) (g_storeB rfl rfl rfl rfl rfl sz75 rfl (Nat.le_of_ble_eq_true rfl) rfl) rfl rfl rfl rfl ?_
                    refine AL.fast 1 rfl ?_
                    refine AL.nil ?_
                    refine then_ok ?_
                    refine AC.ret ?_
                    have hX : moveAuth a kind n = ((⟨a.card, a.shop, a.sum, a.captured, a.refunded + n, a.disputed - n, a.till, a.shut⟩ : Auth), 0) := by
                      (unfold moveAuth; try dsimp only); (try simp only [hr0]); (repeat' split) <;> first | rfl | omega | (exfalso; omega) | (subst_vars; rfl) | (simp_all; done) | (simp_all; omega)
                    rw [hX] at hr; clear hX
                    simp only [Prod.mk.injEq] at hr; obtain ⟨rfl, rfl⟩ := hr
                    refine retQ_mk (av' := outOf [(.g [(cI a.card), (cI a.shop), (cI a.sum), (cI a.captured), (cI (a.refunded + n)), (cI (a.disputed - n)), (cI a.till), (cB a.shut)]), (.c (cI 0))]) (nb' := []) (retQ_ret ⟨[(6, (aC (.p 1 0 0 0))), (7, (aI 0))], [(1, (.box 75 [(cI a.card), (cI a.shop), (cI a.sum), (cI a.captured), (cI (a.refunded + n)), (cI (a.disputed - n)), (cI a.till), (cB a.shut)]))], 2⟩ [.cell 6 75, .tmp 7] [(.g [(cI a.card), (cI a.shop), (cI a.sum), (cI a.captured), (cI (a.refunded + n)), (cI (a.disputed - n)), (cI a.till), (cB a.shut)]), (.c (cI 0))] (Weak.ren id (⟨by first | rfl | (simp only [AV.map, GV.map, CV.map, AB.map', id]; done) | (congr 3; omega) | (congr 4; omega) | (simp only [List.length_append, List.length_cons, List.length_nil, List.length_set]; rfl), by first | rfl | (simp only [AV.map, GV.map, CV.map, AB.map', id]; done) | (congr 3; omega) | (congr 4; omega) | (simp only [List.length_append, List.length_cons, List.length_nil, List.length_set]; rfl),  trivial⟩) (⟨by first | rfl | (simp only [AV.map, GV.map, CV.map, AB.map', id]; done) | (congr 3; omega) | (congr 4; omega) | (simp only [List.length_append, List.length_cons, List.length_nil, List.length_set]; rfl),  trivial⟩) rfl) rfl ⟨.agg rfl rfl (fun _ => run_isAgg Try.underlying75) sz75, .tmp rfl, trivial⟩ trivial) ?_ ?_
                    · first | rfl | (simp [outOf, aC]; done) | (simp [outOf, aC]; omega)
                    · first | rfl | (simp; done) | (simp; omega)
                ·
                  have hc17' := hc17; try simp only [sumB, Bool.not_eq_true', Bool.not_eq_false', Bool.or_eq_true, Bool.or_eq_false_iff, Bool.and_eq_true, Bool.and_eq_false_imp, decide_eq_true_eq, decide_eq_false_iff_not, Bool.not_not, Bool.not_true, Bool.not_false] at hc17'
                  refine AC.region ?_
                  refine AL.val (Wanted.plain rfl) (g_binI rfl rfl rfl rfl) rfl rfl ?_
                  refine AL.fast 1 rfl ?_
                  refine AL.nil ?_
                  refine then_ok ?_
                  refine AC.cond rfl (fun hc23 => ?_) (fun hc23 => ?_)
                  ·
                    have hc23' := hc23; try simp only [sumB, Bool.not_eq_true', Bool.not_eq_false', Bool.or_eq_true, Bool.or_eq_false_iff, Bool.and_eq_true, Bool.and_eq_false_imp, decide_eq_true_eq, decide_eq_false_iff_not, Bool.not_not, Bool.not_true, Bool.not_false] at hc23'
                    refine AC.seq ?_
                    refine AC.seq ?_
                    refine AC.region ?_
                    refine AL.fast 1 rfl ?_
                    refine AL.val (Wanted.plain rfl) (g_fieldP rfl rfl Try.underlying75 rfl sz3 (by decide)) rfl rfl ?_
                    refine AL.val (Wanted.plain rfl) (g_loadB rfl rfl rfl Try.underlying3 rfl rfl) rfl rfl ?_
                    refine AL.val (Wanted.plain rfl) (g_binI rfl rfl rfl rfl) rfl rfl ?_
                    refine AL.nil ?_
                    refine then_ok ?_
                    refine AC.cond rfl (fun hc24 => ?_) (fun hc24 => ?_)
                    ·
                      have hc24' := hc24; try simp only [sumB, Bool.not_eq_true', Bool.not_eq_false', Bool.or_eq_true, Bool.or_eq_false_iff, Bool.and_eq_true, Bool.and_eq_false_imp, decide_eq_true_eq, decide_eq_false_iff_not, Bool.not_not, Bool.not_true, Bool.not_false] at hc24'
                      refine AC.seq ?_
                      refine AC.region ?_
                      refine AL.fast 1 rfl ?_
                      refine AL.nil ?_
                      refine then_ok ?_
                      refine AC.exit ?_
                      refine then_exit ?_
                      refine block_hit ?_
                      refine then_ok ?_
                      refine AC.seq ?_
                      refine AC.seq ?_
                      refine AC.region ?_
                      refine AL.fast 1 rfl ?_
                      refine AL.val (Wanted.plain rfl) (g_binI rfl rfl rfl (show _ = some (Value.bool true) from rfl)) rfl rfl ?_
                      refine AL.nil ?_
                      refine then_ok ?_
                      refine AC.cond rfl (fun _ => ?_) (fun hno => by cases hno)
                      refine AC.seq ?_
                      refine AC.region ?_
                      refine AL.val (Wanted.plain rfl) (g_build (ys := []) rfl bld75 rfl trivial rfl rfl) rfl rfl ?_
                      refine AL.fast 1 rfl ?_
                      refine AL.sto (h' := [(1, (.box 75 [(cI 0), (cI 0), (cI 0), (cI 0), (cI 0), (cI 0), (cI 0), (cB false)])), (0, (.box 75 [(cI a.card), (cI a.shop), (cI a.sum), (cI a.captured), (cI a.refunded), (cI a.disputed), (cI a.till), (cB a.shut)]))]) (Wanted.plain rfl) (g_storeB rfl rfl rfl rfl rfl sz75 rfl (Nat.le_of_ble_eq_true rfl) rfl) rfl rfl rfl rfl ?_
                      refine AL.fast 1 rfl ?_
                      refine AL.nil ?_
                      refine then_ok ?_
                      refine AC.ret ?_
                      refine then_ret ?_
                      have hX : moveAuth a kind n = ((⟨0, 0, 0, 0, 0, 0, 0, false⟩ : Auth), 10) := by
                        (unfold moveAuth; try dsimp only); (try simp only [hr0]); (repeat' split) <;> first | rfl | omega | (exfalso; omega) | (subst_vars; rfl) | (simp_all; done) | (simp_all; omega)
                      rw [hX] at hr; clear hX
                      simp only [Prod.mk.injEq] at hr; obtain ⟨rfl, rfl⟩ := hr
                      refine retQ_mk (av' := outOf [(.g [(cI 0), (cI 0), (cI 0), (cI 0), (cI 0), (cI 0), (cI 0), (cB false)]), (.c (cI 10))]) (nb' := []) (retQ_ret ⟨[(6, (aC (.p 1 0 0 0))), (7, (aI 10))], [(1, (.box 75 [(cI 0), (cI 0), (cI 0), (cI 0), (cI 0), (cI 0), (cI 0), (cB false)]))], 2⟩ [.cell 6 75, .tmp 7] [(.g [(cI 0), (cI 0), (cI 0), (cI 0), (cI 0), (cI 0), (cI 0), (cB false)]), (.c (cI 10))] (Weak.ren id (⟨by first | rfl | (simp only [AV.map, GV.map, CV.map, AB.map', id]; done) | (congr 3; omega) | (congr 4; omega) | (simp only [List.length_append, List.length_cons, List.length_nil, List.length_set]; rfl), by first | rfl | (simp only [AV.map, GV.map, CV.map, AB.map', id]; done) | (congr 3; omega) | (congr 4; omega) | (simp only [List.length_append, List.length_cons, List.length_nil, List.length_set]; rfl),  trivial⟩) (⟨by first | rfl | (simp only [AV.map, GV.map, CV.map, AB.map', id]; done) | (congr 3; omega) | (congr 4; omega) | (simp only [List.length_append, List.length_cons, List.length_nil, List.length_set]; rfl),  trivial⟩) rfl) rfl ⟨.agg rfl rfl (fun _ => run_isAgg Try.underlying75) sz75, .tmp rfl, trivial⟩ trivial) ?_ ?_
                      · first | rfl | (simp [outOf, aC]; done) | (simp [outOf, aC]; omega)
                      · first | rfl | (simp; done) | (simp; omega)
                    ·
                      have hc24' := hc24; try simp only [sumB, Bool.not_eq_true', Bool.not_eq_false', Bool.or_eq_true, Bool.or_eq_false_iff, Bool.and_eq_true, Bool.and_eq_false_imp, decide_eq_true_eq, decide_eq_false_iff_not, Bool.not_not, Bool.not_true, Bool.not_false] at hc24'
                      refine AC.skip ?_
                      refine then_ok ?_
                      refine AC.seq ?_
                      refine AC.region ?_
                      refine AL.val (Wanted.plain rfl) (g_fieldP rfl rfl Try.underlying75 rfl sz3 (by decide)) rfl rfl ?_
                      refine AL.val (Wanted.plain rfl) (g_loadB rfl rfl rfl Try.underlying3 rfl rfl) rfl rfl ?_
                      refine AL.fast 1 rfl ?_
                      refine AL.val (Wanted.plain rfl) (g_binI rfl rfl rfl (wrap_ok (by first | omega | (simp; done) | (simp; omega)))) rfl rfl ?_
                      refine AL.val (Wanted.plain rfl) (g_fieldP rfl rfl Try.underlying75 rfl sz3 (by decide)) rfl rfl ?_
                      refine AL.sto (h' := [(1, (.box 75 [(cI 0), (cI 0), (cI 0), (cI 0), (cI 0), (cI 0), (cI 0), (cB false)])), (0, (.box 75 [(cI a.card), (cI a.shop), (cI a.sum), (cI a.captured), (cI a.refunded), (cI (a.disputed - n)), (cI a.till), (cB a.shut)]))]) (Wanted.plain rfl) (g_storeB rfl rfl rfl rfl rfl sz3 rfl (Nat.le_of_ble_eq_true rfl) rfl) rfl rfl rfl rfl ?_
                      refine AL.nil ?_
                      refine then_ok ?_
                      refine AC.seq ?_
                      refine AC.region ?_
                      refine AL.fast 1 rfl ?_
                      refine AL.val (Wanted.plain rfl) (g_binI rfl rfl rfl rfl) rfl rfl ?_
                      refine AL.nil ?_
                      refine then_ok ?_
                      refine AC.cond rfl (fun hno => absurd (hc17.symm.trans hno) (by decide)) (fun _ => ?_)
                      refine AC.skip ?_
                      refine block_ok ?_
                      refine then_ok ?_
                      refine AC.seq ?_
                      refine AC.seq ?_
                      refine AC.region ?_
                      refine AL.fast 1 rfl ?_
                      refine AL.val (Wanted.plain rfl) (g_binI rfl rfl rfl (show _ = some (Value.bool false) from rfl)) rfl rfl ?_
                      refine AL.nil ?_
                      refine then_ok ?_
                      refine AC.cond rfl (fun hno => by cases hno) (fun _ => ?_)
                      refine AC.skip ?_
                      refine then_ok ?_
                      refine AC.seq ?_
                      refine AC.region ?_
                      refine AL.val (Wanted.plain rfl) (g_loadBs rfl rfl rfl Try.underlying75 rfl sz75 rfl rfl) rfl rfl ?_
                      refine AL.sto (h' := [(1, (.box 75 [(cI a.card), (cI a.shop), (cI a.sum), (cI a.captured), (cI a.refunded), (cI (a.disputed - n)), (cI a.till), (cB a.shut)])), (0, (.box 75 [(cI a.card), (cI a.shop), (cI a.sum), (cI a.captured), (cI a.refunded), (cI (a.disputed - n)), (cI a.till), (cB a.shut)]))]) (Wanted.plain rfl) (g_storeB rfl rfl rfl rfl rfl sz75 rfl (Nat.le_of_ble_eq_true rfl) rfl) rfl rfl rfl rfl ?_
                      refine AL.fast 1 rfl ?_
                      refine AL.nil ?_
                      refine then_ok ?_
                      refine AC.ret ?_
                      have hX : moveAuth a kind n = ((⟨a.card, a.shop, a.sum, a.captured, a.refunded, a.disputed - n, a.till, a.shut⟩ : Auth), 0) := by
                        (unfold moveAuth; try dsimp only); (try simp only [hr0]); (repeat' split) <;> first | rfl | omega | (exfalso; omega) | (subst_vars; rfl) | (simp_all; done) | (simp_all; omega)
                      rw [hX] at hr; clear hX
                      simp only [Prod.mk.injEq] at hr; obtain ⟨rfl, rfl⟩ := hr
                      refine retQ_mk (av' := outOf [(.g [(cI a.card), (cI a.shop), (cI a.sum), (cI a.captured), (cI a.refunded), (cI (a.disputed - n)), (cI a.till), (cB a.shut)]), (.c (cI 0))]) (nb' := []) (retQ_ret ⟨[(6, (aC (.p 1 0 0 0))), (7, (aI 0))], [(1, (.box 75 [(cI a.card), (cI a.shop), (cI a.sum), (cI a.captured), (cI a.refunded), (cI (a.disputed - n)), (cI a.till), (cB a.shut)]))], 2⟩ [.cell 6 75, .tmp 7] [(.g [(cI a.card), (cI a.shop), (cI a.sum), (cI a.captured), (cI a.refunded), (cI (a.disputed - n)), (cI a.till), (cB a.shut)]), (.c (cI 0))] (Weak.ren id (⟨by first | rfl | (simp only [AV.map, GV.map, CV.map, AB.map', id]; done) | (congr 3; omega) | (congr 4; omega) | (simp only [List.length_append, List.length_cons, List.length_nil, List.length_set]; rfl), by first | rfl | (simp only [AV.map, GV.map, CV.map, AB.map', id]; done) | (congr 3; omega) | (congr 4; omega) | (simp only [List.length_append, List.length_cons, List.length_nil, List.length_set]; rfl),  trivial⟩) (⟨by first | rfl | (simp only [AV.map, GV.map, CV.map, AB.map', id]; done) | (congr 3; omega) | (congr 4; omega) | (simp only [List.length_append, List.length_cons, List.length_nil, List.length_set]; rfl),  trivial⟩) rfl) rfl ⟨.agg rfl rfl (fun _ => run_isAgg Try.underlying75) sz75, .tmp rfl, trivial⟩ trivial) ?_ ?_
                      · first | rfl | (simp [outOf, aC]; done) | (simp [outOf, aC]; omega)
                      · first | rfl | (simp; done) | (simp; omega)
                  ·
                    have hc23' := hc23; try simp only [sumB, Bool.not_eq_true', Bool.not_eq_false', Bool.or_eq_true, Bool.or_eq_false_iff, Bool.and_eq_true, Bool.and_eq_false_imp, decide_eq_true_eq, decide_eq_false_iff_not, Bool.not_not, Bool.not_true, Bool.not_false] at hc23'
                    refine AC.region ?_
                    refine AL.fast 2 rfl ?_
                    obtain ⟨b1, e1, hr1⟩ : ∃ (b1 : Auth) (e1 : Int), openAuth a kind n = (b1, e1) := ⟨_, _, rfl⟩
                    refine AL.callM (n' := 2) (h' := [(0, (.box 75 [(cI b1.card), (cI b1.shop), (cI b1.sum), (cI b1.captured), (cI b1.refunded), (cI b1.disputed), (cI b1.till), (cB b1.shut)])), (1, (.box 75 [(cI 0), (cI 0), (cI 0), (cI 0), (cI 0), (cI 0), (cI 0), (cB false)]))]) (Wanted.plain rfl) (g_callM (fun k => k) (fun k => k) (c_auth_open a kind n (by first | assumption | omega) (by omega) (by omega) b1 e1 hr1) en112 rfl rfl ⟨⟨_, rfl, .inl ⟨rfl, rfl⟩⟩, ⟨_, rfl, .inr (.c (.d _))⟩, ⟨_, rfl, .inr (.c (.d _))⟩,  trivial⟩ ⟨rfl,  trivial⟩ rfl rfl rfl rfl rfl rfl trivial ⟨⟨trivial, trivial, trivial, trivial, trivial, trivial, trivial, trivial,  trivial⟩,  trivial⟩ rfl rfl rfl rfl) rfl rfl rfl rfl rfl rfl ?_
                    refine AL.fast 1 rfl ?_
                    refine AL.nil ?_
                    refine block_ok ?_
                    refine then_ok ?_
                    refine AC.seq ?_
                    refine AC.seq ?_
                    refine AC.region ?_
                    refine AL.fast 1 rfl ?_
                    refine AL.val (Wanted.plain rfl) (g_binI rfl rfl rfl rfl) rfl rfl ?_
                    refine AL.nil ?_
                    refine then_ok ?_
                    refine AC.cond rfl (fun hc28 => ?_) (fun hc28 => ?_)
                    ·
                      have hc28' := hc28; try simp only [sumB, Bool.not_eq_true', Bool.not_eq_false', Bool.or_eq_true, Bool.or_eq_false_iff, Bool.and_eq_true, Bool.and_eq_false_imp, decide_eq_true_eq, decide_eq_false_iff_not, Bool.not_not, Bool.not_true, Bool.not_false] at hc28'
                      refine AC.seq ?_
                      refine AC.region ?_
                      refine AL.val (Wanted.plain rfl) (g_build (ys := []) rfl bld75 rfl trivial rfl rfl) rfl rfl ?_
                      refine AL.fast 1 rfl ?_
                      refine AL.sto (h' := [(0, (.box 75 [(cI b1.card), (cI b1.shop), (cI b1.sum), (cI b1.captured), (cI b1.refunded), (cI b1.disputed), (cI b1.till), (cB b1.shut)])), (1, (.box 75 [(cI 0), (cI 0), (cI 0), (cI 0), (cI 0), (cI 0), (cI 0), (cB false)]))]) (Wanted.plain rfl) (g_storeB rfl rfl rfl rfl rfl sz75 rfl (Nat.le_of_ble_eq_true rfl) rfl) rfl rfl rfl rfl ?_
                      refine AL.fast 1 rfl ?_
                      refine AL.nil ?_
                      refine then_ok ?_
                      refine AC.ret ?_
                      refine then_ret ?_
                      have hX : moveAuth a kind n = ((⟨0, 0, 0, 0, 0, 0, 0, false⟩ : Auth), e1) := by
                        (unfold moveAuth; try dsimp only); (try simp only [hr0]); (try simp only [hr1]); (repeat' split) <;> first | rfl | omega | (exfalso; omega) | (subst_vars; rfl) | (simp_all; done) | (simp_all; omega)
                      rw [hX] at hr; clear hX
                      simp only [Prod.mk.injEq] at hr; obtain ⟨rfl, rfl⟩ := hr
                      refine retQ_mk (av' := outOf [(.g [(cI 0), (cI 0), (cI 0), (cI 0), (cI 0), (cI 0), (cI 0), (cB false)]), (.c (cI e1))]) (nb' := []) (retQ_ret ⟨[(6, (aC (.p 1 0 0 0))), (7, (aI e1))], [(1, (.box 75 [(cI 0), (cI 0), (cI 0), (cI 0), (cI 0), (cI 0), (cI 0), (cB false)]))], 2⟩ [.cell 6 75, .tmp 7] [(.g [(cI 0), (cI 0), (cI 0), (cI 0), (cI 0), (cI 0), (cI 0), (cB false)]), (.c (cI e1))] (Weak.ren id (⟨by first | rfl | (simp only [AV.map, GV.map, CV.map, AB.map', id]; done) | (congr 3; omega) | (congr 4; omega) | (simp only [List.length_append, List.length_cons, List.length_nil, List.length_set]; rfl), by first | rfl | (simp only [AV.map, GV.map, CV.map, AB.map', id]; done) | (congr 3; omega) | (congr 4; omega) | (simp only [List.length_append, List.length_cons, List.length_nil, List.length_set]; rfl),  trivial⟩) (⟨by first | rfl | (simp only [AV.map, GV.map, CV.map, AB.map', id]; done) | (congr 3; omega) | (congr 4; omega) | (simp only [List.length_append, List.length_cons, List.length_nil, List.length_set]; rfl),  trivial⟩) rfl) rfl ⟨.agg rfl rfl (fun _ => run_isAgg Try.underlying75) sz75, .tmp rfl, trivial⟩ trivial) ?_ ?_
                      · first | rfl | (simp [outOf, aC]; done) | (simp [outOf, aC]; omega)
                      · first | rfl | (simp; done) | (simp; omega)
                    ·
                      have hc28' := hc28; try simp only [sumB, Bool.not_eq_true', Bool.not_eq_false', Bool.or_eq_true, Bool.or_eq_false_iff, Bool.and_eq_true, Bool.and_eq_false_imp, decide_eq_true_eq, decide_eq_false_iff_not, Bool.not_not, Bool.not_true, Bool.not_false] at hc28'
                      refine AC.skip ?_
                      refine then_ok ?_
                      refine AC.seq ?_
                      refine AC.region ?_
                      refine AL.val (Wanted.plain rfl) (g_loadBs rfl rfl rfl Try.underlying75 rfl sz75 rfl rfl) rfl rfl ?_
                      refine AL.sto (h' := [(0, (.box 75 [(cI b1.card), (cI b1.shop), (cI b1.sum), (cI b1.captured), (cI b1.refunded), (cI b1.disputed), (cI b1.till), (cB b1.shut)])), (1, (.box 75 [(cI b1.card), (cI b1.shop), (cI b1.sum), (cI b1.captured), (cI b1.refunded), (cI b1.disputed), (cI b1.till), (cB b1.shut)]))]) (Wanted.plain rfl) (g_storeB rfl rfl rfl rfl rfl sz75 rfl (Nat.le_of_ble_eq_true rfl) rfl) rfl rfl rfl rfl ?_
                      refine AL.fast 1 rfl ?_
                      refine AL.nil ?_
                      refine then_ok ?_
                      refine AC.ret ?_
                      have hX : moveAuth a kind n = (b1, 0) := by
                        (unfold moveAuth; try dsimp only); (try simp only [hr0]); (try simp only [hr1]); (repeat' split) <;> first | rfl | omega | (exfalso; omega) | (subst_vars; rfl) | (simp_all; done) | (simp_all; omega)
                      rw [hX] at hr; clear hX
                      simp only [Prod.mk.injEq] at hr; obtain ⟨rfl, rfl⟩ := hr
                      refine retQ_mk (av' := outOf [(.g [(cI b1.card), (cI b1.shop), (cI b1.sum), (cI b1.captured), (cI b1.refunded), (cI b1.disputed), (cI b1.till), (cB b1.shut)]), (.c (cI 0))]) (nb' := []) (retQ_ret ⟨[(6, (aC (.p 1 0 0 0))), (7, (aI 0))], [(1, (.box 75 [(cI b1.card), (cI b1.shop), (cI b1.sum), (cI b1.captured), (cI b1.refunded), (cI b1.disputed), (cI b1.till), (cB b1.shut)]))], 2⟩ [.cell 6 75, .tmp 7] [(.g [(cI b1.card), (cI b1.shop), (cI b1.sum), (cI b1.captured), (cI b1.refunded), (cI b1.disputed), (cI b1.till), (cB b1.shut)]), (.c (cI 0))] (Weak.ren id (⟨by first | rfl | (simp only [AV.map, GV.map, CV.map, AB.map', id]; done) | (congr 3; omega) | (congr 4; omega) | (simp only [List.length_append, List.length_cons, List.length_nil, List.length_set]; rfl), by first | rfl | (simp only [AV.map, GV.map, CV.map, AB.map', id]; done) | (congr 3; omega) | (congr 4; omega) | (simp only [List.length_append, List.length_cons, List.length_nil, List.length_set]; rfl),  trivial⟩) (⟨by first | rfl | (simp only [AV.map, GV.map, CV.map, AB.map', id]; done) | (congr 3; omega) | (congr 4; omega) | (simp only [List.length_append, List.length_cons, List.length_nil, List.length_set]; rfl),  trivial⟩) rfl) rfl ⟨.agg rfl rfl (fun _ => run_isAgg Try.underlying75) sz75, .tmp rfl, trivial⟩ trivial) ?_ ?_
                      · first | rfl | (simp [outOf, aC]; done) | (simp [outOf, aC]; omega)
                      · first | rfl | (simp; done) | (simp; omega)
end Go.Proofs.Ytgmcdlfmifijlaa.Dev
