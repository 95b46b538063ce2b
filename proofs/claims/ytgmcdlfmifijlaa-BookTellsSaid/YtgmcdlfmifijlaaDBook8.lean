/- payref1.Post. -/
import Derived.Test.YtgmcdlfmifijlaaDBook7
set_option linter.unusedVariables false
set_option linter.unusedSimpArgs false
namespace Go.Proofs.Ytgmcdlfmifijlaa.Dev
open Go.RowKit

set_option maxRecDepth 100000 in
set_option maxHeartbeats 4000000 in
theorem c_ref_Post (l es : List Entry) (r : List Entry) (e : Int) (hr : postB l es = (r, e)) : Fn Try.prog 84 [(.c (cR 2 ((l).map rEntry))), (.c (cR 2 ((es).map rEntry)))] (.t [(.c (.s 0 0 2 r.length)), (.c (cI e))]) [(0, (.arr 111 2 ((r).map rEntry)))] := by
  refine Fn.mk' 115 [(0, (aC (cR 2 ((l).map rEntry)))), (1, (aC (cR 2 ((es).map rEntry))))] Try.func84 rfl rfl rfl rfl ?_
  intro W0 T0
  refine AC.len1 0 rfl (fun hlen0 => ?_)
  refine AC.len1 1 rfl (fun hlen1 => ?_)
  refine AC.seq ?_
  refine AC.region ?_
  refine AL.fast 2 rfl ?_
  refine AL.nil ?_
  refine then_ok ?_
  refine AC.seq ?_
  refine AC.seq ?_
  refine AC.region ?_
  refine AL.fast 1 rfl ?_
  obtain ⟨f0, hr0⟩ : ∃ (f0 : Fault), wrongB l = f0 := ⟨_, rfl⟩
  refine AL.call (n' := 0) (h' := []) (Wanted.plain rfl) (g_call 0 (c_ref_Wrong l  f0 hr0) en80 rfl rfl ⟨⟨_, rfl, .c (.d _)⟩,  trivial⟩ ⟨trivial, trivial,  trivial⟩ trivial rfl rfl rfl rfl) rfl rfl rfl rfl rfl ?_
  refine AL.new (n' := 1) (Wanted.plain rfl) (g_alloc 0 rfl zv47 rfl rfl rfl) rfl rfl rfl ?_
  refine AL.sto (h' := [(0, (.box 47 [(cI f0.err), (cI f0.at_)]))]) (Wanted.plain rfl) (g_storeB rfl rfl rfl rfl rfl sz47 rfl (Nat.le_of_ble_eq_true rfl) rfl) rfl rfl rfl rfl ?_
  refine AL.nil ?_
  refine then_ok ?_
  refine AC.seq ?_
  refine AC.region ?_
  refine AL.val (Wanted.plain rfl) (g_fieldP rfl rfl Try.underlying47 rfl sz27 (by decide)) rfl rfl ?_
  refine AL.val (Wanted.plain rfl) (g_loadB rfl rfl rfl Try.underlying27 rfl rfl) rfl rfl ?_
  refine AL.val (Wanted.plain rfl) (g_binI rfl rfl rfl rfl) rfl rfl ?_
  refine AL.nil ?_
  refine then_ok ?_
  refine AC.cond rfl (fun hc1 => ?_) (fun hc1 => ?_)
  ·
    have hc1' := hc1; try simp only [sumB, Bool.not_eq_true', Bool.not_eq_false', Bool.or_eq_true, Bool.or_eq_false_iff, Bool.and_eq_true, Bool.and_eq_false_imp, decide_eq_true_eq, decide_eq_false_iff_not, Bool.not_not, Bool.not_true, Bool.not_false] at hc1'
    refine AC.seq ?_
    refine AC.weak (st' := ⟨[(0, (aC (cR 2 ((l).map rEntry)))), (1, (aC (cR 2 ((es).map rEntry)))), (6, (aC (.p 0 0 0 0)))], [(0, (.box 47 [(cI f0.err), (cI f0.at_)]))], 1⟩) (Weak.ren id (⟨by first | rfl | (simp only [AV.map, GV.map, CV.map, AB.map', id]; done) | (congr 3; omega) | (congr 4; omega) | (simp only [List.length_append, List.length_cons, List.length_nil, List.length_set]; rfl), by first | rfl | (simp only [AV.map, GV.map, CV.map, AB.map', id]; done) | (congr 3; omega) | (congr 4; omega) | (simp only [List.length_append, List.length_cons, List.length_nil, List.length_set]; rfl), by first | rfl | (simp only [AV.map, GV.map, CV.map, AB.map', id]; done) | (congr 3; omega) | (congr 4; omega) | (simp only [List.length_append, List.length_cons, List.length_nil, List.length_set]; rfl),  trivial⟩) (⟨by first | rfl | (simp only [AV.map, GV.map, CV.map, AB.map', id]; done) | (congr 3; omega) | (congr 4; omega) | (simp only [List.length_append, List.length_cons, List.length_nil, List.length_set]; rfl),  trivial⟩) rfl) ?_
    refine AC.draw [⟨some 23, (aC (.p 0 0 0 0)), [], [], [], [(6, (aC (.p 0 0 0 0)))], [(0, (.box 47 [(cI f0.err), (cI f0.at_)]))]⟩,
      ⟨some 24, (aI f0.err), [], [], [0], [(23, (aC (.p 0 0 0 0)))], [(0, (.box 47 [(cI f0.err), (cI f0.at_)]))]⟩,
      ⟨some 4, (aC cN), [], [], [], [], []⟩,
      ⟨some 5, (aI f0.err), [], [], [1], [(24, (aI f0.err))], []⟩] ⟨[(0, (aC (cR 2 ((l).map rEntry)))), (1, (aC (cR 2 ((es).map rEntry)))), (6, (aC (.p 0 0 0 0))), (4, (aC cN)), (5, (aI f0.err))], [(0, (.box 47 [(cI f0.err), (cI f0.at_)]))], 1⟩ mixed (by kernel_rfl) ?_ ?_ ?_ ?_
    · exact ⟨.inl ⟨(Wanted.plain rfl), GOp.cast (g_fieldP rfl rfl Try.underlying47 rfl sz27 (by decide)) rfl⟩,
      .inl ⟨(Wanted.plain rfl), GOp.cast (g_loadB rfl rfl rfl Try.underlying27 rfl rfl) rfl⟩,
      .inl ⟨(Wanted.plain rfl), GOp.cast (g_assign rfl rfl) rfl⟩,
      .inl ⟨(Wanted.plain rfl), GOp.cast (g_assign rfl rfl) rfl⟩,
       trivial⟩
    · exact ⟨⟨⟨.inl rfl,  trivial⟩, ⟨.inl rfl,  trivial⟩⟩, ⟨⟨.inr ⟨0, .head _, _, rfl, rfl, rfl⟩,  trivial⟩, ⟨.inl rfl,  trivial⟩⟩, ⟨trivial, trivial⟩, ⟨⟨.inr ⟨1, .head _, _, rfl, rfl, rfl⟩,  trivial⟩, trivial⟩,  trivial⟩
    · exact ⟨⟨.inl rfl, .inl rfl, .inl rfl, .inr ⟨2, _, rfl, rfl, rfl⟩, .inr ⟨3, _, rfl, rfl, rfl⟩,  trivial⟩, ⟨.inl rfl,  trivial⟩⟩
    ·
      refine AL.nil ?_
      refine then_ok ?_
      refine AC.ret ?_
      refine then_ret ?_
      refine retQ_weak (Weak.nil 4 111 2 (by decide) rfl) ?_
      have hX : postB l es = (([] : List Entry), f0.err) := by
        unfold postB; rw [if_pos (by rw [hr0]; omega), hr0]
      rw [hX] at hr; clear hX
      simp only [Prod.mk.injEq] at hr; obtain ⟨rfl, rfl⟩ := hr
      refine retQ_mk (av' := outOf [(.c (.s 0 0 2 0)), (.c (cI f0.err))]) (nb' := [(0, (.arr 111 2 ((([] : List Entry)).map rEntry)))]) (retQ_ret ⟨[(4, (aC (.s 0 0 2 0))), (5, (aI f0.err))], [(0, (.arr 111 2 ((([] : List Entry)).map rEntry)))], 1⟩ [.tmp 4, .tmp 5] [(.c (.s 0 0 2 0)), (.c (cI f0.err))] (Weak.ren (fun k => if k = 0 then 1 else k) (⟨by first | rfl | (simp only [AV.map, GV.map, CV.map, AB.map', id]; done) | (congr 3; omega) | (congr 4; omega) | (simp only [List.length_append, List.length_cons, List.length_nil, List.length_set]; rfl), by first | rfl | (simp only [AV.map, GV.map, CV.map, AB.map', id]; done) | (congr 3; omega) | (congr 4; omega) | (simp only [List.length_append, List.length_cons, List.length_nil, List.length_set]; rfl),  trivial⟩) (⟨by first | rfl | (simp only [AV.map, GV.map, CV.map, AB.map', id]; done) | (congr 3; omega) | (congr 4; omega) | (simp only [List.length_append, List.length_cons, List.length_nil, List.length_set]; rfl),  trivial⟩) rfl) rfl ⟨.tmp rfl, .tmp rfl, trivial⟩ ⟨by first | rfl | (simp only [AV.map, GV.map, CV.map, AB.map', id]; done) | (congr 3; omega) | (congr 4; omega) | (simp only [List.length_append, List.length_cons, List.length_nil, List.length_set]; rfl),  trivial⟩) ?_ ?_
      · first | rfl | (simp [outOf, aC]; done) | (simp [outOf, aC]; omega)
      · first | rfl | (simp; done) | (simp; omega)
  ·
    have hc1' := hc1; try simp only [sumB, Bool.not_eq_true', Bool.not_eq_false', Bool.or_eq_true, Bool.or_eq_false_iff, Bool.and_eq_true, Bool.and_eq_false_imp, decide_eq_true_eq, decide_eq_false_iff_not, Bool.not_not, Bool.not_true, Bool.not_false] at hc1'
    refine AC.skip ?_
    refine then_ok ?_
    refine AC.seq ?_
    refine AC.seq ?_
    refine AC.region ?_
    refine AL.fast 1 rfl ?_
    refine AL.val (Wanted.plain rfl) (g_lenM rfl rfl rfl rfl rfl Try.underlying102) rfl rfl ?_
    refine AL.val (Wanted.plain rfl) (g_binI rfl rfl rfl rfl) rfl rfl ?_
    refine AL.nil ?_
    refine then_ok ?_
    refine AC.cond rfl (fun hc2 => ?_) (fun hc2 => ?_)
    ·
      have hc2' := hc2; try simp only [sumB, Bool.not_eq_true', Bool.not_eq_false', Bool.or_eq_true, Bool.or_eq_false_iff, Bool.and_eq_true, Bool.and_eq_false_imp, decide_eq_true_eq, decide_eq_false_iff_not, Bool.not_not, Bool.not_true, Bool.not_false] at hc2'
      refine AC.seq ?_
      refine AC.region ?_
      refine AL.fast 2 rfl ?_
      refine AL.nil ?_
      refine then_ok ?_
      refine AC.ret ?_
      refine then_ret ?_
      refine retQ_weak (Weak.nil 4 111 2 (by decide) rfl) ?_
      have hX : postB l es = (([] : List Entry), 5) := by
        unfold postB; rw [if_neg (by rw [hr0]; omega), if_pos (by omega)]
      rw [hX] at hr; clear hX
      simp only [Prod.mk.injEq] at hr; obtain ⟨rfl, rfl⟩ := hr
      refine retQ_mk (av' := outOf [(.c (.s 0 0 2 0)), (.c (cI 5))]) (nb' := [(0, (.arr 111 2 ((([] : List Entry)).map rEntry)))]) (retQ_ret ⟨[(4, (aC (.s 0 0 2 0))), (5, (aI 5))], [(0, (.arr 111 2 ((([] : List Entry)).map rEntry)))], 1⟩ [.tmp 4, .tmp 5] [(.c (.s 0 0 2 0)), (.c (cI 5))] (Weak.ren (fun k => if k = 0 then 1 else k) (⟨by first | rfl | (simp only [AV.map, GV.map, CV.map, AB.map', id]; done) | (congr 3; omega) | (congr 4; omega) | (simp only [List.length_append, List.length_cons, List.length_nil, List.length_set]; rfl), by first | rfl | (simp only [AV.map, GV.map, CV.map, AB.map', id]; done) | (congr 3; omega) | (congr 4; omega) | (simp only [List.length_append, List.length_cons, List.length_nil, List.length_set]; rfl),  trivial⟩) (⟨by first | rfl | (simp only [AV.map, GV.map, CV.map, AB.map', id]; done) | (congr 3; omega) | (congr 4; omega) | (simp only [List.length_append, List.length_cons, List.length_nil, List.length_set]; rfl),  trivial⟩) rfl) rfl ⟨.tmp rfl, .tmp rfl, trivial⟩ ⟨by first | rfl | (simp only [AV.map, GV.map, CV.map, AB.map', id]; done) | (congr 3; omega) | (congr 4; omega) | (simp only [List.length_append, List.length_cons, List.length_nil, List.length_set]; rfl),  trivial⟩) ?_ ?_
      · first | rfl | (simp [outOf, aC]; done) | (simp [outOf, aC]; omega)
      · first | rfl | (simp; done) | (simp; omega)
    ·
      have hc2' := hc2; try simp only [sumB, Bool.not_eq_true', Bool.not_eq_false', Bool.or_eq_true, Bool.or_eq_false_iff, Bool.and_eq_true, Bool.and_eq_false_imp, decide_eq_true_eq, decide_eq_false_iff_not, Bool.not_not, Bool.not_true, Bool.not_false] at hc2'
      refine AC.skip ?_
      refine then_ok ?_
      refine AC.seq ?_
      refine AC.region ?_
      refine AL.fast 1 rfl ?_
      refine AL.nil ?_
      refine then_ok ?_
      refine AC.seq ?_
      refine AC.seq ?_
      refine AC.region ?_
      refine AL.fast 1 rfl ?_
      refine AL.val (Wanted.plain rfl) (g_lenM rfl rfl rfl rfl rfl Try.underlying102) rfl rfl ?_
      refine AL.fast 1 rfl ?_
      refine AL.nil ?_
      refine then_ok ?_
      refine AC.block ?_
      refine AC.loop (β := Nat) (fun (q : Nat) => ⟨[(0, (aC (cR 2 ((l).map rEntry)))), (1, (aC (cR 2 ((es).map rEntry)))), (7, (aI (sumE (es.take q)))), (28, (aC (cR 2 ((es).map rEntry)))), (29, (aI (↑es.length : Int))), (30, (aI (↑q : Int)))], [], 0⟩) (fun (q : Nat) => q ≤ es.length ∧ (∀ x ∈ es.take q, ¬ badE x) ∧ -1000000000000 * (q : Int) ≤ sumE (es.take q) ∧ sumE (es.take q) ≤ 1000000000000 * (q : Int)) (fun (q : Nat) => es.length - q) 0 ?_ ?_ ?_
      · (have h2 : sumE (es.take 0) = 0 := rfl); exact ⟨by omega, by intro x hx; simp at hx, by omega⟩
      · exact Weak.ren id (⟨by first | rfl | (simp only [AV.map, GV.map, CV.map, AB.map', id]; done) | (congr 3; omega) | (congr 4; omega) | (simp only [List.length_append, List.length_cons, List.length_nil, List.length_set]; rfl), by first | rfl | (simp only [AV.map, GV.map, CV.map, AB.map', id]; done) | (congr 3; omega) | (congr 4; omega) | (simp only [List.length_append, List.length_cons, List.length_nil, List.length_set]; rfl), by first | rfl | (simp only [AV.map, GV.map, CV.map, AB.map', id]; done) | (congr 3; omega) | (congr 4; omega) | (simp only [List.length_append, List.length_cons, List.length_nil, List.length_set]; rfl), by first | rfl | (simp only [AV.map, GV.map, CV.map, AB.map', id]; done) | (congr 3; omega) | (congr 4; omega) | (simp only [List.length_append, List.length_cons, List.length_nil, List.length_set]; rfl), by first | rfl | (simp only [AV.map, GV.map, CV.map, AB.map', id]; done) | (congr 3; omega) | (congr 4; omega) | (simp only [List.length_append, List.length_cons, List.length_nil, List.length_set]; rfl), by first | rfl | (simp only [AV.map, GV.map, CV.map, AB.map', id]; done) | (congr 3; omega) | (congr 4; omega) | (simp only [List.length_append, List.length_cons, List.length_nil, List.length_set]; rfl),  trivial⟩) (trivial) rfl
      ·
        rintro q ⟨hi0_0, hi0_1, hi0_2⟩
        refine AC.seq ?_
        refine AC.region ?_
        refine AL.val (Wanted.plain rfl) (g_binI rfl rfl rfl rfl) rfl rfl ?_
        refine AL.nil ?_
        refine then_ok ?_
        refine AC.seq ?_
        refine AC.cond rfl (fun hc3 => ?_) (fun hc3 => ?_)
        ·
          have hc3' := hc3; try simp only [sumB, Bool.not_eq_true', Bool.not_eq_false', Bool.or_eq_true, Bool.or_eq_false_iff, Bool.and_eq_true, Bool.and_eq_false_imp, decide_eq_true_eq, decide_eq_false_iff_not, Bool.not_not, Bool.not_true, Bool.not_false] at hc3'
          refine AC.skip ?_
          refine then_ok ?_
          refine AC.seq ?_
          refine AC.block ?_
          refine AC.seq ?_
          refine AC.region ?_
          obtain ⟨x1, hx1⟩ := exget (xs := es) (i := q) (by first | omega | (simp; done) | (simp; omega) | (exact arrL_len _) | (rw [arrL_len]; omega) | (rw [List.length_set, arrL_len]; omega))
          refine AL.val (Wanted.plain rfl) (g_indexQ (i := q) rfl rfl rfl Try.underlying102 sz111 (by first | omega | (simp; done) | (simp; omega) | (exact arrL_len _) | (rw [arrL_len]; omega) | (rw [List.length_set, arrL_len]; omega)) (getmap hx1)) rfl rfl ?_
          refine AL.val (Wanted.plain rfl) (g_loadQs rfl rfl Try.underlying111 rfl sz111 rfl rfl) rfl rfl ?_
          refine AL.new (n' := 1) (Wanted.plain rfl) (g_alloc 0 rfl zv111 rfl rfl rfl) rfl rfl rfl ?_
          refine AL.sto (h' := [(0, (.box 111 [(cI x1.account), (cI x1.sum)]))]) (Wanted.plain rfl) (g_storeB rfl rfl rfl rfl rfl sz111 rfl (Nat.le_of_ble_eq_true rfl) rfl) rfl rfl rfl rfl ?_
          refine AL.nil ?_
          refine then_ok ?_
          refine AC.seq ?_
          refine AC.cutB 51 ((((decide (x1.account < 0)) || (decide (x1.account > 57))) || (decide (x1.sum > 1000000000000))) || (decide (x1.sum < (-1000000000000)))) ?_ ?_
          ·
            refine AC.region ?_
            refine AL.val (Wanted.plain rfl) (g_fieldP rfl rfl Try.underlying111 rfl sz3 (by decide)) rfl rfl ?_
            refine AL.val (Wanted.plain rfl) (g_loadB rfl rfl rfl Try.underlying3 rfl rfl) rfl rfl ?_
            refine AL.val (Wanted.plain rfl) (g_binI rfl rfl rfl rfl) rfl rfl ?_
            refine AL.fast 1 rfl ?_
            refine AL.dec (t := 37) rfl (fun hb4 => ?_) (fun hb4 => ?_)
            ·
              have hb4' := hb4; try simp only [sumB, Bool.not_eq_true', Bool.not_eq_false', Bool.or_eq_true, Bool.or_eq_false_iff, Bool.and_eq_true, Bool.and_eq_false_imp, decide_eq_true_eq, decide_eq_false_iff_not, Bool.not_not, Bool.not_true, Bool.not_false] at hb4'
              refine AL.fast 14 rfl ?_
              refine AL.nil ?_
              refine then_ok ?_
              exact Weak.popB 19 rfl rfl (by first | (simp [hb4]; done) | (simp_all; done) | (exfalso; simp_all; done) | (simp_all; omega)) rfl
            ·
              have hb4' := hb4; try simp only [sumB, Bool.not_eq_true', Bool.not_eq_false', Bool.or_eq_true, Bool.or_eq_false_iff, Bool.and_eq_true, Bool.and_eq_false_imp, decide_eq_true_eq, decide_eq_false_iff_not, Bool.not_not, Bool.not_true, Bool.not_false] at hb4'
              refine AL.val (Wanted.yes rfl rfl rfl) (g_fieldP rfl rfl Try.underlying111 rfl sz3 (by decide)) rfl rfl ?_
              refine AL.val (Wanted.yes rfl rfl rfl) (g_loadB rfl rfl rfl Try.underlying3 rfl rfl) rfl rfl ?_
              refine AL.val (Wanted.yes rfl rfl rfl) (g_binI rfl rfl rfl rfl) rfl rfl ?_
              refine AL.fast 2 rfl ?_
              refine AL.dec (t := 42) rfl (fun hb5 => ?_) (fun hb5 => ?_)
              ·
                have hb5' := hb5; try simp only [sumB, Bool.not_eq_true', Bool.not_eq_false', Bool.or_eq_true, Bool.or_eq_false_iff, Bool.and_eq_true, Bool.and_eq_false_imp, decide_eq_true_eq, decide_eq_false_iff_not, Bool.not_not, Bool.not_true, Bool.not_false] at hb5'
                refine AL.fast 9 rfl ?_
                refine AL.nil ?_
                refine then_ok ?_
                exact Weak.popB 20 rfl rfl (by first | (simp [hb4, hb5]; done) | (simp_all; done) | (exfalso; simp_all; done) | (simp_all; omega)) rfl
              ·
                have hb5' := hb5; try simp only [sumB, Bool.not_eq_true', Bool.not_eq_false', Bool.or_eq_true, Bool.or_eq_false_iff, Bool.and_eq_true, Bool.and_eq_false_imp, decide_eq_true_eq, decide_eq_false_iff_not, Bool.not_not, Bool.not_true, Bool.not_false] at hb5'
                refine AL.val (Wanted.yes rfl rfl rfl) (g_fieldP rfl rfl Try.underlying111 rfl sz3 (by decide)) rfl rfl ?_
                refine AL.val (Wanted.yes rfl rfl rfl) (g_loadB rfl rfl rfl Try.underlying3 rfl rfl) rfl rfl ?_
                refine AL.val (Wanted.yes rfl rfl rfl) (g_binI rfl rfl rfl rfl) rfl rfl ?_
                refine AL.fast 2 rfl ?_
                refine AL.dec (t := 47) rfl (fun hb6 => ?_) (fun hb6 => ?_)
                ·
                  have hb6' := hb6; try simp only [sumB, Bool.not_eq_true', Bool.not_eq_false', Bool.or_eq_true, Bool.or_eq_false_iff, Bool.and_eq_true, Bool.and_eq_false_imp, decide_eq_true_eq, decide_eq_false_iff_not, Bool.not_not, Bool.not_true, Bool.not_false] at hb6'
                  refine AL.fast 4 rfl ?_
                  refine AL.nil ?_
                  refine then_ok ?_
                  exact Weak.popB 21 rfl rfl (by first | (simp [hb4, hb5, hb6]; done) | (simp_all; done) | (exfalso; simp_all; done) | (simp_all; omega)) rfl
                ·
                  have hb6' := hb6; try simp only [sumB, Bool.not_eq_true', Bool.not_eq_false', Bool.or_eq_true, Bool.or_eq_false_iff, Bool.and_eq_true, Bool.and_eq_false_imp, decide_eq_true_eq, decide_eq_false_iff_not, Bool.not_not, Bool.not_true, Bool.not_false] at hb6'
                  refine AL.val (Wanted.yes rfl rfl rfl) (g_fieldP rfl rfl Try.underlying111 rfl sz3 (by decide)) rfl rfl ?_
                  refine AL.val (Wanted.yes rfl rfl rfl) (g_loadB rfl rfl rfl Try.underlying3 rfl rfl) rfl rfl ?_
                  refine AL.val (Wanted.yes rfl rfl rfl) (g_binI rfl rfl rfl rfl) rfl rfl ?_
                  refine AL.fast 1 rfl ?_
                  refine AL.nil ?_
                  refine then_ok ?_
                  exact Weak.popB 21 rfl rfl (by first | (simp [hb4, hb5, hb6]; done) | (simp_all; done) | (exfalso; simp_all; done) | (simp_all; omega)) rfl
          ·
            refine AC.cond rfl (fun hc7 => ?_) (fun hc7 => ?_)
            ·
              have hc7' := hc7; try simp only [sumB, Bool.not_eq_true', Bool.not_eq_false', Bool.or_eq_true, Bool.or_eq_false_iff, Bool.and_eq_true, Bool.and_eq_false_imp, decide_eq_true_eq, decide_eq_false_iff_not, Bool.not_not, Bool.not_true, Bool.not_false] at hc7'
              refine AC.seq ?_
              refine AC.region ?_
              refine AL.fast 2 rfl ?_
              refine AL.nil ?_
              refine then_ok ?_
              refine AC.ret ?_
              refine then_ret ?_
              refine block_ret ?_
              refine then_ret ?_
              refine then_ret ?_
              refine block_ret ?_
              refine then_ret ?_
              refine retQ_weak (Weak.nil 4 111 2 (by decide) rfl) ?_
              have hX : postB l es = (([] : List Entry), 3) := by
                unfold postB; rw [if_neg (by rw [hr0]; omega), if_neg (by omega), if_pos ⟨x1, List.mem_of_getElem? hx1, by unfold badE; omega⟩]
              rw [hX] at hr; clear hX
              simp only [Prod.mk.injEq] at hr; obtain ⟨rfl, rfl⟩ := hr
              refine retQ_mk (av' := outOf [(.c (.s 0 0 2 0)), (.c (cI 3))]) (nb' := [(0, (.arr 111 2 ((([] : List Entry)).map rEntry)))]) (retQ_ret ⟨[(4, (aC (.s 0 0 2 0))), (5, (aI 3))], [(0, (.arr 111 2 ((([] : List Entry)).map rEntry)))], 1⟩ [.tmp 4, .tmp 5] [(.c (.s 0 0 2 0)), (.c (cI 3))] (Weak.ren (fun k => if k = 0 then 1 else k) (⟨by first | rfl | (simp only [AV.map, GV.map, CV.map, AB.map', id]; done) | (congr 3; omega) | (congr 4; omega) | (simp only [List.length_append, List.length_cons, List.length_nil, List.length_set]; rfl), by first | rfl | (simp only [AV.map, GV.map, CV.map, AB.map', id]; done) | (congr 3; omega) | (congr 4; omega) | (simp only [List.length_append, List.length_cons, List.length_nil, List.length_set]; rfl),  trivial⟩) (⟨by first | rfl | (simp only [AV.map, GV.map, CV.map, AB.map', id]; done) | (congr 3; omega) | (congr 4; omega) | (simp only [List.length_append, List.length_cons, List.length_nil, List.length_set]; rfl),  trivial⟩) rfl) rfl ⟨.tmp rfl, .tmp rfl, trivial⟩ ⟨by first | rfl | (simp only [AV.map, GV.map, CV.map, AB.map', id]; done) | (congr 3; omega) | (congr 4; omega) | (simp only [List.length_append, List.length_cons, List.length_nil, List.length_set]; rfl),  trivial⟩) ?_ ?_
              · first | rfl | (simp [outOf, aC]; done) | (simp [outOf, aC]; omega)
              · first | rfl | (simp; done) | (simp; omega)
            ·
              have hc7' := hc7; try simp only [sumB, Bool.not_eq_true', Bool.not_eq_false', Bool.or_eq_true, Bool.or_eq_false_iff, Bool.and_eq_true, Bool.and_eq_false_imp, decide_eq_true_eq, decide_eq_false_iff_not, Bool.not_not, Bool.not_true, Bool.not_false] at hc7'
              refine AC.skip ?_
              refine then_ok ?_
              refine AC.region ?_
              refine AL.fast 1 rfl ?_
              refine AL.val (Wanted.plain rfl) (g_fieldP rfl rfl Try.underlying111 rfl sz3 (by decide)) rfl rfl ?_
              refine AL.val (Wanted.plain rfl) (g_loadB rfl rfl rfl Try.underlying3 rfl rfl) rfl rfl ?_
              refine AL.val (Wanted.plain rfl) (g_binI rfl rfl rfl (wrap_ok (by first | omega | (simp; done) | (simp; omega) | (exact arrL_len _) | (rw [arrL_len]; omega) | (rw [List.length_set, arrL_len]; omega)))) rfl rfl ?_
              refine AL.fast 1 rfl ?_
              refine AL.nil ?_
              refine block_ok ?_
              refine then_ok ?_
              refine AC.region ?_
              refine AL.val (Wanted.plain rfl) (g_binI rfl rfl rfl (wrap_ok (by first | omega | (simp; done) | (simp; omega) | (exact arrL_len _) | (rw [arrL_len]; omega) | (rw [List.length_set, arrL_len]; omega)))) rfl rfl ?_
              refine AL.fast 1 rfl ?_
              refine AL.nil ?_
              refine then_ok ?_
              refine ⟨q + 1, ⟨by omega, nobad_next hi0_1 hx1 (by unfold badE; omega), by rw [sumE_take hx1]; omega⟩, by first | omega | (simp; done) | (simp; omega), Weak.ren id (⟨by first | rfl | (simp only [AV.map, GV.map, CV.map, AB.map', id]; done) | (congr 3; omega) | (congr 4; omega) | (simp only [List.length_append, List.length_cons, List.length_nil, List.length_set]; rfl) | (rw [sumE_take hx1]; rfl), by first | rfl | (simp only [AV.map, GV.map, CV.map, AB.map', id]; done) | (congr 3; omega) | (congr 4; omega) | (simp only [List.length_append, List.length_cons, List.length_nil, List.length_set]; rfl) | (rw [sumE_take hx1]; rfl), by first | rfl | (simp only [AV.map, GV.map, CV.map, AB.map', id]; done) | (congr 3; omega) | (congr 4; omega) | (simp only [List.length_append, List.length_cons, List.length_nil, List.length_set]; rfl) | (rw [sumE_take hx1]; rfl), by first | rfl | (simp only [AV.map, GV.map, CV.map, AB.map', id]; done) | (congr 3; omega) | (congr 4; omega) | (simp only [List.length_append, List.length_cons, List.length_nil, List.length_set]; rfl) | (rw [sumE_take hx1]; rfl), by first | rfl | (simp only [AV.map, GV.map, CV.map, AB.map', id]; done) | (congr 3; omega) | (congr 4; omega) | (simp only [List.length_append, List.length_cons, List.length_nil, List.length_set]; rfl) | (rw [sumE_take hx1]; rfl), by first | rfl | (simp only [AV.map, GV.map, CV.map, AB.map', id]; done) | (congr 3; omega) | (congr 4; omega) | (simp only [List.length_append, List.length_cons, List.length_nil, List.length_set]; rfl) | (rw [sumE_take hx1]; rfl),  trivial⟩) (trivial) rfl⟩
        ·
          have hc3' := hc3; try simp only [sumB, Bool.not_eq_true', Bool.not_eq_false', Bool.or_eq_true, Bool.or_eq_false_iff, Bool.and_eq_true, Bool.and_eq_false_imp, decide_eq_true_eq, decide_eq_false_iff_not, Bool.not_not, Bool.not_true, Bool.not_false] at hc3'
          refine AC.exit ?_
          refine then_exit ?_
          refine then_exit ?_
          refine block_hit ?_
          refine then_ok ?_
          refine AC.seq ?_
          refine AC.seq ?_
          refine AC.region ?_
          refine AL.fast 1 rfl ?_
          refine AL.val (Wanted.plain rfl) (g_binI rfl rfl rfl rfl) rfl rfl ?_
          refine AL.nil ?_
          refine then_ok ?_
          refine AC.cond rfl (fun hc8 => ?_) (fun hc8 => ?_)
          ·
            have hc8' := hc8; try simp only [sumB, Bool.not_eq_true', Bool.not_eq_false', Bool.or_eq_true, Bool.or_eq_false_iff, Bool.and_eq_true, Bool.and_eq_false_imp, decide_eq_true_eq, decide_eq_false_iff_not, Bool.not_not, Bool.not_true, Bool.not_false] at hc8'
            refine AC.seq ?_
            refine AC.region ?_
            refine AL.fast 2 rfl ?_
            refine AL.nil ?_
            refine then_ok ?_
            refine AC.ret ?_
            refine then_ret ?_
            refine retQ_weak (Weak.nil 4 111 2 (by decide) rfl) ?_
            have hX : postB l es = (([] : List Entry), 8) := by
              (have hs := sum_all (es := es) (q := q) (by omega)); (have hnb := nobad_all hi0_1 (by omega)); unfold postB; rw [if_neg (by rw [hr0]; omega), if_neg (by omega), if_neg (fun ⟨x, hx, hb⟩ => hnb x hx hb), if_pos (by omega)]
            rw [hX] at hr; clear hX
            simp only [Prod.mk.injEq] at hr; obtain ⟨rfl, rfl⟩ := hr
            refine retQ_mk (av' := outOf [(.c (.s 0 0 2 0)), (.c (cI 8))]) (nb' := [(0, (.arr 111 2 ((([] : List Entry)).map rEntry)))]) (retQ_ret ⟨[(4, (aC (.s 0 0 2 0))), (5, (aI 8))], [(0, (.arr 111 2 ((([] : List Entry)).map rEntry)))], 1⟩ [.tmp 4, .tmp 5] [(.c (.s 0 0 2 0)), (.c (cI 8))] (Weak.ren (fun k => if k = 0 then 0 else k) (⟨by first | rfl | (simp only [AV.map, GV.map, CV.map, AB.map', id]; done) | (congr 3; omega) | (congr 4; omega) | (simp only [List.length_append, List.length_cons, List.length_nil, List.length_set]; rfl), by first | rfl | (simp only [AV.map, GV.map, CV.map, AB.map', id]; done) | (congr 3; omega) | (congr 4; omega) | (simp only [List.length_append, List.length_cons, List.length_nil, List.length_set]; rfl),  trivial⟩) (⟨by first | rfl | (simp only [AV.map, GV.map, CV.map, AB.map', id]; done) | (congr 3; omega) | (congr 4; omega) | (simp only [List.length_append, List.length_cons, List.length_nil, List.length_set]; rfl),  trivial⟩) rfl) rfl ⟨.tmp rfl, .tmp rfl, trivial⟩ ⟨by first | rfl | (simp only [AV.map, GV.map, CV.map, AB.map', id]; done) | (congr 3; omega) | (congr 4; omega) | (simp only [List.length_append, List.length_cons, List.length_nil, List.length_set]; rfl),  trivial⟩) ?_ ?_
            · first | rfl | (simp [outOf, aC]; done) | (simp [outOf, aC]; omega)
            · first | rfl | (simp; done) | (simp; omega)
          ·
            have hc8' := hc8; try simp only [sumB, Bool.not_eq_true', Bool.not_eq_false', Bool.or_eq_true, Bool.or_eq_false_iff, Bool.and_eq_true, Bool.and_eq_false_imp, decide_eq_true_eq, decide_eq_false_iff_not, Bool.not_not, Bool.not_true, Bool.not_false] at hc8'
            refine AC.skip ?_
            refine then_ok ?_
            have h0 : (wrongB l).err = 0 := by rw [hr0]; omega
            have hR : Right l := (wrongB_iff.1 h0).1
            have hRl := right_len hR
            have hs := sum_all (es := es) (q := q) (by omega)
            have hnb := nobad_all hi0_1 (by omega)
            refine AC.seq ?_
            refine AC.region ?_
            refine AL.new (n' := 1) (Wanted.plain rfl) (g_allocA (n := 58) 0 rfl zv149 rfl (by decide)) rfl rfl rfl ?_
            refine AL.nil ?_
            refine then_ok ?_
            refine AC.seq ?_
            refine AC.seq ?_
            refine AC.region ?_
            refine AL.fast 1 rfl ?_
            refine AL.val (Wanted.plain rfl) (g_lenM rfl rfl rfl rfl rfl Try.underlying102) rfl rfl ?_
            refine AL.fast 1 rfl ?_
            refine AL.nil ?_
            refine then_ok ?_
            refine AC.block ?_
            refine AC.loop (β := Nat) (fun (v : Nat) => ⟨[(0, (aC (cR 2 ((l).map rEntry)))), (1, (aC (cR 2 ((es).map rEntry)))), (7, (aI (sumE (es.take q)))), (28, (aC (cR 2 ((es).map rEntry)))), (29, (aI (↑es.length : Int))), (30, (aI (↑q : Int))), (10, (aC (.p 0 0 1 0))), (59, (aC (cR 2 ((l).map rEntry)))), (60, (aI (↑l.length : Int))), (61, (aI (↑v : Int)))], [(0, (.arr 149 1 ((arrL (getE (l.take v))).map rI1)))], 1⟩) (fun (v : Nat) => v ≤ l.length) (fun (v : Nat) => l.length - v) 0 ?_ ?_ ?_
            · exact (by omega)
            · exact Weak.ren id (⟨by first | rfl | (simp only [AV.map, GV.map, CV.map, AB.map', id]; done) | (congr 3; omega) | (congr 4; omega) | (simp only [List.length_append, List.length_cons, List.length_nil, List.length_set]; rfl), by first | rfl | (simp only [AV.map, GV.map, CV.map, AB.map', id]; done) | (congr 3; omega) | (congr 4; omega) | (simp only [List.length_append, List.length_cons, List.length_nil, List.length_set]; rfl), by first | rfl | (simp only [AV.map, GV.map, CV.map, AB.map', id]; done) | (congr 3; omega) | (congr 4; omega) | (simp only [List.length_append, List.length_cons, List.length_nil, List.length_set]; rfl), by first | rfl | (simp only [AV.map, GV.map, CV.map, AB.map', id]; done) | (congr 3; omega) | (congr 4; omega) | (simp only [List.length_append, List.length_cons, List.length_nil, List.length_set]; rfl), by first | rfl | (simp only [AV.map, GV.map, CV.map, AB.map', id]; done) | (congr 3; omega) | (congr 4; omega) | (simp only [List.length_append, List.length_cons, List.length_nil, List.length_set]; rfl), by first | rfl | (simp only [AV.map, GV.map, CV.map, AB.map', id]; done) | (congr 3; omega) | (congr 4; omega) | (simp only [List.length_append, List.length_cons, List.length_nil, List.length_set]; rfl), by first | rfl | (simp only [AV.map, GV.map, CV.map, AB.map', id]; done) | (congr 3; omega) | (congr 4; omega) | (simp only [List.length_append, List.length_cons, List.length_nil, List.length_set]; rfl), by first | rfl | (simp only [AV.map, GV.map, CV.map, AB.map', id]; done) | (congr 3; omega) | (congr 4; omega) | (simp only [List.length_append, List.length_cons, List.length_nil, List.length_set]; rfl), by first | rfl | (simp only [AV.map, GV.map, CV.map, AB.map', id]; done) | (congr 3; omega) | (congr 4; omega) | (simp only [List.length_append, List.length_cons, List.length_nil, List.length_set]; rfl), by first | rfl | (simp only [AV.map, GV.map, CV.map, AB.map', id]; done) | (congr 3; omega) | (congr 4; omega) | (simp only [List.length_append, List.length_cons, List.length_nil, List.length_set]; rfl),  trivial⟩) (⟨by first | rfl | (simp only [AV.map, GV.map, CV.map, AB.map', id]; done) | (congr 3; omega) | (congr 4; omega) | (simp only [List.length_append, List.length_cons, List.length_nil, List.length_set]; rfl) | (rfl),  trivial⟩) rfl
            ·
              rintro v hi1_0
              refine AC.seq ?_
              refine AC.region ?_
              refine AL.val (Wanted.plain rfl) (g_binI rfl rfl rfl rfl) rfl rfl ?_
              refine AL.nil ?_
              refine then_ok ?_
              refine AC.seq ?_
              refine AC.cond rfl (fun hc9 => ?_) (fun hc9 => ?_)
              ·
                have hc9' := hc9; try simp only [sumB, Bool.not_eq_true', Bool.not_eq_false', Bool.or_eq_true, Bool.or_eq_false_iff, Bool.and_eq_true, Bool.and_eq_false_imp, decide_eq_true_eq, decide_eq_false_iff_not, Bool.not_not, Bool.not_true, Bool.not_false] at hc9'
                refine AC.skip ?_
                refine then_ok ?_
                refine AC.seq ?_
                refine AC.block ?_
                refine AC.seq ?_
                refine AC.region ?_
                obtain ⟨x1, hx1⟩ := exget (xs := l) (i := v) (by first | omega | (simp; done) | (simp; omega) | (exact arrL_len _) | (rw [arrL_len]; omega) | (rw [List.length_set, arrL_len]; omega))
                have hx1b := hR.ok x1 (List.mem_of_getElem? hx1)
                refine AL.val (Wanted.plain rfl) (g_indexQ (i := v) rfl rfl rfl Try.underlying102 sz111 (by first | omega | (simp; done) | (simp; omega) | (exact arrL_len _) | (rw [arrL_len]; omega) | (rw [List.length_set, arrL_len]; omega)) (getmap hx1)) rfl rfl ?_
                refine AL.val (Wanted.plain rfl) (g_loadQs rfl rfl Try.underlying111 rfl sz111 rfl rfl) rfl rfl ?_
                refine AL.new (n' := 2) (Wanted.plain rfl) (g_alloc 1 rfl zv111 rfl rfl rfl) rfl rfl rfl ?_
                refine AL.sto (h' := [(1, (.box 111 [(cI x1.account), (cI x1.sum)])), (0, (.arr 149 1 ((arrL (getE (l.take v))).map rI1)))]) (Wanted.plain rfl) (g_storeB rfl rfl rfl rfl rfl sz111 rfl (Nat.le_of_ble_eq_true rfl) rfl) rfl rfl rfl rfl ?_
                refine AL.nil ?_
                refine then_ok ?_
                refine AC.region ?_
                refine AL.val (Wanted.plain rfl) (g_fieldP rfl rfl Try.underlying111 rfl sz3 (by decide)) rfl rfl ?_
                refine AL.val (Wanted.plain rfl) (g_loadB rfl rfl rfl Try.underlying3 rfl rfl) rfl rfl ?_
                refine AL.val (Wanted.plain rfl) (g_fieldP rfl rfl Try.underlying111 rfl sz3 (by decide)) rfl rfl ?_
                refine AL.val (Wanted.plain rfl) (g_loadB rfl rfl rfl Try.underlying3 rfl rfl) rfl rfl ?_
                refine AL.val (Wanted.plain rfl) (g_indexA (i := Int.toNat (x1.account)) rfl rfl rfl Try.underlying149 sz3 (by first | omega | (simp; done) | (simp; omega) | (exact arrL_len _) | (rw [arrL_len]; omega) | (rw [List.length_set, arrL_len]; omega)) (by first | omega | (simp; done) | (simp; omega) | (exact arrL_len _) | (rw [arrL_len]; omega) | (rw [List.length_set, arrL_len]; omega))) rfl rfl ?_
                obtain ⟨x2, hx2⟩ := exget (xs := (arrL (getE (l.take v)))) (i := Int.toNat (x1.account)) (by first | omega | (simp; done) | (simp; omega) | (exact arrL_len _) | (rw [arrL_len]; omega) | (rw [List.length_set, arrL_len]; omega))
                refine AL.sto (h' := [(1, (.box 111 [(cI x1.account), (cI x1.sum)])), (0, (.arr 149 1 (((arrL (getE (l.take v))).set (Int.toNat (x1.account)) x1.sum).map rI1)))]) (Wanted.plain rfl) (g_storeA (ds := [(dI x1.sum)]) rfl rfl rfl rfl rfl sz3 rfl (Nat.le_of_ble_eq_true rfl) (getmap hx2) rfl (setmap (x' := x1.sum) rfl)) rfl rfl rfl rfl ?_
                refine AL.nil ?_
                refine block_ok ?_
                refine then_ok ?_
                refine AC.region ?_
                refine AL.val (Wanted.plain rfl) (g_binI rfl rfl rfl (wrap_ok (by first | omega | (simp; done) | (simp; omega) | (exact arrL_len _) | (rw [arrL_len]; omega) | (rw [List.length_set, arrL_len]; omega)))) rfl rfl ?_
                refine AL.fast 1 rfl ?_
                refine AL.nil ?_
                refine then_ok ?_
                refine ⟨v + 1, by first | omega | trivial, by first | omega | (simp; done) | (simp; omega), Weak.ren id (⟨by first | rfl | (simp only [AV.map, GV.map, CV.map, AB.map', id]; done) | (congr 3; omega) | (congr 4; omega) | (simp only [List.length_append, List.length_cons, List.length_nil, List.length_set]; rfl), by first | rfl | (simp only [AV.map, GV.map, CV.map, AB.map', id]; done) | (congr 3; omega) | (congr 4; omega) | (simp only [List.length_append, List.length_cons, List.length_nil, List.length_set]; rfl), by first | rfl | (simp only [AV.map, GV.map, CV.map, AB.map', id]; done) | (congr 3; omega) | (congr 4; omega) | (simp only [List.length_append, List.length_cons, List.length_nil, List.length_set]; rfl), by first | rfl | (simp only [AV.map, GV.map, CV.map, AB.map', id]; done) | (congr 3; omega) | (congr 4; omega) | (simp only [List.length_append, List.length_cons, List.length_nil, List.length_set]; rfl), by first | rfl | (simp only [AV.map, GV.map, CV.map, AB.map', id]; done) | (congr 3; omega) | (congr 4; omega) | (simp only [List.length_append, List.length_cons, List.length_nil, List.length_set]; rfl), by first | rfl | (simp only [AV.map, GV.map, CV.map, AB.map', id]; done) | (congr 3; omega) | (congr 4; omega) | (simp only [List.length_append, List.length_cons, List.length_nil, List.length_set]; rfl), by first | rfl | (simp only [AV.map, GV.map, CV.map, AB.map', id]; done) | (congr 3; omega) | (congr 4; omega) | (simp only [List.length_append, List.length_cons, List.length_nil, List.length_set]; rfl), by first | rfl | (simp only [AV.map, GV.map, CV.map, AB.map', id]; done) | (congr 3; omega) | (congr 4; omega) | (simp only [List.length_append, List.length_cons, List.length_nil, List.length_set]; rfl), by first | rfl | (simp only [AV.map, GV.map, CV.map, AB.map', id]; done) | (congr 3; omega) | (congr 4; omega) | (simp only [List.length_append, List.length_cons, List.length_nil, List.length_set]; rfl), by first | rfl | (simp only [AV.map, GV.map, CV.map, AB.map', id]; done) | (congr 3; omega) | (congr 4; omega) | (simp only [List.length_append, List.length_cons, List.length_nil, List.length_set]; rfl),  trivial⟩) (⟨by first | rfl | (simp only [AV.map, GV.map, CV.map, AB.map', id]; done) | (congr 3; omega) | (congr 4; omega) | (simp only [List.length_append, List.length_cons, List.length_nil, List.length_set]; rfl) | (rw [arrL_set (g := getE (l.take (v + 1))) (fun b => by rw [getE_take hR.up hx1 b, Int.toNat_of_nonneg (by omega)])]; rfl),  trivial⟩) rfl⟩
              ·
                have hc9' := hc9; try simp only [sumB, Bool.not_eq_true', Bool.not_eq_false', Bool.or_eq_true, Bool.or_eq_false_iff, Bool.and_eq_true, Bool.and_eq_false_imp, decide_eq_true_eq, decide_eq_false_iff_not, Bool.not_not, Bool.not_true, Bool.not_false] at hc9'
                refine AC.exit ?_
                refine then_exit ?_
                refine then_exit ?_
                refine block_hit ?_
                refine then_ok ?_
                refine AC.seq ?_
                refine AC.seq ?_
                refine AC.region ?_
                refine AL.fast 1 rfl ?_
                refine AL.val (Wanted.plain rfl) (g_lenM rfl rfl rfl rfl rfl Try.underlying102) rfl rfl ?_
                refine AL.fast 1 rfl ?_
                refine AL.nil ?_
                refine then_ok ?_
                refine AC.block ?_
                refine AC.loop (β := Nat × List Entry) (fun (p : Nat × List Entry) => match p with | (u, m) => ⟨[(0, (aC (cR 2 ((l).map rEntry)))), (1, (aC (cR 2 ((es).map rEntry)))), (7, (aI (sumE (es.take q)))), (28, (aC (cR 2 ((es).map rEntry)))), (29, (aI (↑es.length : Int))), (30, (aI (↑q : Int))), (10, (aC (.p 0 0 1 0))), (59, (aC (cR 2 ((l).map rEntry)))), (60, (aI (↑l.length : Int))), (61, (aI (↑v : Int))), (71, (aC (cR 2 ((es).map rEntry)))), (72, (aI (↑es.length : Int))), (73, (aI (↑u : Int)))], [(0, (.arr 149 1 ((arrL (getE m)).map rI1)))], 1⟩) (fun (p : Nat × List Entry) => match p with | (u, m) => u ≤ es.length ∧ Right m ∧ putAll l es = putAll m (es.drop u)) (fun (p : Nat × List Entry) => match p with | (u, m) => es.length - u) (0, l) ?_ ?_ ?_
                · exact ⟨by omega, hR, rfl⟩
                · exact Weak.ren id (⟨by first | rfl | (simp only [AV.map, GV.map, CV.map, AB.map', id]; done) | (congr 3; omega) | (congr 4; omega) | (simp only [List.length_append, List.length_cons, List.length_nil, List.length_set]; rfl), by first | rfl | (simp only [AV.map, GV.map, CV.map, AB.map', id]; done) | (congr 3; omega) | (congr 4; omega) | (simp only [List.length_append, List.length_cons, List.length_nil, List.length_set]; rfl), by first | rfl | (simp only [AV.map, GV.map, CV.map, AB.map', id]; done) | (congr 3; omega) | (congr 4; omega) | (simp only [List.length_append, List.length_cons, List.length_nil, List.length_set]; rfl), by first | rfl | (simp only [AV.map, GV.map, CV.map, AB.map', id]; done) | (congr 3; omega) | (congr 4; omega) | (simp only [List.length_append, List.length_cons, List.length_nil, List.length_set]; rfl), by first | rfl | (simp only [AV.map, GV.map, CV.map, AB.map', id]; done) | (congr 3; omega) | (congr 4; omega) | (simp only [List.length_append, List.length_cons, List.length_nil, List.length_set]; rfl), by first | rfl | (simp only [AV.map, GV.map, CV.map, AB.map', id]; done) | (congr 3; omega) | (congr 4; omega) | (simp only [List.length_append, List.length_cons, List.length_nil, List.length_set]; rfl), by first | rfl | (simp only [AV.map, GV.map, CV.map, AB.map', id]; done) | (congr 3; omega) | (congr 4; omega) | (simp only [List.length_append, List.length_cons, List.length_nil, List.length_set]; rfl), by first | rfl | (simp only [AV.map, GV.map, CV.map, AB.map', id]; done) | (congr 3; omega) | (congr 4; omega) | (simp only [List.length_append, List.length_cons, List.length_nil, List.length_set]; rfl), by first | rfl | (simp only [AV.map, GV.map, CV.map, AB.map', id]; done) | (congr 3; omega) | (congr 4; omega) | (simp only [List.length_append, List.length_cons, List.length_nil, List.length_set]; rfl), by first | rfl | (simp only [AV.map, GV.map, CV.map, AB.map', id]; done) | (congr 3; omega) | (congr 4; omega) | (simp only [List.length_append, List.length_cons, List.length_nil, List.length_set]; rfl), by first | rfl | (simp only [AV.map, GV.map, CV.map, AB.map', id]; done) | (congr 3; omega) | (congr 4; omega) | (simp only [List.length_append, List.length_cons, List.length_nil, List.length_set]; rfl), by first | rfl | (simp only [AV.map, GV.map, CV.map, AB.map', id]; done) | (congr 3; omega) | (congr 4; omega) | (simp only [List.length_append, List.length_cons, List.length_nil, List.length_set]; rfl), by first | rfl | (simp only [AV.map, GV.map, CV.map, AB.map', id]; done) | (congr 3; omega) | (congr 4; omega) | (simp only [List.length_append, List.length_cons, List.length_nil, List.length_set]; rfl),  trivial⟩) (⟨by first | rfl | (simp only [AV.map, GV.map, CV.map, AB.map', id]; done) | (congr 3; omega) | (congr 4; omega) | (simp only [List.length_append, List.length_cons, List.length_nil, List.length_set]; rfl) | (rw [List.take_of_length_le (l := l) (by omega)]; rfl),  trivial⟩) rfl
                ·
                  rintro ⟨u, m⟩ ⟨hi2_0, hi2_1, hi2_2⟩
                  refine AC.seq ?_
                  refine AC.region ?_
                  refine AL.val (Wanted.plain rfl) (g_binI rfl rfl rfl rfl) rfl rfl ?_
                  refine AL.nil ?_
                  refine then_ok ?_
                  refine AC.seq ?_
                  refine AC.cond rfl (fun hc10 => ?_) (fun hc10 => ?_)
                  ·
                    have hc10' := hc10; try simp only [sumB, Bool.not_eq_true', Bool.not_eq_false', Bool.or_eq_true, Bool.or_eq_false_iff, Bool.and_eq_true, Bool.and_eq_false_imp, decide_eq_true_eq, decide_eq_false_iff_not, Bool.not_not, Bool.not_true, Bool.not_false] at hc10'
                    refine AC.skip ?_
                    refine then_ok ?_
                    refine AC.seq ?_
                    refine AC.block ?_
                    refine AC.seq ?_
                    refine AC.region ?_
                    obtain ⟨x1, hx1⟩ := exget (xs := es) (i := u) (by first | omega | (simp; done) | (simp; omega) | (exact arrL_len _) | (rw [arrL_len]; omega) | (rw [List.length_set, arrL_len]; omega))
                    have hx1n := hnb x1 (List.mem_of_getElem? hx1)
                    have hx1b : 0 ≤ x1.account ∧ x1.account ≤ 57 ∧ -1000000000000 ≤ x1.sum ∧ x1.sum ≤ 1000000000000 := by unfold badE at hx1n; omega
                    refine AL.val (Wanted.plain rfl) (g_indexQ (i := u) rfl rfl rfl Try.underlying102 sz111 (by first | omega | (simp; done) | (simp; omega) | (exact arrL_len _) | (rw [arrL_len]; omega) | (rw [List.length_set, arrL_len]; omega)) (getmap hx1)) rfl rfl ?_
                    refine AL.val (Wanted.plain rfl) (g_loadQs rfl rfl Try.underlying111 rfl sz111 rfl rfl) rfl rfl ?_
                    refine AL.new (n' := 2) (Wanted.plain rfl) (g_alloc 1 rfl zv111 rfl rfl rfl) rfl rfl rfl ?_
                    refine AL.sto (h' := [(1, (.box 111 [(cI x1.account), (cI x1.sum)])), (0, (.arr 149 1 ((arrL (getE m)).map rI1)))]) (Wanted.plain rfl) (g_storeB rfl rfl rfl rfl rfl sz111 rfl (Nat.le_of_ble_eq_true rfl) rfl) rfl rfl rfl rfl ?_
                    refine AL.nil ?_
                    refine then_ok ?_
                    refine AC.seq ?_
                    obtain ⟨x2, hx2⟩ := exget (xs := (arrL (getE m))) (i := Int.toNat (x1.account)) (by first | omega | (simp; done) | (simp; omega) | (exact arrL_len _) | (rw [arrL_len]; omega) | (rw [List.length_set, arrL_len]; omega))
                    have hx2w : x2 = getE m x1.account := by rw [(arrL_get hx2).1, Int.toNat_of_nonneg (by omega)]
                    have hx2g := getE_bound (a := x1.account) (fun y hy => by have := hi2_1.ok y hy; omega : ∀ x ∈ m, -1000000000000 ≤ x.sum ∧ x.sum ≤ 1000000000000)
                    refine AC.weak (st' := ⟨[(0, (aC (cR 2 ((l).map rEntry)))), (1, (aC (cR 2 ((es).map rEntry)))), (7, (aI (sumE (es.take q)))), (28, (aC (cR 2 ((es).map rEntry)))), (29, (aI (↑es.length : Int))), (30, (aI (↑q : Int))), (10, (aC (.p 0 0 1 0))), (59, (aC (cR 2 ((l).map rEntry)))), (60, (aI (↑l.length : Int))), (61, (aI (↑v : Int))), (71, (aC (cR 2 ((es).map rEntry)))), (72, (aI (↑es.length : Int))), (73, (aI (↑u : Int))), (14, (aC (.p 1 0 0 0)))], [(1, (.box 111 [(cI x1.account), (cI x1.sum)])), (0, (.arr 149 1 ((arrL (getE m)).map rI1)))], 2⟩) (Weak.ren id (⟨by first | rfl | (simp only [AV.map, GV.map, CV.map, AB.map', id]; done) | (congr 3; omega) | (congr 4; omega) | (simp only [List.length_append, List.length_cons, List.length_nil, List.length_set]; rfl), by first | rfl | (simp only [AV.map, GV.map, CV.map, AB.map', id]; done) | (congr 3; omega) | (congr 4; omega) | (simp only [List.length_append, List.length_cons, List.length_nil, List.length_set]; rfl), by first | rfl | (simp only [AV.map, GV.map, CV.map, AB.map', id]; done) | (congr 3; omega) | (congr 4; omega) | (simp only [List.length_append, List.length_cons, List.length_nil, List.length_set]; rfl), by first | rfl | (simp only [AV.map, GV.map, CV.map, AB.map', id]; done) | (congr 3; omega) | (congr 4; omega) | (simp only [List.length_append, List.length_cons, List.length_nil, List.length_set]; rfl), by first | rfl | (simp only [AV.map, GV.map, CV.map, AB.map', id]; done) | (congr 3; omega) | (congr 4; omega) | (simp only [List.length_append, List.length_cons, List.length_nil, List.length_set]; rfl), by first | rfl | (simp only [AV.map, GV.map, CV.map, AB.map', id]; done) | (congr 3; omega) | (congr 4; omega) | (simp only [List.length_append, List.length_cons, List.length_nil, List.length_set]; rfl), by first | rfl | (simp only [AV.map, GV.map, CV.map, AB.map', id]; done) | (congr 3; omega) | (congr 4; omega) | (simp only [List.length_append, List.length_cons, List.length_nil, List.length_set]; rfl), by first | rfl | (simp only [AV.map, GV.map, CV.map, AB.map', id]; done) | (congr 3; omega) | (congr 4; omega) | (simp only [List.length_append, List.length_cons, List.length_nil, List.length_set]; rfl), by first | rfl | (simp only [AV.map, GV.map, CV.map, AB.map', id]; done) | (congr 3; omega) | (congr 4; omega) | (simp only [List.length_append, List.length_cons, List.length_nil, List.length_set]; rfl), by first | rfl | (simp only [AV.map, GV.map, CV.map, AB.map', id]; done) | (congr 3; omega) | (congr 4; omega) | (simp only [List.length_append, List.length_cons, List.length_nil, List.length_set]; rfl), by first | rfl | (simp only [AV.map, GV.map, CV.map, AB.map', id]; done) | (congr 3; omega) | (congr 4; omega) | (simp only [List.length_append, List.length_cons, List.length_nil, List.length_set]; rfl), by first | rfl | (simp only [AV.map, GV.map, CV.map, AB.map', id]; done) | (congr 3; omega) | (congr 4; omega) | (simp only [List.length_append, List.length_cons, List.length_nil, List.length_set]; rfl), by first | rfl | (simp only [AV.map, GV.map, CV.map, AB.map', id]; done) | (congr 3; omega) | (congr 4; omega) | (simp only [List.length_append, List.length_cons, List.length_nil, List.length_set]; rfl), by first | rfl | (simp only [AV.map, GV.map, CV.map, AB.map', id]; done) | (congr 3; omega) | (congr 4; omega) | (simp only [List.length_append, List.length_cons, List.length_nil, List.length_set]; rfl),  trivial⟩) (⟨by first | rfl | (simp only [AV.map, GV.map, CV.map, AB.map', id]; done) | (congr 3; omega) | (congr 4; omega) | (simp only [List.length_append, List.length_cons, List.length_nil, List.length_set]; rfl), by first | rfl | (simp only [AV.map, GV.map, CV.map, AB.map', id]; done) | (congr 3; omega) | (congr 4; omega) | (simp only [List.length_append, List.length_cons, List.length_nil, List.length_set]; rfl),  trivial⟩) rfl) ?_
                    refine AC.draw [⟨some 77, (aC (.p 1 0 0 0)), [], [], [], [(14, (aC (.p 1 0 0 0)))], [(1, (.box 111 [(cI x1.account), (cI x1.sum)]))]⟩,
      ⟨some 78, (aI x1.account), [], [], [0], [(77, (aC (.p 1 0 0 0)))], [(1, (.box 111 [(cI x1.account), (cI x1.sum)]))]⟩,
      ⟨some 79, (aC (.p 1 0 0 0)), [], [], [], [(14, (aC (.p 1 0 0 0)))], [(1, (.box 111 [(cI x1.account), (cI x1.sum)]))]⟩,
      ⟨some 80, (aI x1.account), [], [], [2], [(79, (aC (.p 1 0 0 0)))], [(1, (.box 111 [(cI x1.account), (cI x1.sum)]))]⟩,
      ⟨some 81, (aC (.p 0 (Int.toNat (x1.account)) 1 0)), [], [], [3], [(10, (aC (.p 0 0 1 0))), (80, (aI x1.account))], [(0, (.arr 149 1 ((arrL (getE m)).map rI1)))]⟩,
      ⟨some 82, (aI x2), [], [], [4], [(81, (aC (.p 0 (Int.toNat (x1.account)) 1 0)))], [(0, (.arr 149 1 ((arrL (getE m)).map rI1)))]⟩,
      ⟨some 83, (aC (.p 1 0 0 1)), [], [], [], [(14, (aC (.p 1 0 0 0)))], [(1, (.box 111 [(cI x1.account), (cI x1.sum)]))]⟩,
      ⟨some 84, (aI x1.sum), [], [], [6], [(83, (aC (.p 1 0 0 1)))], [(1, (.box 111 [(cI x1.account), (cI x1.sum)]))]⟩,
      ⟨some 85, (aI (x2 + x1.sum)), [], [], [5, 7], [(82, (aI x2)), (84, (aI x1.sum))], []⟩,
      ⟨some 86, (aC (.p 0 (Int.toNat (x1.account)) 1 0)), [], [], [1], [(10, (aC (.p 0 0 1 0))), (78, (aI x1.account))], [(0, (.arr 149 1 ((arrL (getE m)).map rI1)))]⟩] ⟨[(0, (aC (cR 2 ((l).map rEntry)))), (1, (aC (cR 2 ((es).map rEntry)))), (7, (aI (sumE (es.take q)))), (28, (aC (cR 2 ((es).map rEntry)))), (29, (aI (↑es.length : Int))), (30, (aI (↑q : Int))), (10, (aC (.p 0 0 1 0))), (59, (aC (cR 2 ((l).map rEntry)))), (60, (aI (↑l.length : Int))), (61, (aI (↑v : Int))), (71, (aC (cR 2 ((es).map rEntry)))), (72, (aI (↑es.length : Int))), (73, (aI (↑u : Int))), (14, (aC (.p 1 0 0 0))), (85, (aI (x2 + x1.sum))), (86, (aC (.p 0 (Int.toNat (x1.account)) 1 0)))], [(1, (.box 111 [(cI x1.account), (cI x1.sum)])), (0, (.arr 149 1 ((arrL (getE m)).map rI1)))], 2⟩ mixed (by kernel_rfl) ?_ ?_ ?_ ?_
                    · exact ⟨.inl ⟨(Wanted.plain rfl), GOp.cast (g_fieldP rfl rfl Try.underlying111 rfl sz3 (by decide)) rfl⟩,
      .inl ⟨(Wanted.plain rfl), GOp.cast (g_loadB rfl rfl rfl Try.underlying3 rfl rfl) rfl⟩,
      .inl ⟨(Wanted.plain rfl), GOp.cast (g_fieldP rfl rfl Try.underlying111 rfl sz3 (by decide)) rfl⟩,
      .inl ⟨(Wanted.plain rfl), GOp.cast (g_loadB rfl rfl rfl Try.underlying3 rfl rfl) rfl⟩,
      .inl ⟨(Wanted.plain rfl), GOp.cast (g_indexA (i := Int.toNat (x1.account)) rfl rfl rfl Try.underlying149 sz3 (by first | omega | (simp; done) | (simp; omega) | (exact arrL_len _) | (rw [arrL_len]; omega) | (rw [List.length_set, arrL_len]; omega)) (by first | omega | (simp; done) | (simp; omega) | (exact arrL_len _) | (rw [arrL_len]; omega) | (rw [List.length_set, arrL_len]; omega))) rfl⟩,
      .inl ⟨(Wanted.plain rfl), GOp.cast (g_loadA rfl rfl rfl Try.underlying3 rfl (getmap hx2) rfl) rfl⟩,
      .inl ⟨(Wanted.plain rfl), GOp.cast (g_fieldP rfl rfl Try.underlying111 rfl sz3 (by decide)) rfl⟩,
      .inl ⟨(Wanted.plain rfl), GOp.cast (g_loadB rfl rfl rfl Try.underlying3 rfl rfl) rfl⟩,
      .inl ⟨(Wanted.plain rfl), GOp.cast (g_binI rfl rfl rfl (wrap_ok (by first | omega | (simp; done) | (simp; omega) | (exact arrL_len _) | (rw [arrL_len]; omega) | (rw [List.length_set, arrL_len]; omega)))) rfl⟩,
      .inl ⟨(Wanted.plain rfl), GOp.cast (g_indexA (i := Int.toNat (x1.account)) rfl rfl rfl Try.underlying149 sz3 (by first | omega | (simp; done) | (simp; omega) | (exact arrL_len _) | (rw [arrL_len]; omega) | (rw [List.length_set, arrL_len]; omega)) (by first | omega | (simp; done) | (simp; omega) | (exact arrL_len _) | (rw [arrL_len]; omega) | (rw [List.length_set, arrL_len]; omega))) rfl⟩,
       trivial⟩
                    · exact ⟨⟨⟨.inl rfl,  trivial⟩, ⟨.inl rfl,  trivial⟩⟩, ⟨⟨.inr ⟨0, .head _, _, rfl, rfl, rfl⟩,  trivial⟩, ⟨.inl rfl,  trivial⟩⟩, ⟨⟨.inl rfl,  trivial⟩, ⟨.inl rfl,  trivial⟩⟩, ⟨⟨.inr ⟨2, .head _, _, rfl, rfl, rfl⟩,  trivial⟩, ⟨.inl rfl,  trivial⟩⟩, ⟨⟨.inl rfl, .inr ⟨3, .head _, _, rfl, rfl, rfl⟩,  trivial⟩, ⟨.inl rfl,  trivial⟩⟩, ⟨⟨.inr ⟨4, .head _, _, rfl, rfl, rfl⟩,  trivial⟩, ⟨.inl rfl,  trivial⟩⟩, ⟨⟨.inl rfl,  trivial⟩, ⟨.inl rfl,  trivial⟩⟩, ⟨⟨.inr ⟨6, .head _, _, rfl, rfl, rfl⟩,  trivial⟩, ⟨.inl rfl,  trivial⟩⟩, ⟨⟨.inr ⟨5, .head _, _, rfl, rfl, rfl⟩, .inr ⟨7, .tail _ (.head _), _, rfl, rfl, rfl⟩,  trivial⟩, trivial⟩, ⟨⟨.inl rfl, .inr ⟨1, .head _, _, rfl, rfl, rfl⟩,  trivial⟩, ⟨.inl rfl,  trivial⟩⟩,  trivial⟩
                    · exact ⟨⟨.inl rfl, .inl rfl, .inl rfl, .inl rfl, .inl rfl, .inl rfl, .inl rfl, .inl rfl, .inl rfl, .inl rfl, .inl rfl, .inl rfl, .inl rfl, .inl rfl, .inr ⟨8, _, rfl, rfl, rfl⟩, .inr ⟨9, _, rfl, rfl, rfl⟩,  trivial⟩, ⟨.inl rfl, .inl rfl,  trivial⟩⟩
                    ·
                      refine AL.sto (h' := [(1, (.box 111 [(cI x1.account), (cI x1.sum)])), (0, (.arr 149 1 (((arrL (getE m)).set (Int.toNat (x1.account)) (x2 + x1.sum)).map rI1)))]) (Wanted.plain rfl) (g_storeA (ds := [(dI (x2 + x1.sum))]) rfl rfl rfl rfl rfl sz3 rfl (Nat.le_of_ble_eq_true rfl) (getmap hx2) rfl (setmap (x' := x2 + x1.sum) rfl)) rfl rfl rfl rfl ?_
                      refine AL.nil ?_
                      refine then_ok ?_
                      refine AC.seq ?_
                      refine AC.region ?_
                      refine AL.val (Wanted.plain rfl) (g_fieldP rfl rfl Try.underlying111 rfl sz3 (by decide)) rfl rfl ?_
                      refine AL.val (Wanted.plain rfl) (g_loadB rfl rfl rfl Try.underlying3 rfl rfl) rfl rfl ?_
                      refine AL.val (Wanted.plain rfl) (g_indexA (i := Int.toNat (x1.account)) rfl rfl rfl Try.underlying149 sz3 (by first | omega | (simp; done) | (simp; omega) | (exact arrL_len _) | (rw [arrL_len]; omega) | (rw [List.length_set, arrL_len]; omega)) (by first | omega | (simp; done) | (simp; omega) | (exact arrL_len _) | (rw [arrL_len]; omega) | (rw [List.length_set, arrL_len]; omega))) rfl rfl ?_
                      obtain ⟨x3, hx3⟩ := exget (xs := ((arrL (getE m)).set (Int.toNat (x1.account)) (x2 + x1.sum))) (i := Int.toNat (x1.account)) (by first | omega | (simp; done) | (simp; omega) | (exact arrL_len _) | (rw [arrL_len]; omega) | (rw [List.length_set, arrL_len]; omega))
                      have hx3e := set_atI hx3
                      refine AL.val (Wanted.plain rfl) (g_loadA rfl rfl rfl Try.underlying3 rfl (getmap hx3) rfl) rfl rfl ?_
                      refine AL.val (Wanted.plain rfl) (g_binI rfl rfl rfl rfl) rfl rfl ?_
                      refine AL.fast 1 rfl ?_
                      refine AL.dec (t := 92) rfl (fun hb11 => ?_) (fun hb11 => ?_)
                      ·
                        have hb11' := hb11; try simp only [sumB, Bool.not_eq_true', Bool.not_eq_false', Bool.or_eq_true, Bool.or_eq_false_iff, Bool.and_eq_true, Bool.and_eq_false_imp, decide_eq_true_eq, decide_eq_false_iff_not, Bool.not_not, Bool.not_true, Bool.not_false] at hb11'
                        refine AL.fast 6 rfl ?_
                        refine AL.nil ?_
                        refine then_ok ?_
                        refine AC.cond rfl (fun _ => ?_) (fun hno => by cases hno)
                        refine AC.seq ?_
                        refine AC.region ?_
                        refine AL.fast 2 rfl ?_
                        refine AL.nil ?_
                        refine then_ok ?_
                        refine AC.ret ?_
                        refine block_ret ?_
                        refine then_ret ?_
                        refine then_ret ?_
                        refine block_ret ?_
                        refine then_ret ?_
                        refine retQ_weak (Weak.nil 4 111 2 (by decide) rfl) ?_
                        have hX : postB l es = (([] : List Entry), 4) := by
                          rw [postB_go h0 (by omega) hnb (by omega), hi2_2, putAll_drop hx1, if_neg (by rw [goodE_iff]; omega)]
                        rw [hX] at hr; clear hX
                        simp only [Prod.mk.injEq] at hr; obtain ⟨rfl, rfl⟩ := hr
                        refine retQ_mk (av' := outOf [(.c (.s 0 0 2 0)), (.c (cI 4))]) (nb' := [(0, (.arr 111 2 ((([] : List Entry)).map rEntry)))]) (retQ_ret ⟨[(4, (aC (.s 0 0 2 0))), (5, (aI 4))], [(0, (.arr 111 2 ((([] : List Entry)).map rEntry)))], 1⟩ [.tmp 4, .tmp 5] [(.c (.s 0 0 2 0)), (.c (cI 4))] (Weak.ren (fun k => if k = 0 then 2 else k) (⟨by first | rfl | (simp only [AV.map, GV.map, CV.map, AB.map', id]; done) | (congr 3; omega) | (congr 4; omega) | (simp only [List.length_append, List.length_cons, List.length_nil, List.length_set]; rfl), by first | rfl | (simp only [AV.map, GV.map, CV.map, AB.map', id]; done) | (congr 3; omega) | (congr 4; omega) | (simp only [List.length_append, List.length_cons, List.length_nil, List.length_set]; rfl),  trivial⟩) (⟨by first | rfl | (simp only [AV.map, GV.map, CV.map, AB.map', id]; done) | (congr 3; omega) | (congr 4; omega) | (simp only [List.length_append, List.length_cons, List.length_nil, List.length_set]; rfl),  trivial⟩) rfl) rfl ⟨.tmp rfl, .tmp rfl, trivial⟩ ⟨by first | rfl | (simp only [AV.map, GV.map, CV.map, AB.map', id]; done) | (congr 3; omega) | (congr 4; omega) | (simp only [List.length_append, List.length_cons, List.length_nil, List.length_set]; rfl),  trivial⟩) ?_ ?_
                        · first | rfl | (simp [outOf, aC]; done) | (simp [outOf, aC]; omega)
                        · first | rfl | (simp; done) | (simp; omega)
                      ·
                        have hb11' := hb11; try simp only [sumB, Bool.not_eq_true', Bool.not_eq_false', Bool.or_eq_true, Bool.or_eq_false_iff, Bool.and_eq_true, Bool.and_eq_false_imp, decide_eq_true_eq, decide_eq_false_iff_not, Bool.not_not, Bool.not_true, Bool.not_false] at hb11'
                        refine AL.val (Wanted.yes rfl rfl rfl) (g_fieldP rfl rfl Try.underlying111 rfl sz3 (by decide)) rfl rfl ?_
                        refine AL.val (Wanted.yes rfl rfl rfl) (g_loadB rfl rfl rfl Try.underlying3 rfl rfl) rfl rfl ?_
                        refine AL.val (Wanted.yes rfl rfl rfl) (g_indexA (i := Int.toNat (x1.account)) rfl rfl rfl Try.underlying149 sz3 (by first | omega | (simp; done) | (simp; omega) | (exact arrL_len _) | (rw [arrL_len]; omega) | (rw [List.length_set, arrL_len]; omega)) (by first | omega | (simp; done) | (simp; omega) | (exact arrL_len _) | (rw [arrL_len]; omega) | (rw [List.length_set, arrL_len]; omega))) rfl rfl ?_
                        refine AL.val (Wanted.yes rfl rfl rfl) (g_loadA rfl rfl rfl Try.underlying3 rfl (getmap hx3) rfl) rfl rfl ?_
                        refine AL.val (Wanted.yes rfl rfl rfl) (g_binI rfl rfl rfl rfl) rfl rfl ?_
                        refine AL.fast 1 rfl ?_
                        refine AL.nil ?_
                        refine then_ok ?_
                        refine AC.cond rfl (fun hc13 => ?_) (fun hc13 => ?_)
                        ·
                          have hc13' := hc13; try simp only [sumB, Bool.not_eq_true', Bool.not_eq_false', Bool.or_eq_true, Bool.or_eq_false_iff, Bool.and_eq_true, Bool.and_eq_false_imp, decide_eq_true_eq, decide_eq_false_iff_not, Bool.not_not, Bool.not_true, Bool.not_false] at hc13'
                          refine AC.seq ?_
                          refine AC.region ?_
                          refine AL.fast 2 rfl ?_
                          refine AL.nil ?_
                          refine then_ok ?_
                          refine AC.ret ?_
                          refine block_ret ?_
                          refine then_ret ?_
                          refine then_ret ?_
                          refine block_ret ?_
                          refine then_ret ?_
                          refine retQ_weak (Weak.nil 4 111 2 (by decide) rfl) ?_
                          have hX : postB l es = (([] : List Entry), 4) := by
                            rw [postB_go h0 (by omega) hnb (by omega), hi2_2, putAll_drop hx1, if_neg (by rw [goodE_iff]; omega)]
                          rw [hX] at hr; clear hX
                          simp only [Prod.mk.injEq] at hr; obtain ⟨rfl, rfl⟩ := hr
                          refine retQ_mk (av' := outOf [(.c (.s 0 0 2 0)), (.c (cI 4))]) (nb' := [(0, (.arr 111 2 ((([] : List Entry)).map rEntry)))]) (retQ_ret ⟨[(4, (aC (.s 0 0 2 0))), (5, (aI 4))], [(0, (.arr 111 2 ((([] : List Entry)).map rEntry)))], 1⟩ [.tmp 4, .tmp 5] [(.c (.s 0 0 2 0)), (.c (cI 4))] (Weak.ren (fun k => if k = 0 then 2 else k) (⟨by first | rfl | (simp only [AV.map, GV.map, CV.map, AB.map', id]; done) | (congr 3; omega) | (congr 4; omega) | (simp only [List.length_append, List.length_cons, List.length_nil, List.length_set]; rfl), by first | rfl | (simp only [AV.map, GV.map, CV.map, AB.map', id]; done) | (congr 3; omega) | (congr 4; omega) | (simp only [List.length_append, List.length_cons, List.length_nil, List.length_set]; rfl),  trivial⟩) (⟨by first | rfl | (simp only [AV.map, GV.map, CV.map, AB.map', id]; done) | (congr 3; omega) | (congr 4; omega) | (simp only [List.length_append, List.length_cons, List.length_nil, List.length_set]; rfl),  trivial⟩) rfl) rfl ⟨.tmp rfl, .tmp rfl, trivial⟩ ⟨by first | rfl | (simp only [AV.map, GV.map, CV.map, AB.map', id]; done) | (congr 3; omega) | (congr 4; omega) | (simp only [List.length_append, List.length_cons, List.length_nil, List.length_set]; rfl),  trivial⟩) ?_ ?_
                          · first | rfl | (simp [outOf, aC]; done) | (simp [outOf, aC]; omega)
                          · first | rfl | (simp; done) | (simp; omega)
                        ·
                          have hc13' := hc13; try simp only [sumB, Bool.not_eq_true', Bool.not_eq_false', Bool.or_eq_true, Bool.or_eq_false_iff, Bool.and_eq_true, Bool.and_eq_false_imp, decide_eq_true_eq, decide_eq_false_iff_not, Bool.not_not, Bool.not_true, Bool.not_false] at hc13'
                          refine AC.skip ?_
                          refine block_ok ?_
                          refine then_ok ?_
                          refine AC.region ?_
                          refine AL.val (Wanted.plain rfl) (g_binI rfl rfl rfl (wrap_ok (by first | omega | (simp; done) | (simp; omega) | (exact arrL_len _) | (rw [arrL_len]; omega) | (rw [List.length_set, arrL_len]; omega)))) rfl rfl ?_
                          refine AL.fast 1 rfl ?_
                          refine AL.nil ?_
                          refine then_ok ?_
                          refine ⟨(u + 1, setE m x1.account (getE m x1.account + x1.sum)), ⟨by omega, setE_right hi2_1 (by omega) (by omega), by rw [hi2_2, putAll_drop hx1, if_pos (by rw [goodE_iff]; omega)]⟩, by first | omega | (simp; done) | (simp; omega), Weak.ren id (⟨by first | rfl | (simp only [AV.map, GV.map, CV.map, AB.map', id]; done) | (congr 3; omega) | (congr 4; omega) | (simp only [List.length_append, List.length_cons, List.length_nil, List.length_set]; rfl), by first | rfl | (simp only [AV.map, GV.map, CV.map, AB.map', id]; done) | (congr 3; omega) | (congr 4; omega) | (simp only [List.length_append, List.length_cons, List.length_nil, List.length_set]; rfl), by first | rfl | (simp only [AV.map, GV.map, CV.map, AB.map', id]; done) | (congr 3; omega) | (congr 4; omega) | (simp only [List.length_append, List.length_cons, List.length_nil, List.length_set]; rfl), by first | rfl | (simp only [AV.map, GV.map, CV.map, AB.map', id]; done) | (congr 3; omega) | (congr 4; omega) | (simp only [List.length_append, List.length_cons, List.length_nil, List.length_set]; rfl), by first | rfl | (simp only [AV.map, GV.map, CV.map, AB.map', id]; done) | (congr 3; omega) | (congr 4; omega) | (simp only [List.length_append, List.length_cons, List.length_nil, List.length_set]; rfl), by first | rfl | (simp only [AV.map, GV.map, CV.map, AB.map', id]; done) | (congr 3; omega) | (congr 4; omega) | (simp only [List.length_append, List.length_cons, List.length_nil, List.length_set]; rfl), by first | rfl | (simp only [AV.map, GV.map, CV.map, AB.map', id]; done) | (congr 3; omega) | (congr 4; omega) | (simp only [List.length_append, List.length_cons, List.length_nil, List.length_set]; rfl), by first | rfl | (simp only [AV.map, GV.map, CV.map, AB.map', id]; done) | (congr 3; omega) | (congr 4; omega) | (simp only [List.length_append, List.length_cons, List.length_nil, List.length_set]; rfl), by first | rfl | (simp only [AV.map, GV.map, CV.map, AB.map', id]; done) | (congr 3; omega) | (congr 4; omega) | (simp only [List.length_append, List.length_cons, List.length_nil, List.length_set]; rfl), by first | rfl | (simp only [AV.map, GV.map, CV.map, AB.map', id]; done) | (congr 3; omega) | (congr 4; omega) | (simp only [List.length_append, List.length_cons, List.length_nil, List.length_set]; rfl), by first | rfl | (simp only [AV.map, GV.map, CV.map, AB.map', id]; done) | (congr 3; omega) | (congr 4; omega) | (simp only [List.length_append, List.length_cons, List.length_nil, List.length_set]; rfl), by first | rfl | (simp only [AV.map, GV.map, CV.map, AB.map', id]; done) | (congr 3; omega) | (congr 4; omega) | (simp only [List.length_append, List.length_cons, List.length_nil, List.length_set]; rfl), by first | rfl | (simp only [AV.map, GV.map, CV.map, AB.map', id]; done) | (congr 3; omega) | (congr 4; omega) | (simp only [List.length_append, List.length_cons, List.length_nil, List.length_set]; rfl),  trivial⟩) (⟨by first | rfl | (simp only [AV.map, GV.map, CV.map, AB.map', id]; done) | (congr 3; omega) | (congr 4; omega) | (simp only [List.length_append, List.length_cons, List.length_nil, List.length_set]; rfl) | (rw [hx2w, arrL_set (g := getE (setE m x1.account (getE m x1.account + x1.sum))) (fun b => by rw [getE_set hi2_1.up, Int.toNat_of_nonneg (by omega)])]; rfl),  trivial⟩) rfl⟩
                  ·
                    have hc10' := hc10; try simp only [sumB, Bool.not_eq_true', Bool.not_eq_false', Bool.or_eq_true, Bool.or_eq_false_iff, Bool.and_eq_true, Bool.and_eq_false_imp, decide_eq_true_eq, decide_eq_false_iff_not, Bool.not_not, Bool.not_true, Bool.not_false] at hc10'
                    refine AC.exit ?_
                    refine then_exit ?_
                    refine then_exit ?_
                    refine block_hit ?_
                    refine then_ok ?_
                    refine AC.seq ?_
                    refine AC.region ?_
                    refine AL.fast 1 rfl ?_
                    refine AL.nil ?_
                    refine then_ok ?_
                    refine AC.seq ?_
                    refine AC.seq ?_
                    refine AC.region ?_
                    refine AL.val (Wanted.plain rfl) (g_loadAA (l := arrL (getE m)) rfl rfl rfl Try.underlying149 sz149 (by first | omega | (simp; done) | (simp; omega) | (exact arrL_len _) | (rw [arrL_len]; omega) | (rw [List.length_set, arrL_len]; omega))) rfl rfl ?_
                    refine AL.fast 1 rfl ?_
                    refine AL.nil ?_
                    refine then_ok ?_
                    refine AC.block ?_
                    refine AC.weak (Weak.nil 15 111 2 (by decide) rfl) ?_
                    refine AC.loop (β := Nat) (fun (k : Nat) => ⟨[(0, (aC (cR 2 ((l).map rEntry)))), (1, (aC (cR 2 ((es).map rEntry)))), (7, (aI (sumE (es.take q)))), (28, (aC (cR 2 ((es).map rEntry)))), (29, (aI (↑es.length : Int))), (30, (aI (↑q : Int))), (10, (aC (.p 0 0 1 0))), (59, (aC (cR 2 ((l).map rEntry)))), (60, (aI (↑l.length : Int))), (61, (aI (↑v : Int))), (71, (aC (cR 2 ((es).map rEntry)))), (72, (aI (↑es.length : Int))), (73, (aI (↑u : Int))), (15, (aC (.s 1 0 2 ((bookTo (getE m) k).length)))), (100, (.v (.g ((arrL (getE m)).map cI)))), (101, (aI (↑k : Int)))], [(1, (.arr 111 2 ((bookTo (getE m) k).map rEntry))), (0, (.arr 149 1 ((arrL (getE m)).map rI1)))], 2⟩) (fun (k : Nat) => k ≤ 58) (fun (k : Nat) => 58 - k) 0 ?_ ?_ ?_
                    · exact (by omega)
                    · exact Weak.ren id (⟨by first | rfl | (simp only [AV.map, GV.map, CV.map, AB.map', id]; done) | (congr 3; omega) | (congr 4; omega) | (simp only [List.length_append, List.length_cons, List.length_nil, List.length_set]; rfl), by first | rfl | (simp only [AV.map, GV.map, CV.map, AB.map', id]; done) | (congr 3; omega) | (congr 4; omega) | (simp only [List.length_append, List.length_cons, List.length_nil, List.length_set]; rfl), by first | rfl | (simp only [AV.map, GV.map, CV.map, AB.map', id]; done) | (congr 3; omega) | (congr 4; omega) | (simp only [List.length_append, List.length_cons, List.length_nil, List.length_set]; rfl), by first | rfl | (simp only [AV.map, GV.map, CV.map, AB.map', id]; done) | (congr 3; omega) | (congr 4; omega) | (simp only [List.length_append, List.length_cons, List.length_nil, List.length_set]; rfl), by first | rfl | (simp only [AV.map, GV.map, CV.map, AB.map', id]; done) | (congr 3; omega) | (congr 4; omega) | (simp only [List.length_append, List.length_cons, List.length_nil, List.length_set]; rfl), by first | rfl | (simp only [AV.map, GV.map, CV.map, AB.map', id]; done) | (congr 3; omega) | (congr 4; omega) | (simp only [List.length_append, List.length_cons, List.length_nil, List.length_set]; rfl), by first | rfl | (simp only [AV.map, GV.map, CV.map, AB.map', id]; done) | (congr 3; omega) | (congr 4; omega) | (simp only [List.length_append, List.length_cons, List.length_nil, List.length_set]; rfl), by first | rfl | (simp only [AV.map, GV.map, CV.map, AB.map', id]; done) | (congr 3; omega) | (congr 4; omega) | (simp only [List.length_append, List.length_cons, List.length_nil, List.length_set]; rfl), by first | rfl | (simp only [AV.map, GV.map, CV.map, AB.map', id]; done) | (congr 3; omega) | (congr 4; omega) | (simp only [List.length_append, List.length_cons, List.length_nil, List.length_set]; rfl), by first | rfl | (simp only [AV.map, GV.map, CV.map, AB.map', id]; done) | (congr 3; omega) | (congr 4; omega) | (simp only [List.length_append, List.length_cons, List.length_nil, List.length_set]; rfl), by first | rfl | (simp only [AV.map, GV.map, CV.map, AB.map', id]; done) | (congr 3; omega) | (congr 4; omega) | (simp only [List.length_append, List.length_cons, List.length_nil, List.length_set]; rfl), by first | rfl | (simp only [AV.map, GV.map, CV.map, AB.map', id]; done) | (congr 3; omega) | (congr 4; omega) | (simp only [List.length_append, List.length_cons, List.length_nil, List.length_set]; rfl), by first | rfl | (simp only [AV.map, GV.map, CV.map, AB.map', id]; done) | (congr 3; omega) | (congr 4; omega) | (simp only [List.length_append, List.length_cons, List.length_nil, List.length_set]; rfl), by first | rfl | (simp only [AV.map, GV.map, CV.map, AB.map', id]; done) | (congr 3; omega) | (congr 4; omega) | (simp only [List.length_append, List.length_cons, List.length_nil, List.length_set]; rfl), by first | rfl | (simp only [AV.map, GV.map, CV.map, AB.map', id]; done) | (congr 3; omega) | (congr 4; omega) | (simp only [List.length_append, List.length_cons, List.length_nil, List.length_set]; rfl), by first | rfl | (simp only [AV.map, GV.map, CV.map, AB.map', id]; done) | (congr 3; omega) | (congr 4; omega) | (simp only [List.length_append, List.length_cons, List.length_nil, List.length_set]; rfl),  trivial⟩) (⟨by first | rfl | (simp only [AV.map, GV.map, CV.map, AB.map', id]; done) | (congr 3; omega) | (congr 4; omega) | (simp only [List.length_append, List.length_cons, List.length_nil, List.length_set]; rfl), by first | rfl | (simp only [AV.map, GV.map, CV.map, AB.map', id]; done) | (congr 3; omega) | (congr 4; omega) | (simp only [List.length_append, List.length_cons, List.length_nil, List.length_set]; rfl),  trivial⟩) rfl
                    ·
                      rintro k hi3_0
                      have hbl := bookTo_len (getE m) k
                      refine AC.seq ?_
                      refine AC.region ?_
                      refine AL.val (Wanted.plain rfl) (g_binI rfl rfl rfl rfl) rfl rfl ?_
                      refine AL.nil ?_
                      refine then_ok ?_
                      refine AC.seq ?_
                      refine AC.cond rfl (fun hc14 => ?_) (fun hc14 => ?_)
                      ·
                        have hc14' := hc14; try simp only [sumB, Bool.not_eq_true', Bool.not_eq_false', Bool.or_eq_true, Bool.or_eq_false_iff, Bool.and_eq_true, Bool.and_eq_false_imp, decide_eq_true_eq, decide_eq_false_iff_not, Bool.not_not, Bool.not_true, Bool.not_false] at hc14'
                        refine AC.skip ?_
                        refine then_ok ?_
                        refine AC.seq ?_
                        refine AC.block ?_
                        refine AC.seq ?_
                        refine AC.region ?_
                        refine AL.fast 1 rfl ?_
                        obtain ⟨x1, hx1⟩ := exget (xs := (arrL (getE m))) (i := k) (by first | omega | (simp; done) | (simp; omega) | (exact arrL_len _) | (rw [arrL_len]; omega) | (rw [List.length_set, arrL_len]; omega))
                        have hx1w := (arrL_get hx1).1
                        have hx1g := getE_bound (a := (k : Int)) (fun y hy => by have := hi2_1.ok y hy; omega : ∀ x ∈ m, -1000000000000 ≤ x.sum ∧ x.sum ≤ 1000000000000)
                        refine AL.val (Wanted.plain rfl) (g_indexG (i := k) rfl rfl rfl Try.underlying149 Try.underlying3 rfl sz3 (by first | omega | (simp; done) | (simp; omega) | (exact arrL_len _) | (rw [arrL_len]; omega) | (rw [List.length_set, arrL_len]; omega)) (by first | omega | (simp; done) | (simp; omega) | (exact arrL_len _) | (rw [arrL_len]; omega) | (rw [List.length_set, arrL_len]; omega)) hx1) rfl rfl ?_
                        refine AL.fast 2 rfl ?_
                        refine AL.nil ?_
                        refine then_ok ?_
                        refine AC.seq ?_
                        refine AC.region ?_
                        refine AL.fast 1 rfl ?_
                        refine AL.val (Wanted.plain rfl) (g_binI rfl rfl rfl rfl) rfl rfl ?_
                        refine AL.nil ?_
                        refine then_ok ?_
                        refine AC.cond rfl (fun hc15 => ?_) (fun hc15 => ?_)
                        ·
                          have hc15' := hc15; try simp only [sumB, Bool.not_eq_true', Bool.not_eq_false', Bool.or_eq_true, Bool.or_eq_false_iff, Bool.and_eq_true, Bool.and_eq_false_imp, decide_eq_true_eq, decide_eq_false_iff_not, Bool.not_not, Bool.not_true, Bool.not_false] at hc15'
                          refine AC.region ?_
                          refine AL.fast 3 rfl ?_
                          refine AL.val (Wanted.plain rfl) (g_build (ys := [(0, (.c (cI (↑k : Int)))), (1, (.c (cI x1)))]) rfl bld111 rfl ⟨⟨rfl, rfl⟩, ⟨rfl, rfl⟩,  trivial⟩ rfl rfl) rfl rfl ?_
                          refine AL.new (n' := 3) (Wanted.plain rfl) (g_lit (ys := [(0, (.g [(cI (↑k : Int)), (cI x1)]))]) (rows := ([(⟨(↑k : Int), x1⟩ : Entry)]).map rEntry) 2 sl102 rfl (by decide) ⟨⟨rfl, rfl⟩,  trivial⟩ rfl rfl rfl rfl) rfl rfl rfl ?_
                          refine AL.eat (n' := 4) (h' := [(3, (.arr 111 2 (((bookTo (getE m) k) ++ ([(⟨(↑k : Int), x1⟩ : Entry)])).map rEntry))), (2, (.arr 111 2 (([(⟨(↑k : Int), x1⟩ : Entry)]).map rEntry))), (0, (.arr 149 1 ((arrL (getE m)).map rI1)))]) (Wanted.plain rfl) (g_append (m := 1) (N := ((bookTo (getE m) k).length) + 1) (k2 := 3) (ys := ([(⟨(↑k : Int), x1⟩ : Entry)]).map rEntry) sl102 rfl rfl rfl rfl rfl rfl (by first | omega | (simp; done) | (simp; omega) | (exact arrL_len _) | (rw [arrL_len]; omega) | (rw [List.length_set, arrL_len]; omega)) rfl (.s rfl (by first | omega | (simp; done) | (simp; omega) | (exact arrL_len _) | (rw [arrL_len]; omega) | (rw [List.length_set, arrL_len]; omega))) (by first | omega | (simp; done) | (simp; omega) | (exact arrL_len _) | (rw [arrL_len]; omega) | (rw [List.length_set, arrL_len]; omega)) (by first | omega | (simp; done) | (simp; omega) | (exact arrL_len _) | (rw [arrL_len]; omega) | (rw [List.length_set, arrL_len]; omega)) appmap (by decide) (by first | omega | (simp; done) | (simp; omega) | (exact arrL_len _) | (rw [arrL_len]; omega) | (rw [List.length_set, arrL_len]; omega)) (by first | omega | (simp; done) | (simp; omega) | (exact arrL_len _) | (rw [arrL_len]; omega) | (rw [List.length_set, arrL_len]; omega))) rfl rfl rfl rfl rfl ?_
                          refine AL.fast 1 rfl ?_
                          refine AL.nil ?_
                          refine block_ok ?_
                          refine then_ok ?_
                          refine AC.region ?_
                          refine AL.val (Wanted.plain rfl) (g_binI rfl rfl rfl (wrap_ok (by first | omega | (simp; done) | (simp; omega) | (exact arrL_len _) | (rw [arrL_len]; omega) | (rw [List.length_set, arrL_len]; omega)))) rfl rfl ?_
                          refine AL.fast 1 rfl ?_
                          refine AL.nil ?_
                          refine then_ok ?_
                          refine ⟨k + 1, by first | omega | trivial, by first | omega | (simp; done) | (simp; omega), Weak.ren (fun k => if k = 1 then 3 else k) (⟨by first | rfl | (simp only [AV.map, GV.map, CV.map, AB.map', id]; done) | (congr 3; omega) | (congr 4; omega) | (simp only [List.length_append, List.length_cons, List.length_nil, List.length_set]; rfl) | (first | (rw [show bookTo (getE m) (k + 1) = bookTo (getE m) k from by (rw [bookTo_succ, if_pos (by omega), List.append_nil])]; rfl) | (rw [show bookTo (getE m) (k + 1) = bookTo (getE m) k ++ [⟨↑k, x1⟩] from by (rw [bookTo_succ, if_neg (by omega), hx1w]), List.length_append]; rfl)), by first | rfl | (simp only [AV.map, GV.map, CV.map, AB.map', id]; done) | (congr 3; omega) | (congr 4; omega) | (simp only [List.length_append, List.length_cons, List.length_nil, List.length_set]; rfl) | (first | (rw [show bookTo (getE m) (k + 1) = bookTo (getE m) k from by (rw [bookTo_succ, if_pos (by omega), List.append_nil])]; rfl) | (rw [show bookTo (getE m) (k + 1) = bookTo (getE m) k ++ [⟨↑k, x1⟩] from by (rw [bookTo_succ, if_neg (by omega), hx1w]), List.length_append]; rfl)), by first | rfl | (simp only [AV.map, GV.map, CV.map, AB.map', id]; done) | (congr 3; omega) | (congr 4; omega) | (simp only [List.length_append, List.length_cons, List.length_nil, List.length_set]; rfl) | (first | (rw [show bookTo (getE m) (k + 1) = bookTo (getE m) k from by (rw [bookTo_succ, if_pos (by omega), List.append_nil])]; rfl) | (rw [show bookTo (getE m) (k + 1) = bookTo (getE m) k ++ [⟨↑k, x1⟩] from by (rw [bookTo_succ, if_neg (by omega), hx1w]), List.length_append]; rfl)), by first | rfl | (simp only [AV.map, GV.map, CV.map, AB.map', id]; done) | (congr 3; omega) | (congr 4; omega) | (simp only [List.length_append, List.length_cons, List.length_nil, List.length_set]; rfl) | (first | (rw [show bookTo (getE m) (k + 1) = bookTo (getE m) k from by (rw [bookTo_succ, if_pos (by omega), List.append_nil])]; rfl) | (rw [show bookTo (getE m) (k + 1) = bookTo (getE m) k ++ [⟨↑k, x1⟩] from by (rw [bookTo_succ, if_neg (by omega), hx1w]), List.length_append]; rfl)), by first | rfl | (simp only [AV.map, GV.map, CV.map, AB.map', id]; done) | (congr 3; omega) | (congr 4; omega) | (simp only [List.length_append, List.length_cons, List.length_nil, List.length_set]; rfl) | (first | (rw [show bookTo (getE m) (k + 1) = bookTo (getE m) k from by (rw [bookTo_succ, if_pos (by omega), List.append_nil])]; rfl) | (rw [show bookTo (getE m) (k + 1) = bookTo (getE m) k ++ [⟨↑k, x1⟩] from by (rw [bookTo_succ, if_neg (by omega), hx1w]), List.length_append]; rfl)), by first | rfl | (simp only [AV.map, GV.map, CV.map, AB.map', id]; done) | (congr 3; omega) | (congr 4; omega) | (simp only [List.length_append, List.length_cons, List.length_nil, List.length_set]; rfl) | (first | (rw [show bookTo (getE m) (k + 1) = bookTo (getE m) k from by (rw [bookTo_succ, if_pos (by omega), List.append_nil])]; rfl) | (rw [show bookTo (getE m) (k + 1) = bookTo (getE m) k ++ [⟨↑k, x1⟩] from by (rw [bookTo_succ, if_neg (by omega), hx1w]), List.length_append]; rfl)), by first | rfl | (simp only [AV.map, GV.map, CV.map, AB.map', id]; done) | (congr 3; omega) | (congr 4; omega) | (simp only [List.length_append, List.length_cons, List.length_nil, List.length_set]; rfl) | (first | (rw [show bookTo (getE m) (k + 1) = bookTo (getE m) k from by (rw [bookTo_succ, if_pos (by omega), List.append_nil])]; rfl) | (rw [show bookTo (getE m) (k + 1) = bookTo (getE m) k ++ [⟨↑k, x1⟩] from by (rw [bookTo_succ, if_neg (by omega), hx1w]), List.length_append]; rfl)), by first | rfl | (simp only [AV.map, GV.map, CV.map, AB.map', id]; done) | (congr 3; omega) | (congr 4; omega) | (simp only [List.length_append, List.length_cons, List.length_nil, List.length_set]; rfl) | (first | (rw [show bookTo (getE m) (k + 1) = bookTo (getE m) k from by (rw [bookTo_succ, if_pos (by omega), List.append_nil])]; rfl) | (rw [show bookTo (getE m) (k + 1) = bookTo (getE m) k ++ [⟨↑k, x1⟩] from by (rw [bookTo_succ, if_neg (by omega), hx1w]), List.length_append]; rfl)), by first | rfl | (simp only [AV.map, GV.map, CV.map, AB.map', id]; done) | (congr 3; omega) | (congr 4; omega) | (simp only [List.length_append, List.length_cons, List.length_nil, List.length_set]; rfl) | (first | (rw [show bookTo (getE m) (k + 1) = bookTo (getE m) k from by (rw [bookTo_succ, if_pos (by omega), List.append_nil])]; rfl) | (rw [show bookTo (getE m) (k + 1) = bookTo (getE m) k ++ [⟨↑k, x1⟩] from by (rw [bookTo_succ, if_neg (by omega), hx1w]), List.length_append]; rfl)), by first | rfl | (simp only [AV.map, GV.map, CV.map, AB.map', id]; done) | (congr 3; omega) | (congr 4; omega) | (simp only [List.length_append, List.length_cons, List.length_nil, List.length_set]; rfl) | (first | (rw [show bookTo (getE m) (k + 1) = bookTo (getE m) k from by (rw [bookTo_succ, if_pos (by omega), List.append_nil])]; rfl) | (rw [show bookTo (getE m) (k + 1) = bookTo (getE m) k ++ [⟨↑k, x1⟩] from by (rw [bookTo_succ, if_neg (by omega), hx1w]), List.length_append]; rfl)), by first | rfl | (simp only [AV.map, GV.map, CV.map, AB.map', id]; done) | (congr 3; omega) | (congr 4; omega) | (simp only [List.length_append, List.length_cons, List.length_nil, List.length_set]; rfl) | (first | (rw [show bookTo (getE m) (k + 1) = bookTo (getE m) k from by (rw [bookTo_succ, if_pos (by omega), List.append_nil])]; rfl) | (rw [show bookTo (getE m) (k + 1) = bookTo (getE m) k ++ [⟨↑k, x1⟩] from by (rw [bookTo_succ, if_neg (by omega), hx1w]), List.length_append]; rfl)), by first | rfl | (simp only [AV.map, GV.map, CV.map, AB.map', id]; done) | (congr 3; omega) | (congr 4; omega) | (simp only [List.length_append, List.length_cons, List.length_nil, List.length_set]; rfl) | (first | (rw [show bookTo (getE m) (k + 1) = bookTo (getE m) k from by (rw [bookTo_succ, if_pos (by omega), List.append_nil])]; rfl) | (rw [show bookTo (getE m) (k + 1) = bookTo (getE m) k ++ [⟨↑k, x1⟩] from by (rw [bookTo_succ, if_neg (by omega), hx1w]), List.length_append]; rfl)), by first | rfl | (simp only [AV.map, GV.map, CV.map, AB.map', id]; done) | (congr 3; omega) | (congr 4; omega) | (simp only [List.length_append, List.length_cons, List.length_nil, List.length_set]; rfl) | (first | (rw [show bookTo (getE m) (k + 1) = bookTo (getE m) k from by (rw [bookTo_succ, if_pos (by omega), List.append_nil])]; rfl) | (rw [show bookTo (getE m) (k + 1) = bookTo (getE m) k ++ [⟨↑k, x1⟩] from by (rw [bookTo_succ, if_neg (by omega), hx1w]), List.length_append]; rfl)), by first | rfl | (simp only [AV.map, GV.map, CV.map, AB.map', id]; done) | (congr 3; omega) | (congr 4; omega) | (simp only [List.length_append, List.length_cons, List.length_nil, List.length_set]; rfl) | (first | (rw [show bookTo (getE m) (k + 1) = bookTo (getE m) k from by (rw [bookTo_succ, if_pos (by omega), List.append_nil])]; rfl) | (rw [show bookTo (getE m) (k + 1) = bookTo (getE m) k ++ [⟨↑k, x1⟩] from by (rw [bookTo_succ, if_neg (by omega), hx1w]), List.length_append]; rfl)), by first | rfl | (simp only [AV.map, GV.map, CV.map, AB.map', id]; done) | (congr 3; omega) | (congr 4; omega) | (simp only [List.length_append, List.length_cons, List.length_nil, List.length_set]; rfl) | (first | (rw [show bookTo (getE m) (k + 1) = bookTo (getE m) k from by (rw [bookTo_succ, if_pos (by omega), List.append_nil])]; rfl) | (rw [show bookTo (getE m) (k + 1) = bookTo (getE m) k ++ [⟨↑k, x1⟩] from by (rw [bookTo_succ, if_neg (by omega), hx1w]), List.length_append]; rfl)), by first | rfl | (simp only [AV.map, GV.map, CV.map, AB.map', id]; done) | (congr 3; omega) | (congr 4; omega) | (simp only [List.length_append, List.length_cons, List.length_nil, List.length_set]; rfl) | (first | (rw [show bookTo (getE m) (k + 1) = bookTo (getE m) k from by (rw [bookTo_succ, if_pos (by omega), List.append_nil])]; rfl) | (rw [show bookTo (getE m) (k + 1) = bookTo (getE m) k ++ [⟨↑k, x1⟩] from by (rw [bookTo_succ, if_neg (by omega), hx1w]), List.length_append]; rfl)),  trivial⟩) (⟨by first | rfl | (simp only [AV.map, GV.map, CV.map, AB.map', id]; done) | (congr 3; omega) | (congr 4; omega) | (simp only [List.length_append, List.length_cons, List.length_nil, List.length_set]; rfl) | (first | (rw [show bookTo (getE m) (k + 1) = bookTo (getE m) k from by (rw [bookTo_succ, if_pos (by omega), List.append_nil])]; rfl) | (rw [show bookTo (getE m) (k + 1) = bookTo (getE m) k ++ [⟨↑k, x1⟩] from by (rw [bookTo_succ, if_neg (by omega), hx1w])]; rfl)), by first | rfl | (simp only [AV.map, GV.map, CV.map, AB.map', id]; done) | (congr 3; omega) | (congr 4; omega) | (simp only [List.length_append, List.length_cons, List.length_nil, List.length_set]; rfl) | (first | (rw [show bookTo (getE m) (k + 1) = bookTo (getE m) k from by (rw [bookTo_succ, if_pos (by omega), List.append_nil])]; rfl) | (rw [show bookTo (getE m) (k + 1) = bookTo (getE m) k ++ [⟨↑k, x1⟩] from by (rw [bookTo_succ, if_neg (by omega), hx1w])]; rfl)),  trivial⟩) rfl⟩
                        ·
                          have hc15' := hc15; try simp only [sumB, Bool.not_eq_true', Bool.not_eq_false', Bool.or_eq_true, Bool.or_eq_false_iff, Bool.and_eq_true, Bool.and_eq_false_imp, decide_eq_true_eq, decide_eq_false_iff_not, Bool.not_not, Bool.not_true, Bool.not_false] at hc15'
                          refine AC.skip ?_
                          refine block_ok ?_
                          refine then_ok ?_
                          refine AC.region ?_
                          refine AL.val (Wanted.plain rfl) (g_binI rfl rfl rfl (wrap_ok (by first | omega | (simp; done) | (simp; omega) | (exact arrL_len _) | (rw [arrL_len]; omega) | (rw [List.length_set, arrL_len]; omega)))) rfl rfl ?_
                          refine AL.fast 1 rfl ?_
                          refine AL.nil ?_
                          refine then_ok ?_
                          refine ⟨k + 1, by first | omega | trivial, by first | omega | (simp; done) | (simp; omega), Weak.ren id (⟨by first | rfl | (simp only [AV.map, GV.map, CV.map, AB.map', id]; done) | (congr 3; omega) | (congr 4; omega) | (simp only [List.length_append, List.length_cons, List.length_nil, List.length_set]; rfl) | (first | (rw [show bookTo (getE m) (k + 1) = bookTo (getE m) k from by (rw [bookTo_succ, if_pos (by omega), List.append_nil])]; rfl) | (rw [show bookTo (getE m) (k + 1) = bookTo (getE m) k ++ [⟨↑k, x1⟩] from by (rw [bookTo_succ, if_neg (by omega), hx1w]), List.length_append]; rfl)), by first | rfl | (simp only [AV.map, GV.map, CV.map, AB.map', id]; done) | (congr 3; omega) | (congr 4; omega) | (simp only [List.length_append, List.length_cons, List.length_nil, List.length_set]; rfl) | (first | (rw [show bookTo (getE m) (k + 1) = bookTo (getE m) k from by (rw [bookTo_succ, if_pos (by omega), List.append_nil])]; rfl) | (rw [show bookTo (getE m) (k + 1) = bookTo (getE m) k ++ [⟨↑k, x1⟩] from by (rw [bookTo_succ, if_neg (by omega), hx1w]), List.length_append]; rfl)), by first | rfl | (simp only [AV.map, GV.map, CV.map, AB.map', id]; done) | (congr 3; omega) | (congr 4; omega) | (simp only [List.length_append, List.length_cons, List.length_nil, List.length_set]; rfl) | (first | (rw [show bookTo (getE m) (k + 1) = bookTo (getE m) k from by (rw [bookTo_succ, if_pos (by omega), List.append_nil])]; rfl) | (rw [show bookTo (getE m) (k + 1) = bookTo (getE m) k ++ [⟨↑k, x1⟩] from by (rw [bookTo_succ, if_neg (by omega), hx1w]), List.length_append]; rfl)), by first | rfl | (simp only [AV.map, GV.map, CV.map, AB.map', id]; done) | (congr 3; omega) | (congr 4; omega) | (simp only [List.length_append, List.length_cons, List.length_nil, List.length_set]; rfl) | (first | (rw [show bookTo (getE m) (k + 1) = bookTo (getE m) k from by (rw [bookTo_succ, if_pos (by omega), List.append_nil])]; rfl) | (rw [show bookTo (getE m) (k + 1) = bookTo (getE m) k ++ [⟨↑k, x1⟩] from by (rw [bookTo_succ, if_neg (by omega), hx1w]), List.length_append]; rfl)), by first | rfl | (simp only [AV.map, GV.map, CV.map, AB.map', id]; done) | (congr 3; omega) | (congr 4; omega) | (simp only [List.length_append, List.length_cons, List.length_nil, List.length_set]; rfl) | (first | (rw [show bookTo (getE m) (k + 1) = bookTo (getE m) k from by (rw [bookTo_succ, if_pos (by omega), List.append_nil])]; rfl) | (rw [show bookTo (getE m) (k + 1) = bookTo (getE m) k ++ [⟨↑k, x1⟩] from by (rw [bookTo_succ, if_neg (by omega), hx1w]), List.length_append]; rfl)), by first | rfl | (simp only [AV.map, GV.map, CV.map, AB.map', id]; done) | (congr 3; omega) | (congr 4; omega) | (simp only [List.length_append, List.length_cons, List.length_nil, List.length_set]; rfl) | (first | (rw [show bookTo (getE m) (k + 1) = bookTo (getE m) k from by (rw [bookTo_succ, if_pos (by omega), List.append_nil])]; rfl) | (rw [show bookTo (getE m) (k + 1) = bookTo (getE m) k ++ [⟨↑k, x1⟩] from by (rw [bookTo_succ, if_neg (by omega), hx1w]), List.length_append]; rfl)), by first | rfl | (simp only [AV.map, GV.map, CV.map, AB.map', id]; done) | (congr 3; omega) | (congr 4; omega) | (simp only [List.length_append, List.length_cons, List.length_nil, List.length_set]; rfl) | (first | (rw [show bookTo (getE m) (k + 1) = bookTo (getE m) k from by (rw [bookTo_succ, if_pos (by omega), List.append_nil])]; rfl) | (rw [show bookTo (getE m) (k + 1) = bookTo (getE m) k ++ [⟨↑k, x1⟩] from by (rw [bookTo_succ, if_neg (by omega), hx1w]), List.length_append]; rfl)), by first | rfl | (simp only [AV.map, GV.map, CV.map, AB.map', id]; done) | (congr 3; omega) | (congr 4; omega) | (simp only [List.length_append, List.length_cons, List.length_nil, List.length_set]; rfl) | (first | (rw [show bookTo (getE m) (k + 1) = bookTo (getE m) k from by (rw [bookTo_succ, if_pos (by omega), List.append_nil])]; rfl) | (rw [show bookTo (getE m) (k + 1) = bookTo (getE m) k ++ [⟨↑k, x1⟩] from by (rw [bookTo_succ, if_neg (by omega), hx1w]), List.length_append]; rfl)), by first | rfl | (simp only [AV.map, GV.map, CV.map, AB.map', id]; done) | (congr 3; omega) | (congr 4; omega) | (simp only [List.length_append, List.length_cons, List.length_nil, List.length_set]; rfl) | (first | (rw [show bookTo (getE m) (k + 1) = bookTo (getE m) k from by (rw [bookTo_succ, if_pos (by omega), List.append_nil])]; rfl) | (rw [show bookTo (getE m) (k + 1) = bookTo (getE m) k ++ [⟨↑k, x1⟩] from by (rw [bookTo_succ, if_neg (by omega), hx1w]), List.length_append]; rfl)), by first | rfl | (simp only [AV.map, GV.map, CV.map, AB.map', id]; done) | (congr 3; omega) | (congr 4; omega) | (simp only [List.length_append, List.length_cons, List.length_nil, List.length_set]; rfl) | (first | (rw [show bookTo (getE m) (k + 1) = bookTo (getE m) k from by (rw [bookTo_succ, if_pos (by omega), List.append_nil])]; rfl) | (rw [show bookTo (getE m) (k + 1) = bookTo (getE m) k ++ [⟨↑k, x1⟩] from by (rw [bookTo_succ, if_neg (by omega), hx1w]), List.length_append]; rfl)), by first | rfl | (simp only [AV.map, GV.map, CV.map, AB.map', id]; done) | (congr 3; omega) | (congr 4; omega) | (simp only [List.length_append, List.length_cons, List.length_nil, List.length_set]; rfl) | (first | (rw [show bookTo (getE m) (k + 1) = bookTo (getE m) k from by (rw [bookTo_succ, if_pos (by omega), List.append_nil])]; rfl) | (rw [show bookTo (getE m) (k + 1) = bookTo (getE m) k ++ [⟨↑k, x1⟩] from by (rw [bookTo_succ, if_neg (by omega), hx1w]), List.length_append]; rfl)), by first | rfl | (simp only [AV.map, GV.map, CV.map, AB.map', id]; done) | (congr 3; omega) | (congr 4; omega) | (simp only [List.length_append, List.length_cons, List.length_nil, List.length_set]; rfl) | (first | (rw [show bookTo (getE m) (k + 1) = bookTo (getE m) k from by (rw [bookTo_succ, if_pos (by omega), List.append_nil])]; rfl) | (rw [show bookTo (getE m) (k + 1) = bookTo (getE m) k ++ [⟨↑k, x1⟩] from by (rw [bookTo_succ, if_neg (by omega), hx1w]), List.length_append]; rfl)), by first | rfl | (simp only [AV.map, GV.map, CV.map, AB.map', id]; done) | (congr 3; omega) | (congr 4; omega) | (simp only [List.length_append, List.length_cons, List.length_nil, List.length_set]; rfl) | (first | (rw [show bookTo (getE m) (k + 1) = bookTo (getE m) k from by (rw [bookTo_succ, if_pos (by omega), List.append_nil])]; rfl) | (rw [show bookTo (getE m) (k + 1) = bookTo (getE m) k ++ [⟨↑k, x1⟩] from by (rw [bookTo_succ, if_neg (by omega), hx1w]), List.length_append]; rfl)), by first | rfl | (simp only [AV.map, GV.map, CV.map, AB.map', id]; done) | (congr 3; omega) | (congr 4; omega) | (simp only [List.length_append, List.length_cons, List.length_nil, List.length_set]; rfl) | (first | (rw [show bookTo (getE m) (k + 1) = bookTo (getE m) k from by (rw [bookTo_succ, if_pos (by omega), List.append_nil])]; rfl) | (rw [show bookTo (getE m) (k + 1) = bookTo (getE m) k ++ [⟨↑k, x1⟩] from by (rw [bookTo_succ, if_neg (by omega), hx1w]), List.length_append]; rfl)), by first | rfl | (simp only [AV.map, GV.map, CV.map, AB.map', id]; done) | (congr 3; omega) | (congr 4; omega) | (simp only [List.length_append, List.length_cons, List.length_nil, List.length_set]; rfl) | (first | (rw [show bookTo (getE m) (k + 1) = bookTo (getE m) k from by (rw [bookTo_succ, if_pos (by omega), List.append_nil])]; rfl) | (rw [show bookTo (getE m) (k + 1) = bookTo (getE m) k ++ [⟨↑k, x1⟩] from by (rw [bookTo_succ, if_neg (by omega), hx1w]), List.length_append]; rfl)), by first | rfl | (simp only [AV.map, GV.map, CV.map, AB.map', id]; done) | (congr 3; omega) | (congr 4; omega) | (simp only [List.length_append, List.length_cons, List.length_nil, List.length_set]; rfl) | (first | (rw [show bookTo (getE m) (k + 1) = bookTo (getE m) k from by (rw [bookTo_succ, if_pos (by omega), List.append_nil])]; rfl) | (rw [show bookTo (getE m) (k + 1) = bookTo (getE m) k ++ [⟨↑k, x1⟩] from by (rw [bookTo_succ, if_neg (by omega), hx1w]), List.length_append]; rfl)),  trivial⟩) (⟨by first | rfl | (simp only [AV.map, GV.map, CV.map, AB.map', id]; done) | (congr 3; omega) | (congr 4; omega) | (simp only [List.length_append, List.length_cons, List.length_nil, List.length_set]; rfl) | (first | (rw [show bookTo (getE m) (k + 1) = bookTo (getE m) k from by (rw [bookTo_succ, if_pos (by omega), List.append_nil])]; rfl) | (rw [show bookTo (getE m) (k + 1) = bookTo (getE m) k ++ [⟨↑k, x1⟩] from by (rw [bookTo_succ, if_neg (by omega), hx1w])]; rfl)), by first | rfl | (simp only [AV.map, GV.map, CV.map, AB.map', id]; done) | (congr 3; omega) | (congr 4; omega) | (simp only [List.length_append, List.length_cons, List.length_nil, List.length_set]; rfl) | (first | (rw [show bookTo (getE m) (k + 1) = bookTo (getE m) k from by (rw [bookTo_succ, if_pos (by omega), List.append_nil])]; rfl) | (rw [show bookTo (getE m) (k + 1) = bookTo (getE m) k ++ [⟨↑k, x1⟩] from by (rw [bookTo_succ, if_neg (by omega), hx1w])]; rfl)),  trivial⟩) rfl⟩
                      ·
                        have hc14' := hc14; try simp only [sumB, Bool.not_eq_true', Bool.not_eq_false', Bool.or_eq_true, Bool.or_eq_false_iff, Bool.and_eq_true, Bool.and_eq_false_imp, decide_eq_true_eq, decide_eq_false_iff_not, Bool.not_not, Bool.not_true, Bool.not_false] at hc14'
                        refine AC.exit ?_
                        refine then_exit ?_
                        refine then_exit ?_
                        refine block_hit ?_
                        refine then_ok ?_
                        refine AC.seq ?_
                        refine AC.region ?_
                        refine AL.fast 3 rfl ?_
                        refine AL.nil ?_
                        refine then_ok ?_
                        refine AC.ret ?_
                        have hX : postB l es = (bookTo (getE m) k, 0) := by
                          (obtain rfl : k = 58 := by omega); rw [postB_go h0 (by omega) hnb (by omega), put_end hi2_2 (by omega), right_book hi2_1]
                        rw [hX] at hr; clear hX
                        simp only [Prod.mk.injEq] at hr; obtain ⟨rfl, rfl⟩ := hr
                        refine retQ_mk (av' := outOf [(.c (.s 0 0 2 ((bookTo (getE m) k).length))), (.c (cI 0))]) (nb' := [(0, (.arr 111 2 ((bookTo (getE m) k).map rEntry)))]) (retQ_ret ⟨[(4, (aC (.s 0 0 2 ((bookTo (getE m) k).length)))), (5, (aI 0))], [(0, (.arr 111 2 ((bookTo (getE m) k).map rEntry)))], 1⟩ [.tmp 4, .tmp 5] [(.c (.s 0 0 2 ((bookTo (getE m) k).length))), (.c (cI 0))] (Weak.ren (fun k => if k = 0 then 1 else k) (⟨by first | rfl | (simp only [AV.map, GV.map, CV.map, AB.map', id]; done) | (congr 3; omega) | (congr 4; omega) | (simp only [List.length_append, List.length_cons, List.length_nil, List.length_set]; rfl), by first | rfl | (simp only [AV.map, GV.map, CV.map, AB.map', id]; done) | (congr 3; omega) | (congr 4; omega) | (simp only [List.length_append, List.length_cons, List.length_nil, List.length_set]; rfl),  trivial⟩) (⟨by first | rfl | (simp only [AV.map, GV.map, CV.map, AB.map', id]; done) | (congr 3; omega) | (congr 4; omega) | (simp only [List.length_append, List.length_cons, List.length_nil, List.length_set]; rfl),  trivial⟩) rfl) rfl ⟨.tmp rfl, .tmp rfl, trivial⟩ ⟨by first | rfl | (simp only [AV.map, GV.map, CV.map, AB.map', id]; done) | (congr 3; omega) | (congr 4; omega) | (simp only [List.length_append, List.length_cons, List.length_nil, List.length_set]; rfl),  trivial⟩) ?_ ?_
                        · first | rfl | (simp [outOf, aC]; done) | (simp [outOf, aC]; omega)
                        · first | rfl | (simp; done) | (simp; omega)
end Go.Proofs.Ytgmcdlfmifijlaa.Dev
