/- post.Back, payref1.Back. -/
import Derived.Test.YtgmcdlfmifijlaaDPost2
set_option linter.unusedVariables false
set_option linter.unusedSimpArgs false
namespace Go.Proofs.Ytgmcdlfmifijlaa.Dev
open Go.RowKit

set_option maxRecDepth 100000 in
set_option maxHeartbeats 1000000 in
theorem c_Back1 (t : Transfer) (seen : Int) : Fn Try.prog 110 [(.g [(cI t.number), (cI t.kind), (cI t.auth), (cI t.sum)]), (.c (.q ([dI seen]) 0))] (aB (came seen t)) [] := by
  refine Fn.mk' 8 [(0, (aG [(cI t.number), (cI t.kind), (cI t.auth), (cI t.sum)])), (1, (aC (.q ([dI seen]) 0)))] Try.func110 rfl rfl rfl rfl ?_
  intro W0 T0
  refine AC.seq ?_
  refine AC.region ?_
  refine AL.new (n' := 1) (Wanted.plain rfl) (g_boxS 0 rfl rfl) rfl rfl rfl ?_
  refine AL.fast 1 rfl ?_
  refine AL.nil ?_
  refine then_ok ?_
  refine AC.seq ?_
  refine AC.region ?_
  refine AL.val (Wanted.plain rfl) (g_fieldP rfl rfl Try.underlying60 rfl sz3 (by decide)) rfl rfl ?_
  refine AL.val (Wanted.plain rfl) (g_loadB rfl rfl rfl Try.underlying3 rfl rfl) rfl rfl ?_
  refine AL.val (Wanted.plain rfl) (g_loadQ rfl rfl Try.underlying3 rfl rfl) rfl rfl ?_
  refine AL.val (Wanted.plain rfl) (g_binI rfl rfl rfl rfl) rfl rfl ?_
  refine AL.fast 1 rfl ?_
  refine AL.nil ?_
  refine then_ok ?_
  refine AC.ret ?_
  refine retQ_mk (av' := outOf [(.c (cB (decide (t.number ≤ seen))))]) (nb' := []) (retQ_ret ⟨[(3, (aB (decide (t.number ≤ seen))))], [], 0⟩ [.tmp 3] [(.c (cB (decide (t.number ≤ seen))))] (Weak.ren id (⟨by first | rfl | (simp only [AV.map, GV.map, CV.map, AB.map', id]; done) | (congr 3; omega) | (congr 4; omega) | (simp only [List.length_append, List.length_cons, List.length_nil, List.length_set]; rfl),  trivial⟩) (trivial) rfl) rfl ⟨.tmp rfl, trivial⟩ trivial) ?_ ?_
  · first | rfl | (simp [outOf, aC]; done) | (simp [outOf, aC]; omega)
  · rfl
set_option maxRecDepth 100000 in
set_option maxHeartbeats 1000000 in
theorem c_post_Back (s : Sender) (seen : Int) (hI : ∀ t ∈ s.kept, InI t.number) (x : Sender) (e : Int) (hr : backS s seen = (x, e)) : Fn Try.prog 53 [(.g [(cI s.sent), (cR 4 ((s.kept).map rTransfer))]), (.c (cI seen))] (.t [(.g [(cI x.sent), (.s 0 0 4 x.kept.length)]), (.c (cI e))]) [(0, (.arr 60 4 ((x.kept).map rTransfer)))] := by
  refine Fn.mk' 32 [(0, (aG [(cI s.sent), (cR 4 ((s.kept).map rTransfer))])), (1, (aI seen))] Try.func53 rfl rfl rfl rfl ?_
  intro W0 T0
  refine AC.lenG 0 1 rfl rfl (fun hlen0_1 => ?_)
  have hrs := @wrongS_iff s
  refine AC.seq ?_
  refine AC.region ?_
  refine AL.new (n' := 1) (Wanted.plain rfl) (g_boxS 0 rfl rfl) rfl rfl rfl ?_
  refine AL.new (n' := 2) (Wanted.plain rfl) (g_box1 1 rfl rfl rfl) rfl rfl rfl ?_
  refine AL.new (n' := 3) (Wanted.plain rfl) (g_alloc 2 rfl zv58 rfl rfl rfl) rfl rfl rfl ?_
  refine AL.fast 1 rfl ?_
  refine AL.nil ?_
  refine then_ok ?_
  refine AC.seq ?_
  refine AC.seq ?_
  refine AC.region ?_
  refine AL.val (Wanted.plain rfl) (g_loadBs rfl rfl rfl Try.underlying58 rfl sz58 rfl rfl) rfl rfl ?_
  obtain ⟨f0, hr0⟩ : ∃ (f0 : Fault), wrongSF s = f0 := ⟨_, rfl⟩
  have hq0 : (wrongSF s).err = f0.err := by rw [hr0]
  refine AL.call (n' := 3) (h' := [(2, (.box 58 [(cI 0), cN])), (1, (.box 3 [(cI seen)])), (0, (.box 58 [(cI s.sent), (cR 4 ((s.kept).map rTransfer))]))]) (Wanted.plain rfl) (g_call 3 (c_post_Wrong s (by first | assumption | exact inI_out (by assumption) (by omega) | exact inI_back (by assumption) (by assumption) | (simp [InI]; done)) f0 hr0) en48 rfl rfl ⟨⟨_, rfl, .g ⟨.d _, .d _,  trivial⟩⟩,  trivial⟩ ⟨trivial, trivial,  trivial⟩ trivial rfl rfl rfl rfl) rfl rfl rfl rfl rfl ?_
  refine AL.new (n' := 4) (Wanted.plain rfl) (g_alloc 3 rfl zv47 rfl rfl rfl) rfl rfl rfl ?_
  refine AL.sto (h' := [(3, (.box 47 [(cI f0.err), (cI f0.at_)])), (2, (.box 58 [(cI 0), cN])), (1, (.box 3 [(cI seen)])), (0, (.box 58 [(cI s.sent), (cR 4 ((s.kept).map rTransfer))]))]) (Wanted.plain rfl) (g_storeB rfl rfl rfl rfl rfl sz47 rfl (Nat.le_of_ble_eq_true rfl) rfl) rfl rfl rfl rfl ?_
  refine AL.nil ?_
  refine then_ok ?_
  refine AC.seq ?_
  refine AC.region ?_
  refine AL.val (Wanted.plain rfl) (g_fieldP rfl rfl Try.underlying47 rfl sz27 (by decide)) rfl rfl ?_
  refine AL.val (Wanted.plain rfl) (g_loadB rfl rfl rfl Try.underlying27 rfl rfl) rfl rfl ?_
  refine AL.val (Wanted.plain rfl) (g_binI rfl rfl rfl rfl) rfl rfl ?_
  refine AL.nil ?_
  refine then_ok ?_
  refine AC.cond rfl (fun hc1 => ?_) (fun hc1 => ?_)
  ·
    have hc1' := hc1; try simp only [sumB, Bool.not_eq_true', Bool.not_eq_false', Bool.or_eq_true, Bool.or_eq_false_iff, Bool.and_eq_true, Bool.and_eq_false_imp, decide_eq_true_eq, decide_eq_false_iff_not, Bool.not_not, Bool.not_true, Bool.not_false] at hc1'
    refine AC.seq ?_
    refine AC.weak (st' := ⟨[(2, (aC (.p 0 0 0 0))), (3, (aC (.p 1 0 0 0))), (4, (aC (.p 2 0 0 0))), (6, (aC (.p 3 0 0 0)))], [(3, (.box 47 [(cI f0.err), (cI f0.at_)])), (2, (.box 58 [(cI 0), cN])), (1, (.box 3 [(cI seen)])), (0, (.box 58 [(cI s.sent), (cR 4 ((s.kept).map rTransfer))]))], 4⟩) (Weak.ren id (⟨by first | rfl | (simp only [AV.map, GV.map, CV.map, AB.map', id]; done) | (congr 3; omega) | (congr 4; omega) | (simp only [List.length_append, List.length_cons, List.length_nil, List.length_set]; rfl), by first | rfl | (simp only [AV.map, GV.map, CV.map, AB.map', id]; done) | (congr 3; omega) | (congr 4; omega) | (simp only [List.length_append, List.length_cons, List.length_nil, List.length_set]; rfl), by first | rfl | (simp only [AV.map, GV.map, CV.map, AB.map', id]; done) | (congr 3; omega) | (congr 4; omega) | (simp only [List.length_append, List.length_cons, List.length_nil, List.length_set]; rfl), by first | rfl | (simp only [AV.map, GV.map, CV.map, AB.map', id]; done) | (congr 3; omega) | (congr 4; omega) | (simp only [List.length_append, List.length_cons, List.length_nil, List.length_set]; rfl),  trivial⟩) (⟨by first | rfl | (simp only [AV.map, GV.map, CV.map, AB.map', id]; done) | (congr 3; omega) | (congr 4; omega) | (simp only [List.length_append, List.length_cons, List.length_nil, List.length_set]; rfl), by first | rfl | (simp only [AV.map, GV.map, CV.map, AB.map', id]; done) | (congr 3; omega) | (congr 4; omega) | (simp only [List.length_append, List.length_cons, List.length_nil, List.length_set]; rfl), by first | rfl | (simp only [AV.map, GV.map, CV.map, AB.map', id]; done) | (congr 3; omega) | (congr 4; omega) | (simp only [List.length_append, List.length_cons, List.length_nil, List.length_set]; rfl), by first | rfl | (simp only [AV.map, GV.map, CV.map, AB.map', id]; done) | (congr 3; omega) | (congr 4; omega) | (simp only [List.length_append, List.length_cons, List.length_nil, List.length_set]; rfl),  trivial⟩) rfl) ?_
    refine AC.drawW [⟨some 12, (aG [(cI 0), cN]), [], [], [], [], []⟩,
      ⟨some 13, (aC (.p 3 0 0 0)), [], [], [], [(6, (aC (.p 3 0 0 0)))], []⟩,
      ⟨some 14, (aI f0.err), [], [], [1], [(13, (aC (.p 3 0 0 0)))], [(3, (.box 47 [(cI f0.err), (cI f0.at_)]))]⟩,
      ⟨none, (.v (.c .any)), [(2, (.box 58 [(cI 0), cN]))], [2], [0], [(4, (aC (.p 2 0 0 0))), (12, (aG [(cI 0), cN]))], [(2, (.box 58 [(cI 0), cN]))]⟩,
      ⟨some 5, (aI f0.err), [], [], [2], [(14, (aI f0.err))], []⟩] ⟨[(2, (aC (.p 0 0 0 0))), (3, (aC (.p 1 0 0 0))), (4, (aC (.p 2 0 0 0))), (5, (aI f0.err))], [(2, (.box 58 [(cI 0), cN])), (1, (.box 3 [(cI seen)])), (0, (.box 58 [(cI s.sent), (cR 4 ((s.kept).map rTransfer))]))], 4⟩ [4, 3, 2, 1, 0] mixed (by kernel_rfl) ?_ ?_ ?_ ?_
    · exact ⟨.inl ⟨(Wanted.plain rfl), GOp.cast (g_build (ys := []) rfl bld58 rfl trivial rfl rfl) rfl⟩,
      .inl ⟨(Wanted.plain rfl), GOp.cast (g_fieldP rfl rfl Try.underlying47 rfl sz27 (by decide)) rfl⟩,
      .inl ⟨(Wanted.plain rfl), GOp.cast (g_loadB rfl rfl rfl Try.underlying27 rfl rfl) rfl⟩,
      .inl ⟨(Wanted.plain rfl), GOp.cast (g_storeB rfl rfl rfl rfl rfl sz58 rfl (Nat.le_of_ble_eq_true rfl) rfl) rfl⟩,
      .inl ⟨(Wanted.plain rfl), GOp.cast (g_assign rfl rfl) rfl⟩,
       trivial⟩
    · exact ⟨⟨trivial, trivial⟩, ⟨⟨rfl,  trivial⟩, trivial⟩, ⟨⟨⟨_, rfl, rfl, rfl⟩,  trivial⟩, ⟨rfl,  trivial⟩⟩, ⟨⟨rfl, ⟨_, rfl, rfl, rfl⟩,  trivial⟩, ⟨rfl,  trivial⟩⟩, ⟨⟨⟨_, rfl, rfl, rfl⟩,  trivial⟩, trivial⟩,  trivial⟩
    · exact ⟨⟨rfl, rfl, rfl, ⟨_, rfl, rfl, rfl⟩,  trivial⟩, ⟨⟨_, rfl, .head _⟩, rfl, rfl,  trivial⟩⟩
    ·
      refine then_ok ?_
      refine AC.ret ?_
      refine then_ret ?_
      refine retQ_weak (Weak.nilB (n' := 5) (h' := [(4, (.arr 60 4 ((([] : List Transfer)).map rTransfer))), (2, (.box 58 [(cI 0), (.s 4 0 4 0)])), (1, (.box 3 [(cI seen)])), (0, (.box 58 [(cI s.sent), (cR 4 ((s.kept).map rTransfer))]))]) 2 1 60 4 58 (by decide) rfl rfl rfl rfl rfl) ?_
      have hX : backS s seen = ((⟨0, ([] : List Transfer)⟩ : Sender), f0.err) := by
        unfold backS; rw [if_pos (by omega), hr0]; rfl
      rw [hX] at hr; clear hX
      simp only [Prod.mk.injEq] at hr; obtain ⟨rfl, rfl⟩ := hr
      refine retQ_mk (av' := outOf [(.g [(cI 0), (.s 0 0 4 0)]), (.c (cI f0.err))]) (nb' := [(0, (.arr 60 4 ((([] : List Transfer)).map rTransfer)))]) (retQ_ret ⟨[(4, (aC (.p 1 0 0 0))), (5, (aI f0.err))], [(0, (.arr 60 4 ((([] : List Transfer)).map rTransfer))), (1, (.box 58 [(cI 0), (.s 0 0 4 0)]))], 2⟩ [.cell 4 58, .tmp 5] [(.g [(cI 0), (.s 0 0 4 0)]), (.c (cI f0.err))] (Weak.ren (fun k => if k = 0 then 4 else if k = 1 then 2 else k) (⟨by first | rfl | (simp only [AV.map, GV.map, CV.map, AB.map', id]; done) | (congr 3; omega) | (congr 4; omega) | (simp only [List.length_append, List.length_cons, List.length_nil, List.length_set]; rfl), by first | rfl | (simp only [AV.map, GV.map, CV.map, AB.map', id]; done) | (congr 3; omega) | (congr 4; omega) | (simp only [List.length_append, List.length_cons, List.length_nil, List.length_set]; rfl),  trivial⟩) (⟨by first | rfl | (simp only [AV.map, GV.map, CV.map, AB.map', id]; done) | (congr 3; omega) | (congr 4; omega) | (simp only [List.length_append, List.length_cons, List.length_nil, List.length_set]; rfl), by first | rfl | (simp only [AV.map, GV.map, CV.map, AB.map', id]; done) | (congr 3; omega) | (congr 4; omega) | (simp only [List.length_append, List.length_cons, List.length_nil, List.length_set]; rfl),  trivial⟩) rfl) rfl ⟨.agg rfl rfl (fun _ => run_isAgg Try.underlying58) sz58, .tmp rfl, trivial⟩ ⟨by first | rfl | (simp only [AV.map, GV.map, CV.map, AB.map', id]; done) | (congr 3; omega) | (congr 4; omega) | (simp only [List.length_append, List.length_cons, List.length_nil, List.length_set]; rfl),  trivial⟩) ?_ ?_
      · first | rfl | (simp [outOf, aC]; done) | (simp [outOf, aC]; omega)
      · first | rfl | (simp; done) | (simp; omega)
  ·
    have hc1' := hc1; try simp only [sumB, Bool.not_eq_true', Bool.not_eq_false', Bool.or_eq_true, Bool.or_eq_false_iff, Bool.and_eq_true, Bool.and_eq_false_imp, decide_eq_true_eq, decide_eq_false_iff_not, Bool.not_not, Bool.not_true, Bool.not_false] at hc1'
    refine AC.skip ?_
    refine then_ok ?_
    refine AC.seq ?_
    refine AC.cutB 22 ((decide (seen < 0)) || (decide (seen > s.sent))) ?_ ?_
    ·
      refine AC.region ?_
      refine AL.val (Wanted.plain rfl) (g_loadB rfl rfl rfl Try.underlying3 rfl rfl) rfl rfl ?_
      refine AL.val (Wanted.plain rfl) (g_binI rfl rfl rfl rfl) rfl rfl ?_
      refine AL.fast 1 rfl ?_
      refine AL.dec (t := 17) rfl (fun hb2 => ?_) (fun hb2 => ?_)
      ·
        have hb2' := hb2; try simp only [sumB, Bool.not_eq_true', Bool.not_eq_false', Bool.or_eq_true, Bool.or_eq_false_iff, Bool.and_eq_true, Bool.and_eq_false_imp, decide_eq_true_eq, decide_eq_false_iff_not, Bool.not_not, Bool.not_true, Bool.not_false] at hb2'
        refine AL.fast 5 rfl ?_
        refine AL.nil ?_
        refine then_ok ?_
        exact Weak.popB 9 rfl rfl (by first | (simp [hb2]; done) | (simp_all; done) | (exfalso; simp_all; done) | (simp_all; omega)) rfl
      ·
        have hb2' := hb2; try simp only [sumB, Bool.not_eq_true', Bool.not_eq_false', Bool.or_eq_true, Bool.or_eq_false_iff, Bool.and_eq_true, Bool.and_eq_false_imp, decide_eq_true_eq, decide_eq_false_iff_not, Bool.not_not, Bool.not_true, Bool.not_false] at hb2'
        refine AL.val (Wanted.yes rfl rfl rfl) (g_loadB rfl rfl rfl Try.underlying3 rfl rfl) rfl rfl ?_
        refine AL.val (Wanted.yes rfl rfl rfl) (g_fieldP rfl rfl Try.underlying58 rfl sz3 (by decide)) rfl rfl ?_
        refine AL.val (Wanted.yes rfl rfl rfl) (g_loadB rfl rfl rfl Try.underlying3 rfl rfl) rfl rfl ?_
        refine AL.val (Wanted.yes rfl rfl rfl) (g_binI rfl rfl rfl rfl) rfl rfl ?_
        refine AL.fast 1 rfl ?_
        refine AL.nil ?_
        refine then_ok ?_
        exact Weak.popB 9 rfl rfl (by first | (simp [hb2]; done) | (simp_all; done) | (exfalso; simp_all; done) | (simp_all; omega)) rfl
    ·
      refine AC.cond rfl (fun hc3 => ?_) (fun hc3 => ?_)
      ·
        have hc3' := hc3; try simp only [sumB, Bool.not_eq_true', Bool.not_eq_false', Bool.or_eq_true, Bool.or_eq_false_iff, Bool.and_eq_true, Bool.and_eq_false_imp, decide_eq_true_eq, decide_eq_false_iff_not, Bool.not_not, Bool.not_true, Bool.not_false] at hc3'
        refine AC.seq ?_
        refine AC.region ?_
        refine AL.val (Wanted.plain rfl) (g_build (ys := []) rfl bld58 rfl trivial rfl rfl) rfl rfl ?_
        refine AL.sto (h' := [(3, (.box 47 [(cI f0.err), (cI f0.at_)])), (2, (.box 58 [(cI 0), cN])), (1, (.box 3 [(cI seen)])), (0, (.box 58 [(cI s.sent), (cR 4 ((s.kept).map rTransfer))]))]) (Wanted.plain rfl) (g_storeB rfl rfl rfl rfl rfl sz58 rfl (Nat.le_of_ble_eq_true rfl) rfl) rfl rfl rfl rfl ?_
        refine AL.fast 1 rfl ?_
        refine AL.nil ?_
        refine then_ok ?_
        refine AC.ret ?_
        refine then_ret ?_
        refine retQ_weak (Weak.nilB (n' := 5) (h' := [(4, (.arr 60 4 ((([] : List Transfer)).map rTransfer))), (3, (.box 47 [(cI f0.err), (cI f0.at_)])), (2, (.box 58 [(cI 0), (.s 4 0 4 0)])), (1, (.box 3 [(cI seen)])), (0, (.box 58 [(cI s.sent), (cR 4 ((s.kept).map rTransfer))]))]) 2 1 60 4 58 (by decide) rfl rfl rfl rfl rfl) ?_
        have hX : backS s seen = ((⟨0, ([] : List Transfer)⟩ : Sender), 3) := by
          unfold backS; rw [if_neg (by omega), if_pos (by omega)]; rfl
        rw [hX] at hr; clear hX
        simp only [Prod.mk.injEq] at hr; obtain ⟨rfl, rfl⟩ := hr
        refine retQ_mk (av' := outOf [(.g [(cI 0), (.s 0 0 4 0)]), (.c (cI 3))]) (nb' := [(0, (.arr 60 4 ((([] : List Transfer)).map rTransfer)))]) (retQ_ret ⟨[(4, (aC (.p 1 0 0 0))), (5, (aI 3))], [(0, (.arr 60 4 ((([] : List Transfer)).map rTransfer))), (1, (.box 58 [(cI 0), (.s 0 0 4 0)]))], 2⟩ [.cell 4 58, .tmp 5] [(.g [(cI 0), (.s 0 0 4 0)]), (.c (cI 3))] (Weak.ren (fun k => if k = 0 then 4 else if k = 1 then 2 else k) (⟨by first | rfl | (simp only [AV.map, GV.map, CV.map, AB.map', id]; done) | (congr 3; omega) | (congr 4; omega) | (simp only [List.length_append, List.length_cons, List.length_nil, List.length_set]; rfl), by first | rfl | (simp only [AV.map, GV.map, CV.map, AB.map', id]; done) | (congr 3; omega) | (congr 4; omega) | (simp only [List.length_append, List.length_cons, List.length_nil, List.length_set]; rfl),  trivial⟩) (⟨by first | rfl | (simp only [AV.map, GV.map, CV.map, AB.map', id]; done) | (congr 3; omega) | (congr 4; omega) | (simp only [List.length_append, List.length_cons, List.length_nil, List.length_set]; rfl), by first | rfl | (simp only [AV.map, GV.map, CV.map, AB.map', id]; done) | (congr 3; omega) | (congr 4; omega) | (simp only [List.length_append, List.length_cons, List.length_nil, List.length_set]; rfl),  trivial⟩) rfl) rfl ⟨.agg rfl rfl (fun _ => run_isAgg Try.underlying58) sz58, .tmp rfl, trivial⟩ ⟨by first | rfl | (simp only [AV.map, GV.map, CV.map, AB.map', id]; done) | (congr 3; omega) | (congr 4; omega) | (simp only [List.length_append, List.length_cons, List.length_nil, List.length_set]; rfl),  trivial⟩) ?_ ?_
        · first | rfl | (simp [outOf, aC]; done) | (simp [outOf, aC]; omega)
        · first | rfl | (simp; done) | (simp; omega)
      ·
        have hc3' := hc3; try simp only [sumB, Bool.not_eq_true', Bool.not_eq_false', Bool.or_eq_true, Bool.or_eq_false_iff, Bool.and_eq_true, Bool.and_eq_false_imp, decide_eq_true_eq, decide_eq_false_iff_not, Bool.not_not, Bool.not_true, Bool.not_false] at hc3'
        refine AC.skip ?_
        refine then_ok ?_
        refine AC.seq ?_
        obtain ⟨r1, hr1⟩ : ∃ (r1 : List Transfer), keepL (came seen) s.kept = r1 := ⟨_, rfl⟩
        refine AC.weak (st' := ⟨[(2, (aC (.p 0 0 0 0))), (3, (aC (.p 1 0 0 0))), (4, (aC (.p 2 0 0 0)))], [(2, (.box 58 [(cI 0), cN])), (1, (.box 3 [(cI seen)])), (0, (.box 58 [(cI s.sent), (cR 4 ((s.kept).map rTransfer))]))], 4⟩) (Weak.ren id (⟨by first | rfl | (simp only [AV.map, GV.map, CV.map, AB.map', id]; done) | (congr 3; omega) | (congr 4; omega) | (simp only [List.length_append, List.length_cons, List.length_nil, List.length_set]; rfl), by first | rfl | (simp only [AV.map, GV.map, CV.map, AB.map', id]; done) | (congr 3; omega) | (congr 4; omega) | (simp only [List.length_append, List.length_cons, List.length_nil, List.length_set]; rfl), by first | rfl | (simp only [AV.map, GV.map, CV.map, AB.map', id]; done) | (congr 3; omega) | (congr 4; omega) | (simp only [List.length_append, List.length_cons, List.length_nil, List.length_set]; rfl),  trivial⟩) (⟨by first | rfl | (simp only [AV.map, GV.map, CV.map, AB.map', id]; done) | (congr 3; omega) | (congr 4; omega) | (simp only [List.length_append, List.length_cons, List.length_nil, List.length_set]; rfl), by first | rfl | (simp only [AV.map, GV.map, CV.map, AB.map', id]; done) | (congr 3; omega) | (congr 4; omega) | (simp only [List.length_append, List.length_cons, List.length_nil, List.length_set]; rfl), by first | rfl | (simp only [AV.map, GV.map, CV.map, AB.map', id]; done) | (congr 3; omega) | (congr 4; omega) | (simp only [List.length_append, List.length_cons, List.length_nil, List.length_set]; rfl),  trivial⟩) rfl) ?_
        refine AC.draw [⟨some 24, (aC (.p 0 0 0 0)), [], [], [], [(2, (aC (.p 0 0 0 0)))], [(0, (.box 58 [(cI s.sent), (cR 4 ((s.kept).map rTransfer))]))]⟩,
      ⟨some 25, (aI s.sent), [], [], [0], [(24, (aC (.p 0 0 0 0)))], [(0, (.box 58 [(cI s.sent), (cR 4 ((s.kept).map rTransfer))]))]⟩,
      ⟨some 26, (aC (.p 0 0 0 1)), [], [], [], [(2, (aC (.p 0 0 0 0)))], [(0, (.box 58 [(cI s.sent), (cR 4 ((s.kept).map rTransfer))]))]⟩,
      ⟨some 27, (aC (cR 4 ((s.kept).map rTransfer))), [], [], [2], [(26, (aC (.p 0 0 0 1)))], [(0, (.box 58 [(cI s.sent), (cR 4 ((s.kept).map rTransfer))]))]⟩,
      ⟨some 28, (aC (.s 4 0 4 s.kept.length)), [(4, (.arr 60 4 ((s.kept).map rTransfer)))], [], [3], [(27, (aC (cR 4 ((s.kept).map rTransfer))))], []⟩,
      ⟨some 29, (aC (.fn 110 [1])), [], [], [], [(3, (aC (.p 1 0 0 0)))], [(1, (.box 3 [(cI seen)]))]⟩,
      ⟨some 30, (aC (.s 5 0 4 r1.length)), [(5, (.arr 60 4 ((r1).map rTransfer)))], [4], [4, 5], [(28, (aC (.s 4 0 4 s.kept.length))), (29, (aC (.fn 110 [1])))], [(1, (.box 3 [(cI seen)])), (4, (.arr 60 4 ((s.kept).map rTransfer)))]⟩,
      ⟨some 31, (aG [(cI s.sent), (.s 5 0 4 r1.length)]), [], [], [1, 6], [(25, (aI s.sent)), (30, (aC (.s 5 0 4 r1.length)))], [(5, (.arr 60 4 ((r1).map rTransfer)))]⟩] ⟨[(2, (aC (.p 0 0 0 0))), (3, (aC (.p 1 0 0 0))), (4, (aC (.p 2 0 0 0))), (31, (aG [(cI s.sent), (.s 5 0 4 r1.length)]))], [(5, (.arr 60 4 ((r1).map rTransfer))), (2, (.box 58 [(cI 0), cN])), (1, (.box 3 [(cI seen)])), (0, (.box 58 [(cI s.sent), (cR 4 ((s.kept).map rTransfer))]))], 6⟩ mixed (by kernel_rfl) ?_ ?_ ?_ ?_
        · exact ⟨.inl ⟨(Wanted.plain rfl), GOp.cast (g_fieldP rfl rfl Try.underlying58 rfl sz3 (by decide)) rfl⟩,
      .inl ⟨(Wanted.plain rfl), GOp.cast (g_loadB rfl rfl rfl Try.underlying3 rfl rfl) rfl⟩,
      .inl ⟨(Wanted.plain rfl), GOp.cast (g_fieldP rfl rfl Try.underlying58 rfl sz56 (by decide)) rfl⟩,
      .inl ⟨(Wanted.plain rfl), GOp.cast (g_loadB rfl rfl rfl Try.underlying56 rfl rfl) rfl⟩,
      .inl ⟨(Wanted.plain rfl), GOp.cast (g_call 4 (c_Clone_Transfer s.kept (by first | omega | (simp; done) | (simp; omega)) ) en108 rfl rfl ⟨⟨_, rfl, .c (.d _)⟩,  trivial⟩ trivial ⟨(fun _ _ _ _ => trivial),  trivial⟩ rfl rfl rfl rfl) rfl⟩,
      .inl ⟨(Wanted.plain rfl), GOp.cast (g_func (ks := [1]) rfl ⟨rfl, trivial⟩) rfl⟩,
      .inl ⟨(Wanted.plain rfl), GOp.cast (g_callME (fun k => if k = 0 then 4 else k) (fun k => if k = 0 then 5 else k) [1] (c_Delete_Transfer s.kept 110 ([[(dI seen)]]) (came seen) (fun x => c_Back1 x seen) en110  r1 hr1) en109 rfl rfl ⟨⟨_, rfl, .inl ⟨rfl, rfl⟩⟩, ⟨_, rfl, .inr (.c (.fn ⟨⟨by decide, _, rfl⟩,  trivial⟩))⟩,  trivial⟩ ⟨rfl,  trivial⟩ rfl rfl rfl rfl rfl rfl rfl rfl trivial ⟨(isv_rTransfer _),  trivial⟩ rfl rfl rfl rfl) rfl⟩,
      .inl ⟨(Wanted.plain rfl), GOp.cast (g_build (ys := [(0, (.c (cI s.sent))), (1, (.c (.s 5 0 4 r1.length)))]) rfl bld58 rfl ⟨⟨rfl, rfl⟩, ⟨rfl, rfl⟩,  trivial⟩ rfl rfl) rfl⟩,
       trivial⟩
        · exact ⟨⟨⟨.inl rfl,  trivial⟩, ⟨.inl rfl,  trivial⟩⟩, ⟨⟨.inr ⟨0, .head _, _, rfl, rfl, rfl⟩,  trivial⟩, ⟨.inl rfl,  trivial⟩⟩, ⟨⟨.inl rfl,  trivial⟩, ⟨.inl rfl,  trivial⟩⟩, ⟨⟨.inr ⟨2, .head _, _, rfl, rfl, rfl⟩,  trivial⟩, ⟨.inl rfl,  trivial⟩⟩, ⟨⟨.inr ⟨3, .head _, _, rfl, rfl, rfl⟩,  trivial⟩, trivial⟩, ⟨⟨.inl rfl,  trivial⟩, ⟨.inl rfl,  trivial⟩⟩, ⟨⟨.inr ⟨4, .head _, _, rfl, rfl, rfl⟩, .inr ⟨5, .tail _ (.head _), _, rfl, rfl, rfl⟩,  trivial⟩, ⟨.inl rfl, .inr ⟨4, .head _, _, rfl, .head _⟩,  trivial⟩⟩, ⟨⟨.inr ⟨1, .head _, _, rfl, rfl, rfl⟩, .inr ⟨6, .tail _ (.head _), _, rfl, rfl, rfl⟩,  trivial⟩, ⟨.inr ⟨6, .tail _ (.head _), _, rfl, .head _⟩,  trivial⟩⟩,  trivial⟩
        · exact ⟨⟨.inl rfl, .inl rfl, .inl rfl, .inr ⟨7, _, rfl, rfl, rfl⟩,  trivial⟩, ⟨.inr ⟨6, _, rfl, .head _⟩, .inl rfl, .inl rfl, .inl rfl,  trivial⟩⟩
        ·
          refine AL.sto (h' := [(5, (.arr 60 4 ((r1).map rTransfer))), (2, (.box 58 [(cI s.sent), (.s 5 0 4 r1.length)])), (1, (.box 3 [(cI seen)])), (0, (.box 58 [(cI s.sent), (cR 4 ((s.kept).map rTransfer))]))]) (Wanted.plain rfl) (g_storeB rfl rfl rfl rfl rfl sz58 rfl (Nat.le_of_ble_eq_true rfl) rfl) rfl rfl rfl rfl ?_
          refine AL.fast 1 rfl ?_
          refine AL.nil ?_
          refine then_ok ?_
          refine AC.ret ?_
          have hX : backS s seen = ((⟨s.sent, r1⟩ : Sender), 0) := by
            unfold backS; rw [if_neg (by omega), if_neg (by omega), hr1]
          rw [hX] at hr; clear hX
          simp only [Prod.mk.injEq] at hr; obtain ⟨rfl, rfl⟩ := hr
          refine retQ_mk (av' := outOf [(.g [(cI s.sent), (.s 0 0 4 r1.length)]), (.c (cI 0))]) (nb' := [(0, (.arr 60 4 ((r1).map rTransfer)))]) (retQ_ret ⟨[(4, (aC (.p 1 0 0 0))), (5, (aI 0))], [(0, (.arr 60 4 ((r1).map rTransfer))), (1, (.box 58 [(cI s.sent), (.s 0 0 4 r1.length)]))], 2⟩ [.cell 4 58, .tmp 5] [(.g [(cI s.sent), (.s 0 0 4 r1.length)]), (.c (cI 0))] (Weak.ren (fun k => if k = 0 then 5 else if k = 1 then 2 else k) (⟨by first | rfl | (simp only [AV.map, GV.map, CV.map, AB.map', id]; done) | (congr 3; omega) | (congr 4; omega) | (simp only [List.length_append, List.length_cons, List.length_nil, List.length_set]; rfl), by first | rfl | (simp only [AV.map, GV.map, CV.map, AB.map', id]; done) | (congr 3; omega) | (congr 4; omega) | (simp only [List.length_append, List.length_cons, List.length_nil, List.length_set]; rfl),  trivial⟩) (⟨by first | rfl | (simp only [AV.map, GV.map, CV.map, AB.map', id]; done) | (congr 3; omega) | (congr 4; omega) | (simp only [List.length_append, List.length_cons, List.length_nil, List.length_set]; rfl), by first | rfl | (simp only [AV.map, GV.map, CV.map, AB.map', id]; done) | (congr 3; omega) | (congr 4; omega) | (simp only [List.length_append, List.length_cons, List.length_nil, List.length_set]; rfl),  trivial⟩) rfl) rfl ⟨.agg rfl rfl (fun _ => run_isAgg Try.underlying58) sz58, .tmp rfl, trivial⟩ ⟨by first | rfl | (simp only [AV.map, GV.map, CV.map, AB.map', id]; done) | (congr 3; omega) | (congr 4; omega) | (simp only [List.length_append, List.length_cons, List.length_nil, List.length_set]; rfl),  trivial⟩) ?_ ?_
          · first | rfl | (simp [outOf, aC]; done) | (simp [outOf, aC]; omega)
          · first | rfl | (simp; done) | (simp; omega)
set_option maxRecDepth 100000 in
set_option maxHeartbeats 1000000 in
theorem c_ref_Back (s : Sender) (seen : Int) (hI : ∀ t ∈ s.kept, InI t.number) (x : Sender) (e : Int) (hr : backS s seen = (x, e)) : Fn Try.prog 54 [(.g [(cI s.sent), (cR 4 ((s.kept).map rTransfer))]), (.c (cI seen))] (.t [(.g [(cI x.sent), (.s 0 0 4 x.kept.length)]), (.c (cI e))]) [(0, (.arr 60 4 ((x.kept).map rTransfer)))] := by
  refine Fn.mk' 49 [(0, (aG [(cI s.sent), (cR 4 ((s.kept).map rTransfer))])), (1, (aI seen))] Try.func54 rfl rfl rfl rfl ?_
  intro W0 T0
  refine AC.lenG 0 1 rfl rfl (fun hlen0_1 => ?_)
  have hrs := @wrongS_iff s
  refine AC.seq ?_
  refine AC.region ?_
  refine AL.new (n' := 1) (Wanted.plain rfl) (g_boxS 0 rfl rfl) rfl rfl rfl ?_
  refine AL.new (n' := 2) (Wanted.plain rfl) (g_alloc 1 rfl zv58 rfl rfl rfl) rfl rfl rfl ?_
  refine AL.fast 1 rfl ?_
  refine AL.nil ?_
  refine then_ok ?_
  refine AC.seq ?_
  refine AC.seq ?_
  refine AC.region ?_
  refine AL.val (Wanted.plain rfl) (g_loadBs rfl rfl rfl Try.underlying58 rfl sz58 rfl rfl) rfl rfl ?_
  obtain ⟨f0, hr0⟩ : ∃ (f0 : Fault), wrongSF s = f0 := ⟨_, rfl⟩
  have hq0 : (wrongSF s).err = f0.err := by rw [hr0]
  refine AL.call (n' := 2) (h' := [(1, (.box 58 [(cI 0), cN])), (0, (.box 58 [(cI s.sent), (cR 4 ((s.kept).map rTransfer))]))]) (Wanted.plain rfl) (g_call 2 (c_ref_WrongSender s (by first | assumption | exact inI_out (by assumption) (by omega) | exact inI_back (by assumption) (by assumption) | (simp [InI]; done)) f0 hr0) en49 rfl rfl ⟨⟨_, rfl, .g ⟨.d _, .d _,  trivial⟩⟩,  trivial⟩ ⟨trivial, trivial,  trivial⟩ trivial rfl rfl rfl rfl) rfl rfl rfl rfl rfl ?_
  refine AL.new (n' := 3) (Wanted.plain rfl) (g_alloc 2 rfl zv47 rfl rfl rfl) rfl rfl rfl ?_
  refine AL.sto (h' := [(2, (.box 47 [(cI f0.err), (cI f0.at_)])), (1, (.box 58 [(cI 0), cN])), (0, (.box 58 [(cI s.sent), (cR 4 ((s.kept).map rTransfer))]))]) (Wanted.plain rfl) (g_storeB rfl rfl rfl rfl rfl sz47 rfl (Nat.le_of_ble_eq_true rfl) rfl) rfl rfl rfl rfl ?_
  refine AL.nil ?_
  refine then_ok ?_
  refine AC.seq ?_
  refine AC.region ?_
  refine AL.val (Wanted.plain rfl) (g_fieldP rfl rfl Try.underlying47 rfl sz27 (by decide)) rfl rfl ?_
  refine AL.val (Wanted.plain rfl) (g_loadB rfl rfl rfl Try.underlying27 rfl rfl) rfl rfl ?_
  refine AL.val (Wanted.plain rfl) (g_binI rfl rfl rfl rfl) rfl rfl ?_
  refine AL.nil ?_
  refine then_ok ?_
  refine AC.cond rfl (fun hc1 => ?_) (fun hc1 => ?_)
  ·
    have hc1' := hc1; try simp only [sumB, Bool.not_eq_true', Bool.not_eq_false', Bool.or_eq_true, Bool.or_eq_false_iff, Bool.and_eq_true, Bool.and_eq_false_imp, decide_eq_true_eq, decide_eq_false_iff_not, Bool.not_not, Bool.not_true, Bool.not_false] at hc1'
    refine AC.seq ?_
    refine AC.weak (st' := ⟨[(1, (aI seen)), (2, (aC (.p 0 0 0 0))), (4, (aC (.p 1 0 0 0))), (6, (aC (.p 2 0 0 0)))], [(2, (.box 47 [(cI f0.err), (cI f0.at_)])), (1, (.box 58 [(cI 0), cN])), (0, (.box 58 [(cI s.sent), (cR 4 ((s.kept).map rTransfer))]))], 3⟩) (Weak.ren id (⟨by first | rfl | (simp only [AV.map, GV.map, CV.map, AB.map', id]; done) | (congr 3; omega) | (congr 4; omega) | (simp only [List.length_append, List.length_cons, List.length_nil, List.length_set]; rfl), by first | rfl | (simp only [AV.map, GV.map, CV.map, AB.map', id]; done) | (congr 3; omega) | (congr 4; omega) | (simp only [List.length_append, List.length_cons, List.length_nil, List.length_set]; rfl), by first | rfl | (simp only [AV.map, GV.map, CV.map, AB.map', id]; done) | (congr 3; omega) | (congr 4; omega) | (simp only [List.length_append, List.length_cons, List.length_nil, List.length_set]; rfl), by first | rfl | (simp only [AV.map, GV.map, CV.map, AB.map', id]; done) | (congr 3; omega) | (congr 4; omega) | (simp only [List.length_append, List.length_cons, List.length_nil, List.length_set]; rfl),  trivial⟩) (⟨by first | rfl | (simp only [AV.map, GV.map, CV.map, AB.map', id]; done) | (congr 3; omega) | (congr 4; omega) | (simp only [List.length_append, List.length_cons, List.length_nil, List.length_set]; rfl), by first | rfl | (simp only [AV.map, GV.map, CV.map, AB.map', id]; done) | (congr 3; omega) | (congr 4; omega) | (simp only [List.length_append, List.length_cons, List.length_nil, List.length_set]; rfl), by first | rfl | (simp only [AV.map, GV.map, CV.map, AB.map', id]; done) | (congr 3; omega) | (congr 4; omega) | (simp only [List.length_append, List.length_cons, List.length_nil, List.length_set]; rfl),  trivial⟩) rfl) ?_
    refine AC.drawW [⟨some 15, (aG [(cI 0), cN]), [], [], [], [], []⟩,
      ⟨some 16, (aC (.p 2 0 0 0)), [], [], [], [(6, (aC (.p 2 0 0 0)))], []⟩,
      ⟨some 17, (aI f0.err), [], [], [1], [(16, (aC (.p 2 0 0 0)))], [(2, (.box 47 [(cI f0.err), (cI f0.at_)]))]⟩,
      ⟨none, (.v (.c .any)), [(1, (.box 58 [(cI 0), cN]))], [1], [0], [(4, (aC (.p 1 0 0 0))), (15, (aG [(cI 0), cN]))], [(1, (.box 58 [(cI 0), cN]))]⟩,
      ⟨some 5, (aI f0.err), [], [], [2], [(17, (aI f0.err))], []⟩] ⟨[(1, (aI seen)), (2, (aC (.p 0 0 0 0))), (4, (aC (.p 1 0 0 0))), (5, (aI f0.err))], [(1, (.box 58 [(cI 0), cN])), (0, (.box 58 [(cI s.sent), (cR 4 ((s.kept).map rTransfer))]))], 3⟩ [4, 3, 2, 1, 0] mixed (by kernel_rfl) ?_ ?_ ?_ ?_
    · exact ⟨.inl ⟨(Wanted.plain rfl), GOp.cast (g_build (ys := []) rfl bld58 rfl trivial rfl rfl) rfl⟩,
      .inl ⟨(Wanted.plain rfl), GOp.cast (g_fieldP rfl rfl Try.underlying47 rfl sz27 (by decide)) rfl⟩,
      .inl ⟨(Wanted.plain rfl), GOp.cast (g_loadB rfl rfl rfl Try.underlying27 rfl rfl) rfl⟩,
      .inl ⟨(Wanted.plain rfl), GOp.cast (g_storeB rfl rfl rfl rfl rfl sz58 rfl (Nat.le_of_ble_eq_true rfl) rfl) rfl⟩,
      .inl ⟨(Wanted.plain rfl), GOp.cast (g_assign rfl rfl) rfl⟩,
       trivial⟩
    · exact ⟨⟨trivial, trivial⟩, ⟨⟨rfl,  trivial⟩, trivial⟩, ⟨⟨⟨_, rfl, rfl, rfl⟩,  trivial⟩, ⟨rfl,  trivial⟩⟩, ⟨⟨rfl, ⟨_, rfl, rfl, rfl⟩,  trivial⟩, ⟨rfl,  trivial⟩⟩, ⟨⟨⟨_, rfl, rfl, rfl⟩,  trivial⟩, trivial⟩,  trivial⟩
    · exact ⟨⟨rfl, rfl, rfl, ⟨_, rfl, rfl, rfl⟩,  trivial⟩, ⟨⟨_, rfl, .head _⟩, rfl,  trivial⟩⟩
    ·
      refine then_ok ?_
      refine AC.ret ?_
      refine then_ret ?_
      refine retQ_weak (Weak.nilB (n' := 4) (h' := [(3, (.arr 60 4 ((([] : List Transfer)).map rTransfer))), (1, (.box 58 [(cI 0), (.s 3 0 4 0)])), (0, (.box 58 [(cI s.sent), (cR 4 ((s.kept).map rTransfer))]))]) 1 1 60 4 58 (by decide) rfl rfl rfl rfl rfl) ?_
      have hX : backS s seen = ((⟨0, ([] : List Transfer)⟩ : Sender), f0.err) := by
        unfold backS; rw [if_pos (by omega), hr0]; rfl
      rw [hX] at hr; clear hX
      simp only [Prod.mk.injEq] at hr; obtain ⟨rfl, rfl⟩ := hr
      refine retQ_mk (av' := outOf [(.g [(cI 0), (.s 0 0 4 0)]), (.c (cI f0.err))]) (nb' := [(0, (.arr 60 4 ((([] : List Transfer)).map rTransfer)))]) (retQ_ret ⟨[(4, (aC (.p 1 0 0 0))), (5, (aI f0.err))], [(0, (.arr 60 4 ((([] : List Transfer)).map rTransfer))), (1, (.box 58 [(cI 0), (.s 0 0 4 0)]))], 2⟩ [.cell 4 58, .tmp 5] [(.g [(cI 0), (.s 0 0 4 0)]), (.c (cI f0.err))] (Weak.ren (fun k => if k = 0 then 3 else if k = 1 then 1 else k) (⟨by first | rfl | (simp only [AV.map, GV.map, CV.map, AB.map', id]; done) | (congr 3; omega) | (congr 4; omega) | (simp only [List.length_append, List.length_cons, List.length_nil, List.length_set]; rfl), by first | rfl | (simp only [AV.map, GV.map, CV.map, AB.map', id]; done) | (congr 3; omega) | (congr 4; omega) | (simp only [List.length_append, List.length_cons, List.length_nil, List.length_set]; rfl),  trivial⟩) (⟨by first | rfl | (simp only [AV.map, GV.map, CV.map, AB.map', id]; done) | (congr 3; omega) | (congr 4; omega) | (simp only [List.length_append, List.length_cons, List.length_nil, List.length_set]; rfl), by first | rfl | (simp only [AV.map, GV.map, CV.map, AB.map', id]; done) | (congr 3; omega) | (congr 4; omega) | (simp only [List.length_append, List.length_cons, List.length_nil, List.length_set]; rfl),  trivial⟩) rfl) rfl ⟨.agg rfl rfl (fun _ => run_isAgg Try.underlying58) sz58, .tmp rfl, trivial⟩ ⟨by first | rfl | (simp only [AV.map, GV.map, CV.map, AB.map', id]; done) | (congr 3; omega) | (congr 4; omega) | (simp only [List.length_append, List.length_cons, List.length_nil, List.length_set]; rfl),  trivial⟩) ?_ ?_
      · first | rfl | (simp [outOf, aC]; done) | (simp [outOf, aC]; omega)
      · first | rfl | (simp; done) | (simp; omega)
  ·
    have hc1' := hc1; try simp only [sumB, Bool.not_eq_true', Bool.not_eq_false', Bool.or_eq_true, Bool.or_eq_false_iff, Bool.and_eq_true, Bool.and_eq_false_imp, decide_eq_true_eq, decide_eq_false_iff_not, Bool.not_not, Bool.not_true, Bool.not_false] at hc1'
    refine AC.skip ?_
    refine then_ok ?_
    refine AC.seq ?_
    refine AC.cutB 25 ((decide (seen < 0)) || (decide (seen > s.sent))) ?_ ?_
    ·
      refine AC.region ?_
      refine AL.fast 1 rfl ?_
      refine AL.val (Wanted.plain rfl) (g_binI rfl rfl rfl rfl) rfl rfl ?_
      refine AL.fast 1 rfl ?_
      refine AL.dec (t := 20) rfl (fun hb2 => ?_) (fun hb2 => ?_)
      ·
        have hb2' := hb2; try simp only [sumB, Bool.not_eq_true', Bool.not_eq_false', Bool.or_eq_true, Bool.or_eq_false_iff, Bool.and_eq_true, Bool.and_eq_false_imp, decide_eq_true_eq, decide_eq_false_iff_not, Bool.not_not, Bool.not_true, Bool.not_false] at hb2'
        refine AL.fast 5 rfl ?_
        refine AL.nil ?_
        refine then_ok ?_
        exact Weak.popB 9 rfl rfl (by first | (simp [hb2]; done) | (simp_all; done) | (exfalso; simp_all; done) | (simp_all; omega)) rfl
      ·
        have hb2' := hb2; try simp only [sumB, Bool.not_eq_true', Bool.not_eq_false', Bool.or_eq_true, Bool.or_eq_false_iff, Bool.and_eq_true, Bool.and_eq_false_imp, decide_eq_true_eq, decide_eq_false_iff_not, Bool.not_not, Bool.not_true, Bool.not_false] at hb2'
        refine AL.fast 1 rfl ?_
        refine AL.val (Wanted.yes rfl rfl rfl) (g_fieldP rfl rfl Try.underlying58 rfl sz3 (by decide)) rfl rfl ?_
        refine AL.val (Wanted.yes rfl rfl rfl) (g_loadB rfl rfl rfl Try.underlying3 rfl rfl) rfl rfl ?_
        refine AL.val (Wanted.yes rfl rfl rfl) (g_binI rfl rfl rfl rfl) rfl rfl ?_
        refine AL.fast 1 rfl ?_
        refine AL.nil ?_
        refine then_ok ?_
        exact Weak.popB 9 rfl rfl (by first | (simp [hb2]; done) | (simp_all; done) | (exfalso; simp_all; done) | (simp_all; omega)) rfl
    ·
      refine AC.cond rfl (fun hc3 => ?_) (fun hc3 => ?_)
      ·
        have hc3' := hc3; try simp only [sumB, Bool.not_eq_true', Bool.not_eq_false', Bool.or_eq_true, Bool.or_eq_false_iff, Bool.and_eq_true, Bool.and_eq_false_imp, decide_eq_true_eq, decide_eq_false_iff_not, Bool.not_not, Bool.not_true, Bool.not_false] at hc3'
        refine AC.seq ?_
        refine AC.region ?_
        refine AL.val (Wanted.plain rfl) (g_build (ys := []) rfl bld58 rfl trivial rfl rfl) rfl rfl ?_
        refine AL.sto (h' := [(2, (.box 47 [(cI f0.err), (cI f0.at_)])), (1, (.box 58 [(cI 0), cN])), (0, (.box 58 [(cI s.sent), (cR 4 ((s.kept).map rTransfer))]))]) (Wanted.plain rfl) (g_storeB rfl rfl rfl rfl rfl sz58 rfl (Nat.le_of_ble_eq_true rfl) rfl) rfl rfl rfl rfl ?_
        refine AL.fast 1 rfl ?_
        refine AL.nil ?_
        refine then_ok ?_
        refine AC.ret ?_
        refine then_ret ?_
        refine retQ_weak (Weak.nilB (n' := 4) (h' := [(3, (.arr 60 4 ((([] : List Transfer)).map rTransfer))), (2, (.box 47 [(cI f0.err), (cI f0.at_)])), (1, (.box 58 [(cI 0), (.s 3 0 4 0)])), (0, (.box 58 [(cI s.sent), (cR 4 ((s.kept).map rTransfer))]))]) 1 1 60 4 58 (by decide) rfl rfl rfl rfl rfl) ?_
        have hX : backS s seen = ((⟨0, ([] : List Transfer)⟩ : Sender), 3) := by
          unfold backS; rw [if_neg (by omega), if_pos (by omega)]; rfl
        rw [hX] at hr; clear hX
        simp only [Prod.mk.injEq] at hr; obtain ⟨rfl, rfl⟩ := hr
        refine retQ_mk (av' := outOf [(.g [(cI 0), (.s 0 0 4 0)]), (.c (cI 3))]) (nb' := [(0, (.arr 60 4 ((([] : List Transfer)).map rTransfer)))]) (retQ_ret ⟨[(4, (aC (.p 1 0 0 0))), (5, (aI 3))], [(0, (.arr 60 4 ((([] : List Transfer)).map rTransfer))), (1, (.box 58 [(cI 0), (.s 0 0 4 0)]))], 2⟩ [.cell 4 58, .tmp 5] [(.g [(cI 0), (.s 0 0 4 0)]), (.c (cI 3))] (Weak.ren (fun k => if k = 0 then 3 else if k = 1 then 1 else k) (⟨by first | rfl | (simp only [AV.map, GV.map, CV.map, AB.map', id]; done) | (congr 3; omega) | (congr 4; omega) | (simp only [List.length_append, List.length_cons, List.length_nil, List.length_set]; rfl), by first | rfl | (simp only [AV.map, GV.map, CV.map, AB.map', id]; done) | (congr 3; omega) | (congr 4; omega) | (simp only [List.length_append, List.length_cons, List.length_nil, List.length_set]; rfl),  trivial⟩) (⟨by first | rfl | (simp only [AV.map, GV.map, CV.map, AB.map', id]; done) | (congr 3; omega) | (congr 4; omega) | (simp only [List.length_append, List.length_cons, List.length_nil, List.length_set]; rfl), by first | rfl | (simp only [AV.map, GV.map, CV.map, AB.map', id]; done) | (congr 3; omega) | (congr 4; omega) | (simp only [List.length_append, List.length_cons, List.length_nil, List.length_set]; rfl),  trivial⟩) rfl) rfl ⟨.agg rfl rfl (fun _ => run_isAgg Try.underlying58) sz58, .tmp rfl, trivial⟩ ⟨by first | rfl | (simp only [AV.map, GV.map, CV.map, AB.map', id]; done) | (congr 3; omega) | (congr 4; omega) | (simp only [List.length_append, List.length_cons, List.length_nil, List.length_set]; rfl),  trivial⟩) ?_ ?_
        · first | rfl | (simp [outOf, aC]; done) | (simp [outOf, aC]; omega)
        · first | rfl | (simp; done) | (simp; omega)
      ·
        have hc3' := hc3; try simp only [sumB, Bool.not_eq_true', Bool.not_eq_false', Bool.or_eq_true, Bool.or_eq_false_iff, Bool.and_eq_true, Bool.and_eq_false_imp, decide_eq_true_eq, decide_eq_false_iff_not, Bool.not_not, Bool.not_true, Bool.not_false] at hc3'
        refine AC.skip ?_
        refine then_ok ?_
        refine AC.seq ?_
        refine AC.region ?_
        refine AL.val (Wanted.plain rfl) (g_fieldP rfl rfl Try.underlying58 rfl sz3 (by decide)) rfl rfl ?_
        refine AL.val (Wanted.plain rfl) (g_loadB rfl rfl rfl Try.underlying3 rfl rfl) rfl rfl ?_
        refine AL.val (Wanted.plain rfl) (g_build (ys := [(0, (.c (cI s.sent)))]) rfl bld58 rfl ⟨⟨rfl, rfl⟩,  trivial⟩ rfl rfl) rfl rfl ?_
        refine AL.new (n' := 4) (Wanted.plain rfl) (g_alloc 3 rfl zv58 rfl rfl rfl) rfl rfl rfl ?_
        refine AL.sto (h' := [(3, (.box 58 [(cI s.sent), cN])), (2, (.box 47 [(cI f0.err), (cI f0.at_)])), (1, (.box 58 [(cI 0), cN])), (0, (.box 58 [(cI s.sent), (cR 4 ((s.kept).map rTransfer))]))]) (Wanted.plain rfl) (g_storeB rfl rfl rfl rfl rfl sz58 rfl (Nat.le_of_ble_eq_true rfl) rfl) rfl rfl rfl rfl ?_
        refine AL.nil ?_
        refine then_ok ?_
        refine AC.seq ?_
        refine AC.seq ?_
        refine AC.region ?_
        refine AL.val (Wanted.plain rfl) (g_fieldP rfl rfl Try.underlying58 rfl sz56 (by decide)) rfl rfl ?_
        refine AL.val (Wanted.plain rfl) (g_loadB rfl rfl rfl Try.underlying56 rfl rfl) rfl rfl ?_
        refine AL.val (Wanted.plain rfl) (g_lenM rfl rfl rfl rfl rfl Try.underlying56) rfl rfl ?_
        refine AL.fast 1 rfl ?_
        refine AL.nil ?_
        refine then_ok ?_
        refine AC.block ?_
        refine AC.weak (Weak.nilB (n' := 5) (h' := [(4, (.arr 60 4 ((([] : List Transfer)).map rTransfer))), (3, (.box 58 [(cI s.sent), (.s 4 0 4 0)])), (2, (.box 47 [(cI f0.err), (cI f0.at_)])), (1, (.box 58 [(cI 0), cN])), (0, (.box 58 [(cI s.sent), (cR 4 ((s.kept).map rTransfer))]))]) 3 1 60 4 58 (by decide) rfl rfl rfl rfl rfl) ?_
        refine AC.loop (β := Nat) (fun (q : Nat) => ⟨[(1, (aI seen)), (4, (aC (.p 1 0 0 0))), (5, (aI 0)), (7, (aC (.p 3 0 0 0))), (31, (aC (cR 4 ((s.kept).map rTransfer)))), (32, (aI (↑s.kept.length : Int))), (33, (aI (↑q : Int)))], [(4, (.arr 60 4 ((keepL (came seen) (s.kept.take q)).map rTransfer))), (3, (.box 58 [(cI s.sent), (.s 4 0 4 ((keepL (came seen) (s.kept.take q)).length))])), (1, (.box 58 [(cI 0), cN]))], 5⟩) (fun (q : Nat) => q ≤ s.kept.length) (fun (q : Nat) => s.kept.length - q) 0 ?_ ?_ ?_
        · exact (by omega)
        · exact Weak.ren id (⟨by first | rfl | (simp only [AV.map, GV.map, CV.map, AB.map', id]; done) | (congr 3; omega) | (congr 4; omega) | (simp only [List.length_append, List.length_cons, List.length_nil, List.length_set]; rfl), by first | rfl | (simp only [AV.map, GV.map, CV.map, AB.map', id]; done) | (congr 3; omega) | (congr 4; omega) | (simp only [List.length_append, List.length_cons, List.length_nil, List.length_set]; rfl), by first | rfl | (simp only [AV.map, GV.map, CV.map, AB.map', id]; done) | (congr 3; omega) | (congr 4; omega) | (simp only [List.length_append, List.length_cons, List.length_nil, List.length_set]; rfl), by first | rfl | (simp only [AV.map, GV.map, CV.map, AB.map', id]; done) | (congr 3; omega) | (congr 4; omega) | (simp only [List.length_append, List.length_cons, List.length_nil, List.length_set]; rfl), by first | rfl | (simp only [AV.map, GV.map, CV.map, AB.map', id]; done) | (congr 3; omega) | (congr 4; omega) | (simp only [List.length_append, List.length_cons, List.length_nil, List.length_set]; rfl), by first | rfl | (simp only [AV.map, GV.map, CV.map, AB.map', id]; done) | (congr 3; omega) | (congr 4; omega) | (simp only [List.length_append, List.length_cons, List.length_nil, List.length_set]; rfl), by first | rfl | (simp only [AV.map, GV.map, CV.map, AB.map', id]; done) | (congr 3; omega) | (congr 4; omega) | (simp only [List.length_append, List.length_cons, List.length_nil, List.length_set]; rfl),  trivial⟩) (⟨by first | rfl | (simp only [AV.map, GV.map, CV.map, AB.map', id]; done) | (congr 3; omega) | (congr 4; omega) | (simp only [List.length_append, List.length_cons, List.length_nil, List.length_set]; rfl), by first | rfl | (simp only [AV.map, GV.map, CV.map, AB.map', id]; done) | (congr 3; omega) | (congr 4; omega) | (simp only [List.length_append, List.length_cons, List.length_nil, List.length_set]; rfl), by first | rfl | (simp only [AV.map, GV.map, CV.map, AB.map', id]; done) | (congr 3; omega) | (congr 4; omega) | (simp only [List.length_append, List.length_cons, List.length_nil, List.length_set]; rfl),  trivial⟩) rfl
        ·
          rintro q hi0_0
          have hkl := keepL_len (came seen) (s.kept.take q)
          have htl : (s.kept.take q).length ≤ q := List.length_take_le _ _
          refine AC.seq ?_
          refine AC.region ?_
          refine AL.val (Wanted.plain rfl) (g_binI rfl rfl rfl rfl) rfl rfl ?_
          refine AL.nil ?_
          refine then_ok ?_
          refine AC.seq ?_
          refine AC.cond rfl (fun hc4 => ?_) (fun hc4 => ?_)
          ·
            have hc4' := hc4; try simp only [sumB, Bool.not_eq_true', Bool.not_eq_false', Bool.or_eq_true, Bool.or_eq_false_iff, Bool.and_eq_true, Bool.and_eq_false_imp, decide_eq_true_eq, decide_eq_false_iff_not, Bool.not_not, Bool.not_true, Bool.not_false] at hc4'
            refine AC.skip ?_
            refine then_ok ?_
            refine AC.seq ?_
            refine AC.block ?_
            refine AC.seq ?_
            refine AC.region ?_
            obtain ⟨x1, hx1⟩ := exget (xs := s.kept) (i := q) (by first | omega | (simp; done) | (simp; omega))
            refine AL.val (Wanted.plain rfl) (g_indexQ (i := q) rfl rfl rfl Try.underlying56 sz60 (by first | omega | (simp; done) | (simp; omega)) (getmap hx1)) rfl rfl ?_
            refine AL.val (Wanted.plain rfl) (g_loadQs rfl rfl Try.underlying60 rfl sz60 rfl rfl) rfl rfl ?_
            refine AL.new (n' := 6) (Wanted.plain rfl) (g_alloc 5 rfl zv60 rfl rfl rfl) rfl rfl rfl ?_
            refine AL.sto (h' := [(5, (.box 60 [(cI x1.number), (cI x1.kind), (cI x1.auth), (cI x1.sum)])), (4, (.arr 60 4 ((keepL (came seen) (s.kept.take q)).map rTransfer))), (3, (.box 58 [(cI s.sent), (.s 4 0 4 ((keepL (came seen) (s.kept.take q)).length))])), (1, (.box 58 [(cI 0), cN]))]) (Wanted.plain rfl) (g_storeB rfl rfl rfl rfl rfl sz60 rfl (Nat.le_of_ble_eq_true rfl) rfl) rfl rfl rfl rfl ?_
            refine AL.nil ?_
            refine then_ok ?_
            refine AC.seq ?_
            refine AC.region ?_
            refine AL.val (Wanted.plain rfl) (g_fieldP rfl rfl Try.underlying60 rfl sz3 (by decide)) rfl rfl ?_
            refine AL.val (Wanted.plain rfl) (g_loadB rfl rfl rfl Try.underlying3 rfl rfl) rfl rfl ?_
            refine AL.fast 1 rfl ?_
            refine AL.val (Wanted.plain rfl) (g_binI rfl rfl rfl rfl) rfl rfl ?_
            refine AL.nil ?_
            refine then_ok ?_
            refine AC.cond rfl (fun hc5 => ?_) (fun hc5 => ?_)
            ·
              have hc5' := hc5; try simp only [sumB, Bool.not_eq_true', Bool.not_eq_false', Bool.or_eq_true, Bool.or_eq_false_iff, Bool.and_eq_true, Bool.and_eq_false_imp, decide_eq_true_eq, decide_eq_false_iff_not, Bool.not_not, Bool.not_true, Bool.not_false] at hc5'
              refine AC.region ?_
              refine AL.val (Wanted.plain rfl) (g_fieldP rfl rfl Try.underlying58 rfl sz56 (by decide)) rfl rfl ?_
              refine AL.val (Wanted.plain rfl) (g_loadB rfl rfl rfl Try.underlying56 rfl rfl) rfl rfl ?_
              refine AL.val (Wanted.plain rfl) (g_loadBs rfl rfl rfl Try.underlying60 rfl sz60 rfl rfl) rfl rfl ?_
              refine AL.new (n' := 7) (Wanted.plain rfl) (g_lit (ys := [(0, (.g [(cI x1.number), (cI x1.kind), (cI x1.auth), (cI x1.sum)]))]) (rows := ([x1]).map rTransfer) 6 sl56 rfl (by decide) ⟨⟨rfl, rfl⟩,  trivial⟩ rfl rfl rfl rfl) rfl rfl rfl ?_
              refine AL.eat (n' := 8) (h' := [(7, (.arr 60 4 (((keepL (came seen) (s.kept.take q)) ++ ([x1])).map rTransfer))), (6, (.arr 60 4 (([x1]).map rTransfer))), (5, (.box 60 [(cI x1.number), (cI x1.kind), (cI x1.auth), (cI x1.sum)])), (3, (.box 58 [(cI s.sent), (.s 4 0 4 ((keepL (came seen) (s.kept.take q)).length))])), (1, (.box 58 [(cI 0), cN]))]) (Wanted.plain rfl) (g_append (m := 1) (N := ((keepL (came seen) (s.kept.take q)).length) + 1) (k2 := 7) (ys := ([x1]).map rTransfer) sl56 rfl rfl rfl rfl rfl rfl (by first | omega | (simp; done) | (simp; omega)) rfl (.s rfl (by first | omega | (simp; done) | (simp; omega))) (by first | omega | (simp; done) | (simp; omega)) (by first | omega | (simp; done) | (simp; omega)) appmap (by decide) (by first | omega | (simp; done) | (simp; omega)) (by first | omega | (simp; done) | (simp; omega))) rfl rfl rfl rfl rfl ?_
              refine AL.val (Wanted.plain rfl) (g_fieldP rfl rfl Try.underlying58 rfl sz56 (by decide)) rfl rfl ?_
              refine AL.sto (h' := [(7, (.arr 60 4 (((keepL (came seen) (s.kept.take q)) ++ ([x1])).map rTransfer))), (6, (.arr 60 4 (([x1]).map rTransfer))), (5, (.box 60 [(cI x1.number), (cI x1.kind), (cI x1.auth), (cI x1.sum)])), (3, (.box 58 [(cI s.sent), (.s 7 0 4 (((keepL (came seen) (s.kept.take q)).length) + 1))])), (1, (.box 58 [(cI 0), cN]))]) (Wanted.plain rfl) (g_storeB rfl rfl rfl rfl rfl sz56 rfl (Nat.le_of_ble_eq_true rfl) rfl) rfl rfl rfl rfl ?_
              refine AL.nil ?_
              refine block_ok ?_
              refine then_ok ?_
              refine AC.region ?_
              refine AL.val (Wanted.plain rfl) (g_binI rfl rfl rfl (wrap_ok (by first | omega | (simp; done) | (simp; omega)))) rfl rfl ?_
              refine AL.fast 1 rfl ?_
              refine AL.nil ?_
              refine then_ok ?_
              refine ⟨q + 1, by first | omega | trivial, by first | omega | (simp; done) | (simp; omega), Weak.ren (fun k => if k = 4 then 7 else k) (⟨by first | rfl | (simp only [AV.map, GV.map, CV.map, AB.map', id]; done) | (congr 3; omega) | (congr 4; omega) | (simp only [List.length_append, List.length_cons, List.length_nil, List.length_set]; rfl), by first | rfl | (simp only [AV.map, GV.map, CV.map, AB.map', id]; done) | (congr 3; omega) | (congr 4; omega) | (simp only [List.length_append, List.length_cons, List.length_nil, List.length_set]; rfl), by first | rfl | (simp only [AV.map, GV.map, CV.map, AB.map', id]; done) | (congr 3; omega) | (congr 4; omega) | (simp only [List.length_append, List.length_cons, List.length_nil, List.length_set]; rfl), by first | rfl | (simp only [AV.map, GV.map, CV.map, AB.map', id]; done) | (congr 3; omega) | (congr 4; omega) | (simp only [List.length_append, List.length_cons, List.length_nil, List.length_set]; rfl), by first | rfl | (simp only [AV.map, GV.map, CV.map, AB.map', id]; done) | (congr 3; omega) | (congr 4; omega) | (simp only [List.length_append, List.length_cons, List.length_nil, List.length_set]; rfl), by first | rfl | (simp only [AV.map, GV.map, CV.map, AB.map', id]; done) | (congr 3; omega) | (congr 4; omega) | (simp only [List.length_append, List.length_cons, List.length_nil, List.length_set]; rfl), by first | rfl | (simp only [AV.map, GV.map, CV.map, AB.map', id]; done) | (congr 3; omega) | (congr 4; omega) | (simp only [List.length_append, List.length_cons, List.length_nil, List.length_set]; rfl),  trivial⟩) (⟨by first | rfl | (simp only [AV.map, GV.map, CV.map, AB.map', id]; done) | (congr 3; omega) | (congr 4; omega) | (simp only [List.length_append, List.length_cons, List.length_nil, List.length_set]; rfl) | (first | (rw [keepL_take hx1, show came seen x1 = false by (simp only [came, decide_eq_false_iff_not]; omega), List.length_append]; rfl) | (rw [keepL_take hx1, show came seen x1 = true by (simp only [came, decide_eq_true_eq]; omega), List.length_append]; rfl) | (rw [keepL_take hx1, show came seen x1 = false by (simp only [came, decide_eq_false_iff_not]; omega)]; rfl) | (rw [keepL_take hx1, show came seen x1 = true by (simp only [came, decide_eq_true_eq]; omega), if_pos rfl, List.append_nil]; rfl)), by first | rfl | (simp only [AV.map, GV.map, CV.map, AB.map', id]; done) | (congr 3; omega) | (congr 4; omega) | (simp only [List.length_append, List.length_cons, List.length_nil, List.length_set]; rfl) | (first | (rw [keepL_take hx1, show came seen x1 = false by (simp only [came, decide_eq_false_iff_not]; omega), List.length_append]; rfl) | (rw [keepL_take hx1, show came seen x1 = true by (simp only [came, decide_eq_true_eq]; omega), List.length_append]; rfl) | (rw [keepL_take hx1, show came seen x1 = false by (simp only [came, decide_eq_false_iff_not]; omega)]; rfl) | (rw [keepL_take hx1, show came seen x1 = true by (simp only [came, decide_eq_true_eq]; omega), if_pos rfl, List.append_nil]; rfl)), by first | rfl | (simp only [AV.map, GV.map, CV.map, AB.map', id]; done) | (congr 3; omega) | (congr 4; omega) | (simp only [List.length_append, List.length_cons, List.length_nil, List.length_set]; rfl) | (first | (rw [keepL_take hx1, show came seen x1 = false by (simp only [came, decide_eq_false_iff_not]; omega), List.length_append]; rfl) | (rw [keepL_take hx1, show came seen x1 = true by (simp only [came, decide_eq_true_eq]; omega), List.length_append]; rfl) | (rw [keepL_take hx1, show came seen x1 = false by (simp only [came, decide_eq_false_iff_not]; omega)]; rfl) | (rw [keepL_take hx1, show came seen x1 = true by (simp only [came, decide_eq_true_eq]; omega), if_pos rfl, List.append_nil]; rfl)),  trivial⟩) rfl⟩
            ·
              have hc5' := hc5; try simp only [sumB, Bool.not_eq_true', Bool.not_eq_false', Bool.or_eq_true, Bool.or_eq_false_iff, Bool.and_eq_true, Bool.and_eq_false_imp, decide_eq_true_eq, decide_eq_false_iff_not, Bool.not_not, Bool.not_true, Bool.not_false] at hc5'
              refine AC.skip ?_
              refine block_ok ?_
              refine then_ok ?_
              refine AC.region ?_
              refine AL.val (Wanted.plain rfl) (g_binI rfl rfl rfl (wrap_ok (by first | omega | (simp; done) | (simp; omega)))) rfl rfl ?_
              refine AL.fast 1 rfl ?_
              refine AL.nil ?_
              refine then_ok ?_
              refine ⟨q + 1, by first | omega | trivial, by first | omega | (simp; done) | (simp; omega), Weak.ren id (⟨by first | rfl | (simp only [AV.map, GV.map, CV.map, AB.map', id]; done) | (congr 3; omega) | (congr 4; omega) | (simp only [List.length_append, List.length_cons, List.length_nil, List.length_set]; rfl), by first | rfl | (simp only [AV.map, GV.map, CV.map, AB.map', id]; done) | (congr 3; omega) | (congr 4; omega) | (simp only [List.length_append, List.length_cons, List.length_nil, List.length_set]; rfl), by first | rfl | (simp only [AV.map, GV.map, CV.map, AB.map', id]; done) | (congr 3; omega) | (congr 4; omega) | (simp only [List.length_append, List.length_cons, List.length_nil, List.length_set]; rfl), by first | rfl | (simp only [AV.map, GV.map, CV.map, AB.map', id]; done) | (congr 3; omega) | (congr 4; omega) | (simp only [List.length_append, List.length_cons, List.length_nil, List.length_set]; rfl), by first | rfl | (simp only [AV.map, GV.map, CV.map, AB.map', id]; done) | (congr 3; omega) | (congr 4; omega) | (simp only [List.length_append, List.length_cons, List.length_nil, List.length_set]; rfl), by first | rfl | (simp only [AV.map, GV.map, CV.map, AB.map', id]; done) | (congr 3; omega) | (congr 4; omega) | (simp only [List.length_append, List.length_cons, List.length_nil, List.length_set]; rfl), by first | rfl | (simp only [AV.map, GV.map, CV.map, AB.map', id]; done) | (congr 3; omega) | (congr 4; omega) | (simp only [List.length_append, List.length_cons, List.length_nil, List.length_set]; rfl),  trivial⟩) (⟨by first | rfl | (simp only [AV.map, GV.map, CV.map, AB.map', id]; done) | (congr 3; omega) | (congr 4; omega) | (simp only [List.length_append, List.length_cons, List.length_nil, List.length_set]; rfl) | (first | (rw [keepL_take hx1, show came seen x1 = false by (simp only [came, decide_eq_false_iff_not]; omega), List.length_append]; rfl) | (rw [keepL_take hx1, show came seen x1 = true by (simp only [came, decide_eq_true_eq]; omega), List.length_append]; rfl) | (rw [keepL_take hx1, show came seen x1 = false by (simp only [came, decide_eq_false_iff_not]; omega)]; rfl) | (rw [keepL_take hx1, show came seen x1 = true by (simp only [came, decide_eq_true_eq]; omega), if_pos rfl, List.append_nil]; rfl)), by first | rfl | (simp only [AV.map, GV.map, CV.map, AB.map', id]; done) | (congr 3; omega) | (congr 4; omega) | (simp only [List.length_append, List.length_cons, List.length_nil, List.length_set]; rfl) | (first | (rw [keepL_take hx1, show came seen x1 = false by (simp only [came, decide_eq_false_iff_not]; omega), List.length_append]; rfl) | (rw [keepL_take hx1, show came seen x1 = true by (simp only [came, decide_eq_true_eq]; omega), List.length_append]; rfl) | (rw [keepL_take hx1, show came seen x1 = false by (simp only [came, decide_eq_false_iff_not]; omega)]; rfl) | (rw [keepL_take hx1, show came seen x1 = true by (simp only [came, decide_eq_true_eq]; omega), if_pos rfl, List.append_nil]; rfl)), by first | rfl | (simp only [AV.map, GV.map, CV.map, AB.map', id]; done) | (congr 3; omega) | (congr 4; omega) | (simp only [List.length_append, List.length_cons, List.length_nil, List.length_set]; rfl) | (first | (rw [keepL_take hx1, show came seen x1 = false by (simp only [came, decide_eq_false_iff_not]; omega), List.length_append]; rfl) | (rw [keepL_take hx1, show came seen x1 = true by (simp only [came, decide_eq_true_eq]; omega), List.length_append]; rfl) | (rw [keepL_take hx1, show came seen x1 = false by (simp only [came, decide_eq_false_iff_not]; omega)]; rfl) | (rw [keepL_take hx1, show came seen x1 = true by (simp only [came, decide_eq_true_eq]; omega), if_pos rfl, List.append_nil]; rfl)),  trivial⟩) rfl⟩
          ·
            have hc4' := hc4; try simp only [sumB, Bool.not_eq_true', Bool.not_eq_false', Bool.or_eq_true, Bool.or_eq_false_iff, Bool.and_eq_true, Bool.and_eq_false_imp, decide_eq_true_eq, decide_eq_false_iff_not, Bool.not_not, Bool.not_true, Bool.not_false] at hc4'
            refine AC.exit ?_
            refine then_exit ?_
            refine then_exit ?_
            refine block_hit ?_
            refine then_ok ?_
            refine AC.seq ?_
            refine AC.region ?_
            refine AL.val (Wanted.plain rfl) (g_loadBs rfl rfl rfl Try.underlying58 rfl sz58 rfl rfl) rfl rfl ?_
            refine AL.sto (h' := [(4, (.arr 60 4 ((keepL (came seen) (s.kept.take q)).map rTransfer))), (3, (.box 58 [(cI s.sent), (.s 4 0 4 ((keepL (came seen) (s.kept.take q)).length))])), (1, (.box 58 [(cI s.sent), (.s 4 0 4 ((keepL (came seen) (s.kept.take q)).length))]))]) (Wanted.plain rfl) (g_storeB rfl rfl rfl rfl rfl sz58 rfl (Nat.le_of_ble_eq_true rfl) rfl) rfl rfl rfl rfl ?_
            refine AL.fast 1 rfl ?_
            refine AL.nil ?_
            refine then_ok ?_
            refine AC.ret ?_
            have hX : backS s seen = ((⟨s.sent, keepL (came seen) (s.kept.take q)⟩ : Sender), 0) := by
              unfold backS; rw [if_neg (by omega), if_neg (by omega), List.take_of_length_le (by omega)]
            rw [hX] at hr; clear hX
            simp only [Prod.mk.injEq] at hr; obtain ⟨rfl, rfl⟩ := hr
            refine retQ_mk (av' := outOf [(.g [(cI s.sent), (.s 0 0 4 ((keepL (came seen) (s.kept.take q)).length))]), (.c (cI 0))]) (nb' := [(0, (.arr 60 4 ((keepL (came seen) (s.kept.take q)).map rTransfer)))]) (retQ_ret ⟨[(4, (aC (.p 1 0 0 0))), (5, (aI 0))], [(0, (.arr 60 4 ((keepL (came seen) (s.kept.take q)).map rTransfer))), (1, (.box 58 [(cI s.sent), (.s 0 0 4 ((keepL (came seen) (s.kept.take q)).length))]))], 2⟩ [.cell 4 58, .tmp 5] [(.g [(cI s.sent), (.s 0 0 4 ((keepL (came seen) (s.kept.take q)).length))]), (.c (cI 0))] (Weak.ren (fun k => if k = 0 then 4 else if k = 1 then 1 else k) (⟨by first | rfl | (simp only [AV.map, GV.map, CV.map, AB.map', id]; done) | (congr 3; omega) | (congr 4; omega) | (simp only [List.length_append, List.length_cons, List.length_nil, List.length_set]; rfl), by first | rfl | (simp only [AV.map, GV.map, CV.map, AB.map', id]; done) | (congr 3; omega) | (congr 4; omega) | (simp only [List.length_append, List.length_cons, List.length_nil, List.length_set]; rfl),  trivial⟩) (⟨by first | rfl | (simp only [AV.map, GV.map, CV.map, AB.map', id]; done) | (congr 3; omega) | (congr 4; omega) | (simp only [List.length_append, List.length_cons, List.length_nil, List.length_set]; rfl), by first | rfl | (simp only [AV.map, GV.map, CV.map, AB.map', id]; done) | (congr 3; omega) | (congr 4; omega) | (simp only [List.length_append, List.length_cons, List.length_nil, List.length_set]; rfl),  trivial⟩) rfl) rfl ⟨.agg rfl rfl (fun _ => run_isAgg Try.underlying58) sz58, .tmp rfl, trivial⟩ ⟨by first | rfl | (simp only [AV.map, GV.map, CV.map, AB.map', id]; done) | (congr 3; omega) | (congr 4; omega) | (simp only [List.length_append, List.length_cons, List.length_nil, List.length_set]; rfl),  trivial⟩) ?_ ?_
            · first | rfl | (simp [outOf, aC]; done) | (simp [outOf, aC]; omega)
            · first | rfl | (simp; done) | (simp; omega)
end Go.Proofs.Ytgmcdlfmifijlaa.Dev
