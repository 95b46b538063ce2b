/- post: Put, Back, Take; payref1. -/
import Derived.Test.YtgmcdlfmifijlaaDPost1
set_option linter.unusedVariables false
set_option linter.unusedSimpArgs false
namespace Go.Proofs.Ytgmcdlfmifijlaa.Dev
open Go.RowKit

set_option maxRecDepth 100000 in
set_option maxHeartbeats 1000000 in
theorem c_post_Put (s : Sender) (t : Transfer) (hI : ∀ t ∈ s.kept, InI t.number) (x : Sender) (e : Int) (hr : putS s t = (x, e)) : Fn Try.prog 50 [(.g [(cI s.sent), (cR 4 ((s.kept).map rTransfer))]), (.g [(cI t.number), (cI t.kind), (cI t.auth), (cI t.sum)])] (.t [(.g [(cI x.sent), (.s 0 0 4 x.kept.length)]), (.c (cI e))]) [(0, (.arr 60 4 ((x.kept).map rTransfer)))] := by
  refine Fn.mk' 40 [(0, (aG [(cI s.sent), (cR 4 ((s.kept).map rTransfer))])), (1, (aG [(cI t.number), (cI t.kind), (cI t.auth), (cI t.sum)]))] Try.func50 rfl rfl rfl rfl ?_
  intro W0 T0
  refine AC.lenG 0 1 rfl rfl (fun hlen0_1 => ?_)
  have hrs := @wrongS_iff s
  refine AC.seq ?_
  refine AC.region ?_
  refine AL.new (n' := 1) (Wanted.plain rfl) (g_boxS 0 rfl rfl) rfl rfl rfl ?_
  refine AL.new (n' := 2) (Wanted.plain rfl) (g_boxS 1 rfl rfl) rfl rfl rfl ?_
  refine AL.new (n' := 3) (Wanted.plain rfl) (g_alloc 2 rfl zv58 rfl rfl rfl) rfl rfl rfl ?_
  refine AL.fast 1 rfl ?_
  refine AL.nil ?_
  refine then_ok ?_
  refine AC.seq ?_
  refine AC.seq ?_
  refine AC.region ?_
  refine AL.val (Wanted.plain rfl) (g_loadBs rfl rfl rfl Try.underlying58 rfl sz58 rfl rfl) rfl rfl ?_
  obtain ⟨f0, hr0⟩ : ∃ (f0 : Fault), wrongSF s = f0 := ⟨_, rfl⟩
  have hq0 : (wrongSF s).err = f0.err := by rw [hr0]
  refine AL.call (n' := 3) (h' := [(2, (.box 58 [(cI 0), cN])), (1, (.box 60 [(cI t.number), (cI t.kind), (cI t.auth), (cI t.sum)])), (0, (.box 58 [(cI s.sent), (cR 4 ((s.kept).map rTransfer))]))]) (Wanted.plain rfl) (g_call 3 (c_post_Wrong s (by first | assumption | exact inI_out (by assumption) (by omega) | exact inI_back (by assumption) (by assumption) | (simp [InI]; done)) f0 hr0) en48 rfl rfl ⟨⟨_, rfl, .g ⟨.d _, .d _,  trivial⟩⟩,  trivial⟩ ⟨trivial, trivial,  trivial⟩ trivial rfl rfl rfl rfl) rfl rfl rfl rfl rfl ?_
  refine AL.new (n' := 4) (Wanted.plain rfl) (g_alloc 3 rfl zv47 rfl rfl rfl) rfl rfl rfl ?_
  refine AL.sto (h' := [(3, (.box 47 [(cI f0.err), (cI f0.at_)])), (2, (.box 58 [(cI 0), cN])), (1, (.box 60 [(cI t.number), (cI t.kind), (cI t.auth), (cI t.sum)])), (0, (.box 58 [(cI s.sent), (cR 4 ((s.kept).map rTransfer))]))]) (Wanted.plain rfl) (g_storeB rfl rfl rfl rfl rfl sz47 rfl (Nat.le_of_ble_eq_true rfl) rfl) rfl rfl rfl rfl ?_
  refine AL.nil ?_
  refine then_ok ?_
  refine AC.seq ?_
  refine AC.region ?_
  refine AL.val (Wanted.plain rfl) (g_fieldP rfl rfl Try.underlying47 rfl sz27 (by decide)) rfl rfl ?_
  refine AL.val (Wanted.plain rfl) (g_loadB rfl rfl rfl Try.underlying27 rfl rfl) rfl rfl ?_
  refine AL.val (Wanted.plain rfl) (g_binI rfl rfl rfl rfl) rfl rfl ?_
  refine AL.nil ?_
  refine then_ok ?_
  refine AC.cond rfl (fun hc1 => ?_) (fun hc1 => ?_)
  ·
    have hc1' := hc1; try simp only [sumB, Bool.not_eq_true', Bool.not_eq_false', Bool.or_eq_true, Bool.or_eq_false_iff, Bool.and_eq_true, Bool.and_eq_false_imp, decide_eq_true_eq, decide_eq_false_iff_not, Bool.not_not, Bool.not_true, Bool.not_false] at hc1'
    refine AC.seq ?_
    refine AC.weak (st' := ⟨[(2, (aC (.p 0 0 0 0))), (3, (aC (.p 1 0 0 0))), (4, (aC (.p 2 0 0 0))), (6, (aC (.p 3 0 0 0)))], [(3, (.box 47 [(cI f0.err), (cI f0.at_)])), (2, (.box 58 [(cI 0), cN])), (1, (.box 60 [(cI t.number), (cI t.kind), (cI t.auth), (cI t.sum)])), (0, (.box 58 [(cI s.sent), (cR 4 ((s.kept).map rTransfer))]))], 4⟩) (Weak.ren id (⟨by first | rfl | (simp only [AV.map, GV.map, CV.map, AB.map', id]; done) | (congr 3; omega) | (congr 4; omega) | (simp only [List.length_append, List.length_cons, List.length_nil, List.length_set]; rfl), by first | rfl | (simp only [AV.map, GV.map, CV.map, AB.map', id]; done) | (congr 3; omega) | (congr 4; omega) | (simp only [List.length_append, List.length_cons, List.length_nil, List.length_set]; rfl), by first | rfl | (simp only [AV.map, GV.map, CV.map, AB.map', id]; done) | (congr 3; omega) | (congr 4; omega) | (simp only [List.length_append, List.length_cons, List.length_nil, List.length_set]; rfl), by first | rfl | (simp only [AV.map, GV.map, CV.map, AB.map', id]; done) | (congr 3; omega) | (congr 4; omega) | (simp only [List.length_append, List.length_cons, List.length_nil, List.length_set]; rfl),  trivial⟩) (⟨by first | rfl | (simp only [AV.map, GV.map, CV.map, AB.map', id]; done) | (congr 3; omega) | (congr 4; omega) | (simp only [List.length_append, List.length_cons, List.length_nil, List.length_set]; rfl), by first | rfl | (simp only [AV.map, GV.map, CV.map, AB.map', id]; done) | (congr 3; omega) | (congr 4; omega) | (simp only [List.length_append, List.length_cons, List.length_nil, List.length_set]; rfl), by first | rfl | (simp only [AV.map, GV.map, CV.map, AB.map', id]; done) | (congr 3; omega) | (congr 4; omega) | (simp only [List.length_append, List.length_cons, List.length_nil, List.length_set]; rfl), by first | rfl | (simp only [AV.map, GV.map, CV.map, AB.map', id]; done) | (congr 3; omega) | (congr 4; omega) | (simp only [List.length_append, List.length_cons, List.length_nil, List.length_set]; rfl),  trivial⟩) rfl) ?_
    refine AC.drawW [⟨some 14, (aG [(cI 0), cN]), [], [], [], [], []⟩,
      ⟨some 15, (aC (.p 3 0 0 0)), [], [], [], [(6, (aC (.p 3 0 0 0)))], []⟩,
      ⟨some 16, (aI f0.err), [], [], [1], [(15, (aC (.p 3 0 0 0)))], [(3, (.box 47 [(cI f0.err), (cI f0.at_)]))]⟩,
      ⟨none, (.v (.c .any)), [(2, (.box 58 [(cI 0), cN]))], [2], [0], [(4, (aC (.p 2 0 0 0))), (14, (aG [(cI 0), cN]))], [(2, (.box 58 [(cI 0), cN]))]⟩,
      ⟨some 5, (aI f0.err), [], [], [2], [(16, (aI f0.err))], []⟩] ⟨[(2, (aC (.p 0 0 0 0))), (3, (aC (.p 1 0 0 0))), (4, (aC (.p 2 0 0 0))), (5, (aI f0.err))], [(2, (.box 58 [(cI 0), cN])), (1, (.box 60 [(cI t.number), (cI t.kind), (cI t.auth), (cI t.sum)])), (0, (.box 58 [(cI s.sent), (cR 4 ((s.kept).map rTransfer))]))], 4⟩ [4, 3, 2, 1, 0] mixed (by kernel_rfl) ?_ ?_ ?_ ?_
    · exact ⟨.inl ⟨(Wanted.plain rfl), GOp.cast (g_build (ys := []) rfl bld58 rfl trivial rfl rfl) rfl⟩,
      .inl ⟨(Wanted.plain rfl), GOp.cast (g_fieldP rfl rfl Try.underlying47 rfl sz27 (by decide)) rfl⟩,
      .inl ⟨(Wanted.plain rfl), GOp.cast (g_loadB rfl rfl rfl Try.underlying27 rfl rfl) rfl⟩,
      .inl ⟨(Wanted.plain rfl), GOp.cast (g_storeB rfl rfl rfl rfl rfl sz58 rfl (Nat.le_of_ble_eq_true rfl) rfl) rfl⟩,
      .inl ⟨(Wanted.plain rfl), GOp.cast (g_assign rfl rfl) rfl⟩,
       trivial⟩
    · exact ⟨⟨trivial, trivial⟩, ⟨⟨rfl,  trivial⟩, trivial⟩, ⟨⟨⟨_, rfl, rfl, rfl⟩,  trivial⟩, ⟨rfl,  trivial⟩⟩, ⟨⟨rfl, ⟨_, rfl, rfl, rfl⟩,  trivial⟩, ⟨rfl,  trivial⟩⟩, ⟨⟨⟨_, rfl, rfl, rfl⟩,  trivial⟩, trivial⟩,  trivial⟩
    · exact ⟨⟨rfl, rfl, rfl, ⟨_, rfl, rfl, rfl⟩,  trivial⟩, ⟨⟨_, rfl, .head _⟩, rfl, rfl,  trivial⟩⟩
    ·
      refine then_ok ?_
      refine AC.ret ?_
      refine then_ret ?_
      refine retQ_weak (Weak.nilB (n' := 5) (h' := [(4, (.arr 60 4 ((([] : List Transfer)).map rTransfer))), (2, (.box 58 [(cI 0), (.s 4 0 4 0)])), (1, (.box 60 [(cI t.number), (cI t.kind), (cI t.auth), (cI t.sum)])), (0, (.box 58 [(cI s.sent), (cR 4 ((s.kept).map rTransfer))]))]) 2 1 60 4 58 (by decide) rfl rfl rfl rfl rfl) ?_
      have hX : putS s t = ((⟨0, ([] : List Transfer)⟩ : Sender), f0.err) := by
        unfold putS; rw [if_pos (by omega), hr0]; rfl
      rw [hX] at hr; clear hX
      simp only [Prod.mk.injEq] at hr; obtain ⟨rfl, rfl⟩ := hr
      refine retQ_mk (av' := outOf [(.g [(cI 0), (.s 0 0 4 0)]), (.c (cI f0.err))]) (nb' := [(0, (.arr 60 4 ((([] : List Transfer)).map rTransfer)))]) (retQ_ret ⟨[(4, (aC (.p 1 0 0 0))), (5, (aI f0.err))], [(0, (.arr 60 4 ((([] : List Transfer)).map rTransfer))), (1, (.box 58 [(cI 0), (.s 0 0 4 0)]))], 2⟩ [.cell 4 58, .tmp 5] [(.g [(cI 0), (.s 0 0 4 0)]), (.c (cI f0.err))] (Weak.ren (fun k => if k = 0 then 4 else if k = 1 then 2 else k) (⟨by first | rfl | (simp only [AV.map, GV.map, CV.map, AB.map', id]; done) | (congr 3; omega) | (congr 4; omega) | (simp only [List.length_append, List.length_cons, List.length_nil, List.length_set]; rfl), by first | rfl | (simp only [AV.map, GV.map, CV.map, AB.map', id]; done) | (congr 3; omega) | (congr 4; omega) | (simp only [List.length_append, List.length_cons, List.length_nil, List.length_set]; rfl),  trivial⟩) (⟨by first | rfl | (simp only [AV.map, GV.map, CV.map, AB.map', id]; done) | (congr 3; omega) | (congr 4; omega) | (simp only [List.length_append, List.length_cons, List.length_nil, List.length_set]; rfl), by first | rfl | (simp only [AV.map, GV.map, CV.map, AB.map', id]; done) | (congr 3; omega) | (congr 4; omega) | (simp only [List.length_append, List.length_cons, List.length_nil, List.length_set]; rfl),  trivial⟩) rfl) rfl ⟨.agg rfl rfl (fun _ => run_isAgg Try.underlying58) sz58, .tmp rfl, trivial⟩ ⟨by first | rfl | (simp only [AV.map, GV.map, CV.map, AB.map', id]; done) | (congr 3; omega) | (congr 4; omega) | (simp only [List.length_append, List.length_cons, List.length_nil, List.length_set]; rfl),  trivial⟩) ?_ ?_
      · first | rfl | (simp [outOf, aC]; done) | (simp [outOf, aC]; omega)
      · first | rfl | (simp; done) | (simp; omega)
  ·
    have hc1' := hc1; try simp only [sumB, Bool.not_eq_true', Bool.not_eq_false', Bool.or_eq_true, Bool.or_eq_false_iff, Bool.and_eq_true, Bool.and_eq_false_imp, decide_eq_true_eq, decide_eq_false_iff_not, Bool.not_not, Bool.not_true, Bool.not_false] at hc1'
    refine AC.skip ?_
    refine then_ok ?_
    refine AC.seq ?_
    refine AC.region ?_
    refine AL.val (Wanted.plain rfl) (g_fieldP rfl rfl Try.underlying58 rfl sz3 (by decide)) rfl rfl ?_
    refine AL.val (Wanted.plain rfl) (g_loadB rfl rfl rfl Try.underlying3 rfl rfl) rfl rfl ?_
    refine AL.val (Wanted.plain rfl) (g_binI rfl rfl rfl (wrap_ok (by first | omega | (simp; done) | (simp; omega)))) rfl rfl ?_
    refine AL.val (Wanted.plain rfl) (g_fieldP rfl rfl Try.underlying60 rfl sz3 (by decide)) rfl rfl ?_
    refine AL.sto (h' := [(3, (.box 47 [(cI f0.err), (cI f0.at_)])), (2, (.box 58 [(cI 0), cN])), (1, (.box 60 [(cI (s.sent + 1)), (cI t.kind), (cI t.auth), (cI t.sum)])), (0, (.box 58 [(cI s.sent), (cR 4 ((s.kept).map rTransfer))]))]) (Wanted.plain rfl) (g_storeB rfl rfl rfl rfl rfl sz3 rfl (Nat.le_of_ble_eq_true rfl) rfl) rfl rfl rfl rfl ?_
    refine AL.nil ?_
    refine then_ok ?_
    refine AC.seq ?_
    refine AC.weak (st' := ⟨[(2, (aC (.p 0 0 0 0))), (3, (aC (.p 1 0 0 0))), (4, (aC (.p 2 0 0 0)))], [(2, (.box 58 [(cI 0), cN])), (1, (.box 60 [(cI (s.sent + 1)), (cI t.kind), (cI t.auth), (cI t.sum)])), (0, (.box 58 [(cI s.sent), (cR 4 ((s.kept).map rTransfer))]))], 4⟩) (Weak.ren id (⟨by first | rfl | (simp only [AV.map, GV.map, CV.map, AB.map', id]; done) | (congr 3; omega) | (congr 4; omega) | (simp only [List.length_append, List.length_cons, List.length_nil, List.length_set]; rfl), by first | rfl | (simp only [AV.map, GV.map, CV.map, AB.map', id]; done) | (congr 3; omega) | (congr 4; omega) | (simp only [List.length_append, List.length_cons, List.length_nil, List.length_set]; rfl), by first | rfl | (simp only [AV.map, GV.map, CV.map, AB.map', id]; done) | (congr 3; omega) | (congr 4; omega) | (simp only [List.length_append, List.length_cons, List.length_nil, List.length_set]; rfl),  trivial⟩) (⟨by first | rfl | (simp only [AV.map, GV.map, CV.map, AB.map', id]; done) | (congr 3; omega) | (congr 4; omega) | (simp only [List.length_append, List.length_cons, List.length_nil, List.length_set]; rfl), by first | rfl | (simp only [AV.map, GV.map, CV.map, AB.map', id]; done) | (congr 3; omega) | (congr 4; omega) | (simp only [List.length_append, List.length_cons, List.length_nil, List.length_set]; rfl), by first | rfl | (simp only [AV.map, GV.map, CV.map, AB.map', id]; done) | (congr 3; omega) | (congr 4; omega) | (simp only [List.length_append, List.length_cons, List.length_nil, List.length_set]; rfl),  trivial⟩) rfl) ?_
    refine AC.draw [⟨some 21, (aC (.p 0 0 0 0)), [], [], [], [(2, (aC (.p 0 0 0 0)))], [(0, (.box 58 [(cI s.sent), (cR 4 ((s.kept).map rTransfer))]))]⟩,
      ⟨some 22, (aI s.sent), [], [], [0], [(21, (aC (.p 0 0 0 0)))], [(0, (.box 58 [(cI s.sent), (cR 4 ((s.kept).map rTransfer))]))]⟩,
      ⟨some 23, (aI (s.sent + 1)), [], [], [1], [(22, (aI s.sent))], []⟩,
      ⟨some 24, (aC (.p 0 0 0 1)), [], [], [], [(2, (aC (.p 0 0 0 0)))], [(0, (.box 58 [(cI s.sent), (cR 4 ((s.kept).map rTransfer))]))]⟩,
      ⟨some 25, (aC (cR 4 ((s.kept).map rTransfer))), [], [], [3], [(24, (aC (.p 0 0 0 1)))], [(0, (.box 58 [(cI s.sent), (cR 4 ((s.kept).map rTransfer))]))]⟩,
      ⟨some 26, (aC (.s 4 0 4 s.kept.length)), [(4, (.arr 60 4 ((s.kept).map rTransfer)))], [], [4], [(25, (aC (cR 4 ((s.kept).map rTransfer))))], []⟩,
      ⟨some 27, (aG [(cI (s.sent + 1)), (cI t.kind), (cI t.auth), (cI t.sum)]), [], [], [], [(3, (aC (.p 1 0 0 0)))], [(1, (.box 60 [(cI (s.sent + 1)), (cI t.kind), (cI t.auth), (cI t.sum)]))]⟩,
      ⟨some 28, (aC (.s 5 0 4 1)), [(5, (.arr 60 4 (([(⟨s.sent + 1, t.kind, t.auth, t.sum⟩ : Transfer)]).map rTransfer)))], [], [6], [(27, (aG [(cI (s.sent + 1)), (cI t.kind), (cI t.auth), (cI t.sum)]))], []⟩,
      ⟨some 29, (aC (.s 6 0 4 (s.kept.length + 1))), [(6, (.arr 60 4 ((s.kept ++ ([(⟨s.sent + 1, t.kind, t.auth, t.sum⟩ : Transfer)])).map rTransfer)))], [4], [5, 7], [(26, (aC (.s 4 0 4 s.kept.length))), (28, (aC (.s 5 0 4 1)))], [(5, (.arr 60 4 (([(⟨s.sent + 1, t.kind, t.auth, t.sum⟩ : Transfer)]).map rTransfer))), (4, (.arr 60 4 ((s.kept).map rTransfer)))]⟩,
      ⟨some 30, (aG [(cI (s.sent + 1)), (.s 6 0 4 (s.kept.length + 1))]), [], [], [2, 8], [(23, (aI (s.sent + 1))), (29, (aC (.s 6 0 4 (s.kept.length + 1))))], [(6, (.arr 60 4 ((s.kept ++ ([(⟨s.sent + 1, t.kind, t.auth, t.sum⟩ : Transfer)])).map rTransfer)))]⟩,
      ⟨some 7, (aC (.p 7 0 0 0)), [(7, (.box 58 [(cI 0), cN]))], [], [], [], []⟩] ⟨[(2, (aC (.p 0 0 0 0))), (3, (aC (.p 1 0 0 0))), (4, (aC (.p 2 0 0 0))), (30, (aG [(cI (s.sent + 1)), (.s 6 0 4 (s.kept.length + 1))])), (7, (aC (.p 7 0 0 0)))], [(7, (.box 58 [(cI 0), cN])), (6, (.arr 60 4 ((s.kept ++ ([(⟨s.sent + 1, t.kind, t.auth, t.sum⟩ : Transfer)])).map rTransfer))), (2, (.box 58 [(cI 0), cN])), (1, (.box 60 [(cI (s.sent + 1)), (cI t.kind), (cI t.auth), (cI t.sum)])), (0, (.box 58 [(cI s.sent), (cR 4 ((s.kept).map rTransfer))]))], 8⟩ mixed (by kernel_rfl) ?_ ?_ ?_ ?_
    · exact ⟨.inl ⟨(Wanted.plain rfl), GOp.cast (g_fieldP rfl rfl Try.underlying58 rfl sz3 (by decide)) rfl⟩,
      .inl ⟨(Wanted.plain rfl), GOp.cast (g_loadB rfl rfl rfl Try.underlying3 rfl rfl) rfl⟩,
      .inl ⟨(Wanted.plain rfl), GOp.cast (g_binI rfl rfl rfl (wrap_ok (by first | omega | (simp; done) | (simp; omega)))) rfl⟩,
      .inl ⟨(Wanted.plain rfl), GOp.cast (g_fieldP rfl rfl Try.underlying58 rfl sz56 (by decide)) rfl⟩,
      .inl ⟨(Wanted.plain rfl), GOp.cast (g_loadB rfl rfl rfl Try.underlying56 rfl rfl) rfl⟩,
      .inl ⟨(Wanted.plain rfl), GOp.cast (g_call 4 (c_Clone_Transfer s.kept (by first | omega | (simp; done) | (simp; omega)) ) en108 rfl rfl ⟨⟨_, rfl, .c (.d _)⟩,  trivial⟩ trivial ⟨(fun _ _ _ _ => trivial),  trivial⟩ rfl rfl rfl rfl) rfl⟩,
      .inl ⟨(Wanted.plain rfl), GOp.cast (g_loadBs rfl rfl rfl Try.underlying60 rfl sz60 rfl rfl) rfl⟩,
      .inl ⟨(Wanted.plain rfl), GOp.cast (g_lit (ys := [(0, (.g [(cI (s.sent + 1)), (cI t.kind), (cI t.auth), (cI t.sum)]))]) (rows := ([(⟨s.sent + 1, t.kind, t.auth, t.sum⟩ : Transfer)]).map rTransfer) 5 sl56 rfl (by decide) ⟨⟨rfl, rfl⟩,  trivial⟩ rfl rfl rfl rfl) rfl⟩,
      .inl ⟨(Wanted.plain rfl), GOp.cast (g_append (m := 1) (N := s.kept.length + 1) (k2 := 6) (ys := ([(⟨s.sent + 1, t.kind, t.auth, t.sum⟩ : Transfer)]).map rTransfer) sl56 rfl rfl rfl rfl rfl rfl (by first | omega | (simp; done) | (simp; omega)) rfl (.s rfl (by first | omega | (simp; done) | (simp; omega))) (by first | omega | (simp; done) | (simp; omega)) (by first | omega | (simp; done) | (simp; omega)) appmap (by decide) (by first | omega | (simp; done) | (simp; omega)) (by first | omega | (simp; done) | (simp; omega))) rfl⟩,
      .inl ⟨(Wanted.plain rfl), GOp.cast (g_build (ys := [(0, (.c (cI (s.sent + 1)))), (1, (.c (.s 6 0 4 (s.kept.length + 1))))]) rfl bld58 rfl ⟨⟨rfl, rfl⟩, ⟨rfl, rfl⟩,  trivial⟩ rfl rfl) rfl⟩,
      .inl ⟨(Wanted.plain rfl), GOp.cast (g_alloc 7 rfl zv58 rfl rfl rfl) rfl⟩,
       trivial⟩
    · exact ⟨⟨⟨.inl rfl,  trivial⟩, ⟨.inl rfl,  trivial⟩⟩, ⟨⟨.inr ⟨0, .head _, _, rfl, rfl, rfl⟩,  trivial⟩, ⟨.inl rfl,  trivial⟩⟩, ⟨⟨.inr ⟨1, .head _, _, rfl, rfl, rfl⟩,  trivial⟩, trivial⟩, ⟨⟨.inl rfl,  trivial⟩, ⟨.inl rfl,  trivial⟩⟩, ⟨⟨.inr ⟨3, .head _, _, rfl, rfl, rfl⟩,  trivial⟩, ⟨.inl rfl,  trivial⟩⟩, ⟨⟨.inr ⟨4, .head _, _, rfl, rfl, rfl⟩,  trivial⟩, trivial⟩, ⟨⟨.inl rfl,  trivial⟩, ⟨.inl rfl,  trivial⟩⟩, ⟨⟨.inr ⟨6, .head _, _, rfl, rfl, rfl⟩,  trivial⟩, trivial⟩, ⟨⟨.inr ⟨5, .head _, _, rfl, rfl, rfl⟩, .inr ⟨7, .tail _ (.head _), _, rfl, rfl, rfl⟩,  trivial⟩, ⟨.inr ⟨7, .tail _ (.head _), _, rfl, .head _⟩, .inr ⟨5, .head _, _, rfl, .head _⟩,  trivial⟩⟩, ⟨⟨.inr ⟨2, .head _, _, rfl, rfl, rfl⟩, .inr ⟨8, .tail _ (.head _), _, rfl, rfl, rfl⟩,  trivial⟩, ⟨.inr ⟨8, .tail _ (.head _), _, rfl, .head _⟩,  trivial⟩⟩, ⟨trivial, trivial⟩,  trivial⟩
    · exact ⟨⟨.inl rfl, .inl rfl, .inl rfl, .inr ⟨9, _, rfl, rfl, rfl⟩, .inr ⟨10, _, rfl, rfl, rfl⟩,  trivial⟩, ⟨.inr ⟨10, _, rfl, .head _⟩, .inr ⟨8, _, rfl, .head _⟩, .inl rfl, .inl rfl, .inl rfl,  trivial⟩⟩
    ·
      refine AL.sto (h' := [(7, (.box 58 [(cI (s.sent + 1)), (.s 6 0 4 (s.kept.length + 1))])), (6, (.arr 60 4 ((s.kept ++ ([(⟨s.sent + 1, t.kind, t.auth, t.sum⟩ : Transfer)])).map rTransfer))), (2, (.box 58 [(cI 0), cN])), (1, (.box 60 [(cI (s.sent + 1)), (cI t.kind), (cI t.auth), (cI t.sum)])), (0, (.box 58 [(cI s.sent), (cR 4 ((s.kept).map rTransfer))]))]) (Wanted.plain rfl) (g_storeB rfl rfl rfl rfl rfl sz58 rfl (Nat.le_of_ble_eq_true rfl) rfl) rfl rfl rfl rfl ?_
      refine AL.nil ?_
      refine then_ok ?_
      refine AC.seq ?_
      refine AC.seq ?_
      refine AC.region ?_
      refine AL.val (Wanted.plain rfl) (g_loadBs rfl rfl rfl Try.underlying58 rfl sz58 rfl rfl) rfl rfl ?_
      obtain ⟨f1, hr1⟩ : ∃ (f1 : Fault), wrongSF (⟨s.sent + 1, s.kept ++ ([(⟨s.sent + 1, t.kind, t.auth, t.sum⟩ : Transfer)])⟩ : Sender) = f1 := ⟨_, rfl⟩
      have hq1 : (wrongSF (⟨s.sent + 1, s.kept ++ ([(⟨s.sent + 1, t.kind, t.auth, t.sum⟩ : Transfer)])⟩ : Sender)).err = f1.err := by rw [hr1]
      refine AL.call (n' := 8) (h' := [(7, (.box 58 [(cI (s.sent + 1)), (.s 6 0 4 (s.kept.length + 1))])), (6, (.arr 60 4 ((s.kept ++ ([(⟨s.sent + 1, t.kind, t.auth, t.sum⟩ : Transfer)])).map rTransfer))), (2, (.box 58 [(cI 0), cN])), (1, (.box 60 [(cI (s.sent + 1)), (cI t.kind), (cI t.auth), (cI t.sum)])), (0, (.box 58 [(cI s.sent), (cR 4 ((s.kept).map rTransfer))]))]) (Wanted.plain rfl) (g_callE 8 [6] (c_post_Wrong (⟨s.sent + 1, s.kept ++ ([(⟨s.sent + 1, t.kind, t.auth, t.sum⟩ : Transfer)])⟩ : Sender) (by first | assumption | exact inI_out (by assumption) (by omega) | exact inI_back (by assumption) (by assumption) | (simp [InI]; done)) f1 hr1) en48 rfl rfl ⟨⟨_, rfl, .g ⟨.d _, .s rfl (by decide) (by first | omega | (simp; done) | (simp; omega)),  trivial⟩⟩,  trivial⟩ ⟨rfl, rfl,  trivial⟩ trivial rfl rfl rfl rfl) rfl rfl rfl rfl rfl ?_
      refine AL.new (n' := 9) (Wanted.plain rfl) (g_alloc 8 rfl zv47 rfl rfl rfl) rfl rfl rfl ?_
      refine AL.sto (h' := [(8, (.box 47 [(cI f1.err), (cI f1.at_)])), (7, (.box 58 [(cI (s.sent + 1)), (.s 6 0 4 (s.kept.length + 1))])), (6, (.arr 60 4 ((s.kept ++ ([(⟨s.sent + 1, t.kind, t.auth, t.sum⟩ : Transfer)])).map rTransfer))), (2, (.box 58 [(cI 0), cN])), (1, (.box 60 [(cI (s.sent + 1)), (cI t.kind), (cI t.auth), (cI t.sum)])), (0, (.box 58 [(cI s.sent), (cR 4 ((s.kept).map rTransfer))]))]) (Wanted.plain rfl) (g_storeB rfl rfl rfl rfl rfl sz47 rfl (Nat.le_of_ble_eq_true rfl) rfl) rfl rfl rfl rfl ?_
      refine AL.nil ?_
      refine then_ok ?_
      refine AC.seq ?_
      refine AC.region ?_
      refine AL.val (Wanted.plain rfl) (g_fieldP rfl rfl Try.underlying47 rfl sz27 (by decide)) rfl rfl ?_
      refine AL.val (Wanted.plain rfl) (g_loadB rfl rfl rfl Try.underlying27 rfl rfl) rfl rfl ?_
      refine AL.val (Wanted.plain rfl) (g_binI rfl rfl rfl rfl) rfl rfl ?_
      refine AL.nil ?_
      refine then_ok ?_
      refine AC.cond rfl (fun hc2 => ?_) (fun hc2 => ?_)
      ·
        have hc2' := hc2; try simp only [sumB, Bool.not_eq_true', Bool.not_eq_false', Bool.or_eq_true, Bool.or_eq_false_iff, Bool.and_eq_true, Bool.and_eq_false_imp, decide_eq_true_eq, decide_eq_false_iff_not, Bool.not_not, Bool.not_true, Bool.not_false] at hc2'
        refine AC.seq ?_
        refine AC.weak (st' := ⟨[(4, (aC (.p 2 0 0 0))), (7, (aC (.p 7 0 0 0))), (8, (aC (.p 8 0 0 0)))], [(8, (.box 47 [(cI f1.err), (cI f1.at_)])), (7, (.box 58 [(cI (s.sent + 1)), (.s 6 0 4 (s.kept.length + 1))])), (6, (.arr 60 4 ((s.kept ++ ([(⟨s.sent + 1, t.kind, t.auth, t.sum⟩ : Transfer)])).map rTransfer))), (2, (.box 58 [(cI 0), cN]))], 9⟩) (Weak.ren id (⟨by first | rfl | (simp only [AV.map, GV.map, CV.map, AB.map', id]; done) | (congr 3; omega) | (congr 4; omega) | (simp only [List.length_append, List.length_cons, List.length_nil, List.length_set]; rfl), by first | rfl | (simp only [AV.map, GV.map, CV.map, AB.map', id]; done) | (congr 3; omega) | (congr 4; omega) | (simp only [List.length_append, List.length_cons, List.length_nil, List.length_set]; rfl), by first | rfl | (simp only [AV.map, GV.map, CV.map, AB.map', id]; done) | (congr 3; omega) | (congr 4; omega) | (simp only [List.length_append, List.length_cons, List.length_nil, List.length_set]; rfl),  trivial⟩) (⟨by first | rfl | (simp only [AV.map, GV.map, CV.map, AB.map', id]; done) | (congr 3; omega) | (congr 4; omega) | (simp only [List.length_append, List.length_cons, List.length_nil, List.length_set]; rfl), by first | rfl | (simp only [AV.map, GV.map, CV.map, AB.map', id]; done) | (congr 3; omega) | (congr 4; omega) | (simp only [List.length_append, List.length_cons, List.length_nil, List.length_set]; rfl), by first | rfl | (simp only [AV.map, GV.map, CV.map, AB.map', id]; done) | (congr 3; omega) | (congr 4; omega) | (simp only [List.length_append, List.length_cons, List.length_nil, List.length_set]; rfl), by first | rfl | (simp only [AV.map, GV.map, CV.map, AB.map', id]; done) | (congr 3; omega) | (congr 4; omega) | (simp only [List.length_append, List.length_cons, List.length_nil, List.length_set]; rfl),  trivial⟩) rfl) ?_
        refine AC.drawW [⟨some 36, (aG [(cI 0), cN]), [], [], [], [], []⟩,
      ⟨some 37, (aC (.p 8 0 0 0)), [], [], [], [(8, (aC (.p 8 0 0 0)))], []⟩,
      ⟨some 38, (aI f1.err), [], [], [1], [(37, (aC (.p 8 0 0 0)))], [(8, (.box 47 [(cI f1.err), (cI f1.at_)]))]⟩,
      ⟨none, (.v (.c .any)), [(2, (.box 58 [(cI 0), cN]))], [2], [0], [(4, (aC (.p 2 0 0 0))), (36, (aG [(cI 0), cN]))], [(2, (.box 58 [(cI 0), cN]))]⟩,
      ⟨some 5, (aI f1.err), [], [], [2], [(38, (aI f1.err))], []⟩] ⟨[(4, (aC (.p 2 0 0 0))), (7, (aC (.p 7 0 0 0))), (5, (aI f1.err))], [(2, (.box 58 [(cI 0), cN])), (7, (.box 58 [(cI (s.sent + 1)), (.s 6 0 4 (s.kept.length + 1))])), (6, (.arr 60 4 ((s.kept ++ ([(⟨s.sent + 1, t.kind, t.auth, t.sum⟩ : Transfer)])).map rTransfer)))], 9⟩ [4, 3, 2, 1, 0] mixed (by kernel_rfl) ?_ ?_ ?_ ?_
        · exact ⟨.inl ⟨(Wanted.plain rfl), GOp.cast (g_build (ys := []) rfl bld58 rfl trivial rfl rfl) rfl⟩,
      .inl ⟨(Wanted.plain rfl), GOp.cast (g_fieldP rfl rfl Try.underlying47 rfl sz27 (by decide)) rfl⟩,
      .inl ⟨(Wanted.plain rfl), GOp.cast (g_loadB rfl rfl rfl Try.underlying27 rfl rfl) rfl⟩,
      .inl ⟨(Wanted.plain rfl), GOp.cast (g_storeB rfl rfl rfl rfl rfl sz58 rfl (Nat.le_of_ble_eq_true rfl) rfl) rfl⟩,
      .inl ⟨(Wanted.plain rfl), GOp.cast (g_assign rfl rfl) rfl⟩,
       trivial⟩
        · exact ⟨⟨trivial, trivial⟩, ⟨⟨rfl,  trivial⟩, trivial⟩, ⟨⟨⟨_, rfl, rfl, rfl⟩,  trivial⟩, ⟨rfl,  trivial⟩⟩, ⟨⟨rfl, ⟨_, rfl, rfl, rfl⟩,  trivial⟩, ⟨rfl,  trivial⟩⟩, ⟨⟨⟨_, rfl, rfl, rfl⟩,  trivial⟩, trivial⟩,  trivial⟩
        · exact ⟨⟨rfl, rfl, ⟨_, rfl, rfl, rfl⟩,  trivial⟩, ⟨⟨_, rfl, .head _⟩, rfl, rfl,  trivial⟩⟩
        ·
          refine then_ok ?_
          refine AC.ret ?_
          refine then_ret ?_
          refine retQ_weak (Weak.nilB (n' := 10) (h' := [(9, (.arr 60 4 ((([] : List Transfer)).map rTransfer))), (2, (.box 58 [(cI 0), (.s 9 0 4 0)])), (7, (.box 58 [(cI (s.sent + 1)), (.s 6 0 4 (s.kept.length + 1))])), (6, (.arr 60 4 ((s.kept ++ ([(⟨s.sent + 1, t.kind, t.auth, t.sum⟩ : Transfer)])).map rTransfer)))]) 2 1 60 4 58 (by decide) rfl rfl rfl rfl rfl) ?_
          have hX : putS s t = ((⟨0, ([] : List Transfer)⟩ : Sender), f1.err) := by
            have hout : wrongSF (outS s t) = f1 := hr1
            unfold putS; rw [if_neg (by omega), if_pos (by rw [hout]; omega), hout]; rfl
          rw [hX] at hr; clear hX
          simp only [Prod.mk.injEq] at hr; obtain ⟨rfl, rfl⟩ := hr
          refine retQ_mk (av' := outOf [(.g [(cI 0), (.s 0 0 4 0)]), (.c (cI f1.err))]) (nb' := [(0, (.arr 60 4 ((([] : List Transfer)).map rTransfer)))]) (retQ_ret ⟨[(4, (aC (.p 1 0 0 0))), (5, (aI f1.err))], [(0, (.arr 60 4 ((([] : List Transfer)).map rTransfer))), (1, (.box 58 [(cI 0), (.s 0 0 4 0)]))], 2⟩ [.cell 4 58, .tmp 5] [(.g [(cI 0), (.s 0 0 4 0)]), (.c (cI f1.err))] (Weak.ren (fun k => if k = 0 then 9 else if k = 1 then 2 else k) (⟨by first | rfl | (simp only [AV.map, GV.map, CV.map, AB.map', id]; done) | (congr 3; omega) | (congr 4; omega) | (simp only [List.length_append, List.length_cons, List.length_nil, List.length_set]; rfl), by first | rfl | (simp only [AV.map, GV.map, CV.map, AB.map', id]; done) | (congr 3; omega) | (congr 4; omega) | (simp only [List.length_append, List.length_cons, List.length_nil, List.length_set]; rfl),  trivial⟩) (⟨by first | rfl | (simp only [AV.map, GV.map, CV.map, AB.map', id]; done) | (congr 3; omega) | (congr 4; omega) | (simp only [List.length_append, List.length_cons, List.length_nil, List.length_set]; rfl), by first | rfl | (simp only [AV.map, GV.map, CV.map, AB.map', id]; done) | (congr 3; omega) | (congr 4; omega) | (simp only [List.length_append, List.length_cons, List.length_nil, List.length_set]; rfl),  trivial⟩) rfl) rfl ⟨.agg rfl rfl (fun _ => run_isAgg Try.underlying58) sz58, .tmp rfl, trivial⟩ ⟨by first | rfl | (simp only [AV.map, GV.map, CV.map, AB.map', id]; done) | (congr 3; omega) | (congr 4; omega) | (simp only [List.length_append, List.length_cons, List.length_nil, List.length_set]; rfl),  trivial⟩) ?_ ?_
          · first | rfl | (simp [outOf, aC]; done) | (simp [outOf, aC]; omega)
          · first | rfl | (simp; done) | (simp; omega)
      ·
        have hc2' := hc2; try simp only [sumB, Bool.not_eq_true', Bool.not_eq_false', Bool.or_eq_true, Bool.or_eq_false_iff, Bool.and_eq_true, Bool.and_eq_false_imp, decide_eq_true_eq, decide_eq_false_iff_not, Bool.not_not, Bool.not_true, Bool.not_false] at hc2'
        refine AC.skip ?_
        refine then_ok ?_
        refine AC.seq ?_
        refine AC.region ?_
        refine AL.val (Wanted.plain rfl) (g_loadBs rfl rfl rfl Try.underlying58 rfl sz58 rfl rfl) rfl rfl ?_
        refine AL.sto (h' := [(8, (.box 47 [(cI f1.err), (cI f1.at_)])), (7, (.box 58 [(cI (s.sent + 1)), (.s 6 0 4 (s.kept.length + 1))])), (6, (.arr 60 4 ((s.kept ++ ([(⟨s.sent + 1, t.kind, t.auth, t.sum⟩ : Transfer)])).map rTransfer))), (2, (.box 58 [(cI (s.sent + 1)), (.s 6 0 4 (s.kept.length + 1))])), (1, (.box 60 [(cI (s.sent + 1)), (cI t.kind), (cI t.auth), (cI t.sum)])), (0, (.box 58 [(cI s.sent), (cR 4 ((s.kept).map rTransfer))]))]) (Wanted.plain rfl) (g_storeB rfl rfl rfl rfl rfl sz58 rfl (Nat.le_of_ble_eq_true rfl) rfl) rfl rfl rfl rfl ?_
        refine AL.fast 1 rfl ?_
        refine AL.nil ?_
        refine then_ok ?_
        refine AC.ret ?_
        have hX : putS s t = ((⟨s.sent + 1, s.kept ++ ([(⟨s.sent + 1, t.kind, t.auth, t.sum⟩ : Transfer)])⟩ : Sender), 0) := by
          have hout : wrongSF (outS s t) = f1 := hr1
          unfold putS; rw [if_neg (by omega), if_neg (by rw [hout]; omega)]; rfl
        rw [hX] at hr; clear hX
        simp only [Prod.mk.injEq] at hr; obtain ⟨rfl, rfl⟩ := hr
        refine retQ_mk (av' := outOf [(.g [(cI (s.sent + 1)), (.s 0 0 4 (s.kept.length + 1))]), (.c (cI 0))]) (nb' := [(0, (.arr 60 4 ((s.kept ++ ([(⟨s.sent + 1, t.kind, t.auth, t.sum⟩ : Transfer)])).map rTransfer)))]) (retQ_ret ⟨[(4, (aC (.p 1 0 0 0))), (5, (aI 0))], [(0, (.arr 60 4 ((s.kept ++ ([(⟨s.sent + 1, t.kind, t.auth, t.sum⟩ : Transfer)])).map rTransfer))), (1, (.box 58 [(cI (s.sent + 1)), (.s 0 0 4 (s.kept.length + 1))]))], 2⟩ [.cell 4 58, .tmp 5] [(.g [(cI (s.sent + 1)), (.s 0 0 4 (s.kept.length + 1))]), (.c (cI 0))] (Weak.ren (fun k => if k = 0 then 6 else if k = 1 then 2 else k) (⟨by first | rfl | (simp only [AV.map, GV.map, CV.map, AB.map', id]; done) | (congr 3; omega) | (congr 4; omega) | (simp only [List.length_append, List.length_cons, List.length_nil, List.length_set]; rfl), by first | rfl | (simp only [AV.map, GV.map, CV.map, AB.map', id]; done) | (congr 3; omega) | (congr 4; omega) | (simp only [List.length_append, List.length_cons, List.length_nil, List.length_set]; rfl),  trivial⟩) (⟨by first | rfl | (simp only [AV.map, GV.map, CV.map, AB.map', id]; done) | (congr 3; omega) | (congr 4; omega) | (simp only [List.length_append, List.length_cons, List.length_nil, List.length_set]; rfl), by first | rfl | (simp only [AV.map, GV.map, CV.map, AB.map', id]; done) | (congr 3; omega) | (congr 4; omega) | (simp only [List.length_append, List.length_cons, List.length_nil, List.length_set]; rfl),  trivial⟩) rfl) rfl ⟨.agg rfl rfl (fun _ => run_isAgg Try.underlying58) sz58, .tmp rfl, trivial⟩ ⟨by first | rfl | (simp only [AV.map, GV.map, CV.map, AB.map', id]; done) | (congr 3; omega) | (congr 4; omega) | (simp only [List.length_append, List.length_cons, List.length_nil, List.length_set]; rfl),  trivial⟩) ?_ ?_
        · first | rfl | (simp [outOf, aC]; done) | (simp [outOf, aC]; omega)
        · first | rfl | (simp; done) | (simp; omega)
set_option maxRecDepth 100000 in
set_option maxHeartbeats 1000000 in
theorem c_ref_Put (s : Sender) (t : Transfer) (hI : ∀ t ∈ s.kept, InI t.number) (x : Sender) (e : Int) (hr : putS s t = (x, e)) : Fn Try.prog 51 [(.g [(cI s.sent), (cR 4 ((s.kept).map rTransfer))]), (.g [(cI t.number), (cI t.kind), (cI t.auth), (cI t.sum)])] (.t [(.g [(cI x.sent), (.s 0 0 4 x.kept.length)]), (.c (cI e))]) [(0, (.arr 60 4 ((x.kept).map rTransfer)))] := by
  refine Fn.mk' 40 [(0, (aG [(cI s.sent), (cR 4 ((s.kept).map rTransfer))])), (1, (aG [(cI t.number), (cI t.kind), (cI t.auth), (cI t.sum)]))] Try.func51 rfl rfl rfl rfl ?_
  intro W0 T0
  refine AC.lenG 0 1 rfl rfl (fun hlen0_1 => ?_)
  have hrs := @wrongS_iff s
  refine AC.seq ?_
  refine AC.region ?_
  refine AL.new (n' := 1) (Wanted.plain rfl) (g_boxS 0 rfl rfl) rfl rfl rfl ?_
  refine AL.new (n' := 2) (Wanted.plain rfl) (g_boxS 1 rfl rfl) rfl rfl rfl ?_
  refine AL.new (n' := 3) (Wanted.plain rfl) (g_alloc 2 rfl zv58 rfl rfl rfl) rfl rfl rfl ?_
  refine AL.fast 1 rfl ?_
  refine AL.nil ?_
  refine then_ok ?_
  refine AC.seq ?_
  refine AC.seq ?_
  refine AC.region ?_
  refine AL.val (Wanted.plain rfl) (g_loadBs rfl rfl rfl Try.underlying58 rfl sz58 rfl rfl) rfl rfl ?_
  obtain ⟨f0, hr0⟩ : ∃ (f0 : Fault), wrongSF s = f0 := ⟨_, rfl⟩
  have hq0 : (wrongSF s).err = f0.err := by rw [hr0]
  refine AL.call (n' := 3) (h' := [(2, (.box 58 [(cI 0), cN])), (1, (.box 60 [(cI t.number), (cI t.kind), (cI t.auth), (cI t.sum)])), (0, (.box 58 [(cI s.sent), (cR 4 ((s.kept).map rTransfer))]))]) (Wanted.plain rfl) (g_call 3 (c_ref_WrongSender s (by first | assumption | exact inI_out (by assumption) (by omega) | exact inI_back (by assumption) (by assumption) | (simp [InI]; done)) f0 hr0) en49 rfl rfl ⟨⟨_, rfl, .g ⟨.d _, .d _,  trivial⟩⟩,  trivial⟩ ⟨trivial, trivial,  trivial⟩ trivial rfl rfl rfl rfl) rfl rfl rfl rfl rfl ?_
  refine AL.new (n' := 4) (Wanted.plain rfl) (g_alloc 3 rfl zv47 rfl rfl rfl) rfl rfl rfl ?_
  refine AL.sto (h' := [(3, (.box 47 [(cI f0.err), (cI f0.at_)])), (2, (.box 58 [(cI 0), cN])), (1, (.box 60 [(cI t.number), (cI t.kind), (cI t.auth), (cI t.sum)])), (0, (.box 58 [(cI s.sent), (cR 4 ((s.kept).map rTransfer))]))]) (Wanted.plain rfl) (g_storeB rfl rfl rfl rfl rfl sz47 rfl (Nat.le_of_ble_eq_true rfl) rfl) rfl rfl rfl rfl ?_
  refine AL.nil ?_
  refine then_ok ?_
  refine AC.seq ?_
  refine AC.region ?_
  refine AL.val (Wanted.plain rfl) (g_fieldP rfl rfl Try.underlying47 rfl sz27 (by decide)) rfl rfl ?_
  refine AL.val (Wanted.plain rfl) (g_loadB rfl rfl rfl Try.underlying27 rfl rfl) rfl rfl ?_
  refine AL.val (Wanted.plain rfl) (g_binI rfl rfl rfl rfl) rfl rfl ?_
  refine AL.nil ?_
  refine then_ok ?_
  refine AC.cond rfl (fun hc1 => ?_) (fun hc1 => ?_)
  ·
    have hc1' := hc1; try simp only [sumB, Bool.not_eq_true', Bool.not_eq_false', Bool.or_eq_true, Bool.or_eq_false_iff, Bool.and_eq_true, Bool.and_eq_false_imp, decide_eq_true_eq, decide_eq_false_iff_not, Bool.not_not, Bool.not_true, Bool.not_false] at hc1'
    refine AC.seq ?_
    refine AC.weak (st' := ⟨[(2, (aC (.p 0 0 0 0))), (3, (aC (.p 1 0 0 0))), (4, (aC (.p 2 0 0 0))), (6, (aC (.p 3 0 0 0)))], [(3, (.box 47 [(cI f0.err), (cI f0.at_)])), (2, (.box 58 [(cI 0), cN])), (1, (.box 60 [(cI t.number), (cI t.kind), (cI t.auth), (cI t.sum)])), (0, (.box 58 [(cI s.sent), (cR 4 ((s.kept).map rTransfer))]))], 4⟩) (Weak.ren id (⟨by first | rfl | (simp only [AV.map, GV.map, CV.map, AB.map', id]; done) | (congr 3; omega) | (congr 4; omega) | (simp only [List.length_append, List.length_cons, List.length_nil, List.length_set]; rfl), by first | rfl | (simp only [AV.map, GV.map, CV.map, AB.map', id]; done) | (congr 3; omega) | (congr 4; omega) | (simp only [List.length_append, List.length_cons, List.length_nil, List.length_set]; rfl), by first | rfl | (simp only [AV.map, GV.map, CV.map, AB.map', id]; done) | (congr 3; omega) | (congr 4; omega) | (simp only [List.length_append, List.length_cons, List.length_nil, List.length_set]; rfl), by first | rfl | (simp only [AV.map, GV.map, CV.map, AB.map', id]; done) | (congr 3; omega) | (congr 4; omega) | (simp only [List.length_append, List.length_cons, List.length_nil, List.length_set]; rfl),  trivial⟩) (⟨by first | rfl | (simp only [AV.map, GV.map, CV.map, AB.map', id]; done) | (congr 3; omega) | (congr 4; omega) | (simp only [List.length_append, List.length_cons, List.length_nil, List.length_set]; rfl), by first | rfl | (simp only [AV.map, GV.map, CV.map, AB.map', id]; done) | (congr 3; omega) | (congr 4; omega) | (simp only [List.length_append, List.length_cons, List.length_nil, List.length_set]; rfl), by first | rfl | (simp only [AV.map, GV.map, CV.map, AB.map', id]; done) | (congr 3; omega) | (congr 4; omega) | (simp only [List.length_append, List.length_cons, List.length_nil, List.length_set]; rfl), by first | rfl | (simp only [AV.map, GV.map, CV.map, AB.map', id]; done) | (congr 3; omega) | (congr 4; omega) | (simp only [List.length_append, List.length_cons, List.length_nil, List.length_set]; rfl),  trivial⟩) rfl) ?_
    refine AC.drawW [⟨some 14, (aG [(cI 0), cN]), [], [], [], [], []⟩,
      ⟨some 15, (aC (.p 3 0 0 0)), [], [], [], [(6, (aC (.p 3 0 0 0)))], []⟩,
      ⟨some 16, (aI f0.err), [], [], [1], [(15, (aC (.p 3 0 0 0)))], [(3, (.box 47 [(cI f0.err), (cI f0.at_)]))]⟩,
      ⟨none, (.v (.c .any)), [(2, (.box 58 [(cI 0), cN]))], [2], [0], [(4, (aC (.p 2 0 0 0))), (14, (aG [(cI 0), cN]))], [(2, (.box 58 [(cI 0), cN]))]⟩,
      ⟨some 5, (aI f0.err), [], [], [2], [(16, (aI f0.err))], []⟩] ⟨[(2, (aC (.p 0 0 0 0))), (3, (aC (.p 1 0 0 0))), (4, (aC (.p 2 0 0 0))), (5, (aI f0.err))], [(2, (.box 58 [(cI 0), cN])), (1, (.box 60 [(cI t.number), (cI t.kind), (cI t.auth), (cI t.sum)])), (0, (.box 58 [(cI s.sent), (cR 4 ((s.kept).map rTransfer))]))], 4⟩ [4, 3, 2, 1, 0] mixed (by kernel_rfl) ?_ ?_ ?_ ?_
    · exact ⟨.inl ⟨(Wanted.plain rfl), GOp.cast (g_build (ys := []) rfl bld58 rfl trivial rfl rfl) rfl⟩,
      .inl ⟨(Wanted.plain rfl), GOp.cast (g_fieldP rfl rfl Try.underlying47 rfl sz27 (by decide)) rfl⟩,
      .inl ⟨(Wanted.plain rfl), GOp.cast (g_loadB rfl rfl rfl Try.underlying27 rfl rfl) rfl⟩,
      .inl ⟨(Wanted.plain rfl), GOp.cast (g_storeB rfl rfl rfl rfl rfl sz58 rfl (Nat.le_of_ble_eq_true rfl) rfl) rfl⟩,
      .inl ⟨(Wanted.plain rfl), GOp.cast (g_assign rfl rfl) rfl⟩,
       trivial⟩
    · exact ⟨⟨trivial, trivial⟩, ⟨⟨rfl,  trivial⟩, trivial⟩, ⟨⟨⟨_, rfl, rfl, rfl⟩,  trivial⟩, ⟨rfl,  trivial⟩⟩, ⟨⟨rfl, ⟨_, rfl, rfl, rfl⟩,  trivial⟩, ⟨rfl,  trivial⟩⟩, ⟨⟨⟨_, rfl, rfl, rfl⟩,  trivial⟩, trivial⟩,  trivial⟩
    · exact ⟨⟨rfl, rfl, rfl, ⟨_, rfl, rfl, rfl⟩,  trivial⟩, ⟨⟨_, rfl, .head _⟩, rfl, rfl,  trivial⟩⟩
    ·
      refine then_ok ?_
      refine AC.ret ?_
      refine then_ret ?_
      refine retQ_weak (Weak.nilB (n' := 5) (h' := [(4, (.arr 60 4 ((([] : List Transfer)).map rTransfer))), (2, (.box 58 [(cI 0), (.s 4 0 4 0)])), (1, (.box 60 [(cI t.number), (cI t.kind), (cI t.auth), (cI t.sum)])), (0, (.box 58 [(cI s.sent), (cR 4 ((s.kept).map rTransfer))]))]) 2 1 60 4 58 (by decide) rfl rfl rfl rfl rfl) ?_
      have hX : putS s t = ((⟨0, ([] : List Transfer)⟩ : Sender), f0.err) := by
        unfold putS; rw [if_pos (by omega), hr0]; rfl
      rw [hX] at hr; clear hX
      simp only [Prod.mk.injEq] at hr; obtain ⟨rfl, rfl⟩ := hr
      refine retQ_mk (av' := outOf [(.g [(cI 0), (.s 0 0 4 0)]), (.c (cI f0.err))]) (nb' := [(0, (.arr 60 4 ((([] : List Transfer)).map rTransfer)))]) (retQ_ret ⟨[(4, (aC (.p 1 0 0 0))), (5, (aI f0.err))], [(0, (.arr 60 4 ((([] : List Transfer)).map rTransfer))), (1, (.box 58 [(cI 0), (.s 0 0 4 0)]))], 2⟩ [.cell 4 58, .tmp 5] [(.g [(cI 0), (.s 0 0 4 0)]), (.c (cI f0.err))] (Weak.ren (fun k => if k = 0 then 4 else if k = 1 then 2 else k) (⟨by first | rfl | (simp only [AV.map, GV.map, CV.map, AB.map', id]; done) | (congr 3; omega) | (congr 4; omega) | (simp only [List.length_append, List.length_cons, List.length_nil, List.length_set]; rfl), by first | rfl | (simp only [AV.map, GV.map, CV.map, AB.map', id]; done) | (congr 3; omega) | (congr 4; omega) | (simp only [List.length_append, List.length_cons, List.length_nil, List.length_set]; rfl),  trivial⟩) (⟨by first | rfl | (simp only [AV.map, GV.map, CV.map, AB.map', id]; done) | (congr 3; omega) | (congr 4; omega) | (simp only [List.length_append, List.length_cons, List.length_nil, List.length_set]; rfl), by first | rfl | (simp only [AV.map, GV.map, CV.map, AB.map', id]; done) | (congr 3; omega) | (congr 4; omega) | (simp only [List.length_append, List.length_cons, List.length_nil, List.length_set]; rfl),  trivial⟩) rfl) rfl ⟨.agg rfl rfl (fun _ => run_isAgg Try.underlying58) sz58, .tmp rfl, trivial⟩ ⟨by first | rfl | (simp only [AV.map, GV.map, CV.map, AB.map', id]; done) | (congr 3; omega) | (congr 4; omega) | (simp only [List.length_append, List.length_cons, List.length_nil, List.length_set]; rfl),  trivial⟩) ?_ ?_
      · first | rfl | (simp [outOf, aC]; done) | (simp [outOf, aC]; omega)
      · first | rfl | (simp; done) | (simp; omega)
  ·
    have hc1' := hc1; try simp only [sumB, Bool.not_eq_true', Bool.not_eq_false', Bool.or_eq_true, Bool.or_eq_false_iff, Bool.and_eq_true, Bool.and_eq_false_imp, decide_eq_true_eq, decide_eq_false_iff_not, Bool.not_not, Bool.not_true, Bool.not_false] at hc1'
    refine AC.skip ?_
    refine then_ok ?_
    refine AC.seq ?_
    refine AC.region ?_
    refine AL.val (Wanted.plain rfl) (g_fieldP rfl rfl Try.underlying58 rfl sz3 (by decide)) rfl rfl ?_
    refine AL.val (Wanted.plain rfl) (g_loadB rfl rfl rfl Try.underlying3 rfl rfl) rfl rfl ?_
    refine AL.val (Wanted.plain rfl) (g_binI rfl rfl rfl (wrap_ok (by first | omega | (simp; done) | (simp; omega)))) rfl rfl ?_
    refine AL.val (Wanted.plain rfl) (g_fieldP rfl rfl Try.underlying60 rfl sz3 (by decide)) rfl rfl ?_
    refine AL.sto (h' := [(3, (.box 47 [(cI f0.err), (cI f0.at_)])), (2, (.box 58 [(cI 0), cN])), (1, (.box 60 [(cI (s.sent + 1)), (cI t.kind), (cI t.auth), (cI t.sum)])), (0, (.box 58 [(cI s.sent), (cR 4 ((s.kept).map rTransfer))]))]) (Wanted.plain rfl) (g_storeB rfl rfl rfl rfl rfl sz3 rfl (Nat.le_of_ble_eq_true rfl) rfl) rfl rfl rfl rfl ?_
    refine AL.nil ?_
    refine then_ok ?_
    refine AC.seq ?_
    refine AC.weak (st' := ⟨[(2, (aC (.p 0 0 0 0))), (3, (aC (.p 1 0 0 0))), (4, (aC (.p 2 0 0 0)))], [(2, (.box 58 [(cI 0), cN])), (1, (.box 60 [(cI (s.sent + 1)), (cI t.kind), (cI t.auth), (cI t.sum)])), (0, (.box 58 [(cI s.sent), (cR 4 ((s.kept).map rTransfer))]))], 4⟩) (Weak.ren id (⟨by first | rfl | (simp only [AV.map, GV.map, CV.map, AB.map', id]; done) | (congr 3; omega) | (congr 4; omega) | (simp only [List.length_append, List.length_cons, List.length_nil, List.length_set]; rfl), by first | rfl | (simp only [AV.map, GV.map, CV.map, AB.map', id]; done) | (congr 3; omega) | (congr 4; omega) | (simp only [List.length_append, List.length_cons, List.length_nil, List.length_set]; rfl), by first | rfl | (simp only [AV.map, GV.map, CV.map, AB.map', id]; done) | (congr 3; omega) | (congr 4; omega) | (simp only [List.length_append, List.length_cons, List.length_nil, List.length_set]; rfl),  trivial⟩) (⟨by first | rfl | (simp only [AV.map, GV.map, CV.map, AB.map', id]; done) | (congr 3; omega) | (congr 4; omega) | (simp only [List.length_append, List.length_cons, List.length_nil, List.length_set]; rfl), by first | rfl | (simp only [AV.map, GV.map, CV.map, AB.map', id]; done) | (congr 3; omega) | (congr 4; omega) | (simp only [List.length_append, List.length_cons, List.length_nil, List.length_set]; rfl), by first | rfl | (simp only [AV.map, GV.map, CV.map, AB.map', id]; done) | (congr 3; omega) | (congr 4; omega) | (simp only [List.length_append, List.length_cons, List.length_nil, List.length_set]; rfl),  trivial⟩) rfl) ?_
    refine AC.draw [⟨some 21, (aC (.p 1 0 0 0)), [], [], [], [(3, (aC (.p 1 0 0 0)))], [(1, (.box 60 [(cI (s.sent + 1)), (cI t.kind), (cI t.auth), (cI t.sum)]))]⟩,
      ⟨some 22, (aI (s.sent + 1)), [], [], [0], [(21, (aC (.p 1 0 0 0)))], [(1, (.box 60 [(cI (s.sent + 1)), (cI t.kind), (cI t.auth), (cI t.sum)]))]⟩,
      ⟨some 23, (aC (.s 4 0 4 0)), [(4, (.arr 60 4 ((([] : List Transfer)).map rTransfer)))], [], [], [], []⟩,
      ⟨some 24, (aC (.p 0 0 0 1)), [], [], [], [(2, (aC (.p 0 0 0 0)))], [(0, (.box 58 [(cI s.sent), (cR 4 ((s.kept).map rTransfer))]))]⟩,
      ⟨some 25, (aC (cR 4 ((s.kept).map rTransfer))), [], [], [3], [(24, (aC (.p 0 0 0 1)))], [(0, (.box 58 [(cI s.sent), (cR 4 ((s.kept).map rTransfer))]))]⟩,
      ⟨some 26, (aC (.s 5 0 4 s.kept.length)), [(5, (.arr 60 4 ((s.kept).map rTransfer)))], [4], [2, 4], [(23, (aC (.s 4 0 4 0))), (25, (aC (cR 4 ((s.kept).map rTransfer))))], [(4, (.arr 60 4 ((([] : List Transfer)).map rTransfer)))]⟩,
      ⟨some 27, (aG [(cI (s.sent + 1)), (cI t.kind), (cI t.auth), (cI t.sum)]), [], [], [], [(3, (aC (.p 1 0 0 0)))], [(1, (.box 60 [(cI (s.sent + 1)), (cI t.kind), (cI t.auth), (cI t.sum)]))]⟩,
      ⟨some 28, (aC (.s 6 0 4 1)), [(6, (.arr 60 4 (([(⟨s.sent + 1, t.kind, t.auth, t.sum⟩ : Transfer)]).map rTransfer)))], [], [6], [(27, (aG [(cI (s.sent + 1)), (cI t.kind), (cI t.auth), (cI t.sum)]))], []⟩,
      ⟨some 29, (aC (.s 7 0 4 (s.kept.length + 1))), [(7, (.arr 60 4 ((s.kept ++ ([(⟨s.sent + 1, t.kind, t.auth, t.sum⟩ : Transfer)])).map rTransfer)))], [5], [5, 7], [(26, (aC (.s 5 0 4 s.kept.length))), (28, (aC (.s 6 0 4 1)))], [(6, (.arr 60 4 (([(⟨s.sent + 1, t.kind, t.auth, t.sum⟩ : Transfer)]).map rTransfer))), (5, (.arr 60 4 ((s.kept).map rTransfer)))]⟩,
      ⟨some 30, (aG [(cI (s.sent + 1)), (.s 7 0 4 (s.kept.length + 1))]), [], [], [1, 8], [(22, (aI (s.sent + 1))), (29, (aC (.s 7 0 4 (s.kept.length + 1))))], [(7, (.arr 60 4 ((s.kept ++ ([(⟨s.sent + 1, t.kind, t.auth, t.sum⟩ : Transfer)])).map rTransfer)))]⟩,
      ⟨some 7, (aC (.p 8 0 0 0)), [(8, (.box 58 [(cI 0), cN]))], [], [], [], []⟩] ⟨[(2, (aC (.p 0 0 0 0))), (3, (aC (.p 1 0 0 0))), (4, (aC (.p 2 0 0 0))), (30, (aG [(cI (s.sent + 1)), (.s 7 0 4 (s.kept.length + 1))])), (7, (aC (.p 8 0 0 0)))], [(8, (.box 58 [(cI 0), cN])), (7, (.arr 60 4 ((s.kept ++ ([(⟨s.sent + 1, t.kind, t.auth, t.sum⟩ : Transfer)])).map rTransfer))), (2, (.box 58 [(cI 0), cN])), (1, (.box 60 [(cI (s.sent + 1)), (cI t.kind), (cI t.auth), (cI t.sum)])), (0, (.box 58 [(cI s.sent), (cR 4 ((s.kept).map rTransfer))]))], 9⟩ mixed (by kernel_rfl) ?_ ?_ ?_ ?_
    · exact ⟨.inl ⟨(Wanted.plain rfl), GOp.cast (g_fieldP rfl rfl Try.underlying60 rfl sz3 (by decide)) rfl⟩,
      .inl ⟨(Wanted.plain rfl), GOp.cast (g_loadB rfl rfl rfl Try.underlying3 rfl rfl) rfl⟩,
      .inl ⟨(Wanted.plain rfl), GOp.cast (g_lit (ys := []) (rows := (([] : List Transfer)).map rTransfer) 4 sl56 rfl (by decide) trivial rfl rfl rfl rfl) rfl⟩,
      .inl ⟨(Wanted.plain rfl), GOp.cast (g_fieldP rfl rfl Try.underlying58 rfl sz56 (by decide)) rfl⟩,
      .inl ⟨(Wanted.plain rfl), GOp.cast (g_loadB rfl rfl rfl Try.underlying56 rfl rfl) rfl⟩,
      .inl ⟨(Wanted.plain rfl), GOp.cast (g_append (m := s.kept.length) (N := s.kept.length) (k2 := 5) (ys := (s.kept).map rTransfer) sl56 rfl rfl rfl rfl rfl rfl (by first | omega | (simp; done) | (simp; omega)) rfl (.d _ _) (by first | omega | (simp; done) | (simp; omega)) (by first | omega | (simp; done) | (simp; omega)) rfl (by decide) (by first | omega | (simp; done) | (simp; omega)) (by first | omega | (simp; done) | (simp; omega))) rfl⟩,
      .inl ⟨(Wanted.plain rfl), GOp.cast (g_loadBs rfl rfl rfl Try.underlying60 rfl sz60 rfl rfl) rfl⟩,
      .inl ⟨(Wanted.plain rfl), GOp.cast (g_lit (ys := [(0, (.g [(cI (s.sent + 1)), (cI t.kind), (cI t.auth), (cI t.sum)]))]) (rows := ([(⟨s.sent + 1, t.kind, t.auth, t.sum⟩ : Transfer)]).map rTransfer) 6 sl56 rfl (by decide) ⟨⟨rfl, rfl⟩,  trivial⟩ rfl rfl rfl rfl) rfl⟩,
      .inl ⟨(Wanted.plain rfl), GOp.cast (g_append (m := 1) (N := s.kept.length + 1) (k2 := 7) (ys := ([(⟨s.sent + 1, t.kind, t.auth, t.sum⟩ : Transfer)]).map rTransfer) sl56 rfl rfl rfl rfl rfl rfl (by first | omega | (simp; done) | (simp; omega)) rfl (.s rfl (by first | omega | (simp; done) | (simp; omega))) (by first | omega | (simp; done) | (simp; omega)) (by first | omega | (simp; done) | (simp; omega)) appmap (by decide) (by first | omega | (simp; done) | (simp; omega)) (by first | omega | (simp; done) | (simp; omega))) rfl⟩,
      .inl ⟨(Wanted.plain rfl), GOp.cast (g_build (ys := [(0, (.c (cI (s.sent + 1)))), (1, (.c (.s 7 0 4 (s.kept.length + 1))))]) rfl bld58 rfl ⟨⟨rfl, rfl⟩, ⟨rfl, rfl⟩,  trivial⟩ rfl rfl) rfl⟩,
      .inl ⟨(Wanted.plain rfl), GOp.cast (g_alloc 8 rfl zv58 rfl rfl rfl) rfl⟩,
       trivial⟩
    · exact ⟨⟨⟨.inl rfl,  trivial⟩, ⟨.inl rfl,  trivial⟩⟩, ⟨⟨.inr ⟨0, .head _, _, rfl, rfl, rfl⟩,  trivial⟩, ⟨.inl rfl,  trivial⟩⟩, ⟨trivial, trivial⟩, ⟨⟨.inl rfl,  trivial⟩, ⟨.inl rfl,  trivial⟩⟩, ⟨⟨.inr ⟨3, .head _, _, rfl, rfl, rfl⟩,  trivial⟩, ⟨.inl rfl,  trivial⟩⟩, ⟨⟨.inr ⟨2, .head _, _, rfl, rfl, rfl⟩, .inr ⟨4, .tail _ (.head _), _, rfl, rfl, rfl⟩,  trivial⟩, ⟨.inr ⟨2, .head _, _, rfl, .head _⟩,  trivial⟩⟩, ⟨⟨.inl rfl,  trivial⟩, ⟨.inl rfl,  trivial⟩⟩, ⟨⟨.inr ⟨6, .head _, _, rfl, rfl, rfl⟩,  trivial⟩, trivial⟩, ⟨⟨.inr ⟨5, .head _, _, rfl, rfl, rfl⟩, .inr ⟨7, .tail _ (.head _), _, rfl, rfl, rfl⟩,  trivial⟩, ⟨.inr ⟨7, .tail _ (.head _), _, rfl, .head _⟩, .inr ⟨5, .head _, _, rfl, .head _⟩,  trivial⟩⟩, ⟨⟨.inr ⟨1, .head _, _, rfl, rfl, rfl⟩, .inr ⟨8, .tail _ (.head _), _, rfl, rfl, rfl⟩,  trivial⟩, ⟨.inr ⟨8, .tail _ (.head _), _, rfl, .head _⟩,  trivial⟩⟩, ⟨trivial, trivial⟩,  trivial⟩
    · exact ⟨⟨.inl rfl, .inl rfl, .inl rfl, .inr ⟨9, _, rfl, rfl, rfl⟩, .inr ⟨10, _, rfl, rfl, rfl⟩,  trivial⟩, ⟨.inr ⟨10, _, rfl, .head _⟩, .inr ⟨8, _, rfl, .head _⟩, .inl rfl, .inl rfl, .inl rfl,  trivial⟩⟩
    ·
      refine AL.sto (h' := [(8, (.box 58 [(cI (s.sent + 1)), (.s 7 0 4 (s.kept.length + 1))])), (7, (.arr 60 4 ((s.kept ++ ([(⟨s.sent + 1, t.kind, t.auth, t.sum⟩ : Transfer)])).map rTransfer))), (2, (.box 58 [(cI 0), cN])), (1, (.box 60 [(cI (s.sent + 1)), (cI t.kind), (cI t.auth), (cI t.sum)])), (0, (.box 58 [(cI s.sent), (cR 4 ((s.kept).map rTransfer))]))]) (Wanted.plain rfl) (g_storeB rfl rfl rfl rfl rfl sz58 rfl (Nat.le_of_ble_eq_true rfl) rfl) rfl rfl rfl rfl ?_
      refine AL.nil ?_
      refine then_ok ?_
      refine AC.seq ?_
      refine AC.seq ?_
      refine AC.region ?_
      refine AL.val (Wanted.plain rfl) (g_loadBs rfl rfl rfl Try.underlying58 rfl sz58 rfl rfl) rfl rfl ?_
      obtain ⟨f1, hr1⟩ : ∃ (f1 : Fault), wrongSF (⟨s.sent + 1, s.kept ++ ([(⟨s.sent + 1, t.kind, t.auth, t.sum⟩ : Transfer)])⟩ : Sender) = f1 := ⟨_, rfl⟩
      have hq1 : (wrongSF (⟨s.sent + 1, s.kept ++ ([(⟨s.sent + 1, t.kind, t.auth, t.sum⟩ : Transfer)])⟩ : Sender)).err = f1.err := by rw [hr1]
      refine AL.call (n' := 9) (h' := [(8, (.box 58 [(cI (s.sent + 1)), (.s 7 0 4 (s.kept.length + 1))])), (7, (.arr 60 4 ((s.kept ++ ([(⟨s.sent + 1, t.kind, t.auth, t.sum⟩ : Transfer)])).map rTransfer))), (2, (.box 58 [(cI 0), cN])), (1, (.box 60 [(cI (s.sent + 1)), (cI t.kind), (cI t.auth), (cI t.sum)])), (0, (.box 58 [(cI s.sent), (cR 4 ((s.kept).map rTransfer))]))]) (Wanted.plain rfl) (g_callE 9 [7] (c_ref_WrongSender (⟨s.sent + 1, s.kept ++ ([(⟨s.sent + 1, t.kind, t.auth, t.sum⟩ : Transfer)])⟩ : Sender) (by first | assumption | exact inI_out (by assumption) (by omega) | exact inI_back (by assumption) (by assumption) | (simp [InI]; done)) f1 hr1) en49 rfl rfl ⟨⟨_, rfl, .g ⟨.d _, .s rfl (by decide) (by first | omega | (simp; done) | (simp; omega)),  trivial⟩⟩,  trivial⟩ ⟨rfl, rfl,  trivial⟩ trivial rfl rfl rfl rfl) rfl rfl rfl rfl rfl ?_
      refine AL.new (n' := 10) (Wanted.plain rfl) (g_alloc 9 rfl zv47 rfl rfl rfl) rfl rfl rfl ?_
      refine AL.sto (h' := [(9, (.box 47 [(cI f1.err), (cI f1.at_)])), (8, (.box 58 [(cI (s.sent + 1)), (.s 7 0 4 (s.kept.length + 1))])), (7, (.arr 60 4 ((s.kept ++ ([(⟨s.sent + 1, t.kind, t.auth, t.sum⟩ : Transfer)])).map rTransfer))), (2, (.box 58 [(cI 0), cN])), (1, (.box 60 [(cI (s.sent + 1)), (cI t.kind), (cI t.auth), (cI t.sum)])), (0, (.box 58 [(cI s.sent), (cR 4 ((s.kept).map rTransfer))]))]) (Wanted.plain rfl) (g_storeB rfl rfl rfl rfl rfl sz47 rfl (Nat.le_of_ble_eq_true rfl) rfl) rfl rfl rfl rfl ?_
      refine AL.nil ?_
      refine then_ok ?_
      refine AC.seq ?_
      refine AC.region ?_
      refine AL.val (Wanted.plain rfl) (g_fieldP rfl rfl Try.underlying47 rfl sz27 (by decide)) rfl rfl ?_
      refine AL.val (Wanted.plain rfl) (g_loadB rfl rfl rfl Try.underlying27 rfl rfl) rfl rfl ?_
      refine AL.val (Wanted.plain rfl) (g_binI rfl rfl rfl rfl) rfl rfl ?_
      refine AL.nil ?_
      refine then_ok ?_
      refine AC.cond rfl (fun hc2 => ?_) (fun hc2 => ?_)
      ·
        have hc2' := hc2; try simp only [sumB, Bool.not_eq_true', Bool.not_eq_false', Bool.or_eq_true, Bool.or_eq_false_iff, Bool.and_eq_true, Bool.and_eq_false_imp, decide_eq_true_eq, decide_eq_false_iff_not, Bool.not_not, Bool.not_true, Bool.not_false] at hc2'
        refine AC.seq ?_
        refine AC.weak (st' := ⟨[(4, (aC (.p 2 0 0 0))), (7, (aC (.p 8 0 0 0))), (8, (aC (.p 9 0 0 0)))], [(9, (.box 47 [(cI f1.err), (cI f1.at_)])), (8, (.box 58 [(cI (s.sent + 1)), (.s 7 0 4 (s.kept.length + 1))])), (7, (.arr 60 4 ((s.kept ++ ([(⟨s.sent + 1, t.kind, t.auth, t.sum⟩ : Transfer)])).map rTransfer))), (2, (.box 58 [(cI 0), cN]))], 10⟩) (Weak.ren id (⟨by first | rfl | (simp only [AV.map, GV.map, CV.map, AB.map', id]; done) | (congr 3; omega) | (congr 4; omega) | (simp only [List.length_append, List.length_cons, List.length_nil, List.length_set]; rfl), by first | rfl | (simp only [AV.map, GV.map, CV.map, AB.map', id]; done) | (congr 3; omega) | (congr 4; omega) | (simp only [List.length_append, List.length_cons, List.length_nil, List.length_set]; rfl), by first | rfl | (simp only [AV.map, GV.map, CV.map, AB.map', id]; done) | (congr 3; omega) | (congr 4; omega) | (simp only [List.length_append, List.length_cons, List.length_nil, List.length_set]; rfl),  trivial⟩) (⟨by first | rfl | (simp only [AV.map, GV.map, CV.map, AB.map', id]; done) | (congr 3; omega) | (congr 4; omega) | (simp only [List.length_append, List.length_cons, List.length_nil, List.length_set]; rfl), by first | rfl | (simp only [AV.map, GV.map, CV.map, AB.map', id]; done) | (congr 3; omega) | (congr 4; omega) | (simp only [List.length_append, List.length_cons, List.length_nil, List.length_set]; rfl), by first | rfl | (simp only [AV.map, GV.map, CV.map, AB.map', id]; done) | (congr 3; omega) | (congr 4; omega) | (simp only [List.length_append, List.length_cons, List.length_nil, List.length_set]; rfl), by first | rfl | (simp only [AV.map, GV.map, CV.map, AB.map', id]; done) | (congr 3; omega) | (congr 4; omega) | (simp only [List.length_append, List.length_cons, List.length_nil, List.length_set]; rfl),  trivial⟩) rfl) ?_
        refine AC.drawW [⟨some 36, (aG [(cI 0), cN]), [], [], [], [], []⟩,
      ⟨some 37, (aC (.p 9 0 0 0)), [], [], [], [(8, (aC (.p 9 0 0 0)))], []⟩,
      ⟨some 38, (aI f1.err), [], [], [1], [(37, (aC (.p 9 0 0 0)))], [(9, (.box 47 [(cI f1.err), (cI f1.at_)]))]⟩,
      ⟨none, (.v (.c .any)), [(2, (.box 58 [(cI 0), cN]))], [2], [0], [(4, (aC (.p 2 0 0 0))), (36, (aG [(cI 0), cN]))], [(2, (.box 58 [(cI 0), cN]))]⟩,
      ⟨some 5, (aI f1.err), [], [], [2], [(38, (aI f1.err))], []⟩] ⟨[(4, (aC (.p 2 0 0 0))), (7, (aC (.p 8 0 0 0))), (5, (aI f1.err))], [(2, (.box 58 [(cI 0), cN])), (8, (.box 58 [(cI (s.sent + 1)), (.s 7 0 4 (s.kept.length + 1))])), (7, (.arr 60 4 ((s.kept ++ ([(⟨s.sent + 1, t.kind, t.auth, t.sum⟩ : Transfer)])).map rTransfer)))], 10⟩ [4, 3, 2, 1, 0] mixed (by kernel_rfl) ?_ ?_ ?_ ?_
        · exact ⟨.inl ⟨(Wanted.plain rfl), GOp.cast (g_build (ys := []) rfl bld58 rfl trivial rfl rfl) rfl⟩,
      .inl ⟨(Wanted.plain rfl), GOp.cast (g_fieldP rfl rfl Try.underlying47 rfl sz27 (by decide)) rfl⟩,
      .inl ⟨(Wanted.plain rfl), GOp.cast (g_loadB rfl rfl rfl Try.underlying27 rfl rfl) rfl⟩,
      .inl ⟨(Wanted.plain rfl), GOp.cast (g_storeB rfl rfl rfl rfl rfl sz58 rfl (Nat.le_of_ble_eq_true rfl) rfl) rfl⟩,
      .inl ⟨(Wanted.plain rfl), GOp.cast (g_assign rfl rfl) rfl⟩,
       trivial⟩
        · exact ⟨⟨trivial, trivial⟩, ⟨⟨rfl,  trivial⟩, trivial⟩, ⟨⟨⟨_, rfl, rfl, rfl⟩,  trivial⟩, ⟨rfl,  trivial⟩⟩, ⟨⟨rfl, ⟨_, rfl, rfl, rfl⟩,  trivial⟩, ⟨rfl,  trivial⟩⟩, ⟨⟨⟨_, rfl, rfl, rfl⟩,  trivial⟩, trivial⟩,  trivial⟩
        · exact ⟨⟨rfl, rfl, ⟨_, rfl, rfl, rfl⟩,  trivial⟩, ⟨⟨_, rfl, .head _⟩, rfl, rfl,  trivial⟩⟩
        ·
          refine then_ok ?_
          refine AC.ret ?_
          refine then_ret ?_
          refine retQ_weak (Weak.nilB (n' := 11) (h' := [(10, (.arr 60 4 ((([] : List Transfer)).map rTransfer))), (2, (.box 58 [(cI 0), (.s 10 0 4 0)])), (8, (.box 58 [(cI (s.sent + 1)), (.s 7 0 4 (s.kept.length + 1))])), (7, (.arr 60 4 ((s.kept ++ ([(⟨s.sent + 1, t.kind, t.auth, t.sum⟩ : Transfer)])).map rTransfer)))]) 2 1 60 4 58 (by decide) rfl rfl rfl rfl rfl) ?_
          have hX : putS s t = ((⟨0, ([] : List Transfer)⟩ : Sender), f1.err) := by
            have hout : wrongSF (outS s t) = f1 := hr1
            unfold putS; rw [if_neg (by omega), if_pos (by rw [hout]; omega), hout]; rfl
          rw [hX] at hr; clear hX
          simp only [Prod.mk.injEq] at hr; obtain ⟨rfl, rfl⟩ := hr
          refine retQ_mk (av' := outOf [(.g [(cI 0), (.s 0 0 4 0)]), (.c (cI f1.err))]) (nb' := [(0, (.arr 60 4 ((([] : List Transfer)).map rTransfer)))]) (retQ_ret ⟨[(4, (aC (.p 1 0 0 0))), (5, (aI f1.err))], [(0, (.arr 60 4 ((([] : List Transfer)).map rTransfer))), (1, (.box 58 [(cI 0), (.s 0 0 4 0)]))], 2⟩ [.cell 4 58, .tmp 5] [(.g [(cI 0), (.s 0 0 4 0)]), (.c (cI f1.err))] (Weak.ren (fun k => if k = 0 then 10 else if k = 1 then 2 else k) (⟨by first | rfl | (simp only [AV.map, GV.map, CV.map, AB.map', id]; done) | (congr 3; omega) | (congr 4; omega) | (simp only [List.length_append, List.length_cons, List.length_nil, List.length_set]; rfl), by first | rfl | (simp only [AV.map, GV.map, CV.map, AB.map', id]; done) | (congr 3; omega) | (congr 4; omega) | (simp only [List.length_append, List.length_cons, List.length_nil, List.length_set]; rfl),  trivial⟩) (⟨by first | rfl | (simp only [AV.map, GV.map, CV.map, AB.map', id]; done) | (congr 3; omega) | (congr 4; omega) | (simp only [List.length_append, List.length_cons, List.length_nil, List.length_set]; rfl), by first | rfl | (simp only [AV.map, GV.map, CV.map, AB.map', id]; done) | (congr 3; omega) | (congr 4; omega) | (simp only [List.length_append, List.length_cons, List.length_nil, List.length_set]; rfl),  trivial⟩) rfl) rfl ⟨.agg rfl rfl (fun _ => run_isAgg Try.underlying58) sz58, .tmp rfl, trivial⟩ ⟨by first | rfl | (simp only [AV.map, GV.map, CV.map, AB.map', id]; done) | (congr 3; omega) | (congr 4; omega) | (simp only [List.length_append, List.length_cons, List.length_nil, List.length_set]; rfl),  trivial⟩) ?_ ?_
          · first | rfl | (simp [outOf, aC]; done) | (simp [outOf, aC]; omega)
          · first | rfl | (simp; done) | (simp; omega)
      ·
        have hc2' := hc2; try simp only [sumB, Bool.not_eq_true', Bool.not_eq_false', Bool.or_eq_true, Bool.or_eq_false_iff, Bool.and_eq_true, Bool.and_eq_false_imp, decide_eq_true_eq, decide_eq_false_iff_not, Bool.not_not, Bool.not_true, Bool.not_false] at hc2'
        refine AC.skip ?_
        refine then_ok ?_
        refine AC.seq ?_
        refine AC.region ?_
        refine AL.val (Wanted.plain rfl) (g_loadBs rfl rfl rfl Try.underlying58 rfl sz58 rfl rfl) rfl rfl ?_
        refine AL.sto (h' := [(9, (.box 47 [(cI f1.err), (cI f1.at_)])), (8, (.box 58 [(cI (s.sent + 1)), (.s 7 0 4 (s.kept.length + 1))])), (7, (.arr 60 4 ((s.kept ++ ([(⟨s.sent + 1, t.kind, t.auth, t.sum⟩ : Transfer)])).map rTransfer))), (2, (.box 58 [(cI (s.sent + 1)), (.s 7 0 4 (s.kept.length + 1))])), (1, (.box 60 [(cI (s.sent + 1)), (cI t.kind), (cI t.auth), (cI t.sum)])), (0, (.box 58 [(cI s.sent), (cR 4 ((s.kept).map rTransfer))]))]) (Wanted.plain rfl) (g_storeB rfl rfl rfl rfl rfl sz58 rfl (Nat.le_of_ble_eq_true rfl) rfl) rfl rfl rfl rfl ?_
        refine AL.fast 1 rfl ?_
        refine AL.nil ?_
        refine then_ok ?_
        refine AC.ret ?_
        have hX : putS s t = ((⟨s.sent + 1, s.kept ++ ([(⟨s.sent + 1, t.kind, t.auth, t.sum⟩ : Transfer)])⟩ : Sender), 0) := by
          have hout : wrongSF (outS s t) = f1 := hr1
          unfold putS; rw [if_neg (by omega), if_neg (by rw [hout]; omega)]; rfl
        rw [hX] at hr; clear hX
        simp only [Prod.mk.injEq] at hr; obtain ⟨rfl, rfl⟩ := hr
        refine retQ_mk (av' := outOf [(.g [(cI (s.sent + 1)), (.s 0 0 4 (s.kept.length + 1))]), (.c (cI 0))]) (nb' := [(0, (.arr 60 4 ((s.kept ++ ([(⟨s.sent + 1, t.kind, t.auth, t.sum⟩ : Transfer)])).map rTransfer)))]) (retQ_ret ⟨[(4, (aC (.p 1 0 0 0))), (5, (aI 0))], [(0, (.arr 60 4 ((s.kept ++ ([(⟨s.sent + 1, t.kind, t.auth, t.sum⟩ : Transfer)])).map rTransfer))), (1, (.box 58 [(cI (s.sent + 1)), (.s 0 0 4 (s.kept.length + 1))]))], 2⟩ [.cell 4 58, .tmp 5] [(.g [(cI (s.sent + 1)), (.s 0 0 4 (s.kept.length + 1))]), (.c (cI 0))] (Weak.ren (fun k => if k = 0 then 7 else if k = 1 then 2 else k) (⟨by first | rfl | (simp only [AV.map, GV.map, CV.map, AB.map', id]; done) | (congr 3; omega) | (congr 4; omega) | (simp only [List.length_append, List.length_cons, List.length_nil, List.length_set]; rfl), by first | rfl | (simp only [AV.map, GV.map, CV.map, AB.map', id]; done) | (congr 3; omega) | (congr 4; omega) | (simp only [List.length_append, List.length_cons, List.length_nil, List.length_set]; rfl),  trivial⟩) (⟨by first | rfl | (simp only [AV.map, GV.map, CV.map, AB.map', id]; done) | (congr 3; omega) | (congr 4; omega) | (simp only [List.length_append, List.length_cons, List.length_nil, List.length_set]; rfl), by first | rfl | (simp only [AV.map, GV.map, CV.map, AB.map', id]; done) | (congr 3; omega) | (congr 4; omega) | (simp only [List.length_append, List.length_cons, List.length_nil, List.length_set]; rfl),  trivial⟩) rfl) rfl ⟨.agg rfl rfl (fun _ => run_isAgg Try.underlying58) sz58, .tmp rfl, trivial⟩ ⟨by first | rfl | (simp only [AV.map, GV.map, CV.map, AB.map', id]; done) | (congr 3; omega) | (congr 4; omega) | (simp only [List.length_append, List.length_cons, List.length_nil, List.length_set]; rfl),  trivial⟩) ?_ ?_
        · first | rfl | (simp [outOf, aC]; done) | (simp [outOf, aC]; omega)
        · first | rfl | (simp; done) | (simp; omega)
set_option maxRecDepth 100000 in
set_option maxHeartbeats 1000000 in
theorem c_SameSender (a b : Sender) (r : Bool) (hr : sameS a b = r) : Fn Try.prog 52 [(.g [(cI a.sent), (cR 4 ((a.kept).map rTransfer))]), (.g [(cI b.sent), (cR 4 ((b.kept).map rTransfer))])] (.v (.c (cB r))) [] := by
  refine Fn.mk' 38 [(0, (aG [(cI a.sent), (cR 4 ((a.kept).map rTransfer))])), (1, (aG [(cI b.sent), (cR 4 ((b.kept).map rTransfer))]))] Try.func52 rfl rfl rfl rfl ?_
  intro W0 T0
  refine AC.lenG 0 1 rfl rfl (fun hlen0_1 => ?_)
  refine AC.lenG 1 1 rfl rfl (fun hlen1_1 => ?_)
  refine AC.seq ?_
  refine AC.region ?_
  refine AL.new (n' := 1) (Wanted.plain rfl) (g_boxS 0 rfl rfl) rfl rfl rfl ?_
  refine AL.new (n' := 2) (Wanted.plain rfl) (g_boxS 1 rfl rfl) rfl rfl rfl ?_
  refine AL.fast 1 rfl ?_
  refine AL.nil ?_
  refine then_ok ?_
  refine AC.seq ?_
  refine AC.cutB 19 ((decide (¬ a.sent = b.sent)) || (decide (¬ (↑a.kept.length : Int) = (↑b.kept.length : Int)))) ?_ ?_
  ·
    refine AC.region ?_
    refine AL.val (Wanted.plain rfl) (g_fieldP rfl rfl Try.underlying58 rfl sz3 (by decide)) rfl rfl ?_
    refine AL.val (Wanted.plain rfl) (g_loadB rfl rfl rfl Try.underlying3 rfl rfl) rfl rfl ?_
    refine AL.val (Wanted.plain rfl) (g_fieldP rfl rfl Try.underlying58 rfl sz3 (by decide)) rfl rfl ?_
    refine AL.val (Wanted.plain rfl) (g_loadB rfl rfl rfl Try.underlying3 rfl rfl) rfl rfl ?_
    refine AL.val (Wanted.plain rfl) (g_binI rfl rfl rfl rfl) rfl rfl ?_
    refine AL.fast 1 rfl ?_
    refine AL.dec (t := 11) rfl (fun hb1 => ?_) (fun hb1 => ?_)
    ·
      have hb1' := hb1; try simp only [sumB, Bool.not_eq_true', Bool.not_eq_false', Bool.or_eq_true, Bool.or_eq_false_iff, Bool.and_eq_true, Bool.and_eq_false_imp, decide_eq_true_eq, decide_eq_false_iff_not, Bool.not_not, Bool.not_true, Bool.not_false] at hb1'
      refine AL.fast 8 rfl ?_
      refine AL.nil ?_
      refine then_ok ?_
      exact Weak.popB 15 rfl rfl (by first | (simp [hb1]; done) | (simp_all; done) | (exfalso; simp_all; done) | (simp_all; omega)) rfl
    ·
      have hb1' := hb1; try simp only [sumB, Bool.not_eq_true', Bool.not_eq_false', Bool.or_eq_true, Bool.or_eq_false_iff, Bool.and_eq_true, Bool.and_eq_false_imp, decide_eq_true_eq, decide_eq_false_iff_not, Bool.not_not, Bool.not_true, Bool.not_false] at hb1'
      refine AL.val (Wanted.yes rfl rfl rfl) (g_fieldP rfl rfl Try.underlying58 rfl sz56 (by decide)) rfl rfl ?_
      refine AL.val (Wanted.yes rfl rfl rfl) (g_loadB rfl rfl rfl Try.underlying56 rfl rfl) rfl rfl ?_
      refine AL.val (Wanted.yes rfl rfl rfl) (g_lenM rfl rfl rfl rfl rfl Try.underlying56) rfl rfl ?_
      refine AL.val (Wanted.yes rfl rfl rfl) (g_fieldP rfl rfl Try.underlying58 rfl sz56 (by decide)) rfl rfl ?_
      refine AL.val (Wanted.yes rfl rfl rfl) (g_loadB rfl rfl rfl Try.underlying56 rfl rfl) rfl rfl ?_
      refine AL.val (Wanted.yes rfl rfl rfl) (g_lenM rfl rfl rfl rfl rfl Try.underlying56) rfl rfl ?_
      refine AL.val (Wanted.yes rfl rfl rfl) (g_binI rfl rfl rfl rfl) rfl rfl ?_
      refine AL.fast 1 rfl ?_
      refine AL.nil ?_
      refine then_ok ?_
      exact Weak.popB 15 rfl rfl (by first | (simp [hb1]; done) | (simp_all; done) | (exfalso; simp_all; done) | (simp_all; omega)) rfl
  ·
    refine AC.cond rfl (fun hc2 => ?_) (fun hc2 => ?_)
    ·
      have hc2' := hc2; try simp only [sumB, Bool.not_eq_true', Bool.not_eq_false', Bool.or_eq_true, Bool.or_eq_false_iff, Bool.and_eq_true, Bool.and_eq_false_imp, decide_eq_true_eq, decide_eq_false_iff_not, Bool.not_not, Bool.not_true, Bool.not_false] at hc2'
      refine AC.seq ?_
      refine AC.region ?_
      refine AL.fast 1 rfl ?_
      refine AL.nil ?_
      refine then_ok ?_
      refine AC.ret ?_
      refine then_ret ?_
      have hX : sameS a b = false := by
        simp only [sameS, decide_eq_false_iff_not]; rintro rfl; simp at hc2'
      rw [hX] at hr; clear hX
      subst hr
      refine retQ_mk (av' := outOf [(.c (cB false))]) (nb' := []) (retQ_ret ⟨[(4, (aB false))], [], 0⟩ [.tmp 4] [(.c (cB false))] (Weak.ren id (⟨by first | rfl | (simp only [AV.map, GV.map, CV.map, AB.map', id]; done) | (congr 3; omega) | (congr 4; omega) | (simp only [List.length_append, List.length_cons, List.length_nil, List.length_set]; rfl),  trivial⟩) (trivial) rfl) rfl ⟨.tmp rfl, trivial⟩ trivial) ?_ ?_
      · first | rfl | (simp [outOf, aC]; done) | (simp [outOf, aC]; omega)
      · first | rfl | (simp; done) | (simp; omega)
    ·
      have hc2' := hc2; try simp only [sumB, Bool.not_eq_true', Bool.not_eq_false', Bool.or_eq_true, Bool.or_eq_false_iff, Bool.and_eq_true, Bool.and_eq_false_imp, decide_eq_true_eq, decide_eq_false_iff_not, Bool.not_not, Bool.not_true, Bool.not_false] at hc2'
      refine AC.skip ?_
      refine then_ok ?_
      refine AC.seq ?_
      refine AC.seq ?_
      refine AC.region ?_
      refine AL.val (Wanted.plain rfl) (g_fieldP rfl rfl Try.underlying58 rfl sz56 (by decide)) rfl rfl ?_
      refine AL.val (Wanted.plain rfl) (g_loadB rfl rfl rfl Try.underlying56 rfl rfl) rfl rfl ?_
      refine AL.val (Wanted.plain rfl) (g_lenM rfl rfl rfl rfl rfl Try.underlying56) rfl rfl ?_
      refine AL.fast 1 rfl ?_
      refine AL.nil ?_
      refine then_ok ?_
      refine AC.block ?_
      refine AC.loop (β := Nat) (fun (q : Nat) => ⟨[(2, (aC (.p 0 0 0 0))), (3, (aC (.p 1 0 0 0))), (22, (aI (↑a.kept.length : Int))), (23, (aI (↑q : Int)))], [(1, (.box 58 [(cI b.sent), (cR 4 ((b.kept).map rTransfer))])), (0, (.box 58 [(cI a.sent), (cR 4 ((a.kept).map rTransfer))]))], 2⟩) (fun (q : Nat) => q ≤ a.kept.length ∧ a.kept.take q = b.kept.take q) (fun (q : Nat) => a.kept.length - q) 0 ?_ ?_ ?_
      · exact ⟨by omega, rfl⟩
      · exact Weak.ren id (⟨by first | rfl | (simp only [AV.map, GV.map, CV.map, AB.map', id]; done) | (congr 3; omega) | (congr 4; omega) | (simp only [List.length_append, List.length_cons, List.length_nil, List.length_set]; rfl), by first | rfl | (simp only [AV.map, GV.map, CV.map, AB.map', id]; done) | (congr 3; omega) | (congr 4; omega) | (simp only [List.length_append, List.length_cons, List.length_nil, List.length_set]; rfl), by first | rfl | (simp only [AV.map, GV.map, CV.map, AB.map', id]; done) | (congr 3; omega) | (congr 4; omega) | (simp only [List.length_append, List.length_cons, List.length_nil, List.length_set]; rfl), by first | rfl | (simp only [AV.map, GV.map, CV.map, AB.map', id]; done) | (congr 3; omega) | (congr 4; omega) | (simp only [List.length_append, List.length_cons, List.length_nil, List.length_set]; rfl),  trivial⟩) (⟨by first | rfl | (simp only [AV.map, GV.map, CV.map, AB.map', id]; done) | (congr 3; omega) | (congr 4; omega) | (simp only [List.length_append, List.length_cons, List.length_nil, List.length_set]; rfl), by first | rfl | (simp only [AV.map, GV.map, CV.map, AB.map', id]; done) | (congr 3; omega) | (congr 4; omega) | (simp only [List.length_append, List.length_cons, List.length_nil, List.length_set]; rfl),  trivial⟩) rfl
      ·
        rintro q ⟨hi0_0, hi0_1⟩
        refine AC.seq ?_
        refine AC.region ?_
        refine AL.val (Wanted.plain rfl) (g_binI rfl rfl rfl rfl) rfl rfl ?_
        refine AL.nil ?_
        refine then_ok ?_
        refine AC.seq ?_
        refine AC.cond rfl (fun hc3 => ?_) (fun hc3 => ?_)
        ·
          have hc3' := hc3; try simp only [sumB, Bool.not_eq_true', Bool.not_eq_false', Bool.or_eq_true, Bool.or_eq_false_iff, Bool.and_eq_true, Bool.and_eq_false_imp, decide_eq_true_eq, decide_eq_false_iff_not, Bool.not_not, Bool.not_true, Bool.not_false] at hc3'
          refine AC.skip ?_
          refine then_ok ?_
          refine AC.seq ?_
          refine AC.block ?_
          refine AC.seq ?_
          refine AC.region ?_
          refine AL.fast 2 rfl ?_
          refine AL.nil ?_
          refine then_ok ?_
          refine AC.seq ?_
          obtain ⟨x1, hx1⟩ := exget (xs := a.kept) (i := q) (by first | omega | (simp; done) | (simp; omega))
          obtain ⟨x2, hx2⟩ := exget (xs := b.kept) (i := q) (by first | omega | (simp; done) | (simp; omega))
          refine AC.weak (st' := ⟨[(2, (aC (.p 0 0 0 0))), (3, (aC (.p 1 0 0 0))), (22, (aI (↑a.kept.length : Int))), (23, (aI (↑q : Int))), (5, (aI (↑q : Int)))], [(1, (.box 58 [(cI b.sent), (cR 4 ((b.kept).map rTransfer))])), (0, (.box 58 [(cI a.sent), (cR 4 ((a.kept).map rTransfer))]))], 2⟩) (Weak.ren id (⟨by first | rfl | (simp only [AV.map, GV.map, CV.map, AB.map', id]; done) | (congr 3; omega) | (congr 4; omega) | (simp only [List.length_append, List.length_cons, List.length_nil, List.length_set]; rfl), by first | rfl | (simp only [AV.map, GV.map, CV.map, AB.map', id]; done) | (congr 3; omega) | (congr 4; omega) | (simp only [List.length_append, List.length_cons, List.length_nil, List.length_set]; rfl), by first | rfl | (simp only [AV.map, GV.map, CV.map, AB.map', id]; done) | (congr 3; omega) | (congr 4; omega) | (simp only [List.length_append, List.length_cons, List.length_nil, List.length_set]; rfl), by first | rfl | (simp only [AV.map, GV.map, CV.map, AB.map', id]; done) | (congr 3; omega) | (congr 4; omega) | (simp only [List.length_append, List.length_cons, List.length_nil, List.length_set]; rfl), by first | rfl | (simp only [AV.map, GV.map, CV.map, AB.map', id]; done) | (congr 3; omega) | (congr 4; omega) | (simp only [List.length_append, List.length_cons, List.length_nil, List.length_set]; rfl),  trivial⟩) (⟨by first | rfl | (simp only [AV.map, GV.map, CV.map, AB.map', id]; done) | (congr 3; omega) | (congr 4; omega) | (simp only [List.length_append, List.length_cons, List.length_nil, List.length_set]; rfl), by first | rfl | (simp only [AV.map, GV.map, CV.map, AB.map', id]; done) | (congr 3; omega) | (congr 4; omega) | (simp only [List.length_append, List.length_cons, List.length_nil, List.length_set]; rfl),  trivial⟩) rfl) ?_
          refine AC.draw [⟨some 26, (aC (.p 0 0 0 1)), [], [], [], [(2, (aC (.p 0 0 0 0)))], [(0, (.box 58 [(cI a.sent), (cR 4 ((a.kept).map rTransfer))]))]⟩,
      ⟨some 27, (aC (cR 4 ((a.kept).map rTransfer))), [], [], [0], [(26, (aC (.p 0 0 0 1)))], [(0, (.box 58 [(cI a.sent), (cR 4 ((a.kept).map rTransfer))]))]⟩,
      ⟨some 28, (aI (↑q : Int)), [], [], [], [(5, (aI (↑q : Int)))], []⟩,
      ⟨some 29, (aC (.q (rTransfer x1) 0)), [], [], [1, 2], [(27, (aC (cR 4 ((a.kept).map rTransfer)))), (28, (aI (↑q : Int)))], []⟩,
      ⟨some 30, (aG [(cI x1.number), (cI x1.kind), (cI x1.auth), (cI x1.sum)]), [], [], [3], [(29, (aC (.q (rTransfer x1) 0)))], []⟩,
      ⟨some 31, (aC (.p 1 0 0 1)), [], [], [], [(3, (aC (.p 1 0 0 0)))], [(1, (.box 58 [(cI b.sent), (cR 4 ((b.kept).map rTransfer))]))]⟩,
      ⟨some 32, (aC (cR 4 ((b.kept).map rTransfer))), [], [], [5], [(31, (aC (.p 1 0 0 1)))], [(1, (.box 58 [(cI b.sent), (cR 4 ((b.kept).map rTransfer))]))]⟩,
      ⟨some 33, (aI (↑q : Int)), [], [], [], [(5, (aI (↑q : Int)))], []⟩,
      ⟨some 34, (aC (.q (rTransfer x2) 0)), [], [], [6, 7], [(32, (aC (cR 4 ((b.kept).map rTransfer)))), (33, (aI (↑q : Int)))], []⟩,
      ⟨some 35, (aG [(cI x2.number), (cI x2.kind), (cI x2.auth), (cI x2.sum)]), [], [], [8], [(34, (aC (.q (rTransfer x2) 0)))], []⟩,
      ⟨some 36, (aB (!(sameL [.int .i64 x1.number, .int .i64 x1.kind, .int .i64 x1.auth, .int .i64 x1.sum] [.int .i64 x2.number, .int .i64 x2.kind, .int .i64 x2.auth, .int .i64 x2.sum]))), [], [], [4, 9], [(30, (aG [(cI x1.number), (cI x1.kind), (cI x1.auth), (cI x1.sum)])), (35, (aG [(cI x2.number), (cI x2.kind), (cI x2.auth), (cI x2.sum)]))], []⟩] ⟨[(2, (aC (.p 0 0 0 0))), (3, (aC (.p 1 0 0 0))), (22, (aI (↑a.kept.length : Int))), (23, (aI (↑q : Int))), (5, (aI (↑q : Int))), (36, (aB (!(sameL [.int .i64 x1.number, .int .i64 x1.kind, .int .i64 x1.auth, .int .i64 x1.sum] [.int .i64 x2.number, .int .i64 x2.kind, .int .i64 x2.auth, .int .i64 x2.sum]))))], [(1, (.box 58 [(cI b.sent), (cR 4 ((b.kept).map rTransfer))])), (0, (.box 58 [(cI a.sent), (cR 4 ((a.kept).map rTransfer))]))], 2⟩ mixed (by kernel_rfl) ?_ ?_ ?_ ?_
          · exact ⟨.inl ⟨(Wanted.plain rfl), GOp.cast (g_fieldP rfl rfl Try.underlying58 rfl sz56 (by decide)) rfl⟩,
      .inl ⟨(Wanted.plain rfl), GOp.cast (g_loadB rfl rfl rfl Try.underlying56 rfl rfl) rfl⟩,
      .inl ⟨(Wanted.plain rfl), GOp.cast (g_move rfl rfl) rfl⟩,
      .inl ⟨(Wanted.plain rfl), GOp.cast (g_indexQ (i := q) rfl rfl rfl Try.underlying56 sz60 (by first | omega | (simp; done) | (simp; omega)) (getmap hx1)) rfl⟩,
      .inl ⟨(Wanted.plain rfl), GOp.cast (g_loadQs rfl rfl Try.underlying60 rfl sz60 rfl rfl) rfl⟩,
      .inl ⟨(Wanted.plain rfl), GOp.cast (g_fieldP rfl rfl Try.underlying58 rfl sz56 (by decide)) rfl⟩,
      .inl ⟨(Wanted.plain rfl), GOp.cast (g_loadB rfl rfl rfl Try.underlying56 rfl rfl) rfl⟩,
      .inl ⟨(Wanted.plain rfl), GOp.cast (g_move rfl rfl) rfl⟩,
      .inl ⟨(Wanted.plain rfl), GOp.cast (g_indexQ (i := q) rfl rfl rfl Try.underlying56 sz60 (by first | omega | (simp; done) | (simp; omega)) (getmap hx2)) rfl⟩,
      .inl ⟨(Wanted.plain rfl), GOp.cast (g_loadQs rfl rfl Try.underlying60 rfl sz60 rfl rfl) rfl⟩,
      .inl ⟨(Wanted.plain rfl), GOp.cast (g_neq (cmp60 _ _ _ _ _ _ _ _) rfl rfl rfl rfl rfl rfl) rfl⟩,
       trivial⟩
          · exact ⟨⟨⟨.inl rfl,  trivial⟩, ⟨.inl rfl,  trivial⟩⟩, ⟨⟨.inr ⟨0, .head _, _, rfl, rfl, rfl⟩,  trivial⟩, ⟨.inl rfl,  trivial⟩⟩, ⟨⟨.inl rfl,  trivial⟩, trivial⟩, ⟨⟨.inr ⟨1, .head _, _, rfl, rfl, rfl⟩, .inr ⟨2, .tail _ (.head _), _, rfl, rfl, rfl⟩,  trivial⟩, trivial⟩, ⟨⟨.inr ⟨3, .head _, _, rfl, rfl, rfl⟩,  trivial⟩, trivial⟩, ⟨⟨.inl rfl,  trivial⟩, ⟨.inl rfl,  trivial⟩⟩, ⟨⟨.inr ⟨5, .head _, _, rfl, rfl, rfl⟩,  trivial⟩, ⟨.inl rfl,  trivial⟩⟩, ⟨⟨.inl rfl,  trivial⟩, trivial⟩, ⟨⟨.inr ⟨6, .head _, _, rfl, rfl, rfl⟩, .inr ⟨7, .tail _ (.head _), _, rfl, rfl, rfl⟩,  trivial⟩, trivial⟩, ⟨⟨.inr ⟨8, .head _, _, rfl, rfl, rfl⟩,  trivial⟩, trivial⟩, ⟨⟨.inr ⟨4, .head _, _, rfl, rfl, rfl⟩, .inr ⟨9, .tail _ (.head _), _, rfl, rfl, rfl⟩,  trivial⟩, trivial⟩,  trivial⟩
          · exact ⟨⟨.inl rfl, .inl rfl, .inl rfl, .inl rfl, .inl rfl, .inr ⟨10, _, rfl, rfl, rfl⟩,  trivial⟩, ⟨.inl rfl, .inl rfl,  trivial⟩⟩
          ·
            refine AL.nil ?_
            refine then_ok ?_
            refine AC.cond rfl (fun hc4 => ?_) (fun hc4 => ?_)
            ·
              have hc4' := hc4; try simp only [sumB, Bool.not_eq_true', Bool.not_eq_false', Bool.or_eq_true, Bool.or_eq_false_iff, Bool.and_eq_true, Bool.and_eq_false_imp, decide_eq_true_eq, decide_eq_false_iff_not, Bool.not_not, Bool.not_true, Bool.not_false] at hc4'
              refine AC.seq ?_
              refine AC.region ?_
              refine AL.fast 1 rfl ?_
              refine AL.nil ?_
              refine then_ok ?_
              refine AC.ret ?_
              refine block_ret ?_
              refine then_ret ?_
              refine then_ret ?_
              refine block_ret ?_
              refine then_ret ?_
              have hX : sameS a b = false := by
                refine sameS_no hx1 hx2 ?_; simp_all [same60]
              rw [hX] at hr; clear hX
              subst hr
              refine retQ_mk (av' := outOf [(.c (cB false))]) (nb' := []) (retQ_ret ⟨[(4, (aB false))], [], 0⟩ [.tmp 4] [(.c (cB false))] (Weak.ren id (⟨by first | rfl | (simp only [AV.map, GV.map, CV.map, AB.map', id]; done) | (congr 3; omega) | (congr 4; omega) | (simp only [List.length_append, List.length_cons, List.length_nil, List.length_set]; rfl),  trivial⟩) (trivial) rfl) rfl ⟨.tmp rfl, trivial⟩ trivial) ?_ ?_
              · first | rfl | (simp [outOf, aC]; done) | (simp [outOf, aC]; omega)
              · first | rfl | (simp; done) | (simp; omega)
            ·
              have hc4' := hc4; try simp only [sumB, Bool.not_eq_true', Bool.not_eq_false', Bool.or_eq_true, Bool.or_eq_false_iff, Bool.and_eq_true, Bool.and_eq_false_imp, decide_eq_true_eq, decide_eq_false_iff_not, Bool.not_not, Bool.not_true, Bool.not_false] at hc4'
              refine AC.skip ?_
              refine block_ok ?_
              refine then_ok ?_
              refine AC.region ?_
              refine AL.val (Wanted.plain rfl) (g_binI rfl rfl rfl (wrap_ok (by first | omega | (simp; done) | (simp; omega)))) rfl rfl ?_
              refine AL.fast 1 rfl ?_
              refine AL.nil ?_
              refine then_ok ?_
              refine ⟨q + 1, ⟨by omega, by rw [take_get hx1, take_get hx2, hi0_1, show x1 = x2 by simp_all [same60]]⟩, by first | omega | (simp; done) | (simp; omega), Weak.ren id (⟨by first | rfl | (simp only [AV.map, GV.map, CV.map, AB.map', id]; done) | (congr 3; omega) | (congr 4; omega) | (simp only [List.length_append, List.length_cons, List.length_nil, List.length_set]; rfl), by first | rfl | (simp only [AV.map, GV.map, CV.map, AB.map', id]; done) | (congr 3; omega) | (congr 4; omega) | (simp only [List.length_append, List.length_cons, List.length_nil, List.length_set]; rfl), by first | rfl | (simp only [AV.map, GV.map, CV.map, AB.map', id]; done) | (congr 3; omega) | (congr 4; omega) | (simp only [List.length_append, List.length_cons, List.length_nil, List.length_set]; rfl), by first | rfl | (simp only [AV.map, GV.map, CV.map, AB.map', id]; done) | (congr 3; omega) | (congr 4; omega) | (simp only [List.length_append, List.length_cons, List.length_nil, List.length_set]; rfl),  trivial⟩) (⟨by first | rfl | (simp only [AV.map, GV.map, CV.map, AB.map', id]; done) | (congr 3; omega) | (congr 4; omega) | (simp only [List.length_append, List.length_cons, List.length_nil, List.length_set]; rfl), by first | rfl | (simp only [AV.map, GV.map, CV.map, AB.map', id]; done) | (congr 3; omega) | (congr 4; omega) | (simp only [List.length_append, List.length_cons, List.length_nil, List.length_set]; rfl),  trivial⟩) rfl⟩
        ·
          have hc3' := hc3; try simp only [sumB, Bool.not_eq_true', Bool.not_eq_false', Bool.or_eq_true, Bool.or_eq_false_iff, Bool.and_eq_true, Bool.and_eq_false_imp, decide_eq_true_eq, decide_eq_false_iff_not, Bool.not_not, Bool.not_true, Bool.not_false] at hc3'
          refine AC.exit ?_
          refine then_exit ?_
          refine then_exit ?_
          refine block_hit ?_
          refine then_ok ?_
          refine AC.seq ?_
          refine AC.region ?_
          refine AL.fast 1 rfl ?_
          refine AL.nil ?_
          refine then_ok ?_
          refine AC.ret ?_
          have hX : sameS a b = true := by
            exact sameS_yes (q := q) (by omega) (by omega) (by omega) hi0_1
          rw [hX] at hr; clear hX
          subst hr
          refine retQ_mk (av' := outOf [(.c (cB true))]) (nb' := []) (retQ_ret ⟨[(4, (aB true))], [], 0⟩ [.tmp 4] [(.c (cB true))] (Weak.ren id (⟨by first | rfl | (simp only [AV.map, GV.map, CV.map, AB.map', id]; done) | (congr 3; omega) | (congr 4; omega) | (simp only [List.length_append, List.length_cons, List.length_nil, List.length_set]; rfl),  trivial⟩) (trivial) rfl) rfl ⟨.tmp rfl, trivial⟩ trivial) ?_ ?_
          · first | rfl | (simp [outOf, aC]; done) | (simp [outOf, aC]; omega)
          · first | rfl | (simp; done) | (simp; omega)
set_option maxRecDepth 100000 in
set_option maxHeartbeats 1000000 in
theorem c_post_Take (seen : Int) (t : Transfer) (n : Int) (ok : Bool) (hr : takeS seen t = (n, ok)) : Fn Try.prog 55 [(.c (cI seen)), (.g [(cI t.number), (cI t.kind), (cI t.auth), (cI t.sum)])] (.t [(.c (cI n)), (.c (cB ok))]) [] := by
  refine Fn.mk' 22 [(0, (aI seen)), (1, (aG [(cI t.number), (cI t.kind), (cI t.auth), (cI t.sum)]))] Try.func55 rfl rfl rfl rfl ?_
  intro W0 T0
  refine AC.seq ?_
  refine AC.region ?_
  refine AL.new (n' := 1) (Wanted.plain rfl) (g_boxS 0 rfl rfl) rfl rfl rfl ?_
  refine AL.fast 2 rfl ?_
  refine AL.nil ?_
  refine then_ok ?_
  refine AC.seq ?_
  refine AC.cutB 18 (((decide (seen < 0)) || (decide (seen ≥ 1000000))) || (decide (¬ t.number = (seen + 1)))) ?_ ?_
  ·
    refine AC.region ?_
    refine AL.fast 1 rfl ?_
    refine AL.val (Wanted.plain rfl) (g_binI rfl rfl rfl rfl) rfl rfl ?_
    refine AL.fast 1 rfl ?_
    refine AL.dec (t := 8) rfl (fun hb1 => ?_) (fun hb1 => ?_)
    ·
      have hb1' := hb1; try simp only [sumB, Bool.not_eq_true', Bool.not_eq_false', Bool.or_eq_true, Bool.or_eq_false_iff, Bool.and_eq_true, Bool.and_eq_false_imp, decide_eq_true_eq, decide_eq_false_iff_not, Bool.not_not, Bool.not_true, Bool.not_false] at hb1'
      refine AL.fast 10 rfl ?_
      refine AL.nil ?_
      refine then_ok ?_
      exact Weak.popB 14 rfl rfl (by first | (simp [hb1]; done) | (simp_all; done) | (exfalso; simp_all; done) | (simp_all; omega)) rfl
    ·
      have hb1' := hb1; try simp only [sumB, Bool.not_eq_true', Bool.not_eq_false', Bool.or_eq_true, Bool.or_eq_false_iff, Bool.and_eq_true, Bool.and_eq_false_imp, decide_eq_true_eq, decide_eq_false_iff_not, Bool.not_not, Bool.not_true, Bool.not_false] at hb1'
      refine AL.fast 1 rfl ?_
      refine AL.val (Wanted.yes rfl rfl rfl) (g_binI rfl rfl rfl rfl) rfl rfl ?_
      refine AL.fast 2 rfl ?_
      refine AL.dec (t := 12) rfl (fun hb2 => ?_) (fun hb2 => ?_)
      ·
        have hb2' := hb2; try simp only [sumB, Bool.not_eq_true', Bool.not_eq_false', Bool.or_eq_true, Bool.or_eq_false_iff, Bool.and_eq_true, Bool.and_eq_false_imp, decide_eq_true_eq, decide_eq_false_iff_not, Bool.not_not, Bool.not_true, Bool.not_false] at hb2'
        refine AL.fast 6 rfl ?_
        refine AL.nil ?_
        refine then_ok ?_
        exact Weak.popB 15 rfl rfl (by first | (simp [hb1, hb2]; done) | (simp_all; done) | (exfalso; simp_all; done) | (simp_all; omega)) rfl
      ·
        have hb2' := hb2; try simp only [sumB, Bool.not_eq_true', Bool.not_eq_false', Bool.or_eq_true, Bool.or_eq_false_iff, Bool.and_eq_true, Bool.and_eq_false_imp, decide_eq_true_eq, decide_eq_false_iff_not, Bool.not_not, Bool.not_true, Bool.not_false] at hb2'
        refine AL.val (Wanted.yes rfl rfl rfl) (g_fieldP rfl rfl Try.underlying60 rfl sz3 (by decide)) rfl rfl ?_
        refine AL.val (Wanted.yes rfl rfl rfl) (g_loadB rfl rfl rfl Try.underlying3 rfl rfl) rfl rfl ?_
        refine AL.fast 1 rfl ?_
        refine AL.val (Wanted.yes rfl rfl rfl) (g_binI rfl rfl rfl (wrap_ok (by first | omega | (simp; done) | (simp; omega)))) rfl rfl ?_
        refine AL.val (Wanted.yes rfl rfl rfl) (g_binI rfl rfl rfl rfl) rfl rfl ?_
        refine AL.fast 1 rfl ?_
        refine AL.nil ?_
        refine then_ok ?_
        exact Weak.popB 15 rfl rfl (by first | (simp [hb1, hb2]; done) | (simp_all; done) | (exfalso; simp_all; done) | (simp_all; omega)) rfl
  ·
    refine AC.cond rfl (fun hc3 => ?_) (fun hc3 => ?_)
    ·
      have hc3' := hc3; try simp only [sumB, Bool.not_eq_true', Bool.not_eq_false', Bool.or_eq_true, Bool.or_eq_false_iff, Bool.and_eq_true, Bool.and_eq_false_imp, decide_eq_true_eq, decide_eq_false_iff_not, Bool.not_not, Bool.not_true, Bool.not_false] at hc3'
      refine AC.seq ?_
      refine AC.region ?_
      refine AL.fast 3 rfl ?_
      refine AL.nil ?_
      refine then_ok ?_
      refine AC.ret ?_
      refine then_ret ?_
      have hX : takeS seen t = (seen, false) := by
        (unfold takeS; try dsimp only); (repeat' split) <;> first | rfl | omega | (exfalso; omega) | (subst_vars; rfl) | (simp_all; done) | (simp_all; omega)
      rw [hX] at hr; clear hX
      simp only [Prod.mk.injEq] at hr; obtain ⟨rfl, rfl⟩ := hr
      refine retQ_mk (av' := outOf [(.c (cI seen)), (.c (cB false))]) (nb' := []) (retQ_ret ⟨[(4, (aI seen)), (5, (aB false))], [], 0⟩ [.tmp 4, .tmp 5] [(.c (cI seen)), (.c (cB false))] (Weak.ren id (⟨by first | rfl | (simp only [AV.map, GV.map, CV.map, AB.map', id]; done) | (congr 3; omega) | (congr 4; omega) | (simp only [List.length_append, List.length_cons, List.length_nil, List.length_set]; rfl), by first | rfl | (simp only [AV.map, GV.map, CV.map, AB.map', id]; done) | (congr 3; omega) | (congr 4; omega) | (simp only [List.length_append, List.length_cons, List.length_nil, List.length_set]; rfl),  trivial⟩) (trivial) rfl) rfl ⟨.tmp rfl, .tmp rfl, trivial⟩ trivial) ?_ ?_
      · first | rfl | (simp [outOf, aC]; done) | (simp [outOf, aC]; omega)
      · first | rfl | (simp; done) | (simp; omega)
    ·
      have hc3' := hc3; try simp only [sumB, Bool.not_eq_true', Bool.not_eq_false', Bool.or_eq_true, Bool.or_eq_false_iff, Bool.and_eq_true, Bool.and_eq_false_imp, decide_eq_true_eq, decide_eq_false_iff_not, Bool.not_not, Bool.not_true, Bool.not_false] at hc3'
      refine AC.skip ?_
      refine then_ok ?_
      refine AC.seq ?_
      refine AC.region ?_
      refine AL.fast 1 rfl ?_
      refine AL.val (Wanted.plain rfl) (g_binI rfl rfl rfl (wrap_ok (by first | omega | (simp; done) | (simp; omega)))) rfl rfl ?_
      refine AL.fast 2 rfl ?_
      refine AL.nil ?_
      refine then_ok ?_
      refine AC.ret ?_
      have hX : takeS seen t = (seen + 1, true) := by
        (unfold takeS; try dsimp only); (repeat' split) <;> first | rfl | omega | (exfalso; omega) | (subst_vars; rfl) | (simp_all; done) | (simp_all; omega)
      rw [hX] at hr; clear hX
      simp only [Prod.mk.injEq] at hr; obtain ⟨rfl, rfl⟩ := hr
      refine retQ_mk (av' := outOf [(.c (cI (seen + 1))), (.c (cB true))]) (nb' := []) (retQ_ret ⟨[(4, (aI (seen + 1))), (5, (aB true))], [], 0⟩ [.tmp 4, .tmp 5] [(.c (cI (seen + 1))), (.c (cB true))] (Weak.ren id (⟨by first | rfl | (simp only [AV.map, GV.map, CV.map, AB.map', id]; done) | (congr 3; omega) | (congr 4; omega) | (simp only [List.length_append, List.length_cons, List.length_nil, List.length_set]; rfl), by first | rfl | (simp only [AV.map, GV.map, CV.map, AB.map', id]; done) | (congr 3; omega) | (congr 4; omega) | (simp only [List.length_append, List.length_cons, List.length_nil, List.length_set]; rfl),  trivial⟩) (trivial) rfl) rfl ⟨.tmp rfl, .tmp rfl, trivial⟩ trivial) ?_ ?_
      · first | rfl | (simp [outOf, aC]; done) | (simp [outOf, aC]; omega)
      · first | rfl | (simp; done) | (simp; omega)
end Go.Proofs.Ytgmcdlfmifijlaa.Dev
