/- PostTells. -/
import Derived.Test.YtgmcdlfmifijlaaDPost4
set_option linter.unusedVariables false
set_option linter.unusedSimpArgs false
namespace Go.Proofs.Ytgmcdlfmifijlaa.Dev
open Go.RowKit

set_option maxRecDepth 100000 in
set_option maxHeartbeats 1000000 in
theorem c_PostTells (s : Sender) (t : Transfer) (seen : Int) (hI : ∀ t ∈ s.kept, InI t.number) : Fn Try.prog 9 [(.g [(cI s.sent), (cR 4 ((s.kept).map rTransfer))]), (.g [(cI t.number), (cI t.kind), (cI t.auth), (cI t.sum)]), (.c (cI seen))] (aB true) [] := by
  refine Fn.mk' 101 [(0, (aG [(cI s.sent), (cR 4 ((s.kept).map rTransfer))])), (1, (aG [(cI t.number), (cI t.kind), (cI t.auth), (cI t.sum)])), (2, (aI seen))] Try.func9 rfl rfl rfl rfl ?_
  intro W0 T0
  refine AC.lenG 0 1 rfl rfl (fun hlen0_1 => ?_)
  refine AC.seq ?_
  refine AC.region ?_
  refine AL.new (n' := 1) (Wanted.plain rfl) (g_boxS 0 rfl rfl) rfl rfl rfl ?_
  refine AL.new (n' := 2) (Wanted.plain rfl) (g_boxS 1 rfl rfl) rfl rfl rfl ?_
  refine AL.fast 1 rfl ?_
  refine AL.nil ?_
  refine then_ok ?_
  refine AC.seq ?_
  refine AC.seq ?_
  obtain ⟨f0, hr0⟩ : ∃ (f0 : Fault), wrongSF s = f0 := ⟨_, rfl⟩
  refine AC.weak (st' := ⟨[(2, (aI seen)), (3, (aC (.p 0 0 0 0))), (4, (aC (.p 1 0 0 0)))], [(1, (.box 60 [(cI t.number), (cI t.kind), (cI t.auth), (cI t.sum)])), (0, (.box 58 [(cI s.sent), (cR 4 ((s.kept).map rTransfer))]))], 2⟩) (Weak.ren id (⟨by first | rfl | (simp only [AV.map, GV.map, CV.map, AB.map', id]; done) | (congr 3; omega) | (congr 4; omega) | (simp only [List.length_append, List.length_cons, List.length_nil, List.length_set]; rfl), by first | rfl | (simp only [AV.map, GV.map, CV.map, AB.map', id]; done) | (congr 3; omega) | (congr 4; omega) | (simp only [List.length_append, List.length_cons, List.length_nil, List.length_set]; rfl), by first | rfl | (simp only [AV.map, GV.map, CV.map, AB.map', id]; done) | (congr 3; omega) | (congr 4; omega) | (simp only [List.length_append, List.length_cons, List.length_nil, List.length_set]; rfl),  trivial⟩) (⟨by first | rfl | (simp only [AV.map, GV.map, CV.map, AB.map', id]; done) | (congr 3; omega) | (congr 4; omega) | (simp only [List.length_append, List.length_cons, List.length_nil, List.length_set]; rfl), by first | rfl | (simp only [AV.map, GV.map, CV.map, AB.map', id]; done) | (congr 3; omega) | (congr 4; omega) | (simp only [List.length_append, List.length_cons, List.length_nil, List.length_set]; rfl),  trivial⟩) rfl) ?_
  refine AC.draw [⟨some 14, (aG [(cI s.sent), (cR 4 ((s.kept).map rTransfer))]), [], [], [], [(3, (aC (.p 0 0 0 0)))], [(0, (.box 58 [(cI s.sent), (cR 4 ((s.kept).map rTransfer))]))]⟩,
      ⟨some 15, (aG [(cI f0.err), (cI f0.at_)]), [], [], [0], [(14, (aG [(cI s.sent), (cR 4 ((s.kept).map rTransfer))]))], []⟩,
      ⟨some 16, (aG [(cI s.sent), (cR 4 ((s.kept).map rTransfer))]), [], [], [], [(3, (aC (.p 0 0 0 0)))], [(0, (.box 58 [(cI s.sent), (cR 4 ((s.kept).map rTransfer))]))]⟩,
      ⟨some 17, (aG [(cI f0.err), (cI f0.at_)]), [], [], [2], [(16, (aG [(cI s.sent), (cR 4 ((s.kept).map rTransfer))]))], []⟩,
      ⟨some 18, (aB (!(sameL [.int .i64 f0.err, .int .i64 f0.at_] [.int .i64 f0.err, .int .i64 f0.at_]))), [], [], [1, 3], [(15, (aG [(cI f0.err), (cI f0.at_)])), (17, (aG [(cI f0.err), (cI f0.at_)]))], []⟩] ⟨[(2, (aI seen)), (3, (aC (.p 0 0 0 0))), (4, (aC (.p 1 0 0 0))), (18, (aB (!(sameL [.int .i64 f0.err, .int .i64 f0.at_] [.int .i64 f0.err, .int .i64 f0.at_]))))], [(1, (.box 60 [(cI t.number), (cI t.kind), (cI t.auth), (cI t.sum)])), (0, (.box 58 [(cI s.sent), (cR 4 ((s.kept).map rTransfer))]))], 2⟩ mixed (by kernel_rfl) ?_ ?_ ?_ ?_
  · exact ⟨.inl ⟨(Wanted.plain rfl), GOp.cast (g_loadBs rfl rfl rfl Try.underlying58 rfl sz58 rfl rfl) rfl⟩,
      .inl ⟨(Wanted.plain rfl), GOp.cast (g_call 2 (c_post_Wrong s (by first | assumption | exact inI_out (by assumption) (by omega) | exact inI_back (by assumption) (by assumption) | (simp [InI]; done)) f0 hr0) en48 rfl rfl ⟨⟨_, rfl, .g ⟨.d _, .d _,  trivial⟩⟩,  trivial⟩ ⟨trivial, trivial,  trivial⟩ trivial rfl rfl rfl rfl) rfl⟩,
      .inl ⟨(Wanted.plain rfl), GOp.cast (g_loadBs rfl rfl rfl Try.underlying58 rfl sz58 rfl rfl) rfl⟩,
      .inl ⟨(Wanted.plain rfl), GOp.cast (g_call 2 (c_ref_WrongSender s (by first | assumption | exact inI_out (by assumption) (by omega) | exact inI_back (by assumption) (by assumption) | (simp [InI]; done)) f0 hr0) en49 rfl rfl ⟨⟨_, rfl, .g ⟨.d _, .d _,  trivial⟩⟩,  trivial⟩ ⟨trivial, trivial,  trivial⟩ trivial rfl rfl rfl rfl) rfl⟩,
      .inl ⟨(Wanted.plain rfl), GOp.cast (g_neq (cmp47 _ _ _ _) rfl rfl rfl rfl rfl rfl) rfl⟩,
       trivial⟩
  · exact ⟨⟨⟨.inl rfl,  trivial⟩, ⟨.inl rfl,  trivial⟩⟩, ⟨⟨.inr ⟨0, .head _, _, rfl, rfl, rfl⟩,  trivial⟩, trivial⟩, ⟨⟨.inl rfl,  trivial⟩, ⟨.inl rfl,  trivial⟩⟩, ⟨⟨.inr ⟨2, .head _, _, rfl, rfl, rfl⟩,  trivial⟩, trivial⟩, ⟨⟨.inr ⟨1, .head _, _, rfl, rfl, rfl⟩, .inr ⟨3, .tail _ (.head _), _, rfl, rfl, rfl⟩,  trivial⟩, trivial⟩,  trivial⟩
  · exact ⟨⟨.inl rfl, .inl rfl, .inl rfl, .inr ⟨4, _, rfl, rfl, rfl⟩,  trivial⟩, ⟨.inl rfl, .inl rfl,  trivial⟩⟩
  ·
    refine AL.nil ?_
    refine then_ok ?_
    refine AC.cond rfl (fun hc1 => ?_) (fun hc1 => ?_)
    ·
      have hc1' := hc1; try simp only [sumB, Bool.not_eq_true', Bool.not_eq_false', Bool.or_eq_true, Bool.or_eq_false_iff, Bool.and_eq_true, Bool.and_eq_false_imp, decide_eq_true_eq, decide_eq_false_iff_not, Bool.not_not, Bool.not_true, Bool.not_false] at hc1'
      refine AC.seq ?_
      refine AC.region ?_
      refine AL.fast 1 rfl ?_
      refine AL.nil ?_
      refine then_ok ?_
      refine AC.ret ?_
      refine then_ret ?_
      refine retQ_mk (av' := outOf [(.c (cB false))]) (nb' := []) (retQ_ret ⟨[(6, (aB false))], [], 0⟩ [.tmp 6] [(.c (cB false))] (Weak.ren id (⟨by first | rfl | (simp only [AV.map, GV.map, CV.map, AB.map', id]; done) | (congr 3; omega) | (congr 4; omega) | (simp only [List.length_append, List.length_cons, List.length_nil, List.length_set]; rfl),  trivial⟩) (trivial) rfl) rfl ⟨.tmp rfl, trivial⟩ trivial) ?_ ?_
      · exact congrArg aB (show (false) = true by (exfalso; simp [sameL, sameV] at hc1))
      · rfl
    ·
      have hc1' := hc1; try simp only [sumB, Bool.not_eq_true', Bool.not_eq_false', Bool.or_eq_true, Bool.or_eq_false_iff, Bool.and_eq_true, Bool.and_eq_false_imp, decide_eq_true_eq, decide_eq_false_iff_not, Bool.not_not, Bool.not_true, Bool.not_false] at hc1'
      refine AC.skip ?_
      refine then_ok ?_
      refine AC.seq ?_
      refine AC.region ?_
      refine AL.val (Wanted.plain rfl) (g_loadBs rfl rfl rfl Try.underlying58 rfl sz58 rfl rfl) rfl rfl ?_
      refine AL.val (Wanted.plain rfl) (g_loadBs rfl rfl rfl Try.underlying60 rfl sz60 rfl rfl) rfl rfl ?_
      obtain ⟨x1, e1, hr1⟩ : ∃ (x1 : Sender) (e1 : Int), putS s t = (x1, e1) := ⟨_, _, rfl⟩
      refine AL.call (n' := 3) (h' := [(2, (.arr 60 4 ((x1.kept).map rTransfer))), (1, (.box 60 [(cI t.number), (cI t.kind), (cI t.auth), (cI t.sum)])), (0, (.box 58 [(cI s.sent), (cR 4 ((s.kept).map rTransfer))]))]) (Wanted.plain rfl) (g_call 2 (c_post_Put s t (by first | assumption | exact inI_out (by assumption) (by omega) | exact inI_back (by assumption) (by assumption) | (simp [InI]; done)) x1 e1 hr1) en50 rfl rfl ⟨⟨_, rfl, .g ⟨.d _, .d _,  trivial⟩⟩, ⟨_, rfl, .g ⟨.d _, .d _, .d _, .d _,  trivial⟩⟩,  trivial⟩ ⟨⟨trivial, trivial,  trivial⟩, trivial,  trivial⟩ ⟨(fun _ _ _ _ => trivial),  trivial⟩ rfl rfl rfl rfl) rfl rfl rfl rfl rfl ?_
      refine AL.fast 1 rfl ?_
      refine AL.val (Wanted.plain rfl) (g_extract rfl rfl rfl) rfl rfl ?_
      refine AL.val (Wanted.plain rfl) (g_extract rfl rfl rfl) rfl rfl ?_
      refine AL.new (n' := 4) (Wanted.plain rfl) (g_alloc 3 rfl zv58 rfl rfl rfl) rfl rfl rfl ?_
      refine AL.sto (h' := [(3, (.box 58 [(cI x1.sent), (.s 2 0 4 x1.kept.length)])), (2, (.arr 60 4 ((x1.kept).map rTransfer))), (1, (.box 60 [(cI t.number), (cI t.kind), (cI t.auth), (cI t.sum)])), (0, (.box 58 [(cI s.sent), (cR 4 ((s.kept).map rTransfer))]))]) (Wanted.plain rfl) (g_storeB rfl rfl rfl rfl rfl sz58 rfl (Nat.le_of_ble_eq_true rfl) rfl) rfl rfl rfl rfl ?_
      refine AL.fast 1 rfl ?_
      refine AL.nil ?_
      refine then_ok ?_
      refine AC.seq ?_
      refine AC.region ?_
      refine AL.val (Wanted.plain rfl) (g_loadBs rfl rfl rfl Try.underlying58 rfl sz58 rfl rfl) rfl rfl ?_
      refine AL.val (Wanted.plain rfl) (g_loadBs rfl rfl rfl Try.underlying60 rfl sz60 rfl rfl) rfl rfl ?_
      refine AL.call (n' := 5) (h' := [(4, (.arr 60 4 ((x1.kept).map rTransfer))), (3, (.box 58 [(cI x1.sent), (.s 2 0 4 x1.kept.length)])), (2, (.arr 60 4 ((x1.kept).map rTransfer))), (1, (.box 60 [(cI t.number), (cI t.kind), (cI t.auth), (cI t.sum)])), (0, (.box 58 [(cI s.sent), (cR 4 ((s.kept).map rTransfer))]))]) (Wanted.plain rfl) (g_call 4 (c_ref_Put s t (by first | assumption | exact inI_out (by assumption) (by omega) | exact inI_back (by assumption) (by assumption) | (simp [InI]; done)) x1 e1 hr1) en51 rfl rfl ⟨⟨_, rfl, .g ⟨.d _, .d _,  trivial⟩⟩, ⟨_, rfl, .g ⟨.d _, .d _, .d _, .d _,  trivial⟩⟩,  trivial⟩ ⟨⟨trivial, trivial,  trivial⟩, trivial,  trivial⟩ ⟨(fun _ _ _ _ => trivial),  trivial⟩ rfl rfl rfl rfl) rfl rfl rfl rfl rfl ?_
      refine AL.fast 1 rfl ?_
      refine AL.val (Wanted.plain rfl) (g_extract rfl rfl rfl) rfl rfl ?_
      refine AL.val (Wanted.plain rfl) (g_extract rfl rfl rfl) rfl rfl ?_
      refine AL.new (n' := 6) (Wanted.plain rfl) (g_alloc 5 rfl zv58 rfl rfl rfl) rfl rfl rfl ?_
      refine AL.sto (h' := [(5, (.box 58 [(cI x1.sent), (.s 4 0 4 x1.kept.length)])), (4, (.arr 60 4 ((x1.kept).map rTransfer))), (3, (.box 58 [(cI x1.sent), (.s 2 0 4 x1.kept.length)])), (2, (.arr 60 4 ((x1.kept).map rTransfer))), (1, (.box 60 [(cI t.number), (cI t.kind), (cI t.auth), (cI t.sum)])), (0, (.box 58 [(cI s.sent), (cR 4 ((s.kept).map rTransfer))]))]) (Wanted.plain rfl) (g_storeB rfl rfl rfl rfl rfl sz58 rfl (Nat.le_of_ble_eq_true rfl) rfl) rfl rfl rfl rfl ?_
      refine AL.fast 1 rfl ?_
      refine AL.nil ?_
      refine then_ok ?_
      refine AC.seq ?_
      obtain ⟨r2, hr2⟩ : ∃ (r2 : Bool), sameS x1 x1 = r2 := ⟨_, rfl⟩
      refine AC.cutB 39 (false || (!r2)) ?_ ?_
      ·
        refine AC.region ?_
        refine AL.fast 2 rfl ?_
        refine AL.val (Wanted.plain rfl) (g_binI rfl rfl rfl (congrArg (fun b => some (Value.bool b)) (decide_eq_false (fun h => h rfl)))) rfl rfl ?_
        refine AL.fast 1 rfl ?_
        refine AL.val (Wanted.yes rfl rfl rfl) (g_loadBs rfl rfl rfl Try.underlying58 rfl sz58 rfl rfl) rfl rfl ?_
        refine AL.val (Wanted.yes rfl rfl rfl) (g_loadBs rfl rfl rfl Try.underlying58 rfl sz58 rfl rfl) rfl rfl ?_
        refine AL.call (n' := 6) (h' := [(5, (.box 58 [(cI x1.sent), (.s 4 0 4 x1.kept.length)])), (4, (.arr 60 4 ((x1.kept).map rTransfer))), (3, (.box 58 [(cI x1.sent), (.s 2 0 4 x1.kept.length)])), (2, (.arr 60 4 ((x1.kept).map rTransfer))), (1, (.box 60 [(cI t.number), (cI t.kind), (cI t.auth), (cI t.sum)])), (0, (.box 58 [(cI s.sent), (cR 4 ((s.kept).map rTransfer))]))]) (Wanted.yes rfl rfl rfl) (g_callE 6 [2, 4] (c_SameSender x1 x1  r2 hr2) en52 rfl rfl ⟨⟨_, rfl, .g ⟨.d _, .s rfl (by decide) (by first | omega | (simp; done) | (simp; omega)),  trivial⟩⟩, ⟨_, rfl, .g ⟨.d _, .s rfl (by decide) (by first | omega | (simp; done) | (simp; omega)),  trivial⟩⟩,  trivial⟩ rfl trivial rfl rfl rfl rfl) rfl rfl rfl rfl rfl ?_
        refine AL.val (Wanted.yes rfl rfl rfl) (g_notB rfl rfl) rfl rfl ?_
        refine AL.fast 1 rfl ?_
        refine AL.nil ?_
        refine then_ok ?_
        exact Weak.popB 9 rfl rfl (by first | (simp []; done) | (simp_all; done) | (exfalso; simp_all; done) | skip | (simp_all; omega)) rfl
      ·
        refine AC.cond rfl (fun hc2 => ?_) (fun hc2 => ?_)
        ·
          have hc2' := hc2; try simp only [sumB, Bool.not_eq_true', Bool.not_eq_false', Bool.or_eq_true, Bool.or_eq_false_iff, Bool.and_eq_true, Bool.and_eq_false_imp, decide_eq_true_eq, decide_eq_false_iff_not, Bool.not_not, Bool.not_true, Bool.not_false] at hc2'
          refine AC.seq ?_
          refine AC.region ?_
          refine AL.fast 1 rfl ?_
          refine AL.nil ?_
          refine then_ok ?_
          refine AC.ret ?_
          refine then_ret ?_
          refine retQ_mk (av' := outOf [(.c (cB false))]) (nb' := []) (retQ_ret ⟨[(6, (aB false))], [], 0⟩ [.tmp 6] [(.c (cB false))] (Weak.ren id (⟨by first | rfl | (simp only [AV.map, GV.map, CV.map, AB.map', id]; done) | (congr 3; omega) | (congr 4; omega) | (simp only [List.length_append, List.length_cons, List.length_nil, List.length_set]; rfl),  trivial⟩) (trivial) rfl) rfl ⟨.tmp rfl, trivial⟩ trivial) ?_ ?_
          · exact congrArg aB (show (false) = true by (exfalso; have hs := hr2; rw [sameS_self] at hs; simp_all))
          · rfl
        ·
          have hc2' := hc2; try simp only [sumB, Bool.not_eq_true', Bool.not_eq_false', Bool.or_eq_true, Bool.or_eq_false_iff, Bool.and_eq_true, Bool.and_eq_false_imp, decide_eq_true_eq, decide_eq_false_iff_not, Bool.not_not, Bool.not_true, Bool.not_false] at hc2'
          refine AC.skip ?_
          refine then_ok ?_
          refine AC.seq ?_
          refine AC.region ?_
          refine AL.val (Wanted.plain rfl) (g_loadBs rfl rfl rfl Try.underlying58 rfl sz58 rfl rfl) rfl rfl ?_
          refine AL.fast 1 rfl ?_
          obtain ⟨x3, e3, hr3⟩ : ∃ (x3 : Sender) (e3 : Int), backS s seen = (x3, e3) := ⟨_, _, rfl⟩
          refine AL.call (n' := 7) (h' := [(6, (.arr 60 4 ((x3.kept).map rTransfer))), (5, (.box 58 [(cI x1.sent), (.s 4 0 4 x1.kept.length)])), (4, (.arr 60 4 ((x1.kept).map rTransfer))), (3, (.box 58 [(cI x1.sent), (.s 2 0 4 x1.kept.length)])), (2, (.arr 60 4 ((x1.kept).map rTransfer))), (1, (.box 60 [(cI t.number), (cI t.kind), (cI t.auth), (cI t.sum)])), (0, (.box 58 [(cI s.sent), (cR 4 ((s.kept).map rTransfer))]))]) (Wanted.plain rfl) (g_call 6 (c_post_Back s seen (by first | assumption | exact inI_out (by assumption) (by omega) | exact inI_back (by assumption) (by assumption) | (simp [InI]; done)) x3 e3 hr3) en53 rfl rfl ⟨⟨_, rfl, .g ⟨.d _, .d _,  trivial⟩⟩, ⟨_, rfl, .c (.d _)⟩,  trivial⟩ ⟨⟨trivial, trivial,  trivial⟩, trivial,  trivial⟩ ⟨(fun _ _ _ _ => trivial),  trivial⟩ rfl rfl rfl rfl) rfl rfl rfl rfl rfl ?_
          refine AL.fast 1 rfl ?_
          refine AL.val (Wanted.plain rfl) (g_extract rfl rfl rfl) rfl rfl ?_
          refine AL.val (Wanted.plain rfl) (g_extract rfl rfl rfl) rfl rfl ?_
          refine AL.sto (h' := [(6, (.arr 60 4 ((x3.kept).map rTransfer))), (5, (.box 58 [(cI x1.sent), (.s 4 0 4 x1.kept.length)])), (4, (.arr 60 4 ((x1.kept).map rTransfer))), (3, (.box 58 [(cI x3.sent), (.s 6 0 4 x3.kept.length)])), (2, (.arr 60 4 ((x1.kept).map rTransfer))), (1, (.box 60 [(cI t.number), (cI t.kind), (cI t.auth), (cI t.sum)])), (0, (.box 58 [(cI s.sent), (cR 4 ((s.kept).map rTransfer))]))]) (Wanted.plain rfl) (g_storeB rfl rfl rfl rfl rfl sz58 rfl (Nat.le_of_ble_eq_true rfl) rfl) rfl rfl rfl rfl ?_
          refine AL.fast 1 rfl ?_
          refine AL.nil ?_
          refine then_ok ?_
          refine AC.seq ?_
          refine AC.region ?_
          refine AL.val (Wanted.plain rfl) (g_loadBs rfl rfl rfl Try.underlying58 rfl sz58 rfl rfl) rfl rfl ?_
          refine AL.fast 1 rfl ?_
          refine AL.call (n' := 8) (h' := [(7, (.arr 60 4 ((x3.kept).map rTransfer))), (6, (.arr 60 4 ((x3.kept).map rTransfer))), (5, (.box 58 [(cI x1.sent), (.s 4 0 4 x1.kept.length)])), (4, (.arr 60 4 ((x1.kept).map rTransfer))), (3, (.box 58 [(cI x3.sent), (.s 6 0 4 x3.kept.length)])), (2, (.arr 60 4 ((x1.kept).map rTransfer))), (1, (.box 60 [(cI t.number), (cI t.kind), (cI t.auth), (cI t.sum)])), (0, (.box 58 [(cI s.sent), (cR 4 ((s.kept).map rTransfer))]))]) (Wanted.plain rfl) (g_call 7 (c_ref_Back s seen (by first | assumption | exact inI_out (by assumption) (by omega) | exact inI_back (by assumption) (by assumption) | (simp [InI]; done)) x3 e3 hr3) en54 rfl rfl ⟨⟨_, rfl, .g ⟨.d _, .d _,  trivial⟩⟩, ⟨_, rfl, .c (.d _)⟩,  trivial⟩ ⟨⟨trivial, trivial,  trivial⟩, trivial,  trivial⟩ ⟨(fun _ _ _ _ => trivial),  trivial⟩ rfl rfl rfl rfl) rfl rfl rfl rfl rfl ?_
          refine AL.fast 1 rfl ?_
          refine AL.val (Wanted.plain rfl) (g_extract rfl rfl rfl) rfl rfl ?_
          refine AL.val (Wanted.plain rfl) (g_extract rfl rfl rfl) rfl rfl ?_
          refine AL.sto (h' := [(7, (.arr 60 4 ((x3.kept).map rTransfer))), (6, (.arr 60 4 ((x3.kept).map rTransfer))), (5, (.box 58 [(cI x3.sent), (.s 7 0 4 x3.kept.length)])), (4, (.arr 60 4 ((x1.kept).map rTransfer))), (3, (.box 58 [(cI x3.sent), (.s 6 0 4 x3.kept.length)])), (2, (.arr 60 4 ((x1.kept).map rTransfer))), (1, (.box 60 [(cI t.number), (cI t.kind), (cI t.auth), (cI t.sum)])), (0, (.box 58 [(cI s.sent), (cR 4 ((s.kept).map rTransfer))]))]) (Wanted.plain rfl) (g_storeB rfl rfl rfl rfl rfl sz58 rfl (Nat.le_of_ble_eq_true rfl) rfl) rfl rfl rfl rfl ?_
          refine AL.fast 1 rfl ?_
          refine AL.nil ?_
          refine then_ok ?_
          refine AC.seq ?_
          obtain ⟨r4, hr4⟩ : ∃ (r4 : Bool), sameS x3 x3 = r4 := ⟨_, rfl⟩
          refine AC.cutB 60 (false || (!r4)) ?_ ?_
          ·
            refine AC.region ?_
            refine AL.fast 2 rfl ?_
            refine AL.val (Wanted.plain rfl) (g_binI rfl rfl rfl (congrArg (fun b => some (Value.bool b)) (decide_eq_false (fun h => h rfl)))) rfl rfl ?_
            refine AL.fast 1 rfl ?_
            refine AL.val (Wanted.yes rfl rfl rfl) (g_loadBs rfl rfl rfl Try.underlying58 rfl sz58 rfl rfl) rfl rfl ?_
            refine AL.val (Wanted.yes rfl rfl rfl) (g_loadBs rfl rfl rfl Try.underlying58 rfl sz58 rfl rfl) rfl rfl ?_
            refine AL.call (n' := 8) (h' := [(7, (.arr 60 4 ((x3.kept).map rTransfer))), (6, (.arr 60 4 ((x3.kept).map rTransfer))), (5, (.box 58 [(cI x3.sent), (.s 7 0 4 x3.kept.length)])), (4, (.arr 60 4 ((x1.kept).map rTransfer))), (3, (.box 58 [(cI x3.sent), (.s 6 0 4 x3.kept.length)])), (2, (.arr 60 4 ((x1.kept).map rTransfer))), (1, (.box 60 [(cI t.number), (cI t.kind), (cI t.auth), (cI t.sum)])), (0, (.box 58 [(cI s.sent), (cR 4 ((s.kept).map rTransfer))]))]) (Wanted.yes rfl rfl rfl) (g_callE 8 [6, 7] (c_SameSender x3 x3  r4 hr4) en52 rfl rfl ⟨⟨_, rfl, .g ⟨.d _, .s rfl (by decide) (by first | omega | (simp; done) | (simp; omega)),  trivial⟩⟩, ⟨_, rfl, .g ⟨.d _, .s rfl (by decide) (by first | omega | (simp; done) | (simp; omega)),  trivial⟩⟩,  trivial⟩ rfl trivial rfl rfl rfl rfl) rfl rfl rfl rfl rfl ?_
            refine AL.val (Wanted.yes rfl rfl rfl) (g_notB rfl rfl) rfl rfl ?_
            refine AL.fast 1 rfl ?_
            refine AL.nil ?_
            refine then_ok ?_
            exact Weak.popB 9 rfl rfl (by first | (simp []; done) | (simp_all; done) | (exfalso; simp_all; done) | skip | (simp_all; omega)) rfl
          ·
            refine AC.cond rfl (fun hc3 => ?_) (fun hc3 => ?_)
            ·
              have hc3' := hc3; try simp only [sumB, Bool.not_eq_true', Bool.not_eq_false', Bool.or_eq_true, Bool.or_eq_false_iff, Bool.and_eq_true, Bool.and_eq_false_imp, decide_eq_true_eq, decide_eq_false_iff_not, Bool.not_not, Bool.not_true, Bool.not_false] at hc3'
              refine AC.seq ?_
              refine AC.region ?_
              refine AL.fast 1 rfl ?_
              refine AL.nil ?_
              refine then_ok ?_
              refine AC.ret ?_
              refine then_ret ?_
              refine retQ_mk (av' := outOf [(.c (cB false))]) (nb' := []) (retQ_ret ⟨[(6, (aB false))], [], 0⟩ [.tmp 6] [(.c (cB false))] (Weak.ren id (⟨by first | rfl | (simp only [AV.map, GV.map, CV.map, AB.map', id]; done) | (congr 3; omega) | (congr 4; omega) | (simp only [List.length_append, List.length_cons, List.length_nil, List.length_set]; rfl),  trivial⟩) (trivial) rfl) rfl ⟨.tmp rfl, trivial⟩ trivial) ?_ ?_
              · exact congrArg aB (show (false) = true by (exfalso; have hs := hr4; rw [sameS_self] at hs; simp_all))
              · rfl
            ·
              have hc3' := hc3; try simp only [sumB, Bool.not_eq_true', Bool.not_eq_false', Bool.or_eq_true, Bool.or_eq_false_iff, Bool.and_eq_true, Bool.and_eq_false_imp, decide_eq_true_eq, decide_eq_false_iff_not, Bool.not_not, Bool.not_true, Bool.not_false] at hc3'
              refine AC.skip ?_
              refine then_ok ?_
              refine AC.seq ?_
              refine AC.region ?_
              refine AL.fast 1 rfl ?_
              refine AL.val (Wanted.plain rfl) (g_loadBs rfl rfl rfl Try.underlying60 rfl sz60 rfl rfl) rfl rfl ?_
              obtain ⟨n5, ok5, hr5⟩ : ∃ (n5 : Int) (ok5 : Bool), takeS seen t = (n5, ok5) := ⟨_, _, rfl⟩
              refine AL.call (n' := 8) (h' := [(7, (.arr 60 4 ((x3.kept).map rTransfer))), (6, (.arr 60 4 ((x3.kept).map rTransfer))), (5, (.box 58 [(cI x3.sent), (.s 7 0 4 x3.kept.length)])), (4, (.arr 60 4 ((x1.kept).map rTransfer))), (3, (.box 58 [(cI x3.sent), (.s 6 0 4 x3.kept.length)])), (2, (.arr 60 4 ((x1.kept).map rTransfer))), (1, (.box 60 [(cI t.number), (cI t.kind), (cI t.auth), (cI t.sum)])), (0, (.box 58 [(cI s.sent), (cR 4 ((s.kept).map rTransfer))]))]) (Wanted.plain rfl) (g_call 8 (c_post_Take seen t  n5 ok5 hr5) en55 rfl rfl ⟨⟨_, rfl, .c (.d _)⟩, ⟨_, rfl, .g ⟨.d _, .d _, .d _, .d _,  trivial⟩⟩,  trivial⟩ ⟨trivial, trivial,  trivial⟩ trivial rfl rfl rfl rfl) rfl rfl rfl rfl rfl ?_
              refine AL.fast 1 rfl ?_
              refine AL.val (Wanted.plain rfl) (g_extract rfl rfl rfl) rfl rfl ?_
              refine AL.val (Wanted.plain rfl) (g_extract rfl rfl rfl) rfl rfl ?_
              refine AL.fast 2 rfl ?_
              refine AL.nil ?_
              refine then_ok ?_
              refine AC.cutB 13 (((decide (seen ≥ 0)) && (decide (seen < 1000000))) && (decide (t.number = (seen + 1)))) ?_ ?_
              ·
                refine AC.region ?_
                refine AL.fast 1 rfl ?_
                refine AL.val (Wanted.plain rfl) (g_binI rfl rfl rfl rfl) rfl rfl ?_
                refine AL.fast 1 rfl ?_
                refine AL.dec (t := 69) rfl (fun hb4 => ?_) (fun hb4 => ?_)
                ·
                  have hb4' := hb4; try simp only [sumB, Bool.not_eq_true', Bool.not_eq_false', Bool.or_eq_true, Bool.or_eq_false_iff, Bool.and_eq_true, Bool.and_eq_false_imp, decide_eq_true_eq, decide_eq_false_iff_not, Bool.not_not, Bool.not_true, Bool.not_false] at hb4'
                  refine AL.fast 1 rfl ?_
                  refine AL.val (Wanted.yes rfl rfl rfl) (g_binI rfl rfl rfl rfl) rfl rfl ?_
                  refine AL.fast 2 rfl ?_
                  refine AL.dec (t := 73) rfl (fun hb5 => ?_) (fun hb5 => ?_)
                  ·
                    have hb5' := hb5; try simp only [sumB, Bool.not_eq_true', Bool.not_eq_false', Bool.or_eq_true, Bool.or_eq_false_iff, Bool.and_eq_true, Bool.and_eq_false_imp, decide_eq_true_eq, decide_eq_false_iff_not, Bool.not_not, Bool.not_true, Bool.not_false] at hb5'
                    refine AL.val (Wanted.yes rfl rfl rfl) (g_fieldP rfl rfl Try.underlying60 rfl sz3 (by decide)) rfl rfl ?_
                    refine AL.val (Wanted.yes rfl rfl rfl) (g_loadB rfl rfl rfl Try.underlying3 rfl rfl) rfl rfl ?_
                    refine AL.fast 1 rfl ?_
                    refine AL.val (Wanted.yes rfl rfl rfl) (g_binI rfl rfl rfl (wrap_ok (by first | omega | (simp; done) | (simp; omega)))) rfl rfl ?_
                    refine AL.val (Wanted.yes rfl rfl rfl) (g_binI rfl rfl rfl rfl) rfl rfl ?_
                    refine AL.fast 2 rfl ?_
                    refine AL.nil ?_
                    refine then_ok ?_
                    exact Weak.popB 16 rfl rfl (by first | (simp [hb4, hb5]; done) | (simp_all; done) | (exfalso; simp_all; done) | (simp only [hb5] at hb4 ⊢; revert hb4; cases ok5 <;> simp; done) | (simp_all; omega)) rfl
                  ·
                    have hb5' := hb5; try simp only [sumB, Bool.not_eq_true', Bool.not_eq_false', Bool.or_eq_true, Bool.or_eq_false_iff, Bool.and_eq_true, Bool.and_eq_false_imp, decide_eq_true_eq, decide_eq_false_iff_not, Bool.not_not, Bool.not_true, Bool.not_false] at hb5'
                    refine AL.fast 7 rfl ?_
                    refine AL.nil ?_
                    refine then_ok ?_
                    exact Weak.popB 16 rfl rfl (by first | (simp [hb4, hb5]; done) | (simp_all; done) | (exfalso; simp_all; done) | (simp only [hb5] at hb4 ⊢; revert hb4; cases ok5 <;> simp; done) | (simp_all; omega)) rfl
                ·
                  have hb4' := hb4; try simp only [sumB, Bool.not_eq_true', Bool.not_eq_false', Bool.or_eq_true, Bool.or_eq_false_iff, Bool.and_eq_true, Bool.and_eq_false_imp, decide_eq_true_eq, decide_eq_false_iff_not, Bool.not_not, Bool.not_true, Bool.not_false] at hb4'
                  refine AL.fast 11 rfl ?_
                  refine AL.nil ?_
                  refine then_ok ?_
                  exact Weak.popB 15 rfl rfl (by first | (simp [hb4]; done) | (simp_all; done) | (exfalso; simp_all; done) | skip | (simp_all; omega)) rfl
              ·
                refine AC.cutB 6 ((ok5 == (((decide (seen ≥ 0)) && (decide (seen < 1000000))) && (decide (t.number = (seen + 1))))) && (((((decide (seen ≥ 0)) && (decide (seen < 1000000))) && (decide (t.number = (seen + 1)))) && (decide (n5 = (seen + 1)))) || ((!(((decide (seen ≥ 0)) && (decide (seen < 1000000))) && (decide (t.number = (seen + 1))))) && (decide (n5 = seen))))) ?_ ?_
                ·
                  refine AC.region ?_
                  refine AL.fast 2 rfl ?_
                  refine AL.val (Wanted.plain rfl) (g_eqB Try.underlying4 rfl rfl rfl) rfl rfl ?_
                  refine AL.fast 1 rfl ?_
                  refine AL.dec (t := 83) rfl (fun hb6 => ?_) (fun hb6 => ?_)
                  ·
                    have hb6' := hb6; try simp only [sumB, Bool.not_eq_true', Bool.not_eq_false', Bool.or_eq_true, Bool.or_eq_false_iff, Bool.and_eq_true, Bool.and_eq_false_imp, decide_eq_true_eq, decide_eq_false_iff_not, Bool.not_not, Bool.not_true, Bool.not_false] at hb6'
                    refine AL.fast 2 rfl ?_
                    refine AL.dec (t := 85) rfl (fun hb7 => ?_) (fun hb7 => ?_)
                    ·
                      have hb7' := hb7; try simp only [sumB, Bool.not_eq_true', Bool.not_eq_false', Bool.or_eq_true, Bool.or_eq_false_iff, Bool.and_eq_true, Bool.and_eq_false_imp, decide_eq_true_eq, decide_eq_false_iff_not, Bool.not_not, Bool.not_true, Bool.not_false] at hb7'
                      refine AL.fast 2 rfl ?_
                      refine AL.val (Wanted.yes rfl rfl rfl) (g_binI rfl rfl rfl (wrap_ok (by first | omega | (simp; done) | (simp; omega)))) rfl rfl ?_
                      refine AL.val (Wanted.yes rfl rfl rfl) (g_binI rfl rfl rfl rfl) rfl rfl ?_
                      refine AL.fast 2 rfl ?_
                      refine AL.dec (t := 91) rfl (fun hb8 => ?_) (fun hb8 => ?_)
                      ·
                        have hb8' := hb8; try simp only [sumB, Bool.not_eq_true', Bool.not_eq_false', Bool.or_eq_true, Bool.or_eq_false_iff, Bool.and_eq_true, Bool.and_eq_false_imp, decide_eq_true_eq, decide_eq_false_iff_not, Bool.not_not, Bool.not_true, Bool.not_false] at hb8'
                        refine AL.fast 10 rfl ?_
                        refine AL.nil ?_
                        refine then_ok ?_
                        exact Weak.popB 25 rfl rfl (by first | (simp [hb6, hb7, hb8]; done) | (simp_all; done) | (exfalso; simp_all; done) | (simp only [hb7] at hb6 ⊢; revert hb6; cases ok5 <;> simp; done) | (simp_all; omega)) rfl
                      ·
                        have hb8' := hb8; try simp only [sumB, Bool.not_eq_true', Bool.not_eq_false', Bool.or_eq_true, Bool.or_eq_false_iff, Bool.and_eq_true, Bool.and_eq_false_imp, decide_eq_true_eq, decide_eq_false_iff_not, Bool.not_not, Bool.not_true, Bool.not_false] at hb8'
                        refine AL.fast 1 rfl ?_
                        refine AL.val (Wanted.yes rfl rfl rfl) (g_notB rfl rfl) rfl rfl ?_
                        refine AL.fast 1 rfl ?_
                        refine AL.dec (t := 94) rfl (fun hno => by simp [hb7] at hno) (fun _ => ?_)
                        refine AL.fast 7 rfl ?_
                        refine AL.nil ?_
                        refine then_ok ?_
                        exact Weak.popB 26 rfl rfl (by first | (simp [hb6, hb7, hb8]; done) | (simp_all; done) | (exfalso; simp_all; done) | (simp only [hb7] at hb6 ⊢; revert hb6; cases ok5 <;> simp; done) | (simp_all; omega)) rfl
                    ·
                      have hb7' := hb7; try simp only [sumB, Bool.not_eq_true', Bool.not_eq_false', Bool.or_eq_true, Bool.or_eq_false_iff, Bool.and_eq_true, Bool.and_eq_false_imp, decide_eq_true_eq, decide_eq_false_iff_not, Bool.not_not, Bool.not_true, Bool.not_false] at hb7'
                      refine AL.fast 7 rfl ?_
                      refine AL.val (Wanted.yes rfl rfl rfl) (g_notB rfl rfl) rfl rfl ?_
                      refine AL.fast 1 rfl ?_
                      refine AL.dec (t := 94) rfl (fun _ => ?_) (fun hno => by simp [hb7] at hno)
                      refine AL.fast 2 rfl ?_
                      refine AL.val (Wanted.yes rfl rfl rfl) (g_binI rfl rfl rfl rfl) rfl rfl ?_
                      refine AL.fast 4 rfl ?_
                      refine AL.nil ?_
                      refine then_ok ?_
                      exact Weak.popB 25 rfl rfl (by first | (simp [hb6, hb7]; done) | (simp_all; done) | (exfalso; simp_all; done) | (simp only [hb7] at hb6 ⊢; revert hb6; cases ok5 <;> simp; done) | (simp_all; omega)) rfl
                  ·
                    have hb6' := hb6; try simp only [sumB, Bool.not_eq_true', Bool.not_eq_false', Bool.or_eq_true, Bool.or_eq_false_iff, Bool.and_eq_true, Bool.and_eq_false_imp, decide_eq_true_eq, decide_eq_false_iff_not, Bool.not_not, Bool.not_true, Bool.not_false] at hb6'
                    refine AL.fast 18 rfl ?_
                    refine AL.nil ?_
                    refine then_ok ?_
                    exact Weak.popB 23 rfl rfl (by first | (simp [hb6]; done) | (simp_all; done) | (exfalso; simp_all; done) | skip | (simp_all; omega)) rfl
                ·
                  refine AC.ret ?_
                  refine retQ_mk (av' := outOf [(.c (cB ((ok5 == (((decide (seen ≥ 0)) && (decide (seen < 1000000))) && (decide (t.number = (seen + 1))))) && (((((decide (seen ≥ 0)) && (decide (seen < 1000000))) && (decide (t.number = (seen + 1)))) && (decide (n5 = (seen + 1)))) || ((!(((decide (seen ≥ 0)) && (decide (seen < 1000000))) && (decide (t.number = (seen + 1))))) && (decide (n5 = seen)))))))]) (nb' := []) (retQ_ret ⟨[(6, (aB ((ok5 == (((decide (seen ≥ 0)) && (decide (seen < 1000000))) && (decide (t.number = (seen + 1))))) && (((((decide (seen ≥ 0)) && (decide (seen < 1000000))) && (decide (t.number = (seen + 1)))) && (decide (n5 = (seen + 1)))) || ((!(((decide (seen ≥ 0)) && (decide (seen < 1000000))) && (decide (t.number = (seen + 1))))) && (decide (n5 = seen)))))))], [], 0⟩ [.tmp 6] [(.c (cB ((ok5 == (((decide (seen ≥ 0)) && (decide (seen < 1000000))) && (decide (t.number = (seen + 1))))) && (((((decide (seen ≥ 0)) && (decide (seen < 1000000))) && (decide (t.number = (seen + 1)))) && (decide (n5 = (seen + 1)))) || ((!(((decide (seen ≥ 0)) && (decide (seen < 1000000))) && (decide (t.number = (seen + 1))))) && (decide (n5 = seen)))))))] (Weak.ren id (⟨by first | rfl | (simp only [AV.map, GV.map, CV.map, AB.map', id]; done) | (congr 3; omega) | (congr 4; omega) | (simp only [List.length_append, List.length_cons, List.length_nil, List.length_set]; rfl),  trivial⟩) (trivial) rfl) rfl ⟨.tmp rfl, trivial⟩ trivial) ?_ ?_
                  · exact congrArg aB (show ((ok5 == (((decide (seen ≥ 0)) && (decide (seen < 1000000))) && (decide (t.number = (seen + 1))))) && (((((decide (seen ≥ 0)) && (decide (seen < 1000000))) && (decide (t.number = (seen + 1)))) && (decide (n5 = (seen + 1)))) || ((!(((decide (seen ≥ 0)) && (decide (seen < 1000000))) && (decide (t.number = (seen + 1))))) && (decide (n5 = seen))))) = true by (have hk := hr5; unfold takeS at hk; split at hk <;> simp only [Prod.mk.injEq] at hk <;> obtain ⟨hk1, hk2⟩ := hk <;> subst hk1 <;> subst hk2 <;> simp <;> omega))
                  · rfl
end Go.Proofs.Ytgmcdlfmifijlaa.Dev
