/- PostKept. -/
import Derived.Test.YtgmcdlfmifijlaaDPost4
set_option linter.unusedVariables false
set_option linter.unusedSimpArgs false
namespace Go.Proofs.Ytgmcdlfmifijlaa.Dev
open Go.RowKit

set_option maxRecDepth 100000 in
set_option maxHeartbeats 1000000 in
theorem c_PostKept (s : Sender) (seen : Int) (hI : ∀ t ∈ s.kept, InI t.number) : Fn Try.prog 11 [(.g [(cI s.sent), (cR 4 ((s.kept).map rTransfer))]), (.c (cI seen))] (aB true) [] := by
  refine Fn.mk' 84 [(0, (aG [(cI s.sent), (cR 4 ((s.kept).map rTransfer))])), (1, (aI seen))] Try.func11 rfl rfl rfl rfl ?_
  intro W0 T0
  refine AC.lenG 0 1 rfl rfl (fun hlen0_1 => ?_)
  refine AC.seq ?_
  refine AC.region ?_
  refine AL.new (n' := 1) (Wanted.plain rfl) (g_boxS 0 rfl rfl) rfl rfl rfl ?_
  refine AL.fast 1 rfl ?_
  refine AL.nil ?_
  refine then_ok ?_
  refine AC.seq ?_
  refine AC.seq ?_
  refine AC.region ?_
  refine AL.call (n' := 1) (h' := [(0, (.box 58 [(cI s.sent), (cR 4 ((s.kept).map rTransfer))]))]) (Wanted.plain rfl) (g_call 1 (c_post_alive   ) en56 rfl rfl trivial trivial trivial rfl rfl rfl rfl) rfl rfl rfl rfl rfl ?_
  refine AL.val (Wanted.plain rfl) (g_notB rfl rfl) rfl rfl ?_
  refine AL.nil ?_
  refine then_ok ?_
  refine AC.cond rfl (fun hno => by cases hno) (fun _ => ?_)
  refine AC.skip ?_
  refine then_ok ?_
  refine AC.seq ?_
  refine AC.region ?_
  refine AL.val (Wanted.plain rfl) (g_loadBs rfl rfl rfl Try.underlying58 rfl sz58 rfl rfl) rfl rfl ?_
  refine AL.fast 1 rfl ?_
  obtain ⟨x0, e0, hr0⟩ : ∃ (x0 : Sender) (e0 : Int), backS s seen = (x0, e0) := ⟨_, _, rfl⟩
  refine AL.call (n' := 2) (h' := [(1, (.arr 60 4 ((x0.kept).map rTransfer))), (0, (.box 58 [(cI s.sent), (cR 4 ((s.kept).map rTransfer))]))]) (Wanted.plain rfl) (g_call 1 (c_post_Back s seen (by first | assumption | exact inI_out (by assumption) (by omega) | exact inI_back (by assumption) (by assumption) | (simp [InI]; done)) x0 e0 hr0) en53 rfl rfl ⟨⟨_, rfl, .g ⟨.d _, .d _,  trivial⟩⟩, ⟨_, rfl, .c (.d _)⟩,  trivial⟩ ⟨⟨trivial, trivial,  trivial⟩, trivial,  trivial⟩ ⟨(fun _ _ _ _ => trivial),  trivial⟩ rfl rfl rfl rfl) rfl rfl rfl rfl rfl ?_
  refine AL.fast 1 rfl ?_
  refine AL.val (Wanted.plain rfl) (g_extract rfl rfl rfl) rfl rfl ?_
  refine AL.val (Wanted.plain rfl) (g_extract rfl rfl rfl) rfl rfl ?_
  refine AL.new (n' := 3) (Wanted.plain rfl) (g_alloc 2 rfl zv58 rfl rfl rfl) rfl rfl rfl ?_
  refine AL.sto (h' := [(2, (.box 58 [(cI x0.sent), (.s 1 0 4 x0.kept.length)])), (1, (.arr 60 4 ((x0.kept).map rTransfer))), (0, (.box 58 [(cI s.sent), (cR 4 ((s.kept).map rTransfer))]))]) (Wanted.plain rfl) (g_storeB rfl rfl rfl rfl rfl sz58 rfl (Nat.le_of_ble_eq_true rfl) rfl) rfl rfl rfl rfl ?_
  refine AL.fast 1 rfl ?_
  refine AL.nil ?_
  refine then_ok ?_
  refine AC.seq ?_
  refine AC.seq ?_
  refine AC.region ?_
  refine AL.fast 1 rfl ?_
  refine AL.val (Wanted.plain rfl) (g_binI rfl rfl rfl rfl) rfl rfl ?_
  refine AL.nil ?_
  refine then_ok ?_
  refine AC.cond rfl (fun hc2 => ?_) (fun hc2 => ?_)
  ·
    have hc2' := hc2; try simp only [sumB, Bool.not_eq_true', Bool.not_eq_false', Bool.or_eq_true, Bool.or_eq_false_iff, Bool.and_eq_true, Bool.and_eq_false_imp, decide_eq_true_eq, decide_eq_false_iff_not, Bool.not_not, Bool.not_true, Bool.not_false] at hc2'
    refine AC.seq ?_
    refine AC.region ?_
    refine AL.val (Wanted.plain rfl) (g_fieldP rfl rfl Try.underlying58 rfl sz56 (by decide)) rfl rfl ?_
    refine AL.val (Wanted.plain rfl) (g_loadB rfl rfl rfl Try.underlying56 rfl rfl) rfl rfl ?_
    refine AL.val (Wanted.plain rfl) (g_lenS rfl rfl rfl rfl rfl Try.underlying56) rfl rfl ?_
    refine AL.val (Wanted.plain rfl) (g_binI rfl rfl rfl rfl) rfl rfl ?_
    refine AL.fast 1 rfl ?_
    refine AL.nil ?_
    refine then_ok ?_
    refine AC.ret ?_
    refine then_ret ?_
    refine retQ_mk (av' := outOf [(.c (cB (decide ((↑x0.kept.length : Int) = 0))))]) (nb' := []) (retQ_ret ⟨[(4, (aB (decide ((↑x0.kept.length : Int) = 0))))], [], 0⟩ [.tmp 4] [(.c (cB (decide ((↑x0.kept.length : Int) = 0))))] (Weak.ren id (⟨by first | rfl | (simp only [AV.map, GV.map, CV.map, AB.map', id]; done) | (congr 3; omega) | (congr 4; omega) | (simp only [List.length_append, List.length_cons, List.length_nil, List.length_set]; rfl),  trivial⟩) (trivial) rfl) rfl ⟨.tmp rfl, trivial⟩ trivial) ?_ ?_
    · exact congrArg aB (show (decide ((↑x0.kept.length : Int) = 0)) = true by (rcases back_of hr0 with ⟨_, rfl⟩ | ⟨h0, _⟩; rfl; (exfalso; omega)))
    · rfl
  ·
    have hc2' := hc2; try simp only [sumB, Bool.not_eq_true', Bool.not_eq_false', Bool.or_eq_true, Bool.or_eq_false_iff, Bool.and_eq_true, Bool.and_eq_false_imp, decide_eq_true_eq, decide_eq_false_iff_not, Bool.not_not, Bool.not_true, Bool.not_false] at hc2'
    refine AC.skip ?_
    refine then_ok ?_
    refine AC.seq ?_
    obtain ⟨f1, hr1⟩ : ∃ (f1 : Fault), wrongSF x0 = f1 := ⟨_, rfl⟩
    refine AC.cutB 35 ((decide (¬ x0.sent = s.sent)) || (decide (¬ f1.err = 0))) ?_ ?_
    ·
      refine AC.region ?_
      refine AL.val (Wanted.plain rfl) (g_fieldP rfl rfl Try.underlying58 rfl sz3 (by decide)) rfl rfl ?_
      refine AL.val (Wanted.plain rfl) (g_loadB rfl rfl rfl Try.underlying3 rfl rfl) rfl rfl ?_
      refine AL.val (Wanted.plain rfl) (g_fieldP rfl rfl Try.underlying58 rfl sz3 (by decide)) rfl rfl ?_
      refine AL.val (Wanted.plain rfl) (g_loadB rfl rfl rfl Try.underlying3 rfl rfl) rfl rfl ?_
      refine AL.val (Wanted.plain rfl) (g_binI rfl rfl rfl rfl) rfl rfl ?_
      refine AL.fast 1 rfl ?_
      refine AL.dec (t := 30) rfl (fun hb3 => ?_) (fun hb3 => ?_)
      ·
        have hb3' := hb3; try simp only [sumB, Bool.not_eq_true', Bool.not_eq_false', Bool.or_eq_true, Bool.or_eq_false_iff, Bool.and_eq_true, Bool.and_eq_false_imp, decide_eq_true_eq, decide_eq_false_iff_not, Bool.not_not, Bool.not_true, Bool.not_false] at hb3'
        refine AL.fast 5 rfl ?_
        refine AL.nil ?_
        refine then_ok ?_
        exact Weak.popB 12 rfl rfl (by first | (simp [hb3]; done) | (simp_all; done) | (exfalso; simp_all; done) | (simp_all; omega)) rfl
      ·
        have hb3' := hb3; try simp only [sumB, Bool.not_eq_true', Bool.not_eq_false', Bool.or_eq_true, Bool.or_eq_false_iff, Bool.and_eq_true, Bool.and_eq_false_imp, decide_eq_true_eq, decide_eq_false_iff_not, Bool.not_not, Bool.not_true, Bool.not_false] at hb3'
        refine AL.val (Wanted.yes rfl rfl rfl) (g_loadBs rfl rfl rfl Try.underlying58 rfl sz58 rfl rfl) rfl rfl ?_
        refine AL.call (n' := 3) (h' := [(2, (.box 58 [(cI x0.sent), (.s 1 0 4 x0.kept.length)])), (1, (.arr 60 4 ((x0.kept).map rTransfer))), (0, (.box 58 [(cI s.sent), (cR 4 ((s.kept).map rTransfer))]))]) (Wanted.yes rfl rfl rfl) (g_callE 3 [1] (c_post_Wrong x0 (by first | assumption | exact inI_out (by assumption) (by omega) | exact inI_back (by assumption) (by assumption) | (simp [InI]; done)) f1 hr1) en48 rfl rfl ⟨⟨_, rfl, .g ⟨.d _, .s rfl (by decide) (by first | omega | (simp; done) | (simp; omega)),  trivial⟩⟩,  trivial⟩ ⟨rfl, rfl,  trivial⟩ trivial rfl rfl rfl rfl) rfl rfl rfl rfl rfl ?_
        refine AL.val (Wanted.yes rfl rfl rfl) (g_field1 rfl rfl Try.underlying47 rfl Try.underlying27 rfl rfl) rfl rfl ?_
        refine AL.val (Wanted.yes rfl rfl rfl) (g_binI rfl rfl rfl rfl) rfl rfl ?_
        refine AL.fast 1 rfl ?_
        refine AL.nil ?_
        refine then_ok ?_
        exact Weak.popB 12 rfl rfl (by first | (simp [hb3]; done) | (simp_all; done) | (exfalso; simp_all; done) | (simp_all; omega)) rfl
    ·
      refine AC.cond rfl (fun hc4 => ?_) (fun hc4 => ?_)
      ·
        have hc4' := hc4; try simp only [sumB, Bool.not_eq_true', Bool.not_eq_false', Bool.or_eq_true, Bool.or_eq_false_iff, Bool.and_eq_true, Bool.and_eq_false_imp, decide_eq_true_eq, decide_eq_false_iff_not, Bool.not_not, Bool.not_true, Bool.not_false] at hc4'
        refine AC.seq ?_
        refine AC.region ?_
        refine AL.fast 1 rfl ?_
        refine AL.nil ?_
        refine then_ok ?_
        refine AC.ret ?_
        refine then_ret ?_
        refine retQ_mk (av' := outOf [(.c (cB false))]) (nb' := []) (retQ_ret ⟨[(4, (aB false))], [], 0⟩ [.tmp 4] [(.c (cB false))] (Weak.ren id (⟨by first | rfl | (simp only [AV.map, GV.map, CV.map, AB.map', id]; done) | (congr 3; omega) | (congr 4; omega) | (simp only [List.length_append, List.length_cons, List.length_nil, List.length_set]; rfl),  trivial⟩) (trivial) rfl) rfl ⟨.tmp rfl, trivial⟩ trivial) ?_ ?_
        · exact congrArg aB (show (false) = true by (exfalso; rcases back_of hr0 with ⟨h0, _⟩ | ⟨_, h1, h2, h3, rfl⟩; (exfalso; omega); (have hw := back_right h1 h2 h3; rw [hr1] at hw; simp_all)))
        · rfl
      ·
        have hc4' := hc4; try simp only [sumB, Bool.not_eq_true', Bool.not_eq_false', Bool.or_eq_true, Bool.or_eq_false_iff, Bool.and_eq_true, Bool.and_eq_false_imp, decide_eq_true_eq, decide_eq_false_iff_not, Bool.not_not, Bool.not_true, Bool.not_false] at hc4'
        refine AC.skip ?_
        refine then_ok ?_
        refine AC.seq ?_
        refine AC.region ?_
        refine AL.fast 1 rfl ?_
        refine AL.nil ?_
        refine then_ok ?_
        refine AC.seq ?_
        refine AC.seq ?_
        refine AC.region ?_
        refine AL.val (Wanted.plain rfl) (g_fieldP rfl rfl Try.underlying58 rfl sz56 (by decide)) rfl rfl ?_
        refine AL.val (Wanted.plain rfl) (g_loadB rfl rfl rfl Try.underlying56 rfl rfl) rfl rfl ?_
        refine AL.val (Wanted.plain rfl) (g_lenM rfl rfl rfl rfl rfl Try.underlying56) rfl rfl ?_
        refine AL.fast 1 rfl ?_
        refine AL.nil ?_
        refine then_ok ?_
        refine AC.block ?_
        refine AC.loop (β := Nat) (fun (q : Nat) => ⟨[(1, (aI seen)), (5, (aC (.p 2 0 0 0))), (7, (aI (↑(keepL (came seen) (s.kept.take q)).length : Int))), (37, (aC (cR 4 ((s.kept).map rTransfer)))), (38, (aI (↑s.kept.length : Int))), (39, (aI (↑q : Int)))], [(2, (.box 58 [(cI x0.sent), (.s 1 0 4 x0.kept.length)])), (1, (.arr 60 4 ((x0.kept).map rTransfer)))], 3⟩) (fun (q : Nat) => q ≤ s.kept.length) (fun (q : Nat) => s.kept.length - q) 0 ?_ ?_ ?_
        · exact (by omega)
        · exact Weak.ren id (⟨by first | rfl | (simp only [AV.map, GV.map, CV.map, AB.map', id]; done) | (congr 3; omega) | (congr 4; omega) | (simp only [List.length_append, List.length_cons, List.length_nil, List.length_set]; rfl), by first | rfl | (simp only [AV.map, GV.map, CV.map, AB.map', id]; done) | (congr 3; omega) | (congr 4; omega) | (simp only [List.length_append, List.length_cons, List.length_nil, List.length_set]; rfl), by first | rfl | (simp only [AV.map, GV.map, CV.map, AB.map', id]; done) | (congr 3; omega) | (congr 4; omega) | (simp only [List.length_append, List.length_cons, List.length_nil, List.length_set]; rfl), by first | rfl | (simp only [AV.map, GV.map, CV.map, AB.map', id]; done) | (congr 3; omega) | (congr 4; omega) | (simp only [List.length_append, List.length_cons, List.length_nil, List.length_set]; rfl), by first | rfl | (simp only [AV.map, GV.map, CV.map, AB.map', id]; done) | (congr 3; omega) | (congr 4; omega) | (simp only [List.length_append, List.length_cons, List.length_nil, List.length_set]; rfl), by first | rfl | (simp only [AV.map, GV.map, CV.map, AB.map', id]; done) | (congr 3; omega) | (congr 4; omega) | (simp only [List.length_append, List.length_cons, List.length_nil, List.length_set]; rfl),  trivial⟩) (⟨by first | rfl | (simp only [AV.map, GV.map, CV.map, AB.map', id]; done) | (congr 3; omega) | (congr 4; omega) | (simp only [List.length_append, List.length_cons, List.length_nil, List.length_set]; rfl), by first | rfl | (simp only [AV.map, GV.map, CV.map, AB.map', id]; done) | (congr 3; omega) | (congr 4; omega) | (simp only [List.length_append, List.length_cons, List.length_nil, List.length_set]; rfl),  trivial⟩) rfl
        ·
          rintro q hi0_0
          have hkl := keepL_len (came seen) (s.kept.take q)
          have htl : (s.kept.take q).length ≤ q := List.length_take_le _ _
          refine AC.seq ?_
          refine AC.region ?_
          refine AL.val (Wanted.plain rfl) (g_binI rfl rfl rfl rfl) rfl rfl ?_
          refine AL.nil ?_
          refine then_ok ?_
          refine AC.seq ?_
          refine AC.cond rfl (fun hc5 => ?_) (fun hc5 => ?_)
          ·
            have hc5' := hc5; try simp only [sumB, Bool.not_eq_true', Bool.not_eq_false', Bool.or_eq_true, Bool.or_eq_false_iff, Bool.and_eq_true, Bool.and_eq_false_imp, decide_eq_true_eq, decide_eq_false_iff_not, Bool.not_not, Bool.not_true, Bool.not_false] at hc5'
            refine AC.skip ?_
            refine then_ok ?_
            refine AC.seq ?_
            refine AC.block ?_
            refine AC.seq ?_
            refine AC.region ?_
            obtain ⟨x1, hx1⟩ := exget (xs := s.kept) (i := q) (by first | omega | (simp; done) | (simp; omega))
            refine AL.val (Wanted.plain rfl) (g_indexQ (i := q) rfl rfl rfl Try.underlying56 sz60 (by first | omega | (simp; done) | (simp; omega)) (getmap hx1)) rfl rfl ?_
            refine AL.val (Wanted.plain rfl) (g_loadQs rfl rfl Try.underlying60 rfl sz60 rfl rfl) rfl rfl ?_
            refine AL.new (n' := 4) (Wanted.plain rfl) (g_alloc 3 rfl zv60 rfl rfl rfl) rfl rfl rfl ?_
            refine AL.sto (h' := [(3, (.box 60 [(cI x1.number), (cI x1.kind), (cI x1.auth), (cI x1.sum)])), (2, (.box 58 [(cI x0.sent), (.s 1 0 4 x0.kept.length)])), (1, (.arr 60 4 ((x0.kept).map rTransfer)))]) (Wanted.plain rfl) (g_storeB rfl rfl rfl rfl rfl sz60 rfl (Nat.le_of_ble_eq_true rfl) rfl) rfl rfl rfl rfl ?_
            refine AL.nil ?_
            refine then_ok ?_
            refine AC.seq ?_
            refine AC.region ?_
            refine AL.val (Wanted.plain rfl) (g_fieldP rfl rfl Try.underlying60 rfl sz3 (by decide)) rfl rfl ?_
            refine AL.val (Wanted.plain rfl) (g_loadB rfl rfl rfl Try.underlying3 rfl rfl) rfl rfl ?_
            refine AL.fast 1 rfl ?_
            refine AL.val (Wanted.plain rfl) (g_binI rfl rfl rfl rfl) rfl rfl ?_
            refine AL.nil ?_
            refine then_ok ?_
            refine AC.cond rfl (fun hc6 => ?_) (fun hc6 => ?_)
            ·
              have hc6' := hc6; try simp only [sumB, Bool.not_eq_true', Bool.not_eq_false', Bool.or_eq_true, Bool.or_eq_false_iff, Bool.and_eq_true, Bool.and_eq_false_imp, decide_eq_true_eq, decide_eq_false_iff_not, Bool.not_not, Bool.not_true, Bool.not_false] at hc6'
              refine AC.seq ?_
              refine AC.seq ?_
              rcases Bool.eq_false_or_eq_true (decide ((↑(keepL (came seen) (s.kept.take q)).length : Int) ≥ (↑x0.kept.length : Int))) with hb7 | hb7
              ·
                have hb7' := hb7; try simp only [sumB, Bool.not_eq_true', Bool.not_eq_false', Bool.or_eq_true, Bool.or_eq_false_iff, Bool.and_eq_true, Bool.and_eq_false_imp, decide_eq_true_eq, decide_eq_false_iff_not, Bool.not_not, Bool.not_true, Bool.not_false] at hb7'
                refine AC.weak (st' := ⟨[(1, (aI seen)), (5, (aC (.p 2 0 0 0))), (7, (aI (↑(keepL (came seen) (s.kept.take q)).length : Int))), (37, (aC (cR 4 ((s.kept).map rTransfer)))), (38, (aI (↑s.kept.length : Int))), (39, (aI (↑q : Int))), (9, (aC (.p 3 0 0 0)))], [(3, (.box 60 [(cI x1.number), (cI x1.kind), (cI x1.auth), (cI x1.sum)])), (2, (.box 58 [(cI x0.sent), (.s 1 0 4 x0.kept.length)])), (1, (.arr 60 4 ((x0.kept).map rTransfer)))], 4⟩) (Weak.ren id (⟨by first | rfl | (simp only [AV.map, GV.map, CV.map, AB.map', id]; done) | (congr 3; omega) | (congr 4; omega) | (simp only [List.length_append, List.length_cons, List.length_nil, List.length_set]; rfl), by first | rfl | (simp only [AV.map, GV.map, CV.map, AB.map', id]; done) | (congr 3; omega) | (congr 4; omega) | (simp only [List.length_append, List.length_cons, List.length_nil, List.length_set]; rfl), by first | rfl | (simp only [AV.map, GV.map, CV.map, AB.map', id]; done) | (congr 3; omega) | (congr 4; omega) | (simp only [List.length_append, List.length_cons, List.length_nil, List.length_set]; rfl), by first | rfl | (simp only [AV.map, GV.map, CV.map, AB.map', id]; done) | (congr 3; omega) | (congr 4; omega) | (simp only [List.length_append, List.length_cons, List.length_nil, List.length_set]; rfl), by first | rfl | (simp only [AV.map, GV.map, CV.map, AB.map', id]; done) | (congr 3; omega) | (congr 4; omega) | (simp only [List.length_append, List.length_cons, List.length_nil, List.length_set]; rfl), by first | rfl | (simp only [AV.map, GV.map, CV.map, AB.map', id]; done) | (congr 3; omega) | (congr 4; omega) | (simp only [List.length_append, List.length_cons, List.length_nil, List.length_set]; rfl), by first | rfl | (simp only [AV.map, GV.map, CV.map, AB.map', id]; done) | (congr 3; omega) | (congr 4; omega) | (simp only [List.length_append, List.length_cons, List.length_nil, List.length_set]; rfl),  trivial⟩) (⟨by first | rfl | (simp only [AV.map, GV.map, CV.map, AB.map', id]; done) | (congr 3; omega) | (congr 4; omega) | (simp only [List.length_append, List.length_cons, List.length_nil, List.length_set]; rfl), by first | rfl | (simp only [AV.map, GV.map, CV.map, AB.map', id]; done) | (congr 3; omega) | (congr 4; omega) | (simp only [List.length_append, List.length_cons, List.length_nil, List.length_set]; rfl), by first | rfl | (simp only [AV.map, GV.map, CV.map, AB.map', id]; done) | (congr 3; omega) | (congr 4; omega) | (simp only [List.length_append, List.length_cons, List.length_nil, List.length_set]; rfl),  trivial⟩) rfl) ?_
                refine AC.draw [⟨some 47, (aI (↑(keepL (came seen) (s.kept.take q)).length : Int)), [], [], [], [(7, (aI (↑(keepL (came seen) (s.kept.take q)).length : Int)))], []⟩,
      ⟨some 48, (aC (.p 2 0 0 1)), [], [], [], [(5, (aC (.p 2 0 0 0)))], [(2, (.box 58 [(cI x0.sent), (.s 1 0 4 x0.kept.length)]))]⟩,
      ⟨some 49, (aC (.s 1 0 4 x0.kept.length)), [], [], [1], [(48, (aC (.p 2 0 0 1)))], [(2, (.box 58 [(cI x0.sent), (.s 1 0 4 x0.kept.length)]))]⟩,
      ⟨some 50, (aI (↑x0.kept.length : Int)), [], [], [2], [(49, (aC (.s 1 0 4 x0.kept.length)))], [(1, (.arr 60 4 ((x0.kept).map rTransfer)))]⟩,
      ⟨some 51, (aB true), [], [], [0, 3], [(47, (aI (↑(keepL (came seen) (s.kept.take q)).length : Int))), (50, (aI (↑x0.kept.length : Int)))], []⟩,
      ⟨some 52, (aB true), [], [], [4], [(51, (aB true))], []⟩,
      ⟨some 53, (.t []), [], [], [5], [(5, (aC (.p 2 0 0 0))), (52, (aB true))], []⟩,
      ⟨some 54, (.t []), [], [], [5, 6], [(53, (.t [])), (52, (aB true))], []⟩,
      ⟨some 55, (.t []), [], [], [5], [(7, (aI (↑(keepL (came seen) (s.kept.take q)).length : Int))), (52, (aB true))], []⟩,
      ⟨some 56, (.t []), [], [], [5, 7, 8], [(54, (.t [])), (55, (.t [])), (52, (aB true))], []⟩,
      ⟨some 57, (.t []), [], [], [5, 9], [(56, (.t [])), (52, (aB true))], []⟩,
      ⟨some 58, (.t []), [], [], [5], [(9, (aC (.p 3 0 0 0))), (52, (aB true))], []⟩,
      ⟨some 59, (.t []), [], [], [5, 10, 11], [(57, (.t [])), (58, (.t [])), (52, (aB true))], []⟩,
      ⟨some 60, (aB true), [], [], [5, 12], [(52, (aB true)), (59, (.t []))], []⟩] ⟨[(1, (aI seen)), (5, (aC (.p 2 0 0 0))), (7, (aI (↑(keepL (came seen) (s.kept.take q)).length : Int))), (37, (aC (cR 4 ((s.kept).map rTransfer)))), (38, (aI (↑s.kept.length : Int))), (39, (aI (↑q : Int))), (9, (aC (.p 3 0 0 0))), (60, (aB true))], [(3, (.box 60 [(cI x1.number), (cI x1.kind), (cI x1.auth), (cI x1.sum)])), (2, (.box 58 [(cI x0.sent), (.s 1 0 4 x0.kept.length)])), (1, (.arr 60 4 ((x0.kept).map rTransfer)))], 4⟩ mixed (by kernel_rfl) ?_ ?_ ?_ ?_
                · exact ⟨.inl ⟨(Wanted.plain rfl), GOp.cast (g_move rfl rfl) rfl⟩,
      .inl ⟨(Wanted.plain rfl), GOp.cast (g_fieldP rfl rfl Try.underlying58 rfl sz56 (by decide)) rfl⟩,
      .inl ⟨(Wanted.plain rfl), GOp.cast (g_loadB rfl rfl rfl Try.underlying56 rfl rfl) rfl⟩,
      .inl ⟨(Wanted.plain rfl), GOp.cast (g_lenS rfl rfl rfl rfl rfl Try.underlying56) rfl⟩,
      .inl ⟨(Wanted.plain rfl), GOp.cast (g_binI rfl rfl rfl (congrArg (fun b => some (Value.bool b)) hb7)) rfl⟩,
      .inl ⟨(Wanted.plain rfl), GOp.cast (g_move rfl rfl) rfl⟩,
      .inr ⟨(Unwanted.no rfl rfl rfl), rfl, rfl, rfl⟩,
      .inr ⟨(Unwanted.no rfl rfl rfl), rfl, rfl, rfl⟩,
      .inr ⟨(Unwanted.no rfl rfl rfl), rfl, rfl, rfl⟩,
      .inr ⟨(Unwanted.no rfl rfl rfl), rfl, rfl, rfl⟩,
      .inr ⟨(Unwanted.no rfl rfl rfl), rfl, rfl, rfl⟩,
      .inr ⟨(Unwanted.no rfl rfl rfl), rfl, rfl, rfl⟩,
      .inr ⟨(Unwanted.no rfl rfl rfl), rfl, rfl, rfl⟩,
      .inl ⟨(Wanted.plain rfl), GOp.cast (g_pick rfl rfl rfl) rfl⟩,
       trivial⟩
                · exact ⟨⟨⟨.inl rfl,  trivial⟩, trivial⟩, ⟨⟨.inl rfl,  trivial⟩, ⟨.inl rfl,  trivial⟩⟩, ⟨⟨.inr ⟨1, .head _, _, rfl, rfl, rfl⟩,  trivial⟩, ⟨.inl rfl,  trivial⟩⟩, ⟨⟨.inr ⟨2, .head _, _, rfl, rfl, rfl⟩,  trivial⟩, ⟨.inl rfl,  trivial⟩⟩, ⟨⟨.inr ⟨0, .head _, _, rfl, rfl, rfl⟩, .inr ⟨3, .tail _ (.head _), _, rfl, rfl, rfl⟩,  trivial⟩, trivial⟩, ⟨⟨.inr ⟨4, .head _, _, rfl, rfl, rfl⟩,  trivial⟩, trivial⟩, ⟨⟨.inl rfl, .inr ⟨5, .head _, _, rfl, rfl, rfl⟩,  trivial⟩, trivial⟩, ⟨⟨.inr ⟨6, .tail _ (.head _), _, rfl, rfl, rfl⟩, .inr ⟨5, .head _, _, rfl, rfl, rfl⟩,  trivial⟩, trivial⟩, ⟨⟨.inl rfl, .inr ⟨5, .head _, _, rfl, rfl, rfl⟩,  trivial⟩, trivial⟩, ⟨⟨.inr ⟨7, .tail _ (.head _), _, rfl, rfl, rfl⟩, .inr ⟨8, .tail _ (.tail _ (.head _)), _, rfl, rfl, rfl⟩, .inr ⟨5, .head _, _, rfl, rfl, rfl⟩,  trivial⟩, trivial⟩, ⟨⟨.inr ⟨9, .tail _ (.head _), _, rfl, rfl, rfl⟩, .inr ⟨5, .head _, _, rfl, rfl, rfl⟩,  trivial⟩, trivial⟩, ⟨⟨.inl rfl, .inr ⟨5, .head _, _, rfl, rfl, rfl⟩,  trivial⟩, trivial⟩, ⟨⟨.inr ⟨10, .tail _ (.head _), _, rfl, rfl, rfl⟩, .inr ⟨11, .tail _ (.tail _ (.head _)), _, rfl, rfl, rfl⟩, .inr ⟨5, .head _, _, rfl, rfl, rfl⟩,  trivial⟩, trivial⟩, ⟨⟨.inr ⟨5, .head _, _, rfl, rfl, rfl⟩, .inr ⟨12, .tail _ (.head _), _, rfl, rfl, rfl⟩,  trivial⟩, trivial⟩,  trivial⟩
                · exact ⟨⟨.inl rfl, .inl rfl, .inl rfl, .inl rfl, .inl rfl, .inl rfl, .inl rfl, .inr ⟨13, _, rfl, rfl, rfl⟩,  trivial⟩, ⟨.inl rfl, .inl rfl, .inl rfl,  trivial⟩⟩
                ·
                  refine AL.nil ?_
                  refine then_ok ?_
                  refine AC.cond rfl (fun _ => ?_) (fun hno => by cases hno)
                  refine AC.seq ?_
                  refine AC.region ?_
                  refine AL.fast 1 rfl ?_
                  refine AL.nil ?_
                  refine then_ok ?_
                  refine AC.ret ?_
                  refine then_ret ?_
                  refine block_ret ?_
                  refine then_ret ?_
                  refine then_ret ?_
                  refine block_ret ?_
                  refine then_ret ?_
                  refine retQ_mk (av' := outOf [(.c (cB false))]) (nb' := []) (retQ_ret ⟨[(4, (aB false))], [], 0⟩ [.tmp 4] [(.c (cB false))] (Weak.ren id (⟨by first | rfl | (simp only [AV.map, GV.map, CV.map, AB.map', id]; done) | (congr 3; omega) | (congr 4; omega) | (simp only [List.length_append, List.length_cons, List.length_nil, List.length_set]; rfl),  trivial⟩) (trivial) rfl) rfl ⟨.tmp rfl, trivial⟩ trivial) ?_ ?_
                  · exact congrArg aB (show (false) = true by (exfalso; rcases back_of hr0 with ⟨h0, _⟩ | ⟨_, h1, h2, h3, rfl⟩; (exfalso; omega); (have hp : came seen x1 = false := (by simp only [came, decide_eq_false_iff_not]; omega); have ha := keep_at hx1 hp; have hal := (List.getElem?_eq_some_iff.1 ha).1; simp_all [same60] <;> omega)))
                  · rfl
              ·
                have hb7' := hb7; try simp only [sumB, Bool.not_eq_true', Bool.not_eq_false', Bool.or_eq_true, Bool.or_eq_false_iff, Bool.and_eq_true, Bool.and_eq_false_imp, decide_eq_true_eq, decide_eq_false_iff_not, Bool.not_not, Bool.not_true, Bool.not_false] at hb7'
                obtain ⟨x2, hx2⟩ := exget (xs := x0.kept) (i := Int.toNat ((↑(keepL (came seen) (s.kept.take q)).length : Int))) (by first | omega | (simp; done) | (simp; omega))
                refine AC.weak (st' := ⟨[(1, (aI seen)), (5, (aC (.p 2 0 0 0))), (7, (aI (↑(keepL (came seen) (s.kept.take q)).length : Int))), (37, (aC (cR 4 ((s.kept).map rTransfer)))), (38, (aI (↑s.kept.length : Int))), (39, (aI (↑q : Int))), (9, (aC (.p 3 0 0 0)))], [(3, (.box 60 [(cI x1.number), (cI x1.kind), (cI x1.auth), (cI x1.sum)])), (2, (.box 58 [(cI x0.sent), (.s 1 0 4 x0.kept.length)])), (1, (.arr 60 4 ((x0.kept).map rTransfer)))], 4⟩) (Weak.ren id (⟨by first | rfl | (simp only [AV.map, GV.map, CV.map, AB.map', id]; done) | (congr 3; omega) | (congr 4; omega) | (simp only [List.length_append, List.length_cons, List.length_nil, List.length_set]; rfl), by first | rfl | (simp only [AV.map, GV.map, CV.map, AB.map', id]; done) | (congr 3; omega) | (congr 4; omega) | (simp only [List.length_append, List.length_cons, List.length_nil, List.length_set]; rfl), by first | rfl | (simp only [AV.map, GV.map, CV.map, AB.map', id]; done) | (congr 3; omega) | (congr 4; omega) | (simp only [List.length_append, List.length_cons, List.length_nil, List.length_set]; rfl), by first | rfl | (simp only [AV.map, GV.map, CV.map, AB.map', id]; done) | (congr 3; omega) | (congr 4; omega) | (simp only [List.length_append, List.length_cons, List.length_nil, List.length_set]; rfl), by first | rfl | (simp only [AV.map, GV.map, CV.map, AB.map', id]; done) | (congr 3; omega) | (congr 4; omega) | (simp only [List.length_append, List.length_cons, List.length_nil, List.length_set]; rfl), by first | rfl | (simp only [AV.map, GV.map, CV.map, AB.map', id]; done) | (congr 3; omega) | (congr 4; omega) | (simp only [List.length_append, List.length_cons, List.length_nil, List.length_set]; rfl), by first | rfl | (simp only [AV.map, GV.map, CV.map, AB.map', id]; done) | (congr 3; omega) | (congr 4; omega) | (simp only [List.length_append, List.length_cons, List.length_nil, List.length_set]; rfl),  trivial⟩) (⟨by first | rfl | (simp only [AV.map, GV.map, CV.map, AB.map', id]; done) | (congr 3; omega) | (congr 4; omega) | (simp only [List.length_append, List.length_cons, List.length_nil, List.length_set]; rfl), by first | rfl | (simp only [AV.map, GV.map, CV.map, AB.map', id]; done) | (congr 3; omega) | (congr 4; omega) | (simp only [List.length_append, List.length_cons, List.length_nil, List.length_set]; rfl), by first | rfl | (simp only [AV.map, GV.map, CV.map, AB.map', id]; done) | (congr 3; omega) | (congr 4; omega) | (simp only [List.length_append, List.length_cons, List.length_nil, List.length_set]; rfl),  trivial⟩) rfl) ?_
                refine AC.draw [⟨some 47, (aI (↑(keepL (came seen) (s.kept.take q)).length : Int)), [], [], [], [(7, (aI (↑(keepL (came seen) (s.kept.take q)).length : Int)))], []⟩,
      ⟨some 48, (aC (.p 2 0 0 1)), [], [], [], [(5, (aC (.p 2 0 0 0)))], [(2, (.box 58 [(cI x0.sent), (.s 1 0 4 x0.kept.length)]))]⟩,
      ⟨some 49, (aC (.s 1 0 4 x0.kept.length)), [], [], [1], [(48, (aC (.p 2 0 0 1)))], [(2, (.box 58 [(cI x0.sent), (.s 1 0 4 x0.kept.length)]))]⟩,
      ⟨some 50, (aI (↑x0.kept.length : Int)), [], [], [2], [(49, (aC (.s 1 0 4 x0.kept.length)))], [(1, (.arr 60 4 ((x0.kept).map rTransfer)))]⟩,
      ⟨some 51, (aB false), [], [], [0, 3], [(47, (aI (↑(keepL (came seen) (s.kept.take q)).length : Int))), (50, (aI (↑x0.kept.length : Int)))], []⟩,
      ⟨some 52, (aB false), [], [], [4], [(51, (aB false))], []⟩,
      ⟨some 53, (aC (.p 2 0 0 1)), [], [], [5], [(5, (aC (.p 2 0 0 0))), (52, (aB false))], [(2, (.box 58 [(cI x0.sent), (.s 1 0 4 x0.kept.length)]))]⟩,
      ⟨some 54, (aC (.s 1 0 4 x0.kept.length)), [], [], [5, 6], [(53, (aC (.p 2 0 0 1))), (52, (aB false))], [(2, (.box 58 [(cI x0.sent), (.s 1 0 4 x0.kept.length)]))]⟩,
      ⟨some 55, (aI (↑(keepL (came seen) (s.kept.take q)).length : Int)), [], [], [5], [(7, (aI (↑(keepL (came seen) (s.kept.take q)).length : Int))), (52, (aB false))], []⟩,
      ⟨some 56, (aC (.p 1 (Int.toNat ((↑(keepL (came seen) (s.kept.take q)).length : Int))) 4 0)), [], [], [5, 7, 8], [(54, (aC (.s 1 0 4 x0.kept.length))), (55, (aI (↑(keepL (came seen) (s.kept.take q)).length : Int))), (52, (aB false))], [(1, (.arr 60 4 ((x0.kept).map rTransfer)))]⟩,
      ⟨some 57, (aG [(cI x2.number), (cI x2.kind), (cI x2.auth), (cI x2.sum)]), [], [], [5, 9], [(56, (aC (.p 1 (Int.toNat ((↑(keepL (came seen) (s.kept.take q)).length : Int))) 4 0))), (52, (aB false))], [(1, (.arr 60 4 ((x0.kept).map rTransfer)))]⟩,
      ⟨some 58, (aG [(cI x1.number), (cI x1.kind), (cI x1.auth), (cI x1.sum)]), [], [], [5], [(9, (aC (.p 3 0 0 0))), (52, (aB false))], [(3, (.box 60 [(cI x1.number), (cI x1.kind), (cI x1.auth), (cI x1.sum)]))]⟩,
      ⟨some 59, (aB (!(sameL [.int .i64 x2.number, .int .i64 x2.kind, .int .i64 x2.auth, .int .i64 x2.sum] [.int .i64 x1.number, .int .i64 x1.kind, .int .i64 x1.auth, .int .i64 x1.sum]))), [], [], [5, 10, 11], [(57, (aG [(cI x2.number), (cI x2.kind), (cI x2.auth), (cI x2.sum)])), (58, (aG [(cI x1.number), (cI x1.kind), (cI x1.auth), (cI x1.sum)])), (52, (aB false))], []⟩,
      ⟨some 60, (aB (!(sameL [.int .i64 x2.number, .int .i64 x2.kind, .int .i64 x2.auth, .int .i64 x2.sum] [.int .i64 x1.number, .int .i64 x1.kind, .int .i64 x1.auth, .int .i64 x1.sum]))), [], [], [5, 12], [(52, (aB false)), (59, (aB (!(sameL [.int .i64 x2.number, .int .i64 x2.kind, .int .i64 x2.auth, .int .i64 x2.sum] [.int .i64 x1.number, .int .i64 x1.kind, .int .i64 x1.auth, .int .i64 x1.sum]))))], []⟩] ⟨[(1, (aI seen)), (5, (aC (.p 2 0 0 0))), (7, (aI (↑(keepL (came seen) (s.kept.take q)).length : Int))), (37, (aC (cR 4 ((s.kept).map rTransfer)))), (38, (aI (↑s.kept.length : Int))), (39, (aI (↑q : Int))), (9, (aC (.p 3 0 0 0))), (60, (aB (!(sameL [.int .i64 x2.number, .int .i64 x2.kind, .int .i64 x2.auth, .int .i64 x2.sum] [.int .i64 x1.number, .int .i64 x1.kind, .int .i64 x1.auth, .int .i64 x1.sum]))))], [(3, (.box 60 [(cI x1.number), (cI x1.kind), (cI x1.auth), (cI x1.sum)])), (2, (.box 58 [(cI x0.sent), (.s 1 0 4 x0.kept.length)])), (1, (.arr 60 4 ((x0.kept).map rTransfer)))], 4⟩ mixed (by kernel_rfl) ?_ ?_ ?_ ?_
                · exact ⟨.inl ⟨(Wanted.plain rfl), GOp.cast (g_move rfl rfl) rfl⟩,
      .inl ⟨(Wanted.plain rfl), GOp.cast (g_fieldP rfl rfl Try.underlying58 rfl sz56 (by decide)) rfl⟩,
      .inl ⟨(Wanted.plain rfl), GOp.cast (g_loadB rfl rfl rfl Try.underlying56 rfl rfl) rfl⟩,
      .inl ⟨(Wanted.plain rfl), GOp.cast (g_lenS rfl rfl rfl rfl rfl Try.underlying56) rfl⟩,
      .inl ⟨(Wanted.plain rfl), GOp.cast (g_binI rfl rfl rfl (congrArg (fun b => some (Value.bool b)) hb7)) rfl⟩,
      .inl ⟨(Wanted.plain rfl), GOp.cast (g_move rfl rfl) rfl⟩,
      .inl ⟨(Wanted.yes rfl rfl rfl), GOp.cast (g_fieldP rfl rfl Try.underlying58 rfl sz56 (by decide)) rfl⟩,
      .inl ⟨(Wanted.yes rfl rfl rfl), GOp.cast (g_loadB rfl rfl rfl Try.underlying56 rfl rfl) rfl⟩,
      .inl ⟨(Wanted.yes rfl rfl rfl), GOp.cast (g_move rfl rfl) rfl⟩,
      .inl ⟨(Wanted.yes rfl rfl rfl), GOp.cast (g_indexP0 (i := Int.toNat ((↑(keepL (came seen) (s.kept.take q)).length : Int))) rfl rfl rfl Try.underlying56 sz60 (by first | omega | (simp; done) | (simp; omega)) (by first | omega | (simp; done) | (simp; omega))) rfl⟩,
      .inl ⟨(Wanted.yes rfl rfl rfl), GOp.cast (g_loadAs rfl rfl rfl Try.underlying60 rfl sz60 (getmap hx2) rfl) rfl⟩,
      .inl ⟨(Wanted.yes rfl rfl rfl), GOp.cast (g_loadBs rfl rfl rfl Try.underlying60 rfl sz60 rfl rfl) rfl⟩,
      .inl ⟨(Wanted.yes rfl rfl rfl), GOp.cast (g_neq (cmp60 _ _ _ _ _ _ _ _) rfl rfl rfl rfl rfl rfl) rfl⟩,
      .inl ⟨(Wanted.plain rfl), GOp.cast (g_pick rfl rfl rfl) rfl⟩,
       trivial⟩
                · exact ⟨⟨⟨.inl rfl,  trivial⟩, trivial⟩, ⟨⟨.inl rfl,  trivial⟩, ⟨.inl rfl,  trivial⟩⟩, ⟨⟨.inr ⟨1, .head _, _, rfl, rfl, rfl⟩,  trivial⟩, ⟨.inl rfl,  trivial⟩⟩, ⟨⟨.inr ⟨2, .head _, _, rfl, rfl, rfl⟩,  trivial⟩, ⟨.inl rfl,  trivial⟩⟩, ⟨⟨.inr ⟨0, .head _, _, rfl, rfl, rfl⟩, .inr ⟨3, .tail _ (.head _), _, rfl, rfl, rfl⟩,  trivial⟩, trivial⟩, ⟨⟨.inr ⟨4, .head _, _, rfl, rfl, rfl⟩,  trivial⟩, trivial⟩, ⟨⟨.inl rfl, .inr ⟨5, .head _, _, rfl, rfl, rfl⟩,  trivial⟩, ⟨.inl rfl,  trivial⟩⟩, ⟨⟨.inr ⟨6, .tail _ (.head _), _, rfl, rfl, rfl⟩, .inr ⟨5, .head _, _, rfl, rfl, rfl⟩,  trivial⟩, ⟨.inl rfl,  trivial⟩⟩, ⟨⟨.inl rfl, .inr ⟨5, .head _, _, rfl, rfl, rfl⟩,  trivial⟩, trivial⟩, ⟨⟨.inr ⟨7, .tail _ (.head _), _, rfl, rfl, rfl⟩, .inr ⟨8, .tail _ (.tail _ (.head _)), _, rfl, rfl, rfl⟩, .inr ⟨5, .head _, _, rfl, rfl, rfl⟩,  trivial⟩, ⟨.inl rfl,  trivial⟩⟩, ⟨⟨.inr ⟨9, .tail _ (.head _), _, rfl, rfl, rfl⟩, .inr ⟨5, .head _, _, rfl, rfl, rfl⟩,  trivial⟩, ⟨.inl rfl,  trivial⟩⟩, ⟨⟨.inl rfl, .inr ⟨5, .head _, _, rfl, rfl, rfl⟩,  trivial⟩, ⟨.inl rfl,  trivial⟩⟩, ⟨⟨.inr ⟨10, .tail _ (.head _), _, rfl, rfl, rfl⟩, .inr ⟨11, .tail _ (.tail _ (.head _)), _, rfl, rfl, rfl⟩, .inr ⟨5, .head _, _, rfl, rfl, rfl⟩,  trivial⟩, trivial⟩, ⟨⟨.inr ⟨5, .head _, _, rfl, rfl, rfl⟩, .inr ⟨12, .tail _ (.head _), _, rfl, rfl, rfl⟩,  trivial⟩, trivial⟩,  trivial⟩
                · exact ⟨⟨.inl rfl, .inl rfl, .inl rfl, .inl rfl, .inl rfl, .inl rfl, .inl rfl, .inr ⟨13, _, rfl, rfl, rfl⟩,  trivial⟩, ⟨.inl rfl, .inl rfl, .inl rfl,  trivial⟩⟩
                ·
                  refine AL.nil ?_
                  refine then_ok ?_
                  refine AC.cond rfl (fun hc9 => ?_) (fun hc9 => ?_)
                  ·
                    have hc9' := hc9; try simp only [sumB, Bool.not_eq_true', Bool.not_eq_false', Bool.or_eq_true, Bool.or_eq_false_iff, Bool.and_eq_true, Bool.and_eq_false_imp, decide_eq_true_eq, decide_eq_false_iff_not, Bool.not_not, Bool.not_true, Bool.not_false] at hc9'
                    refine AC.seq ?_
                    refine AC.region ?_
                    refine AL.fast 1 rfl ?_
                    refine AL.nil ?_
                    refine then_ok ?_
                    refine AC.ret ?_
                    refine then_ret ?_
                    refine block_ret ?_
                    refine then_ret ?_
                    refine then_ret ?_
                    refine block_ret ?_
                    refine then_ret ?_
                    refine retQ_mk (av' := outOf [(.c (cB false))]) (nb' := []) (retQ_ret ⟨[(4, (aB false))], [], 0⟩ [.tmp 4] [(.c (cB false))] (Weak.ren id (⟨by first | rfl | (simp only [AV.map, GV.map, CV.map, AB.map', id]; done) | (congr 3; omega) | (congr 4; omega) | (simp only [List.length_append, List.length_cons, List.length_nil, List.length_set]; rfl),  trivial⟩) (trivial) rfl) rfl ⟨.tmp rfl, trivial⟩ trivial) ?_ ?_
                    · exact congrArg aB (show (false) = true by (exfalso; rcases back_of hr0 with ⟨h0, _⟩ | ⟨_, h1, h2, h3, rfl⟩; (exfalso; omega); (have hp : came seen x1 = false := (by simp only [came, decide_eq_false_iff_not]; omega); have ha := keep_at hx1 hp; have hal := (List.getElem?_eq_some_iff.1 ha).1; simp_all [same60] <;> omega)))
                    · rfl
                  ·
                    have hc9' := hc9; try simp only [sumB, Bool.not_eq_true', Bool.not_eq_false', Bool.or_eq_true, Bool.or_eq_false_iff, Bool.and_eq_true, Bool.and_eq_false_imp, decide_eq_true_eq, decide_eq_false_iff_not, Bool.not_not, Bool.not_true, Bool.not_false] at hc9'
                    refine AC.skip ?_
                    refine then_ok ?_
                    refine AC.region ?_
                    refine AL.fast 1 rfl ?_
                    refine AL.val (Wanted.plain rfl) (g_binI rfl rfl rfl (wrap_ok (by first | omega | (simp; done) | (simp; omega)))) rfl rfl ?_
                    refine AL.fast 1 rfl ?_
                    refine AL.nil ?_
                    refine block_ok ?_
                    refine then_ok ?_
                    refine AC.region ?_
                    refine AL.val (Wanted.plain rfl) (g_binI rfl rfl rfl (wrap_ok (by first | omega | (simp; done) | (simp; omega)))) rfl rfl ?_
                    refine AL.fast 1 rfl ?_
                    refine AL.nil ?_
                    refine then_ok ?_
                    refine ⟨q + 1, by first | omega | trivial, by first | omega | (simp; done) | (simp; omega), Weak.ren id (⟨by first | rfl | (simp only [AV.map, GV.map, CV.map, AB.map', id]; done) | (congr 3; omega) | (congr 4; omega) | (simp only [List.length_append, List.length_cons, List.length_nil, List.length_set]; rfl) | (first | (rw [keepL_take hx1, show came seen x1 = false by (simp only [came, decide_eq_false_iff_not]; omega), if_neg Bool.false_ne_true, List.length_append, Int.natCast_add]; rfl) | (rw [keepL_take hx1, show came seen x1 = true by (simp only [came, decide_eq_true_eq]; omega), if_pos rfl, List.append_nil]; rfl)), by first | rfl | (simp only [AV.map, GV.map, CV.map, AB.map', id]; done) | (congr 3; omega) | (congr 4; omega) | (simp only [List.length_append, List.length_cons, List.length_nil, List.length_set]; rfl) | (first | (rw [keepL_take hx1, show came seen x1 = false by (simp only [came, decide_eq_false_iff_not]; omega), if_neg Bool.false_ne_true, List.length_append, Int.natCast_add]; rfl) | (rw [keepL_take hx1, show came seen x1 = true by (simp only [came, decide_eq_true_eq]; omega), if_pos rfl, List.append_nil]; rfl)), by first | rfl | (simp only [AV.map, GV.map, CV.map, AB.map', id]; done) | (congr 3; omega) | (congr 4; omega) | (simp only [List.length_append, List.length_cons, List.length_nil, List.length_set]; rfl) | (first | (rw [keepL_take hx1, show came seen x1 = false by (simp only [came, decide_eq_false_iff_not]; omega), if_neg Bool.false_ne_true, List.length_append, Int.natCast_add]; rfl) | (rw [keepL_take hx1, show came seen x1 = true by (simp only [came, decide_eq_true_eq]; omega), if_pos rfl, List.append_nil]; rfl)), by first | rfl | (simp only [AV.map, GV.map, CV.map, AB.map', id]; done) | (congr 3; omega) | (congr 4; omega) | (simp only [List.length_append, List.length_cons, List.length_nil, List.length_set]; rfl) | (first | (rw [keepL_take hx1, show came seen x1 = false by (simp only [came, decide_eq_false_iff_not]; omega), if_neg Bool.false_ne_true, List.length_append, Int.natCast_add]; rfl) | (rw [keepL_take hx1, show came seen x1 = true by (simp only [came, decide_eq_true_eq]; omega), if_pos rfl, List.append_nil]; rfl)), by first | rfl | (simp only [AV.map, GV.map, CV.map, AB.map', id]; done) | (congr 3; omega) | (congr 4; omega) | (simp only [List.length_append, List.length_cons, List.length_nil, List.length_set]; rfl) | (first | (rw [keepL_take hx1, show came seen x1 = false by (simp only [came, decide_eq_false_iff_not]; omega), if_neg Bool.false_ne_true, List.length_append, Int.natCast_add]; rfl) | (rw [keepL_take hx1, show came seen x1 = true by (simp only [came, decide_eq_true_eq]; omega), if_pos rfl, List.append_nil]; rfl)), by first | rfl | (simp only [AV.map, GV.map, CV.map, AB.map', id]; done) | (congr 3; omega) | (congr 4; omega) | (simp only [List.length_append, List.length_cons, List.length_nil, List.length_set]; rfl) | (first | (rw [keepL_take hx1, show came seen x1 = false by (simp only [came, decide_eq_false_iff_not]; omega), if_neg Bool.false_ne_true, List.length_append, Int.natCast_add]; rfl) | (rw [keepL_take hx1, show came seen x1 = true by (simp only [came, decide_eq_true_eq]; omega), if_pos rfl, List.append_nil]; rfl)),  trivial⟩) (⟨by first | rfl | (simp only [AV.map, GV.map, CV.map, AB.map', id]; done) | (congr 3; omega) | (congr 4; omega) | (simp only [List.length_append, List.length_cons, List.length_nil, List.length_set]; rfl), by first | rfl | (simp only [AV.map, GV.map, CV.map, AB.map', id]; done) | (congr 3; omega) | (congr 4; omega) | (simp only [List.length_append, List.length_cons, List.length_nil, List.length_set]; rfl),  trivial⟩) rfl⟩
            ·
              have hc6' := hc6; try simp only [sumB, Bool.not_eq_true', Bool.not_eq_false', Bool.or_eq_true, Bool.or_eq_false_iff, Bool.and_eq_true, Bool.and_eq_false_imp, decide_eq_true_eq, decide_eq_false_iff_not, Bool.not_not, Bool.not_true, Bool.not_false] at hc6'
              refine AC.skip ?_
              refine block_ok ?_
              refine then_ok ?_
              refine AC.region ?_
              refine AL.val (Wanted.plain rfl) (g_binI rfl rfl rfl (wrap_ok (by first | omega | (simp; done) | (simp; omega)))) rfl rfl ?_
              refine AL.fast 1 rfl ?_
              refine AL.nil ?_
              refine then_ok ?_
              refine ⟨q + 1, by first | omega | trivial, by first | omega | (simp; done) | (simp; omega), Weak.ren id (⟨by first | rfl | (simp only [AV.map, GV.map, CV.map, AB.map', id]; done) | (congr 3; omega) | (congr 4; omega) | (simp only [List.length_append, List.length_cons, List.length_nil, List.length_set]; rfl) | (first | (rw [keepL_take hx1, show came seen x1 = false by (simp only [came, decide_eq_false_iff_not]; omega), if_neg Bool.false_ne_true, List.length_append, Int.natCast_add]; rfl) | (rw [keepL_take hx1, show came seen x1 = true by (simp only [came, decide_eq_true_eq]; omega), if_pos rfl, List.append_nil]; rfl)), by first | rfl | (simp only [AV.map, GV.map, CV.map, AB.map', id]; done) | (congr 3; omega) | (congr 4; omega) | (simp only [List.length_append, List.length_cons, List.length_nil, List.length_set]; rfl) | (first | (rw [keepL_take hx1, show came seen x1 = false by (simp only [came, decide_eq_false_iff_not]; omega), if_neg Bool.false_ne_true, List.length_append, Int.natCast_add]; rfl) | (rw [keepL_take hx1, show came seen x1 = true by (simp only [came, decide_eq_true_eq]; omega), if_pos rfl, List.append_nil]; rfl)), by first | rfl | (simp only [AV.map, GV.map, CV.map, AB.map', id]; done) | (congr 3; omega) | (congr 4; omega) | (simp only [List.length_append, List.length_cons, List.length_nil, List.length_set]; rfl) | (first | (rw [keepL_take hx1, show came seen x1 = false by (simp only [came, decide_eq_false_iff_not]; omega), if_neg Bool.false_ne_true, List.length_append, Int.natCast_add]; rfl) | (rw [keepL_take hx1, show came seen x1 = true by (simp only [came, decide_eq_true_eq]; omega), if_pos rfl, List.append_nil]; rfl)), by first | rfl | (simp only [AV.map, GV.map, CV.map, AB.map', id]; done) | (congr 3; omega) | (congr 4; omega) | (simp only [List.length_append, List.length_cons, List.length_nil, List.length_set]; rfl) | (first | (rw [keepL_take hx1, show came seen x1 = false by (simp only [came, decide_eq_false_iff_not]; omega), if_neg Bool.false_ne_true, List.length_append, Int.natCast_add]; rfl) | (rw [keepL_take hx1, show came seen x1 = true by (simp only [came, decide_eq_true_eq]; omega), if_pos rfl, List.append_nil]; rfl)), by first | rfl | (simp only [AV.map, GV.map, CV.map, AB.map', id]; done) | (congr 3; omega) | (congr 4; omega) | (simp only [List.length_append, List.length_cons, List.length_nil, List.length_set]; rfl) | (first | (rw [keepL_take hx1, show came seen x1 = false by (simp only [came, decide_eq_false_iff_not]; omega), if_neg Bool.false_ne_true, List.length_append, Int.natCast_add]; rfl) | (rw [keepL_take hx1, show came seen x1 = true by (simp only [came, decide_eq_true_eq]; omega), if_pos rfl, List.append_nil]; rfl)), by first | rfl | (simp only [AV.map, GV.map, CV.map, AB.map', id]; done) | (congr 3; omega) | (congr 4; omega) | (simp only [List.length_append, List.length_cons, List.length_nil, List.length_set]; rfl) | (first | (rw [keepL_take hx1, show came seen x1 = false by (simp only [came, decide_eq_false_iff_not]; omega), if_neg Bool.false_ne_true, List.length_append, Int.natCast_add]; rfl) | (rw [keepL_take hx1, show came seen x1 = true by (simp only [came, decide_eq_true_eq]; omega), if_pos rfl, List.append_nil]; rfl)),  trivial⟩) (⟨by first | rfl | (simp only [AV.map, GV.map, CV.map, AB.map', id]; done) | (congr 3; omega) | (congr 4; omega) | (simp only [List.length_append, List.length_cons, List.length_nil, List.length_set]; rfl), by first | rfl | (simp only [AV.map, GV.map, CV.map, AB.map', id]; done) | (congr 3; omega) | (congr 4; omega) | (simp only [List.length_append, List.length_cons, List.length_nil, List.length_set]; rfl),  trivial⟩) rfl⟩
          ·
            have hc5' := hc5; try simp only [sumB, Bool.not_eq_true', Bool.not_eq_false', Bool.or_eq_true, Bool.or_eq_false_iff, Bool.and_eq_true, Bool.and_eq_false_imp, decide_eq_true_eq, decide_eq_false_iff_not, Bool.not_not, Bool.not_true, Bool.not_false] at hc5'
            refine AC.exit ?_
            refine then_exit ?_
            refine then_exit ?_
            refine block_hit ?_
            refine then_ok ?_
            refine AC.seq ?_
            refine AC.region ?_
            refine AL.val (Wanted.plain rfl) (g_loadBs rfl rfl rfl Try.underlying58 rfl sz58 rfl rfl) rfl rfl ?_
            refine AL.fast 1 rfl ?_
            obtain ⟨x2, e2, hr2⟩ : ∃ (x2 : Sender) (e2 : Int), backS x0 seen = (x2, e2) := ⟨_, _, rfl⟩
            refine AL.call (n' := 4) (h' := [(3, (.arr 60 4 ((x2.kept).map rTransfer))), (2, (.box 58 [(cI x0.sent), (.s 1 0 4 x0.kept.length)])), (1, (.arr 60 4 ((x0.kept).map rTransfer)))]) (Wanted.plain rfl) (g_callE 3 [1] (c_post_Back x0 seen (by first | assumption | exact inI_out (by assumption) (by omega) | exact inI_back (by assumption) (by assumption) | (simp [InI]; done)) x2 e2 hr2) en53 rfl rfl ⟨⟨_, rfl, .g ⟨.d _, .s rfl (by decide) (by first | omega | (simp; done) | (simp; omega)),  trivial⟩⟩, ⟨_, rfl, .c (.d _)⟩,  trivial⟩ ⟨⟨rfl, trivial,  trivial⟩, rfl,  trivial⟩ ⟨(isv_rTransfer _),  trivial⟩ rfl rfl rfl rfl) rfl rfl rfl rfl rfl ?_
            refine AL.fast 1 rfl ?_
            refine AL.val (Wanted.plain rfl) (g_extract rfl rfl rfl) rfl rfl ?_
            refine AL.val (Wanted.plain rfl) (g_extract rfl rfl rfl) rfl rfl ?_
            refine AL.new (n' := 5) (Wanted.plain rfl) (g_alloc 4 rfl zv58 rfl rfl rfl) rfl rfl rfl ?_
            refine AL.sto (h' := [(4, (.box 58 [(cI x2.sent), (.s 3 0 4 x2.kept.length)])), (3, (.arr 60 4 ((x2.kept).map rTransfer))), (2, (.box 58 [(cI x0.sent), (.s 1 0 4 x0.kept.length)])), (1, (.arr 60 4 ((x0.kept).map rTransfer)))]) (Wanted.plain rfl) (g_storeB rfl rfl rfl rfl rfl sz58 rfl (Nat.le_of_ble_eq_true rfl) rfl) rfl rfl rfl rfl ?_
            refine AL.fast 1 rfl ?_
            refine AL.nil ?_
            refine then_ok ?_
            obtain ⟨r3, hr3⟩ : ∃ (r3 : Bool), sameS x0 x2 = r3 := ⟨_, rfl⟩
            refine AC.cutB 4 (((decide ((↑(keepL (came seen) (s.kept.take q)).length : Int) = (↑x0.kept.length : Int))) && (decide (e2 = 0))) && r3) ?_ ?_
            ·
              refine AC.region ?_
              refine AL.fast 1 rfl ?_
              refine AL.val (Wanted.plain rfl) (g_fieldP rfl rfl Try.underlying58 rfl sz56 (by decide)) rfl rfl ?_
              refine AL.val (Wanted.plain rfl) (g_loadB rfl rfl rfl Try.underlying56 rfl rfl) rfl rfl ?_
              refine AL.val (Wanted.plain rfl) (g_lenS rfl rfl rfl rfl rfl Try.underlying56) rfl rfl ?_
              refine AL.val (Wanted.plain rfl) (g_binI rfl rfl rfl rfl) rfl rfl ?_
              refine AL.fast 1 rfl ?_
              refine AL.dec (t := 75) rfl (fun hb10 => ?_) (fun hb10 => ?_)
              ·
                have hb10' := hb10; try simp only [sumB, Bool.not_eq_true', Bool.not_eq_false', Bool.or_eq_true, Bool.or_eq_false_iff, Bool.and_eq_true, Bool.and_eq_false_imp, decide_eq_true_eq, decide_eq_false_iff_not, Bool.not_not, Bool.not_true, Bool.not_false] at hb10'
                refine AL.fast 1 rfl ?_
                refine AL.val (Wanted.yes rfl rfl rfl) (g_binI rfl rfl rfl rfl) rfl rfl ?_
                refine AL.fast 2 rfl ?_
                refine AL.dec (t := 79) rfl (fun hb11 => ?_) (fun hb11 => ?_)
                ·
                  have hb11' := hb11; try simp only [sumB, Bool.not_eq_true', Bool.not_eq_false', Bool.or_eq_true, Bool.or_eq_false_iff, Bool.and_eq_true, Bool.and_eq_false_imp, decide_eq_true_eq, decide_eq_false_iff_not, Bool.not_not, Bool.not_true, Bool.not_false] at hb11'
                  refine AL.val (Wanted.yes rfl rfl rfl) (g_loadBs rfl rfl rfl Try.underlying58 rfl sz58 rfl rfl) rfl rfl ?_
                  refine AL.val (Wanted.yes rfl rfl rfl) (g_loadBs rfl rfl rfl Try.underlying58 rfl sz58 rfl rfl) rfl rfl ?_
                  refine AL.call (n' := 5) (h' := [(4, (.box 58 [(cI x2.sent), (.s 3 0 4 x2.kept.length)])), (3, (.arr 60 4 ((x2.kept).map rTransfer))), (2, (.box 58 [(cI x0.sent), (.s 1 0 4 x0.kept.length)])), (1, (.arr 60 4 ((x0.kept).map rTransfer)))]) (Wanted.yes rfl rfl rfl) (g_callE 5 [1, 3] (c_SameSender x0 x2  r3 hr3) en52 rfl rfl ⟨⟨_, rfl, .g ⟨.d _, .s rfl (by decide) (by first | omega | (simp; done) | (simp; omega)),  trivial⟩⟩, ⟨_, rfl, .g ⟨.d _, .s rfl (by decide) (by first | omega | (simp; done) | (simp; omega)),  trivial⟩⟩,  trivial⟩ rfl trivial rfl rfl rfl rfl) rfl rfl rfl rfl rfl ?_
                  refine AL.fast 2 rfl ?_
                  refine AL.nil ?_
                  refine then_ok ?_
                  exact Weak.popB 17 rfl rfl (by first | (simp [hb10, hb11]; done) | (simp_all; done) | (exfalso; simp_all; done) | (simp_all; omega)) rfl
                ·
                  have hb11' := hb11; try simp only [sumB, Bool.not_eq_true', Bool.not_eq_false', Bool.or_eq_true, Bool.or_eq_false_iff, Bool.and_eq_true, Bool.and_eq_false_imp, decide_eq_true_eq, decide_eq_false_iff_not, Bool.not_not, Bool.not_true, Bool.not_false] at hb11'
                  refine AL.fast 5 rfl ?_
                  refine AL.nil ?_
                  refine then_ok ?_
                  exact Weak.popB 17 rfl rfl (by first | (simp [hb10, hb11]; done) | (simp_all; done) | (exfalso; simp_all; done) | (simp_all; omega)) rfl
              ·
                have hb10' := hb10; try simp only [sumB, Bool.not_eq_true', Bool.not_eq_false', Bool.or_eq_true, Bool.or_eq_false_iff, Bool.and_eq_true, Bool.and_eq_false_imp, decide_eq_true_eq, decide_eq_false_iff_not, Bool.not_not, Bool.not_true, Bool.not_false] at hb10'
                refine AL.fast 9 rfl ?_
                refine AL.nil ?_
                refine then_ok ?_
                exact Weak.popB 16 rfl rfl (by first | (simp [hb10]; done) | (simp_all; done) | (exfalso; simp_all; done) | (simp_all; omega)) rfl
            ·
              refine AC.ret ?_
              refine retQ_mk (av' := outOf [(.c (cB (((decide ((↑(keepL (came seen) (s.kept.take q)).length : Int) = (↑x0.kept.length : Int))) && (decide (e2 = 0))) && r3)))]) (nb' := []) (retQ_ret ⟨[(4, (aB (((decide ((↑(keepL (came seen) (s.kept.take q)).length : Int) = (↑x0.kept.length : Int))) && (decide (e2 = 0))) && r3)))], [], 0⟩ [.tmp 4] [(.c (cB (((decide ((↑(keepL (came seen) (s.kept.take q)).length : Int) = (↑x0.kept.length : Int))) && (decide (e2 = 0))) && r3)))] (Weak.ren id (⟨by first | rfl | (simp only [AV.map, GV.map, CV.map, AB.map', id]; done) | (congr 3; omega) | (congr 4; omega) | (simp only [List.length_append, List.length_cons, List.length_nil, List.length_set]; rfl),  trivial⟩) (trivial) rfl) rfl ⟨.tmp rfl, trivial⟩ trivial) ?_ ?_
              · exact congrArg aB (show (((decide ((↑(keepL (came seen) (s.kept.take q)).length : Int) = (↑x0.kept.length : Int))) && (decide (e2 = 0))) && r3) = true by (rcases back_of hr0 with ⟨h0, _⟩ | ⟨_, h1, h2, h3, rfl⟩; (exfalso; omega); (have ha := back_again h1 h2 h3; rw [hr2] at ha; simp only [Prod.mk.injEq] at ha; obtain ⟨rfl, rfl⟩ := ha; rw [List.take_of_length_le (by omega)]; simp_all [sameS_self])))
              · rfl
end Go.Proofs.Ytgmcdlfmifijlaa.Dev
