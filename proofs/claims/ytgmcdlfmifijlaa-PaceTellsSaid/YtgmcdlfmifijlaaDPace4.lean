/- payref1.SameUses. -/
import Derived.Test.YtgmcdlfmifijlaaDPace3
set_option linter.unusedVariables false
set_option linter.unusedSimpArgs false
namespace Go.Proofs.Ytgmcdlfmifijlaa.Dev
open Go.RowKit

set_option maxRecDepth 100000 in
set_option maxHeartbeats 1000000 in
theorem c_SameUses (a b : List Use) (r : Bool) (hr : sameList a b = r) : Fn Try.prog 42 [(.c (cR 2 ((a).map rUse))), (.c (cR 2 ((b).map rUse)))] (.v (.c (cB r))) [] := by
  refine Fn.mk' 26 [(0, (aC (cR 2 ((a).map rUse)))), (1, (aC (cR 2 ((b).map rUse))))] Try.func42 rfl rfl rfl rfl ?_
  intro W0 T0
  refine AC.len1 0 rfl (fun hlen0 => ?_)
  refine AC.len1 1 rfl (fun hlen1 => ?_)
  refine AC.seq ?_
  refine AC.region ?_
  refine AL.fast 1 rfl ?_
  refine AL.nil ?_
  refine then_ok ?_
  refine AC.seq ?_
  refine AC.seq ?_
  refine AC.region ?_
  refine AL.fast 1 rfl ?_
  refine AL.val (Wanted.plain rfl) (g_lenM rfl rfl rfl rfl rfl Try.underlying42) rfl rfl ?_
  refine AL.fast 1 rfl ?_
  refine AL.val (Wanted.plain rfl) (g_lenM rfl rfl rfl rfl rfl Try.underlying42) rfl rfl ?_
  refine AL.val (Wanted.plain rfl) (g_binI rfl rfl rfl rfl) rfl rfl ?_
  refine AL.nil ?_
  refine then_ok ?_
  refine AC.cond rfl (fun hc1 => ?_) (fun hc1 => ?_)
  ·
    have hc1' := hc1; try simp only [sumB, Bool.not_eq_true', Bool.not_eq_false', Bool.or_eq_true, Bool.or_eq_false_iff, Bool.and_eq_true, Bool.and_eq_false_imp, decide_eq_true_eq, decide_eq_false_iff_not, Bool.not_not, Bool.not_true, Bool.not_false] at hc1'
    refine AC.seq ?_
    refine AC.region ?_
    refine AL.fast 1 rfl ?_
    refine AL.nil ?_
    refine then_ok ?_
    refine AC.ret ?_
    refine then_ret ?_
    have hX : sameList a b = false := by
      exact same_no (by omega)
    rw [hX] at hr; clear hX
    subst hr
    refine retQ_mk (av' := outOf [(.c (cB false))]) (nb' := []) (retQ_ret ⟨[(4, (aB false))], [], 0⟩ [.tmp 4] [(.c (cB false))] (Weak.ren id (⟨by first | rfl | (simp only [AV.map, GV.map, CV.map, AB.map', id]; done) | (congr 3; omega) | (congr 4; omega) | (simp only [List.length_append, List.length_cons, List.length_nil, List.length_set]; rfl),  trivial⟩) (trivial) rfl) rfl ⟨.tmp rfl, trivial⟩ trivial) ?_ ?_
    · first | rfl | (simp [outOf, aC]; done) | (simp [outOf, aC]; omega)
    · first | rfl | (simp; done) | (simp; omega)
  ·
    have hc1' := hc1; try simp only [sumB, Bool.not_eq_true', Bool.not_eq_false', Bool.or_eq_true, Bool.or_eq_false_iff, Bool.and_eq_true, Bool.and_eq_false_imp, decide_eq_true_eq, decide_eq_false_iff_not, Bool.not_not, Bool.not_true, Bool.not_false] at hc1'
    refine AC.skip ?_
    refine then_ok ?_
    refine AC.seq ?_
    refine AC.seq ?_
    refine AC.region ?_
    refine AL.fast 1 rfl ?_
    refine AL.val (Wanted.plain rfl) (g_lenM rfl rfl rfl rfl rfl Try.underlying42) rfl rfl ?_
    refine AL.fast 1 rfl ?_
    refine AL.nil ?_
    refine then_ok ?_
    refine AC.block ?_
    refine AC.loop (β := Nat) (fun (q : Nat) => ⟨[(0, (aC (cR 2 ((a).map rUse)))), (1, (aC (cR 2 ((b).map rUse)))), (12, (aI (↑a.length : Int))), (13, (aI (↑q : Int)))], [], 0⟩) (fun (q : Nat) => q ≤ a.length ∧ a.take q = b.take q) (fun (q : Nat) => a.length - q) 0 ?_ ?_ ?_
    · exact ⟨by omega, rfl⟩
    · exact Weak.ren id (⟨by first | rfl | (simp only [AV.map, GV.map, CV.map, AB.map', id]; done) | (congr 3; omega) | (congr 4; omega) | (simp only [List.length_append, List.length_cons, List.length_nil, List.length_set]; rfl), by first | rfl | (simp only [AV.map, GV.map, CV.map, AB.map', id]; done) | (congr 3; omega) | (congr 4; omega) | (simp only [List.length_append, List.length_cons, List.length_nil, List.length_set]; rfl), by first | rfl | (simp only [AV.map, GV.map, CV.map, AB.map', id]; done) | (congr 3; omega) | (congr 4; omega) | (simp only [List.length_append, List.length_cons, List.length_nil, List.length_set]; rfl), by first | rfl | (simp only [AV.map, GV.map, CV.map, AB.map', id]; done) | (congr 3; omega) | (congr 4; omega) | (simp only [List.length_append, List.length_cons, List.length_nil, List.length_set]; rfl),  trivial⟩) (trivial) rfl
    ·
      rintro q ⟨hi0_0, hi0_1⟩
      refine AC.seq ?_
      refine AC.region ?_
      refine AL.val (Wanted.plain rfl) (g_binI rfl rfl rfl rfl) rfl rfl ?_
      refine AL.nil ?_
      refine then_ok ?_
      refine AC.seq ?_
      refine AC.cond rfl (fun hc2 => ?_) (fun hc2 => ?_)
      ·
        have hc2' := hc2; try simp only [sumB, Bool.not_eq_true', Bool.not_eq_false', Bool.or_eq_true, Bool.or_eq_false_iff, Bool.and_eq_true, Bool.and_eq_false_imp, decide_eq_true_eq, decide_eq_false_iff_not, Bool.not_not, Bool.not_true, Bool.not_false] at hc2'
        refine AC.skip ?_
        refine then_ok ?_
        refine AC.seq ?_
        refine AC.block ?_
        refine AC.seq ?_
        refine AC.region ?_
        refine AL.fast 2 rfl ?_
        refine AL.nil ?_
        refine then_ok ?_
        refine AC.seq ?_
        obtain ⟨x1, hx1⟩ := exget (xs := a) (i := q) (by first | omega | (simp; done) | (simp; omega))
        obtain ⟨x2, hx2⟩ := exget (xs := b) (i := q) (by first | omega | (simp; done) | (simp; omega))
        refine AC.weak (st' := ⟨[(0, (aC (cR 2 ((a).map rUse)))), (1, (aC (cR 2 ((b).map rUse)))), (12, (aI (↑a.length : Int))), (13, (aI (↑q : Int))), (5, (aI (↑q : Int)))], [], 0⟩) (Weak.ren id (⟨by first | rfl | (simp only [AV.map, GV.map, CV.map, AB.map', id]; done) | (congr 3; omega) | (congr 4; omega) | (simp only [List.length_append, List.length_cons, List.length_nil, List.length_set]; rfl), by first | rfl | (simp only [AV.map, GV.map, CV.map, AB.map', id]; done) | (congr 3; omega) | (congr 4; omega) | (simp only [List.length_append, List.length_cons, List.length_nil, List.length_set]; rfl), by first | rfl | (simp only [AV.map, GV.map, CV.map, AB.map', id]; done) | (congr 3; omega) | (congr 4; omega) | (simp only [List.length_append, List.length_cons, List.length_nil, List.length_set]; rfl), by first | rfl | (simp only [AV.map, GV.map, CV.map, AB.map', id]; done) | (congr 3; omega) | (congr 4; omega) | (simp only [List.length_append, List.length_cons, List.length_nil, List.length_set]; rfl), by first | rfl | (simp only [AV.map, GV.map, CV.map, AB.map', id]; done) | (congr 3; omega) | (congr 4; omega) | (simp only [List.length_append, List.length_cons, List.length_nil, List.length_set]; rfl),  trivial⟩) (trivial) rfl) ?_
        refine AC.draw [⟨some 16, (aC (cR 2 ((a).map rUse))), [], [], [], [(0, (aC (cR 2 ((a).map rUse))))], []⟩,
      ⟨some 17, (aI (↑q : Int)), [], [], [], [(5, (aI (↑q : Int)))], []⟩,
      ⟨some 18, (aC (.q (rUse x1) 0)), [], [], [0, 1], [(16, (aC (cR 2 ((a).map rUse)))), (17, (aI (↑q : Int)))], []⟩,
      ⟨some 19, (aG [(cI x1.time), (cI x1.sum)]), [], [], [2], [(18, (aC (.q (rUse x1) 0)))], []⟩,
      ⟨some 20, (aC (cR 2 ((b).map rUse))), [], [], [], [(1, (aC (cR 2 ((b).map rUse))))], []⟩,
      ⟨some 21, (aI (↑q : Int)), [], [], [], [(5, (aI (↑q : Int)))], []⟩,
      ⟨some 22, (aC (.q (rUse x2) 0)), [], [], [4, 5], [(20, (aC (cR 2 ((b).map rUse)))), (21, (aI (↑q : Int)))], []⟩,
      ⟨some 23, (aG [(cI x2.time), (cI x2.sum)]), [], [], [6], [(22, (aC (.q (rUse x2) 0)))], []⟩,
      ⟨some 24, (aB (!(sameL [.int .i64 x1.time, .int .i64 x1.sum] [.int .i64 x2.time, .int .i64 x2.sum]))), [], [], [3, 7], [(19, (aG [(cI x1.time), (cI x1.sum)])), (23, (aG [(cI x2.time), (cI x2.sum)]))], []⟩] ⟨[(0, (aC (cR 2 ((a).map rUse)))), (1, (aC (cR 2 ((b).map rUse)))), (12, (aI (↑a.length : Int))), (13, (aI (↑q : Int))), (5, (aI (↑q : Int))), (24, (aB (!(sameL [.int .i64 x1.time, .int .i64 x1.sum] [.int .i64 x2.time, .int .i64 x2.sum]))))], [], 0⟩ mixed (by kernel_rfl) ?_ ?_ ?_ ?_
        · exact ⟨.inl ⟨(Wanted.plain rfl), GOp.cast (g_move rfl rfl) rfl⟩,
      .inl ⟨(Wanted.plain rfl), GOp.cast (g_move rfl rfl) rfl⟩,
      .inl ⟨(Wanted.plain rfl), GOp.cast (g_indexQ (i := q) rfl rfl rfl Try.underlying42 sz44 (by first | omega | (simp; done) | (simp; omega)) (getmap hx1)) rfl⟩,
      .inl ⟨(Wanted.plain rfl), GOp.cast (g_loadQs rfl rfl Try.underlying44 rfl sz44 rfl rfl) rfl⟩,
      .inl ⟨(Wanted.plain rfl), GOp.cast (g_move rfl rfl) rfl⟩,
      .inl ⟨(Wanted.plain rfl), GOp.cast (g_move rfl rfl) rfl⟩,
      .inl ⟨(Wanted.plain rfl), GOp.cast (g_indexQ (i := q) rfl rfl rfl Try.underlying42 sz44 (by first | omega | (simp; done) | (simp; omega)) (getmap hx2)) rfl⟩,
      .inl ⟨(Wanted.plain rfl), GOp.cast (g_loadQs rfl rfl Try.underlying44 rfl sz44 rfl rfl) rfl⟩,
      .inl ⟨(Wanted.plain rfl), GOp.cast (g_neq (cmp44 _ _ _ _) rfl rfl rfl rfl rfl rfl) rfl⟩,
       trivial⟩
        · exact ⟨⟨⟨.inl rfl,  trivial⟩, trivial⟩, ⟨⟨.inl rfl,  trivial⟩, trivial⟩, ⟨⟨.inr ⟨0, .head _, _, rfl, rfl, rfl⟩, .inr ⟨1, .tail _ (.head _), _, rfl, rfl, rfl⟩,  trivial⟩, trivial⟩, ⟨⟨.inr ⟨2, .head _, _, rfl, rfl, rfl⟩,  trivial⟩, trivial⟩, ⟨⟨.inl rfl,  trivial⟩, trivial⟩, ⟨⟨.inl rfl,  trivial⟩, trivial⟩, ⟨⟨.inr ⟨4, .head _, _, rfl, rfl, rfl⟩, .inr ⟨5, .tail _ (.head _), _, rfl, rfl, rfl⟩,  trivial⟩, trivial⟩, ⟨⟨.inr ⟨6, .head _, _, rfl, rfl, rfl⟩,  trivial⟩, trivial⟩, ⟨⟨.inr ⟨3, .head _, _, rfl, rfl, rfl⟩, .inr ⟨7, .tail _ (.head _), _, rfl, rfl, rfl⟩,  trivial⟩, trivial⟩,  trivial⟩
        · exact ⟨⟨.inl rfl, .inl rfl, .inl rfl, .inl rfl, .inl rfl, .inr ⟨8, _, rfl, rfl, rfl⟩,  trivial⟩, trivial⟩
        ·
          refine AL.nil ?_
          refine then_ok ?_
          refine AC.cond rfl (fun hc3 => ?_) (fun hc3 => ?_)
          ·
            have hc3' := hc3; try simp only [sumB, Bool.not_eq_true', Bool.not_eq_false', Bool.or_eq_true, Bool.or_eq_false_iff, Bool.and_eq_true, Bool.and_eq_false_imp, decide_eq_true_eq, decide_eq_false_iff_not, Bool.not_not, Bool.not_true, Bool.not_false] at hc3'
            refine AC.seq ?_
            refine AC.region ?_
            refine AL.fast 1 rfl ?_
            refine AL.nil ?_
            refine then_ok ?_
            refine AC.ret ?_
            refine block_ret ?_
            refine then_ret ?_
            refine then_ret ?_
            refine block_ret ?_
            refine then_ret ?_
            have hX : sameList a b = false := by
              refine same_no' hx1 hx2 ?_; simp_all [same44]
            rw [hX] at hr; clear hX
            subst hr
            refine retQ_mk (av' := outOf [(.c (cB false))]) (nb' := []) (retQ_ret ⟨[(4, (aB false))], [], 0⟩ [.tmp 4] [(.c (cB false))] (Weak.ren id (⟨by first | rfl | (simp only [AV.map, GV.map, CV.map, AB.map', id]; done) | (congr 3; omega) | (congr 4; omega) | (simp only [List.length_append, List.length_cons, List.length_nil, List.length_set]; rfl),  trivial⟩) (trivial) rfl) rfl ⟨.tmp rfl, trivial⟩ trivial) ?_ ?_
            · first | rfl | (simp [outOf, aC]; done) | (simp [outOf, aC]; omega)
            · first | rfl | (simp; done) | (simp; omega)
          ·
            have hc3' := hc3; try simp only [sumB, Bool.not_eq_true', Bool.not_eq_false', Bool.or_eq_true, Bool.or_eq_false_iff, Bool.and_eq_true, Bool.and_eq_false_imp, decide_eq_true_eq, decide_eq_false_iff_not, Bool.not_not, Bool.not_true, Bool.not_false] at hc3'
            refine AC.skip ?_
            refine block_ok ?_
            refine then_ok ?_
            refine AC.region ?_
            refine AL.val (Wanted.plain rfl) (g_binI rfl rfl rfl (wrap_ok (by first | omega | (simp; done) | (simp; omega)))) rfl rfl ?_
            refine AL.fast 1 rfl ?_
            refine AL.nil ?_
            refine then_ok ?_
            refine ⟨q + 1, ⟨by omega, by rw [take_get hx1, take_get hx2, hi0_1, show x1 = x2 by simp_all [same44]]⟩, by first | omega | (simp; done) | (simp; omega), Weak.ren id (⟨by first | rfl | (simp only [AV.map, GV.map, CV.map, AB.map', id]; done) | (congr 3; omega) | (congr 4; omega) | (simp only [List.length_append, List.length_cons, List.length_nil, List.length_set]; rfl), by first | rfl | (simp only [AV.map, GV.map, CV.map, AB.map', id]; done) | (congr 3; omega) | (congr 4; omega) | (simp only [List.length_append, List.length_cons, List.length_nil, List.length_set]; rfl), by first | rfl | (simp only [AV.map, GV.map, CV.map, AB.map', id]; done) | (congr 3; omega) | (congr 4; omega) | (simp only [List.length_append, List.length_cons, List.length_nil, List.length_set]; rfl), by first | rfl | (simp only [AV.map, GV.map, CV.map, AB.map', id]; done) | (congr 3; omega) | (congr 4; omega) | (simp only [List.length_append, List.length_cons, List.length_nil, List.length_set]; rfl),  trivial⟩) (trivial) rfl⟩
      ·
        have hc2' := hc2; try simp only [sumB, Bool.not_eq_true', Bool.not_eq_false', Bool.or_eq_true, Bool.or_eq_false_iff, Bool.and_eq_true, Bool.and_eq_false_imp, decide_eq_true_eq, decide_eq_false_iff_not, Bool.not_not, Bool.not_true, Bool.not_false] at hc2'
        refine AC.exit ?_
        refine then_exit ?_
        refine then_exit ?_
        refine block_hit ?_
        refine then_ok ?_
        refine AC.seq ?_
        refine AC.region ?_
        refine AL.fast 1 rfl ?_
        refine AL.nil ?_
        refine then_ok ?_
        refine AC.ret ?_
        have hX : sameList a b = true := by
          exact same_yes (q := q) (by omega) (by omega) hi0_1
        rw [hX] at hr; clear hX
        subst hr
        refine retQ_mk (av' := outOf [(.c (cB true))]) (nb' := []) (retQ_ret ⟨[(4, (aB true))], [], 0⟩ [.tmp 4] [(.c (cB true))] (Weak.ren id (⟨by first | rfl | (simp only [AV.map, GV.map, CV.map, AB.map', id]; done) | (congr 3; omega) | (congr 4; omega) | (simp only [List.length_append, List.length_cons, List.length_nil, List.length_set]; rfl),  trivial⟩) (trivial) rfl) rfl ⟨.tmp rfl, trivial⟩ trivial) ?_ ?_
        · first | rfl | (simp [outOf, aC]; done) | (simp [outOf, aC]; omega)
        · first | rfl | (simp; done) | (simp; omega)
end Go.Proofs.Ytgmcdlfmifijlaa.Dev
