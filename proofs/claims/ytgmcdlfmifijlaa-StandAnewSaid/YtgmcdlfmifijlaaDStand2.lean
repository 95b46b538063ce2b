/- payref1.SameStand. -/
import Derived.Test.YtgmcdlfmifijlaaDStand1
import Derived.Test.YtgmcdlfmifijlaaDOpn
set_option linter.unusedVariables false
set_option linter.unusedSimpArgs false
namespace Go.Proofs.Ytgmcdlfmifijlaa.Dev
open Go.RowKit


theorem c_stand_WrongN (s : Stand) (e : Int) (hr : wrongStand s = e) : Fn Try.prog 33 [(.g [cI s.cap, cR 1 (s.used.map rI), cR 4 (s.advices.map rAdvice)])] (.v (.c (cI e))) [] := hr ▸ c_stand_Wrong s.cap s.used s.advices
def sameStand (a b : Stand) : Bool := decide (a = b)
theorem same_stand {a b : Stand} (h1 : a.cap = b.cap) (h2 : a.used = b.used) (h3 : a.advices = b.advices) : sameStand a b = true := by
  cases a; cases b; simp_all [sameStand]

set_option maxRecDepth 100000 in
set_option maxHeartbeats 1000000 in
theorem c_SameStand (a b : Stand) (r : Bool) (hr : sameStand a b = r) : Fn Try.prog 31 [(.g [(cI a.cap), (cR 1 ((a.used).map rI)), (cR 4 ((a.advices).map rAdvice))]), (.g [(cI b.cap), (cR 1 ((b.used).map rI)), (cR 4 ((b.advices).map rAdvice))])] (.v (.c (cB r))) [] := by
  refine Fn.mk' 66 [(0, (aG [(cI a.cap), (cR 1 ((a.used).map rI)), (cR 4 ((a.advices).map rAdvice))])), (1, (aG [(cI b.cap), (cR 1 ((b.used).map rI)), (cR 4 ((b.advices).map rAdvice))]))] Try.func31 rfl rfl rfl rfl ?_
  intro W0 T0
  refine AC.lenG 0 1 rfl rfl (fun hlen0_1 => ?_)
  refine AC.lenG 0 2 rfl rfl (fun hlen0_2 => ?_)
  refine AC.lenG 1 1 rfl rfl (fun hlen1_1 => ?_)
  refine AC.lenG 1 2 rfl rfl (fun hlen1_2 => ?_)
  refine AC.seq ?_
  refine AC.region ?_
  refine AL.new (n' := 1) (Wanted.plain rfl) (g_boxS 0 rfl rfl) rfl rfl rfl ?_
  refine AL.new (n' := 2) (Wanted.plain rfl) (g_boxS 1 rfl rfl) rfl rfl rfl ?_
  refine AL.fast 1 rfl ?_
  refine AL.nil ?_
  refine then_ok ?_
  refine AC.seq ?_
  refine AC.cutB 29 (((decide (¬ a.cap = b.cap)) || (decide (¬ (↑a.used.length : Int) = (↑b.used.length : Int)))) || (decide (¬ (↑a.advices.length : Int) = (↑b.advices.length : Int)))) ?_ ?_
  ·
    refine AC.region ?_
    refine AL.val (Wanted.plain rfl) (g_fieldP rfl rfl Try.underlying26 rfl sz3 (by decide)) rfl rfl ?_
    refine AL.val (Wanted.plain rfl) (g_loadB rfl rfl rfl Try.underlying3 rfl rfl) rfl rfl ?_
    refine AL.val (Wanted.plain rfl) (g_fieldP rfl rfl Try.underlying26 rfl sz3 (by decide)) rfl rfl ?_
    refine AL.val (Wanted.plain rfl) (g_loadB rfl rfl rfl Try.underlying3 rfl rfl) rfl rfl ?_
    refine AL.val (Wanted.plain rfl) (g_binI rfl rfl rfl rfl) rfl rfl ?_
    refine AL.fast 1 rfl ?_
    refine AL.dec (t := 12) rfl (fun hb1 => ?_) (fun hb1 => ?_)
    ·
      have hb1' := hb1; try simp only [Bool.not_eq_true', Bool.not_eq_false', Bool.or_eq_true, Bool.or_eq_false_iff, Bool.and_eq_true, Bool.and_eq_false_imp, decide_eq_true_eq, decide_eq_false_iff_not, Bool.not_not, Bool.not_true, Bool.not_false] at hb1'
      refine AL.fast 17 rfl ?_
      refine AL.nil ?_
      refine then_ok ?_
      exact Weak.popB 24 rfl rfl (by simp [hb1]) rfl
    ·
      have hb1' := hb1; try simp only [Bool.not_eq_true', Bool.not_eq_false', Bool.or_eq_true, Bool.or_eq_false_iff, Bool.and_eq_true, Bool.and_eq_false_imp, decide_eq_true_eq, decide_eq_false_iff_not, Bool.not_not, Bool.not_true, Bool.not_false] at hb1'
      refine AL.val (Wanted.yes rfl rfl rfl) (g_fieldP rfl rfl Try.underlying26 rfl sz24 (by decide)) rfl rfl ?_
      refine AL.val (Wanted.yes rfl rfl rfl) (g_loadB rfl rfl rfl Try.underlying24 rfl rfl) rfl rfl ?_
      refine AL.val (Wanted.yes rfl rfl rfl) (g_lenM rfl rfl rfl rfl rfl Try.underlying24) rfl rfl ?_
      refine AL.val (Wanted.yes rfl rfl rfl) (g_fieldP rfl rfl Try.underlying26 rfl sz24 (by decide)) rfl rfl ?_
      refine AL.val (Wanted.yes rfl rfl rfl) (g_loadB rfl rfl rfl Try.underlying24 rfl rfl) rfl rfl ?_
      refine AL.val (Wanted.yes rfl rfl rfl) (g_lenM rfl rfl rfl rfl rfl Try.underlying24) rfl rfl ?_
      refine AL.val (Wanted.yes rfl rfl rfl) (g_binI rfl rfl rfl rfl) rfl rfl ?_
      refine AL.fast 2 rfl ?_
      refine AL.dec (t := 21) rfl (fun hb2 => ?_) (fun hb2 => ?_)
      ·
        have hb2' := hb2; try simp only [Bool.not_eq_true', Bool.not_eq_false', Bool.or_eq_true, Bool.or_eq_false_iff, Bool.and_eq_true, Bool.and_eq_false_imp, decide_eq_true_eq, decide_eq_false_iff_not, Bool.not_not, Bool.not_true, Bool.not_false] at hb2'
        refine AL.fast 8 rfl ?_
        refine AL.nil ?_
        refine then_ok ?_
        exact Weak.popB 25 rfl rfl (by simp [hb1, hb2]) rfl
      ·
        have hb2' := hb2; try simp only [Bool.not_eq_true', Bool.not_eq_false', Bool.or_eq_true, Bool.or_eq_false_iff, Bool.and_eq_true, Bool.and_eq_false_imp, decide_eq_true_eq, decide_eq_false_iff_not, Bool.not_not, Bool.not_true, Bool.not_false] at hb2'
        refine AL.val (Wanted.yes rfl rfl rfl) (g_fieldP rfl rfl Try.underlying26 rfl sz22 (by decide)) rfl rfl ?_
        refine AL.val (Wanted.yes rfl rfl rfl) (g_loadB rfl rfl rfl Try.underlying22 rfl rfl) rfl rfl ?_
        refine AL.val (Wanted.yes rfl rfl rfl) (g_lenM rfl rfl rfl rfl rfl Try.underlying22) rfl rfl ?_
        refine AL.val (Wanted.yes rfl rfl rfl) (g_fieldP rfl rfl Try.underlying26 rfl sz22 (by decide)) rfl rfl ?_
        refine AL.val (Wanted.yes rfl rfl rfl) (g_loadB rfl rfl rfl Try.underlying22 rfl rfl) rfl rfl ?_
        refine AL.val (Wanted.yes rfl rfl rfl) (g_lenM rfl rfl rfl rfl rfl Try.underlying22) rfl rfl ?_
        refine AL.val (Wanted.yes rfl rfl rfl) (g_binI rfl rfl rfl rfl) rfl rfl ?_
        refine AL.fast 1 rfl ?_
        refine AL.nil ?_
        refine then_ok ?_
        exact Weak.popB 25 rfl rfl (by simp [hb1, hb2]) rfl
  ·
    refine AC.cond rfl (fun hc3 => ?_) (fun hc3 => ?_)
    ·
      have hc3' := hc3; try simp only [Bool.not_eq_true', Bool.not_eq_false', Bool.or_eq_true, Bool.or_eq_false_iff, Bool.and_eq_true, Bool.and_eq_false_imp, decide_eq_true_eq, decide_eq_false_iff_not, Bool.not_not, Bool.not_true, Bool.not_false] at hc3'
      refine AC.seq ?_
      refine AC.region ?_
      refine AL.fast 1 rfl ?_
      refine AL.nil ?_
      refine then_ok ?_
      refine AC.ret ?_
      refine then_ret ?_
      have hX : sameStand a b = false := by
        simp only [sameStand, decide_eq_false_iff_not]; rintro rfl; simp at hc3
      rw [hX] at hr; clear hX
      subst hr
      refine retQ_mk (av' := outOf [(.c (cB false))]) (nb' := []) (retQ_ret ⟨[(4, (aB false))], [], 0⟩ [.tmp 4] [(.c (cB false))] (Weak.ren id (⟨by first | rfl | (simp only [AV.map, GV.map, CV.map, AB.map', id]; done) | (congr 3; omega) | (congr 4; omega),  trivial⟩) (trivial) rfl) rfl ⟨.tmp rfl, trivial⟩ trivial) ?_ ?_
      · first | rfl | (simp [outOf, aC]; done)
      · first | rfl | (simp; done)
    ·
      have hc3' := hc3; try simp only [Bool.not_eq_true', Bool.not_eq_false', Bool.or_eq_true, Bool.or_eq_false_iff, Bool.and_eq_true, Bool.and_eq_false_imp, decide_eq_true_eq, decide_eq_false_iff_not, Bool.not_not, Bool.not_true, Bool.not_false] at hc3'
      refine AC.skip ?_
      refine then_ok ?_
      refine AC.seq ?_
      refine AC.seq ?_
      refine AC.region ?_
      refine AL.val (Wanted.plain rfl) (g_fieldP rfl rfl Try.underlying26 rfl sz24 (by decide)) rfl rfl ?_
      refine AL.val (Wanted.plain rfl) (g_loadB rfl rfl rfl Try.underlying24 rfl rfl) rfl rfl ?_
      refine AL.val (Wanted.plain rfl) (g_lenM rfl rfl rfl rfl rfl Try.underlying24) rfl rfl ?_
      refine AL.fast 1 rfl ?_
      refine AL.nil ?_
      refine then_ok ?_
      refine AC.block ?_
      refine AC.loop (β := Nat) (fun (q : Nat) => ⟨[(2, (aC (.p 0 0 0 0))), (3, (aC (.p 1 0 0 0))), (32, (aI (↑a.used.length : Int))), (33, (aI (↑q : Int)))], [(1, (.box 26 [(cI b.cap), (cR 1 ((b.used).map rI)), (cR 4 ((b.advices).map rAdvice))])), (0, (.box 26 [(cI a.cap), (cR 1 ((a.used).map rI)), (cR 4 ((a.advices).map rAdvice))]))], 2⟩) (fun (q : Nat) => q ≤ a.used.length ∧ a.used.take q = b.used.take q) (fun (q : Nat) => a.used.length - q) 0 ?_ ?_ ?_
      · exact ⟨by omega, rfl⟩
      · exact Weak.ren id (⟨by first | rfl | (simp only [AV.map, GV.map, CV.map, AB.map', id]; done) | (congr 3; omega) | (congr 4; omega), by first | rfl | (simp only [AV.map, GV.map, CV.map, AB.map', id]; done) | (congr 3; omega) | (congr 4; omega), by first | rfl | (simp only [AV.map, GV.map, CV.map, AB.map', id]; done) | (congr 3; omega) | (congr 4; omega), by first | rfl | (simp only [AV.map, GV.map, CV.map, AB.map', id]; done) | (congr 3; omega) | (congr 4; omega),  trivial⟩) (⟨by first | rfl | (simp only [AV.map, GV.map, CV.map, AB.map', id]; done) | (congr 3; omega) | (congr 4; omega), by first | rfl | (simp only [AV.map, GV.map, CV.map, AB.map', id]; done) | (congr 3; omega) | (congr 4; omega),  trivial⟩) rfl
      ·
        rintro q ⟨hi0_0, hi0_1⟩
        refine AC.seq ?_
        refine AC.region ?_
        refine AL.val (Wanted.plain rfl) (g_binI rfl rfl rfl rfl) rfl rfl ?_
        refine AL.nil ?_
        refine then_ok ?_
        refine AC.seq ?_
        refine AC.cond rfl (fun hc4 => ?_) (fun hc4 => ?_)
        ·
          have hc4' := hc4; try simp only [Bool.not_eq_true', Bool.not_eq_false', Bool.or_eq_true, Bool.or_eq_false_iff, Bool.and_eq_true, Bool.and_eq_false_imp, decide_eq_true_eq, decide_eq_false_iff_not, Bool.not_not, Bool.not_true, Bool.not_false] at hc4'
          refine AC.skip ?_
          refine then_ok ?_
          refine AC.seq ?_
          refine AC.block ?_
          refine AC.seq ?_
          refine AC.region ?_
          refine AL.fast 2 rfl ?_
          refine AL.nil ?_
          refine then_ok ?_
          refine AC.seq ?_
          obtain ⟨x1, hx1⟩ := exget (xs := a.used) (i := q) (by first | omega | (simp; done) | (simp; omega))
          obtain ⟨x2, hx2⟩ := exget (xs := b.used) (i := q) (by first | omega | (simp; done) | (simp; omega))
          refine AC.weak (st' := ⟨[(2, (aC (.p 0 0 0 0))), (3, (aC (.p 1 0 0 0))), (32, (aI (↑a.used.length : Int))), (33, (aI (↑q : Int))), (5, (aI (↑q : Int)))], [(1, (.box 26 [(cI b.cap), (cR 1 ((b.used).map rI)), (cR 4 ((b.advices).map rAdvice))])), (0, (.box 26 [(cI a.cap), (cR 1 ((a.used).map rI)), (cR 4 ((a.advices).map rAdvice))]))], 2⟩) (Weak.ren id (⟨by first | rfl | (simp only [AV.map, GV.map, CV.map, AB.map', id]; done) | (congr 3; omega) | (congr 4; omega), by first | rfl | (simp only [AV.map, GV.map, CV.map, AB.map', id]; done) | (congr 3; omega) | (congr 4; omega), by first | rfl | (simp only [AV.map, GV.map, CV.map, AB.map', id]; done) | (congr 3; omega) | (congr 4; omega), by first | rfl | (simp only [AV.map, GV.map, CV.map, AB.map', id]; done) | (congr 3; omega) | (congr 4; omega), by first | rfl | (simp only [AV.map, GV.map, CV.map, AB.map', id]; done) | (congr 3; omega) | (congr 4; omega),  trivial⟩) (⟨by first | rfl | (simp only [AV.map, GV.map, CV.map, AB.map', id]; done) | (congr 3; omega) | (congr 4; omega), by first | rfl | (simp only [AV.map, GV.map, CV.map, AB.map', id]; done) | (congr 3; omega) | (congr 4; omega),  trivial⟩) rfl) ?_
          refine AC.draw [⟨some 36, (aC (.p 0 0 0 1)), [], [], [], [(2, (aC (.p 0 0 0 0)))], [(0, (.box 26 [(cI a.cap), (cR 1 ((a.used).map rI)), (cR 4 ((a.advices).map rAdvice))]))]⟩,
      ⟨some 37, (aC (cR 1 ((a.used).map rI))), [], [], [0], [(36, (aC (.p 0 0 0 1)))], [(0, (.box 26 [(cI a.cap), (cR 1 ((a.used).map rI)), (cR 4 ((a.advices).map rAdvice))]))]⟩,
      ⟨some 38, (aI (↑q : Int)), [], [], [], [(5, (aI (↑q : Int)))], []⟩,
      ⟨some 39, (aC (.q (rI x1) 0)), [], [], [1, 2], [(37, (aC (cR 1 ((a.used).map rI)))), (38, (aI (↑q : Int)))], []⟩,
      ⟨some 40, (aI x1), [], [], [3], [(39, (aC (.q (rI x1) 0)))], []⟩,
      ⟨some 41, (aC (.p 1 0 0 1)), [], [], [], [(3, (aC (.p 1 0 0 0)))], [(1, (.box 26 [(cI b.cap), (cR 1 ((b.used).map rI)), (cR 4 ((b.advices).map rAdvice))]))]⟩,
      ⟨some 42, (aC (cR 1 ((b.used).map rI))), [], [], [5], [(41, (aC (.p 1 0 0 1)))], [(1, (.box 26 [(cI b.cap), (cR 1 ((b.used).map rI)), (cR 4 ((b.advices).map rAdvice))]))]⟩,
      ⟨some 43, (aI (↑q : Int)), [], [], [], [(5, (aI (↑q : Int)))], []⟩,
      ⟨some 44, (aC (.q (rI x2) 0)), [], [], [6, 7], [(42, (aC (cR 1 ((b.used).map rI)))), (43, (aI (↑q : Int)))], []⟩,
      ⟨some 45, (aI x2), [], [], [8], [(44, (aC (.q (rI x2) 0)))], []⟩,
      ⟨some 46, (aB (decide (¬ x1 = x2))), [], [], [4, 9], [(40, (aI x1)), (45, (aI x2))], []⟩] ⟨[(2, (aC (.p 0 0 0 0))), (3, (aC (.p 1 0 0 0))), (32, (aI (↑a.used.length : Int))), (33, (aI (↑q : Int))), (5, (aI (↑q : Int))), (46, (aB (decide (¬ x1 = x2))))], [(1, (.box 26 [(cI b.cap), (cR 1 ((b.used).map rI)), (cR 4 ((b.advices).map rAdvice))])), (0, (.box 26 [(cI a.cap), (cR 1 ((a.used).map rI)), (cR 4 ((a.advices).map rAdvice))]))], 2⟩ mixed (by kernel_rfl) ?_ ?_ ?_ ?_
          · exact ⟨.inl ⟨(Wanted.plain rfl), GOp.cast (g_fieldP rfl rfl Try.underlying26 rfl sz24 (by decide)) rfl⟩,
      .inl ⟨(Wanted.plain rfl), GOp.cast (g_loadB rfl rfl rfl Try.underlying24 rfl rfl) rfl⟩,
      .inl ⟨(Wanted.plain rfl), GOp.cast (g_move rfl rfl) rfl⟩,
      .inl ⟨(Wanted.plain rfl), GOp.cast (g_indexQ (i := q) rfl rfl rfl Try.underlying24 sz3 (by first | omega | (simp; done) | (simp; omega)) (getmap hx1)) rfl⟩,
      .inl ⟨(Wanted.plain rfl), GOp.cast (g_loadQ rfl rfl Try.underlying3 rfl rfl) rfl⟩,
      .inl ⟨(Wanted.plain rfl), GOp.cast (g_fieldP rfl rfl Try.underlying26 rfl sz24 (by decide)) rfl⟩,
      .inl ⟨(Wanted.plain rfl), GOp.cast (g_loadB rfl rfl rfl Try.underlying24 rfl rfl) rfl⟩,
      .inl ⟨(Wanted.plain rfl), GOp.cast (g_move rfl rfl) rfl⟩,
      .inl ⟨(Wanted.plain rfl), GOp.cast (g_indexQ (i := q) rfl rfl rfl Try.underlying24 sz3 (by first | omega | (simp; done) | (simp; omega)) (getmap hx2)) rfl⟩,
      .inl ⟨(Wanted.plain rfl), GOp.cast (g_loadQ rfl rfl Try.underlying3 rfl rfl) rfl⟩,
      .inl ⟨(Wanted.plain rfl), GOp.cast (g_binI rfl rfl rfl rfl) rfl⟩,
       trivial⟩
          · exact ⟨⟨⟨.inl rfl,  trivial⟩, ⟨.inl rfl,  trivial⟩⟩, ⟨⟨.inr ⟨0, .head _, _, rfl, rfl, rfl⟩,  trivial⟩, ⟨.inl rfl,  trivial⟩⟩, ⟨⟨.inl rfl,  trivial⟩, trivial⟩, ⟨⟨.inr ⟨1, .head _, _, rfl, rfl, rfl⟩, .inr ⟨2, .tail _ (.head _), _, rfl, rfl, rfl⟩,  trivial⟩, trivial⟩, ⟨⟨.inr ⟨3, .head _, _, rfl, rfl, rfl⟩,  trivial⟩, trivial⟩, ⟨⟨.inl rfl,  trivial⟩, ⟨.inl rfl,  trivial⟩⟩, ⟨⟨.inr ⟨5, .head _, _, rfl, rfl, rfl⟩,  trivial⟩, ⟨.inl rfl,  trivial⟩⟩, ⟨⟨.inl rfl,  trivial⟩, trivial⟩, ⟨⟨.inr ⟨6, .head _, _, rfl, rfl, rfl⟩, .inr ⟨7, .tail _ (.head _), _, rfl, rfl, rfl⟩,  trivial⟩, trivial⟩, ⟨⟨.inr ⟨8, .head _, _, rfl, rfl, rfl⟩,  trivial⟩, trivial⟩, ⟨⟨.inr ⟨4, .head _, _, rfl, rfl, rfl⟩, .inr ⟨9, .tail _ (.head _), _, rfl, rfl, rfl⟩,  trivial⟩, trivial⟩,  trivial⟩
          · exact ⟨⟨.inl rfl, .inl rfl, .inl rfl, .inl rfl, .inl rfl, .inr ⟨10, _, rfl, rfl, rfl⟩,  trivial⟩, ⟨.inl rfl, .inl rfl,  trivial⟩⟩
          ·
            refine AL.nil ?_
            refine then_ok ?_
            refine AC.cond rfl (fun hc5 => ?_) (fun hc5 => ?_)
            ·
              have hc5' := hc5; try simp only [Bool.not_eq_true', Bool.not_eq_false', Bool.or_eq_true, Bool.or_eq_false_iff, Bool.and_eq_true, Bool.and_eq_false_imp, decide_eq_true_eq, decide_eq_false_iff_not, Bool.not_not, Bool.not_true, Bool.not_false] at hc5'
              refine AC.seq ?_
              refine AC.region ?_
              refine AL.fast 1 rfl ?_
              refine AL.nil ?_
              refine then_ok ?_
              refine AC.ret ?_
              refine block_ret ?_
              refine then_ret ?_
              refine then_ret ?_
              refine block_ret ?_
              refine then_ret ?_
              have hX : sameStand a b = false := by
                simp only [sameStand, decide_eq_false_iff_not]; rintro rfl; rw [hx1] at hx2; cases hx2; simp_all
              rw [hX] at hr; clear hX
              subst hr
              refine retQ_mk (av' := outOf [(.c (cB false))]) (nb' := []) (retQ_ret ⟨[(4, (aB false))], [], 0⟩ [.tmp 4] [(.c (cB false))] (Weak.ren id (⟨by first | rfl | (simp only [AV.map, GV.map, CV.map, AB.map', id]; done) | (congr 3; omega) | (congr 4; omega),  trivial⟩) (trivial) rfl) rfl ⟨.tmp rfl, trivial⟩ trivial) ?_ ?_
              · first | rfl | (simp [outOf, aC]; done)
              · first | rfl | (simp; done)
            ·
              have hc5' := hc5; try simp only [Bool.not_eq_true', Bool.not_eq_false', Bool.or_eq_true, Bool.or_eq_false_iff, Bool.and_eq_true, Bool.and_eq_false_imp, decide_eq_true_eq, decide_eq_false_iff_not, Bool.not_not, Bool.not_true, Bool.not_false] at hc5'
              refine AC.skip ?_
              refine block_ok ?_
              refine then_ok ?_
              refine AC.region ?_
              refine AL.val (Wanted.plain rfl) (g_binI rfl rfl rfl (wrap_ok (by first | omega | (simp; done) | (simp; omega)))) rfl rfl ?_
              refine AL.fast 1 rfl ?_
              refine AL.nil ?_
              refine then_ok ?_
              refine ⟨q + 1, ⟨by omega, by rw [take_get hx1, take_get hx2, hi0_1, show x1 = x2 by omega]⟩, by first | omega | (simp; done) | (simp; omega), Weak.ren id (⟨by first | rfl | (simp only [AV.map, GV.map, CV.map, AB.map', id]; done) | (congr 3; omega) | (congr 4; omega), by first | rfl | (simp only [AV.map, GV.map, CV.map, AB.map', id]; done) | (congr 3; omega) | (congr 4; omega), by first | rfl | (simp only [AV.map, GV.map, CV.map, AB.map', id]; done) | (congr 3; omega) | (congr 4; omega), by first | rfl | (simp only [AV.map, GV.map, CV.map, AB.map', id]; done) | (congr 3; omega) | (congr 4; omega),  trivial⟩) (⟨by first | rfl | (simp only [AV.map, GV.map, CV.map, AB.map', id]; done) | (congr 3; omega) | (congr 4; omega), by first | rfl | (simp only [AV.map, GV.map, CV.map, AB.map', id]; done) | (congr 3; omega) | (congr 4; omega),  trivial⟩) rfl⟩
        ·
          have hc4' := hc4; try simp only [Bool.not_eq_true', Bool.not_eq_false', Bool.or_eq_true, Bool.or_eq_false_iff, Bool.and_eq_true, Bool.and_eq_false_imp, decide_eq_true_eq, decide_eq_false_iff_not, Bool.not_not, Bool.not_true, Bool.not_false] at hc4'
          refine AC.exit ?_
          refine then_exit ?_
          refine then_exit ?_
          refine block_hit ?_
          refine then_ok ?_
          refine AC.seq ?_
          refine AC.seq ?_
          refine AC.region ?_
          refine AL.val (Wanted.plain rfl) (g_fieldP rfl rfl Try.underlying26 rfl sz22 (by decide)) rfl rfl ?_
          refine AL.val (Wanted.plain rfl) (g_loadB rfl rfl rfl Try.underlying22 rfl rfl) rfl rfl ?_
          refine AL.val (Wanted.plain rfl) (g_lenM rfl rfl rfl rfl rfl Try.underlying22) rfl rfl ?_
          refine AL.fast 1 rfl ?_
          refine AL.nil ?_
          refine then_ok ?_
          refine AC.block ?_
          have hu : a.used = b.used := by rw [← List.take_of_length_le (l := a.used) (i := q) (by omega), ← List.take_of_length_le (l := b.used) (i := q) (by omega)]; exact hi0_1
          refine AC.loop (β := Nat) (fun (p : Nat) => ⟨[(2, (aC (.p 0 0 0 0))), (3, (aC (.p 1 0 0 0))), (32, (aI (↑a.used.length : Int))), (33, (aI (↑q : Int))), (50, (aI (↑a.advices.length : Int))), (51, (aI (↑p : Int)))], [(1, (.box 26 [(cI b.cap), (cR 1 ((b.used).map rI)), (cR 4 ((b.advices).map rAdvice))])), (0, (.box 26 [(cI a.cap), (cR 1 ((a.used).map rI)), (cR 4 ((a.advices).map rAdvice))]))], 2⟩) (fun (p : Nat) => p ≤ a.advices.length ∧ a.advices.take p = b.advices.take p) (fun (p : Nat) => a.advices.length - p) 0 ?_ ?_ ?_
          · exact ⟨by omega, rfl⟩
          · exact Weak.ren id (⟨by first | rfl | (simp only [AV.map, GV.map, CV.map, AB.map', id]; done) | (congr 3; omega) | (congr 4; omega), by first | rfl | (simp only [AV.map, GV.map, CV.map, AB.map', id]; done) | (congr 3; omega) | (congr 4; omega), by first | rfl | (simp only [AV.map, GV.map, CV.map, AB.map', id]; done) | (congr 3; omega) | (congr 4; omega), by first | rfl | (simp only [AV.map, GV.map, CV.map, AB.map', id]; done) | (congr 3; omega) | (congr 4; omega), by first | rfl | (simp only [AV.map, GV.map, CV.map, AB.map', id]; done) | (congr 3; omega) | (congr 4; omega), by first | rfl | (simp only [AV.map, GV.map, CV.map, AB.map', id]; done) | (congr 3; omega) | (congr 4; omega),  trivial⟩) (⟨by first | rfl | (simp only [AV.map, GV.map, CV.map, AB.map', id]; done) | (congr 3; omega) | (congr 4; omega), by first | rfl | (simp only [AV.map, GV.map, CV.map, AB.map', id]; done) | (congr 3; omega) | (congr 4; omega),  trivial⟩) rfl
          ·
            rintro p ⟨hi1_0, hi1_1⟩
            refine AC.seq ?_
            refine AC.region ?_
            refine AL.val (Wanted.plain rfl) (g_binI rfl rfl rfl rfl) rfl rfl ?_
            refine AL.nil ?_
            refine then_ok ?_
            refine AC.seq ?_
            refine AC.cond rfl (fun hc6 => ?_) (fun hc6 => ?_)
            ·
              have hc6' := hc6; try simp only [Bool.not_eq_true', Bool.not_eq_false', Bool.or_eq_true, Bool.or_eq_false_iff, Bool.and_eq_true, Bool.and_eq_false_imp, decide_eq_true_eq, decide_eq_false_iff_not, Bool.not_not, Bool.not_true, Bool.not_false] at hc6'
              refine AC.skip ?_
              refine then_ok ?_
              refine AC.seq ?_
              refine AC.block ?_
              refine AC.seq ?_
              refine AC.region ?_
              refine AL.fast 2 rfl ?_
              refine AL.nil ?_
              refine then_ok ?_
              refine AC.seq ?_
              obtain ⟨x1, hx1⟩ := exget (xs := a.advices) (i := p) (by first | omega | (simp; done) | (simp; omega))
              obtain ⟨x2, hx2⟩ := exget (xs := b.advices) (i := p) (by first | omega | (simp; done) | (simp; omega))
              refine AC.weak (st' := ⟨[(2, (aC (.p 0 0 0 0))), (3, (aC (.p 1 0 0 0))), (32, (aI (↑a.used.length : Int))), (33, (aI (↑q : Int))), (50, (aI (↑a.advices.length : Int))), (51, (aI (↑p : Int))), (6, (aI (↑p : Int)))], [(1, (.box 26 [(cI b.cap), (cR 1 ((b.used).map rI)), (cR 4 ((b.advices).map rAdvice))])), (0, (.box 26 [(cI a.cap), (cR 1 ((a.used).map rI)), (cR 4 ((a.advices).map rAdvice))]))], 2⟩) (Weak.ren id (⟨by first | rfl | (simp only [AV.map, GV.map, CV.map, AB.map', id]; done) | (congr 3; omega) | (congr 4; omega), by first | rfl | (simp only [AV.map, GV.map, CV.map, AB.map', id]; done) | (congr 3; omega) | (congr 4; omega), by first | rfl | (simp only [AV.map, GV.map, CV.map, AB.map', id]; done) | (congr 3; omega) | (congr 4; omega), by first | rfl | (simp only [AV.map, GV.map, CV.map, AB.map', id]; done) | (congr 3; omega) | (congr 4; omega), by first | rfl | (simp only [AV.map, GV.map, CV.map, AB.map', id]; done) | (congr 3; omega) | (congr 4; omega), by first | rfl | (simp only [AV.map, GV.map, CV.map, AB.map', id]; done) | (congr 3; omega) | (congr 4; omega), by first | rfl | (simp only [AV.map, GV.map, CV.map, AB.map', id]; done) | (congr 3; omega) | (congr 4; omega),  trivial⟩) (⟨by first | rfl | (simp only [AV.map, GV.map, CV.map, AB.map', id]; done) | (congr 3; omega) | (congr 4; omega), by first | rfl | (simp only [AV.map, GV.map, CV.map, AB.map', id]; done) | (congr 3; omega) | (congr 4; omega),  trivial⟩) rfl) ?_
              refine AC.draw [⟨some 54, (aC (.p 0 0 0 2)), [], [], [], [(2, (aC (.p 0 0 0 0)))], [(0, (.box 26 [(cI a.cap), (cR 1 ((a.used).map rI)), (cR 4 ((a.advices).map rAdvice))]))]⟩,
      ⟨some 55, (aC (cR 4 ((a.advices).map rAdvice))), [], [], [0], [(54, (aC (.p 0 0 0 2)))], [(0, (.box 26 [(cI a.cap), (cR 1 ((a.used).map rI)), (cR 4 ((a.advices).map rAdvice))]))]⟩,
      ⟨some 56, (aI (↑p : Int)), [], [], [], [(6, (aI (↑p : Int)))], []⟩,
      ⟨some 57, (aC (.q (rAdvice x1) 0)), [], [], [1, 2], [(55, (aC (cR 4 ((a.advices).map rAdvice)))), (56, (aI (↑p : Int)))], []⟩,
      ⟨some 58, (aG [(cI x1.card), (cI x1.shop), (cI x1.sum), (cI x1.time)]), [], [], [3], [(57, (aC (.q (rAdvice x1) 0)))], []⟩,
      ⟨some 59, (aC (.p 1 0 0 2)), [], [], [], [(3, (aC (.p 1 0 0 0)))], [(1, (.box 26 [(cI b.cap), (cR 1 ((b.used).map rI)), (cR 4 ((b.advices).map rAdvice))]))]⟩,
      ⟨some 60, (aC (cR 4 ((b.advices).map rAdvice))), [], [], [5], [(59, (aC (.p 1 0 0 2)))], [(1, (.box 26 [(cI b.cap), (cR 1 ((b.used).map rI)), (cR 4 ((b.advices).map rAdvice))]))]⟩,
      ⟨some 61, (aI (↑p : Int)), [], [], [], [(6, (aI (↑p : Int)))], []⟩,
      ⟨some 62, (aC (.q (rAdvice x2) 0)), [], [], [6, 7], [(60, (aC (cR 4 ((b.advices).map rAdvice)))), (61, (aI (↑p : Int)))], []⟩,
      ⟨some 63, (aG [(cI x2.card), (cI x2.shop), (cI x2.sum), (cI x2.time)]), [], [], [8], [(62, (aC (.q (rAdvice x2) 0)))], []⟩,
      ⟨some 64, (aB (!(sameL [.int .i64 x1.card, .int .i64 x1.shop, .int .i64 x1.sum, .int .i64 x1.time] [.int .i64 x2.card, .int .i64 x2.shop, .int .i64 x2.sum, .int .i64 x2.time]))), [], [], [4, 9], [(58, (aG [(cI x1.card), (cI x1.shop), (cI x1.sum), (cI x1.time)])), (63, (aG [(cI x2.card), (cI x2.shop), (cI x2.sum), (cI x2.time)]))], []⟩] ⟨[(2, (aC (.p 0 0 0 0))), (3, (aC (.p 1 0 0 0))), (32, (aI (↑a.used.length : Int))), (33, (aI (↑q : Int))), (50, (aI (↑a.advices.length : Int))), (51, (aI (↑p : Int))), (6, (aI (↑p : Int))), (64, (aB (!(sameL [.int .i64 x1.card, .int .i64 x1.shop, .int .i64 x1.sum, .int .i64 x1.time] [.int .i64 x2.card, .int .i64 x2.shop, .int .i64 x2.sum, .int .i64 x2.time]))))], [(1, (.box 26 [(cI b.cap), (cR 1 ((b.used).map rI)), (cR 4 ((b.advices).map rAdvice))])), (0, (.box 26 [(cI a.cap), (cR 1 ((a.used).map rI)), (cR 4 ((a.advices).map rAdvice))]))], 2⟩ mixed (by kernel_rfl) ?_ ?_ ?_ ?_
              · exact ⟨.inl ⟨(Wanted.plain rfl), GOp.cast (g_fieldP rfl rfl Try.underlying26 rfl sz22 (by decide)) rfl⟩,
      .inl ⟨(Wanted.plain rfl), GOp.cast (g_loadB rfl rfl rfl Try.underlying22 rfl rfl) rfl⟩,
      .inl ⟨(Wanted.plain rfl), GOp.cast (g_move rfl rfl) rfl⟩,
      .inl ⟨(Wanted.plain rfl), GOp.cast (g_indexQ (i := p) rfl rfl rfl Try.underlying22 sz32 (by first | omega | (simp; done) | (simp; omega)) (getmap hx1)) rfl⟩,
      .inl ⟨(Wanted.plain rfl), GOp.cast (g_loadQs rfl rfl Try.underlying32 rfl sz32 rfl rfl) rfl⟩,
      .inl ⟨(Wanted.plain rfl), GOp.cast (g_fieldP rfl rfl Try.underlying26 rfl sz22 (by decide)) rfl⟩,
      .inl ⟨(Wanted.plain rfl), GOp.cast (g_loadB rfl rfl rfl Try.underlying22 rfl rfl) rfl⟩,
      .inl ⟨(Wanted.plain rfl), GOp.cast (g_move rfl rfl) rfl⟩,
      .inl ⟨(Wanted.plain rfl), GOp.cast (g_indexQ (i := p) rfl rfl rfl Try.underlying22 sz32 (by first | omega | (simp; done) | (simp; omega)) (getmap hx2)) rfl⟩,
      .inl ⟨(Wanted.plain rfl), GOp.cast (g_loadQs rfl rfl Try.underlying32 rfl sz32 rfl rfl) rfl⟩,
      .inl ⟨(Wanted.plain rfl), GOp.cast (g_neq (cmp32 _ _ _ _ _ _ _ _) rfl rfl rfl rfl rfl rfl) rfl⟩,
       trivial⟩
              · exact ⟨⟨⟨.inl rfl,  trivial⟩, ⟨.inl rfl,  trivial⟩⟩, ⟨⟨.inr ⟨0, .head _, _, rfl, rfl, rfl⟩,  trivial⟩, ⟨.inl rfl,  trivial⟩⟩, ⟨⟨.inl rfl,  trivial⟩, trivial⟩, ⟨⟨.inr ⟨1, .head _, _, rfl, rfl, rfl⟩, .inr ⟨2, .tail _ (.head _), _, rfl, rfl, rfl⟩,  trivial⟩, trivial⟩, ⟨⟨.inr ⟨3, .head _, _, rfl, rfl, rfl⟩,  trivial⟩, trivial⟩, ⟨⟨.inl rfl,  trivial⟩, ⟨.inl rfl,  trivial⟩⟩, ⟨⟨.inr ⟨5, .head _, _, rfl, rfl, rfl⟩,  trivial⟩, ⟨.inl rfl,  trivial⟩⟩, ⟨⟨.inl rfl,  trivial⟩, trivial⟩, ⟨⟨.inr ⟨6, .head _, _, rfl, rfl, rfl⟩, .inr ⟨7, .tail _ (.head _), _, rfl, rfl, rfl⟩,  trivial⟩, trivial⟩, ⟨⟨.inr ⟨8, .head _, _, rfl, rfl, rfl⟩,  trivial⟩, trivial⟩, ⟨⟨.inr ⟨4, .head _, _, rfl, rfl, rfl⟩, .inr ⟨9, .tail _ (.head _), _, rfl, rfl, rfl⟩,  trivial⟩, trivial⟩,  trivial⟩
              · exact ⟨⟨.inl rfl, .inl rfl, .inl rfl, .inl rfl, .inl rfl, .inl rfl, .inl rfl, .inr ⟨10, _, rfl, rfl, rfl⟩,  trivial⟩, ⟨.inl rfl, .inl rfl,  trivial⟩⟩
              ·
                refine AL.nil ?_
                refine then_ok ?_
                refine AC.cond rfl (fun hc7 => ?_) (fun hc7 => ?_)
                ·
                  have hc7' := hc7; try simp only [Bool.not_eq_true', Bool.not_eq_false', Bool.or_eq_true, Bool.or_eq_false_iff, Bool.and_eq_true, Bool.and_eq_false_imp, decide_eq_true_eq, decide_eq_false_iff_not, Bool.not_not, Bool.not_true, Bool.not_false] at hc7'
                  refine AC.seq ?_
                  refine AC.region ?_
                  refine AL.fast 1 rfl ?_
                  refine AL.nil ?_
                  refine then_ok ?_
                  refine AC.ret ?_
                  refine block_ret ?_
                  refine then_ret ?_
                  refine then_ret ?_
                  refine block_ret ?_
                  refine then_ret ?_
                  have hX : sameStand a b = false := by
                    simp only [sameStand, decide_eq_false_iff_not]; rintro rfl; rw [hx1] at hx2; cases hx2; simp_all [same32]
                  rw [hX] at hr; clear hX
                  subst hr
                  refine retQ_mk (av' := outOf [(.c (cB false))]) (nb' := []) (retQ_ret ⟨[(4, (aB false))], [], 0⟩ [.tmp 4] [(.c (cB false))] (Weak.ren id (⟨by first | rfl | (simp only [AV.map, GV.map, CV.map, AB.map', id]; done) | (congr 3; omega) | (congr 4; omega),  trivial⟩) (trivial) rfl) rfl ⟨.tmp rfl, trivial⟩ trivial) ?_ ?_
                  · first | rfl | (simp [outOf, aC]; done)
                  · first | rfl | (simp; done)
                ·
                  have hc7' := hc7; try simp only [Bool.not_eq_true', Bool.not_eq_false', Bool.or_eq_true, Bool.or_eq_false_iff, Bool.and_eq_true, Bool.and_eq_false_imp, decide_eq_true_eq, decide_eq_false_iff_not, Bool.not_not, Bool.not_true, Bool.not_false] at hc7'
                  refine AC.skip ?_
                  refine block_ok ?_
                  refine then_ok ?_
                  refine AC.region ?_
                  refine AL.val (Wanted.plain rfl) (g_binI rfl rfl rfl (wrap_ok (by first | omega | (simp; done) | (simp; omega)))) rfl rfl ?_
                  refine AL.fast 1 rfl ?_
                  refine AL.nil ?_
                  refine then_ok ?_
                  refine ⟨p + 1, ⟨by omega, by rw [take_get hx1, take_get hx2, hi1_1, show x1 = x2 by simp_all [same32]]⟩, by first | omega | (simp; done) | (simp; omega), Weak.ren id (⟨by first | rfl | (simp only [AV.map, GV.map, CV.map, AB.map', id]; done) | (congr 3; omega) | (congr 4; omega), by first | rfl | (simp only [AV.map, GV.map, CV.map, AB.map', id]; done) | (congr 3; omega) | (congr 4; omega), by first | rfl | (simp only [AV.map, GV.map, CV.map, AB.map', id]; done) | (congr 3; omega) | (congr 4; omega), by first | rfl | (simp only [AV.map, GV.map, CV.map, AB.map', id]; done) | (congr 3; omega) | (congr 4; omega), by first | rfl | (simp only [AV.map, GV.map, CV.map, AB.map', id]; done) | (congr 3; omega) | (congr 4; omega), by first | rfl | (simp only [AV.map, GV.map, CV.map, AB.map', id]; done) | (congr 3; omega) | (congr 4; omega),  trivial⟩) (⟨by first | rfl | (simp only [AV.map, GV.map, CV.map, AB.map', id]; done) | (congr 3; omega) | (congr 4; omega), by first | rfl | (simp only [AV.map, GV.map, CV.map, AB.map', id]; done) | (congr 3; omega) | (congr 4; omega),  trivial⟩) rfl⟩
            ·
              have hc6' := hc6; try simp only [Bool.not_eq_true', Bool.not_eq_false', Bool.or_eq_true, Bool.or_eq_false_iff, Bool.and_eq_true, Bool.and_eq_false_imp, decide_eq_true_eq, decide_eq_false_iff_not, Bool.not_not, Bool.not_true, Bool.not_false] at hc6'
              refine AC.exit ?_
              refine then_exit ?_
              refine then_exit ?_
              refine block_hit ?_
              refine then_ok ?_
              refine AC.seq ?_
              refine AC.region ?_
              refine AL.fast 1 rfl ?_
              refine AL.nil ?_
              refine then_ok ?_
              refine AC.ret ?_
              have hX : sameStand a b = true := by
                exact same_stand (by omega) hu (by rw [← List.take_of_length_le (l := a.advices) (i := p) (by omega), ← List.take_of_length_le (l := b.advices) (i := p) (by omega)]; exact hi1_1)
              rw [hX] at hr; clear hX
              subst hr
              refine retQ_mk (av' := outOf [(.c (cB true))]) (nb' := []) (retQ_ret ⟨[(4, (aB true))], [], 0⟩ [.tmp 4] [(.c (cB true))] (Weak.ren id (⟨by first | rfl | (simp only [AV.map, GV.map, CV.map, AB.map', id]; done) | (congr 3; omega) | (congr 4; omega),  trivial⟩) (trivial) rfl) rfl ⟨.tmp rfl, trivial⟩ trivial) ?_ ?_
              · first | rfl | (simp [outOf, aC]; done)
              · first | rfl | (simp; done)
end Go.Proofs.Ytgmcdlfmifijlaa.Dev
