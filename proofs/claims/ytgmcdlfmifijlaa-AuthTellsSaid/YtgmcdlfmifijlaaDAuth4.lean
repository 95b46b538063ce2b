/- AuthRight. -/
import Derived.Test.YtgmcdlfmifijlaaDAuth3
set_option linter.unusedVariables false
set_option linter.unusedSimpArgs false
namespace Go.Proofs.Ytgmcdlfmifijlaa.Dev
open Go.RowKit

set_option maxRecDepth 100000 in
set_option maxHeartbeats 1000000 in
theorem c_AuthRight (a : Auth) (l : List Step) : Fn Try.prog 14 [(.g [(cI a.card), (cI a.shop), (cI a.sum), (cI a.captured), (cI a.refunded), (cI a.disputed), (cI a.till), (cB a.shut)]), (.c (cR 2 ((l).map rStep)))] (aB true) [] := by
  refine Fn.mk' 127 [(0, (aG [(cI a.card), (cI a.shop), (cI a.sum), (cI a.captured), (cI a.refunded), (cI a.disputed), (cI a.till), (cB a.shut)])), (1, (aC (cR 2 ((l).map rStep))))] Try.func14 rfl rfl rfl rfl ?_
  intro W0 T0
  refine AC.len1 1 rfl (fun hlen1 => ?_)
  refine AC.seq ?_
  refine AC.region ?_
  refine AL.new (n' := 1) (Wanted.plain rfl) (g_boxS 0 rfl rfl) rfl rfl rfl ?_
  refine AL.fast 1 rfl ?_
  refine AL.nil ?_
  refine then_ok ?_
  refine AC.seq ?_
  refine AC.seq ?_
  refine AC.region ?_
  refine AL.call (n' := 1) (h' := [(0, (.box 75 [(cI a.card), (cI a.shop), (cI a.sum), (cI a.captured), (cI a.refunded), (cI a.disputed), (cI a.till), (cB a.shut)]))]) (Wanted.plain rfl) (g_call 1 (c_auth_alive   ) en67 rfl rfl trivial trivial trivial rfl rfl rfl rfl) rfl rfl rfl rfl rfl ?_
  refine AL.val (Wanted.plain rfl) (g_notB rfl rfl) rfl rfl ?_
  refine AL.nil ?_
  refine then_ok ?_
  refine AC.cond rfl (fun hno => by cases hno) (fun _ => ?_)
  refine AC.skip ?_
  refine then_ok ?_
  refine AC.seq ?_
  refine AC.seq ?_
  refine AC.region ?_
  refine AL.val (Wanted.plain rfl) (g_loadBs rfl rfl rfl Try.underlying75 rfl sz75 rfl rfl) rfl rfl ?_
  obtain ⟨e0, hr0⟩ : ∃ (e0 : Int), wrongAuth a = e0 := ⟨_, rfl⟩
  refine AL.call (n' := 1) (h' := [(0, (.box 75 [(cI a.card), (cI a.shop), (cI a.sum), (cI a.captured), (cI a.refunded), (cI a.disputed), (cI a.till), (cB a.shut)]))]) (Wanted.plain rfl) (g_call 1 (c_auth_Wrong a  e0 hr0) en57 rfl rfl ⟨⟨_, rfl, .g ⟨.d _, .d _, .d _, .d _, .d _, .d _, .d _, .d _,  trivial⟩⟩,  trivial⟩ trivial trivial rfl rfl rfl rfl) rfl rfl rfl rfl rfl ?_
  refine AL.val (Wanted.plain rfl) (g_binI rfl rfl rfl rfl) rfl rfl ?_
  refine AL.nil ?_
  refine then_ok ?_
  refine AC.cond rfl (fun hc2 => ?_) (fun hc2 => ?_)
  ·
    have hc2' := hc2; try simp only [sumB, Bool.not_eq_true', Bool.not_eq_false', Bool.or_eq_true, Bool.or_eq_false_iff, Bool.and_eq_true, Bool.and_eq_false_imp, decide_eq_true_eq, decide_eq_false_iff_not, Bool.not_not, Bool.not_true, Bool.not_false] at hc2'
    refine AC.seq ?_
    refine AC.region ?_
    refine AL.fast 1 rfl ?_
    refine AL.nil ?_
    refine then_ok ?_
    refine AC.ret ?_
    refine then_ret ?_
    refine retQ_mk (av' := outOf [(.c (cB true))]) (nb' := []) (retQ_ret ⟨[(4, (aB true))], [], 0⟩ [.tmp 4] [(.c (cB true))] (Weak.ren id (⟨by first | rfl | (simp only [AV.map, GV.map, CV.map, AB.map', id]; done) | (congr 3; omega) | (congr 4; omega) | (simp only [List.length_append, List.length_cons, List.length_nil, List.length_set]; rfl),  trivial⟩) (trivial) rfl) rfl ⟨.tmp rfl, trivial⟩ trivial) ?_ ?_
    · rfl
    · rfl
  ·
    have hc2' := hc2; try simp only [sumB, Bool.not_eq_true', Bool.not_eq_false', Bool.or_eq_true, Bool.or_eq_false_iff, Bool.and_eq_true, Bool.and_eq_false_imp, decide_eq_true_eq, decide_eq_false_iff_not, Bool.not_not, Bool.not_true, Bool.not_false] at hc2'
    refine AC.skip ?_
    refine then_ok ?_
    refine AC.seq ?_
    refine AC.seq ?_
    refine AC.region ?_
    refine AL.fast 1 rfl ?_
    refine AL.val (Wanted.plain rfl) (g_lenM rfl rfl rfl rfl rfl Try.underlying84) rfl rfl ?_
    refine AL.fast 1 rfl ?_
    refine AL.nil ?_
    refine then_ok ?_
    refine AC.block ?_
    refine AC.loop (β := Nat × Auth) (fun (p : Nat × Auth) => match p with | (q, c) => ⟨[(2, (aC (.p 0 0 0 0))), (15, (aC (cR 2 ((l).map rStep)))), (16, (aI (↑l.length : Int))), (17, (aI (↑q : Int)))], [(0, (.box 75 [(cI c.card), (cI c.shop), (cI c.sum), (cI c.captured), (cI c.refunded), (cI c.disputed), (cI c.till), (cB c.shut)]))], 1⟩) (fun (p : Nat × Auth) => match p with | (q, c) => q ≤ l.length ∧ wrongAuth c = 0) (fun (p : Nat × Auth) => match p with | (q, c) => l.length - q) (0, a) ?_ ?_ ?_
    · exact ⟨by omega, by omega⟩
    · exact Weak.ren id (⟨by first | rfl | (simp only [AV.map, GV.map, CV.map, AB.map', id]; done) | (congr 3; omega) | (congr 4; omega) | (simp only [List.length_append, List.length_cons, List.length_nil, List.length_set]; rfl), by first | rfl | (simp only [AV.map, GV.map, CV.map, AB.map', id]; done) | (congr 3; omega) | (congr 4; omega) | (simp only [List.length_append, List.length_cons, List.length_nil, List.length_set]; rfl), by first | rfl | (simp only [AV.map, GV.map, CV.map, AB.map', id]; done) | (congr 3; omega) | (congr 4; omega) | (simp only [List.length_append, List.length_cons, List.length_nil, List.length_set]; rfl), by first | rfl | (simp only [AV.map, GV.map, CV.map, AB.map', id]; done) | (congr 3; omega) | (congr 4; omega) | (simp only [List.length_append, List.length_cons, List.length_nil, List.length_set]; rfl),  trivial⟩) (⟨by first | rfl | (simp only [AV.map, GV.map, CV.map, AB.map', id]; done) | (congr 3; omega) | (congr 4; omega) | (simp only [List.length_append, List.length_cons, List.length_nil, List.length_set]; rfl),  trivial⟩) rfl
    ·
      rintro ⟨q, c⟩ ⟨hi0_0, hi0_1⟩
      refine AC.seq ?_
      refine AC.region ?_
      refine AL.val (Wanted.plain rfl) (g_binI rfl rfl rfl rfl) rfl rfl ?_
      refine AL.nil ?_
      refine then_ok ?_
      refine AC.seq ?_
      refine AC.cond rfl (fun hc3 => ?_) (fun hc3 => ?_)
      ·
        have hc3' := hc3; try simp only [sumB, Bool.not_eq_true', Bool.not_eq_false', Bool.or_eq_true, Bool.or_eq_false_iff, Bool.and_eq_true, Bool.and_eq_false_imp, decide_eq_true_eq, decide_eq_false_iff_not, Bool.not_not, Bool.not_true, Bool.not_false] at hc3'
        refine AC.skip ?_
        refine then_ok ?_
        refine AC.seq ?_
        refine AC.block ?_
        refine AC.seq ?_
        refine AC.region ?_
        obtain ⟨x1, hx1⟩ := exget (xs := l) (i := q) (by first | omega | (simp; done) | (simp; omega))
        refine AL.val (Wanted.plain rfl) (g_indexQ (i := q) rfl rfl rfl Try.underlying84 sz86 (by first | omega | (simp; done) | (simp; omega) | (obtain rfl : e1 = 0 := (by omega); have hp := plain_right hr1; have hq := rightAuth hp.1; omega)) (getmap hx1)) rfl rfl ?_
        refine AL.val (Wanted.plain rfl) (g_loadQs rfl rfl Try.underlying86 rfl sz86 rfl rfl) rfl rfl ?_
        refine AL.new (n' := 2) (Wanted.plain rfl) (g_alloc 1 rfl zv86 rfl rfl rfl) rfl rfl rfl ?_
        refine AL.sto (h' := [(1, (.box 86 [(cI x1.kind), (cI x1.n)])), (0, (.box 75 [(cI c.card), (cI c.shop), (cI c.sum), (cI c.captured), (cI c.refunded), (cI c.disputed), (cI c.till), (cB c.shut)]))]) (Wanted.plain rfl) (g_storeB rfl rfl rfl rfl rfl sz86 rfl (Nat.le_of_ble_eq_true rfl) rfl) rfl rfl rfl rfl ?_
        refine AL.nil ?_
        refine then_ok ?_
        refine AC.seq ?_
        refine AC.region ?_
        refine AL.val (Wanted.plain rfl) (g_loadBs rfl rfl rfl Try.underlying75 rfl sz75 rfl rfl) rfl rfl ?_
        refine AL.val (Wanted.plain rfl) (g_fieldP rfl rfl Try.underlying86 rfl sz3 (by decide)) rfl rfl ?_
        refine AL.val (Wanted.plain rfl) (g_loadB rfl rfl rfl Try.underlying3 rfl rfl) rfl rfl ?_
        refine AL.val (Wanted.plain rfl) (g_fieldP rfl rfl Try.underlying86 rfl sz3 (by decide)) rfl rfl ?_
        refine AL.val (Wanted.plain rfl) (g_loadB rfl rfl rfl Try.underlying3 rfl rfl) rfl rfl ?_
        obtain ⟨b1, e1, hr1⟩ : ∃ (b1 : Auth) (e1 : Int), moveAuth c x1.kind x1.n = (b1, e1) := ⟨_, _, rfl⟩
        refine AL.call (n' := 2) (h' := [(1, (.box 86 [(cI x1.kind), (cI x1.n)])), (0, (.box 75 [(cI c.card), (cI c.shop), (cI c.sum), (cI c.captured), (cI c.refunded), (cI c.disputed), (cI c.till), (cB c.shut)]))]) (Wanted.plain rfl) (g_call 2 (c_auth_Move c x1.kind x1.n  b1 e1 hr1) en65 rfl rfl ⟨⟨_, rfl, .g ⟨.d _, .d _, .d _, .d _, .d _, .d _, .d _, .d _,  trivial⟩⟩, ⟨_, rfl, .c (.d _)⟩, ⟨_, rfl, .c (.d _)⟩,  trivial⟩ ⟨⟨trivial, trivial, trivial, trivial, trivial, trivial, trivial, trivial,  trivial⟩, trivial,  trivial⟩ trivial rfl rfl rfl rfl) rfl rfl rfl rfl rfl ?_
        refine AL.fast 1 rfl ?_
        refine AL.val (Wanted.plain rfl) (g_extract rfl rfl rfl) rfl rfl ?_
        refine AL.val (Wanted.plain rfl) (g_extract rfl rfl rfl) rfl rfl ?_
        refine AL.new (n' := 3) (Wanted.plain rfl) (g_alloc 2 rfl zv75 rfl rfl rfl) rfl rfl rfl ?_
        refine AL.sto (h' := [(2, (.box 75 [(cI b1.card), (cI b1.shop), (cI b1.sum), (cI b1.captured), (cI b1.refunded), (cI b1.disputed), (cI b1.till), (cB b1.shut)])), (1, (.box 86 [(cI x1.kind), (cI x1.n)])), (0, (.box 75 [(cI c.card), (cI c.shop), (cI c.sum), (cI c.captured), (cI c.refunded), (cI c.disputed), (cI c.till), (cB c.shut)]))]) (Wanted.plain rfl) (g_storeB rfl rfl rfl rfl rfl sz75 rfl (Nat.le_of_ble_eq_true rfl) rfl) rfl rfl rfl rfl ?_
        refine AL.fast 1 rfl ?_
        refine AL.nil ?_
        refine then_ok ?_
        refine AC.seq ?_
        refine AC.seq ?_
        refine AC.region ?_
        refine AL.fast 1 rfl ?_
        refine AL.val (Wanted.plain rfl) (g_binI rfl rfl rfl rfl) rfl rfl ?_
        refine AL.nil ?_
        refine then_ok ?_
        refine AC.cond rfl (fun hc4 => ?_) (fun hc4 => ?_)
        ·
          have hc4' := hc4; try simp only [sumB, Bool.not_eq_true', Bool.not_eq_false', Bool.or_eq_true, Bool.or_eq_false_iff, Bool.and_eq_true, Bool.and_eq_false_imp, decide_eq_true_eq, decide_eq_false_iff_not, Bool.not_not, Bool.not_true, Bool.not_false] at hc4'
          refine AC.seq ?_
          refine AC.seq ?_
          refine AC.region ?_
          refine AL.val (Wanted.plain rfl) (g_loadBs rfl rfl rfl Try.underlying75 rfl sz75 rfl rfl) rfl rfl ?_
          refine AL.val (Wanted.plain rfl) (g_build (ys := []) rfl bld75 rfl trivial rfl rfl) rfl rfl ?_
          refine AL.val (Wanted.plain rfl) (g_neq (cmp75 _ _ _ _ _ _ _ _ _ _ _ _ _ _ _ _) rfl rfl rfl rfl rfl rfl) rfl rfl ?_
          refine AL.nil ?_
          refine then_ok ?_
          refine AC.cond rfl (fun hc5 => ?_) (fun hc5 => ?_)
          ·
            have hc5' := hc5; try simp only [sumB, Bool.not_eq_true', Bool.not_eq_false', Bool.or_eq_true, Bool.or_eq_false_iff, Bool.and_eq_true, Bool.and_eq_false_imp, decide_eq_true_eq, decide_eq_false_iff_not, Bool.not_not, Bool.not_true, Bool.not_false] at hc5'
            refine AC.seq ?_
            refine AC.region ?_
            refine AL.fast 1 rfl ?_
            refine AL.nil ?_
            refine then_ok ?_
            refine AC.ret ?_
            refine then_ret ?_
            refine then_ret ?_
            refine block_ret ?_
            refine then_ret ?_
            refine then_ret ?_
            refine block_ret ?_
            refine then_ret ?_
            refine retQ_mk (av' := outOf [(.c (cB false))]) (nb' := []) (retQ_ret ⟨[(4, (aB false))], [], 0⟩ [.tmp 4] [(.c (cB false))] (Weak.ren id (⟨by first | rfl | (simp only [AV.map, GV.map, CV.map, AB.map', id]; done) | (congr 3; omega) | (congr 4; omega) | (simp only [List.length_append, List.length_cons, List.length_nil, List.length_set]; rfl),  trivial⟩) (trivial) rfl) rfl ⟨.tmp rfl, trivial⟩ trivial) ?_ ?_
            · exact congrArg aB (show (false) = true by (exfalso; rcases moved_of hr1 with ⟨_, rfl⟩ | ⟨p, _⟩; simp [sameL, sameV, noAuth] at hc5'; omega))
            · rfl
          ·
            have hc5' := hc5; try simp only [sumB, Bool.not_eq_true', Bool.not_eq_false', Bool.or_eq_true, Bool.or_eq_false_iff, Bool.and_eq_true, Bool.and_eq_false_imp, decide_eq_true_eq, decide_eq_false_iff_not, Bool.not_not, Bool.not_true, Bool.not_false] at hc5'
            refine AC.skip ?_
            refine then_ok ?_
            refine AC.exit ?_
            refine then_exit ?_
            refine block_hit ?_
            refine then_ok ?_
            refine AC.region ?_
            refine AL.val (Wanted.plain rfl) (g_binI rfl rfl rfl (wrap_ok (by first | omega | (simp; done) | (simp; omega) | (obtain rfl : e1 = 0 := (by omega); have hp := plain_right hr1; have hq := rightAuth hp.1; omega)))) rfl rfl ?_
            refine AL.fast 1 rfl ?_
            refine AL.nil ?_
            refine then_ok ?_
            refine ⟨(q + 1, c), ⟨by omega, by first | assumption | omega⟩, by first | omega | (simp; done) | (simp; omega), Weak.ren id (⟨by first | rfl | (simp only [AV.map, GV.map, CV.map, AB.map', id]; done) | (congr 3; omega) | (congr 4; omega) | (simp only [List.length_append, List.length_cons, List.length_nil, List.length_set]; rfl), by first | rfl | (simp only [AV.map, GV.map, CV.map, AB.map', id]; done) | (congr 3; omega) | (congr 4; omega) | (simp only [List.length_append, List.length_cons, List.length_nil, List.length_set]; rfl), by first | rfl | (simp only [AV.map, GV.map, CV.map, AB.map', id]; done) | (congr 3; omega) | (congr 4; omega) | (simp only [List.length_append, List.length_cons, List.length_nil, List.length_set]; rfl), by first | rfl | (simp only [AV.map, GV.map, CV.map, AB.map', id]; done) | (congr 3; omega) | (congr 4; omega) | (simp only [List.length_append, List.length_cons, List.length_nil, List.length_set]; rfl),  trivial⟩) (⟨by first | rfl | (simp only [AV.map, GV.map, CV.map, AB.map', id]; done) | (congr 3; omega) | (congr 4; omega) | (simp only [List.length_append, List.length_cons, List.length_nil, List.length_set]; rfl),  trivial⟩) rfl⟩
        ·
          have hc4' := hc4; try simp only [sumB, Bool.not_eq_true', Bool.not_eq_false', Bool.or_eq_true, Bool.or_eq_false_iff, Bool.and_eq_true, Bool.and_eq_false_imp, decide_eq_true_eq, decide_eq_false_iff_not, Bool.not_not, Bool.not_true, Bool.not_false] at hc4'
          refine AC.skip ?_
          refine then_ok ?_
          refine AC.seq ?_
          obtain ⟨e2, hr2⟩ : ∃ (e2 : Int), wrongAuth b1 = e2 := ⟨_, rfl⟩
          refine AC.cutB 84 (((((((decide (¬ e2 = 0)) || (decide (b1.captured > b1.sum))) || (decide ((b1.refunded + b1.disputed) > b1.captured))) || (decide (¬ b1.card = c.card))) || (decide (¬ b1.shop = c.shop))) || (decide (¬ b1.till = c.till))) || (c.shut && (!b1.shut))) ?_ ?_
          ·
            refine AC.region ?_
            refine AL.val (Wanted.plain rfl) (g_loadBs rfl rfl rfl Try.underlying75 rfl sz75 rfl rfl) rfl rfl ?_
            refine AL.call (n' := 3) (h' := [(2, (.box 75 [(cI b1.card), (cI b1.shop), (cI b1.sum), (cI b1.captured), (cI b1.refunded), (cI b1.disputed), (cI b1.till), (cB b1.shut)])), (1, (.box 86 [(cI x1.kind), (cI x1.n)])), (0, (.box 75 [(cI c.card), (cI c.shop), (cI c.sum), (cI c.captured), (cI c.refunded), (cI c.disputed), (cI c.till), (cB c.shut)]))]) (Wanted.plain rfl) (g_call 3 (c_auth_Wrong b1  e2 hr2) en57 rfl rfl ⟨⟨_, rfl, .g ⟨.d _, .d _, .d _, .d _, .d _, .d _, .d _, .d _,  trivial⟩⟩,  trivial⟩ trivial trivial rfl rfl rfl rfl) rfl rfl rfl rfl rfl ?_
            refine AL.val (Wanted.plain rfl) (g_binI rfl rfl rfl rfl) rfl rfl ?_
            refine AL.fast 1 rfl ?_
            refine AL.dec (t := 38) rfl (fun hb6 => ?_) (fun hb6 => ?_)
            ·
              have hb6' := hb6; try simp only [sumB, Bool.not_eq_true', Bool.not_eq_false', Bool.or_eq_true, Bool.or_eq_false_iff, Bool.and_eq_true, Bool.and_eq_false_imp, decide_eq_true_eq, decide_eq_false_iff_not, Bool.not_not, Bool.not_true, Bool.not_false] at hb6'
              refine AL.fast 46 rfl ?_
              refine AL.nil ?_
              refine then_ok ?_
              exact Weak.popB 51 rfl rfl (by first | (simp [hb6]; done) | (simp_all; done) | (exfalso; simp_all; done) | (simp_all; omega)) rfl
            ·
              have hb6' := hb6; try simp only [sumB, Bool.not_eq_true', Bool.not_eq_false', Bool.or_eq_true, Bool.or_eq_false_iff, Bool.and_eq_true, Bool.and_eq_false_imp, decide_eq_true_eq, decide_eq_false_iff_not, Bool.not_not, Bool.not_true, Bool.not_false] at hb6'
              refine AL.val (Wanted.yes rfl rfl rfl) (g_fieldP rfl rfl Try.underlying75 rfl sz3 (by decide)) rfl rfl ?_
              refine AL.val (Wanted.yes rfl rfl rfl) (g_loadB rfl rfl rfl Try.underlying3 rfl rfl) rfl rfl ?_
              refine AL.val (Wanted.yes rfl rfl rfl) (g_fieldP rfl rfl Try.underlying75 rfl sz3 (by decide)) rfl rfl ?_
              refine AL.val (Wanted.yes rfl rfl rfl) (g_loadB rfl rfl rfl Try.underlying3 rfl rfl) rfl rfl ?_
              refine AL.val (Wanted.yes rfl rfl rfl) (g_binI rfl rfl rfl rfl) rfl rfl ?_
              refine AL.fast 2 rfl ?_
              refine AL.dec (t := 45) rfl (fun hb7 => ?_) (fun hb7 => ?_)
              ·
                have hb7' := hb7; try simp only [sumB, Bool.not_eq_true', Bool.not_eq_false', Bool.or_eq_true, Bool.or_eq_false_iff, Bool.and_eq_true, Bool.and_eq_false_imp, decide_eq_true_eq, decide_eq_false_iff_not, Bool.not_not, Bool.not_true, Bool.not_false] at hb7'
                refine AL.fast 39 rfl ?_
                refine AL.nil ?_
                refine then_ok ?_
                exact Weak.popB 52 rfl rfl (by first | (simp [hb6, hb7]; done) | (simp_all; done) | (exfalso; simp_all; done) | (simp_all; omega)) rfl
              ·
                have hb7' := hb7; try simp only [sumB, Bool.not_eq_true', Bool.not_eq_false', Bool.or_eq_true, Bool.or_eq_false_iff, Bool.and_eq_true, Bool.and_eq_false_imp, decide_eq_true_eq, decide_eq_false_iff_not, Bool.not_not, Bool.not_true, Bool.not_false] at hb7'
                refine AL.val (Wanted.yes rfl rfl rfl) (g_fieldP rfl rfl Try.underlying75 rfl sz3 (by decide)) rfl rfl ?_
                refine AL.val (Wanted.yes rfl rfl rfl) (g_loadB rfl rfl rfl Try.underlying3 rfl rfl) rfl rfl ?_
                refine AL.val (Wanted.yes rfl rfl rfl) (g_fieldP rfl rfl Try.underlying75 rfl sz3 (by decide)) rfl rfl ?_
                refine AL.val (Wanted.yes rfl rfl rfl) (g_loadB rfl rfl rfl Try.underlying3 rfl rfl) rfl rfl ?_
                refine AL.val (Wanted.yes rfl rfl rfl) (g_binI rfl rfl rfl (wrap_ok (by first | omega | (simp; done) | (simp; omega) | (obtain rfl : e1 = 0 := (by omega); have hp := plain_right hr1; have hq := rightAuth hp.1; omega)))) rfl rfl ?_
                refine AL.val (Wanted.yes rfl rfl rfl) (g_fieldP rfl rfl Try.underlying75 rfl sz3 (by decide)) rfl rfl ?_
                refine AL.val (Wanted.yes rfl rfl rfl) (g_loadB rfl rfl rfl Try.underlying3 rfl rfl) rfl rfl ?_
                refine AL.val (Wanted.yes rfl rfl rfl) (g_binI rfl rfl rfl rfl) rfl rfl ?_
                refine AL.fast 2 rfl ?_
                refine AL.dec (t := 55) rfl (fun hb8 => ?_) (fun hb8 => ?_)
                ·
                  have hb8' := hb8; try simp only [sumB, Bool.not_eq_true', Bool.not_eq_false', Bool.or_eq_true, Bool.or_eq_false_iff, Bool.and_eq_true, Bool.and_eq_false_imp, decide_eq_true_eq, decide_eq_false_iff_not, Bool.not_not, Bool.not_true, Bool.not_false] at hb8'
                  refine AL.fast 29 rfl ?_
                  refine AL.nil ?_
                  refine then_ok ?_
                  exact Weak.popB 53 rfl rfl (by first | (simp [hb6, hb7, hb8]; done) | (simp_all; done) | (exfalso; simp_all; done) | (simp_all; omega)) rfl
                ·
                  have hb8' := hb8; try simp only [sumB, Bool.not_eq_true', Bool.not_eq_false', Bool.or_eq_true, Bool.or_eq_false_iff, Bool.and_eq_true, Bool.and_eq_false_imp, decide_eq_true_eq, decide_eq_false_iff_not, Bool.not_not, Bool.not_true, Bool.not_false] at hb8'
                  refine AL.val (Wanted.yes rfl rfl rfl) (g_fieldP rfl rfl Try.underlying75 rfl sz3 (by decide)) rfl rfl ?_
                  refine AL.val (Wanted.yes rfl rfl rfl) (g_loadB rfl rfl rfl Try.underlying3 rfl rfl) rfl rfl ?_
                  refine AL.val (Wanted.yes rfl rfl rfl) (g_fieldP rfl rfl Try.underlying75 rfl sz3 (by decide)) rfl rfl ?_
                  refine AL.val (Wanted.yes rfl rfl rfl) (g_loadB rfl rfl rfl Try.underlying3 rfl rfl) rfl rfl ?_
                  refine AL.val (Wanted.yes rfl rfl rfl) (g_binI rfl rfl rfl rfl) rfl rfl ?_
                  refine AL.fast 2 rfl ?_
                  refine AL.dec (t := 62) rfl (fun hb9 => ?_) (fun hb9 => ?_)
                  ·
                    have hb9' := hb9; try simp only [sumB, Bool.not_eq_true', Bool.not_eq_false', Bool.or_eq_true, Bool.or_eq_false_iff, Bool.and_eq_true, Bool.and_eq_false_imp, decide_eq_true_eq, decide_eq_false_iff_not, Bool.not_not, Bool.not_true, Bool.not_false] at hb9'
                    refine AL.fast 22 rfl ?_
                    refine AL.nil ?_
                    refine then_ok ?_
                    exact Weak.popB 54 rfl rfl (by first | (simp [hb6, hb7, hb8, hb9]; done) | (simp_all; done) | (exfalso; simp_all; done) | (simp_all; omega)) rfl
                  ·
                    have hb9' := hb9; try simp only [sumB, Bool.not_eq_true', Bool.not_eq_false', Bool.or_eq_true, Bool.or_eq_false_iff, Bool.and_eq_true, Bool.and_eq_false_imp, decide_eq_true_eq, decide_eq_false_iff_not, Bool.not_not, Bool.not_true, Bool.not_false] at hb9'
                    refine AL.val (Wanted.yes rfl rfl rfl) (g_fieldP rfl rfl Try.underlying75 rfl sz3 (by decide)) rfl rfl ?_
                    refine AL.val (Wanted.yes rfl rfl rfl) (g_loadB rfl rfl rfl Try.underlying3 rfl rfl) rfl rfl ?_
                    refine AL.val (Wanted.yes rfl rfl rfl) (g_fieldP rfl rfl Try.underlying75 rfl sz3 (by decide)) rfl rfl ?_
                    refine AL.val (Wanted.yes rfl rfl rfl) (g_loadB rfl rfl rfl Try.underlying3 rfl rfl) rfl rfl ?_
                    refine AL.val (Wanted.yes rfl rfl rfl) (g_binI rfl rfl rfl rfl) rfl rfl ?_
                    refine AL.fast 2 rfl ?_
                    refine AL.dec (t := 69) rfl (fun hb10 => ?_) (fun hb10 => ?_)
                    ·
                      have hb10' := hb10; try simp only [sumB, Bool.not_eq_true', Bool.not_eq_false', Bool.or_eq_true, Bool.or_eq_false_iff, Bool.and_eq_true, Bool.and_eq_false_imp, decide_eq_true_eq, decide_eq_false_iff_not, Bool.not_not, Bool.not_true, Bool.not_false] at hb10'
                      refine AL.fast 15 rfl ?_
                      refine AL.nil ?_
                      refine then_ok ?_
                      exact Weak.popB 55 rfl rfl (by first | (simp [hb6, hb7, hb8, hb9, hb10]; done) | (simp_all; done) | (exfalso; simp_all; done) | (simp_all; omega)) rfl
                    ·
                      have hb10' := hb10; try simp only [sumB, Bool.not_eq_true', Bool.not_eq_false', Bool.or_eq_true, Bool.or_eq_false_iff, Bool.and_eq_true, Bool.and_eq_false_imp, decide_eq_true_eq, decide_eq_false_iff_not, Bool.not_not, Bool.not_true, Bool.not_false] at hb10'
                      refine AL.val (Wanted.yes rfl rfl rfl) (g_fieldP rfl rfl Try.underlying75 rfl sz3 (by decide)) rfl rfl ?_
                      refine AL.val (Wanted.yes rfl rfl rfl) (g_loadB rfl rfl rfl Try.underlying3 rfl rfl) rfl rfl ?_
                      refine AL.val (Wanted.yes rfl rfl rfl) (g_fieldP rfl rfl Try.underlying75 rfl sz3 (by decide)) rfl rfl ?_
                      refine AL.val (Wanted.yes rfl rfl rfl) (g_loadB rfl rfl rfl Try.underlying3 rfl rfl) rfl rfl ?_
                      refine AL.val (Wanted.yes rfl rfl rfl) (g_binI rfl rfl rfl rfl) rfl rfl ?_
                      refine AL.fast 2 rfl ?_
                      refine AL.dec (t := 76) rfl (fun hb11 => ?_) (fun hb11 => ?_)
                      ·
                        have hb11' := hb11; try simp only [sumB, Bool.not_eq_true', Bool.not_eq_false', Bool.or_eq_true, Bool.or_eq_false_iff, Bool.and_eq_true, Bool.and_eq_false_imp, decide_eq_true_eq, decide_eq_false_iff_not, Bool.not_not, Bool.not_true, Bool.not_false] at hb11'
                        refine AL.fast 8 rfl ?_
                        refine AL.nil ?_
                        refine then_ok ?_
                        exact Weak.popB 56 rfl rfl (by first | (simp [hb6, hb7, hb8, hb9, hb10, hb11]; done) | (simp_all; done) | (exfalso; simp_all; done) | (simp_all; omega)) rfl
                      ·
                        have hb11' := hb11; try simp only [sumB, Bool.not_eq_true', Bool.not_eq_false', Bool.or_eq_true, Bool.or_eq_false_iff, Bool.and_eq_true, Bool.and_eq_false_imp, decide_eq_true_eq, decide_eq_false_iff_not, Bool.not_not, Bool.not_true, Bool.not_false] at hb11'
                        refine AL.val (Wanted.yes rfl rfl rfl) (g_fieldP rfl rfl Try.underlying75 rfl sz4 (by decide)) rfl rfl ?_
                        refine AL.val (Wanted.yes rfl rfl rfl) (g_loadB rfl rfl rfl Try.underlying4 rfl rfl) rfl rfl ?_
                        refine AL.fast 1 rfl ?_
                        refine AL.dec (t := 79) rfl (fun hb12 => ?_) (fun hb12 => ?_)
                        ·
                          have hb12' := hb12; try simp only [sumB, Bool.not_eq_true', Bool.not_eq_false', Bool.or_eq_true, Bool.or_eq_false_iff, Bool.and_eq_true, Bool.and_eq_false_imp, decide_eq_true_eq, decide_eq_false_iff_not, Bool.not_not, Bool.not_true, Bool.not_false] at hb12'
                          refine AL.val (Wanted.yes rfl rfl rfl) (g_fieldP rfl rfl Try.underlying75 rfl sz4 (by decide)) rfl rfl ?_
                          refine AL.val (Wanted.yes rfl rfl rfl) (g_loadB rfl rfl rfl Try.underlying4 rfl rfl) rfl rfl ?_
                          refine AL.val (Wanted.yes rfl rfl rfl) (g_notB rfl rfl) rfl rfl ?_
                          refine AL.fast 2 rfl ?_
                          refine AL.nil ?_
                          refine then_ok ?_
                          exact Weak.popB 57 rfl rfl (by first | (simp [hb6, hb7, hb8, hb9, hb10, hb11, hb12]; done) | (simp_all; done) | (exfalso; simp_all; done) | (simp_all; omega)) rfl
                        ·
                          have hb12' := hb12; try simp only [sumB, Bool.not_eq_true', Bool.not_eq_false', Bool.or_eq_true, Bool.or_eq_false_iff, Bool.and_eq_true, Bool.and_eq_false_imp, decide_eq_true_eq, decide_eq_false_iff_not, Bool.not_not, Bool.not_true, Bool.not_false] at hb12'
                          refine AL.fast 5 rfl ?_
                          refine AL.nil ?_
                          refine then_ok ?_
                          exact Weak.popB 57 rfl rfl (by first | (simp [hb6, hb7, hb8, hb9, hb10, hb11, hb12]; done) | (simp_all; done) | (exfalso; simp_all; done) | (simp_all; omega)) rfl
          ·
            refine AC.cond rfl (fun hc13 => ?_) (fun hc13 => ?_)
            ·
              have hc13' := hc13; try simp only [sumB, Bool.not_eq_true', Bool.not_eq_false', Bool.or_eq_true, Bool.or_eq_false_iff, Bool.and_eq_true, Bool.and_eq_false_imp, decide_eq_true_eq, decide_eq_false_iff_not, Bool.not_not, Bool.not_true, Bool.not_false] at hc13'
              refine AC.seq ?_
              refine AC.region ?_
              refine AL.fast 1 rfl ?_
              refine AL.nil ?_
              refine then_ok ?_
              refine AC.ret ?_
              refine then_ret ?_
              refine block_ret ?_
              refine then_ret ?_
              refine then_ret ?_
              refine block_ret ?_
              refine then_ret ?_
              refine retQ_mk (av' := outOf [(.c (cB false))]) (nb' := []) (retQ_ret ⟨[(4, (aB false))], [], 0⟩ [.tmp 4] [(.c (cB false))] (Weak.ren id (⟨by first | rfl | (simp only [AV.map, GV.map, CV.map, AB.map', id]; done) | (congr 3; omega) | (congr 4; omega) | (simp only [List.length_append, List.length_cons, List.length_nil, List.length_set]; rfl),  trivial⟩) (trivial) rfl) rfl ⟨.tmp rfl, trivial⟩ trivial) ?_ ?_
              · exact congrArg aB (show (false) = true by (exfalso; obtain rfl : e1 = 0 := (by omega); obtain ⟨p1, p2, p3, p4, p5, p6, p7, p8, p9⟩ := plain_right hr1; rcases hc13' with hh | ⟨h1, h2⟩; (rw [p1] at hr2; omega); (rw [p5 h1] at h2; cases h2)))
              · rfl
            ·
              have hc13' := hc13; try simp only [sumB, Bool.not_eq_true', Bool.not_eq_false', Bool.or_eq_true, Bool.or_eq_false_iff, Bool.and_eq_true, Bool.and_eq_false_imp, decide_eq_true_eq, decide_eq_false_iff_not, Bool.not_not, Bool.not_true, Bool.not_false] at hc13'
              refine AC.skip ?_
              refine then_ok ?_
              refine AC.seq ?_
              refine AC.region ?_
              refine AL.val (Wanted.plain rfl) (g_loadBs rfl rfl rfl Try.underlying75 rfl sz75 rfl rfl) rfl rfl ?_
              obtain ⟨e3, hr3⟩ : ∃ (e3 : Int), holdAuth b1 = e3 := ⟨_, rfl⟩
              refine AL.call (n' := 3) (h' := [(2, (.box 75 [(cI b1.card), (cI b1.shop), (cI b1.sum), (cI b1.captured), (cI b1.refunded), (cI b1.disputed), (cI b1.till), (cB b1.shut)])), (1, (.box 86 [(cI x1.kind), (cI x1.n)])), (0, (.box 75 [(cI c.card), (cI c.shop), (cI c.sum), (cI c.captured), (cI c.refunded), (cI c.disputed), (cI c.till), (cB c.shut)]))]) (Wanted.plain rfl) (g_call 3 (c_auth_Hold b1 (by first | assumption | omega | rfl | decide) e3 hr3) en61 rfl rfl ⟨⟨_, rfl, .g ⟨.d _, .d _, .d _, .d _, .d _, .d _, .d _, .d _,  trivial⟩⟩,  trivial⟩ trivial trivial rfl rfl rfl rfl) rfl rfl rfl rfl rfl ?_
              refine AL.fast 1 rfl ?_
              refine AL.nil ?_
              refine then_ok ?_
              refine AC.seq ?_
              refine AC.cutB 124 (((((decide (e3 < 0)) || (b1.shut && (decide (¬ e3 = 0)))) || ((!b1.shut) && (decide (¬ e3 = (b1.sum - b1.captured))))) || (decide (b1.captured < c.captured))) || (decide (b1.refunded < c.refunded))) ?_ ?_
              ·
                refine AC.region ?_
                refine AL.fast 1 rfl ?_
                refine AL.val (Wanted.plain rfl) (g_binI rfl rfl rfl rfl) rfl rfl ?_
                refine AL.fast 1 rfl ?_
                refine AL.dec (t := 89) rfl (fun hb14 => ?_) (fun hb14 => ?_)
                ·
                  have hb14' := hb14; try simp only [sumB, Bool.not_eq_true', Bool.not_eq_false', Bool.or_eq_true, Bool.or_eq_false_iff, Bool.and_eq_true, Bool.and_eq_false_imp, decide_eq_true_eq, decide_eq_false_iff_not, Bool.not_not, Bool.not_true, Bool.not_false] at hb14'
                  refine AL.fast 35 rfl ?_
                  refine AL.nil ?_
                  refine then_ok ?_
                  exact Weak.popB 39 rfl rfl (by first | (simp [hb14]; done) | (simp_all; done) | (exfalso; simp_all; done) | (simp_all; omega)) rfl
                ·
                  have hb14' := hb14; try simp only [sumB, Bool.not_eq_true', Bool.not_eq_false', Bool.or_eq_true, Bool.or_eq_false_iff, Bool.and_eq_true, Bool.and_eq_false_imp, decide_eq_true_eq, decide_eq_false_iff_not, Bool.not_not, Bool.not_true, Bool.not_false] at hb14'
                  refine AL.val (Wanted.yes rfl rfl rfl) (g_fieldP rfl rfl Try.underlying75 rfl sz4 (by decide)) rfl rfl ?_
                  refine AL.val (Wanted.yes rfl rfl rfl) (g_loadB rfl rfl rfl Try.underlying4 rfl rfl) rfl rfl ?_
                  refine AL.fast 1 rfl ?_
                  refine AL.dec (t := 92) rfl (fun hb15 => ?_) (fun hb15 => ?_)
                  ·
                    have hb15' := hb15; try simp only [sumB, Bool.not_eq_true', Bool.not_eq_false', Bool.or_eq_true, Bool.or_eq_false_iff, Bool.and_eq_true, Bool.and_eq_false_imp, decide_eq_true_eq, decide_eq_false_iff_not, Bool.not_not, Bool.not_true, Bool.not_false] at hb15'
                    refine AL.fast 1 rfl ?_
                    refine AL.val (Wanted.yes rfl rfl rfl) (g_binI rfl rfl rfl rfl) rfl rfl ?_
                    refine AL.fast 3 rfl ?_
                    refine AL.dec (t := 97) rfl (fun hb16 => ?_) (fun hb16 => ?_)
                    ·
                      have hb16' := hb16; try simp only [sumB, Bool.not_eq_true', Bool.not_eq_false', Bool.or_eq_true, Bool.or_eq_false_iff, Bool.and_eq_true, Bool.and_eq_false_imp, decide_eq_true_eq, decide_eq_false_iff_not, Bool.not_not, Bool.not_true, Bool.not_false] at hb16'
                      refine AL.fast 27 rfl ?_
                      refine AL.nil ?_
                      refine then_ok ?_
                      exact Weak.popB 41 rfl rfl (by first | (simp [hb14, hb15, hb16]; done) | (simp_all; done) | (exfalso; simp_all; done) | (simp_all; omega)) rfl
                    ·
                      have hb16' := hb16; try simp only [sumB, Bool.not_eq_true', Bool.not_eq_false', Bool.or_eq_true, Bool.or_eq_false_iff, Bool.and_eq_true, Bool.and_eq_false_imp, decide_eq_true_eq, decide_eq_false_iff_not, Bool.not_not, Bool.not_true, Bool.not_false] at hb16'
                      refine AL.val (Wanted.yes rfl rfl rfl) (g_fieldP rfl rfl Try.underlying75 rfl sz4 (by decide)) rfl rfl ?_
                      refine AL.val (Wanted.yes rfl rfl rfl) (g_loadB rfl rfl rfl Try.underlying4 rfl rfl) rfl rfl ?_
                      refine AL.val (Wanted.yes rfl rfl rfl) (g_notB rfl rfl) rfl rfl ?_
                      refine AL.fast 1 rfl ?_
                      refine AL.dec (t := 101) rfl (fun hno => by simp [hb15] at hno) (fun _ => ?_)
                      refine AL.fast 10 rfl ?_
                      refine AL.val (Wanted.yes rfl rfl rfl) (g_fieldP rfl rfl Try.underlying75 rfl sz3 (by decide)) rfl rfl ?_
                      refine AL.val (Wanted.yes rfl rfl rfl) (g_loadB rfl rfl rfl Try.underlying3 rfl rfl) rfl rfl ?_
                      refine AL.val (Wanted.yes rfl rfl rfl) (g_fieldP rfl rfl Try.underlying75 rfl sz3 (by decide)) rfl rfl ?_
                      refine AL.val (Wanted.yes rfl rfl rfl) (g_loadB rfl rfl rfl Try.underlying3 rfl rfl) rfl rfl ?_
                      refine AL.val (Wanted.yes rfl rfl rfl) (g_binI rfl rfl rfl rfl) rfl rfl ?_
                      refine AL.fast 2 rfl ?_
                      refine AL.dec (t := 118) rfl (fun hb18 => ?_) (fun hb18 => ?_)
                      ·
                        have hb18' := hb18; try simp only [sumB, Bool.not_eq_true', Bool.not_eq_false', Bool.or_eq_true, Bool.or_eq_false_iff, Bool.and_eq_true, Bool.and_eq_false_imp, decide_eq_true_eq, decide_eq_false_iff_not, Bool.not_not, Bool.not_true, Bool.not_false] at hb18'
                        refine AL.fast 6 rfl ?_
                        refine AL.nil ?_
                        refine then_ok ?_
                        exact Weak.popB 43 rfl rfl (by first | (simp [hb14, hb15, hb16, hb18]; done) | (simp_all; done) | (exfalso; simp_all; done) | (simp_all; omega)) rfl
                      ·
                        have hb18' := hb18; try simp only [sumB, Bool.not_eq_true', Bool.not_eq_false', Bool.or_eq_true, Bool.or_eq_false_iff, Bool.and_eq_true, Bool.and_eq_false_imp, decide_eq_true_eq, decide_eq_false_iff_not, Bool.not_not, Bool.not_true, Bool.not_false] at hb18'
                        refine AL.val (Wanted.yes rfl rfl rfl) (g_fieldP rfl rfl Try.underlying75 rfl sz3 (by decide)) rfl rfl ?_
                        refine AL.val (Wanted.yes rfl rfl rfl) (g_loadB rfl rfl rfl Try.underlying3 rfl rfl) rfl rfl ?_
                        refine AL.val (Wanted.yes rfl rfl rfl) (g_fieldP rfl rfl Try.underlying75 rfl sz3 (by decide)) rfl rfl ?_
                        refine AL.val (Wanted.yes rfl rfl rfl) (g_loadB rfl rfl rfl Try.underlying3 rfl rfl) rfl rfl ?_
                        refine AL.val (Wanted.yes rfl rfl rfl) (g_binI rfl rfl rfl rfl) rfl rfl ?_
                        refine AL.fast 1 rfl ?_
                        refine AL.nil ?_
                        refine then_ok ?_
                        exact Weak.popB 43 rfl rfl (by first | (simp [hb14, hb15, hb16, hb18]; done) | (simp_all; done) | (exfalso; simp_all; done) | (simp_all; omega)) rfl
                  ·
                    have hb15' := hb15; try simp only [sumB, Bool.not_eq_true', Bool.not_eq_false', Bool.or_eq_true, Bool.or_eq_false_iff, Bool.and_eq_true, Bool.and_eq_false_imp, decide_eq_true_eq, decide_eq_false_iff_not, Bool.not_not, Bool.not_true, Bool.not_false] at hb15'
                    refine AL.fast 5 rfl ?_
                    refine AL.val (Wanted.yes rfl rfl rfl) (g_fieldP rfl rfl Try.underlying75 rfl sz4 (by decide)) rfl rfl ?_
                    refine AL.val (Wanted.yes rfl rfl rfl) (g_loadB rfl rfl rfl Try.underlying4 rfl rfl) rfl rfl ?_
                    refine AL.val (Wanted.yes rfl rfl rfl) (g_notB rfl rfl) rfl rfl ?_
                    refine AL.fast 1 rfl ?_
                    refine AL.dec (t := 101) rfl (fun _ => ?_) (fun hno => by simp [hb15] at hno)
                    refine AL.fast 1 rfl ?_
                    refine AL.val (Wanted.yes rfl rfl rfl) (g_fieldP rfl rfl Try.underlying75 rfl sz3 (by decide)) rfl rfl ?_
                    refine AL.val (Wanted.yes rfl rfl rfl) (g_loadB rfl rfl rfl Try.underlying3 rfl rfl) rfl rfl ?_
                    refine AL.val (Wanted.yes rfl rfl rfl) (g_fieldP rfl rfl Try.underlying75 rfl sz3 (by decide)) rfl rfl ?_
                    refine AL.val (Wanted.yes rfl rfl rfl) (g_loadB rfl rfl rfl Try.underlying3 rfl rfl) rfl rfl ?_
                    refine AL.val (Wanted.yes rfl rfl rfl) (g_binI rfl rfl rfl (wrap_ok (by first | omega | (simp; done) | (simp; omega) | (obtain rfl : e1 = 0 := (by omega); have hp := plain_right hr1; have hq := rightAuth hp.1; omega)))) rfl rfl ?_
                    refine AL.val (Wanted.yes rfl rfl rfl) (g_binI rfl rfl rfl rfl) rfl rfl ?_
                    refine AL.fast 3 rfl ?_
                    refine AL.dec (t := 111) rfl (fun hb20 => ?_) (fun hb20 => ?_)
                    ·
                      have hb20' := hb20; try simp only [sumB, Bool.not_eq_true', Bool.not_eq_false', Bool.or_eq_true, Bool.or_eq_false_iff, Bool.and_eq_true, Bool.and_eq_false_imp, decide_eq_true_eq, decide_eq_false_iff_not, Bool.not_not, Bool.not_true, Bool.not_false] at hb20'
                      refine AL.fast 13 rfl ?_
                      refine AL.nil ?_
                      refine then_ok ?_
                      exact Weak.popB 42 rfl rfl (by first | (simp [hb14, hb15, hb20]; done) | (simp_all; done) | (exfalso; simp_all; done) | (simp_all; omega)) rfl
                    ·
                      have hb20' := hb20; try simp only [sumB, Bool.not_eq_true', Bool.not_eq_false', Bool.or_eq_true, Bool.or_eq_false_iff, Bool.and_eq_true, Bool.and_eq_false_imp, decide_eq_true_eq, decide_eq_false_iff_not, Bool.not_not, Bool.not_true, Bool.not_false] at hb20'
                      refine AL.val (Wanted.yes rfl rfl rfl) (g_fieldP rfl rfl Try.underlying75 rfl sz3 (by decide)) rfl rfl ?_
                      refine AL.val (Wanted.yes rfl rfl rfl) (g_loadB rfl rfl rfl Try.underlying3 rfl rfl) rfl rfl ?_
                      refine AL.val (Wanted.yes rfl rfl rfl) (g_fieldP rfl rfl Try.underlying75 rfl sz3 (by decide)) rfl rfl ?_
                      refine AL.val (Wanted.yes rfl rfl rfl) (g_loadB rfl rfl rfl Try.underlying3 rfl rfl) rfl rfl ?_
                      refine AL.val (Wanted.yes rfl rfl rfl) (g_binI rfl rfl rfl rfl) rfl rfl ?_
                      refine AL.fast 2 rfl ?_
                      refine AL.dec (t := 118) rfl (fun hb21 => ?_) (fun hb21 => ?_)
                      ·
                        have hb21' := hb21; try simp only [sumB, Bool.not_eq_true', Bool.not_eq_false', Bool.or_eq_true, Bool.or_eq_false_iff, Bool.and_eq_true, Bool.and_eq_false_imp, decide_eq_true_eq, decide_eq_false_iff_not, Bool.not_not, Bool.not_true, Bool.not_false] at hb21'
                        refine AL.fast 6 rfl ?_
                        refine AL.nil ?_
                        refine then_ok ?_
                        exact Weak.popB 43 rfl rfl (by first | (simp [hb14, hb15, hb20, hb21]; done) | (simp_all; done) | (exfalso; simp_all; done) | (simp_all; omega)) rfl
                      ·
                        have hb21' := hb21; try simp only [sumB, Bool.not_eq_true', Bool.not_eq_false', Bool.or_eq_true, Bool.or_eq_false_iff, Bool.and_eq_true, Bool.and_eq_false_imp, decide_eq_true_eq, decide_eq_false_iff_not, Bool.not_not, Bool.not_true, Bool.not_false] at hb21'
                        refine AL.val (Wanted.yes rfl rfl rfl) (g_fieldP rfl rfl Try.underlying75 rfl sz3 (by decide)) rfl rfl ?_
                        refine AL.val (Wanted.yes rfl rfl rfl) (g_loadB rfl rfl rfl Try.underlying3 rfl rfl) rfl rfl ?_
                        refine AL.val (Wanted.yes rfl rfl rfl) (g_fieldP rfl rfl Try.underlying75 rfl sz3 (by decide)) rfl rfl ?_
                        refine AL.val (Wanted.yes rfl rfl rfl) (g_loadB rfl rfl rfl Try.underlying3 rfl rfl) rfl rfl ?_
                        refine AL.val (Wanted.yes rfl rfl rfl) (g_binI rfl rfl rfl rfl) rfl rfl ?_
                        refine AL.fast 1 rfl ?_
                        refine AL.nil ?_
                        refine then_ok ?_
                        exact Weak.popB 43 rfl rfl (by first | (simp [hb14, hb15, hb20, hb21]; done) | (simp_all; done) | (exfalso; simp_all; done) | (simp_all; omega)) rfl
              ·
                refine AC.cond rfl (fun hc22 => ?_) (fun hc22 => ?_)
                ·
                  have hc22' := hc22; try simp only [sumB, Bool.not_eq_true', Bool.not_eq_false', Bool.or_eq_true, Bool.or_eq_false_iff, Bool.and_eq_true, Bool.and_eq_false_imp, decide_eq_true_eq, decide_eq_false_iff_not, Bool.not_not, Bool.not_true, Bool.not_false] at hc22'
                  refine AC.seq ?_
                  refine AC.region ?_
                  refine AL.fast 1 rfl ?_
                  refine AL.nil ?_
                  refine then_ok ?_
                  refine AC.ret ?_
                  refine then_ret ?_
                  refine block_ret ?_
                  refine then_ret ?_
                  refine then_ret ?_
                  refine block_ret ?_
                  refine then_ret ?_
                  refine retQ_mk (av' := outOf [(.c (cB false))]) (nb' := []) (retQ_ret ⟨[(4, (aB false))], [], 0⟩ [.tmp 4] [(.c (cB false))] (Weak.ren id (⟨by first | rfl | (simp only [AV.map, GV.map, CV.map, AB.map', id]; done) | (congr 3; omega) | (congr 4; omega) | (simp only [List.length_append, List.length_cons, List.length_nil, List.length_set]; rfl),  trivial⟩) (trivial) rfl) rfl ⟨.tmp rfl, trivial⟩ trivial) ?_ ?_
                  · exact congrArg aB (show (false) = true by (exfalso; obtain rfl : e1 = 0 := (by omega); obtain ⟨p1, p2, p3, p4, p5, p6, p7, p8, p9⟩ := plain_right hr1; unfold holdAuth at hr3; rcases hS : b1.shut <;> simp [hS] at hr3 hc22' <;> omega))
                  · rfl
                ·
                  have hc22' := hc22; try simp only [sumB, Bool.not_eq_true', Bool.not_eq_false', Bool.or_eq_true, Bool.or_eq_false_iff, Bool.and_eq_true, Bool.and_eq_false_imp, decide_eq_true_eq, decide_eq_false_iff_not, Bool.not_not, Bool.not_true, Bool.not_false] at hc22'
                  refine AC.skip ?_
                  refine then_ok ?_
                  refine AC.region ?_
                  refine AL.val (Wanted.plain rfl) (g_loadBs rfl rfl rfl Try.underlying75 rfl sz75 rfl rfl) rfl rfl ?_
                  refine AL.sto (h' := [(2, (.box 75 [(cI b1.card), (cI b1.shop), (cI b1.sum), (cI b1.captured), (cI b1.refunded), (cI b1.disputed), (cI b1.till), (cB b1.shut)])), (1, (.box 86 [(cI x1.kind), (cI x1.n)])), (0, (.box 75 [(cI b1.card), (cI b1.shop), (cI b1.sum), (cI b1.captured), (cI b1.refunded), (cI b1.disputed), (cI b1.till), (cB b1.shut)]))]) (Wanted.plain rfl) (g_storeB rfl rfl rfl rfl rfl sz75 rfl (Nat.le_of_ble_eq_true rfl) rfl) rfl rfl rfl rfl ?_
                  refine AL.nil ?_
                  refine block_ok ?_
                  refine then_ok ?_
                  refine AC.region ?_
                  refine AL.val (Wanted.plain rfl) (g_binI rfl rfl rfl (wrap_ok (by first | omega | (simp; done) | (simp; omega) | (obtain rfl : e1 = 0 := (by omega); have hp := plain_right hr1; have hq := rightAuth hp.1; omega)))) rfl rfl ?_
                  refine AL.fast 1 rfl ?_
                  refine AL.nil ?_
                  refine then_ok ?_
                  refine ⟨(q + 1, b1), ⟨by omega, by first | assumption | omega⟩, by first | omega | (simp; done) | (simp; omega), Weak.ren id (⟨by first | rfl | (simp only [AV.map, GV.map, CV.map, AB.map', id]; done) | (congr 3; omega) | (congr 4; omega) | (simp only [List.length_append, List.length_cons, List.length_nil, List.length_set]; rfl), by first | rfl | (simp only [AV.map, GV.map, CV.map, AB.map', id]; done) | (congr 3; omega) | (congr 4; omega) | (simp only [List.length_append, List.length_cons, List.length_nil, List.length_set]; rfl), by first | rfl | (simp only [AV.map, GV.map, CV.map, AB.map', id]; done) | (congr 3; omega) | (congr 4; omega) | (simp only [List.length_append, List.length_cons, List.length_nil, List.length_set]; rfl), by first | rfl | (simp only [AV.map, GV.map, CV.map, AB.map', id]; done) | (congr 3; omega) | (congr 4; omega) | (simp only [List.length_append, List.length_cons, List.length_nil, List.length_set]; rfl),  trivial⟩) (⟨by first | rfl | (simp only [AV.map, GV.map, CV.map, AB.map', id]; done) | (congr 3; omega) | (congr 4; omega) | (simp only [List.length_append, List.length_cons, List.length_nil, List.length_set]; rfl),  trivial⟩) rfl⟩
      ·
        have hc3' := hc3; try simp only [sumB, Bool.not_eq_true', Bool.not_eq_false', Bool.or_eq_true, Bool.or_eq_false_iff, Bool.and_eq_true, Bool.and_eq_false_imp, decide_eq_true_eq, decide_eq_false_iff_not, Bool.not_not, Bool.not_true, Bool.not_false] at hc3'
        refine AC.exit ?_
        refine then_exit ?_
        refine then_exit ?_
        refine block_hit ?_
        refine then_ok ?_
        refine AC.seq ?_
        refine AC.region ?_
        refine AL.fast 1 rfl ?_
        refine AL.nil ?_
        refine then_ok ?_
        refine AC.ret ?_
        refine retQ_mk (av' := outOf [(.c (cB true))]) (nb' := []) (retQ_ret ⟨[(4, (aB true))], [], 0⟩ [.tmp 4] [(.c (cB true))] (Weak.ren id (⟨by first | rfl | (simp only [AV.map, GV.map, CV.map, AB.map', id]; done) | (congr 3; omega) | (congr 4; omega) | (simp only [List.length_append, List.length_cons, List.length_nil, List.length_set]; rfl),  trivial⟩) (trivial) rfl) rfl ⟨.tmp rfl, trivial⟩ trivial) ?_ ?_
        · rfl
        · rfl
end Go.Proofs.Ytgmcdlfmifijlaa.Dev
