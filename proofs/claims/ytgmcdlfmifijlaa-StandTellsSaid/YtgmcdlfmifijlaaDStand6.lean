/- payref1.Give. -/
import Derived.Test.YtgmcdlfmifijlaaDStand5
set_option linter.unusedVariables false
set_option linter.unusedSimpArgs false
namespace Go.Proofs.Ytgmcdlfmifijlaa.Dev
open Go.RowKit

set_option maxRecDepth 100000 in
set_option maxHeartbeats 1000000 in
theorem c_ref_Give (s : Stand) (a : Advice) (x : Stand) (e : Int) (hr : giveStand s a = (x, e)) : Fn Try.prog 36 [(.g [(cI s.cap), (cR 1 ((s.used).map rI)), (cR 4 ((s.advices).map rAdvice))]), (.g [(cI a.card), (cI a.shop), (cI a.sum), (cI a.time)])] (.t [(.g [(cI x.cap), (.s 0 0 1 x.used.length), (.s 1 0 4 x.advices.length)]), (.c (cI e))]) [(0, (.arr 3 1 ((x.used).map rI))), (1, (.arr 32 4 ((x.advices).map rAdvice)))] := by
  refine Fn.mk' 102 [(0, (aG [(cI s.cap), (cR 1 ((s.used).map rI)), (cR 4 ((s.advices).map rAdvice))])), (1, (aG [(cI a.card), (cI a.shop), (cI a.sum), (cI a.time)]))] Try.func36 rfl rfl rfl rfl ?_
  intro W0 T0
  refine AC.lenG 0 1 rfl rfl (fun hlen0_1 => ?_)
  refine AC.lenG 0 2 rfl rfl (fun hlen0_2 => ?_)
  have hub := @used_bound s
  have hrp := @right_parts s
  refine AC.seq ?_
  refine AC.region ?_
  refine AL.new (n' := 1) (Wanted.plain rfl) (g_boxS 0 rfl rfl) rfl rfl rfl ?_
  refine AL.new (n' := 2) (Wanted.plain rfl) (g_boxS 1 rfl rfl) rfl rfl rfl ?_
  refine AL.new (n' := 3) (Wanted.plain rfl) (g_alloc 2 rfl zv26 rfl rfl rfl) rfl rfl rfl ?_
  refine AL.fast 1 rfl ?_
  refine AL.nil ?_
  refine then_ok ?_
  refine AC.seq ?_
  refine AC.seq ?_
  refine AC.region ?_
  refine AL.val (Wanted.plain rfl) (g_loadBs rfl rfl rfl Try.underlying26 rfl sz26 rfl rfl) rfl rfl ?_
  obtain ⟨e0, hr0⟩ : ∃ (e0 : Int), wrongStand s = e0 := ⟨_, rfl⟩
  refine AL.call (n' := 3) (h' := [(2, (.box 26 [(cI 0), cN, cN])), (1, (.box 32 [(cI a.card), (cI a.shop), (cI a.sum), (cI a.time)])), (0, (.box 26 [(cI s.cap), (cR 1 ((s.used).map rI)), (cR 4 ((s.advices).map rAdvice))]))]) (Wanted.plain rfl) (g_call 3 (c_ref_WrongStand s  e0 hr0) en35 rfl rfl ⟨⟨_, rfl, .g ⟨.d _, .d _, .d _,  trivial⟩⟩,  trivial⟩ trivial trivial rfl rfl rfl rfl) rfl rfl rfl rfl rfl ?_
  refine AL.fast 1 rfl ?_
  refine AL.nil ?_
  refine then_ok ?_
  refine AC.seq ?_
  refine AC.region ?_
  refine AL.fast 1 rfl ?_
  refine AL.val (Wanted.plain rfl) (g_binI rfl rfl rfl rfl) rfl rfl ?_
  refine AL.nil ?_
  refine then_ok ?_
  refine AC.cond rfl (fun hc1 => ?_) (fun hc1 => ?_)
  ·
    have hc1' := hc1; try simp only [Bool.not_eq_true', Bool.not_eq_false', Bool.or_eq_true, Bool.or_eq_false_iff, Bool.and_eq_true, Bool.and_eq_false_imp, decide_eq_true_eq, decide_eq_false_iff_not, Bool.not_not, Bool.not_true, Bool.not_false] at hc1'
    refine AC.seq ?_
    refine AC.region ?_
    refine AL.val (Wanted.plain rfl) (g_build (ys := []) rfl bld26 rfl trivial rfl rfl) rfl rfl ?_
    refine AL.fast 1 rfl ?_
    refine AL.sto (h' := [(2, (.box 26 [(cI 0), cN, cN])), (1, (.box 32 [(cI a.card), (cI a.shop), (cI a.sum), (cI a.time)])), (0, (.box 26 [(cI s.cap), (cR 1 ((s.used).map rI)), (cR 4 ((s.advices).map rAdvice))]))]) (Wanted.plain rfl) (g_storeB rfl rfl rfl rfl rfl sz26 rfl (Nat.le_of_ble_eq_true rfl) rfl) rfl rfl rfl rfl ?_
    refine AL.fast 1 rfl ?_
    refine AL.nil ?_
    refine then_ok ?_
    refine AC.ret ?_
    refine then_ret ?_
    refine retQ_weak (Weak.nilB (n' := 4) (h' := [(3, (.arr 3 1 ((([] : List Int)).map rI))), (2, (.box 26 [(cI 0), (.s 3 0 1 0), cN])), (1, (.box 32 [(cI a.card), (cI a.shop), (cI a.sum), (cI a.time)])), (0, (.box 26 [(cI s.cap), (cR 1 ((s.used).map rI)), (cR 4 ((s.advices).map rAdvice))]))]) 2 1 3 1 26 (by decide) rfl rfl rfl rfl rfl) ?_
    refine retQ_weak (Weak.nilB (n' := 5) (h' := [(4, (.arr 32 4 ((([] : List Advice)).map rAdvice))), (3, (.arr 3 1 ((([] : List Int)).map rI))), (2, (.box 26 [(cI 0), (.s 3 0 1 0), (.s 4 0 4 0)])), (1, (.box 32 [(cI a.card), (cI a.shop), (cI a.sum), (cI a.time)])), (0, (.box 26 [(cI s.cap), (cR 1 ((s.used).map rI)), (cR 4 ((s.advices).map rAdvice))]))]) 2 2 32 4 26 (by decide) rfl rfl rfl rfl rfl) ?_
    have hX : giveStand s a = ((⟨0, ([] : List Int), ([] : List Advice)⟩ : Stand), e0) := by
      rw [give_wrong (by omega), hr0]; rfl
    rw [hX] at hr; clear hX
    simp only [Prod.mk.injEq] at hr; obtain ⟨rfl, rfl⟩ := hr
    refine retQ_mk (av' := outOf [(.g [(cI 0), (.s 0 0 1 0), (.s 1 0 4 0)]), (.c (cI e0))]) (nb' := [(0, (.arr 3 1 ((([] : List Int)).map rI))), (1, (.arr 32 4 ((([] : List Advice)).map rAdvice)))]) (retQ_ret ⟨[(4, (aC (.p 2 0 0 0))), (5, (aI e0))], [(1, (.arr 32 4 ((([] : List Advice)).map rAdvice))), (0, (.arr 3 1 ((([] : List Int)).map rI))), (2, (.box 26 [(cI 0), (.s 0 0 1 0), (.s 1 0 4 0)]))], 3⟩ [.cell 4 26, .tmp 5] [(.g [(cI 0), (.s 0 0 1 0), (.s 1 0 4 0)]), (.c (cI e0))] (Weak.ren (fun k => if k = 0 then 3 else if k = 1 then 4 else if k = 2 then 2 else k) (⟨by first | rfl | (simp only [AV.map, GV.map, CV.map, AB.map', id]; done) | (congr 3; omega) | (congr 4; omega), by first | rfl | (simp only [AV.map, GV.map, CV.map, AB.map', id]; done) | (congr 3; omega) | (congr 4; omega),  trivial⟩) (⟨by first | rfl | (simp only [AV.map, GV.map, CV.map, AB.map', id]; done) | (congr 3; omega) | (congr 4; omega), by first | rfl | (simp only [AV.map, GV.map, CV.map, AB.map', id]; done) | (congr 3; omega) | (congr 4; omega), by first | rfl | (simp only [AV.map, GV.map, CV.map, AB.map', id]; done) | (congr 3; omega) | (congr 4; omega),  trivial⟩) rfl) rfl ⟨.agg rfl rfl (fun _ => run_isAgg Try.underlying26) sz26, .tmp rfl, trivial⟩ ⟨by first | rfl | (simp only [AV.map, GV.map, CV.map, AB.map', id]; done) | (congr 3; omega) | (congr 4; omega), by first | rfl | (simp only [AV.map, GV.map, CV.map, AB.map', id]; done) | (congr 3; omega) | (congr 4; omega),  trivial⟩) ?_ ?_
    · first | rfl | (simp [outOf, aC]; done)
    · first | rfl | (simp; done)
  ·
    have hc1' := hc1; try simp only [Bool.not_eq_true', Bool.not_eq_false', Bool.or_eq_true, Bool.or_eq_false_iff, Bool.and_eq_true, Bool.and_eq_false_imp, decide_eq_true_eq, decide_eq_false_iff_not, Bool.not_not, Bool.not_true, Bool.not_false] at hc1'
    refine AC.skip ?_
    refine then_ok ?_
    refine AC.seq ?_
    refine AC.seq ?_
    refine AC.region ?_
    refine AL.val (Wanted.plain rfl) (g_fieldP rfl rfl Try.underlying26 rfl sz22 (by decide)) rfl rfl ?_
    refine AL.val (Wanted.plain rfl) (g_loadB rfl rfl rfl Try.underlying22 rfl rfl) rfl rfl ?_
    refine AL.val (Wanted.plain rfl) (g_lenM rfl rfl rfl rfl rfl Try.underlying22) rfl rfl ?_
    refine AL.val (Wanted.plain rfl) (g_binI rfl rfl rfl rfl) rfl rfl ?_
    refine AL.nil ?_
    refine then_ok ?_
    refine AC.cond rfl (fun hc2 => ?_) (fun hc2 => ?_)
    ·
      have hc2' := hc2; try simp only [Bool.not_eq_true', Bool.not_eq_false', Bool.or_eq_true, Bool.or_eq_false_iff, Bool.and_eq_true, Bool.and_eq_false_imp, decide_eq_true_eq, decide_eq_false_iff_not, Bool.not_not, Bool.not_true, Bool.not_false] at hc2'
      refine AC.seq ?_
      refine AC.region ?_
      refine AL.val (Wanted.plain rfl) (g_build (ys := []) rfl bld26 rfl trivial rfl rfl) rfl rfl ?_
      refine AL.sto (h' := [(2, (.box 26 [(cI 0), cN, cN])), (1, (.box 32 [(cI a.card), (cI a.shop), (cI a.sum), (cI a.time)])), (0, (.box 26 [(cI s.cap), (cR 1 ((s.used).map rI)), (cR 4 ((s.advices).map rAdvice))]))]) (Wanted.plain rfl) (g_storeB rfl rfl rfl rfl rfl sz26 rfl (Nat.le_of_ble_eq_true rfl) rfl) rfl rfl rfl rfl ?_
      refine AL.fast 1 rfl ?_
      refine AL.nil ?_
      refine then_ok ?_
      refine AC.ret ?_
      refine then_ret ?_
      refine retQ_weak (Weak.nilB (n' := 4) (h' := [(3, (.arr 3 1 ((([] : List Int)).map rI))), (2, (.box 26 [(cI 0), (.s 3 0 1 0), cN])), (1, (.box 32 [(cI a.card), (cI a.shop), (cI a.sum), (cI a.time)])), (0, (.box 26 [(cI s.cap), (cR 1 ((s.used).map rI)), (cR 4 ((s.advices).map rAdvice))]))]) 2 1 3 1 26 (by decide) rfl rfl rfl rfl rfl) ?_
      refine retQ_weak (Weak.nilB (n' := 5) (h' := [(4, (.arr 32 4 ((([] : List Advice)).map rAdvice))), (3, (.arr 3 1 ((([] : List Int)).map rI))), (2, (.box 26 [(cI 0), (.s 3 0 1 0), (.s 4 0 4 0)])), (1, (.box 32 [(cI a.card), (cI a.shop), (cI a.sum), (cI a.time)])), (0, (.box 26 [(cI s.cap), (cR 1 ((s.used).map rI)), (cR 4 ((s.advices).map rAdvice))]))]) 2 2 32 4 26 (by decide) rfl rfl rfl rfl rfl) ?_
      have hX : giveStand s a = ((⟨0, ([] : List Int), ([] : List Advice)⟩ : Stand), 5) := by
        unfold giveStand; rw [if_neg (by omega), if_pos (by omega)]; rfl
      rw [hX] at hr; clear hX
      simp only [Prod.mk.injEq] at hr; obtain ⟨rfl, rfl⟩ := hr
      refine retQ_mk (av' := outOf [(.g [(cI 0), (.s 0 0 1 0), (.s 1 0 4 0)]), (.c (cI 5))]) (nb' := [(0, (.arr 3 1 ((([] : List Int)).map rI))), (1, (.arr 32 4 ((([] : List Advice)).map rAdvice)))]) (retQ_ret ⟨[(4, (aC (.p 2 0 0 0))), (5, (aI 5))], [(1, (.arr 32 4 ((([] : List Advice)).map rAdvice))), (0, (.arr 3 1 ((([] : List Int)).map rI))), (2, (.box 26 [(cI 0), (.s 0 0 1 0), (.s 1 0 4 0)]))], 3⟩ [.cell 4 26, .tmp 5] [(.g [(cI 0), (.s 0 0 1 0), (.s 1 0 4 0)]), (.c (cI 5))] (Weak.ren (fun k => if k = 0 then 3 else if k = 1 then 4 else if k = 2 then 2 else k) (⟨by first | rfl | (simp only [AV.map, GV.map, CV.map, AB.map', id]; done) | (congr 3; omega) | (congr 4; omega), by first | rfl | (simp only [AV.map, GV.map, CV.map, AB.map', id]; done) | (congr 3; omega) | (congr 4; omega),  trivial⟩) (⟨by first | rfl | (simp only [AV.map, GV.map, CV.map, AB.map', id]; done) | (congr 3; omega) | (congr 4; omega), by first | rfl | (simp only [AV.map, GV.map, CV.map, AB.map', id]; done) | (congr 3; omega) | (congr 4; omega), by first | rfl | (simp only [AV.map, GV.map, CV.map, AB.map', id]; done) | (congr 3; omega) | (congr 4; omega),  trivial⟩) rfl) rfl ⟨.agg rfl rfl (fun _ => run_isAgg Try.underlying26) sz26, .tmp rfl, trivial⟩ ⟨by first | rfl | (simp only [AV.map, GV.map, CV.map, AB.map', id]; done) | (congr 3; omega) | (congr 4; omega), by first | rfl | (simp only [AV.map, GV.map, CV.map, AB.map', id]; done) | (congr 3; omega) | (congr 4; omega),  trivial⟩) ?_ ?_
      · first | rfl | (simp [outOf, aC]; done)
      · first | rfl | (simp; done)
    ·
      have hc2' := hc2; try simp only [Bool.not_eq_true', Bool.not_eq_false', Bool.or_eq_true, Bool.or_eq_false_iff, Bool.and_eq_true, Bool.and_eq_false_imp, decide_eq_true_eq, decide_eq_false_iff_not, Bool.not_not, Bool.not_true, Bool.not_false] at hc2'
      refine AC.skip ?_
      refine then_ok ?_
      refine AC.seq ?_
      refine AC.cutB 59 ((((((((decide (a.card < 0)) || (decide (a.card ≥ (↑s.used.length : Int)))) || (decide (a.shop < 0))) || (decide (a.shop > 7))) || (decide (a.sum < 1))) || (!(sumB a.sum))) || (decide (a.time < 0))) || (decide (a.time > 1000000))) ?_ ?_
      ·
        refine AC.region ?_
        refine AL.val (Wanted.plain rfl) (g_fieldP rfl rfl Try.underlying32 rfl sz3 (by decide)) rfl rfl ?_
        refine AL.val (Wanted.plain rfl) (g_loadB rfl rfl rfl Try.underlying3 rfl rfl) rfl rfl ?_
        refine AL.val (Wanted.plain rfl) (g_binI rfl rfl rfl rfl) rfl rfl ?_
        refine AL.fast 1 rfl ?_
        refine AL.dec (t := 21) rfl (fun hb3 => ?_) (fun hb3 => ?_)
        ·
          have hb3' := hb3; try simp only [Bool.not_eq_true', Bool.not_eq_false', Bool.or_eq_true, Bool.or_eq_false_iff, Bool.and_eq_true, Bool.and_eq_false_imp, decide_eq_true_eq, decide_eq_false_iff_not, Bool.not_not, Bool.not_true, Bool.not_false] at hb3'
          refine AL.fast 38 rfl ?_
          refine AL.nil ?_
          refine then_ok ?_
          exact Weak.popB 43 rfl rfl (by simp [hb3]) rfl
        ·
          have hb3' := hb3; try simp only [Bool.not_eq_true', Bool.not_eq_false', Bool.or_eq_true, Bool.or_eq_false_iff, Bool.and_eq_true, Bool.and_eq_false_imp, decide_eq_true_eq, decide_eq_false_iff_not, Bool.not_not, Bool.not_true, Bool.not_false] at hb3'
          refine AL.val (Wanted.yes rfl rfl rfl) (g_fieldP rfl rfl Try.underlying32 rfl sz3 (by decide)) rfl rfl ?_
          refine AL.val (Wanted.yes rfl rfl rfl) (g_loadB rfl rfl rfl Try.underlying3 rfl rfl) rfl rfl ?_
          refine AL.val (Wanted.yes rfl rfl rfl) (g_fieldP rfl rfl Try.underlying26 rfl sz24 (by decide)) rfl rfl ?_
          refine AL.val (Wanted.yes rfl rfl rfl) (g_loadB rfl rfl rfl Try.underlying24 rfl rfl) rfl rfl ?_
          refine AL.val (Wanted.yes rfl rfl rfl) (g_lenM rfl rfl rfl rfl rfl Try.underlying24) rfl rfl ?_
          refine AL.val (Wanted.yes rfl rfl rfl) (g_binI rfl rfl rfl rfl) rfl rfl ?_
          refine AL.fast 2 rfl ?_
          refine AL.dec (t := 29) rfl (fun hb4 => ?_) (fun hb4 => ?_)
          ·
            have hb4' := hb4; try simp only [Bool.not_eq_true', Bool.not_eq_false', Bool.or_eq_true, Bool.or_eq_false_iff, Bool.and_eq_true, Bool.and_eq_false_imp, decide_eq_true_eq, decide_eq_false_iff_not, Bool.not_not, Bool.not_true, Bool.not_false] at hb4'
            refine AL.fast 30 rfl ?_
            refine AL.nil ?_
            refine then_ok ?_
            exact Weak.popB 44 rfl rfl (by simp [hb3, hb4]) rfl
          ·
            have hb4' := hb4; try simp only [Bool.not_eq_true', Bool.not_eq_false', Bool.or_eq_true, Bool.or_eq_false_iff, Bool.and_eq_true, Bool.and_eq_false_imp, decide_eq_true_eq, decide_eq_false_iff_not, Bool.not_not, Bool.not_true, Bool.not_false] at hb4'
            refine AL.val (Wanted.yes rfl rfl rfl) (g_fieldP rfl rfl Try.underlying32 rfl sz3 (by decide)) rfl rfl ?_
            refine AL.val (Wanted.yes rfl rfl rfl) (g_loadB rfl rfl rfl Try.underlying3 rfl rfl) rfl rfl ?_
            refine AL.val (Wanted.yes rfl rfl rfl) (g_binI rfl rfl rfl rfl) rfl rfl ?_
            refine AL.fast 2 rfl ?_
            refine AL.dec (t := 34) rfl (fun hb5 => ?_) (fun hb5 => ?_)
            ·
              have hb5' := hb5; try simp only [Bool.not_eq_true', Bool.not_eq_false', Bool.or_eq_true, Bool.or_eq_false_iff, Bool.and_eq_true, Bool.and_eq_false_imp, decide_eq_true_eq, decide_eq_false_iff_not, Bool.not_not, Bool.not_true, Bool.not_false] at hb5'
              refine AL.fast 25 rfl ?_
              refine AL.nil ?_
              refine then_ok ?_
              exact Weak.popB 45 rfl rfl (by simp [hb3, hb4, hb5]) rfl
            ·
              have hb5' := hb5; try simp only [Bool.not_eq_true', Bool.not_eq_false', Bool.or_eq_true, Bool.or_eq_false_iff, Bool.and_eq_true, Bool.and_eq_false_imp, decide_eq_true_eq, decide_eq_false_iff_not, Bool.not_not, Bool.not_true, Bool.not_false] at hb5'
              refine AL.val (Wanted.yes rfl rfl rfl) (g_fieldP rfl rfl Try.underlying32 rfl sz3 (by decide)) rfl rfl ?_
              refine AL.val (Wanted.yes rfl rfl rfl) (g_loadB rfl rfl rfl Try.underlying3 rfl rfl) rfl rfl ?_
              refine AL.val (Wanted.yes rfl rfl rfl) (g_binI rfl rfl rfl rfl) rfl rfl ?_
              refine AL.fast 2 rfl ?_
              refine AL.dec (t := 39) rfl (fun hb6 => ?_) (fun hb6 => ?_)
              ·
                have hb6' := hb6; try simp only [Bool.not_eq_true', Bool.not_eq_false', Bool.or_eq_true, Bool.or_eq_false_iff, Bool.and_eq_true, Bool.and_eq_false_imp, decide_eq_true_eq, decide_eq_false_iff_not, Bool.not_not, Bool.not_true, Bool.not_false] at hb6'
                refine AL.fast 20 rfl ?_
                refine AL.nil ?_
                refine then_ok ?_
                exact Weak.popB 46 rfl rfl (by simp [hb3, hb4, hb5, hb6]) rfl
              ·
                have hb6' := hb6; try simp only [Bool.not_eq_true', Bool.not_eq_false', Bool.or_eq_true, Bool.or_eq_false_iff, Bool.and_eq_true, Bool.and_eq_false_imp, decide_eq_true_eq, decide_eq_false_iff_not, Bool.not_not, Bool.not_true, Bool.not_false] at hb6'
                refine AL.val (Wanted.yes rfl rfl rfl) (g_fieldP rfl rfl Try.underlying32 rfl sz3 (by decide)) rfl rfl ?_
                refine AL.val (Wanted.yes rfl rfl rfl) (g_loadB rfl rfl rfl Try.underlying3 rfl rfl) rfl rfl ?_
                refine AL.val (Wanted.yes rfl rfl rfl) (g_binI rfl rfl rfl rfl) rfl rfl ?_
                refine AL.fast 2 rfl ?_
                refine AL.dec (t := 44) rfl (fun hb7 => ?_) (fun hb7 => ?_)
                ·
                  have hb7' := hb7; try simp only [Bool.not_eq_true', Bool.not_eq_false', Bool.or_eq_true, Bool.or_eq_false_iff, Bool.and_eq_true, Bool.and_eq_false_imp, decide_eq_true_eq, decide_eq_false_iff_not, Bool.not_not, Bool.not_true, Bool.not_false] at hb7'
                  refine AL.fast 15 rfl ?_
                  refine AL.nil ?_
                  refine then_ok ?_
                  exact Weak.popB 47 rfl rfl (by simp [hb3, hb4, hb5, hb6, hb7]) rfl
                ·
                  have hb7' := hb7; try simp only [Bool.not_eq_true', Bool.not_eq_false', Bool.or_eq_true, Bool.or_eq_false_iff, Bool.and_eq_true, Bool.and_eq_false_imp, decide_eq_true_eq, decide_eq_false_iff_not, Bool.not_not, Bool.not_true, Bool.not_false] at hb7'
                  refine AL.val (Wanted.yes rfl rfl rfl) (g_fieldP rfl rfl Try.underlying32 rfl sz3 (by decide)) rfl rfl ?_
                  refine AL.val (Wanted.yes rfl rfl rfl) (g_loadB rfl rfl rfl Try.underlying3 rfl rfl) rfl rfl ?_
                  refine AL.call (n' := 3) (h' := [(2, (.box 26 [(cI 0), cN, cN])), (1, (.box 32 [(cI a.card), (cI a.shop), (cI a.sum), (cI a.time)])), (0, (.box 26 [(cI s.cap), (cR 1 ((s.used).map rI)), (cR 4 ((s.advices).map rAdvice))]))]) (Wanted.yes rfl rfl rfl) (g_call 3 (c_sum a.sum  ) en103 rfl rfl ⟨⟨_, rfl, .c (.d _)⟩,  trivial⟩ trivial trivial rfl rfl rfl rfl) rfl rfl rfl rfl rfl ?_
                  refine AL.val (Wanted.yes rfl rfl rfl) (g_notB rfl rfl) rfl rfl ?_
                  refine AL.fast 2 rfl ?_
                  refine AL.dec (t := 50) rfl (fun hb8 => ?_) (fun hb8 => ?_)
                  ·
                    have hb8' := hb8; try simp only [Bool.not_eq_true', Bool.not_eq_false', Bool.or_eq_true, Bool.or_eq_false_iff, Bool.and_eq_true, Bool.and_eq_false_imp, decide_eq_true_eq, decide_eq_false_iff_not, Bool.not_not, Bool.not_true, Bool.not_false] at hb8'
                    refine AL.fast 9 rfl ?_
                    refine AL.nil ?_
                    refine then_ok ?_
                    exact Weak.popB 48 rfl rfl (by simp [hb3, hb4, hb5, hb6, hb7, hb8]) rfl
                  ·
                    have hb8' := hb8; try simp only [Bool.not_eq_true', Bool.not_eq_false', Bool.or_eq_true, Bool.or_eq_false_iff, Bool.and_eq_true, Bool.and_eq_false_imp, decide_eq_true_eq, decide_eq_false_iff_not, Bool.not_not, Bool.not_true, Bool.not_false] at hb8'
                    refine AL.val (Wanted.yes rfl rfl rfl) (g_fieldP rfl rfl Try.underlying32 rfl sz3 (by decide)) rfl rfl ?_
                    refine AL.val (Wanted.yes rfl rfl rfl) (g_loadB rfl rfl rfl Try.underlying3 rfl rfl) rfl rfl ?_
                    refine AL.val (Wanted.yes rfl rfl rfl) (g_binI rfl rfl rfl rfl) rfl rfl ?_
                    refine AL.fast 2 rfl ?_
                    refine AL.dec (t := 55) rfl (fun hb9 => ?_) (fun hb9 => ?_)
                    ·
                      have hb9' := hb9; try simp only [Bool.not_eq_true', Bool.not_eq_false', Bool.or_eq_true, Bool.or_eq_false_iff, Bool.and_eq_true, Bool.and_eq_false_imp, decide_eq_true_eq, decide_eq_false_iff_not, Bool.not_not, Bool.not_true, Bool.not_false] at hb9'
                      refine AL.fast 4 rfl ?_
                      refine AL.nil ?_
                      refine then_ok ?_
                      exact Weak.popB 49 rfl rfl (by simp [hb3, hb4, hb5, hb6, hb7, hb8, hb9]) rfl
                    ·
                      have hb9' := hb9; try simp only [Bool.not_eq_true', Bool.not_eq_false', Bool.or_eq_true, Bool.or_eq_false_iff, Bool.and_eq_true, Bool.and_eq_false_imp, decide_eq_true_eq, decide_eq_false_iff_not, Bool.not_not, Bool.not_true, Bool.not_false] at hb9'
                      refine AL.val (Wanted.yes rfl rfl rfl) (g_fieldP rfl rfl Try.underlying32 rfl sz3 (by decide)) rfl rfl ?_
                      refine AL.val (Wanted.yes rfl rfl rfl) (g_loadB rfl rfl rfl Try.underlying3 rfl rfl) rfl rfl ?_
                      refine AL.val (Wanted.yes rfl rfl rfl) (g_binI rfl rfl rfl rfl) rfl rfl ?_
                      refine AL.fast 1 rfl ?_
                      refine AL.nil ?_
                      refine then_ok ?_
                      exact Weak.popB 49 rfl rfl (by simp [hb3, hb4, hb5, hb6, hb7, hb8, hb9]) rfl
      ·
        refine AC.cond rfl (fun hc10 => ?_) (fun hc10 => ?_)
        ·
          have hc10' := hc10; try simp only [Bool.not_eq_true', Bool.not_eq_false', Bool.or_eq_true, Bool.or_eq_false_iff, Bool.and_eq_true, Bool.and_eq_false_imp, decide_eq_true_eq, decide_eq_false_iff_not, Bool.not_not, Bool.not_true, Bool.not_false] at hc10'
          refine AC.seq ?_
          refine AC.region ?_
          refine AL.val (Wanted.plain rfl) (g_build (ys := []) rfl bld26 rfl trivial rfl rfl) rfl rfl ?_
          refine AL.sto (h' := [(2, (.box 26 [(cI 0), cN, cN])), (1, (.box 32 [(cI a.card), (cI a.shop), (cI a.sum), (cI a.time)])), (0, (.box 26 [(cI s.cap), (cR 1 ((s.used).map rI)), (cR 4 ((s.advices).map rAdvice))]))]) (Wanted.plain rfl) (g_storeB rfl rfl rfl rfl rfl sz26 rfl (Nat.le_of_ble_eq_true rfl) rfl) rfl rfl rfl rfl ?_
          refine AL.fast 1 rfl ?_
          refine AL.nil ?_
          refine then_ok ?_
          refine AC.ret ?_
          refine then_ret ?_
          refine retQ_weak (Weak.nilB (n' := 4) (h' := [(3, (.arr 3 1 ((([] : List Int)).map rI))), (2, (.box 26 [(cI 0), (.s 3 0 1 0), cN])), (1, (.box 32 [(cI a.card), (cI a.shop), (cI a.sum), (cI a.time)])), (0, (.box 26 [(cI s.cap), (cR 1 ((s.used).map rI)), (cR 4 ((s.advices).map rAdvice))]))]) 2 1 3 1 26 (by decide) rfl rfl rfl rfl rfl) ?_
          refine retQ_weak (Weak.nilB (n' := 5) (h' := [(4, (.arr 32 4 ((([] : List Advice)).map rAdvice))), (3, (.arr 3 1 ((([] : List Int)).map rI))), (2, (.box 26 [(cI 0), (.s 3 0 1 0), (.s 4 0 4 0)])), (1, (.box 32 [(cI a.card), (cI a.shop), (cI a.sum), (cI a.time)])), (0, (.box 26 [(cI s.cap), (cR 1 ((s.used).map rI)), (cR 4 ((s.advices).map rAdvice))]))]) 2 2 32 4 26 (by decide) rfl rfl rfl rfl rfl) ?_
          have hX : giveStand s a = ((⟨0, ([] : List Int), ([] : List Advice)⟩ : Stand), 3) := by
            unfold giveStand; rw [if_neg (by omega), if_neg (by omega), if_pos (by simp only [okAdv, decide_eq_true_eq]; simp_all [sumB] <;> omega)]; rfl
          rw [hX] at hr; clear hX
          simp only [Prod.mk.injEq] at hr; obtain ⟨rfl, rfl⟩ := hr
          refine retQ_mk (av' := outOf [(.g [(cI 0), (.s 0 0 1 0), (.s 1 0 4 0)]), (.c (cI 3))]) (nb' := [(0, (.arr 3 1 ((([] : List Int)).map rI))), (1, (.arr 32 4 ((([] : List Advice)).map rAdvice)))]) (retQ_ret ⟨[(4, (aC (.p 2 0 0 0))), (5, (aI 3))], [(1, (.arr 32 4 ((([] : List Advice)).map rAdvice))), (0, (.arr 3 1 ((([] : List Int)).map rI))), (2, (.box 26 [(cI 0), (.s 0 0 1 0), (.s 1 0 4 0)]))], 3⟩ [.cell 4 26, .tmp 5] [(.g [(cI 0), (.s 0 0 1 0), (.s 1 0 4 0)]), (.c (cI 3))] (Weak.ren (fun k => if k = 0 then 3 else if k = 1 then 4 else if k = 2 then 2 else k) (⟨by first | rfl | (simp only [AV.map, GV.map, CV.map, AB.map', id]; done) | (congr 3; omega) | (congr 4; omega), by first | rfl | (simp only [AV.map, GV.map, CV.map, AB.map', id]; done) | (congr 3; omega) | (congr 4; omega),  trivial⟩) (⟨by first | rfl | (simp only [AV.map, GV.map, CV.map, AB.map', id]; done) | (congr 3; omega) | (congr 4; omega), by first | rfl | (simp only [AV.map, GV.map, CV.map, AB.map', id]; done) | (congr 3; omega) | (congr 4; omega), by first | rfl | (simp only [AV.map, GV.map, CV.map, AB.map', id]; done) | (congr 3; omega) | (congr 4; omega),  trivial⟩) rfl) rfl ⟨.agg rfl rfl (fun _ => run_isAgg Try.underlying26) sz26, .tmp rfl, trivial⟩ ⟨by first | rfl | (simp only [AV.map, GV.map, CV.map, AB.map', id]; done) | (congr 3; omega) | (congr 4; omega), by first | rfl | (simp only [AV.map, GV.map, CV.map, AB.map', id]; done) | (congr 3; omega) | (congr 4; omega),  trivial⟩) ?_ ?_
          · first | rfl | (simp [outOf, aC]; done)
          · first | rfl | (simp; done)
        ·
          have hc10' := hc10; try simp only [Bool.not_eq_true', Bool.not_eq_false', Bool.or_eq_true, Bool.or_eq_false_iff, Bool.and_eq_true, Bool.and_eq_false_imp, decide_eq_true_eq, decide_eq_false_iff_not, Bool.not_not, Bool.not_true, Bool.not_false] at hc10'
          refine AC.skip ?_
          refine then_ok ?_
          refine AC.seq ?_
          refine AC.seq ?_
          obtain ⟨x1, hx1⟩ := exget (xs := s.used) (i := Int.toNat (a.card)) (by first | omega | (simp; done) | (simp; omega))
          have hx1b := used_bound (s := s) (by omega) hx1
          have hsb : a.sum ≤ 1000000 := by simp_all [sumB]
          refine AC.weak (st' := ⟨[(2, (aC (.p 0 0 0 0))), (3, (aC (.p 1 0 0 0))), (4, (aC (.p 2 0 0 0))), (5, (aI 0))], [(2, (.box 26 [(cI 0), cN, cN])), (1, (.box 32 [(cI a.card), (cI a.shop), (cI a.sum), (cI a.time)])), (0, (.box 26 [(cI s.cap), (cR 1 ((s.used).map rI)), (cR 4 ((s.advices).map rAdvice))]))], 3⟩) (Weak.ren id (⟨by first | rfl | (simp only [AV.map, GV.map, CV.map, AB.map', id]; done) | (congr 3; omega) | (congr 4; omega), by first | rfl | (simp only [AV.map, GV.map, CV.map, AB.map', id]; done) | (congr 3; omega) | (congr 4; omega), by first | rfl | (simp only [AV.map, GV.map, CV.map, AB.map', id]; done) | (congr 3; omega) | (congr 4; omega), by first | rfl | (simp only [AV.map, GV.map, CV.map, AB.map', id]; done) | (congr 3; omega) | (congr 4; omega),  trivial⟩) (⟨by first | rfl | (simp only [AV.map, GV.map, CV.map, AB.map', id]; done) | (congr 3; omega) | (congr 4; omega), by first | rfl | (simp only [AV.map, GV.map, CV.map, AB.map', id]; done) | (congr 3; omega) | (congr 4; omega), by first | rfl | (simp only [AV.map, GV.map, CV.map, AB.map', id]; done) | (congr 3; omega) | (congr 4; omega),  trivial⟩) rfl) ?_
          refine AC.draw [⟨some 61, (aC (.p 0 0 0 1)), [], [], [], [(2, (aC (.p 0 0 0 0)))], [(0, (.box 26 [(cI s.cap), (cR 1 ((s.used).map rI)), (cR 4 ((s.advices).map rAdvice))]))]⟩,
      ⟨some 62, (aC (cR 1 ((s.used).map rI))), [], [], [0], [(61, (aC (.p 0 0 0 1)))], [(0, (.box 26 [(cI s.cap), (cR 1 ((s.used).map rI)), (cR 4 ((s.advices).map rAdvice))]))]⟩,
      ⟨some 63, (aC (.p 1 0 0 0)), [], [], [], [(3, (aC (.p 1 0 0 0)))], [(1, (.box 32 [(cI a.card), (cI a.shop), (cI a.sum), (cI a.time)]))]⟩,
      ⟨some 64, (aI a.card), [], [], [2], [(63, (aC (.p 1 0 0 0)))], [(1, (.box 32 [(cI a.card), (cI a.shop), (cI a.sum), (cI a.time)]))]⟩,
      ⟨some 65, (aC (.q (rI x1) 0)), [], [], [1, 3], [(62, (aC (cR 1 ((s.used).map rI)))), (64, (aI a.card))], []⟩,
      ⟨some 66, (aI x1), [], [], [4], [(65, (aC (.q (rI x1) 0)))], []⟩,
      ⟨some 67, (aC (.p 1 0 0 2)), [], [], [], [(3, (aC (.p 1 0 0 0)))], [(1, (.box 32 [(cI a.card), (cI a.shop), (cI a.sum), (cI a.time)]))]⟩,
      ⟨some 68, (aI a.sum), [], [], [6], [(67, (aC (.p 1 0 0 2)))], [(1, (.box 32 [(cI a.card), (cI a.shop), (cI a.sum), (cI a.time)]))]⟩,
      ⟨some 69, (aI (x1 + a.sum)), [], [], [5, 7], [(66, (aI x1)), (68, (aI a.sum))], []⟩,
      ⟨some 70, (aC (.p 0 0 0 0)), [], [], [], [(2, (aC (.p 0 0 0 0)))], [(0, (.box 26 [(cI s.cap), (cR 1 ((s.used).map rI)), (cR 4 ((s.advices).map rAdvice))]))]⟩,
      ⟨some 71, (aI s.cap), [], [], [9], [(70, (aC (.p 0 0 0 0)))], [(0, (.box 26 [(cI s.cap), (cR 1 ((s.used).map rI)), (cR 4 ((s.advices).map rAdvice))]))]⟩,
      ⟨some 72, (aB (decide ((x1 + a.sum) > s.cap))), [], [], [8, 10], [(69, (aI (x1 + a.sum))), (71, (aI s.cap))], []⟩] ⟨[(2, (aC (.p 0 0 0 0))), (3, (aC (.p 1 0 0 0))), (4, (aC (.p 2 0 0 0))), (5, (aI 0)), (72, (aB (decide ((x1 + a.sum) > s.cap))))], [(2, (.box 26 [(cI 0), cN, cN])), (1, (.box 32 [(cI a.card), (cI a.shop), (cI a.sum), (cI a.time)])), (0, (.box 26 [(cI s.cap), (cR 1 ((s.used).map rI)), (cR 4 ((s.advices).map rAdvice))]))], 3⟩ mixed (by kernel_rfl) ?_ ?_ ?_ ?_
          · exact ⟨.inl ⟨(Wanted.plain rfl), GOp.cast (g_fieldP rfl rfl Try.underlying26 rfl sz24 (by decide)) rfl⟩,
      .inl ⟨(Wanted.plain rfl), GOp.cast (g_loadB rfl rfl rfl Try.underlying24 rfl rfl) rfl⟩,
      .inl ⟨(Wanted.plain rfl), GOp.cast (g_fieldP rfl rfl Try.underlying32 rfl sz3 (by decide)) rfl⟩,
      .inl ⟨(Wanted.plain rfl), GOp.cast (g_loadB rfl rfl rfl Try.underlying3 rfl rfl) rfl⟩,
      .inl ⟨(Wanted.plain rfl), GOp.cast (g_indexQ (i := Int.toNat (a.card)) rfl rfl rfl Try.underlying24 sz3 (by first | omega | (simp; done) | (simp; omega)) (getmap hx1)) rfl⟩,
      .inl ⟨(Wanted.plain rfl), GOp.cast (g_loadQ rfl rfl Try.underlying3 rfl rfl) rfl⟩,
      .inl ⟨(Wanted.plain rfl), GOp.cast (g_fieldP rfl rfl Try.underlying32 rfl sz3 (by decide)) rfl⟩,
      .inl ⟨(Wanted.plain rfl), GOp.cast (g_loadB rfl rfl rfl Try.underlying3 rfl rfl) rfl⟩,
      .inl ⟨(Wanted.plain rfl), GOp.cast (g_binI rfl rfl rfl (wrap_ok (by first | omega | (simp; done) | (simp; omega)))) rfl⟩,
      .inl ⟨(Wanted.plain rfl), GOp.cast (g_fieldP rfl rfl Try.underlying26 rfl sz3 (by decide)) rfl⟩,
      .inl ⟨(Wanted.plain rfl), GOp.cast (g_loadB rfl rfl rfl Try.underlying3 rfl rfl) rfl⟩,
      .inl ⟨(Wanted.plain rfl), GOp.cast (g_binI rfl rfl rfl rfl) rfl⟩,
       trivial⟩
          · exact ⟨⟨⟨.inl rfl,  trivial⟩, ⟨.inl rfl,  trivial⟩⟩, ⟨⟨.inr ⟨0, .head _, _, rfl, rfl, rfl⟩,  trivial⟩, ⟨.inl rfl,  trivial⟩⟩, ⟨⟨.inl rfl,  trivial⟩, ⟨.inl rfl,  trivial⟩⟩, ⟨⟨.inr ⟨2, .head _, _, rfl, rfl, rfl⟩,  trivial⟩, ⟨.inl rfl,  trivial⟩⟩, ⟨⟨.inr ⟨1, .head _, _, rfl, rfl, rfl⟩, .inr ⟨3, .tail _ (.head _), _, rfl, rfl, rfl⟩,  trivial⟩, trivial⟩, ⟨⟨.inr ⟨4, .head _, _, rfl, rfl, rfl⟩,  trivial⟩, trivial⟩, ⟨⟨.inl rfl,  trivial⟩, ⟨.inl rfl,  trivial⟩⟩, ⟨⟨.inr ⟨6, .head _, _, rfl, rfl, rfl⟩,  trivial⟩, ⟨.inl rfl,  trivial⟩⟩, ⟨⟨.inr ⟨5, .head _, _, rfl, rfl, rfl⟩, .inr ⟨7, .tail _ (.head _), _, rfl, rfl, rfl⟩,  trivial⟩, trivial⟩, ⟨⟨.inl rfl,  trivial⟩, ⟨.inl rfl,  trivial⟩⟩, ⟨⟨.inr ⟨9, .head _, _, rfl, rfl, rfl⟩,  trivial⟩, ⟨.inl rfl,  trivial⟩⟩, ⟨⟨.inr ⟨8, .head _, _, rfl, rfl, rfl⟩, .inr ⟨10, .tail _ (.head _), _, rfl, rfl, rfl⟩,  trivial⟩, trivial⟩,  trivial⟩
          · exact ⟨⟨.inl rfl, .inl rfl, .inl rfl, .inl rfl, .inr ⟨11, _, rfl, rfl, rfl⟩,  trivial⟩, ⟨.inl rfl, .inl rfl, .inl rfl,  trivial⟩⟩
          ·
            refine AL.nil ?_
            refine then_ok ?_
            refine AC.cond rfl (fun hc11 => ?_) (fun hc11 => ?_)
            ·
              have hc11' := hc11; try simp only [Bool.not_eq_true', Bool.not_eq_false', Bool.or_eq_true, Bool.or_eq_false_iff, Bool.and_eq_true, Bool.and_eq_false_imp, decide_eq_true_eq, decide_eq_false_iff_not, Bool.not_not, Bool.not_true, Bool.not_false] at hc11'
              refine AC.seq ?_
              refine AC.region ?_
              refine AL.val (Wanted.plain rfl) (g_build (ys := []) rfl bld26 rfl trivial rfl rfl) rfl rfl ?_
              refine AL.sto (h' := [(2, (.box 26 [(cI 0), cN, cN])), (1, (.box 32 [(cI a.card), (cI a.shop), (cI a.sum), (cI a.time)])), (0, (.box 26 [(cI s.cap), (cR 1 ((s.used).map rI)), (cR 4 ((s.advices).map rAdvice))]))]) (Wanted.plain rfl) (g_storeB rfl rfl rfl rfl rfl sz26 rfl (Nat.le_of_ble_eq_true rfl) rfl) rfl rfl rfl rfl ?_
              refine AL.fast 1 rfl ?_
              refine AL.nil ?_
              refine then_ok ?_
              refine AC.ret ?_
              refine then_ret ?_
              refine retQ_weak (Weak.nilB (n' := 4) (h' := [(3, (.arr 3 1 ((([] : List Int)).map rI))), (2, (.box 26 [(cI 0), (.s 3 0 1 0), cN])), (1, (.box 32 [(cI a.card), (cI a.shop), (cI a.sum), (cI a.time)])), (0, (.box 26 [(cI s.cap), (cR 1 ((s.used).map rI)), (cR 4 ((s.advices).map rAdvice))]))]) 2 1 3 1 26 (by decide) rfl rfl rfl rfl rfl) ?_
              refine retQ_weak (Weak.nilB (n' := 5) (h' := [(4, (.arr 32 4 ((([] : List Advice)).map rAdvice))), (3, (.arr 3 1 ((([] : List Int)).map rI))), (2, (.box 26 [(cI 0), (.s 3 0 1 0), (.s 4 0 4 0)])), (1, (.box 32 [(cI a.card), (cI a.shop), (cI a.sum), (cI a.time)])), (0, (.box 26 [(cI s.cap), (cR 1 ((s.used).map rI)), (cR 4 ((s.advices).map rAdvice))]))]) 2 2 32 4 26 (by decide) rfl rfl rfl rfl rfl) ?_
              have hX : giveStand s a = ((⟨0, ([] : List Int), ([] : List Advice)⟩ : Stand), 10) := by
                have ho : okAdv s.used.length a = true := by (simp only [okAdv, decide_eq_true_eq]; simp_all [sumB] <;> omega)
                have hx : s.used.getD a.card.toNat 0 = x1 := by rw [List.getD_eq_getElem?_getD, hx1]; rfl
                unfold giveStand; rw [if_neg (by omega), if_neg (by omega), if_neg (by simp [ho]), hx, if_pos (by omega)]; rfl
              rw [hX] at hr; clear hX
              simp only [Prod.mk.injEq] at hr; obtain ⟨rfl, rfl⟩ := hr
              refine retQ_mk (av' := outOf [(.g [(cI 0), (.s 0 0 1 0), (.s 1 0 4 0)]), (.c (cI 10))]) (nb' := [(0, (.arr 3 1 ((([] : List Int)).map rI))), (1, (.arr 32 4 ((([] : List Advice)).map rAdvice)))]) (retQ_ret ⟨[(4, (aC (.p 2 0 0 0))), (5, (aI 10))], [(1, (.arr 32 4 ((([] : List Advice)).map rAdvice))), (0, (.arr 3 1 ((([] : List Int)).map rI))), (2, (.box 26 [(cI 0), (.s 0 0 1 0), (.s 1 0 4 0)]))], 3⟩ [.cell 4 26, .tmp 5] [(.g [(cI 0), (.s 0 0 1 0), (.s 1 0 4 0)]), (.c (cI 10))] (Weak.ren (fun k => if k = 0 then 3 else if k = 1 then 4 else if k = 2 then 2 else k) (⟨by first | rfl | (simp only [AV.map, GV.map, CV.map, AB.map', id]; done) | (congr 3; omega) | (congr 4; omega), by first | rfl | (simp only [AV.map, GV.map, CV.map, AB.map', id]; done) | (congr 3; omega) | (congr 4; omega),  trivial⟩) (⟨by first | rfl | (simp only [AV.map, GV.map, CV.map, AB.map', id]; done) | (congr 3; omega) | (congr 4; omega), by first | rfl | (simp only [AV.map, GV.map, CV.map, AB.map', id]; done) | (congr 3; omega) | (congr 4; omega), by first | rfl | (simp only [AV.map, GV.map, CV.map, AB.map', id]; done) | (congr 3; omega) | (congr 4; omega),  trivial⟩) rfl) rfl ⟨.agg rfl rfl (fun _ => run_isAgg Try.underlying26) sz26, .tmp rfl, trivial⟩ ⟨by first | rfl | (simp only [AV.map, GV.map, CV.map, AB.map', id]; done) | (congr 3; omega) | (congr 4; omega), by first | rfl | (simp only [AV.map, GV.map, CV.map, AB.map', id]; done) | (congr 3; omega) | (congr 4; omega),  trivial⟩) ?_ ?_
              · first | rfl | (simp [outOf, aC]; done)
              · first | rfl | (simp; done)
            ·
              have hc11' := hc11; try simp only [Bool.not_eq_true', Bool.not_eq_false', Bool.or_eq_true, Bool.or_eq_false_iff, Bool.and_eq_true, Bool.and_eq_false_imp, decide_eq_true_eq, decide_eq_false_iff_not, Bool.not_not, Bool.not_true, Bool.not_false] at hc11'
              refine AC.skip ?_
              refine then_ok ?_
              refine AC.seq ?_
              refine AC.region ?_
              refine AL.new (n' := 4) (Wanted.plain rfl) (g_lit (ys := []) (rows := (([] : List Int)).map rI) 3 sl24 rfl (by decide) trivial rfl rfl rfl rfl) rfl rfl rfl ?_
              refine AL.val (Wanted.plain rfl) (g_fieldP rfl rfl Try.underlying26 rfl sz24 (by decide)) rfl rfl ?_
              refine AL.val (Wanted.plain rfl) (g_loadB rfl rfl rfl Try.underlying24 rfl rfl) rfl rfl ?_
              refine AL.eat (n' := 5) (h' := [(4, (.arr 3 1 ((s.used).map rI))), (2, (.box 26 [(cI 0), cN, cN])), (1, (.box 32 [(cI a.card), (cI a.shop), (cI a.sum), (cI a.time)])), (0, (.box 26 [(cI s.cap), (cR 1 ((s.used).map rI)), (cR 4 ((s.advices).map rAdvice))]))]) (Wanted.plain rfl) (g_append (m := s.used.length) (N := s.used.length) (k2 := 4) (ys := (s.used).map rI) sl24 rfl rfl rfl rfl rfl rfl (by first | omega | (simp; done) | (simp; omega)) rfl (.d _ _) (by first | omega | (simp; done) | (simp; omega)) (by first | omega | (simp; done) | (simp; omega)) rfl (by decide) (by first | omega | (simp; done) | (simp; omega)) (by first | omega | (simp; done) | (simp; omega))) rfl rfl rfl rfl rfl ?_
              refine AL.val (Wanted.plain rfl) (g_fieldP rfl rfl Try.underlying26 rfl sz24 (by decide)) rfl rfl ?_
              refine AL.sto (h' := [(4, (.arr 3 1 ((s.used).map rI))), (2, (.box 26 [(cI 0), cN, cN])), (1, (.box 32 [(cI a.card), (cI a.shop), (cI a.sum), (cI a.time)])), (0, (.box 26 [(cI s.cap), (.s 4 0 1 s.used.length), (cR 4 ((s.advices).map rAdvice))]))]) (Wanted.plain rfl) (g_storeB rfl rfl rfl rfl rfl sz24 rfl (Nat.le_of_ble_eq_true rfl) rfl) rfl rfl rfl rfl ?_
              refine AL.nil ?_
              refine then_ok ?_
              refine AC.seq ?_
              refine AC.weak (st' := ⟨[(2, (aC (.p 0 0 0 0))), (3, (aC (.p 1 0 0 0))), (4, (aC (.p 2 0 0 0))), (5, (aI 0))], [(4, (.arr 3 1 ((s.used).map rI))), (2, (.box 26 [(cI 0), cN, cN])), (1, (.box 32 [(cI a.card), (cI a.shop), (cI a.sum), (cI a.time)])), (0, (.box 26 [(cI s.cap), (.s 4 0 1 s.used.length), (cR 4 ((s.advices).map rAdvice))]))], 5⟩) (Weak.ren id (⟨by first | rfl | (simp only [AV.map, GV.map, CV.map, AB.map', id]; done) | (congr 3; omega) | (congr 4; omega), by first | rfl | (simp only [AV.map, GV.map, CV.map, AB.map', id]; done) | (congr 3; omega) | (congr 4; omega), by first | rfl | (simp only [AV.map, GV.map, CV.map, AB.map', id]; done) | (congr 3; omega) | (congr 4; omega), by first | rfl | (simp only [AV.map, GV.map, CV.map, AB.map', id]; done) | (congr 3; omega) | (congr 4; omega),  trivial⟩) (⟨by first | rfl | (simp only [AV.map, GV.map, CV.map, AB.map', id]; done) | (congr 3; omega) | (congr 4; omega), by first | rfl | (simp only [AV.map, GV.map, CV.map, AB.map', id]; done) | (congr 3; omega) | (congr 4; omega), by first | rfl | (simp only [AV.map, GV.map, CV.map, AB.map', id]; done) | (congr 3; omega) | (congr 4; omega), by first | rfl | (simp only [AV.map, GV.map, CV.map, AB.map', id]; done) | (congr 3; omega) | (congr 4; omega),  trivial⟩) rfl) ?_
              refine AC.draw [⟨some 79, (aC (.p 0 0 0 1)), [], [], [], [(2, (aC (.p 0 0 0 0)))], [(0, (.box 26 [(cI s.cap), (.s 4 0 1 s.used.length), (cR 4 ((s.advices).map rAdvice))]))]⟩,
      ⟨some 80, (aC (.s 4 0 1 s.used.length)), [], [], [0], [(79, (aC (.p 0 0 0 1)))], [(0, (.box 26 [(cI s.cap), (.s 4 0 1 s.used.length), (cR 4 ((s.advices).map rAdvice))]))]⟩,
      ⟨some 81, (aC (.p 1 0 0 0)), [], [], [], [(3, (aC (.p 1 0 0 0)))], [(1, (.box 32 [(cI a.card), (cI a.shop), (cI a.sum), (cI a.time)]))]⟩,
      ⟨some 82, (aI a.card), [], [], [2], [(81, (aC (.p 1 0 0 0)))], [(1, (.box 32 [(cI a.card), (cI a.shop), (cI a.sum), (cI a.time)]))]⟩,
      ⟨some 83, (aC (.p 0 0 0 1)), [], [], [], [(2, (aC (.p 0 0 0 0)))], [(0, (.box 26 [(cI s.cap), (.s 4 0 1 s.used.length), (cR 4 ((s.advices).map rAdvice))]))]⟩,
      ⟨some 84, (aC (.s 4 0 1 s.used.length)), [], [], [4], [(83, (aC (.p 0 0 0 1)))], [(0, (.box 26 [(cI s.cap), (.s 4 0 1 s.used.length), (cR 4 ((s.advices).map rAdvice))]))]⟩,
      ⟨some 85, (aC (.p 1 0 0 0)), [], [], [], [(3, (aC (.p 1 0 0 0)))], [(1, (.box 32 [(cI a.card), (cI a.shop), (cI a.sum), (cI a.time)]))]⟩,
      ⟨some 86, (aI a.card), [], [], [6], [(85, (aC (.p 1 0 0 0)))], [(1, (.box 32 [(cI a.card), (cI a.shop), (cI a.sum), (cI a.time)]))]⟩,
      ⟨some 87, (aC (.p 4 (Int.toNat (a.card)) 1 0)), [], [], [5, 7], [(84, (aC (.s 4 0 1 s.used.length))), (86, (aI a.card))], [(4, (.arr 3 1 ((s.used).map rI)))]⟩,
      ⟨some 88, (aI x1), [], [], [8], [(87, (aC (.p 4 (Int.toNat (a.card)) 1 0)))], [(4, (.arr 3 1 ((s.used).map rI)))]⟩,
      ⟨some 89, (aC (.p 1 0 0 2)), [], [], [], [(3, (aC (.p 1 0 0 0)))], [(1, (.box 32 [(cI a.card), (cI a.shop), (cI a.sum), (cI a.time)]))]⟩,
      ⟨some 90, (aI a.sum), [], [], [10], [(89, (aC (.p 1 0 0 2)))], [(1, (.box 32 [(cI a.card), (cI a.shop), (cI a.sum), (cI a.time)]))]⟩,
      ⟨some 91, (aI (x1 + a.sum)), [], [], [9, 11], [(88, (aI x1)), (90, (aI a.sum))], []⟩,
      ⟨some 92, (aC (.p 4 (Int.toNat (a.card)) 1 0)), [], [], [1, 3], [(80, (aC (.s 4 0 1 s.used.length))), (82, (aI a.card))], [(4, (.arr 3 1 ((s.used).map rI)))]⟩] ⟨[(2, (aC (.p 0 0 0 0))), (3, (aC (.p 1 0 0 0))), (4, (aC (.p 2 0 0 0))), (5, (aI 0)), (91, (aI (x1 + a.sum))), (92, (aC (.p 4 (Int.toNat (a.card)) 1 0)))], [(4, (.arr 3 1 ((s.used).map rI))), (2, (.box 26 [(cI 0), cN, cN])), (1, (.box 32 [(cI a.card), (cI a.shop), (cI a.sum), (cI a.time)])), (0, (.box 26 [(cI s.cap), (.s 4 0 1 s.used.length), (cR 4 ((s.advices).map rAdvice))]))], 5⟩ mixed (by kernel_rfl) ?_ ?_ ?_ ?_
              · exact ⟨.inl ⟨(Wanted.plain rfl), GOp.cast (g_fieldP rfl rfl Try.underlying26 rfl sz24 (by decide)) rfl⟩,
      .inl ⟨(Wanted.plain rfl), GOp.cast (g_loadB rfl rfl rfl Try.underlying24 rfl rfl) rfl⟩,
      .inl ⟨(Wanted.plain rfl), GOp.cast (g_fieldP rfl rfl Try.underlying32 rfl sz3 (by decide)) rfl⟩,
      .inl ⟨(Wanted.plain rfl), GOp.cast (g_loadB rfl rfl rfl Try.underlying3 rfl rfl) rfl⟩,
      .inl ⟨(Wanted.plain rfl), GOp.cast (g_fieldP rfl rfl Try.underlying26 rfl sz24 (by decide)) rfl⟩,
      .inl ⟨(Wanted.plain rfl), GOp.cast (g_loadB rfl rfl rfl Try.underlying24 rfl rfl) rfl⟩,
      .inl ⟨(Wanted.plain rfl), GOp.cast (g_fieldP rfl rfl Try.underlying32 rfl sz3 (by decide)) rfl⟩,
      .inl ⟨(Wanted.plain rfl), GOp.cast (g_loadB rfl rfl rfl Try.underlying3 rfl rfl) rfl⟩,
      .inl ⟨(Wanted.plain rfl), GOp.cast (g_indexP0 (i := Int.toNat (a.card)) rfl rfl rfl Try.underlying24 sz3 (by first | omega | (simp; done) | (simp; omega)) (by first | omega | (simp; done) | (simp; omega))) rfl⟩,
      .inl ⟨(Wanted.plain rfl), GOp.cast (g_loadA rfl rfl rfl Try.underlying3 rfl (getmap hx1) rfl) rfl⟩,
      .inl ⟨(Wanted.plain rfl), GOp.cast (g_fieldP rfl rfl Try.underlying32 rfl sz3 (by decide)) rfl⟩,
      .inl ⟨(Wanted.plain rfl), GOp.cast (g_loadB rfl rfl rfl Try.underlying3 rfl rfl) rfl⟩,
      .inl ⟨(Wanted.plain rfl), GOp.cast (g_binI rfl rfl rfl (wrap_ok (by first | omega | (simp; done) | (simp; omega)))) rfl⟩,
      .inl ⟨(Wanted.plain rfl), GOp.cast (g_indexP0 (i := Int.toNat (a.card)) rfl rfl rfl Try.underlying24 sz3 (by first | omega | (simp; done) | (simp; omega)) (by first | omega | (simp; done) | (simp; omega))) rfl⟩,
       trivial⟩
              · exact ⟨⟨⟨.inl rfl,  trivial⟩, ⟨.inl rfl,  trivial⟩⟩, ⟨⟨.inr ⟨0, .head _, _, rfl, rfl, rfl⟩,  trivial⟩, ⟨.inl rfl,  trivial⟩⟩, ⟨⟨.inl rfl,  trivial⟩, ⟨.inl rfl,  trivial⟩⟩, ⟨⟨.inr ⟨2, .head _, _, rfl, rfl, rfl⟩,  trivial⟩, ⟨.inl rfl,  trivial⟩⟩, ⟨⟨.inl rfl,  trivial⟩, ⟨.inl rfl,  trivial⟩⟩, ⟨⟨.inr ⟨4, .head _, _, rfl, rfl, rfl⟩,  trivial⟩, ⟨.inl rfl,  trivial⟩⟩, ⟨⟨.inl rfl,  trivial⟩, ⟨.inl rfl,  trivial⟩⟩, ⟨⟨.inr ⟨6, .head _, _, rfl, rfl, rfl⟩,  trivial⟩, ⟨.inl rfl,  trivial⟩⟩, ⟨⟨.inr ⟨5, .head _, _, rfl, rfl, rfl⟩, .inr ⟨7, .tail _ (.head _), _, rfl, rfl, rfl⟩,  trivial⟩, ⟨.inl rfl,  trivial⟩⟩, ⟨⟨.inr ⟨8, .head _, _, rfl, rfl, rfl⟩,  trivial⟩, ⟨.inl rfl,  trivial⟩⟩, ⟨⟨.inl rfl,  trivial⟩, ⟨.inl rfl,  trivial⟩⟩, ⟨⟨.inr ⟨10, .head _, _, rfl, rfl, rfl⟩,  trivial⟩, ⟨.inl rfl,  trivial⟩⟩, ⟨⟨.inr ⟨9, .head _, _, rfl, rfl, rfl⟩, .inr ⟨11, .tail _ (.head _), _, rfl, rfl, rfl⟩,  trivial⟩, trivial⟩, ⟨⟨.inr ⟨1, .head _, _, rfl, rfl, rfl⟩, .inr ⟨3, .tail _ (.head _), _, rfl, rfl, rfl⟩,  trivial⟩, ⟨.inl rfl,  trivial⟩⟩,  trivial⟩
              · exact ⟨⟨.inl rfl, .inl rfl, .inl rfl, .inl rfl, .inr ⟨12, _, rfl, rfl, rfl⟩, .inr ⟨13, _, rfl, rfl, rfl⟩,  trivial⟩, ⟨.inl rfl, .inl rfl, .inl rfl, .inl rfl,  trivial⟩⟩
              ·
                refine AL.sto (h' := [(4, (.arr 3 1 (((s.used).set (Int.toNat (a.card)) (x1 + a.sum)).map rI))), (2, (.box 26 [(cI 0), cN, cN])), (1, (.box 32 [(cI a.card), (cI a.shop), (cI a.sum), (cI a.time)])), (0, (.box 26 [(cI s.cap), (.s 4 0 1 s.used.length), (cR 4 ((s.advices).map rAdvice))]))]) (Wanted.plain rfl) (g_storeA (ds := [(dI (x1 + a.sum))]) rfl rfl rfl rfl rfl sz3 rfl (Nat.le_of_ble_eq_true rfl) (getmap hx1) rfl (setmap (x' := x1 + a.sum) rfl)) rfl rfl rfl rfl ?_
                refine AL.nil ?_
                refine then_ok ?_
                refine AC.seq ?_
                refine AC.weak (st' := ⟨[(2, (aC (.p 0 0 0 0))), (3, (aC (.p 1 0 0 0))), (4, (aC (.p 2 0 0 0))), (5, (aI 0))], [(4, (.arr 3 1 (((s.used).set (Int.toNat (a.card)) (x1 + a.sum)).map rI))), (2, (.box 26 [(cI 0), cN, cN])), (1, (.box 32 [(cI a.card), (cI a.shop), (cI a.sum), (cI a.time)])), (0, (.box 26 [(cI s.cap), (.s 4 0 1 s.used.length), (cR 4 ((s.advices).map rAdvice))]))], 5⟩) (Weak.ren id (⟨by first | rfl | (simp only [AV.map, GV.map, CV.map, AB.map', id]; done) | (congr 3; omega) | (congr 4; omega), by first | rfl | (simp only [AV.map, GV.map, CV.map, AB.map', id]; done) | (congr 3; omega) | (congr 4; omega), by first | rfl | (simp only [AV.map, GV.map, CV.map, AB.map', id]; done) | (congr 3; omega) | (congr 4; omega), by first | rfl | (simp only [AV.map, GV.map, CV.map, AB.map', id]; done) | (congr 3; omega) | (congr 4; omega),  trivial⟩) (⟨by first | rfl | (simp only [AV.map, GV.map, CV.map, AB.map', id]; done) | (congr 3; omega) | (congr 4; omega), by first | rfl | (simp only [AV.map, GV.map, CV.map, AB.map', id]; done) | (congr 3; omega) | (congr 4; omega), by first | rfl | (simp only [AV.map, GV.map, CV.map, AB.map', id]; done) | (congr 3; omega) | (congr 4; omega), by first | rfl | (simp only [AV.map, GV.map, CV.map, AB.map', id]; done) | (congr 3; omega) | (congr 4; omega),  trivial⟩) rfl) ?_
                refine AC.draw [⟨some 93, (aC (.s 5 0 4 0)), [(5, (.arr 32 4 ((([] : List Advice)).map rAdvice)))], [], [], [], []⟩,
      ⟨some 94, (aC (.p 0 0 0 2)), [], [], [], [(2, (aC (.p 0 0 0 0)))], [(0, (.box 26 [(cI s.cap), (.s 4 0 1 s.used.length), (cR 4 ((s.advices).map rAdvice))]))]⟩,
      ⟨some 95, (aC (cR 4 ((s.advices).map rAdvice))), [], [], [1], [(94, (aC (.p 0 0 0 2)))], [(0, (.box 26 [(cI s.cap), (.s 4 0 1 s.used.length), (cR 4 ((s.advices).map rAdvice))]))]⟩,
      ⟨some 96, (aC (.s 6 0 4 s.advices.length)), [(6, (.arr 32 4 ((s.advices).map rAdvice)))], [5], [0, 2], [(93, (aC (.s 5 0 4 0))), (95, (aC (cR 4 ((s.advices).map rAdvice))))], [(5, (.arr 32 4 ((([] : List Advice)).map rAdvice)))]⟩,
      ⟨some 97, (aG [(cI a.card), (cI a.shop), (cI a.sum), (cI a.time)]), [], [], [], [(3, (aC (.p 1 0 0 0)))], [(1, (.box 32 [(cI a.card), (cI a.shop), (cI a.sum), (cI a.time)]))]⟩,
      ⟨some 98, (aC (.s 7 0 4 1)), [(7, (.arr 32 4 (([a]).map rAdvice)))], [], [4], [(97, (aG [(cI a.card), (cI a.shop), (cI a.sum), (cI a.time)]))], []⟩,
      ⟨some 99, (aC (.s 8 0 4 (s.advices.length + 1))), [(8, (.arr 32 4 ((s.advices ++ ([a])).map rAdvice)))], [6], [3, 5], [(96, (aC (.s 6 0 4 s.advices.length))), (98, (aC (.s 7 0 4 1)))], [(7, (.arr 32 4 (([a]).map rAdvice))), (6, (.arr 32 4 ((s.advices).map rAdvice)))]⟩,
      ⟨some 100, (aC (.p 0 0 0 2)), [], [], [], [(2, (aC (.p 0 0 0 0)))], [(0, (.box 26 [(cI s.cap), (.s 4 0 1 s.used.length), (cR 4 ((s.advices).map rAdvice))]))]⟩] ⟨[(2, (aC (.p 0 0 0 0))), (3, (aC (.p 1 0 0 0))), (4, (aC (.p 2 0 0 0))), (5, (aI 0)), (99, (aC (.s 8 0 4 (s.advices.length + 1)))), (100, (aC (.p 0 0 0 2)))], [(8, (.arr 32 4 ((s.advices ++ ([a])).map rAdvice))), (4, (.arr 3 1 (((s.used).set (Int.toNat (a.card)) (x1 + a.sum)).map rI))), (2, (.box 26 [(cI 0), cN, cN])), (1, (.box 32 [(cI a.card), (cI a.shop), (cI a.sum), (cI a.time)])), (0, (.box 26 [(cI s.cap), (.s 4 0 1 s.used.length), (cR 4 ((s.advices).map rAdvice))]))], 9⟩ mixed (by kernel_rfl) ?_ ?_ ?_ ?_
                · exact ⟨.inl ⟨(Wanted.plain rfl), GOp.cast (g_lit (ys := []) (rows := (([] : List Advice)).map rAdvice) 5 sl22 rfl (by decide) trivial rfl rfl rfl rfl) rfl⟩,
      .inl ⟨(Wanted.plain rfl), GOp.cast (g_fieldP rfl rfl Try.underlying26 rfl sz22 (by decide)) rfl⟩,
      .inl ⟨(Wanted.plain rfl), GOp.cast (g_loadB rfl rfl rfl Try.underlying22 rfl rfl) rfl⟩,
      .inl ⟨(Wanted.plain rfl), GOp.cast (g_append (m := s.advices.length) (N := s.advices.length) (k2 := 6) (ys := (s.advices).map rAdvice) sl22 rfl rfl rfl rfl rfl rfl (by first | omega | (simp; done) | (simp; omega)) rfl (.d _ _) (by first | omega | (simp; done) | (simp; omega)) (by first | omega | (simp; done) | (simp; omega)) rfl (by decide) (by first | omega | (simp; done) | (simp; omega)) (by first | omega | (simp; done) | (simp; omega))) rfl⟩,
      .inl ⟨(Wanted.plain rfl), GOp.cast (g_loadBs rfl rfl rfl Try.underlying32 rfl sz32 rfl rfl) rfl⟩,
      .inl ⟨(Wanted.plain rfl), GOp.cast (g_lit (ys := [(0, (.g [(cI a.card), (cI a.shop), (cI a.sum), (cI a.time)]))]) (rows := ([a]).map rAdvice) 7 sl22 rfl (by decide) ⟨⟨rfl, rfl⟩,  trivial⟩ rfl rfl rfl rfl) rfl⟩,
      .inl ⟨(Wanted.plain rfl), GOp.cast (g_append (m := 1) (N := s.advices.length + 1) (k2 := 8) (ys := ([a]).map rAdvice) sl22 rfl rfl rfl rfl rfl rfl (by first | omega | (simp; done) | (simp; omega)) rfl (.s rfl (by first | omega | (simp; done) | (simp; omega))) (by first | omega | (simp; done) | (simp; omega)) (by first | omega | (simp; done) | (simp; omega)) appmap (by decide) (by first | omega | (simp; done) | (simp; omega)) (by first | omega | (simp; done) | (simp; omega))) rfl⟩,
      .inl ⟨(Wanted.plain rfl), GOp.cast (g_fieldP rfl rfl Try.underlying26 rfl sz22 (by decide)) rfl⟩,
       trivial⟩
                · exact ⟨⟨trivial, trivial⟩, ⟨⟨.inl rfl,  trivial⟩, ⟨.inl rfl,  trivial⟩⟩, ⟨⟨.inr ⟨1, .head _, _, rfl, rfl, rfl⟩,  trivial⟩, ⟨.inl rfl,  trivial⟩⟩, ⟨⟨.inr ⟨0, .head _, _, rfl, rfl, rfl⟩, .inr ⟨2, .tail _ (.head _), _, rfl, rfl, rfl⟩,  trivial⟩, ⟨.inr ⟨0, .head _, _, rfl, .head _⟩,  trivial⟩⟩, ⟨⟨.inl rfl,  trivial⟩, ⟨.inl rfl,  trivial⟩⟩, ⟨⟨.inr ⟨4, .head _, _, rfl, rfl, rfl⟩,  trivial⟩, trivial⟩, ⟨⟨.inr ⟨3, .head _, _, rfl, rfl, rfl⟩, .inr ⟨5, .tail _ (.head _), _, rfl, rfl, rfl⟩,  trivial⟩, ⟨.inr ⟨5, .tail _ (.head _), _, rfl, .head _⟩, .inr ⟨3, .head _, _, rfl, .head _⟩,  trivial⟩⟩, ⟨⟨.inl rfl,  trivial⟩, ⟨.inl rfl,  trivial⟩⟩,  trivial⟩
                · exact ⟨⟨.inl rfl, .inl rfl, .inl rfl, .inl rfl, .inr ⟨6, _, rfl, rfl, rfl⟩, .inr ⟨7, _, rfl, rfl, rfl⟩,  trivial⟩, ⟨.inr ⟨6, _, rfl, .head _⟩, .inl rfl, .inl rfl, .inl rfl, .inl rfl,  trivial⟩⟩
                ·
                  refine AL.sto (h' := [(8, (.arr 32 4 ((s.advices ++ ([a])).map rAdvice))), (4, (.arr 3 1 (((s.used).set (Int.toNat (a.card)) (x1 + a.sum)).map rI))), (2, (.box 26 [(cI 0), cN, cN])), (1, (.box 32 [(cI a.card), (cI a.shop), (cI a.sum), (cI a.time)])), (0, (.box 26 [(cI s.cap), (.s 4 0 1 s.used.length), (.s 8 0 4 (s.advices.length + 1))]))]) (Wanted.plain rfl) (g_storeB rfl rfl rfl rfl rfl sz22 rfl (Nat.le_of_ble_eq_true rfl) rfl) rfl rfl rfl rfl ?_
                  refine AL.nil ?_
                  refine then_ok ?_
                  refine AC.seq ?_
                  refine AC.region ?_
                  refine AL.val (Wanted.plain rfl) (g_loadBs rfl rfl rfl Try.underlying26 rfl sz26 rfl rfl) rfl rfl ?_
                  refine AL.sto (h' := [(8, (.arr 32 4 ((s.advices ++ ([a])).map rAdvice))), (4, (.arr 3 1 (((s.used).set (Int.toNat (a.card)) (x1 + a.sum)).map rI))), (2, (.box 26 [(cI s.cap), (.s 4 0 1 s.used.length), (.s 8 0 4 (s.advices.length + 1))])), (1, (.box 32 [(cI a.card), (cI a.shop), (cI a.sum), (cI a.time)])), (0, (.box 26 [(cI s.cap), (.s 4 0 1 s.used.length), (.s 8 0 4 (s.advices.length + 1))]))]) (Wanted.plain rfl) (g_storeB rfl rfl rfl rfl rfl sz26 rfl (Nat.le_of_ble_eq_true rfl) rfl) rfl rfl rfl rfl ?_
                  refine AL.fast 1 rfl ?_
                  refine AL.nil ?_
                  refine then_ok ?_
                  refine AC.ret ?_
                  have hX : giveStand s a = ((⟨s.cap, (s.used).set (Int.toNat (a.card)) (x1 + a.sum), s.advices ++ ([a])⟩ : Stand), 0) := by
                    have ho : okAdv s.used.length a = true := by (simp only [okAdv, decide_eq_true_eq]; simp_all [sumB] <;> omega)
                    have hx : s.used.getD a.card.toNat 0 = x1 := by rw [List.getD_eq_getElem?_getD, hx1]; rfl
                    unfold giveStand; rw [if_neg (by omega), if_neg (by omega), if_neg (by simp [ho]), hx, if_neg (by omega)]
                  rw [hX] at hr; clear hX
                  simp only [Prod.mk.injEq] at hr; obtain ⟨rfl, rfl⟩ := hr
                  refine retQ_mk (av' := outOf [(.g [(cI s.cap), (.s 0 0 1 s.used.length), (.s 1 0 4 (s.advices.length + 1))]), (.c (cI 0))]) (nb' := [(0, (.arr 3 1 (((s.used).set (Int.toNat (a.card)) (x1 + a.sum)).map rI))), (1, (.arr 32 4 ((s.advices ++ ([a])).map rAdvice)))]) (retQ_ret ⟨[(4, (aC (.p 2 0 0 0))), (5, (aI 0))], [(1, (.arr 32 4 ((s.advices ++ ([a])).map rAdvice))), (0, (.arr 3 1 (((s.used).set (Int.toNat (a.card)) (x1 + a.sum)).map rI))), (2, (.box 26 [(cI s.cap), (.s 0 0 1 s.used.length), (.s 1 0 4 (s.advices.length + 1))]))], 3⟩ [.cell 4 26, .tmp 5] [(.g [(cI s.cap), (.s 0 0 1 s.used.length), (.s 1 0 4 (s.advices.length + 1))]), (.c (cI 0))] (Weak.ren (fun k => if k = 0 then 4 else if k = 1 then 8 else if k = 2 then 2 else k) (⟨by first | rfl | (simp only [AV.map, GV.map, CV.map, AB.map', id]; done) | (congr 3; omega) | (congr 4; omega), by first | rfl | (simp only [AV.map, GV.map, CV.map, AB.map', id]; done) | (congr 3; omega) | (congr 4; omega),  trivial⟩) (⟨by first | rfl | (simp only [AV.map, GV.map, CV.map, AB.map', id]; done) | (congr 3; omega) | (congr 4; omega), by first | rfl | (simp only [AV.map, GV.map, CV.map, AB.map', id]; done) | (congr 3; omega) | (congr 4; omega), by first | rfl | (simp only [AV.map, GV.map, CV.map, AB.map', id]; done) | (congr 3; omega) | (congr 4; omega),  trivial⟩) rfl) rfl ⟨.agg rfl rfl (fun _ => run_isAgg Try.underlying26) sz26, .tmp rfl, trivial⟩ ⟨by first | rfl | (simp only [AV.map, GV.map, CV.map, AB.map', id]; done) | (congr 3; omega) | (congr 4; omega), by first | rfl | (simp only [AV.map, GV.map, CV.map, AB.map', id]; done) | (congr 3; omega) | (congr 4; omega),  trivial⟩) ?_ ?_
                  · first | rfl | (simp [outOf, aC]; done)
                  · first | rfl | (simp; done)
end Go.Proofs.Ytgmcdlfmifijlaa.Dev
