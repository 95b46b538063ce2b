/- stands: New. -/
import Derived.Test.YtgmcdlfmifijlaaDStand3
set_option linter.unusedVariables false
set_option linter.unusedSimpArgs false
namespace Go.Proofs.Ytgmcdlfmifijlaa.Dev
open Go.RowKit

set_option maxRecDepth 100000 in
set_option maxHeartbeats 1000000 in
theorem c_stand_New (limit cards : Int) (x : Stand) (e : Int) (hr : newStand limit cards = (x, e)) : Fn Try.prog 30 [(.c (cI limit)), (.c (cI cards))] (.t [(.g [(cI x.cap), (.s 0 0 1 x.used.length), (.s 1 0 4 x.advices.length)]), (.c (cI e))]) [(0, (.arr 3 1 ((x.used).map rI))), (1, (.arr 32 4 ((x.advices).map rAdvice)))] := by
  refine Fn.mk' 24 [(0, (aI limit)), (1, (aI cards))] Try.func30 rfl rfl rfl rfl ?_
  intro W0 T0
  refine AC.seq ?_
  refine AC.region ?_
  refine AL.new (n' := 1) (Wanted.plain rfl) (g_alloc 0 rfl zv26 rfl rfl rfl) rfl rfl rfl ?_
  refine AL.fast 1 rfl ?_
  refine AL.nil ?_
  refine then_ok ?_
  refine AC.seq ?_
  refine AC.cutB 11 ((decide (cards < 0)) || (decide (cards > 8))) ?_ ?_
  ·
    refine AC.region ?_
    refine AL.fast 1 rfl ?_
    refine AL.val (Wanted.plain rfl) (g_binI rfl rfl rfl rfl) rfl rfl ?_
    refine AL.fast 1 rfl ?_
    refine AL.dec (t := 8) rfl (fun hb1 => ?_) (fun hb1 => ?_)
    ·
      have hb1' := hb1; try simp only [Bool.not_eq_true', Bool.not_eq_false', Bool.or_eq_true, Bool.or_eq_false_iff, Bool.and_eq_true, Bool.and_eq_false_imp, decide_eq_true_eq, decide_eq_false_iff_not, Bool.not_not, Bool.not_true, Bool.not_false] at hb1'
      refine AL.fast 3 rfl ?_
      refine AL.nil ?_
      refine then_ok ?_
      exact Weak.popB 7 rfl rfl (by simp [hb1]) rfl
    ·
      have hb1' := hb1; try simp only [Bool.not_eq_true', Bool.not_eq_false', Bool.or_eq_true, Bool.or_eq_false_iff, Bool.and_eq_true, Bool.and_eq_false_imp, decide_eq_true_eq, decide_eq_false_iff_not, Bool.not_not, Bool.not_true, Bool.not_false] at hb1'
      refine AL.fast 1 rfl ?_
      refine AL.val (Wanted.yes rfl rfl rfl) (g_binI rfl rfl rfl rfl) rfl rfl ?_
      refine AL.fast 1 rfl ?_
      refine AL.nil ?_
      refine then_ok ?_
      exact Weak.popB 7 rfl rfl (by simp [hb1]) rfl
  ·
    refine AC.cond rfl (fun hc2 => ?_) (fun hc2 => ?_)
    ·
      have hc2' := hc2; try simp only [Bool.not_eq_true', Bool.not_eq_false', Bool.or_eq_true, Bool.or_eq_false_iff, Bool.and_eq_true, Bool.and_eq_false_imp, decide_eq_true_eq, decide_eq_false_iff_not, Bool.not_not, Bool.not_true, Bool.not_false] at hc2'
      refine AC.seq ?_
      refine AC.region ?_
      refine AL.val (Wanted.plain rfl) (g_build (ys := []) rfl bld26 rfl trivial rfl rfl) rfl rfl ?_
      refine AL.sto (h' := [(0, (.box 26 [(cI 0), cN, cN]))]) (Wanted.plain rfl) (g_storeB rfl rfl rfl rfl rfl sz26 rfl (Nat.le_of_ble_eq_true rfl) rfl) rfl rfl rfl rfl ?_
      refine AL.fast 1 rfl ?_
      refine AL.nil ?_
      refine then_ok ?_
      refine AC.ret ?_
      refine then_ret ?_
      refine retQ_weak (Weak.nilB (n' := 2) (h' := [(1, (.arr 3 1 ((([] : List Int)).map rI))), (0, (.box 26 [(cI 0), (.s 1 0 1 0), cN]))]) 0 1 3 1 26 (by decide) rfl rfl rfl rfl rfl) ?_
      refine retQ_weak (Weak.nilB (n' := 3) (h' := [(2, (.arr 32 4 ((([] : List Advice)).map rAdvice))), (1, (.arr 3 1 ((([] : List Int)).map rI))), (0, (.box 26 [(cI 0), (.s 1 0 1 0), (.s 2 0 4 0)]))]) 0 2 32 4 26 (by decide) rfl rfl rfl rfl rfl) ?_
      have hX : newStand limit cards = ((⟨0, ([] : List Int), ([] : List Advice)⟩ : Stand), 5) := by
        exact newStand_many (by omega)
      rw [hX] at hr; clear hX
      simp only [Prod.mk.injEq] at hr; obtain ⟨rfl, rfl⟩ := hr
      refine retQ_mk (av' := outOf [(.g [(cI 0), (.s 0 0 1 0), (.s 1 0 4 0)]), (.c (cI 5))]) (nb' := [(0, (.arr 3 1 ((([] : List Int)).map rI))), (1, (.arr 32 4 ((([] : List Advice)).map rAdvice)))]) (retQ_ret ⟨[(4, (aC (.p 2 0 0 0))), (5, (aI 5))], [(1, (.arr 32 4 ((([] : List Advice)).map rAdvice))), (0, (.arr 3 1 ((([] : List Int)).map rI))), (2, (.box 26 [(cI 0), (.s 0 0 1 0), (.s 1 0 4 0)]))], 3⟩ [.cell 4 26, .tmp 5] [(.g [(cI 0), (.s 0 0 1 0), (.s 1 0 4 0)]), (.c (cI 5))] (Weak.ren (fun k => if k = 0 then 1 else if k = 1 then 2 else if k = 2 then 0 else k) (⟨by first | rfl | (simp only [AV.map, GV.map, CV.map, AB.map', id]; done) | (congr 3; omega) | (congr 4; omega), by first | rfl | (simp only [AV.map, GV.map, CV.map, AB.map', id]; done) | (congr 3; omega) | (congr 4; omega),  trivial⟩) (⟨by first | rfl | (simp only [AV.map, GV.map, CV.map, AB.map', id]; done) | (congr 3; omega) | (congr 4; omega), by first | rfl | (simp only [AV.map, GV.map, CV.map, AB.map', id]; done) | (congr 3; omega) | (congr 4; omega), by first | rfl | (simp only [AV.map, GV.map, CV.map, AB.map', id]; done) | (congr 3; omega) | (congr 4; omega),  trivial⟩) rfl) rfl ⟨.agg rfl rfl (fun _ => run_isAgg Try.underlying26) sz26, .tmp rfl, trivial⟩ ⟨by first | rfl | (simp only [AV.map, GV.map, CV.map, AB.map', id]; done) | (congr 3; omega) | (congr 4; omega), by first | rfl | (simp only [AV.map, GV.map, CV.map, AB.map', id]; done) | (congr 3; omega) | (congr 4; omega),  trivial⟩) ?_ ?_
      · first | rfl | (simp [outOf, aC]; done)
      · first | rfl | (simp; done)
    ·
      have hc2' := hc2; try simp only [Bool.not_eq_true', Bool.not_eq_false', Bool.or_eq_true, Bool.or_eq_false_iff, Bool.and_eq_true, Bool.and_eq_false_imp, decide_eq_true_eq, decide_eq_false_iff_not, Bool.not_not, Bool.not_true, Bool.not_false] at hc2'
      refine AC.skip ?_
      refine then_ok ?_
      refine AC.seq ?_
      refine AC.cutB 18 ((decide (limit < 0)) || (decide (limit > 1000000))) ?_ ?_
      ·
        refine AC.region ?_
        refine AL.fast 1 rfl ?_
        refine AL.val (Wanted.plain rfl) (g_binI rfl rfl rfl rfl) rfl rfl ?_
        refine AL.fast 1 rfl ?_
        refine AL.dec (t := 15) rfl (fun hb3 => ?_) (fun hb3 => ?_)
        ·
          have hb3' := hb3; try simp only [Bool.not_eq_true', Bool.not_eq_false', Bool.or_eq_true, Bool.or_eq_false_iff, Bool.and_eq_true, Bool.and_eq_false_imp, decide_eq_true_eq, decide_eq_false_iff_not, Bool.not_not, Bool.not_true, Bool.not_false] at hb3'
          refine AL.fast 3 rfl ?_
          refine AL.nil ?_
          refine then_ok ?_
          exact Weak.popB 7 rfl rfl (by simp [hb3]) rfl
        ·
          have hb3' := hb3; try simp only [Bool.not_eq_true', Bool.not_eq_false', Bool.or_eq_true, Bool.or_eq_false_iff, Bool.and_eq_true, Bool.and_eq_false_imp, decide_eq_true_eq, decide_eq_false_iff_not, Bool.not_not, Bool.not_true, Bool.not_false] at hb3'
          refine AL.fast 1 rfl ?_
          refine AL.val (Wanted.yes rfl rfl rfl) (g_binI rfl rfl rfl rfl) rfl rfl ?_
          refine AL.fast 1 rfl ?_
          refine AL.nil ?_
          refine then_ok ?_
          exact Weak.popB 7 rfl rfl (by simp [hb3]) rfl
      ·
        refine AC.cond rfl (fun hc4 => ?_) (fun hc4 => ?_)
        ·
          have hc4' := hc4; try simp only [Bool.not_eq_true', Bool.not_eq_false', Bool.or_eq_true, Bool.or_eq_false_iff, Bool.and_eq_true, Bool.and_eq_false_imp, decide_eq_true_eq, decide_eq_false_iff_not, Bool.not_not, Bool.not_true, Bool.not_false] at hc4'
          refine AC.seq ?_
          refine AC.region ?_
          refine AL.val (Wanted.plain rfl) (g_build (ys := []) rfl bld26 rfl trivial rfl rfl) rfl rfl ?_
          refine AL.sto (h' := [(0, (.box 26 [(cI 0), cN, cN]))]) (Wanted.plain rfl) (g_storeB rfl rfl rfl rfl rfl sz26 rfl (Nat.le_of_ble_eq_true rfl) rfl) rfl rfl rfl rfl ?_
          refine AL.fast 1 rfl ?_
          refine AL.nil ?_
          refine then_ok ?_
          refine AC.ret ?_
          refine then_ret ?_
          refine retQ_weak (Weak.nilB (n' := 2) (h' := [(1, (.arr 3 1 ((([] : List Int)).map rI))), (0, (.box 26 [(cI 0), (.s 1 0 1 0), cN]))]) 0 1 3 1 26 (by decide) rfl rfl rfl rfl rfl) ?_
          refine retQ_weak (Weak.nilB (n' := 3) (h' := [(2, (.arr 32 4 ((([] : List Advice)).map rAdvice))), (1, (.arr 3 1 ((([] : List Int)).map rI))), (0, (.box 26 [(cI 0), (.s 1 0 1 0), (.s 2 0 4 0)]))]) 0 2 32 4 26 (by decide) rfl rfl rfl rfl rfl) ?_
          have hX : newStand limit cards = ((⟨0, ([] : List Int), ([] : List Advice)⟩ : Stand), 3) := by
            exact newStand_range (by omega) (by first | omega | (simp_all [sumB]; done) | (simp_all [sumB]; omega))
          rw [hX] at hr; clear hX
          simp only [Prod.mk.injEq] at hr; obtain ⟨rfl, rfl⟩ := hr
          refine retQ_mk (av' := outOf [(.g [(cI 0), (.s 0 0 1 0), (.s 1 0 4 0)]), (.c (cI 3))]) (nb' := [(0, (.arr 3 1 ((([] : List Int)).map rI))), (1, (.arr 32 4 ((([] : List Advice)).map rAdvice)))]) (retQ_ret ⟨[(4, (aC (.p 2 0 0 0))), (5, (aI 3))], [(1, (.arr 32 4 ((([] : List Advice)).map rAdvice))), (0, (.arr 3 1 ((([] : List Int)).map rI))), (2, (.box 26 [(cI 0), (.s 0 0 1 0), (.s 1 0 4 0)]))], 3⟩ [.cell 4 26, .tmp 5] [(.g [(cI 0), (.s 0 0 1 0), (.s 1 0 4 0)]), (.c (cI 3))] (Weak.ren (fun k => if k = 0 then 1 else if k = 1 then 2 else if k = 2 then 0 else k) (⟨by first | rfl | (simp only [AV.map, GV.map, CV.map, AB.map', id]; done) | (congr 3; omega) | (congr 4; omega), by first | rfl | (simp only [AV.map, GV.map, CV.map, AB.map', id]; done) | (congr 3; omega) | (congr 4; omega),  trivial⟩) (⟨by first | rfl | (simp only [AV.map, GV.map, CV.map, AB.map', id]; done) | (congr 3; omega) | (congr 4; omega), by first | rfl | (simp only [AV.map, GV.map, CV.map, AB.map', id]; done) | (congr 3; omega) | (congr 4; omega), by first | rfl | (simp only [AV.map, GV.map, CV.map, AB.map', id]; done) | (congr 3; omega) | (congr 4; omega),  trivial⟩) rfl) rfl ⟨.agg rfl rfl (fun _ => run_isAgg Try.underlying26) sz26, .tmp rfl, trivial⟩ ⟨by first | rfl | (simp only [AV.map, GV.map, CV.map, AB.map', id]; done) | (congr 3; omega) | (congr 4; omega), by first | rfl | (simp only [AV.map, GV.map, CV.map, AB.map', id]; done) | (congr 3; omega) | (congr 4; omega),  trivial⟩) ?_ ?_
          · first | rfl | (simp [outOf, aC]; done)
          · first | rfl | (simp; done)
        ·
          have hc4' := hc4; try simp only [Bool.not_eq_true', Bool.not_eq_false', Bool.or_eq_true, Bool.or_eq_false_iff, Bool.and_eq_true, Bool.and_eq_false_imp, decide_eq_true_eq, decide_eq_false_iff_not, Bool.not_not, Bool.not_true, Bool.not_false] at hc4'
          refine AC.skip ?_
          refine then_ok ?_
          refine AC.seq ?_
          refine AC.region ?_
          refine AL.fast 2 rfl ?_
          refine AL.new (n' := 2) (Wanted.plain rfl) (g_makeI 1 sl24 zv3 rfl rfl rfl (n := Int.toNat (cards)) (by first | omega | (simp; done) | (simp; omega)) (by first | omega | (simp; done) | (simp; omega)) (by first | omega | (simp; done) | (simp; omega)) (by first | omega | (simp; done) | (simp; omega))) rfl rfl rfl ?_
          refine AL.val (Wanted.plain rfl) (g_build (ys := [(0, (.c (cI limit))), (1, (.c (.s 1 0 1 (Int.toNat (cards)))))]) rfl bld26 rfl ⟨⟨rfl, rfl⟩, ⟨rfl, rfl⟩,  trivial⟩ rfl rfl) rfl rfl ?_
          refine AL.sto (h' := [(1, (.arr 3 1 ((List.replicate (Int.toNat (cards)) 0).map rI))), (0, (.box 26 [(cI limit), (.s 1 0 1 (Int.toNat (cards))), cN]))]) (Wanted.plain rfl) (g_storeB rfl rfl rfl rfl rfl sz26 rfl (Nat.le_of_ble_eq_true rfl) rfl) rfl rfl rfl rfl ?_
          refine AL.fast 1 rfl ?_
          refine AL.nil ?_
          refine then_ok ?_
          refine AC.ret ?_
          refine retQ_weak (Weak.nilB (n' := 3) (h' := [(2, (.arr 32 4 ((([] : List Advice)).map rAdvice))), (1, (.arr 3 1 ((List.replicate (Int.toNat (cards)) 0).map rI))), (0, (.box 26 [(cI limit), (.s 1 0 1 (Int.toNat (cards))), (.s 2 0 4 0)]))]) 0 2 32 4 26 (by decide) rfl rfl rfl rfl rfl) ?_
          have hX : newStand limit cards = ((⟨limit, List.replicate (Int.toNat (cards)) 0, ([] : List Advice)⟩ : Stand), 0) := by
            unfold newStand; rw [if_neg (by omega), if_neg (by simp only [capB, decide_eq_true_eq]; first | omega | (simp_all [sumB]; done) | (simp_all [sumB]; omega))]
          rw [hX] at hr; clear hX
          simp only [Prod.mk.injEq] at hr; obtain ⟨rfl, rfl⟩ := hr
          refine retQ_mk (av' := outOf [(.g [(cI limit), (.s 0 0 1 (Int.toNat (cards))), (.s 1 0 4 0)]), (.c (cI 0))]) (nb' := [(0, (.arr 3 1 ((List.replicate (Int.toNat (cards)) 0).map rI))), (1, (.arr 32 4 ((([] : List Advice)).map rAdvice)))]) (retQ_ret ⟨[(4, (aC (.p 2 0 0 0))), (5, (aI 0))], [(1, (.arr 32 4 ((([] : List Advice)).map rAdvice))), (0, (.arr 3 1 ((List.replicate (Int.toNat (cards)) 0).map rI))), (2, (.box 26 [(cI limit), (.s 0 0 1 (Int.toNat (cards))), (.s 1 0 4 0)]))], 3⟩ [.cell 4 26, .tmp 5] [(.g [(cI limit), (.s 0 0 1 (Int.toNat (cards))), (.s 1 0 4 0)]), (.c (cI 0))] (Weak.ren (fun k => if k = 0 then 1 else if k = 1 then 2 else if k = 2 then 0 else k) (⟨by first | rfl | (simp only [AV.map, GV.map, CV.map, AB.map', id]; done) | (congr 3; omega) | (congr 4; omega), by first | rfl | (simp only [AV.map, GV.map, CV.map, AB.map', id]; done) | (congr 3; omega) | (congr 4; omega),  trivial⟩) (⟨by first | rfl | (simp only [AV.map, GV.map, CV.map, AB.map', id]; done) | (congr 3; omega) | (congr 4; omega), by first | rfl | (simp only [AV.map, GV.map, CV.map, AB.map', id]; done) | (congr 3; omega) | (congr 4; omega), by first | rfl | (simp only [AV.map, GV.map, CV.map, AB.map', id]; done) | (congr 3; omega) | (congr 4; omega),  trivial⟩) rfl) rfl ⟨.agg rfl rfl (fun _ => run_isAgg Try.underlying26) sz26, .tmp rfl, trivial⟩ ⟨by first | rfl | (simp only [AV.map, GV.map, CV.map, AB.map', id]; done) | (congr 3; omega) | (congr 4; omega), by first | rfl | (simp only [AV.map, GV.map, CV.map, AB.map', id]; done) | (congr 3; omega) | (congr 4; omega),  trivial⟩) ?_ ?_
          · first | rfl | (simp [outOf, aC]; done)
          · first | rfl | (simp; done)
set_option maxRecDepth 100000 in
set_option maxHeartbeats 1000000 in
theorem c_ref_NewStand (limit cards : Int) (x : Stand) (e : Int) (hr : newStand limit cards = (x, e)) : Fn Try.prog 34 [(.c (cI limit)), (.c (cI cards))] (.t [(.g [(cI x.cap), (.s 0 0 1 x.used.length), (.s 1 0 4 x.advices.length)]), (.c (cI e))]) [(0, (.arr 3 1 ((x.used).map rI))), (1, (.arr 32 4 ((x.advices).map rAdvice)))] := by
  refine Fn.mk' 21 [(0, (aI limit)), (1, (aI cards))] Try.func34 rfl rfl rfl rfl ?_
  intro W0 T0
  refine AC.seq ?_
  refine AC.region ?_
  refine AL.new (n' := 1) (Wanted.plain rfl) (g_alloc 0 rfl zv26 rfl rfl rfl) rfl rfl rfl ?_
  refine AL.fast 1 rfl ?_
  refine AL.nil ?_
  refine then_ok ?_
  refine AC.seq ?_
  refine AC.cutB 11 ((decide (cards < 0)) || (decide (cards > 8))) ?_ ?_
  ·
    refine AC.region ?_
    refine AL.fast 1 rfl ?_
    refine AL.val (Wanted.plain rfl) (g_binI rfl rfl rfl rfl) rfl rfl ?_
    refine AL.fast 1 rfl ?_
    refine AL.dec (t := 8) rfl (fun hb1 => ?_) (fun hb1 => ?_)
    ·
      have hb1' := hb1; try simp only [Bool.not_eq_true', Bool.not_eq_false', Bool.or_eq_true, Bool.or_eq_false_iff, Bool.and_eq_true, Bool.and_eq_false_imp, decide_eq_true_eq, decide_eq_false_iff_not, Bool.not_not, Bool.not_true, Bool.not_false] at hb1'
      refine AL.fast 3 rfl ?_
      refine AL.nil ?_
      refine then_ok ?_
      exact Weak.popB 7 rfl rfl (by simp [hb1]) rfl
    ·
      have hb1' := hb1; try simp only [Bool.not_eq_true', Bool.not_eq_false', Bool.or_eq_true, Bool.or_eq_false_iff, Bool.and_eq_true, Bool.and_eq_false_imp, decide_eq_true_eq, decide_eq_false_iff_not, Bool.not_not, Bool.not_true, Bool.not_false] at hb1'
      refine AL.fast 1 rfl ?_
      refine AL.val (Wanted.yes rfl rfl rfl) (g_binI rfl rfl rfl rfl) rfl rfl ?_
      refine AL.fast 1 rfl ?_
      refine AL.nil ?_
      refine then_ok ?_
      exact Weak.popB 7 rfl rfl (by simp [hb1]) rfl
  ·
    refine AC.cond rfl (fun hc2 => ?_) (fun hc2 => ?_)
    ·
      have hc2' := hc2; try simp only [Bool.not_eq_true', Bool.not_eq_false', Bool.or_eq_true, Bool.or_eq_false_iff, Bool.and_eq_true, Bool.and_eq_false_imp, decide_eq_true_eq, decide_eq_false_iff_not, Bool.not_not, Bool.not_true, Bool.not_false] at hc2'
      refine AC.seq ?_
      refine AC.region ?_
      refine AL.val (Wanted.plain rfl) (g_build (ys := []) rfl bld26 rfl trivial rfl rfl) rfl rfl ?_
      refine AL.sto (h' := [(0, (.box 26 [(cI 0), cN, cN]))]) (Wanted.plain rfl) (g_storeB rfl rfl rfl rfl rfl sz26 rfl (Nat.le_of_ble_eq_true rfl) rfl) rfl rfl rfl rfl ?_
      refine AL.fast 1 rfl ?_
      refine AL.nil ?_
      refine then_ok ?_
      refine AC.ret ?_
      refine then_ret ?_
      refine retQ_weak (Weak.nilB (n' := 2) (h' := [(1, (.arr 3 1 ((([] : List Int)).map rI))), (0, (.box 26 [(cI 0), (.s 1 0 1 0), cN]))]) 0 1 3 1 26 (by decide) rfl rfl rfl rfl rfl) ?_
      refine retQ_weak (Weak.nilB (n' := 3) (h' := [(2, (.arr 32 4 ((([] : List Advice)).map rAdvice))), (1, (.arr 3 1 ((([] : List Int)).map rI))), (0, (.box 26 [(cI 0), (.s 1 0 1 0), (.s 2 0 4 0)]))]) 0 2 32 4 26 (by decide) rfl rfl rfl rfl rfl) ?_
      have hX : newStand limit cards = ((⟨0, ([] : List Int), ([] : List Advice)⟩ : Stand), 5) := by
        exact newStand_many (by omega)
      rw [hX] at hr; clear hX
      simp only [Prod.mk.injEq] at hr; obtain ⟨rfl, rfl⟩ := hr
      refine retQ_mk (av' := outOf [(.g [(cI 0), (.s 0 0 1 0), (.s 1 0 4 0)]), (.c (cI 5))]) (nb' := [(0, (.arr 3 1 ((([] : List Int)).map rI))), (1, (.arr 32 4 ((([] : List Advice)).map rAdvice)))]) (retQ_ret ⟨[(4, (aC (.p 2 0 0 0))), (5, (aI 5))], [(1, (.arr 32 4 ((([] : List Advice)).map rAdvice))), (0, (.arr 3 1 ((([] : List Int)).map rI))), (2, (.box 26 [(cI 0), (.s 0 0 1 0), (.s 1 0 4 0)]))], 3⟩ [.cell 4 26, .tmp 5] [(.g [(cI 0), (.s 0 0 1 0), (.s 1 0 4 0)]), (.c (cI 5))] (Weak.ren (fun k => if k = 0 then 1 else if k = 1 then 2 else if k = 2 then 0 else k) (⟨by first | rfl | (simp only [AV.map, GV.map, CV.map, AB.map', id]; done) | (congr 3; omega) | (congr 4; omega), by first | rfl | (simp only [AV.map, GV.map, CV.map, AB.map', id]; done) | (congr 3; omega) | (congr 4; omega),  trivial⟩) (⟨by first | rfl | (simp only [AV.map, GV.map, CV.map, AB.map', id]; done) | (congr 3; omega) | (congr 4; omega), by first | rfl | (simp only [AV.map, GV.map, CV.map, AB.map', id]; done) | (congr 3; omega) | (congr 4; omega), by first | rfl | (simp only [AV.map, GV.map, CV.map, AB.map', id]; done) | (congr 3; omega) | (congr 4; omega),  trivial⟩) rfl) rfl ⟨.agg rfl rfl (fun _ => run_isAgg Try.underlying26) sz26, .tmp rfl, trivial⟩ ⟨by first | rfl | (simp only [AV.map, GV.map, CV.map, AB.map', id]; done) | (congr 3; omega) | (congr 4; omega), by first | rfl | (simp only [AV.map, GV.map, CV.map, AB.map', id]; done) | (congr 3; omega) | (congr 4; omega),  trivial⟩) ?_ ?_
      · first | rfl | (simp [outOf, aC]; done)
      · first | rfl | (simp; done)
    ·
      have hc2' := hc2; try simp only [Bool.not_eq_true', Bool.not_eq_false', Bool.or_eq_true, Bool.or_eq_false_iff, Bool.and_eq_true, Bool.and_eq_false_imp, decide_eq_true_eq, decide_eq_false_iff_not, Bool.not_not, Bool.not_true, Bool.not_false] at hc2'
      refine AC.skip ?_
      refine then_ok ?_
      refine AC.seq ?_
      refine AC.seq ?_
      refine AC.region ?_
      refine AL.fast 1 rfl ?_
      refine AL.call (n' := 1) (h' := [(0, (.box 26 [(cI 0), cN, cN]))]) (Wanted.plain rfl) (g_call 1 (c_sum limit  ) en103 rfl rfl ⟨⟨_, rfl, .c (.d _)⟩,  trivial⟩ trivial trivial rfl rfl rfl rfl) rfl rfl rfl rfl rfl ?_
      refine AL.val (Wanted.plain rfl) (g_notB rfl rfl) rfl rfl ?_
      refine AL.nil ?_
      refine then_ok ?_
      refine AC.cond rfl (fun hc3 => ?_) (fun hc3 => ?_)
      ·
        have hc3' := hc3; try simp only [Bool.not_eq_true', Bool.not_eq_false', Bool.or_eq_true, Bool.or_eq_false_iff, Bool.and_eq_true, Bool.and_eq_false_imp, decide_eq_true_eq, decide_eq_false_iff_not, Bool.not_not, Bool.not_true, Bool.not_false] at hc3'
        refine AC.seq ?_
        refine AC.region ?_
        refine AL.val (Wanted.plain rfl) (g_build (ys := []) rfl bld26 rfl trivial rfl rfl) rfl rfl ?_
        refine AL.sto (h' := [(0, (.box 26 [(cI 0), cN, cN]))]) (Wanted.plain rfl) (g_storeB rfl rfl rfl rfl rfl sz26 rfl (Nat.le_of_ble_eq_true rfl) rfl) rfl rfl rfl rfl ?_
        refine AL.fast 1 rfl ?_
        refine AL.nil ?_
        refine then_ok ?_
        refine AC.ret ?_
        refine then_ret ?_
        refine retQ_weak (Weak.nilB (n' := 2) (h' := [(1, (.arr 3 1 ((([] : List Int)).map rI))), (0, (.box 26 [(cI 0), (.s 1 0 1 0), cN]))]) 0 1 3 1 26 (by decide) rfl rfl rfl rfl rfl) ?_
        refine retQ_weak (Weak.nilB (n' := 3) (h' := [(2, (.arr 32 4 ((([] : List Advice)).map rAdvice))), (1, (.arr 3 1 ((([] : List Int)).map rI))), (0, (.box 26 [(cI 0), (.s 1 0 1 0), (.s 2 0 4 0)]))]) 0 2 32 4 26 (by decide) rfl rfl rfl rfl rfl) ?_
        have hX : newStand limit cards = ((⟨0, ([] : List Int), ([] : List Advice)⟩ : Stand), 3) := by
          exact newStand_range (by omega) (by first | omega | (simp_all [sumB]; done) | (simp_all [sumB]; omega))
        rw [hX] at hr; clear hX
        simp only [Prod.mk.injEq] at hr; obtain ⟨rfl, rfl⟩ := hr
        refine retQ_mk (av' := outOf [(.g [(cI 0), (.s 0 0 1 0), (.s 1 0 4 0)]), (.c (cI 3))]) (nb' := [(0, (.arr 3 1 ((([] : List Int)).map rI))), (1, (.arr 32 4 ((([] : List Advice)).map rAdvice)))]) (retQ_ret ⟨[(4, (aC (.p 2 0 0 0))), (5, (aI 3))], [(1, (.arr 32 4 ((([] : List Advice)).map rAdvice))), (0, (.arr 3 1 ((([] : List Int)).map rI))), (2, (.box 26 [(cI 0), (.s 0 0 1 0), (.s 1 0 4 0)]))], 3⟩ [.cell 4 26, .tmp 5] [(.g [(cI 0), (.s 0 0 1 0), (.s 1 0 4 0)]), (.c (cI 3))] (Weak.ren (fun k => if k = 0 then 1 else if k = 1 then 2 else if k = 2 then 0 else k) (⟨by first | rfl | (simp only [AV.map, GV.map, CV.map, AB.map', id]; done) | (congr 3; omega) | (congr 4; omega), by first | rfl | (simp only [AV.map, GV.map, CV.map, AB.map', id]; done) | (congr 3; omega) | (congr 4; omega),  trivial⟩) (⟨by first | rfl | (simp only [AV.map, GV.map, CV.map, AB.map', id]; done) | (congr 3; omega) | (congr 4; omega), by first | rfl | (simp only [AV.map, GV.map, CV.map, AB.map', id]; done) | (congr 3; omega) | (congr 4; omega), by first | rfl | (simp only [AV.map, GV.map, CV.map, AB.map', id]; done) | (congr 3; omega) | (congr 4; omega),  trivial⟩) rfl) rfl ⟨.agg rfl rfl (fun _ => run_isAgg Try.underlying26) sz26, .tmp rfl, trivial⟩ ⟨by first | rfl | (simp only [AV.map, GV.map, CV.map, AB.map', id]; done) | (congr 3; omega) | (congr 4; omega), by first | rfl | (simp only [AV.map, GV.map, CV.map, AB.map', id]; done) | (congr 3; omega) | (congr 4; omega),  trivial⟩) ?_ ?_
        · first | rfl | (simp [outOf, aC]; done)
        · first | rfl | (simp; done)
      ·
        have hc3' := hc3; try simp only [Bool.not_eq_true', Bool.not_eq_false', Bool.or_eq_true, Bool.or_eq_false_iff, Bool.and_eq_true, Bool.and_eq_false_imp, decide_eq_true_eq, decide_eq_false_iff_not, Bool.not_not, Bool.not_true, Bool.not_false] at hc3'
        refine AC.skip ?_
        refine then_ok ?_
        refine AC.seq ?_
        refine AC.region ?_
        refine AL.fast 2 rfl ?_
        refine AL.new (n' := 2) (Wanted.plain rfl) (g_makeI 1 sl24 zv3 rfl rfl rfl (n := Int.toNat (cards)) (by first | omega | (simp; done) | (simp; omega)) (by first | omega | (simp; done) | (simp; omega)) (by first | omega | (simp; done) | (simp; omega)) (by first | omega | (simp; done) | (simp; omega))) rfl rfl rfl ?_
        refine AL.val (Wanted.plain rfl) (g_build (ys := [(0, (.c (cI limit))), (1, (.c (.s 1 0 1 (Int.toNat (cards)))))]) rfl bld26 rfl ⟨⟨rfl, rfl⟩, ⟨rfl, rfl⟩,  trivial⟩ rfl rfl) rfl rfl ?_
        refine AL.sto (h' := [(1, (.arr 3 1 ((List.replicate (Int.toNat (cards)) 0).map rI))), (0, (.box 26 [(cI limit), (.s 1 0 1 (Int.toNat (cards))), cN]))]) (Wanted.plain rfl) (g_storeB rfl rfl rfl rfl rfl sz26 rfl (Nat.le_of_ble_eq_true rfl) rfl) rfl rfl rfl rfl ?_
        refine AL.fast 1 rfl ?_
        refine AL.nil ?_
        refine then_ok ?_
        refine AC.ret ?_
        refine retQ_weak (Weak.nilB (n' := 3) (h' := [(2, (.arr 32 4 ((([] : List Advice)).map rAdvice))), (1, (.arr 3 1 ((List.replicate (Int.toNat (cards)) 0).map rI))), (0, (.box 26 [(cI limit), (.s 1 0 1 (Int.toNat (cards))), (.s 2 0 4 0)]))]) 0 2 32 4 26 (by decide) rfl rfl rfl rfl rfl) ?_
        have hX : newStand limit cards = ((⟨limit, List.replicate (Int.toNat (cards)) 0, ([] : List Advice)⟩ : Stand), 0) := by
          unfold newStand; rw [if_neg (by omega), if_neg (by simp only [capB, decide_eq_true_eq]; first | omega | (simp_all [sumB]; done) | (simp_all [sumB]; omega))]
        rw [hX] at hr; clear hX
        simp only [Prod.mk.injEq] at hr; obtain ⟨rfl, rfl⟩ := hr
        refine retQ_mk (av' := outOf [(.g [(cI limit), (.s 0 0 1 (Int.toNat (cards))), (.s 1 0 4 0)]), (.c (cI 0))]) (nb' := [(0, (.arr 3 1 ((List.replicate (Int.toNat (cards)) 0).map rI))), (1, (.arr 32 4 ((([] : List Advice)).map rAdvice)))]) (retQ_ret ⟨[(4, (aC (.p 2 0 0 0))), (5, (aI 0))], [(1, (.arr 32 4 ((([] : List Advice)).map rAdvice))), (0, (.arr 3 1 ((List.replicate (Int.toNat (cards)) 0).map rI))), (2, (.box 26 [(cI limit), (.s 0 0 1 (Int.toNat (cards))), (.s 1 0 4 0)]))], 3⟩ [.cell 4 26, .tmp 5] [(.g [(cI limit), (.s 0 0 1 (Int.toNat (cards))), (.s 1 0 4 0)]), (.c (cI 0))] (Weak.ren (fun k => if k = 0 then 1 else if k = 1 then 2 else if k = 2 then 0 else k) (⟨by first | rfl | (simp only [AV.map, GV.map, CV.map, AB.map', id]; done) | (congr 3; omega) | (congr 4; omega), by first | rfl | (simp only [AV.map, GV.map, CV.map, AB.map', id]; done) | (congr 3; omega) | (congr 4; omega),  trivial⟩) (⟨by first | rfl | (simp only [AV.map, GV.map, CV.map, AB.map', id]; done) | (congr 3; omega) | (congr 4; omega), by first | rfl | (simp only [AV.map, GV.map, CV.map, AB.map', id]; done) | (congr 3; omega) | (congr 4; omega), by first | rfl | (simp only [AV.map, GV.map, CV.map, AB.map', id]; done) | (congr 3; omega) | (congr 4; omega),  trivial⟩) rfl) rfl ⟨.agg rfl rfl (fun _ => run_isAgg Try.underlying26) sz26, .tmp rfl, trivial⟩ ⟨by first | rfl | (simp only [AV.map, GV.map, CV.map, AB.map', id]; done) | (congr 3; omega) | (congr 4; omega), by first | rfl | (simp only [AV.map, GV.map, CV.map, AB.map', id]; done) | (congr 3; omega) | (congr 4; omega),  trivial⟩) ?_ ?_
        · first | rfl | (simp [outOf, aC]; done)
        · first | rfl | (simp; done)
set_option maxRecDepth 100000 in
set_option maxHeartbeats 1000000 in
theorem c_stand_Clear (s : Stand) (x : Stand) (l : List Advice) (e : Int) (hr : clearStand s = (x, l, e)) : Fn Try.prog 37 [(.g [(cI s.cap), (cR 1 ((s.used).map rI)), (cR 4 ((s.advices).map rAdvice))])] (.t [(.g [(cI x.cap), (.s 0 0 1 x.used.length), (.s 1 0 4 x.advices.length)]), (.c (.s 2 0 4 l.length)), (.c (cI e))]) [(0, (.arr 3 1 ((x.used).map rI))), (1, (.arr 32 4 ((x.advices).map rAdvice))), (2, (.arr 32 4 ((l).map rAdvice)))] := by
  refine Fn.mk' 22 [(0, (aG [(cI s.cap), (cR 1 ((s.used).map rI)), (cR 4 ((s.advices).map rAdvice))]))] Try.func37 rfl rfl rfl rfl ?_
  intro W0 T0
  refine AC.lenG 0 1 rfl rfl (fun hlen0_1 => ?_)
  refine AC.lenG 0 2 rfl rfl (fun hlen0_2 => ?_)
  have hrp := @right_parts s
  refine AC.seq ?_
  refine AC.region ?_
  refine AL.new (n' := 1) (Wanted.plain rfl) (g_boxS 0 rfl rfl) rfl rfl rfl ?_
  refine AL.new (n' := 2) (Wanted.plain rfl) (g_alloc 1 rfl zv26 rfl rfl rfl) rfl rfl rfl ?_
  refine AL.fast 2 rfl ?_
  refine AL.nil ?_
  refine then_ok ?_
  refine AC.seq ?_
  refine AC.seq ?_
  refine AC.region ?_
  refine AL.val (Wanted.plain rfl) (g_loadBs rfl rfl rfl Try.underlying26 rfl sz26 rfl rfl) rfl rfl ?_
  obtain ⟨e0, hr0⟩ : ∃ (e0 : Int), wrongStand s = e0 := ⟨_, rfl⟩
  refine AL.call (n' := 2) (h' := [(1, (.box 26 [(cI 0), cN, cN])), (0, (.box 26 [(cI s.cap), (cR 1 ((s.used).map rI)), (cR 4 ((s.advices).map rAdvice))]))]) (Wanted.plain rfl) (g_call 2 (c_stand_WrongN s  e0 hr0) en33 rfl rfl ⟨⟨_, rfl, .g ⟨.d _, .d _, .d _,  trivial⟩⟩,  trivial⟩ trivial trivial rfl rfl rfl rfl) rfl rfl rfl rfl rfl ?_
  refine AL.fast 1 rfl ?_
  refine AL.nil ?_
  refine then_ok ?_
  refine AC.seq ?_
  refine AC.region ?_
  refine AL.fast 1 rfl ?_
  refine AL.val (Wanted.plain rfl) (g_binI rfl rfl rfl rfl) rfl rfl ?_
  refine AL.nil ?_
  refine then_ok ?_
  refine AC.cond rfl (fun hc1 => ?_) (fun hc1 => ?_)
  ·
    have hc1' := hc1; try simp only [Bool.not_eq_true', Bool.not_eq_false', Bool.or_eq_true, Bool.or_eq_false_iff, Bool.and_eq_true, Bool.and_eq_false_imp, decide_eq_true_eq, decide_eq_false_iff_not, Bool.not_not, Bool.not_true, Bool.not_false] at hc1'
    refine AC.seq ?_
    refine AC.region ?_
    refine AL.val (Wanted.plain rfl) (g_build (ys := []) rfl bld26 rfl trivial rfl rfl) rfl rfl ?_
    refine AL.fast 1 rfl ?_
    refine AL.sto (h' := [(1, (.box 26 [(cI 0), cN, cN])), (0, (.box 26 [(cI s.cap), (cR 1 ((s.used).map rI)), (cR 4 ((s.advices).map rAdvice))]))]) (Wanted.plain rfl) (g_storeB rfl rfl rfl rfl rfl sz26 rfl (Nat.le_of_ble_eq_true rfl) rfl) rfl rfl rfl rfl ?_
    refine AL.fast 2 rfl ?_
    refine AL.nil ?_
    refine then_ok ?_
    refine AC.ret ?_
    refine then_ret ?_
    refine retQ_weak (Weak.nilB (n' := 3) (h' := [(2, (.arr 3 1 ((([] : List Int)).map rI))), (1, (.box 26 [(cI 0), (.s 2 0 1 0), cN])), (0, (.box 26 [(cI s.cap), (cR 1 ((s.used).map rI)), (cR 4 ((s.advices).map rAdvice))]))]) 1 1 3 1 26 (by decide) rfl rfl rfl rfl rfl) ?_
    refine retQ_weak (Weak.nilB (n' := 4) (h' := [(3, (.arr 32 4 ((([] : List Advice)).map rAdvice))), (2, (.arr 3 1 ((([] : List Int)).map rI))), (1, (.box 26 [(cI 0), (.s 2 0 1 0), (.s 3 0 4 0)])), (0, (.box 26 [(cI s.cap), (cR 1 ((s.used).map rI)), (cR 4 ((s.advices).map rAdvice))]))]) 1 2 32 4 26 (by decide) rfl rfl rfl rfl rfl) ?_
    refine retQ_weak (Weak.nil 3 32 4 (by decide) rfl) ?_
    have hX : clearStand s = ((⟨0, ([] : List Int), ([] : List Advice)⟩ : Stand), ([] : List Advice), e0) := by
      unfold clearStand; rw [if_pos (by omega), hr0]; rfl
    rw [hX] at hr; clear hX
    simp only [Prod.mk.injEq] at hr; obtain ⟨rfl, rfl, rfl⟩ := hr
    refine retQ_mk (av' := outOf [(.g [(cI 0), (.s 0 0 1 0), (.s 1 0 4 0)]), (.c (.s 2 0 4 0)), (.c (cI e0))]) (nb' := [(0, (.arr 3 1 ((([] : List Int)).map rI))), (1, (.arr 32 4 ((([] : List Advice)).map rAdvice))), (2, (.arr 32 4 ((([] : List Advice)).map rAdvice)))]) (retQ_ret ⟨[(2, (aC (.p 3 0 0 0))), (3, (aC (.s 2 0 4 0))), (4, (aI e0))], [(2, (.arr 32 4 ((([] : List Advice)).map rAdvice))), (1, (.arr 32 4 ((([] : List Advice)).map rAdvice))), (0, (.arr 3 1 ((([] : List Int)).map rI))), (3, (.box 26 [(cI 0), (.s 0 0 1 0), (.s 1 0 4 0)]))], 4⟩ [.cell 2 26, .tmp 3, .tmp 4] [(.g [(cI 0), (.s 0 0 1 0), (.s 1 0 4 0)]), (.c (.s 2 0 4 0)), (.c (cI e0))] (Weak.ren (fun k => if k = 0 then 2 else if k = 1 then 3 else if k = 2 then 4 else if k = 3 then 1 else k) (⟨by first | rfl | (simp only [AV.map, GV.map, CV.map, AB.map', id]; done) | (congr 3; omega) | (congr 4; omega), by first | rfl | (simp only [AV.map, GV.map, CV.map, AB.map', id]; done) | (congr 3; omega) | (congr 4; omega), by first | rfl | (simp only [AV.map, GV.map, CV.map, AB.map', id]; done) | (congr 3; omega) | (congr 4; omega),  trivial⟩) (⟨by first | rfl | (simp only [AV.map, GV.map, CV.map, AB.map', id]; done) | (congr 3; omega) | (congr 4; omega), by first | rfl | (simp only [AV.map, GV.map, CV.map, AB.map', id]; done) | (congr 3; omega) | (congr 4; omega), by first | rfl | (simp only [AV.map, GV.map, CV.map, AB.map', id]; done) | (congr 3; omega) | (congr 4; omega), by first | rfl | (simp only [AV.map, GV.map, CV.map, AB.map', id]; done) | (congr 3; omega) | (congr 4; omega),  trivial⟩) rfl) rfl ⟨.agg rfl rfl (fun _ => run_isAgg Try.underlying26) sz26, .tmp rfl, .tmp rfl, trivial⟩ ⟨by first | rfl | (simp only [AV.map, GV.map, CV.map, AB.map', id]; done) | (congr 3; omega) | (congr 4; omega), by first | rfl | (simp only [AV.map, GV.map, CV.map, AB.map', id]; done) | (congr 3; omega) | (congr 4; omega), by first | rfl | (simp only [AV.map, GV.map, CV.map, AB.map', id]; done) | (congr 3; omega) | (congr 4; omega),  trivial⟩) ?_ ?_
    · first | rfl | (simp [outOf, aC]; done)
    · first | rfl | (simp; done)
  ·
    have hc1' := hc1; try simp only [Bool.not_eq_true', Bool.not_eq_false', Bool.or_eq_true, Bool.or_eq_false_iff, Bool.and_eq_true, Bool.and_eq_false_imp, decide_eq_true_eq, decide_eq_false_iff_not, Bool.not_not, Bool.not_true, Bool.not_false] at hc1'
    refine AC.skip ?_
    refine then_ok ?_
    refine AC.seq ?_
    refine AC.weak (st' := ⟨[(1, (aC (.p 0 0 0 0))), (2, (aC (.p 1 0 0 0))), (3, (aC cN)), (4, (aI 0))], [(1, (.box 26 [(cI 0), cN, cN])), (0, (.box 26 [(cI s.cap), (cR 1 ((s.used).map rI)), (cR 4 ((s.advices).map rAdvice))]))], 2⟩) (Weak.ren id (⟨by first | rfl | (simp only [AV.map, GV.map, CV.map, AB.map', id]; done) | (congr 3; omega) | (congr 4; omega), by first | rfl | (simp only [AV.map, GV.map, CV.map, AB.map', id]; done) | (congr 3; omega) | (congr 4; omega), by first | rfl | (simp only [AV.map, GV.map, CV.map, AB.map', id]; done) | (congr 3; omega) | (congr 4; omega), by first | rfl | (simp only [AV.map, GV.map, CV.map, AB.map', id]; done) | (congr 3; omega) | (congr 4; omega),  trivial⟩) (⟨by first | rfl | (simp only [AV.map, GV.map, CV.map, AB.map', id]; done) | (congr 3; omega) | (congr 4; omega), by first | rfl | (simp only [AV.map, GV.map, CV.map, AB.map', id]; done) | (congr 3; omega) | (congr 4; omega),  trivial⟩) rfl) ?_
    refine AC.draw [⟨some 12, (aC (.p 0 0 0 0)), [], [], [], [(1, (aC (.p 0 0 0 0)))], [(0, (.box 26 [(cI s.cap), (cR 1 ((s.used).map rI)), (cR 4 ((s.advices).map rAdvice))]))]⟩,
      ⟨some 13, (aI s.cap), [], [], [0], [(12, (aC (.p 0 0 0 0)))], [(0, (.box 26 [(cI s.cap), (cR 1 ((s.used).map rI)), (cR 4 ((s.advices).map rAdvice))]))]⟩,
      ⟨some 14, (aC (.p 0 0 0 1)), [], [], [], [(1, (aC (.p 0 0 0 0)))], [(0, (.box 26 [(cI s.cap), (cR 1 ((s.used).map rI)), (cR 4 ((s.advices).map rAdvice))]))]⟩,
      ⟨some 15, (aC (cR 1 ((s.used).map rI))), [], [], [2], [(14, (aC (.p 0 0 0 1)))], [(0, (.box 26 [(cI s.cap), (cR 1 ((s.used).map rI)), (cR 4 ((s.advices).map rAdvice))]))]⟩,
      ⟨some 16, (aI (↑s.used.length : Int)), [], [], [3], [(15, (aC (cR 1 ((s.used).map rI))))], []⟩,
      ⟨some 17, (aC (.s 2 0 1 s.used.length)), [(2, (.arr 3 1 ((List.replicate s.used.length 0).map rI)))], [], [4], [(16, (aI (↑s.used.length : Int)))], []⟩,
      ⟨some 18, (aG [(cI s.cap), (.s 2 0 1 s.used.length), cN]), [], [], [1, 5], [(13, (aI s.cap)), (17, (aC (.s 2 0 1 s.used.length)))], [(2, (.arr 3 1 ((List.replicate s.used.length 0).map rI)))]⟩,
      ⟨some 19, (aC (.p 0 0 0 2)), [], [], [], [(1, (aC (.p 0 0 0 0)))], [(0, (.box 26 [(cI s.cap), (cR 1 ((s.used).map rI)), (cR 4 ((s.advices).map rAdvice))]))]⟩,
      ⟨some 20, (aC (cR 4 ((s.advices).map rAdvice))), [], [], [7], [(19, (aC (.p 0 0 0 2)))], [(0, (.box 26 [(cI s.cap), (cR 1 ((s.used).map rI)), (cR 4 ((s.advices).map rAdvice))]))]⟩,
      ⟨some 21, (aC (.s 3 0 4 s.advices.length)), [(3, (.arr 32 4 ((s.advices).map rAdvice)))], [], [8], [(20, (aC (cR 4 ((s.advices).map rAdvice))))], []⟩] ⟨[(1, (aC (.p 0 0 0 0))), (2, (aC (.p 1 0 0 0))), (3, (aC cN)), (4, (aI 0)), (18, (aG [(cI s.cap), (.s 2 0 1 s.used.length), cN])), (21, (aC (.s 3 0 4 s.advices.length)))], [(3, (.arr 32 4 ((s.advices).map rAdvice))), (2, (.arr 3 1 ((List.replicate s.used.length 0).map rI))), (1, (.box 26 [(cI 0), cN, cN])), (0, (.box 26 [(cI s.cap), (cR 1 ((s.used).map rI)), (cR 4 ((s.advices).map rAdvice))]))], 4⟩ mixed (by kernel_rfl) ?_ ?_ ?_ ?_
    · exact ⟨.inl ⟨(Wanted.plain rfl), GOp.cast (g_fieldP rfl rfl Try.underlying26 rfl sz3 (by decide)) rfl⟩,
      .inl ⟨(Wanted.plain rfl), GOp.cast (g_loadB rfl rfl rfl Try.underlying3 rfl rfl) rfl⟩,
      .inl ⟨(Wanted.plain rfl), GOp.cast (g_fieldP rfl rfl Try.underlying26 rfl sz24 (by decide)) rfl⟩,
      .inl ⟨(Wanted.plain rfl), GOp.cast (g_loadB rfl rfl rfl Try.underlying24 rfl rfl) rfl⟩,
      .inl ⟨(Wanted.plain rfl), GOp.cast (g_lenM rfl rfl rfl rfl rfl Try.underlying24) rfl⟩,
      .inl ⟨(Wanted.plain rfl), GOp.cast (g_makeI 2 sl24 zv3 rfl rfl rfl (n := s.used.length) (by first | omega | (simp; done) | (simp; omega)) (by first | omega | (simp; done) | (simp; omega)) (by first | omega | (simp; done) | (simp; omega)) (by first | omega | (simp; done) | (simp; omega))) rfl⟩,
      .inl ⟨(Wanted.plain rfl), GOp.cast (g_build (ys := [(0, (.c (cI s.cap))), (1, (.c (.s 2 0 1 s.used.length)))]) rfl bld26 rfl ⟨⟨rfl, rfl⟩, ⟨rfl, rfl⟩,  trivial⟩ rfl rfl) rfl⟩,
      .inl ⟨(Wanted.plain rfl), GOp.cast (g_fieldP rfl rfl Try.underlying26 rfl sz22 (by decide)) rfl⟩,
      .inl ⟨(Wanted.plain rfl), GOp.cast (g_loadB rfl rfl rfl Try.underlying22 rfl rfl) rfl⟩,
      .inl ⟨(Wanted.plain rfl), GOp.cast (g_call 3 (c_Clone_Advice s.advices (by first | omega | (simp; done) | (simp; omega)) ) en102 rfl rfl ⟨⟨_, rfl, .c (.d _)⟩,  trivial⟩ trivial ⟨(fun _ _ _ _ => trivial),  trivial⟩ rfl rfl rfl rfl) rfl⟩,
       trivial⟩
    · exact ⟨⟨⟨.inl rfl,  trivial⟩, ⟨.inl rfl,  trivial⟩⟩, ⟨⟨.inr ⟨0, .head _, _, rfl, rfl, rfl⟩,  trivial⟩, ⟨.inl rfl,  trivial⟩⟩, ⟨⟨.inl rfl,  trivial⟩, ⟨.inl rfl,  trivial⟩⟩, ⟨⟨.inr ⟨2, .head _, _, rfl, rfl, rfl⟩,  trivial⟩, ⟨.inl rfl,  trivial⟩⟩, ⟨⟨.inr ⟨3, .head _, _, rfl, rfl, rfl⟩,  trivial⟩, trivial⟩, ⟨⟨.inr ⟨4, .head _, _, rfl, rfl, rfl⟩,  trivial⟩, trivial⟩, ⟨⟨.inr ⟨1, .head _, _, rfl, rfl, rfl⟩, .inr ⟨5, .tail _ (.head _), _, rfl, rfl, rfl⟩,  trivial⟩, ⟨.inr ⟨5, .tail _ (.head _), _, rfl, .head _⟩,  trivial⟩⟩, ⟨⟨.inl rfl,  trivial⟩, ⟨.inl rfl,  trivial⟩⟩, ⟨⟨.inr ⟨7, .head _, _, rfl, rfl, rfl⟩,  trivial⟩, ⟨.inl rfl,  trivial⟩⟩, ⟨⟨.inr ⟨8, .head _, _, rfl, rfl, rfl⟩,  trivial⟩, trivial⟩,  trivial⟩
    · exact ⟨⟨.inl rfl, .inl rfl, .inl rfl, .inl rfl, .inr ⟨6, _, rfl, rfl, rfl⟩, .inr ⟨9, _, rfl, rfl, rfl⟩,  trivial⟩, ⟨.inr ⟨9, _, rfl, .head _⟩, .inr ⟨5, _, rfl, .head _⟩, .inl rfl, .inl rfl,  trivial⟩⟩
    ·
      refine AL.sto (h' := [(3, (.arr 32 4 ((s.advices).map rAdvice))), (2, (.arr 3 1 ((List.replicate s.used.length 0).map rI))), (1, (.box 26 [(cI s.cap), (.s 2 0 1 s.used.length), cN])), (0, (.box 26 [(cI s.cap), (cR 1 ((s.used).map rI)), (cR 4 ((s.advices).map rAdvice))]))]) (Wanted.plain rfl) (g_storeB rfl rfl rfl rfl rfl sz26 rfl (Nat.le_of_ble_eq_true rfl) rfl) rfl rfl rfl rfl ?_
      refine AL.fast 2 rfl ?_
      refine AL.nil ?_
      refine then_ok ?_
      refine AC.ret ?_
      refine retQ_weak (Weak.nilB (n' := 5) (h' := [(4, (.arr 32 4 ((([] : List Advice)).map rAdvice))), (3, (.arr 32 4 ((s.advices).map rAdvice))), (2, (.arr 3 1 ((List.replicate s.used.length 0).map rI))), (1, (.box 26 [(cI s.cap), (.s 2 0 1 s.used.length), (.s 4 0 4 0)])), (0, (.box 26 [(cI s.cap), (cR 1 ((s.used).map rI)), (cR 4 ((s.advices).map rAdvice))]))]) 1 2 32 4 26 (by decide) rfl rfl rfl rfl rfl) ?_
      have hX : clearStand s = ((⟨s.cap, List.replicate s.used.length 0, ([] : List Advice)⟩ : Stand), s.advices, 0) := by
        unfold clearStand; rw [if_neg (by omega)]
      rw [hX] at hr; clear hX
      simp only [Prod.mk.injEq] at hr; obtain ⟨rfl, rfl, rfl⟩ := hr
      refine retQ_mk (av' := outOf [(.g [(cI s.cap), (.s 0 0 1 s.used.length), (.s 1 0 4 0)]), (.c (.s 2 0 4 s.advices.length)), (.c (cI 0))]) (nb' := [(0, (.arr 3 1 ((List.replicate s.used.length 0).map rI))), (1, (.arr 32 4 ((([] : List Advice)).map rAdvice))), (2, (.arr 32 4 ((s.advices).map rAdvice)))]) (retQ_ret ⟨[(2, (aC (.p 3 0 0 0))), (3, (aC (.s 2 0 4 s.advices.length))), (4, (aI 0))], [(1, (.arr 32 4 ((([] : List Advice)).map rAdvice))), (2, (.arr 32 4 ((s.advices).map rAdvice))), (0, (.arr 3 1 ((List.replicate s.used.length 0).map rI))), (3, (.box 26 [(cI s.cap), (.s 0 0 1 s.used.length), (.s 1 0 4 0)]))], 4⟩ [.cell 2 26, .tmp 3, .tmp 4] [(.g [(cI s.cap), (.s 0 0 1 s.used.length), (.s 1 0 4 0)]), (.c (.s 2 0 4 s.advices.length)), (.c (cI 0))] (Weak.ren (fun k => if k = 0 then 2 else if k = 1 then 4 else if k = 2 then 3 else if k = 3 then 1 else k) (⟨by first | rfl | (simp only [AV.map, GV.map, CV.map, AB.map', id]; done) | (congr 3; omega) | (congr 4; omega), by first | rfl | (simp only [AV.map, GV.map, CV.map, AB.map', id]; done) | (congr 3; omega) | (congr 4; omega), by first | rfl | (simp only [AV.map, GV.map, CV.map, AB.map', id]; done) | (congr 3; omega) | (congr 4; omega),  trivial⟩) (⟨by first | rfl | (simp only [AV.map, GV.map, CV.map, AB.map', id]; done) | (congr 3; omega) | (congr 4; omega), by first | rfl | (simp only [AV.map, GV.map, CV.map, AB.map', id]; done) | (congr 3; omega) | (congr 4; omega), by first | rfl | (simp only [AV.map, GV.map, CV.map, AB.map', id]; done) | (congr 3; omega) | (congr 4; omega), by first | rfl | (simp only [AV.map, GV.map, CV.map, AB.map', id]; done) | (congr 3; omega) | (congr 4; omega),  trivial⟩) rfl) rfl ⟨.agg rfl rfl (fun _ => run_isAgg Try.underlying26) sz26, .tmp rfl, .tmp rfl, trivial⟩ ⟨by first | rfl | (simp only [AV.map, GV.map, CV.map, AB.map', id]; done) | (congr 3; omega) | (congr 4; omega), by first | rfl | (simp only [AV.map, GV.map, CV.map, AB.map', id]; done) | (congr 3; omega) | (congr 4; omega), by first | rfl | (simp only [AV.map, GV.map, CV.map, AB.map', id]; done) | (congr 3; omega) | (congr 4; omega),  trivial⟩) ?_ ?_
      · first | rfl | (simp [outOf, aC]; done)
      · first | rfl | (simp; done)
end Go.Proofs.Ytgmcdlfmifijlaa.Dev
