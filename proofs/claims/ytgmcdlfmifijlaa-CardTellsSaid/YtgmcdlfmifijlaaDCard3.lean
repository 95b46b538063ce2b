/- cards: Shift. -/
import Derived.Test.YtgmcdlfmifijlaaDCard2
set_option linter.unusedVariables false
set_option linter.unusedSimpArgs false
namespace Go.Proofs.Ytgmcdlfmifijlaa.Dev
open Go.RowKit

set_option maxRecDepth 100000 in
set_option maxHeartbeats 1000000 in
theorem c_big (n : Int) : Fn Try.prog 114 [(.c (cI n))] (aB (bigC n)) [] := by
  refine Fn.mk' 9 [(0, (aI n))] Try.func114 rfl rfl rfl rfl ?_
  intro W0 T0
  refine AC.seq ?_
  refine AC.region ?_
  refine AL.fast 1 rfl ?_
  refine AL.nil ?_
  refine then_ok ?_
  refine AC.cutB 2 ((decide (n > 1000000000000)) || (decide (n < (-1000000000000)))) ?_ ?_
  ·
    refine AC.region ?_
    refine AL.fast 1 rfl ?_
    refine AL.val (Wanted.plain rfl) (g_binI rfl rfl rfl rfl) rfl rfl ?_
    refine AL.fast 1 rfl ?_
    refine AL.dec (t := 5) rfl (fun hb1 => ?_) (fun hb1 => ?_)
    ·
      have hb1' := hb1; try simp only [sumB, Bool.not_eq_true', Bool.not_eq_false', Bool.or_eq_true, Bool.or_eq_false_iff, Bool.and_eq_true, Bool.and_eq_false_imp, decide_eq_true_eq, decide_eq_false_iff_not, Bool.not_not, Bool.not_true, Bool.not_false] at hb1'
      refine AL.fast 4 rfl ?_
      refine AL.nil ?_
      refine then_ok ?_
      exact Weak.popB 8 rfl rfl (by first | (simp [hb1]; done) | (simp_all; done) | (exfalso; simp_all; done) | (simp_all; omega)) rfl
    ·
      have hb1' := hb1; try simp only [sumB, Bool.not_eq_true', Bool.not_eq_false', Bool.or_eq_true, Bool.or_eq_false_iff, Bool.and_eq_true, Bool.and_eq_false_imp, decide_eq_true_eq, decide_eq_false_iff_not, Bool.not_not, Bool.not_true, Bool.not_false] at hb1'
      refine AL.fast 1 rfl ?_
      refine AL.val (Wanted.yes rfl rfl rfl) (g_binI rfl rfl rfl rfl) rfl rfl ?_
      refine AL.fast 2 rfl ?_
      refine AL.nil ?_
      refine then_ok ?_
      exact Weak.popB 8 rfl rfl (by first | (simp [hb1]; done) | (simp_all; done) | (exfalso; simp_all; done) | (simp_all; omega)) rfl
  ·
    refine AC.ret ?_
    refine retQ_mk (av' := outOf [(.c (cB ((decide (n > 1000000000000)) || (decide (n < (-1000000000000))))))]) (nb' := []) (retQ_ret ⟨[(2, (aB ((decide (n > 1000000000000)) || (decide (n < (-1000000000000))))))], [], 0⟩ [.tmp 2] [(.c (cB ((decide (n > 1000000000000)) || (decide (n < (-1000000000000))))))] (Weak.ren id (⟨by first | rfl | (simp only [AV.map, GV.map, CV.map, AB.map', id]; done) | (congr 3; omega) | (congr 4; omega) | (simp only [List.length_append, List.length_cons, List.length_nil, List.length_set]; rfl),  trivial⟩) (trivial) rfl) rfl ⟨.tmp rfl, trivial⟩ trivial) ?_ ?_
    · first | rfl | (simp [outOf, aC]; done) | (simp [outOf, aC]; omega)
    · rfl
set_option maxRecDepth 100000 in
set_option maxHeartbeats 1000000 in
theorem c_card_Shift (c : Card) (held money : Int) (x : Card) (e : Int) (hr : shiftC c held money = (x, e)) : Fn Try.prog 74 [(.g [(cI c.money), (cI c.held), (cI c.pace.ticks), (cI c.pace.count), (cI c.pace.sum), (cR 2 ((c.uses).map rUse))]), (.c (cI held)), (.c (cI money))] (.t [(.g [(cI x.money), (cI x.held), (cI x.pace.ticks), (cI x.pace.count), (cI x.pace.sum), (.s 0 0 2 x.uses.length)]), (.c (cI e))]) [(0, (.arr 44 2 ((x.uses).map rUse)))] := by
  refine Fn.mk' 52 [(0, (aG [(cI c.money), (cI c.held), (cI c.pace.ticks), (cI c.pace.count), (cI c.pace.sum), (cR 2 ((c.uses).map rUse))])), (1, (aI held)), (2, (aI money))] Try.func74 rfl rfl rfl rfl ?_
  intro W0 T0
  refine AC.lenG 0 5 rfl rfl (fun hlen0_5 => ?_)
  have hrc := @rightC c
  have hrl := @rightC_len c
  refine AC.seq ?_
  refine AC.region ?_
  refine AL.new (n' := 1) (Wanted.plain rfl) (g_boxS 0 rfl rfl) rfl rfl rfl ?_
  refine AL.new (n' := 2) (Wanted.plain rfl) (g_alloc 1 rfl zv92 rfl rfl rfl) rfl rfl rfl ?_
  refine AL.fast 1 rfl ?_
  refine AL.nil ?_
  refine then_ok ?_
  refine AC.seq ?_
  refine AC.seq ?_
  refine AC.region ?_
  refine AL.val (Wanted.plain rfl) (g_loadBs rfl rfl rfl Try.underlying92 rfl sz92 rfl rfl) rfl rfl ?_
  obtain ⟨e0, hr0⟩ : ∃ (e0 : Int), wrongC c = e0 := ⟨_, rfl⟩
  refine AL.call (n' := 2) (h' := [(1, (.box 92 [(cI 0), (cI 0), (cI 0), (cI 0), (cI 0), cN])), (0, (.box 92 [(cI c.money), (cI c.held), (cI c.pace.ticks), (cI c.pace.count), (cI c.pace.sum), (cR 2 ((c.uses).map rUse))]))]) (Wanted.plain rfl) (g_call 2 (c_card_Wrong c  e0 hr0) en72 rfl rfl ⟨⟨_, rfl, .g ⟨.d _, .d _, .d _, .d _, .d _, .d _,  trivial⟩⟩,  trivial⟩ trivial trivial rfl rfl rfl rfl) rfl rfl rfl rfl rfl ?_
  refine AL.fast 1 rfl ?_
  refine AL.nil ?_
  refine then_ok ?_
  refine AC.seq ?_
  refine AC.region ?_
  refine AL.fast 1 rfl ?_
  refine AL.val (Wanted.plain rfl) (g_binI rfl rfl rfl rfl) rfl rfl ?_
  refine AL.nil ?_
  refine then_ok ?_
  refine AC.cond rfl (fun hc1 => ?_) (fun hc1 => ?_)
  ·
    have hc1' := hc1; try simp only [sumB, Bool.not_eq_true', Bool.not_eq_false', Bool.or_eq_true, Bool.or_eq_false_iff, Bool.and_eq_true, Bool.and_eq_false_imp, decide_eq_true_eq, decide_eq_false_iff_not, Bool.not_not, Bool.not_true, Bool.not_false] at hc1'
    refine AC.seq ?_
    refine AC.region ?_
    refine AL.val (Wanted.plain rfl) (g_build (ys := []) rfl bld92 rfl trivial rfl rfl) rfl rfl ?_
    refine AL.fast 1 rfl ?_
    refine AL.sto (h' := [(1, (.box 92 [(cI 0), (cI 0), (cI 0), (cI 0), (cI 0), cN])), (0, (.box 92 [(cI c.money), (cI c.held), (cI c.pace.ticks), (cI c.pace.count), (cI c.pace.sum), (cR 2 ((c.uses).map rUse))]))]) (Wanted.plain rfl) (g_storeB rfl rfl rfl rfl rfl sz92 rfl (Nat.le_of_ble_eq_true rfl) rfl) rfl rfl rfl rfl ?_
    refine AL.fast 1 rfl ?_
    refine AL.nil ?_
    refine then_ok ?_
    refine AC.ret ?_
    refine then_ret ?_
    refine retQ_weak (Weak.nilB (n' := 3) (h' := [(2, (.arr 44 2 ((([] : List Use)).map rUse))), (1, (.box 92 [(cI 0), (cI 0), (cI 0), (cI 0), (cI 0), (.s 2 0 2 0)])), (0, (.box 92 [(cI c.money), (cI c.held), (cI c.pace.ticks), (cI c.pace.count), (cI c.pace.sum), (cR 2 ((c.uses).map rUse))]))]) 1 5 44 2 92 (by decide) rfl rfl rfl rfl rfl) ?_
    have hX : shiftC c held money = ((⟨0, 0, (⟨0, 0, 0⟩ : Pace), ([] : List Use)⟩ : Card), e0) := by
      unfold shiftC; rw [if_pos (by omega), hr0]; rfl
    rw [hX] at hr; clear hX
    simp only [Prod.mk.injEq] at hr; obtain ⟨rfl, rfl⟩ := hr
    refine retQ_mk (av' := outOf [(.g [(cI 0), (cI 0), (cI 0), (cI 0), (cI 0), (.s 0 0 2 0)]), (.c (cI e0))]) (nb' := [(0, (.arr 44 2 ((([] : List Use)).map rUse)))]) (retQ_ret ⟨[(6, (aC (.p 1 0 0 0))), (7, (aI e0))], [(0, (.arr 44 2 ((([] : List Use)).map rUse))), (1, (.box 92 [(cI 0), (cI 0), (cI 0), (cI 0), (cI 0), (.s 0 0 2 0)]))], 2⟩ [.cell 6 92, .tmp 7] [(.g [(cI 0), (cI 0), (cI 0), (cI 0), (cI 0), (.s 0 0 2 0)]), (.c (cI e0))] (Weak.ren (fun k => if k = 0 then 2 else if k = 1 then 1 else k) (⟨by first | rfl | (simp only [AV.map, GV.map, CV.map, AB.map', id]; done) | (congr 3; omega) | (congr 4; omega) | (simp only [List.length_append, List.length_cons, List.length_nil, List.length_set]; rfl), by first | rfl | (simp only [AV.map, GV.map, CV.map, AB.map', id]; done) | (congr 3; omega) | (congr 4; omega) | (simp only [List.length_append, List.length_cons, List.length_nil, List.length_set]; rfl),  trivial⟩) (⟨by first | rfl | (simp only [AV.map, GV.map, CV.map, AB.map', id]; done) | (congr 3; omega) | (congr 4; omega) | (simp only [List.length_append, List.length_cons, List.length_nil, List.length_set]; rfl), by first | rfl | (simp only [AV.map, GV.map, CV.map, AB.map', id]; done) | (congr 3; omega) | (congr 4; omega) | (simp only [List.length_append, List.length_cons, List.length_nil, List.length_set]; rfl),  trivial⟩) rfl) rfl ⟨.agg rfl rfl (fun _ => run_isAgg Try.underlying92) sz92, .tmp rfl, trivial⟩ ⟨by first | rfl | (simp only [AV.map, GV.map, CV.map, AB.map', id]; done) | (congr 3; omega) | (congr 4; omega) | (simp only [List.length_append, List.length_cons, List.length_nil, List.length_set]; rfl),  trivial⟩) ?_ ?_
    · first | rfl | (simp [outOf, aC]; done) | (simp [outOf, aC]; omega)
    · first | rfl | (simp; done) | (simp; omega)
  ·
    have hc1' := hc1; try simp only [sumB, Bool.not_eq_true', Bool.not_eq_false', Bool.or_eq_true, Bool.or_eq_false_iff, Bool.and_eq_true, Bool.and_eq_false_imp, decide_eq_true_eq, decide_eq_false_iff_not, Bool.not_not, Bool.not_true, Bool.not_false] at hc1'
    refine AC.skip ?_
    refine then_ok ?_
    refine AC.seq ?_
    refine AC.seq ?_
    refine AC.region ?_
    refine AL.fast 2 rfl ?_
    refine AL.new (n' := 3) (Wanted.plain rfl) (g_lit (ys := [(0, (.c (cI held))), (1, (.c (cI money)))]) (rows := ([held, money]).map rI) 2 sl24 rfl (by decide) ⟨⟨rfl, rfl⟩, ⟨rfl, rfl⟩,  trivial⟩ rfl rfl rfl rfl) rfl rfl rfl ?_
    refine AL.val (Wanted.plain rfl) (g_lenS rfl rfl rfl rfl rfl Try.underlying24) rfl rfl ?_
    refine AL.fast 1 rfl ?_
    refine AL.nil ?_
    refine then_ok ?_
    refine AC.block ?_
    refine AC.loop (β := Nat) (fun (q : Nat) => ⟨[(1, (aI held)), (2, (aI money)), (3, (aC (.p 0 0 0 0))), (6, (aC (.p 1 0 0 0))), (20, (aC (.s 2 0 1 2))), (21, (aI 2)), (22, (aI (↑q : Int)))], [(2, (.arr 3 1 (([held, money]).map rI))), (1, (.box 92 [(cI 0), (cI 0), (cI 0), (cI 0), (cI 0), cN])), (0, (.box 92 [(cI c.money), (cI c.held), (cI c.pace.ticks), (cI c.pace.count), (cI c.pace.sum), (cR 2 ((c.uses).map rUse))]))], 3⟩) (fun (q : Nat) => q ≤ 2 ∧ (0 < q → -1000000000000 ≤ held ∧ held ≤ 1000000000000) ∧ (1 < q → -1000000000000 ≤ money ∧ money ≤ 1000000000000)) (fun (q : Nat) => 2 - q) 0 ?_ ?_ ?_
    · exact ⟨by omega, by omega, by omega⟩
    · exact Weak.ren id (⟨by first | rfl | (simp only [AV.map, GV.map, CV.map, AB.map', id]; done) | (congr 3; omega) | (congr 4; omega) | (simp only [List.length_append, List.length_cons, List.length_nil, List.length_set]; rfl), by first | rfl | (simp only [AV.map, GV.map, CV.map, AB.map', id]; done) | (congr 3; omega) | (congr 4; omega) | (simp only [List.length_append, List.length_cons, List.length_nil, List.length_set]; rfl), by first | rfl | (simp only [AV.map, GV.map, CV.map, AB.map', id]; done) | (congr 3; omega) | (congr 4; omega) | (simp only [List.length_append, List.length_cons, List.length_nil, List.length_set]; rfl), by first | rfl | (simp only [AV.map, GV.map, CV.map, AB.map', id]; done) | (congr 3; omega) | (congr 4; omega) | (simp only [List.length_append, List.length_cons, List.length_nil, List.length_set]; rfl), by first | rfl | (simp only [AV.map, GV.map, CV.map, AB.map', id]; done) | (congr 3; omega) | (congr 4; omega) | (simp only [List.length_append, List.length_cons, List.length_nil, List.length_set]; rfl), by first | rfl | (simp only [AV.map, GV.map, CV.map, AB.map', id]; done) | (congr 3; omega) | (congr 4; omega) | (simp only [List.length_append, List.length_cons, List.length_nil, List.length_set]; rfl), by first | rfl | (simp only [AV.map, GV.map, CV.map, AB.map', id]; done) | (congr 3; omega) | (congr 4; omega) | (simp only [List.length_append, List.length_cons, List.length_nil, List.length_set]; rfl),  trivial⟩) (⟨by first | rfl | (simp only [AV.map, GV.map, CV.map, AB.map', id]; done) | (congr 3; omega) | (congr 4; omega) | (simp only [List.length_append, List.length_cons, List.length_nil, List.length_set]; rfl), by first | rfl | (simp only [AV.map, GV.map, CV.map, AB.map', id]; done) | (congr 3; omega) | (congr 4; omega) | (simp only [List.length_append, List.length_cons, List.length_nil, List.length_set]; rfl), by first | rfl | (simp only [AV.map, GV.map, CV.map, AB.map', id]; done) | (congr 3; omega) | (congr 4; omega) | (simp only [List.length_append, List.length_cons, List.length_nil, List.length_set]; rfl),  trivial⟩) rfl
    ·
      rintro q ⟨hi0_0, hi0_1, hi0_2⟩
      refine AC.seq ?_
      refine AC.region ?_
      refine AL.val (Wanted.plain rfl) (g_binI rfl rfl rfl rfl) rfl rfl ?_
      refine AL.nil ?_
      refine then_ok ?_
      refine AC.seq ?_
      refine AC.cond rfl (fun hc2 => ?_) (fun hc2 => ?_)
      ·
        have hc2' := hc2; try simp only [sumB, Bool.not_eq_true', Bool.not_eq_false', Bool.or_eq_true, Bool.or_eq_false_iff, Bool.and_eq_true, Bool.and_eq_false_imp, decide_eq_true_eq, decide_eq_false_iff_not, Bool.not_not, Bool.not_true, Bool.not_false] at hc2'
        refine AC.skip ?_
        refine then_ok ?_
        refine AC.seq ?_
        refine AC.block ?_
        refine AC.seq ?_
        refine AC.region ?_
        refine AL.val (Wanted.plain rfl) (g_indexP0 (i := q) rfl rfl rfl Try.underlying24 sz3 (by first | omega | (simp; done) | (simp; omega)) (by first | omega | (simp; done) | (simp; omega))) rfl rfl ?_
        obtain ⟨x1, hx1⟩ := exget (xs := ([held, money] : List Int)) (i := q) (by first | omega | (simp; done) | (simp; omega))
        have hx1v := get2 hx1
        refine AL.val (Wanted.plain rfl) (g_loadA rfl rfl rfl Try.underlying3 rfl (getmap hx1) rfl) rfl rfl ?_
        refine AL.fast 1 rfl ?_
        refine AL.nil ?_
        refine then_ok ?_
        refine AC.cutB 31 ((decide (x1 < (-1000000000000))) || (decide (x1 > 1000000000000))) ?_ ?_
        ·
          refine AC.region ?_
          refine AL.fast 1 rfl ?_
          refine AL.val (Wanted.plain rfl) (g_binI rfl rfl rfl rfl) rfl rfl ?_
          refine AL.fast 1 rfl ?_
          refine AL.dec (t := 28) rfl (fun hb3 => ?_) (fun hb3 => ?_)
          ·
            have hb3' := hb3; try simp only [sumB, Bool.not_eq_true', Bool.not_eq_false', Bool.or_eq_true, Bool.or_eq_false_iff, Bool.and_eq_true, Bool.and_eq_false_imp, decide_eq_true_eq, decide_eq_false_iff_not, Bool.not_not, Bool.not_true, Bool.not_false] at hb3'
            refine AL.fast 3 rfl ?_
            refine AL.nil ?_
            refine then_ok ?_
            exact Weak.popB 7 rfl rfl (by first | (simp [hb3]; done) | (simp_all; done) | (exfalso; simp_all; done) | (simp_all; omega)) rfl
          ·
            have hb3' := hb3; try simp only [sumB, Bool.not_eq_true', Bool.not_eq_false', Bool.or_eq_true, Bool.or_eq_false_iff, Bool.and_eq_true, Bool.and_eq_false_imp, decide_eq_true_eq, decide_eq_false_iff_not, Bool.not_not, Bool.not_true, Bool.not_false] at hb3'
            refine AL.fast 1 rfl ?_
            refine AL.val (Wanted.yes rfl rfl rfl) (g_binI rfl rfl rfl rfl) rfl rfl ?_
            refine AL.fast 1 rfl ?_
            refine AL.nil ?_
            refine then_ok ?_
            exact Weak.popB 7 rfl rfl (by first | (simp [hb3]; done) | (simp_all; done) | (exfalso; simp_all; done) | (simp_all; omega)) rfl
        ·
          refine AC.cond rfl (fun hc4 => ?_) (fun hc4 => ?_)
          ·
            have hc4' := hc4; try simp only [sumB, Bool.not_eq_true', Bool.not_eq_false', Bool.or_eq_true, Bool.or_eq_false_iff, Bool.and_eq_true, Bool.and_eq_false_imp, decide_eq_true_eq, decide_eq_false_iff_not, Bool.not_not, Bool.not_true, Bool.not_false] at hc4'
            refine AC.seq ?_
            refine AC.region ?_
            refine AL.val (Wanted.plain rfl) (g_build (ys := []) rfl bld92 rfl trivial rfl rfl) rfl rfl ?_
            refine AL.sto (h' := [(2, (.arr 3 1 (([held, money]).map rI))), (1, (.box 92 [(cI 0), (cI 0), (cI 0), (cI 0), (cI 0), cN])), (0, (.box 92 [(cI c.money), (cI c.held), (cI c.pace.ticks), (cI c.pace.count), (cI c.pace.sum), (cR 2 ((c.uses).map rUse))]))]) (Wanted.plain rfl) (g_storeB rfl rfl rfl rfl rfl sz92 rfl (Nat.le_of_ble_eq_true rfl) rfl) rfl rfl rfl rfl ?_
            refine AL.fast 1 rfl ?_
            refine AL.nil ?_
            refine then_ok ?_
            refine AC.ret ?_
            refine block_ret ?_
            refine then_ret ?_
            refine then_ret ?_
            refine block_ret ?_
            refine then_ret ?_
            refine retQ_weak (Weak.nilB (n' := 4) (h' := [(3, (.arr 44 2 ((([] : List Use)).map rUse))), (2, (.arr 3 1 (([held, money]).map rI))), (1, (.box 92 [(cI 0), (cI 0), (cI 0), (cI 0), (cI 0), (.s 3 0 2 0)])), (0, (.box 92 [(cI c.money), (cI c.held), (cI c.pace.ticks), (cI c.pace.count), (cI c.pace.sum), (cR 2 ((c.uses).map rUse))]))]) 1 5 44 2 92 (by decide) rfl rfl rfl rfl rfl) ?_
            have hX : shiftC c held money = ((⟨0, 0, (⟨0, 0, 0⟩ : Pace), ([] : List Use)⟩ : Card), 3) := by
              unfold shiftC; rw [if_neg (by omega), if_pos (by omega)]; rfl
            rw [hX] at hr; clear hX
            simp only [Prod.mk.injEq] at hr; obtain ⟨rfl, rfl⟩ := hr
            refine retQ_mk (av' := outOf [(.g [(cI 0), (cI 0), (cI 0), (cI 0), (cI 0), (.s 0 0 2 0)]), (.c (cI 3))]) (nb' := [(0, (.arr 44 2 ((([] : List Use)).map rUse)))]) (retQ_ret ⟨[(6, (aC (.p 1 0 0 0))), (7, (aI 3))], [(0, (.arr 44 2 ((([] : List Use)).map rUse))), (1, (.box 92 [(cI 0), (cI 0), (cI 0), (cI 0), (cI 0), (.s 0 0 2 0)]))], 2⟩ [.cell 6 92, .tmp 7] [(.g [(cI 0), (cI 0), (cI 0), (cI 0), (cI 0), (.s 0 0 2 0)]), (.c (cI 3))] (Weak.ren (fun k => if k = 0 then 3 else if k = 1 then 1 else k) (⟨by first | rfl | (simp only [AV.map, GV.map, CV.map, AB.map', id]; done) | (congr 3; omega) | (congr 4; omega) | (simp only [List.length_append, List.length_cons, List.length_nil, List.length_set]; rfl), by first | rfl | (simp only [AV.map, GV.map, CV.map, AB.map', id]; done) | (congr 3; omega) | (congr 4; omega) | (simp only [List.length_append, List.length_cons, List.length_nil, List.length_set]; rfl),  trivial⟩) (⟨by first | rfl | (simp only [AV.map, GV.map, CV.map, AB.map', id]; done) | (congr 3; omega) | (congr 4; omega) | (simp only [List.length_append, List.length_cons, List.length_nil, List.length_set]; rfl), by first | rfl | (simp only [AV.map, GV.map, CV.map, AB.map', id]; done) | (congr 3; omega) | (congr 4; omega) | (simp only [List.length_append, List.length_cons, List.length_nil, List.length_set]; rfl),  trivial⟩) rfl) rfl ⟨.agg rfl rfl (fun _ => run_isAgg Try.underlying92) sz92, .tmp rfl, trivial⟩ ⟨by first | rfl | (simp only [AV.map, GV.map, CV.map, AB.map', id]; done) | (congr 3; omega) | (congr 4; omega) | (simp only [List.length_append, List.length_cons, List.length_nil, List.length_set]; rfl),  trivial⟩) ?_ ?_
            · first | rfl | (simp [outOf, aC]; done) | (simp [outOf, aC]; omega)
            · first | rfl | (simp; done) | (simp; omega)
          ·
            have hc4' := hc4; try simp only [sumB, Bool.not_eq_true', Bool.not_eq_false', Bool.or_eq_true, Bool.or_eq_false_iff, Bool.and_eq_true, Bool.and_eq_false_imp, decide_eq_true_eq, decide_eq_false_iff_not, Bool.not_not, Bool.not_true, Bool.not_false] at hc4'
            refine AC.skip ?_
            refine block_ok ?_
            refine then_ok ?_
            refine AC.region ?_
            refine AL.val (Wanted.plain rfl) (g_binI rfl rfl rfl (wrap_ok (by first | omega | (simp; done) | (simp; omega)))) rfl rfl ?_
            refine AL.fast 1 rfl ?_
            refine AL.nil ?_
            refine then_ok ?_
            refine ⟨q + 1, ⟨by omega, by omega, by omega⟩, by first | omega | (simp; done) | (simp; omega), Weak.ren id (⟨by first | rfl | (simp only [AV.map, GV.map, CV.map, AB.map', id]; done) | (congr 3; omega) | (congr 4; omega) | (simp only [List.length_append, List.length_cons, List.length_nil, List.length_set]; rfl), by first | rfl | (simp only [AV.map, GV.map, CV.map, AB.map', id]; done) | (congr 3; omega) | (congr 4; omega) | (simp only [List.length_append, List.length_cons, List.length_nil, List.length_set]; rfl), by first | rfl | (simp only [AV.map, GV.map, CV.map, AB.map', id]; done) | (congr 3; omega) | (congr 4; omega) | (simp only [List.length_append, List.length_cons, List.length_nil, List.length_set]; rfl), by first | rfl | (simp only [AV.map, GV.map, CV.map, AB.map', id]; done) | (congr 3; omega) | (congr 4; omega) | (simp only [List.length_append, List.length_cons, List.length_nil, List.length_set]; rfl), by first | rfl | (simp only [AV.map, GV.map, CV.map, AB.map', id]; done) | (congr 3; omega) | (congr 4; omega) | (simp only [List.length_append, List.length_cons, List.length_nil, List.length_set]; rfl), by first | rfl | (simp only [AV.map, GV.map, CV.map, AB.map', id]; done) | (congr 3; omega) | (congr 4; omega) | (simp only [List.length_append, List.length_cons, List.length_nil, List.length_set]; rfl), by first | rfl | (simp only [AV.map, GV.map, CV.map, AB.map', id]; done) | (congr 3; omega) | (congr 4; omega) | (simp only [List.length_append, List.length_cons, List.length_nil, List.length_set]; rfl),  trivial⟩) (⟨by first | rfl | (simp only [AV.map, GV.map, CV.map, AB.map', id]; done) | (congr 3; omega) | (congr 4; omega) | (simp only [List.length_append, List.length_cons, List.length_nil, List.length_set]; rfl), by first | rfl | (simp only [AV.map, GV.map, CV.map, AB.map', id]; done) | (congr 3; omega) | (congr 4; omega) | (simp only [List.length_append, List.length_cons, List.length_nil, List.length_set]; rfl), by first | rfl | (simp only [AV.map, GV.map, CV.map, AB.map', id]; done) | (congr 3; omega) | (congr 4; omega) | (simp only [List.length_append, List.length_cons, List.length_nil, List.length_set]; rfl),  trivial⟩) rfl⟩
      ·
        have hc2' := hc2; try simp only [sumB, Bool.not_eq_true', Bool.not_eq_false', Bool.or_eq_true, Bool.or_eq_false_iff, Bool.and_eq_true, Bool.and_eq_false_imp, decide_eq_true_eq, decide_eq_false_iff_not, Bool.not_not, Bool.not_true, Bool.not_false] at hc2'
        refine AC.exit ?_
        refine then_exit ?_
        refine then_exit ?_
        refine block_hit ?_
        refine then_ok ?_
        refine AC.seq ?_
        refine AC.region ?_
        refine AL.val (Wanted.plain rfl) (g_loadBs rfl rfl rfl Try.underlying92 rfl sz92 rfl rfl) rfl rfl ?_
        refine AL.call (n' := 4) (h' := [(3, (.arr 44 2 ((c.uses).map rUse))), (2, (.arr 3 1 (([held, money]).map rI))), (1, (.box 92 [(cI 0), (cI 0), (cI 0), (cI 0), (cI 0), cN])), (0, (.box 92 [(cI c.money), (cI c.held), (cI c.pace.ticks), (cI c.pace.count), (cI c.pace.sum), (cR 2 ((c.uses).map rUse))]))]) (Wanted.plain rfl) (g_call 3 (c_card_own c (by first | assumption | omega) ) en113 rfl rfl ⟨⟨_, rfl, .g ⟨.d _, .d _, .d _, .d _, .d _, .d _,  trivial⟩⟩,  trivial⟩ ⟨trivial, trivial, trivial, trivial, trivial, trivial,  trivial⟩ ⟨(fun _ _ _ _ => trivial),  trivial⟩ rfl rfl rfl rfl) rfl rfl rfl rfl rfl ?_
        refine AL.sto (h' := [(3, (.arr 44 2 ((c.uses).map rUse))), (2, (.arr 3 1 (([held, money]).map rI))), (1, (.box 92 [(cI 0), (cI 0), (cI 0), (cI 0), (cI 0), cN])), (0, (.box 92 [(cI c.money), (cI c.held), (cI c.pace.ticks), (cI c.pace.count), (cI c.pace.sum), (.s 3 0 2 c.uses.length)]))]) (Wanted.plain rfl) (g_storeB rfl rfl rfl rfl rfl sz92 rfl (Nat.le_of_ble_eq_true rfl) rfl) rfl rfl rfl rfl ?_
        refine AL.nil ?_
        refine then_ok ?_
        refine AC.seq ?_
        refine AC.region ?_
        refine AL.val (Wanted.plain rfl) (g_fieldP rfl rfl Try.underlying92 rfl sz3 (by decide)) rfl rfl ?_
        refine AL.val (Wanted.plain rfl) (g_loadB rfl rfl rfl Try.underlying3 rfl rfl) rfl rfl ?_
        refine AL.fast 1 rfl ?_
        refine AL.val (Wanted.plain rfl) (g_binI rfl rfl rfl (wrap_ok (by first | omega | (simp; done) | (simp; omega)))) rfl rfl ?_
        refine AL.val (Wanted.plain rfl) (g_fieldP rfl rfl Try.underlying92 rfl sz3 (by decide)) rfl rfl ?_
        refine AL.sto (h' := [(3, (.arr 44 2 ((c.uses).map rUse))), (2, (.arr 3 1 (([held, money]).map rI))), (1, (.box 92 [(cI 0), (cI 0), (cI 0), (cI 0), (cI 0), cN])), (0, (.box 92 [(cI c.money), (cI (c.held + held)), (cI c.pace.ticks), (cI c.pace.count), (cI c.pace.sum), (.s 3 0 2 c.uses.length)]))]) (Wanted.plain rfl) (g_storeB rfl rfl rfl rfl rfl sz3 rfl (Nat.le_of_ble_eq_true rfl) rfl) rfl rfl rfl rfl ?_
        refine AL.nil ?_
        refine then_ok ?_
        refine AC.seq ?_
        refine AC.region ?_
        refine AL.val (Wanted.plain rfl) (g_fieldP rfl rfl Try.underlying92 rfl sz3 (by decide)) rfl rfl ?_
        refine AL.val (Wanted.plain rfl) (g_loadB rfl rfl rfl Try.underlying3 rfl rfl) rfl rfl ?_
        refine AL.fast 1 rfl ?_
        refine AL.val (Wanted.plain rfl) (g_binI rfl rfl rfl (wrap_ok (by first | omega | (simp; done) | (simp; omega)))) rfl rfl ?_
        refine AL.val (Wanted.plain rfl) (g_fieldP rfl rfl Try.underlying92 rfl sz3 (by decide)) rfl rfl ?_
        refine AL.sto (h' := [(3, (.arr 44 2 ((c.uses).map rUse))), (2, (.arr 3 1 (([held, money]).map rI))), (1, (.box 92 [(cI 0), (cI 0), (cI 0), (cI 0), (cI 0), cN])), (0, (.box 92 [(cI (c.money + money)), (cI (c.held + held)), (cI c.pace.ticks), (cI c.pace.count), (cI c.pace.sum), (.s 3 0 2 c.uses.length)]))]) (Wanted.plain rfl) (g_storeB rfl rfl rfl rfl rfl sz3 rfl (Nat.le_of_ble_eq_true rfl) rfl) rfl rfl rfl rfl ?_
        refine AL.nil ?_
        refine then_ok ?_
        refine AC.seq ?_
        refine AC.seq ?_
        refine AC.region ?_
        refine AL.val (Wanted.plain rfl) (g_loadBs rfl rfl rfl Try.underlying92 rfl sz92 rfl rfl) rfl rfl ?_
        obtain ⟨e1, hr1⟩ : ∃ (e1 : Int), wrongC (⟨c.money + money, c.held + held, c.pace, c.uses⟩ : Card) = e1 := ⟨_, rfl⟩
        refine AL.call (n' := 4) (h' := [(3, (.arr 44 2 ((c.uses).map rUse))), (2, (.arr 3 1 (([held, money]).map rI))), (1, (.box 92 [(cI 0), (cI 0), (cI 0), (cI 0), (cI 0), cN])), (0, (.box 92 [(cI (c.money + money)), (cI (c.held + held)), (cI c.pace.ticks), (cI c.pace.count), (cI c.pace.sum), (.s 3 0 2 c.uses.length)]))]) (Wanted.plain rfl) (g_callE 4 [3] (c_card_Wrong (⟨c.money + money, c.held + held, c.pace, c.uses⟩ : Card)  e1 hr1) en72 rfl rfl ⟨⟨_, rfl, .g ⟨.d _, .d _, .d _, .d _, .d _, .s rfl (by decide) (by first | omega | (simp; done) | (simp; omega)),  trivial⟩⟩,  trivial⟩ rfl trivial rfl rfl rfl rfl) rfl rfl rfl rfl rfl ?_
        refine AL.fast 1 rfl ?_
        refine AL.nil ?_
        refine then_ok ?_
        refine AC.seq ?_
        refine AC.region ?_
        refine AL.fast 1 rfl ?_
        refine AL.val (Wanted.plain rfl) (g_binI rfl rfl rfl rfl) rfl rfl ?_
        refine AL.nil ?_
        refine then_ok ?_
        refine AC.cond rfl (fun hc5 => ?_) (fun hc5 => ?_)
        ·
          have hc5' := hc5; try simp only [sumB, Bool.not_eq_true', Bool.not_eq_false', Bool.or_eq_true, Bool.or_eq_false_iff, Bool.and_eq_true, Bool.and_eq_false_imp, decide_eq_true_eq, decide_eq_false_iff_not, Bool.not_not, Bool.not_true, Bool.not_false] at hc5'
          refine AC.seq ?_
          refine AC.region ?_
          refine AL.val (Wanted.plain rfl) (g_build (ys := []) rfl bld92 rfl trivial rfl rfl) rfl rfl ?_
          refine AL.sto (h' := [(3, (.arr 44 2 ((c.uses).map rUse))), (2, (.arr 3 1 (([held, money]).map rI))), (1, (.box 92 [(cI 0), (cI 0), (cI 0), (cI 0), (cI 0), cN])), (0, (.box 92 [(cI (c.money + money)), (cI (c.held + held)), (cI c.pace.ticks), (cI c.pace.count), (cI c.pace.sum), (.s 3 0 2 c.uses.length)]))]) (Wanted.plain rfl) (g_storeB rfl rfl rfl rfl rfl sz92 rfl (Nat.le_of_ble_eq_true rfl) rfl) rfl rfl rfl rfl ?_
          refine AL.fast 1 rfl ?_
          refine AL.nil ?_
          refine then_ok ?_
          refine AC.ret ?_
          refine then_ret ?_
          refine retQ_weak (Weak.nilB (n' := 5) (h' := [(4, (.arr 44 2 ((([] : List Use)).map rUse))), (3, (.arr 44 2 ((c.uses).map rUse))), (2, (.arr 3 1 (([held, money]).map rI))), (1, (.box 92 [(cI 0), (cI 0), (cI 0), (cI 0), (cI 0), (.s 4 0 2 0)])), (0, (.box 92 [(cI (c.money + money)), (cI (c.held + held)), (cI c.pace.ticks), (cI c.pace.count), (cI c.pace.sum), (.s 3 0 2 c.uses.length)]))]) 1 5 44 2 92 (by decide) rfl rfl rfl rfl rfl) ?_
          have hX : shiftC c held money = ((⟨0, 0, (⟨0, 0, 0⟩ : Pace), ([] : List Use)⟩ : Card), 10) := by
            unfold shiftC; rw [if_neg (by omega), if_neg (by omega), if_pos (by first | omega | (intro hz; have hy := rightC hz; dsimp only at hy; omega))]; rfl
          rw [hX] at hr; clear hX
          simp only [Prod.mk.injEq] at hr; obtain ⟨rfl, rfl⟩ := hr
          refine retQ_mk (av' := outOf [(.g [(cI 0), (cI 0), (cI 0), (cI 0), (cI 0), (.s 0 0 2 0)]), (.c (cI 10))]) (nb' := [(0, (.arr 44 2 ((([] : List Use)).map rUse)))]) (retQ_ret ⟨[(6, (aC (.p 1 0 0 0))), (7, (aI 10))], [(0, (.arr 44 2 ((([] : List Use)).map rUse))), (1, (.box 92 [(cI 0), (cI 0), (cI 0), (cI 0), (cI 0), (.s 0 0 2 0)]))], 2⟩ [.cell 6 92, .tmp 7] [(.g [(cI 0), (cI 0), (cI 0), (cI 0), (cI 0), (.s 0 0 2 0)]), (.c (cI 10))] (Weak.ren (fun k => if k = 0 then 4 else if k = 1 then 1 else k) (⟨by first | rfl | (simp only [AV.map, GV.map, CV.map, AB.map', id]; done) | (congr 3; omega) | (congr 4; omega) | (simp only [List.length_append, List.length_cons, List.length_nil, List.length_set]; rfl), by first | rfl | (simp only [AV.map, GV.map, CV.map, AB.map', id]; done) | (congr 3; omega) | (congr 4; omega) | (simp only [List.length_append, List.length_cons, List.length_nil, List.length_set]; rfl),  trivial⟩) (⟨by first | rfl | (simp only [AV.map, GV.map, CV.map, AB.map', id]; done) | (congr 3; omega) | (congr 4; omega) | (simp only [List.length_append, List.length_cons, List.length_nil, List.length_set]; rfl), by first | rfl | (simp only [AV.map, GV.map, CV.map, AB.map', id]; done) | (congr 3; omega) | (congr 4; omega) | (simp only [List.length_append, List.length_cons, List.length_nil, List.length_set]; rfl),  trivial⟩) rfl) rfl ⟨.agg rfl rfl (fun _ => run_isAgg Try.underlying92) sz92, .tmp rfl, trivial⟩ ⟨by first | rfl | (simp only [AV.map, GV.map, CV.map, AB.map', id]; done) | (congr 3; omega) | (congr 4; omega) | (simp only [List.length_append, List.length_cons, List.length_nil, List.length_set]; rfl),  trivial⟩) ?_ ?_
          · first | rfl | (simp [outOf, aC]; done) | (simp [outOf, aC]; omega)
          · first | rfl | (simp; done) | (simp; omega)
        ·
          have hc5' := hc5; try simp only [sumB, Bool.not_eq_true', Bool.not_eq_false', Bool.or_eq_true, Bool.or_eq_false_iff, Bool.and_eq_true, Bool.and_eq_false_imp, decide_eq_true_eq, decide_eq_false_iff_not, Bool.not_not, Bool.not_true, Bool.not_false] at hc5'
          refine AC.skip ?_
          refine then_ok ?_
          refine AC.seq ?_
          refine AC.region ?_
          refine AL.val (Wanted.plain rfl) (g_loadBs rfl rfl rfl Try.underlying92 rfl sz92 rfl rfl) rfl rfl ?_
          refine AL.sto (h' := [(3, (.arr 44 2 ((c.uses).map rUse))), (2, (.arr 3 1 (([held, money]).map rI))), (1, (.box 92 [(cI (c.money + money)), (cI (c.held + held)), (cI c.pace.ticks), (cI c.pace.count), (cI c.pace.sum), (.s 3 0 2 c.uses.length)])), (0, (.box 92 [(cI (c.money + money)), (cI (c.held + held)), (cI c.pace.ticks), (cI c.pace.count), (cI c.pace.sum), (.s 3 0 2 c.uses.length)]))]) (Wanted.plain rfl) (g_storeB rfl rfl rfl rfl rfl sz92 rfl (Nat.le_of_ble_eq_true rfl) rfl) rfl rfl rfl rfl ?_
          refine AL.fast 1 rfl ?_
          refine AL.nil ?_
          refine then_ok ?_
          refine AC.ret ?_
          have hX : shiftC c held money = ((⟨c.money + money, c.held + held, c.pace, c.uses⟩ : Card), 0) := by
            unfold shiftC; rw [if_neg (by omega), if_neg (by omega), if_neg (by first | omega | (have hz := rightC' (c := ⟨c.money + money, c.held + held, c.pace, c.uses⟩) (by dsimp only; omega) (hrc (by omega)).2.2.2.2.1 (hrc (by omega)).2.2.2.2.2; omega))]
          rw [hX] at hr; clear hX
          simp only [Prod.mk.injEq] at hr; obtain ⟨rfl, rfl⟩ := hr
          refine retQ_mk (av' := outOf [(.g [(cI (c.money + money)), (cI (c.held + held)), (cI c.pace.ticks), (cI c.pace.count), (cI c.pace.sum), (.s 0 0 2 c.uses.length)]), (.c (cI 0))]) (nb' := [(0, (.arr 44 2 ((c.uses).map rUse)))]) (retQ_ret ⟨[(6, (aC (.p 1 0 0 0))), (7, (aI 0))], [(0, (.arr 44 2 ((c.uses).map rUse))), (1, (.box 92 [(cI (c.money + money)), (cI (c.held + held)), (cI c.pace.ticks), (cI c.pace.count), (cI c.pace.sum), (.s 0 0 2 c.uses.length)]))], 2⟩ [.cell 6 92, .tmp 7] [(.g [(cI (c.money + money)), (cI (c.held + held)), (cI c.pace.ticks), (cI c.pace.count), (cI c.pace.sum), (.s 0 0 2 c.uses.length)]), (.c (cI 0))] (Weak.ren (fun k => if k = 0 then 3 else if k = 1 then 1 else k) (⟨by first | rfl | (simp only [AV.map, GV.map, CV.map, AB.map', id]; done) | (congr 3; omega) | (congr 4; omega) | (simp only [List.length_append, List.length_cons, List.length_nil, List.length_set]; rfl), by first | rfl | (simp only [AV.map, GV.map, CV.map, AB.map', id]; done) | (congr 3; omega) | (congr 4; omega) | (simp only [List.length_append, List.length_cons, List.length_nil, List.length_set]; rfl),  trivial⟩) (⟨by first | rfl | (simp only [AV.map, GV.map, CV.map, AB.map', id]; done) | (congr 3; omega) | (congr 4; omega) | (simp only [List.length_append, List.length_cons, List.length_nil, List.length_set]; rfl), by first | rfl | (simp only [AV.map, GV.map, CV.map, AB.map', id]; done) | (congr 3; omega) | (congr 4; omega) | (simp only [List.length_append, List.length_cons, List.length_nil, List.length_set]; rfl),  trivial⟩) rfl) rfl ⟨.agg rfl rfl (fun _ => run_isAgg Try.underlying92) sz92, .tmp rfl, trivial⟩ ⟨by first | rfl | (simp only [AV.map, GV.map, CV.map, AB.map', id]; done) | (congr 3; omega) | (congr 4; omega) | (simp only [List.length_append, List.length_cons, List.length_nil, List.length_set]; rfl),  trivial⟩) ?_ ?_
          · first | rfl | (simp [outOf, aC]; done) | (simp [outOf, aC]; omega)
          · first | rfl | (simp; done) | (simp; omega)
set_option maxRecDepth 100000 in
set_option maxHeartbeats 1000000 in
theorem c_ref_Shift (c : Card) (held money : Int) (x : Card) (e : Int) (hr : shiftC c held money = (x, e)) : Fn Try.prog 78 [(.g [(cI c.money), (cI c.held), (cI c.pace.ticks), (cI c.pace.count), (cI c.pace.sum), (cR 2 ((c.uses).map rUse))]), (.c (cI held)), (.c (cI money))] (.t [(.g [(cI x.money), (cI x.held), (cI x.pace.ticks), (cI x.pace.count), (cI x.pace.sum), (cR 2 ((x.uses).map rUse))]), (.c (cI e))]) [] := by
  refine Fn.mk' 52 [(0, (aG [(cI c.money), (cI c.held), (cI c.pace.ticks), (cI c.pace.count), (cI c.pace.sum), (cR 2 ((c.uses).map rUse))])), (1, (aI held)), (2, (aI money))] Try.func78 rfl rfl rfl rfl ?_
  intro W0 T0
  refine AC.lenG 0 5 rfl rfl (fun hlen0_5 => ?_)
  have hrc := @rightC c
  have hrl := @rightC_len c
  refine AC.seq ?_
  refine AC.region ?_
  refine AL.new (n' := 1) (Wanted.plain rfl) (g_boxS 0 rfl rfl) rfl rfl rfl ?_
  refine AL.new (n' := 2) (Wanted.plain rfl) (g_alloc 1 rfl zv92 rfl rfl rfl) rfl rfl rfl ?_
  refine AL.fast 1 rfl ?_
  refine AL.nil ?_
  refine then_ok ?_
  refine AC.seq ?_
  refine AC.seq ?_
  refine AC.region ?_
  refine AL.val (Wanted.plain rfl) (g_loadBs rfl rfl rfl Try.underlying92 rfl sz92 rfl rfl) rfl rfl ?_
  obtain ⟨e0, hr0⟩ : ∃ (e0 : Int), wrongC c = e0 := ⟨_, rfl⟩
  refine AL.call (n' := 2) (h' := [(1, (.box 92 [(cI 0), (cI 0), (cI 0), (cI 0), (cI 0), cN])), (0, (.box 92 [(cI c.money), (cI c.held), (cI c.pace.ticks), (cI c.pace.count), (cI c.pace.sum), (cR 2 ((c.uses).map rUse))]))]) (Wanted.plain rfl) (g_call 2 (c_ref_WrongCard c  e0 hr0) en75 rfl rfl ⟨⟨_, rfl, .g ⟨.d _, .d _, .d _, .d _, .d _, .d _,  trivial⟩⟩,  trivial⟩ trivial trivial rfl rfl rfl rfl) rfl rfl rfl rfl rfl ?_
  refine AL.fast 1 rfl ?_
  refine AL.nil ?_
  refine then_ok ?_
  refine AC.seq ?_
  refine AC.region ?_
  refine AL.fast 1 rfl ?_
  refine AL.val (Wanted.plain rfl) (g_binI rfl rfl rfl rfl) rfl rfl ?_
  refine AL.nil ?_
  refine then_ok ?_
  refine AC.cond rfl (fun hc1 => ?_) (fun hc1 => ?_)
  ·
    have hc1' := hc1; try simp only [bigC, sumB, Bool.not_eq_true', Bool.not_eq_false', Bool.or_eq_true, Bool.or_eq_false_iff, Bool.and_eq_true, Bool.and_eq_false_imp, decide_eq_true_eq, decide_eq_false_iff_not, Bool.not_not, Bool.not_true, Bool.not_false] at hc1'
    refine AC.seq ?_
    refine AC.region ?_
    refine AL.val (Wanted.plain rfl) (g_build (ys := []) rfl bld92 rfl trivial rfl rfl) rfl rfl ?_
    refine AL.fast 1 rfl ?_
    refine AL.sto (h' := [(1, (.box 92 [(cI 0), (cI 0), (cI 0), (cI 0), (cI 0), cN])), (0, (.box 92 [(cI c.money), (cI c.held), (cI c.pace.ticks), (cI c.pace.count), (cI c.pace.sum), (cR 2 ((c.uses).map rUse))]))]) (Wanted.plain rfl) (g_storeB rfl rfl rfl rfl rfl sz92 rfl (Nat.le_of_ble_eq_true rfl) rfl) rfl rfl rfl rfl ?_
    refine AL.fast 1 rfl ?_
    refine AL.nil ?_
    refine then_ok ?_
    refine AC.ret ?_
    refine then_ret ?_
    refine retQ_weak (Weak.nilR (h' := [(1, (.box 92 [(cI 0), (cI 0), (cI 0), (cI 0), (cI 0), (cR 2 (([]).map rUse))])), (0, (.box 92 [(cI c.money), (cI c.held), (cI c.pace.ticks), (cI c.pace.count), (cI c.pace.sum), (cR 2 ((c.uses).map rUse))]))]) 1 5 2 92 rfl rfl rfl) ?_
    have hX : shiftC c held money = ((⟨0, 0, (⟨0, 0, 0⟩ : Pace), []⟩ : Card), e0) := by
      unfold shiftC; rw [if_pos (by omega), hr0]; rfl
    rw [hX] at hr; clear hX
    simp only [Prod.mk.injEq] at hr; obtain ⟨rfl, rfl⟩ := hr
    refine retQ_mk (av' := outOf [(.g [(cI 0), (cI 0), (cI 0), (cI 0), (cI 0), (cR 2 (([]).map rUse))]), (.c (cI e0))]) (nb' := []) (retQ_ret ⟨[(6, (aC (.p 1 0 0 0))), (7, (aI e0))], [(1, (.box 92 [(cI 0), (cI 0), (cI 0), (cI 0), (cI 0), (cR 2 (([]).map rUse))]))], 2⟩ [.cell 6 92, .tmp 7] [(.g [(cI 0), (cI 0), (cI 0), (cI 0), (cI 0), (cR 2 (([]).map rUse))]), (.c (cI e0))] (Weak.ren id (⟨by first | rfl | (simp only [AV.map, GV.map, CV.map, AB.map', id]; done) | (congr 3; omega) | (congr 4; omega) | (simp only [List.length_append, List.length_cons, List.length_nil, List.length_set]; rfl), by first | rfl | (simp only [AV.map, GV.map, CV.map, AB.map', id]; done) | (congr 3; omega) | (congr 4; omega) | (simp only [List.length_append, List.length_cons, List.length_nil, List.length_set]; rfl),  trivial⟩) (⟨by first | rfl | (simp only [AV.map, GV.map, CV.map, AB.map', id]; done) | (congr 3; omega) | (congr 4; omega) | (simp only [List.length_append, List.length_cons, List.length_nil, List.length_set]; rfl),  trivial⟩) rfl) rfl ⟨.agg rfl rfl (fun _ => run_isAgg Try.underlying92) sz92, .tmp rfl, trivial⟩ trivial) ?_ ?_
    · first | rfl | (simp [outOf, aC]; done) | (simp [outOf, aC]; omega)
    · first | rfl | (simp; done) | (simp; omega)
  ·
    have hc1' := hc1; try simp only [bigC, sumB, Bool.not_eq_true', Bool.not_eq_false', Bool.or_eq_true, Bool.or_eq_false_iff, Bool.and_eq_true, Bool.and_eq_false_imp, decide_eq_true_eq, decide_eq_false_iff_not, Bool.not_not, Bool.not_true, Bool.not_false] at hc1'
    refine AC.skip ?_
    refine then_ok ?_
    refine AC.seq ?_
    refine AC.region ?_
    refine AL.fast 1 rfl ?_
    refine AL.nil ?_
    refine then_ok ?_
    refine AC.seq ?_
    refine AC.cutB 23 ((bigC held) || (bigC money)) ?_ ?_
    ·
      refine AC.region ?_
      refine AL.fast 2 rfl ?_
      refine AL.call (n' := 2) (h' := [(1, (.box 92 [(cI 0), (cI 0), (cI 0), (cI 0), (cI 0), cN])), (0, (.box 92 [(cI c.money), (cI c.held), (cI c.pace.ticks), (cI c.pace.count), (cI c.pace.sum), (cR 2 ((c.uses).map rUse))]))]) (Wanted.plain rfl) (g_callFE 2 [] (ins := [(.c (cI held))]) (caps := []) (c_big held) en114 rfl rfl rfl (.fn trivial) ⟨⟨_, rfl, .c (.d _)⟩,  trivial⟩ rfl trivial rfl rfl rfl rfl) rfl rfl rfl rfl rfl ?_
      refine AL.fast 1 rfl ?_
      refine AL.dec (t := 19) rfl (fun hb2 => ?_) (fun hb2 => ?_)
      ·
        have hb2' := hb2; try simp only [bigC, sumB, Bool.not_eq_true', Bool.not_eq_false', Bool.or_eq_true, Bool.or_eq_false_iff, Bool.and_eq_true, Bool.and_eq_false_imp, decide_eq_true_eq, decide_eq_false_iff_not, Bool.not_not, Bool.not_true, Bool.not_false] at hb2'
        refine AL.fast 4 rfl ?_
        refine AL.nil ?_
        refine then_ok ?_
        exact Weak.popB 9 rfl rfl (by first | (simp [hb2]; done) | (simp_all; done) | (exfalso; simp_all; done) | (simp_all; omega)) rfl
      ·
        have hb2' := hb2; try simp only [bigC, sumB, Bool.not_eq_true', Bool.not_eq_false', Bool.or_eq_true, Bool.or_eq_false_iff, Bool.and_eq_true, Bool.and_eq_false_imp, decide_eq_true_eq, decide_eq_false_iff_not, Bool.not_not, Bool.not_true, Bool.not_false] at hb2'
        refine AL.fast 2 rfl ?_
        refine AL.call (n' := 2) (h' := [(1, (.box 92 [(cI 0), (cI 0), (cI 0), (cI 0), (cI 0), cN])), (0, (.box 92 [(cI c.money), (cI c.held), (cI c.pace.ticks), (cI c.pace.count), (cI c.pace.sum), (cR 2 ((c.uses).map rUse))]))]) (Wanted.yes rfl rfl rfl) (g_callFE 2 [] (ins := [(.c (cI money))]) (caps := []) (c_big money) en114 rfl rfl rfl (.fn trivial) ⟨⟨_, rfl, .c (.d _)⟩,  trivial⟩ rfl trivial rfl rfl rfl rfl) rfl rfl rfl rfl rfl ?_
        refine AL.fast 1 rfl ?_
        refine AL.nil ?_
        refine then_ok ?_
        exact Weak.popB 9 rfl rfl (by first | (simp [hb2]; done) | (simp_all; done) | (exfalso; simp_all; done) | (simp_all; omega)) rfl
    ·
      refine AC.cond rfl (fun hc3 => ?_) (fun hc3 => ?_)
      ·
        have hc3' := hc3; try simp only [bigC, sumB, Bool.not_eq_true', Bool.not_eq_false', Bool.or_eq_true, Bool.or_eq_false_iff, Bool.and_eq_true, Bool.and_eq_false_imp, decide_eq_true_eq, decide_eq_false_iff_not, Bool.not_not, Bool.not_true, Bool.not_false] at hc3'
        refine AC.seq ?_
        refine AC.region ?_
        refine AL.val (Wanted.plain rfl) (g_build (ys := []) rfl bld92 rfl trivial rfl rfl) rfl rfl ?_
        refine AL.sto (h' := [(1, (.box 92 [(cI 0), (cI 0), (cI 0), (cI 0), (cI 0), cN])), (0, (.box 92 [(cI c.money), (cI c.held), (cI c.pace.ticks), (cI c.pace.count), (cI c.pace.sum), (cR 2 ((c.uses).map rUse))]))]) (Wanted.plain rfl) (g_storeB rfl rfl rfl rfl rfl sz92 rfl (Nat.le_of_ble_eq_true rfl) rfl) rfl rfl rfl rfl ?_
        refine AL.fast 1 rfl ?_
        refine AL.nil ?_
        refine then_ok ?_
        refine AC.ret ?_
        refine then_ret ?_
        refine retQ_weak (Weak.nilR (h' := [(1, (.box 92 [(cI 0), (cI 0), (cI 0), (cI 0), (cI 0), (cR 2 (([]).map rUse))])), (0, (.box 92 [(cI c.money), (cI c.held), (cI c.pace.ticks), (cI c.pace.count), (cI c.pace.sum), (cR 2 ((c.uses).map rUse))]))]) 1 5 2 92 rfl rfl rfl) ?_
        have hX : shiftC c held money = ((⟨0, 0, (⟨0, 0, 0⟩ : Pace), []⟩ : Card), 3) := by
          unfold shiftC; rw [if_neg (by omega), if_pos (by omega)]; rfl
        rw [hX] at hr; clear hX
        simp only [Prod.mk.injEq] at hr; obtain ⟨rfl, rfl⟩ := hr
        refine retQ_mk (av' := outOf [(.g [(cI 0), (cI 0), (cI 0), (cI 0), (cI 0), (cR 2 (([]).map rUse))]), (.c (cI 3))]) (nb' := []) (retQ_ret ⟨[(6, (aC (.p 1 0 0 0))), (7, (aI 3))], [(1, (.box 92 [(cI 0), (cI 0), (cI 0), (cI 0), (cI 0), (cR 2 (([]).map rUse))]))], 2⟩ [.cell 6 92, .tmp 7] [(.g [(cI 0), (cI 0), (cI 0), (cI 0), (cI 0), (cR 2 (([]).map rUse))]), (.c (cI 3))] (Weak.ren id (⟨by first | rfl | (simp only [AV.map, GV.map, CV.map, AB.map', id]; done) | (congr 3; omega) | (congr 4; omega) | (simp only [List.length_append, List.length_cons, List.length_nil, List.length_set]; rfl), by first | rfl | (simp only [AV.map, GV.map, CV.map, AB.map', id]; done) | (congr 3; omega) | (congr 4; omega) | (simp only [List.length_append, List.length_cons, List.length_nil, List.length_set]; rfl),  trivial⟩) (⟨by first | rfl | (simp only [AV.map, GV.map, CV.map, AB.map', id]; done) | (congr 3; omega) | (congr 4; omega) | (simp only [List.length_append, List.length_cons, List.length_nil, List.length_set]; rfl),  trivial⟩) rfl) rfl ⟨.agg rfl rfl (fun _ => run_isAgg Try.underlying92) sz92, .tmp rfl, trivial⟩ trivial) ?_ ?_
        · first | rfl | (simp [outOf, aC]; done) | (simp [outOf, aC]; omega)
        · first | rfl | (simp; done) | (simp; omega)
      ·
        have hc3' := hc3; try simp only [bigC, sumB, Bool.not_eq_true', Bool.not_eq_false', Bool.or_eq_true, Bool.or_eq_false_iff, Bool.and_eq_true, Bool.and_eq_false_imp, decide_eq_true_eq, decide_eq_false_iff_not, Bool.not_not, Bool.not_true, Bool.not_false] at hc3'
        refine AC.skip ?_
        refine then_ok ?_
        refine AC.seq ?_
        refine AC.region ?_
        refine AL.val (Wanted.plain rfl) (g_fieldP rfl rfl Try.underlying92 rfl sz3 (by decide)) rfl rfl ?_
        refine AL.val (Wanted.plain rfl) (g_loadB rfl rfl rfl Try.underlying3 rfl rfl) rfl rfl ?_
        refine AL.fast 1 rfl ?_
        refine AL.val (Wanted.plain rfl) (g_binI rfl rfl rfl (wrap_ok (by first | omega | (simp; done) | (simp; omega)))) rfl rfl ?_
        refine AL.val (Wanted.plain rfl) (g_fieldP rfl rfl Try.underlying92 rfl sz3 (by decide)) rfl rfl ?_
        refine AL.val (Wanted.plain rfl) (g_loadB rfl rfl rfl Try.underlying3 rfl rfl) rfl rfl ?_
        refine AL.fast 1 rfl ?_
        refine AL.val (Wanted.plain rfl) (g_binI rfl rfl rfl (wrap_ok (by first | omega | (simp; done) | (simp; omega)))) rfl rfl ?_
        refine AL.val (Wanted.plain rfl) (g_fieldP rfl rfl Try.underlying92 rfl sz3 (by decide)) rfl rfl ?_
        refine AL.sto (h' := [(1, (.box 92 [(cI 0), (cI 0), (cI 0), (cI 0), (cI 0), cN])), (0, (.box 92 [(cI c.money), (cI (c.held + held)), (cI c.pace.ticks), (cI c.pace.count), (cI c.pace.sum), (cR 2 ((c.uses).map rUse))]))]) (Wanted.plain rfl) (g_storeB rfl rfl rfl rfl rfl sz3 rfl (Nat.le_of_ble_eq_true rfl) rfl) rfl rfl rfl rfl ?_
        refine AL.val (Wanted.plain rfl) (g_fieldP rfl rfl Try.underlying92 rfl sz3 (by decide)) rfl rfl ?_
        refine AL.sto (h' := [(1, (.box 92 [(cI 0), (cI 0), (cI 0), (cI 0), (cI 0), cN])), (0, (.box 92 [(cI (c.money + money)), (cI (c.held + held)), (cI c.pace.ticks), (cI c.pace.count), (cI c.pace.sum), (cR 2 ((c.uses).map rUse))]))]) (Wanted.plain rfl) (g_storeB rfl rfl rfl rfl rfl sz3 rfl (Nat.le_of_ble_eq_true rfl) rfl) rfl rfl rfl rfl ?_
        refine AL.nil ?_
        refine then_ok ?_
        refine AC.seq ?_
        refine AC.cutB 49 (((decide ((c.held + held) < 0)) || (bigC (c.held + held))) || (bigC (c.money + money))) ?_ ?_
        ·
          refine AC.region ?_
          refine AL.val (Wanted.plain rfl) (g_fieldP rfl rfl Try.underlying92 rfl sz3 (by decide)) rfl rfl ?_
          refine AL.val (Wanted.plain rfl) (g_loadB rfl rfl rfl Try.underlying3 rfl rfl) rfl rfl ?_
          refine AL.val (Wanted.plain rfl) (g_binI rfl rfl rfl rfl) rfl rfl ?_
          refine AL.fast 1 rfl ?_
          refine AL.dec (t := 38) rfl (fun hb4 => ?_) (fun hb4 => ?_)
          ·
            have hb4' := hb4; try simp only [bigC, sumB, Bool.not_eq_true', Bool.not_eq_false', Bool.or_eq_true, Bool.or_eq_false_iff, Bool.and_eq_true, Bool.and_eq_false_imp, decide_eq_true_eq, decide_eq_false_iff_not, Bool.not_not, Bool.not_true, Bool.not_false] at hb4'
            refine AL.fast 11 rfl ?_
            refine AL.nil ?_
            refine then_ok ?_
            exact Weak.popB 16 rfl rfl (by first | (simp [hb4]; done) | (simp_all; done) | (exfalso; simp_all; done) | (simp_all; omega)) rfl
          ·
            have hb4' := hb4; try simp only [bigC, sumB, Bool.not_eq_true', Bool.not_eq_false', Bool.or_eq_true, Bool.or_eq_false_iff, Bool.and_eq_true, Bool.and_eq_false_imp, decide_eq_true_eq, decide_eq_false_iff_not, Bool.not_not, Bool.not_true, Bool.not_false] at hb4'
            refine AL.fast 1 rfl ?_
            refine AL.val (Wanted.yes rfl rfl rfl) (g_fieldP rfl rfl Try.underlying92 rfl sz3 (by decide)) rfl rfl ?_
            refine AL.val (Wanted.yes rfl rfl rfl) (g_loadB rfl rfl rfl Try.underlying3 rfl rfl) rfl rfl ?_
            refine AL.call (n' := 2) (h' := [(1, (.box 92 [(cI 0), (cI 0), (cI 0), (cI 0), (cI 0), cN])), (0, (.box 92 [(cI (c.money + money)), (cI (c.held + held)), (cI c.pace.ticks), (cI c.pace.count), (cI c.pace.sum), (cR 2 ((c.uses).map rUse))]))]) (Wanted.yes rfl rfl rfl) (g_callFE 2 [] (ins := [(.c (cI (c.held + held)))]) (caps := []) (c_big (c.held + held)) en114 rfl rfl rfl (.fn trivial) ⟨⟨_, rfl, .c (.d _)⟩,  trivial⟩ rfl trivial rfl rfl rfl rfl) rfl rfl rfl rfl rfl ?_
            refine AL.fast 2 rfl ?_
            refine AL.dec (t := 44) rfl (fun hb5 => ?_) (fun hb5 => ?_)
            ·
              have hb5' := hb5; try simp only [bigC, sumB, Bool.not_eq_true', Bool.not_eq_false', Bool.or_eq_true, Bool.or_eq_false_iff, Bool.and_eq_true, Bool.and_eq_false_imp, decide_eq_true_eq, decide_eq_false_iff_not, Bool.not_not, Bool.not_true, Bool.not_false] at hb5'
              refine AL.fast 5 rfl ?_
              refine AL.nil ?_
              refine then_ok ?_
              exact Weak.popB 17 rfl rfl (by first | (simp [hb4, hb5]; done) | (simp_all; done) | (exfalso; simp_all; done) | (simp_all; omega)) rfl
            ·
              have hb5' := hb5; try simp only [bigC, sumB, Bool.not_eq_true', Bool.not_eq_false', Bool.or_eq_true, Bool.or_eq_false_iff, Bool.and_eq_true, Bool.and_eq_false_imp, decide_eq_true_eq, decide_eq_false_iff_not, Bool.not_not, Bool.not_true, Bool.not_false] at hb5'
              refine AL.fast 1 rfl ?_
              refine AL.val (Wanted.yes rfl rfl rfl) (g_fieldP rfl rfl Try.underlying92 rfl sz3 (by decide)) rfl rfl ?_
              refine AL.val (Wanted.yes rfl rfl rfl) (g_loadB rfl rfl rfl Try.underlying3 rfl rfl) rfl rfl ?_
              refine AL.call (n' := 2) (h' := [(1, (.box 92 [(cI 0), (cI 0), (cI 0), (cI 0), (cI 0), cN])), (0, (.box 92 [(cI (c.money + money)), (cI (c.held + held)), (cI c.pace.ticks), (cI c.pace.count), (cI c.pace.sum), (cR 2 ((c.uses).map rUse))]))]) (Wanted.yes rfl rfl rfl) (g_callFE 2 [] (ins := [(.c (cI (c.money + money)))]) (caps := []) (c_big (c.money + money)) en114 rfl rfl rfl (.fn trivial) ⟨⟨_, rfl, .c (.d _)⟩,  trivial⟩ rfl trivial rfl rfl rfl rfl) rfl rfl rfl rfl rfl ?_
              refine AL.fast 1 rfl ?_
              refine AL.nil ?_
              refine then_ok ?_
              exact Weak.popB 17 rfl rfl (by first | (simp [hb4, hb5]; done) | (simp_all; done) | (exfalso; simp_all; done) | (simp_all; omega)) rfl
        ·
          refine AC.cond rfl (fun hc6 => ?_) (fun hc6 => ?_)
          ·
            have hc6' := hc6; try simp only [bigC, sumB, Bool.not_eq_true', Bool.not_eq_false', Bool.or_eq_true, Bool.or_eq_false_iff, Bool.and_eq_true, Bool.and_eq_false_imp, decide_eq_true_eq, decide_eq_false_iff_not, Bool.not_not, Bool.not_true, Bool.not_false] at hc6'
            refine AC.seq ?_
            refine AC.region ?_
            refine AL.val (Wanted.plain rfl) (g_build (ys := []) rfl bld92 rfl trivial rfl rfl) rfl rfl ?_
            refine AL.sto (h' := [(1, (.box 92 [(cI 0), (cI 0), (cI 0), (cI 0), (cI 0), cN])), (0, (.box 92 [(cI (c.money + money)), (cI (c.held + held)), (cI c.pace.ticks), (cI c.pace.count), (cI c.pace.sum), (cR 2 ((c.uses).map rUse))]))]) (Wanted.plain rfl) (g_storeB rfl rfl rfl rfl rfl sz92 rfl (Nat.le_of_ble_eq_true rfl) rfl) rfl rfl rfl rfl ?_
            refine AL.fast 1 rfl ?_
            refine AL.nil ?_
            refine then_ok ?_
            refine AC.ret ?_
            refine then_ret ?_
            refine retQ_weak (Weak.nilR (h' := [(1, (.box 92 [(cI 0), (cI 0), (cI 0), (cI 0), (cI 0), (cR 2 (([]).map rUse))])), (0, (.box 92 [(cI (c.money + money)), (cI (c.held + held)), (cI c.pace.ticks), (cI c.pace.count), (cI c.pace.sum), (cR 2 ((c.uses).map rUse))]))]) 1 5 2 92 rfl rfl rfl) ?_
            have hX : shiftC c held money = ((⟨0, 0, (⟨0, 0, 0⟩ : Pace), []⟩ : Card), 10) := by
              unfold shiftC; rw [if_neg (by omega), if_neg (by omega), if_pos (by first | omega | (intro hz; have hy := rightC hz; dsimp only at hy; omega))]; rfl
            rw [hX] at hr; clear hX
            simp only [Prod.mk.injEq] at hr; obtain ⟨rfl, rfl⟩ := hr
            refine retQ_mk (av' := outOf [(.g [(cI 0), (cI 0), (cI 0), (cI 0), (cI 0), (cR 2 (([]).map rUse))]), (.c (cI 10))]) (nb' := []) (retQ_ret ⟨[(6, (aC (.p 1 0 0 0))), (7, (aI 10))], [(1, (.box 92 [(cI 0), (cI 0), (cI 0), (cI 0), (cI 0), (cR 2 (([]).map rUse))]))], 2⟩ [.cell 6 92, .tmp 7] [(.g [(cI 0), (cI 0), (cI 0), (cI 0), (cI 0), (cR 2 (([]).map rUse))]), (.c (cI 10))] (Weak.ren id (⟨by first | rfl | (simp only [AV.map, GV.map, CV.map, AB.map', id]; done) | (congr 3; omega) | (congr 4; omega) | (simp only [List.length_append, List.length_cons, List.length_nil, List.length_set]; rfl), by first | rfl | (simp only [AV.map, GV.map, CV.map, AB.map', id]; done) | (congr 3; omega) | (congr 4; omega) | (simp only [List.length_append, List.length_cons, List.length_nil, List.length_set]; rfl),  trivial⟩) (⟨by first | rfl | (simp only [AV.map, GV.map, CV.map, AB.map', id]; done) | (congr 3; omega) | (congr 4; omega) | (simp only [List.length_append, List.length_cons, List.length_nil, List.length_set]; rfl),  trivial⟩) rfl) rfl ⟨.agg rfl rfl (fun _ => run_isAgg Try.underlying92) sz92, .tmp rfl, trivial⟩ trivial) ?_ ?_
            · first | rfl | (simp [outOf, aC]; done) | (simp [outOf, aC]; omega)
            · first | rfl | (simp; done) | (simp; omega)
          ·
            have hc6' := hc6; try simp only [bigC, sumB, Bool.not_eq_true', Bool.not_eq_false', Bool.or_eq_true, Bool.or_eq_false_iff, Bool.and_eq_true, Bool.and_eq_false_imp, decide_eq_true_eq, decide_eq_false_iff_not, Bool.not_not, Bool.not_true, Bool.not_false] at hc6'
            refine AC.skip ?_
            refine then_ok ?_
            refine AC.seq ?_
            refine AC.region ?_
            refine AL.val (Wanted.plain rfl) (g_loadBs rfl rfl rfl Try.underlying92 rfl sz92 rfl rfl) rfl rfl ?_
            refine AL.sto (h' := [(1, (.box 92 [(cI (c.money + money)), (cI (c.held + held)), (cI c.pace.ticks), (cI c.pace.count), (cI c.pace.sum), (cR 2 ((c.uses).map rUse))])), (0, (.box 92 [(cI (c.money + money)), (cI (c.held + held)), (cI c.pace.ticks), (cI c.pace.count), (cI c.pace.sum), (cR 2 ((c.uses).map rUse))]))]) (Wanted.plain rfl) (g_storeB rfl rfl rfl rfl rfl sz92 rfl (Nat.le_of_ble_eq_true rfl) rfl) rfl rfl rfl rfl ?_
            refine AL.fast 1 rfl ?_
            refine AL.nil ?_
            refine then_ok ?_
            refine AC.ret ?_
            have hX : shiftC c held money = ((⟨c.money + money, c.held + held, c.pace, c.uses⟩ : Card), 0) := by
              unfold shiftC; rw [if_neg (by omega), if_neg (by omega), if_neg (by first | omega | (have hz := rightC' (c := ⟨c.money + money, c.held + held, c.pace, c.uses⟩) (by dsimp only; omega) (hrc (by omega)).2.2.2.2.1 (hrc (by omega)).2.2.2.2.2; omega))]
            rw [hX] at hr; clear hX
            simp only [Prod.mk.injEq] at hr; obtain ⟨rfl, rfl⟩ := hr
            refine retQ_mk (av' := outOf [(.g [(cI (c.money + money)), (cI (c.held + held)), (cI c.pace.ticks), (cI c.pace.count), (cI c.pace.sum), (cR 2 ((c.uses).map rUse))]), (.c (cI 0))]) (nb' := []) (retQ_ret ⟨[(6, (aC (.p 1 0 0 0))), (7, (aI 0))], [(1, (.box 92 [(cI (c.money + money)), (cI (c.held + held)), (cI c.pace.ticks), (cI c.pace.count), (cI c.pace.sum), (cR 2 ((c.uses).map rUse))]))], 2⟩ [.cell 6 92, .tmp 7] [(.g [(cI (c.money + money)), (cI (c.held + held)), (cI c.pace.ticks), (cI c.pace.count), (cI c.pace.sum), (cR 2 ((c.uses).map rUse))]), (.c (cI 0))] (Weak.ren id (⟨by first | rfl | (simp only [AV.map, GV.map, CV.map, AB.map', id]; done) | (congr 3; omega) | (congr 4; omega) | (simp only [List.length_append, List.length_cons, List.length_nil, List.length_set]; rfl), by first | rfl | (simp only [AV.map, GV.map, CV.map, AB.map', id]; done) | (congr 3; omega) | (congr 4; omega) | (simp only [List.length_append, List.length_cons, List.length_nil, List.length_set]; rfl),  trivial⟩) (⟨by first | rfl | (simp only [AV.map, GV.map, CV.map, AB.map', id]; done) | (congr 3; omega) | (congr 4; omega) | (simp only [List.length_append, List.length_cons, List.length_nil, List.length_set]; rfl),  trivial⟩) rfl) rfl ⟨.agg rfl rfl (fun _ => run_isAgg Try.underlying92) sz92, .tmp rfl, trivial⟩ trivial) ?_ ?_
            · first | rfl | (simp [outOf, aC]; done) | (simp [outOf, aC]; omega)
            · first | rfl | (simp; done) | (simp; omega)
end Go.Proofs.Ytgmcdlfmifijlaa.Dev
