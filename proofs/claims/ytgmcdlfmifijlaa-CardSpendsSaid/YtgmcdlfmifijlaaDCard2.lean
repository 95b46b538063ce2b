/- cards: Allow, Force. -/
import Derived.Test.YtgmcdlfmifijlaaDCard1
set_option linter.unusedVariables false
set_option linter.unusedSimpArgs false
namespace Go.Proofs.Ytgmcdlfmifijlaa.Dev
open Go.RowKit

set_option maxRecDepth 100000 in
set_option maxHeartbeats 1000000 in
theorem c_card_Allow (c : Card) (n time : Int) (x : Card) (e : Int) (hr : allowC c n time = (x, e)) : Fn Try.prog 69 [(.g [(cI c.money), (cI c.held), (cI c.pace.ticks), (cI c.pace.count), (cI c.pace.sum), (cR 2 ((c.uses).map rUse))]), (.c (cI n)), (.c (cI time))] (.t [(.g [(cI x.money), (cI x.held), (cI x.pace.ticks), (cI x.pace.count), (cI x.pace.sum), (.s 0 0 2 x.uses.length)]), (.c (cI e))]) [(0, (.arr 44 2 ((x.uses).map rUse)))] := by
  refine Fn.mk' 60 [(0, (aG [(cI c.money), (cI c.held), (cI c.pace.ticks), (cI c.pace.count), (cI c.pace.sum), (cR 2 ((c.uses).map rUse))])), (1, (aI n)), (2, (aI time))] Try.func69 rfl rfl rfl rfl ?_
  intro W0 T0
  refine AC.lenG 0 5 rfl rfl (fun hlen0_5 => ?_)
  have hrc := @rightC c
  have hrl := @rightC_len c
  refine AC.seq ?_
  refine AC.region ?_
  refine AL.new (n' := 1) (Wanted.plain rfl) (g_boxS 0 rfl rfl) rfl rfl rfl ?_
  refine AL.new (n' := 2) (Wanted.plain rfl) (g_alloc 1 rfl zv92 rfl rfl rfl) rfl rfl rfl ?_
  refine AL.fast 1 rfl ?_
  refine AL.nil ?_
  refine then_ok ?_
  refine AC.seq ?_
  refine AC.seq ?_
  refine AC.region ?_
  refine AL.val (Wanted.plain rfl) (g_loadBs rfl rfl rfl Try.underlying92 rfl sz92 rfl rfl) rfl rfl ?_
  obtain ⟨e0, hr0⟩ : ∃ (e0 : Int), wrongC c = e0 := ⟨_, rfl⟩
  refine AL.call (n' := 2) (h' := [(1, (.box 92 [(cI 0), (cI 0), (cI 0), (cI 0), (cI 0), cN])), (0, (.box 92 [(cI c.money), (cI c.held), (cI c.pace.ticks), (cI c.pace.count), (cI c.pace.sum), (cR 2 ((c.uses).map rUse))]))]) (Wanted.plain rfl) (g_call 2 (c_card_Wrong c  e0 hr0) en72 rfl rfl ⟨⟨_, rfl, .g ⟨.d _, .d _, .d _, .d _, .d _, .d _,  trivial⟩⟩,  trivial⟩ trivial trivial rfl rfl rfl rfl) rfl rfl rfl rfl rfl ?_
  refine AL.fast 1 rfl ?_
  refine AL.nil ?_
  refine then_ok ?_
  refine AC.seq ?_
  refine AC.region ?_
  refine AL.fast 1 rfl ?_
  refine AL.val (Wanted.plain rfl) (g_binI rfl rfl rfl rfl) rfl rfl ?_
  refine AL.nil ?_
  refine then_ok ?_
  refine AC.cond rfl (fun hc1 => ?_) (fun hc1 => ?_)
  ·
    have hc1' := hc1; try simp only [sumB, Bool.not_eq_true', Bool.not_eq_false', Bool.or_eq_true, Bool.or_eq_false_iff, Bool.and_eq_true, Bool.and_eq_false_imp, decide_eq_true_eq, decide_eq_false_iff_not, Bool.not_not, Bool.not_true, Bool.not_false] at hc1'
    refine AC.seq ?_
    refine AC.region ?_
    refine AL.val (Wanted.plain rfl) (g_build (ys := []) rfl bld92 rfl trivial rfl rfl) rfl rfl ?_
    refine AL.fast 1 rfl ?_
    refine AL.sto (h' := [(1, (.box 92 [(cI 0), (cI 0), (cI 0), (cI 0), (cI 0), cN])), (0, (.box 92 [(cI c.money), (cI c.held), (cI c.pace.ticks), (cI c.pace.count), (cI c.pace.sum), (cR 2 ((c.uses).map rUse))]))]) (Wanted.plain rfl) (g_storeB rfl rfl rfl rfl rfl sz92 rfl (Nat.le_of_ble_eq_true rfl) rfl) rfl rfl rfl rfl ?_
    refine AL.fast 1 rfl ?_
    refine AL.nil ?_
    refine then_ok ?_
    refine AC.ret ?_
    refine then_ret ?_
    refine retQ_weak (Weak.nilB (n' := 3) (h' := [(2, (.arr 44 2 ((([] : List Use)).map rUse))), (1, (.box 92 [(cI 0), (cI 0), (cI 0), (cI 0), (cI 0), (.s 2 0 2 0)])), (0, (.box 92 [(cI c.money), (cI c.held), (cI c.pace.ticks), (cI c.pace.count), (cI c.pace.sum), (cR 2 ((c.uses).map rUse))]))]) 1 5 44 2 92 (by decide) rfl rfl rfl rfl rfl) ?_
    have hX : allowC c n time = ((⟨0, 0, (⟨0, 0, 0⟩ : Pace), ([] : List Use)⟩ : Card), e0) := by
      unfold allowC; rw [if_pos (by omega), hr0]; rfl
    rw [hX] at hr; clear hX
    simp only [Prod.mk.injEq] at hr; obtain ⟨rfl, rfl⟩ := hr
    refine retQ_mk (av' := outOf [(.g [(cI 0), (cI 0), (cI 0), (cI 0), (cI 0), (.s 0 0 2 0)]), (.c (cI e0))]) (nb' := [(0, (.arr 44 2 ((([] : List Use)).map rUse)))]) (retQ_ret ⟨[(6, (aC (.p 1 0 0 0))), (7, (aI e0))], [(0, (.arr 44 2 ((([] : List Use)).map rUse))), (1, (.box 92 [(cI 0), (cI 0), (cI 0), (cI 0), (cI 0), (.s 0 0 2 0)]))], 2⟩ [.cell 6 92, .tmp 7] [(.g [(cI 0), (cI 0), (cI 0), (cI 0), (cI 0), (.s 0 0 2 0)]), (.c (cI e0))] (Weak.ren (fun k => if k = 0 then 2 else if k = 1 then 1 else k) (⟨by first | rfl | (simp only [AV.map, GV.map, CV.map, AB.map', id]; done) | (congr 3; omega) | (congr 4; omega) | (simp only [List.length_append, List.length_cons, List.length_nil, List.length_set]; rfl), by first | rfl | (simp only [AV.map, GV.map, CV.map, AB.map', id]; done) | (congr 3; omega) | (congr 4; omega) | (simp only [List.length_append, List.length_cons, List.length_nil, List.length_set]; rfl),  trivial⟩) (⟨by first | rfl | (simp only [AV.map, GV.map, CV.map, AB.map', id]; done) | (congr 3; omega) | (congr 4; omega) | (simp only [List.length_append, List.length_cons, List.length_nil, List.length_set]; rfl), by first | rfl | (simp only [AV.map, GV.map, CV.map, AB.map', id]; done) | (congr 3; omega) | (congr 4; omega) | (simp only [List.length_append, List.length_cons, List.length_nil, List.length_set]; rfl),  trivial⟩) rfl) rfl ⟨.agg rfl rfl (fun _ => run_isAgg Try.underlying92) sz92, .tmp rfl, trivial⟩ ⟨by first | rfl | (simp only [AV.map, GV.map, CV.map, AB.map', id]; done) | (congr 3; omega) | (congr 4; omega) | (simp only [List.length_append, List.length_cons, List.length_nil, List.length_set]; rfl),  trivial⟩) ?_ ?_
    · first | rfl | (simp [outOf, aC]; done) | (simp [outOf, aC]; omega)
    · first | rfl | (simp; done) | (simp; omega)
  ·
    have hc1' := hc1; try simp only [sumB, Bool.not_eq_true', Bool.not_eq_false', Bool.or_eq_true, Bool.or_eq_false_iff, Bool.and_eq_true, Bool.and_eq_false_imp, decide_eq_true_eq, decide_eq_false_iff_not, Bool.not_not, Bool.not_true, Bool.not_false] at hc1'
    refine AC.skip ?_
    refine then_ok ?_
    refine AC.seq ?_
    refine AC.cutB 30 ((((decide (n < 1)) || (decide (n > 1000000))) || (decide (time < 0))) || (decide (time > 1000000))) ?_ ?_
    ·
      refine AC.region ?_
      refine AL.fast 1 rfl ?_
      refine AL.val (Wanted.plain rfl) (g_binI rfl rfl rfl rfl) rfl rfl ?_
      refine AL.fast 1 rfl ?_
      refine AL.dec (t := 19) rfl (fun hb2 => ?_) (fun hb2 => ?_)
      ·
        have hb2' := hb2; try simp only [sumB, Bool.not_eq_true', Bool.not_eq_false', Bool.or_eq_true, Bool.or_eq_false_iff, Bool.and_eq_true, Bool.and_eq_false_imp, decide_eq_true_eq, decide_eq_false_iff_not, Bool.not_not, Bool.not_true, Bool.not_false] at hb2'
        refine AL.fast 11 rfl ?_
        refine AL.nil ?_
        refine then_ok ?_
        exact Weak.popB 15 rfl rfl (by first | (simp [hb2]; done) | (simp_all; done) | (exfalso; simp_all; done) | (simp_all; omega)) rfl
      ·
        have hb2' := hb2; try simp only [sumB, Bool.not_eq_true', Bool.not_eq_false', Bool.or_eq_true, Bool.or_eq_false_iff, Bool.and_eq_true, Bool.and_eq_false_imp, decide_eq_true_eq, decide_eq_false_iff_not, Bool.not_not, Bool.not_true, Bool.not_false] at hb2'
        refine AL.fast 1 rfl ?_
        refine AL.val (Wanted.yes rfl rfl rfl) (g_binI rfl rfl rfl rfl) rfl rfl ?_
        refine AL.fast 2 rfl ?_
        refine AL.dec (t := 23) rfl (fun hb3 => ?_) (fun hb3 => ?_)
        ·
          have hb3' := hb3; try simp only [sumB, Bool.not_eq_true', Bool.not_eq_false', Bool.or_eq_true, Bool.or_eq_false_iff, Bool.and_eq_true, Bool.and_eq_false_imp, decide_eq_true_eq, decide_eq_false_iff_not, Bool.not_not, Bool.not_true, Bool.not_false] at hb3'
          refine AL.fast 7 rfl ?_
          refine AL.nil ?_
          refine then_ok ?_
          exact Weak.popB 16 rfl rfl (by first | (simp [hb2, hb3]; done) | (simp_all; done) | (exfalso; simp_all; done) | (simp_all; omega)) rfl
        ·
          have hb3' := hb3; try simp only [sumB, Bool.not_eq_true', Bool.not_eq_false', Bool.or_eq_true, Bool.or_eq_false_iff, Bool.and_eq_true, Bool.and_eq_false_imp, decide_eq_true_eq, decide_eq_false_iff_not, Bool.not_not, Bool.not_true, Bool.not_false] at hb3'
          refine AL.fast 1 rfl ?_
          refine AL.val (Wanted.yes rfl rfl rfl) (g_binI rfl rfl rfl rfl) rfl rfl ?_
          refine AL.fast 2 rfl ?_
          refine AL.dec (t := 27) rfl (fun hb4 => ?_) (fun hb4 => ?_)
          ·
            have hb4' := hb4; try simp only [sumB, Bool.not_eq_true', Bool.not_eq_false', Bool.or_eq_true, Bool.or_eq_false_iff, Bool.and_eq_true, Bool.and_eq_false_imp, decide_eq_true_eq, decide_eq_false_iff_not, Bool.not_not, Bool.not_true, Bool.not_false] at hb4'
            refine AL.fast 3 rfl ?_
            refine AL.nil ?_
            refine then_ok ?_
            exact Weak.popB 17 rfl rfl (by first | (simp [hb2, hb3, hb4]; done) | (simp_all; done) | (exfalso; simp_all; done) | (simp_all; omega)) rfl
          ·
            have hb4' := hb4; try simp only [sumB, Bool.not_eq_true', Bool.not_eq_false', Bool.or_eq_true, Bool.or_eq_false_iff, Bool.and_eq_true, Bool.and_eq_false_imp, decide_eq_true_eq, decide_eq_false_iff_not, Bool.not_not, Bool.not_true, Bool.not_false] at hb4'
            refine AL.fast 1 rfl ?_
            refine AL.val (Wanted.yes rfl rfl rfl) (g_binI rfl rfl rfl rfl) rfl rfl ?_
            refine AL.fast 1 rfl ?_
            refine AL.nil ?_
            refine then_ok ?_
            exact Weak.popB 17 rfl rfl (by first | (simp [hb2, hb3, hb4]; done) | (simp_all; done) | (exfalso; simp_all; done) | (simp_all; omega)) rfl
    ·
      refine AC.cond rfl (fun hc5 => ?_) (fun hc5 => ?_)
      ·
        have hc5' := hc5; try simp only [sumB, Bool.not_eq_true', Bool.not_eq_false', Bool.or_eq_true, Bool.or_eq_false_iff, Bool.and_eq_true, Bool.and_eq_false_imp, decide_eq_true_eq, decide_eq_false_iff_not, Bool.not_not, Bool.not_true, Bool.not_false] at hc5'
        refine AC.seq ?_
        refine AC.region ?_
        refine AL.val (Wanted.plain rfl) (g_build (ys := []) rfl bld92 rfl trivial rfl rfl) rfl rfl ?_
        refine AL.sto (h' := [(1, (.box 92 [(cI 0), (cI 0), (cI 0), (cI 0), (cI 0), cN])), (0, (.box 92 [(cI c.money), (cI c.held), (cI c.pace.ticks), (cI c.pace.count), (cI c.pace.sum), (cR 2 ((c.uses).map rUse))]))]) (Wanted.plain rfl) (g_storeB rfl rfl rfl rfl rfl sz92 rfl (Nat.le_of_ble_eq_true rfl) rfl) rfl rfl rfl rfl ?_
        refine AL.fast 1 rfl ?_
        refine AL.nil ?_
        refine then_ok ?_
        refine AC.ret ?_
        refine then_ret ?_
        refine retQ_weak (Weak.nilB (n' := 3) (h' := [(2, (.arr 44 2 ((([] : List Use)).map rUse))), (1, (.box 92 [(cI 0), (cI 0), (cI 0), (cI 0), (cI 0), (.s 2 0 2 0)])), (0, (.box 92 [(cI c.money), (cI c.held), (cI c.pace.ticks), (cI c.pace.count), (cI c.pace.sum), (cR 2 ((c.uses).map rUse))]))]) 1 5 44 2 92 (by decide) rfl rfl rfl rfl rfl) ?_
        have hX : allowC c n time = ((⟨0, 0, (⟨0, 0, 0⟩ : Pace), ([] : List Use)⟩ : Card), 3) := by
          unfold allowC; rw [if_neg (by omega), if_pos (by omega)]; rfl
        rw [hX] at hr; clear hX
        simp only [Prod.mk.injEq] at hr; obtain ⟨rfl, rfl⟩ := hr
        refine retQ_mk (av' := outOf [(.g [(cI 0), (cI 0), (cI 0), (cI 0), (cI 0), (.s 0 0 2 0)]), (.c (cI 3))]) (nb' := [(0, (.arr 44 2 ((([] : List Use)).map rUse)))]) (retQ_ret ⟨[(6, (aC (.p 1 0 0 0))), (7, (aI 3))], [(0, (.arr 44 2 ((([] : List Use)).map rUse))), (1, (.box 92 [(cI 0), (cI 0), (cI 0), (cI 0), (cI 0), (.s 0 0 2 0)]))], 2⟩ [.cell 6 92, .tmp 7] [(.g [(cI 0), (cI 0), (cI 0), (cI 0), (cI 0), (.s 0 0 2 0)]), (.c (cI 3))] (Weak.ren (fun k => if k = 0 then 2 else if k = 1 then 1 else k) (⟨by first | rfl | (simp only [AV.map, GV.map, CV.map, AB.map', id]; done) | (congr 3; omega) | (congr 4; omega) | (simp only [List.length_append, List.length_cons, List.length_nil, List.length_set]; rfl), by first | rfl | (simp only [AV.map, GV.map, CV.map, AB.map', id]; done) | (congr 3; omega) | (congr 4; omega) | (simp only [List.length_append, List.length_cons, List.length_nil, List.length_set]; rfl),  trivial⟩) (⟨by first | rfl | (simp only [AV.map, GV.map, CV.map, AB.map', id]; done) | (congr 3; omega) | (congr 4; omega) | (simp only [List.length_append, List.length_cons, List.length_nil, List.length_set]; rfl), by first | rfl | (simp only [AV.map, GV.map, CV.map, AB.map', id]; done) | (congr 3; omega) | (congr 4; omega) | (simp only [List.length_append, List.length_cons, List.length_nil, List.length_set]; rfl),  trivial⟩) rfl) rfl ⟨.agg rfl rfl (fun _ => run_isAgg Try.underlying92) sz92, .tmp rfl, trivial⟩ ⟨by first | rfl | (simp only [AV.map, GV.map, CV.map, AB.map', id]; done) | (congr 3; omega) | (congr 4; omega) | (simp only [List.length_append, List.length_cons, List.length_nil, List.length_set]; rfl),  trivial⟩) ?_ ?_
        · first | rfl | (simp [outOf, aC]; done) | (simp [outOf, aC]; omega)
        · first | rfl | (simp; done) | (simp; omega)
      ·
        have hc5' := hc5; try simp only [sumB, Bool.not_eq_true', Bool.not_eq_false', Bool.or_eq_true, Bool.or_eq_false_iff, Bool.and_eq_true, Bool.and_eq_false_imp, decide_eq_true_eq, decide_eq_false_iff_not, Bool.not_not, Bool.not_true, Bool.not_false] at hc5'
        refine AC.skip ?_
        refine then_ok ?_
        refine AC.seq ?_
        refine AC.seq ?_
        refine AC.region ?_
        refine AL.fast 1 rfl ?_
        refine AL.val (Wanted.plain rfl) (g_loadBs rfl rfl rfl Try.underlying92 rfl sz92 rfl rfl) rfl rfl ?_
        refine AL.call (n' := 2) (h' := [(1, (.box 92 [(cI 0), (cI 0), (cI 0), (cI 0), (cI 0), cN])), (0, (.box 92 [(cI c.money), (cI c.held), (cI c.pace.ticks), (cI c.pace.count), (cI c.pace.sum), (cR 2 ((c.uses).map rUse))]))]) (Wanted.plain rfl) (g_call 2 (c_card_Free c (by first | assumption | omega | (constructor <;> decide) | (have hz := rightC (by first | assumption | omega); omega)) ) en71 rfl rfl ⟨⟨_, rfl, .g ⟨.d _, .d _, .d _, .d _, .d _, .d _,  trivial⟩⟩,  trivial⟩ trivial trivial rfl rfl rfl rfl) rfl rfl rfl rfl rfl ?_
        refine AL.val (Wanted.plain rfl) (g_binI rfl rfl rfl rfl) rfl rfl ?_
        refine AL.nil ?_
        refine then_ok ?_
        refine AC.cond rfl (fun hc6 => ?_) (fun hc6 => ?_)
        ·
          have hc6' := hc6; try simp only [sumB, Bool.not_eq_true', Bool.not_eq_false', Bool.or_eq_true, Bool.or_eq_false_iff, Bool.and_eq_true, Bool.and_eq_false_imp, decide_eq_true_eq, decide_eq_false_iff_not, Bool.not_not, Bool.not_true, Bool.not_false] at hc6'
          refine AC.seq ?_
          refine AC.region ?_
          refine AL.val (Wanted.plain rfl) (g_build (ys := []) rfl bld92 rfl trivial rfl rfl) rfl rfl ?_
          refine AL.sto (h' := [(1, (.box 92 [(cI 0), (cI 0), (cI 0), (cI 0), (cI 0), cN])), (0, (.box 92 [(cI c.money), (cI c.held), (cI c.pace.ticks), (cI c.pace.count), (cI c.pace.sum), (cR 2 ((c.uses).map rUse))]))]) (Wanted.plain rfl) (g_storeB rfl rfl rfl rfl rfl sz92 rfl (Nat.le_of_ble_eq_true rfl) rfl) rfl rfl rfl rfl ?_
          refine AL.fast 1 rfl ?_
          refine AL.nil ?_
          refine then_ok ?_
          refine AC.ret ?_
          refine then_ret ?_
          refine retQ_weak (Weak.nilB (n' := 3) (h' := [(2, (.arr 44 2 ((([] : List Use)).map rUse))), (1, (.box 92 [(cI 0), (cI 0), (cI 0), (cI 0), (cI 0), (.s 2 0 2 0)])), (0, (.box 92 [(cI c.money), (cI c.held), (cI c.pace.ticks), (cI c.pace.count), (cI c.pace.sum), (cR 2 ((c.uses).map rUse))]))]) 1 5 44 2 92 (by decide) rfl rfl rfl rfl rfl) ?_
          have hX : allowC c n time = ((⟨0, 0, (⟨0, 0, 0⟩ : Pace), ([] : List Use)⟩ : Card), 10) := by
            unfold allowC; rw [if_neg (by omega), if_neg (by omega), if_pos (by omega)]; rfl
          rw [hX] at hr; clear hX
          simp only [Prod.mk.injEq] at hr; obtain ⟨rfl, rfl⟩ := hr
          refine retQ_mk (av' := outOf [(.g [(cI 0), (cI 0), (cI 0), (cI 0), (cI 0), (.s 0 0 2 0)]), (.c (cI 10))]) (nb' := [(0, (.arr 44 2 ((([] : List Use)).map rUse)))]) (retQ_ret ⟨[(6, (aC (.p 1 0 0 0))), (7, (aI 10))], [(0, (.arr 44 2 ((([] : List Use)).map rUse))), (1, (.box 92 [(cI 0), (cI 0), (cI 0), (cI 0), (cI 0), (.s 0 0 2 0)]))], 2⟩ [.cell 6 92, .tmp 7] [(.g [(cI 0), (cI 0), (cI 0), (cI 0), (cI 0), (.s 0 0 2 0)]), (.c (cI 10))] (Weak.ren (fun k => if k = 0 then 2 else if k = 1 then 1 else k) (⟨by first | rfl | (simp only [AV.map, GV.map, CV.map, AB.map', id]; done) | (congr 3; omega) | (congr 4; omega) | (simp only [List.length_append, List.length_cons, List.length_nil, List.length_set]; rfl), by first | rfl | (simp only [AV.map, GV.map, CV.map, AB.map', id]; done) | (congr 3; omega) | (congr 4; omega) | (simp only [List.length_append, List.length_cons, List.length_nil, List.length_set]; rfl),  trivial⟩) (⟨by first | rfl | (simp only [AV.map, GV.map, CV.map, AB.map', id]; done) | (congr 3; omega) | (congr 4; omega) | (simp only [List.length_append, List.length_cons, List.length_nil, List.length_set]; rfl), by first | rfl | (simp only [AV.map, GV.map, CV.map, AB.map', id]; done) | (congr 3; omega) | (congr 4; omega) | (simp only [List.length_append, List.length_cons, List.length_nil, List.length_set]; rfl),  trivial⟩) rfl) rfl ⟨.agg rfl rfl (fun _ => run_isAgg Try.underlying92) sz92, .tmp rfl, trivial⟩ ⟨by first | rfl | (simp only [AV.map, GV.map, CV.map, AB.map', id]; done) | (congr 3; omega) | (congr 4; omega) | (simp only [List.length_append, List.length_cons, List.length_nil, List.length_set]; rfl),  trivial⟩) ?_ ?_
          · first | rfl | (simp [outOf, aC]; done) | (simp [outOf, aC]; omega)
          · first | rfl | (simp; done) | (simp; omega)
        ·
          have hc6' := hc6; try simp only [sumB, Bool.not_eq_true', Bool.not_eq_false', Bool.or_eq_true, Bool.or_eq_false_iff, Bool.and_eq_true, Bool.and_eq_false_imp, decide_eq_true_eq, decide_eq_false_iff_not, Bool.not_not, Bool.not_true, Bool.not_false] at hc6'
          refine AC.skip ?_
          refine then_ok ?_
          refine AC.seq ?_
          refine AC.region ?_
          refine AL.val (Wanted.plain rfl) (g_fieldP rfl rfl Try.underlying92 rfl sz41 (by decide)) rfl rfl ?_
          refine AL.val (Wanted.plain rfl) (g_loadBs rfl rfl rfl Try.underlying41 rfl sz41 rfl rfl) rfl rfl ?_
          refine AL.val (Wanted.plain rfl) (g_fieldP rfl rfl Try.underlying92 rfl sz42 (by decide)) rfl rfl ?_
          refine AL.val (Wanted.plain rfl) (g_loadB rfl rfl rfl Try.underlying42 rfl rfl) rfl rfl ?_
          refine AL.fast 2 rfl ?_
          refine AL.val (Wanted.plain rfl) (g_build (ys := [(0, (.c (cI time))), (1, (.c (cI n)))]) rfl bld44 rfl ⟨⟨rfl, rfl⟩, ⟨rfl, rfl⟩,  trivial⟩ rfl rfl) rfl rfl ?_
          obtain ⟨r1, e1, hr1⟩ : ∃ (r1 : List Use) (e1 : Int), addUse c.pace c.uses (⟨time, n⟩ : Use) = (r1, e1) := ⟨_, _, rfl⟩
          refine AL.call (n' := 3) (h' := [(2, (.arr 44 2 ((r1).map rUse))), (1, (.box 92 [(cI 0), (cI 0), (cI 0), (cI 0), (cI 0), cN])), (0, (.box 92 [(cI c.money), (cI c.held), (cI c.pace.ticks), (cI c.pace.count), (cI c.pace.sum), (cR 2 ((c.uses).map rUse))]))]) (Wanted.plain rfl) (g_call 2 (c_pace_Add c.pace c.uses (⟨time, n⟩ : Use)  r1 e1 hr1) en45 rfl rfl ⟨⟨_, rfl, .g ⟨.d _, .d _, .d _,  trivial⟩⟩, ⟨_, rfl, .c (.d _)⟩, ⟨_, rfl, .g ⟨.d _, .d _,  trivial⟩⟩,  trivial⟩ ⟨trivial, trivial,  trivial⟩ ⟨(fun _ _ _ _ => trivial),  trivial⟩ rfl rfl rfl rfl) rfl rfl rfl rfl rfl ?_
          refine AL.fast 1 rfl ?_
          refine AL.val (Wanted.plain rfl) (g_extract rfl rfl rfl) rfl rfl ?_
          refine AL.val (Wanted.plain rfl) (g_extract rfl rfl rfl) rfl rfl ?_
          refine AL.fast 2 rfl ?_
          refine AL.nil ?_
          refine then_ok ?_
          refine AC.seq ?_
          refine AC.seq ?_
          refine AC.region ?_
          refine AL.fast 1 rfl ?_
          refine AL.val (Wanted.plain rfl) (g_binI rfl rfl rfl rfl) rfl rfl ?_
          refine AL.nil ?_
          refine then_ok ?_
          refine AC.cond rfl (fun hc7 => ?_) (fun hc7 => ?_)
          ·
            have hc7' := hc7; try simp only [sumB, Bool.not_eq_true', Bool.not_eq_false', Bool.or_eq_true, Bool.or_eq_false_iff, Bool.and_eq_true, Bool.and_eq_false_imp, decide_eq_true_eq, decide_eq_false_iff_not, Bool.not_not, Bool.not_true, Bool.not_false] at hc7'
            refine AC.seq ?_
            refine AC.region ?_
            refine AL.val (Wanted.plain rfl) (g_build (ys := []) rfl bld92 rfl trivial rfl rfl) rfl rfl ?_
            refine AL.fast 1 rfl ?_
            refine AL.sto (h' := [(2, (.arr 44 2 ((r1).map rUse))), (1, (.box 92 [(cI 0), (cI 0), (cI 0), (cI 0), (cI 0), cN])), (0, (.box 92 [(cI c.money), (cI c.held), (cI c.pace.ticks), (cI c.pace.count), (cI c.pace.sum), (cR 2 ((c.uses).map rUse))]))]) (Wanted.plain rfl) (g_storeB rfl rfl rfl rfl rfl sz92 rfl (Nat.le_of_ble_eq_true rfl) rfl) rfl rfl rfl rfl ?_
            refine AL.fast 1 rfl ?_
            refine AL.nil ?_
            refine then_ok ?_
            refine AC.ret ?_
            refine then_ret ?_
            refine retQ_weak (Weak.nilB (n' := 4) (h' := [(3, (.arr 44 2 ((([] : List Use)).map rUse))), (2, (.arr 44 2 ((r1).map rUse))), (1, (.box 92 [(cI 0), (cI 0), (cI 0), (cI 0), (cI 0), (.s 3 0 2 0)])), (0, (.box 92 [(cI c.money), (cI c.held), (cI c.pace.ticks), (cI c.pace.count), (cI c.pace.sum), (cR 2 ((c.uses).map rUse))]))]) 1 5 44 2 92 (by decide) rfl rfl rfl rfl rfl) ?_
            have hX : allowC c n time = ((⟨0, 0, (⟨0, 0, 0⟩ : Pace), ([] : List Use)⟩ : Card), e1) := by
              have ha := hr1
              unfold allowC; rw [if_neg (by omega), if_neg (by omega), if_neg (by omega), if_pos (by rw [ha]; dsimp only; omega), ha]; rfl
            rw [hX] at hr; clear hX
            simp only [Prod.mk.injEq] at hr; obtain ⟨rfl, rfl⟩ := hr
            refine retQ_mk (av' := outOf [(.g [(cI 0), (cI 0), (cI 0), (cI 0), (cI 0), (.s 0 0 2 0)]), (.c (cI e1))]) (nb' := [(0, (.arr 44 2 ((([] : List Use)).map rUse)))]) (retQ_ret ⟨[(6, (aC (.p 1 0 0 0))), (7, (aI e1))], [(0, (.arr 44 2 ((([] : List Use)).map rUse))), (1, (.box 92 [(cI 0), (cI 0), (cI 0), (cI 0), (cI 0), (.s 0 0 2 0)]))], 2⟩ [.cell 6 92, .tmp 7] [(.g [(cI 0), (cI 0), (cI 0), (cI 0), (cI 0), (.s 0 0 2 0)]), (.c (cI e1))] (Weak.ren (fun k => if k = 0 then 3 else if k = 1 then 1 else k) (⟨by first | rfl | (simp only [AV.map, GV.map, CV.map, AB.map', id]; done) | (congr 3; omega) | (congr 4; omega) | (simp only [List.length_append, List.length_cons, List.length_nil, List.length_set]; rfl), by first | rfl | (simp only [AV.map, GV.map, CV.map, AB.map', id]; done) | (congr 3; omega) | (congr 4; omega) | (simp only [List.length_append, List.length_cons, List.length_nil, List.length_set]; rfl),  trivial⟩) (⟨by first | rfl | (simp only [AV.map, GV.map, CV.map, AB.map', id]; done) | (congr 3; omega) | (congr 4; omega) | (simp only [List.length_append, List.length_cons, List.length_nil, List.length_set]; rfl), by first | rfl | (simp only [AV.map, GV.map, CV.map, AB.map', id]; done) | (congr 3; omega) | (congr 4; omega) | (simp only [List.length_append, List.length_cons, List.length_nil, List.length_set]; rfl),  trivial⟩) rfl) rfl ⟨.agg rfl rfl (fun _ => run_isAgg Try.underlying92) sz92, .tmp rfl, trivial⟩ ⟨by first | rfl | (simp only [AV.map, GV.map, CV.map, AB.map', id]; done) | (congr 3; omega) | (congr 4; omega) | (simp only [List.length_append, List.length_cons, List.length_nil, List.length_set]; rfl),  trivial⟩) ?_ ?_
            · first | rfl | (simp [outOf, aC]; done) | (simp [outOf, aC]; omega)
            · first | rfl | (simp; done) | (simp; omega)
          ·
            have hc7' := hc7; try simp only [sumB, Bool.not_eq_true', Bool.not_eq_false', Bool.or_eq_true, Bool.or_eq_false_iff, Bool.and_eq_true, Bool.and_eq_false_imp, decide_eq_true_eq, decide_eq_false_iff_not, Bool.not_not, Bool.not_true, Bool.not_false] at hc7'
            refine AC.skip ?_
            refine then_ok ?_
            refine AC.seq ?_
            refine AC.region ?_
            refine AL.fast 1 rfl ?_
            refine AL.val (Wanted.plain rfl) (g_fieldP rfl rfl Try.underlying92 rfl sz42 (by decide)) rfl rfl ?_
            refine AL.sto (h' := [(2, (.arr 44 2 ((r1).map rUse))), (1, (.box 92 [(cI 0), (cI 0), (cI 0), (cI 0), (cI 0), cN])), (0, (.box 92 [(cI c.money), (cI c.held), (cI c.pace.ticks), (cI c.pace.count), (cI c.pace.sum), (.s 2 0 2 r1.length)]))]) (Wanted.plain rfl) (g_storeB rfl rfl rfl rfl rfl sz42 rfl (Nat.le_of_ble_eq_true rfl) rfl) rfl rfl rfl rfl ?_
            refine AL.nil ?_
            refine then_ok ?_
            refine AC.seq ?_
            refine AC.region ?_
            refine AL.val (Wanted.plain rfl) (g_fieldP rfl rfl Try.underlying92 rfl sz3 (by decide)) rfl rfl ?_
            refine AL.val (Wanted.plain rfl) (g_loadB rfl rfl rfl Try.underlying3 rfl rfl) rfl rfl ?_
            refine AL.fast 1 rfl ?_
            refine AL.val (Wanted.plain rfl) (g_binI rfl rfl rfl (wrap_ok (by first | omega | (simp; done) | (simp; omega)))) rfl rfl ?_
            refine AL.val (Wanted.plain rfl) (g_fieldP rfl rfl Try.underlying92 rfl sz3 (by decide)) rfl rfl ?_
            refine AL.sto (h' := [(2, (.arr 44 2 ((r1).map rUse))), (1, (.box 92 [(cI 0), (cI 0), (cI 0), (cI 0), (cI 0), cN])), (0, (.box 92 [(cI c.money), (cI (c.held + n)), (cI c.pace.ticks), (cI c.pace.count), (cI c.pace.sum), (.s 2 0 2 r1.length)]))]) (Wanted.plain rfl) (g_storeB rfl rfl rfl rfl rfl sz3 rfl (Nat.le_of_ble_eq_true rfl) rfl) rfl rfl rfl rfl ?_
            refine AL.nil ?_
            refine then_ok ?_
            refine AC.seq ?_
            refine AC.region ?_
            refine AL.val (Wanted.plain rfl) (g_loadBs rfl rfl rfl Try.underlying92 rfl sz92 rfl rfl) rfl rfl ?_
            refine AL.sto (h' := [(2, (.arr 44 2 ((r1).map rUse))), (1, (.box 92 [(cI c.money), (cI (c.held + n)), (cI c.pace.ticks), (cI c.pace.count), (cI c.pace.sum), (.s 2 0 2 r1.length)])), (0, (.box 92 [(cI c.money), (cI (c.held + n)), (cI c.pace.ticks), (cI c.pace.count), (cI c.pace.sum), (.s 2 0 2 r1.length)]))]) (Wanted.plain rfl) (g_storeB rfl rfl rfl rfl rfl sz92 rfl (Nat.le_of_ble_eq_true rfl) rfl) rfl rfl rfl rfl ?_
            refine AL.fast 1 rfl ?_
            refine AL.nil ?_
            refine then_ok ?_
            refine AC.ret ?_
            have hX : allowC c n time = ((⟨c.money, c.held + n, c.pace, r1⟩ : Card), 0) := by
              have ha := hr1
              unfold allowC; rw [if_neg (by omega), if_neg (by omega), if_neg (by omega), if_neg (by rw [ha]; dsimp only; omega), ha]
            rw [hX] at hr; clear hX
            simp only [Prod.mk.injEq] at hr; obtain ⟨rfl, rfl⟩ := hr
            refine retQ_mk (av' := outOf [(.g [(cI c.money), (cI (c.held + n)), (cI c.pace.ticks), (cI c.pace.count), (cI c.pace.sum), (.s 0 0 2 r1.length)]), (.c (cI 0))]) (nb' := [(0, (.arr 44 2 ((r1).map rUse)))]) (retQ_ret ⟨[(6, (aC (.p 1 0 0 0))), (7, (aI 0))], [(0, (.arr 44 2 ((r1).map rUse))), (1, (.box 92 [(cI c.money), (cI (c.held + n)), (cI c.pace.ticks), (cI c.pace.count), (cI c.pace.sum), (.s 0 0 2 r1.length)]))], 2⟩ [.cell 6 92, .tmp 7] [(.g [(cI c.money), (cI (c.held + n)), (cI c.pace.ticks), (cI c.pace.count), (cI c.pace.sum), (.s 0 0 2 r1.length)]), (.c (cI 0))] (Weak.ren (fun k => if k = 0 then 2 else if k = 1 then 1 else k) (⟨by first | rfl | (simp only [AV.map, GV.map, CV.map, AB.map', id]; done) | (congr 3; omega) | (congr 4; omega) | (simp only [List.length_append, List.length_cons, List.length_nil, List.length_set]; rfl), by first | rfl | (simp only [AV.map, GV.map, CV.map, AB.map', id]; done) | (congr 3; omega) | (congr 4; omega) | (simp only [List.length_append, List.length_cons, List.length_nil, List.length_set]; rfl),  trivial⟩) (⟨by first | rfl | (simp only [AV.map, GV.map, CV.map, AB.map', id]; done) | (congr 3; omega) | (congr 4; omega) | (simp only [List.length_append, List.length_cons, List.length_nil, List.length_set]; rfl), by first | rfl | (simp only [AV.map, GV.map, CV.map, AB.map', id]; done) | (congr 3; omega) | (congr 4; omega) | (simp only [List.length_append, List.length_cons, List.length_nil, List.length_set]; rfl),  trivial⟩) rfl) rfl ⟨.agg rfl rfl (fun _ => run_isAgg Try.underlying92) sz92, .tmp rfl, trivial⟩ ⟨by first | rfl | (simp only [AV.map, GV.map, CV.map, AB.map', id]; done) | (congr 3; omega) | (congr 4; omega) | (simp only [List.length_append, List.length_cons, List.length_nil, List.length_set]; rfl),  trivial⟩) ?_ ?_
            · first | rfl | (simp [outOf, aC]; done) | (simp [outOf, aC]; omega)
            · first | rfl | (simp; done) | (simp; omega)
set_option maxRecDepth 100000 in
set_option maxHeartbeats 1000000 in
theorem c_ref_Allow (c : Card) (n time : Int) (x : Card) (e : Int) (hr : allowC c n time = (x, e)) : Fn Try.prog 76 [(.g [(cI c.money), (cI c.held), (cI c.pace.ticks), (cI c.pace.count), (cI c.pace.sum), (cR 2 ((c.uses).map rUse))]), (.c (cI n)), (.c (cI time))] (.t [(.g [(cI x.money), (cI x.held), (cI x.pace.ticks), (cI x.pace.count), (cI x.pace.sum), (.s 0 0 2 x.uses.length)]), (.c (cI e))]) [(0, (.arr 44 2 ((x.uses).map rUse)))] := by
  refine Fn.mk' 63 [(0, (aG [(cI c.money), (cI c.held), (cI c.pace.ticks), (cI c.pace.count), (cI c.pace.sum), (cR 2 ((c.uses).map rUse))])), (1, (aI n)), (2, (aI time))] Try.func76 rfl rfl rfl rfl ?_
  intro W0 T0
  refine AC.lenG 0 5 rfl rfl (fun hlen0_5 => ?_)
  have hrc := @rightC c
  have hrl := @rightC_len c
  refine AC.seq ?_
  refine AC.region ?_
  refine AL.new (n' := 1) (Wanted.plain rfl) (g_boxS 0 rfl rfl) rfl rfl rfl ?_
  refine AL.new (n' := 2) (Wanted.plain rfl) (g_alloc 1 rfl zv92 rfl rfl rfl) rfl rfl rfl ?_
  refine AL.fast 1 rfl ?_
  refine AL.nil ?_
  refine then_ok ?_
  refine AC.seq ?_
  refine AC.seq ?_
  refine AC.region ?_
  refine AL.val (Wanted.plain rfl) (g_loadBs rfl rfl rfl Try.underlying92 rfl sz92 rfl rfl) rfl rfl ?_
  obtain ⟨e0, hr0⟩ : ∃ (e0 : Int), wrongC c = e0 := ⟨_, rfl⟩
  refine AL.call (n' := 2) (h' := [(1, (.box 92 [(cI 0), (cI 0), (cI 0), (cI 0), (cI 0), cN])), (0, (.box 92 [(cI c.money), (cI c.held), (cI c.pace.ticks), (cI c.pace.count), (cI c.pace.sum), (cR 2 ((c.uses).map rUse))]))]) (Wanted.plain rfl) (g_call 2 (c_ref_WrongCard c  e0 hr0) en75 rfl rfl ⟨⟨_, rfl, .g ⟨.d _, .d _, .d _, .d _, .d _, .d _,  trivial⟩⟩,  trivial⟩ trivial trivial rfl rfl rfl rfl) rfl rfl rfl rfl rfl ?_
  refine AL.fast 1 rfl ?_
  refine AL.nil ?_
  refine then_ok ?_
  refine AC.seq ?_
  refine AC.region ?_
  refine AL.fast 1 rfl ?_
  refine AL.val (Wanted.plain rfl) (g_binI rfl rfl rfl rfl) rfl rfl ?_
  refine AL.nil ?_
  refine then_ok ?_
  refine AC.cond rfl (fun hc1 => ?_) (fun hc1 => ?_)
  ·
    have hc1' := hc1; try simp only [sumB, Bool.not_eq_true', Bool.not_eq_false', Bool.or_eq_true, Bool.or_eq_false_iff, Bool.and_eq_true, Bool.and_eq_false_imp, decide_eq_true_eq, decide_eq_false_iff_not, Bool.not_not, Bool.not_true, Bool.not_false] at hc1'
    refine AC.seq ?_
    refine AC.region ?_
    refine AL.val (Wanted.plain rfl) (g_build (ys := []) rfl bld92 rfl trivial rfl rfl) rfl rfl ?_
    refine AL.fast 1 rfl ?_
    refine AL.sto (h' := [(1, (.box 92 [(cI 0), (cI 0), (cI 0), (cI 0), (cI 0), cN])), (0, (.box 92 [(cI c.money), (cI c.held), (cI c.pace.ticks), (cI c.pace.count), (cI c.pace.sum), (cR 2 ((c.uses).map rUse))]))]) (Wanted.plain rfl) (g_storeB rfl rfl rfl rfl rfl sz92 rfl (Nat.le_of_ble_eq_true rfl) rfl) rfl rfl rfl rfl ?_
    refine AL.fast 1 rfl ?_
    refine AL.nil ?_
    refine then_ok ?_
    refine AC.ret ?_
    refine then_ret ?_
    refine retQ_weak (Weak.nilB (n' := 3) (h' := [(2, (.arr 44 2 ((([] : List Use)).map rUse))), (1, (.box 92 [(cI 0), (cI 0), (cI 0), (cI 0), (cI 0), (.s 2 0 2 0)])), (0, (.box 92 [(cI c.money), (cI c.held), (cI c.pace.ticks), (cI c.pace.count), (cI c.pace.sum), (cR 2 ((c.uses).map rUse))]))]) 1 5 44 2 92 (by decide) rfl rfl rfl rfl rfl) ?_
    have hX : allowC c n time = ((⟨0, 0, (⟨0, 0, 0⟩ : Pace), ([] : List Use)⟩ : Card), e0) := by
      unfold allowC; rw [if_pos (by omega), hr0]; rfl
    rw [hX] at hr; clear hX
    simp only [Prod.mk.injEq] at hr; obtain ⟨rfl, rfl⟩ := hr
    refine retQ_mk (av' := outOf [(.g [(cI 0), (cI 0), (cI 0), (cI 0), (cI 0), (.s 0 0 2 0)]), (.c (cI e0))]) (nb' := [(0, (.arr 44 2 ((([] : List Use)).map rUse)))]) (retQ_ret ⟨[(6, (aC (.p 1 0 0 0))), (7, (aI e0))], [(0, (.arr 44 2 ((([] : List Use)).map rUse))), (1, (.box 92 [(cI 0), (cI 0), (cI 0), (cI 0), (cI 0), (.s 0 0 2 0)]))], 2⟩ [.cell 6 92, .tmp 7] [(.g [(cI 0), (cI 0), (cI 0), (cI 0), (cI 0), (.s 0 0 2 0)]), (.c (cI e0))] (Weak.ren (fun k => if k = 0 then 2 else if k = 1 then 1 else k) (⟨by first | rfl | (simp only [AV.map, GV.map, CV.map, AB.map', id]; done) | (congr 3; omega) | (congr 4; omega) | (simp only [List.length_append, List.length_cons, List.length_nil, List.length_set]; rfl), by first | rfl | (simp only [AV.map, GV.map, CV.map, AB.map', id]; done) | (congr 3; omega) | (congr 4; omega) | (simp only [List.length_append, List.length_cons, List.length_nil, List.length_set]; rfl),  trivial⟩) (⟨by first | rfl | (simp only [AV.map, GV.map, CV.map, AB.map', id]; done) | (congr 3; omega) | (congr 4; omega) | (simp only [List.length_append, List.length_cons, List.length_nil, List.length_set]; rfl), by first | rfl | (simp only [AV.map, GV.map, CV.map, AB.map', id]; done) | (congr 3; omega) | (congr 4; omega) | (simp only [List.length_append, List.length_cons, List.length_nil, List.length_set]; rfl),  trivial⟩) rfl) rfl ⟨.agg rfl rfl (fun _ => run_isAgg Try.underlying92) sz92, .tmp rfl, trivial⟩ ⟨by first | rfl | (simp only [AV.map, GV.map, CV.map, AB.map', id]; done) | (congr 3; omega) | (congr 4; omega) | (simp only [List.length_append, List.length_cons, List.length_nil, List.length_set]; rfl),  trivial⟩) ?_ ?_
    · first | rfl | (simp [outOf, aC]; done) | (simp [outOf, aC]; omega)
    · first | rfl | (simp; done) | (simp; omega)
  ·
    have hc1' := hc1; try simp only [sumB, Bool.not_eq_true', Bool.not_eq_false', Bool.or_eq_true, Bool.or_eq_false_iff, Bool.and_eq_true, Bool.and_eq_false_imp, decide_eq_true_eq, decide_eq_false_iff_not, Bool.not_not, Bool.not_true, Bool.not_false] at hc1'
    refine AC.skip ?_
    refine then_ok ?_
    refine AC.seq ?_
    refine AC.cutB 30 ((((decide (n < 1)) || (decide (n > 1000000))) || (decide (time < 0))) || (decide (time > 1000000))) ?_ ?_
    ·
      refine AC.region ?_
      refine AL.fast 1 rfl ?_
      refine AL.val (Wanted.plain rfl) (g_binI rfl rfl rfl rfl) rfl rfl ?_
      refine AL.fast 1 rfl ?_
      refine AL.dec (t := 19) rfl (fun hb2 => ?_) (fun hb2 => ?_)
      ·
        have hb2' := hb2; try simp only [sumB, Bool.not_eq_true', Bool.not_eq_false', Bool.or_eq_true, Bool.or_eq_false_iff, Bool.and_eq_true, Bool.and_eq_false_imp, decide_eq_true_eq, decide_eq_false_iff_not, Bool.not_not, Bool.not_true, Bool.not_false] at hb2'
        refine AL.fast 11 rfl ?_
        refine AL.nil ?_
        refine then_ok ?_
        exact Weak.popB 15 rfl rfl (by first | (simp [hb2]; done) | (simp_all; done) | (exfalso; simp_all; done) | (simp_all; omega)) rfl
      ·
        have hb2' := hb2; try simp only [sumB, Bool.not_eq_true', Bool.not_eq_false', Bool.or_eq_true, Bool.or_eq_false_iff, Bool.and_eq_true, Bool.and_eq_false_imp, decide_eq_true_eq, decide_eq_false_iff_not, Bool.not_not, Bool.not_true, Bool.not_false] at hb2'
        refine AL.fast 1 rfl ?_
        refine AL.val (Wanted.yes rfl rfl rfl) (g_binI rfl rfl rfl rfl) rfl rfl ?_
        refine AL.fast 2 rfl ?_
        refine AL.dec (t := 23) rfl (fun hb3 => ?_) (fun hb3 => ?_)
        ·
          have hb3' := hb3; try simp only [sumB, Bool.not_eq_true', Bool.not_eq_false', Bool.or_eq_true, Bool.or_eq_false_iff, Bool.and_eq_true, Bool.and_eq_false_imp, decide_eq_true_eq, decide_eq_false_iff_not, Bool.not_not, Bool.not_true, Bool.not_false] at hb3'
          refine AL.fast 7 rfl ?_
          refine AL.nil ?_
          refine then_ok ?_
          exact Weak.popB 16 rfl rfl (by first | (simp [hb2, hb3]; done) | (simp_all; done) | (exfalso; simp_all; done) | (simp_all; omega)) rfl
        ·
          have hb3' := hb3; try simp only [sumB, Bool.not_eq_true', Bool.not_eq_false', Bool.or_eq_true, Bool.or_eq_false_iff, Bool.and_eq_true, Bool.and_eq_false_imp, decide_eq_true_eq, decide_eq_false_iff_not, Bool.not_not, Bool.not_true, Bool.not_false] at hb3'
          refine AL.fast 1 rfl ?_
          refine AL.val (Wanted.yes rfl rfl rfl) (g_binI rfl rfl rfl rfl) rfl rfl ?_
          refine AL.fast 2 rfl ?_
          refine AL.dec (t := 27) rfl (fun hb4 => ?_) (fun hb4 => ?_)
          ·
            have hb4' := hb4; try simp only [sumB, Bool.not_eq_true', Bool.not_eq_false', Bool.or_eq_true, Bool.or_eq_false_iff, Bool.and_eq_true, Bool.and_eq_false_imp, decide_eq_true_eq, decide_eq_false_iff_not, Bool.not_not, Bool.not_true, Bool.not_false] at hb4'
            refine AL.fast 3 rfl ?_
            refine AL.nil ?_
            refine then_ok ?_
            exact Weak.popB 17 rfl rfl (by first | (simp [hb2, hb3, hb4]; done) | (simp_all; done) | (exfalso; simp_all; done) | (simp_all; omega)) rfl
          ·
            have hb4' := hb4; try simp only [sumB, Bool.not_eq_true', Bool.not_eq_false', Bool.or_eq_true, Bool.or_eq_false_iff, Bool.and_eq_true, Bool.and_eq_false_imp, decide_eq_true_eq, decide_eq_false_iff_not, Bool.not_not, Bool.not_true, Bool.not_false] at hb4'
            refine AL.fast 1 rfl ?_
            refine AL.val (Wanted.yes rfl rfl rfl) (g_binI rfl rfl rfl rfl) rfl rfl ?_
            refine AL.fast 1 rfl ?_
            refine AL.nil ?_
            refine then_ok ?_
            exact Weak.popB 17 rfl rfl (by first | (simp [hb2, hb3, hb4]; done) | (simp_all; done) | (exfalso; simp_all; done) | (simp_all; omega)) rfl
    ·
      refine AC.cond rfl (fun hc5 => ?_) (fun hc5 => ?_)
      ·
        have hc5' := hc5; try simp only [sumB, Bool.not_eq_true', Bool.not_eq_false', Bool.or_eq_true, Bool.or_eq_false_iff, Bool.and_eq_true, Bool.and_eq_false_imp, decide_eq_true_eq, decide_eq_false_iff_not, Bool.not_not, Bool.not_true, Bool.not_false] at hc5'
        refine AC.seq ?_
        refine AC.region ?_
        refine AL.val (Wanted.plain rfl) (g_build (ys := []) rfl bld92 rfl trivial rfl rfl) rfl rfl ?_
        refine AL.sto (h' := [(1, (.box 92 [(cI 0), (cI 0), (cI 0), (cI 0), (cI 0), cN])), (0, (.box 92 [(cI c.money), (cI c.held), (cI c.pace.ticks), (cI c.pace.count), (cI c.pace.sum), (cR 2 ((c.uses).map rUse))]))]) (Wanted.plain rfl) (g_storeB rfl rfl rfl rfl rfl sz92 rfl (Nat.le_of_ble_eq_true rfl) rfl) rfl rfl rfl rfl ?_
        refine AL.fast 1 rfl ?_
        refine AL.nil ?_
        refine then_ok ?_
        refine AC.ret ?_
        refine then_ret ?_
        refine retQ_weak (Weak.nilB (n' := 3) (h' := [(2, (.arr 44 2 ((([] : List Use)).map rUse))), (1, (.box 92 [(cI 0), (cI 0), (cI 0), (cI 0), (cI 0), (.s 2 0 2 0)])), (0, (.box 92 [(cI c.money), (cI c.held), (cI c.pace.ticks), (cI c.pace.count), (cI c.pace.sum), (cR 2 ((c.uses).map rUse))]))]) 1 5 44 2 92 (by decide) rfl rfl rfl rfl rfl) ?_
        have hX : allowC c n time = ((⟨0, 0, (⟨0, 0, 0⟩ : Pace), ([] : List Use)⟩ : Card), 3) := by
          unfold allowC; rw [if_neg (by omega), if_pos (by omega)]; rfl
        rw [hX] at hr; clear hX
        simp only [Prod.mk.injEq] at hr; obtain ⟨rfl, rfl⟩ := hr
        refine retQ_mk (av' := outOf [(.g [(cI 0), (cI 0), (cI 0), (cI 0), (cI 0), (.s 0 0 2 0)]), (.c (cI 3))]) (nb' := [(0, (.arr 44 2 ((([] : List Use)).map rUse)))]) (retQ_ret ⟨[(6, (aC (.p 1 0 0 0))), (7, (aI 3))], [(0, (.arr 44 2 ((([] : List Use)).map rUse))), (1, (.box 92 [(cI 0), (cI 0), (cI 0), (cI 0), (cI 0), (.s 0 0 2 0)]))], 2⟩ [.cell 6 92, .tmp 7] [(.g [(cI 0), (cI 0), (cI 0), (cI 0), (cI 0), (.s 0 0 2 0)]), (.c (cI 3))] (Weak.ren (fun k => if k = 0 then 2 else if k = 1 then 1 else k) (⟨by first | rfl | (simp only [AV.map, GV.map, CV.map, AB.map', id]; done) | (congr 3; omega) | (congr 4; omega) | (simp only [List.length_append, List.length_cons, List.length_nil, List.length_set]; rfl), by first | rfl | (simp only [AV.map, GV.map, CV.map, AB.map', id]; done) | (congr 3; omega) | (congr 4; omega) | (simp only [List.length_append, List.length_cons, List.length_nil, List.length_set]; rfl),  trivial⟩) (⟨by first | rfl | (simp only [AV.map, GV.map, CV.map, AB.map', id]; done) | (congr 3; omega) | (congr 4; omega) | (simp only [List.length_append, List.length_cons, List.length_nil, List.length_set]; rfl), by first | rfl | (simp only [AV.map, GV.map, CV.map, AB.map', id]; done) | (congr 3; omega) | (congr 4; omega) | (simp only [List.length_append, List.length_cons, List.length_nil, List.length_set]; rfl),  trivial⟩) rfl) rfl ⟨.agg rfl rfl (fun _ => run_isAgg Try.underlying92) sz92, .tmp rfl, trivial⟩ ⟨by first | rfl | (simp only [AV.map, GV.map, CV.map, AB.map', id]; done) | (congr 3; omega) | (congr 4; omega) | (simp only [List.length_append, List.length_cons, List.length_nil, List.length_set]; rfl),  trivial⟩) ?_ ?_
        · first | rfl | (simp [outOf, aC]; done) | (simp [outOf, aC]; omega)
        · first | rfl | (simp; done) | (simp; omega)
      ·
        have hc5' := hc5; try simp only [sumB, Bool.not_eq_true', Bool.not_eq_false', Bool.or_eq_true, Bool.or_eq_false_iff, Bool.and_eq_true, Bool.and_eq_false_imp, decide_eq_true_eq, decide_eq_false_iff_not, Bool.not_not, Bool.not_true, Bool.not_false] at hc5'
        refine AC.skip ?_
        refine then_ok ?_
        refine AC.seq ?_
        refine AC.seq ?_
        refine AC.region ?_
        refine AL.val (Wanted.plain rfl) (g_fieldP rfl rfl Try.underlying92 rfl sz3 (by decide)) rfl rfl ?_
        refine AL.val (Wanted.plain rfl) (g_loadB rfl rfl rfl Try.underlying3 rfl rfl) rfl rfl ?_
        refine AL.fast 1 rfl ?_
        refine AL.val (Wanted.plain rfl) (g_binI rfl rfl rfl (wrap_ok (by first | omega | (simp; done) | (simp; omega)))) rfl rfl ?_
        refine AL.val (Wanted.plain rfl) (g_fieldP rfl rfl Try.underlying92 rfl sz3 (by decide)) rfl rfl ?_
        refine AL.val (Wanted.plain rfl) (g_loadB rfl rfl rfl Try.underlying3 rfl rfl) rfl rfl ?_
        refine AL.val (Wanted.plain rfl) (g_binI rfl rfl rfl rfl) rfl rfl ?_
        refine AL.nil ?_
        refine then_ok ?_
        refine AC.cond rfl (fun hc6 => ?_) (fun hc6 => ?_)
        ·
          have hc6' := hc6; try simp only [sumB, Bool.not_eq_true', Bool.not_eq_false', Bool.or_eq_true, Bool.or_eq_false_iff, Bool.and_eq_true, Bool.and_eq_false_imp, decide_eq_true_eq, decide_eq_false_iff_not, Bool.not_not, Bool.not_true, Bool.not_false] at hc6'
          refine AC.seq ?_
          refine AC.region ?_
          refine AL.val (Wanted.plain rfl) (g_build (ys := []) rfl bld92 rfl trivial rfl rfl) rfl rfl ?_
          refine AL.sto (h' := [(1, (.box 92 [(cI 0), (cI 0), (cI 0), (cI 0), (cI 0), cN])), (0, (.box 92 [(cI c.money), (cI c.held), (cI c.pace.ticks), (cI c.pace.count), (cI c.pace.sum), (cR 2 ((c.uses).map rUse))]))]) (Wanted.plain rfl) (g_storeB rfl rfl rfl rfl rfl sz92 rfl (Nat.le_of_ble_eq_true rfl) rfl) rfl rfl rfl rfl ?_
          refine AL.fast 1 rfl ?_
          refine AL.nil ?_
          refine then_ok ?_
          refine AC.ret ?_
          refine then_ret ?_
          refine retQ_weak (Weak.nilB (n' := 3) (h' := [(2, (.arr 44 2 ((([] : List Use)).map rUse))), (1, (.box 92 [(cI 0), (cI 0), (cI 0), (cI 0), (cI 0), (.s 2 0 2 0)])), (0, (.box 92 [(cI c.money), (cI c.held), (cI c.pace.ticks), (cI c.pace.count), (cI c.pace.sum), (cR 2 ((c.uses).map rUse))]))]) 1 5 44 2 92 (by decide) rfl rfl rfl rfl rfl) ?_
          have hX : allowC c n time = ((⟨0, 0, (⟨0, 0, 0⟩ : Pace), ([] : List Use)⟩ : Card), 10) := by
            unfold allowC; rw [if_neg (by omega), if_neg (by omega), if_pos (by omega)]; rfl
          rw [hX] at hr; clear hX
          simp only [Prod.mk.injEq] at hr; obtain ⟨rfl, rfl⟩ := hr
          refine retQ_mk (av' := outOf [(.g [(cI 0), (cI 0), (cI 0), (cI 0), (cI 0), (.s 0 0 2 0)]), (.c (cI 10))]) (nb' := [(0, (.arr 44 2 ((([] : List Use)).map rUse)))]) (retQ_ret ⟨[(6, (aC (.p 1 0 0 0))), (7, (aI 10))], [(0, (.arr 44 2 ((([] : List Use)).map rUse))), (1, (.box 92 [(cI 0), (cI 0), (cI 0), (cI 0), (cI 0), (.s 0 0 2 0)]))], 2⟩ [.cell 6 92, .tmp 7] [(.g [(cI 0), (cI 0), (cI 0), (cI 0), (cI 0), (.s 0 0 2 0)]), (.c (cI 10))] (Weak.ren (fun k => if k = 0 then 2 else if k = 1 then 1 else k) (⟨by first | rfl | (simp only [AV.map, GV.map, CV.map, AB.map', id]; done) | (congr 3; omega) | (congr 4; omega) | (simp only [List.length_append, List.length_cons, List.length_nil, List.length_set]; rfl), by first | rfl | (simp only [AV.map, GV.map, CV.map, AB.map', id]; done) | (congr 3; omega) | (congr 4; omega) | (simp only [List.length_append, List.length_cons, List.length_nil, List.length_set]; rfl),  trivial⟩) (⟨by first | rfl | (simp only [AV.map, GV.map, CV.map, AB.map', id]; done) | (congr 3; omega) | (congr 4; omega) | (simp only [List.length_append, List.length_cons, List.length_nil, List.length_set]; rfl), by first | rfl | (simp only [AV.map, GV.map, CV.map, AB.map', id]; done) | (congr 3; omega) | (congr 4; omega) | (simp only [List.length_append, List.length_cons, List.length_nil, List.length_set]; rfl),  trivial⟩) rfl) rfl ⟨.agg rfl rfl (fun _ => run_isAgg Try.underlying92) sz92, .tmp rfl, trivial⟩ ⟨by first | rfl | (simp only [AV.map, GV.map, CV.map, AB.map', id]; done) | (congr 3; omega) | (congr 4; omega) | (simp only [List.length_append, List.length_cons, List.length_nil, List.length_set]; rfl),  trivial⟩) ?_ ?_
          · first | rfl | (simp [outOf, aC]; done) | (simp [outOf, aC]; omega)
          · first | rfl | (simp; done) | (simp; omega)
        ·
          have hc6' := hc6; try simp only [sumB, Bool.not_eq_true', Bool.not_eq_false', Bool.or_eq_true, Bool.or_eq_false_iff, Bool.and_eq_true, Bool.and_eq_false_imp, decide_eq_true_eq, decide_eq_false_iff_not, Bool.not_not, Bool.not_true, Bool.not_false] at hc6'
          refine AC.skip ?_
          refine then_ok ?_
          refine AC.seq ?_
          refine AC.region ?_
          refine AL.val (Wanted.plain rfl) (g_fieldP rfl rfl Try.underlying92 rfl sz41 (by decide)) rfl rfl ?_
          refine AL.val (Wanted.plain rfl) (g_loadBs rfl rfl rfl Try.underlying41 rfl sz41 rfl rfl) rfl rfl ?_
          refine AL.val (Wanted.plain rfl) (g_fieldP rfl rfl Try.underlying92 rfl sz42 (by decide)) rfl rfl ?_
          refine AL.val (Wanted.plain rfl) (g_loadB rfl rfl rfl Try.underlying42 rfl rfl) rfl rfl ?_
          refine AL.fast 2 rfl ?_
          refine AL.val (Wanted.plain rfl) (g_build (ys := [(0, (.c (cI time))), (1, (.c (cI n)))]) rfl bld44 rfl ⟨⟨rfl, rfl⟩, ⟨rfl, rfl⟩,  trivial⟩ rfl rfl) rfl rfl ?_
          obtain ⟨r1, e1, hr1⟩ : ∃ (r1 : List Use) (e1 : Int), addUse c.pace c.uses (⟨time, n⟩ : Use) = (r1, e1) := ⟨_, _, rfl⟩
          refine AL.call (n' := 3) (h' := [(2, (.arr 44 2 ((r1).map rUse))), (1, (.box 92 [(cI 0), (cI 0), (cI 0), (cI 0), (cI 0), cN])), (0, (.box 92 [(cI c.money), (cI c.held), (cI c.pace.ticks), (cI c.pace.count), (cI c.pace.sum), (cR 2 ((c.uses).map rUse))]))]) (Wanted.plain rfl) (g_call 2 (c_ref_AddUse c.pace c.uses (⟨time, n⟩ : Use)  r1 e1 hr1) en46 rfl rfl ⟨⟨_, rfl, .g ⟨.d _, .d _, .d _,  trivial⟩⟩, ⟨_, rfl, .c (.d _)⟩, ⟨_, rfl, .g ⟨.d _, .d _,  trivial⟩⟩,  trivial⟩ ⟨trivial, trivial,  trivial⟩ ⟨(fun _ _ _ _ => trivial),  trivial⟩ rfl rfl rfl rfl) rfl rfl rfl rfl rfl ?_
          refine AL.fast 1 rfl ?_
          refine AL.val (Wanted.plain rfl) (g_extract rfl rfl rfl) rfl rfl ?_
          refine AL.val (Wanted.plain rfl) (g_extract rfl rfl rfl) rfl rfl ?_
          refine AL.fast 2 rfl ?_
          refine AL.nil ?_
          refine then_ok ?_
          refine AC.seq ?_
          refine AC.seq ?_
          refine AC.region ?_
          refine AL.fast 1 rfl ?_
          refine AL.val (Wanted.plain rfl) (g_binI rfl rfl rfl rfl) rfl rfl ?_
          refine AL.nil ?_
          refine then_ok ?_
          refine AC.cond rfl (fun hc7 => ?_) (fun hc7 => ?_)
          ·
            have hc7' := hc7; try simp only [sumB, Bool.not_eq_true', Bool.not_eq_false', Bool.or_eq_true, Bool.or_eq_false_iff, Bool.and_eq_true, Bool.and_eq_false_imp, decide_eq_true_eq, decide_eq_false_iff_not, Bool.not_not, Bool.not_true, Bool.not_false] at hc7'
            refine AC.seq ?_
            refine AC.region ?_
            refine AL.val (Wanted.plain rfl) (g_build (ys := []) rfl bld92 rfl trivial rfl rfl) rfl rfl ?_
            refine AL.fast 1 rfl ?_
            refine AL.sto (h' := [(2, (.arr 44 2 ((r1).map rUse))), (1, (.box 92 [(cI 0), (cI 0), (cI 0), (cI 0), (cI 0), cN])), (0, (.box 92 [(cI c.money), (cI c.held), (cI c.pace.ticks), (cI c.pace.count), (cI c.pace.sum), (cR 2 ((c.uses).map rUse))]))]) (Wanted.plain rfl) (g_storeB rfl rfl rfl rfl rfl sz92 rfl (Nat.le_of_ble_eq_true rfl) rfl) rfl rfl rfl rfl ?_
            refine AL.fast 1 rfl ?_
            refine AL.nil ?_
            refine then_ok ?_
            refine AC.ret ?_
            refine then_ret ?_
            refine retQ_weak (Weak.nilB (n' := 4) (h' := [(3, (.arr 44 2 ((([] : List Use)).map rUse))), (2, (.arr 44 2 ((r1).map rUse))), (1, (.box 92 [(cI 0), (cI 0), (cI 0), (cI 0), (cI 0), (.s 3 0 2 0)])), (0, (.box 92 [(cI c.money), (cI c.held), (cI c.pace.ticks), (cI c.pace.count), (cI c.pace.sum), (cR 2 ((c.uses).map rUse))]))]) 1 5 44 2 92 (by decide) rfl rfl rfl rfl rfl) ?_
            have hX : allowC c n time = ((⟨0, 0, (⟨0, 0, 0⟩ : Pace), ([] : List Use)⟩ : Card), e1) := by
              have ha := hr1
              unfold allowC; rw [if_neg (by omega), if_neg (by omega), if_neg (by omega), if_pos (by rw [ha]; dsimp only; omega), ha]; rfl
            rw [hX] at hr; clear hX
            simp only [Prod.mk.injEq] at hr; obtain ⟨rfl, rfl⟩ := hr
            refine retQ_mk (av' := outOf [(.g [(cI 0), (cI 0), (cI 0), (cI 0), (cI 0), (.s 0 0 2 0)]), (.c (cI e1))]) (nb' := [(0, (.arr 44 2 ((([] : List Use)).map rUse)))]) (retQ_ret ⟨[(6, (aC (.p 1 0 0 0))), (7, (aI e1))], [(0, (.arr 44 2 ((([] : List Use)).map rUse))), (1, (.box 92 [(cI 0), (cI 0), (cI 0), (cI 0), (cI 0), (.s 0 0 2 0)]))], 2⟩ [.cell 6 92, .tmp 7] [(.g [(cI 0), (cI 0), (cI 0), (cI 0), (cI 0), (.s 0 0 2 0)]), (.c (cI e1))] (Weak.ren (fun k => if k = 0 then 3 else if k = 1 then 1 else k) (⟨by first | rfl | (simp only [AV.map, GV.map, CV.map, AB.map', id]; done) | (congr 3; omega) | (congr 4; omega) | (simp only [List.length_append, List.length_cons, List.length_nil, List.length_set]; rfl), by first | rfl | (simp only [AV.map, GV.map, CV.map, AB.map', id]; done) | (congr 3; omega) | (congr 4; omega) | (simp only [List.length_append, List.length_cons, List.length_nil, List.length_set]; rfl),  trivial⟩) (⟨by first | rfl | (simp only [AV.map, GV.map, CV.map, AB.map', id]; done) | (congr 3; omega) | (congr 4; omega) | (simp only [List.length_append, List.length_cons, List.length_nil, List.length_set]; rfl), by first | rfl | (simp only [AV.map, GV.map, CV.map, AB.map', id]; done) | (congr 3; omega) | (congr 4; omega) | (simp only [List.length_append, List.length_cons, List.length_nil, List.length_set]; rfl),  trivial⟩) rfl) rfl ⟨.agg rfl rfl (fun _ => run_isAgg Try.underlying92) sz92, .tmp rfl, trivial⟩ ⟨by first | rfl | (simp only [AV.map, GV.map, CV.map, AB.map', id]; done) | (congr 3; omega) | (congr 4; omega) | (simp only [List.length_append, List.length_cons, List.length_nil, List.length_set]; rfl),  trivial⟩) ?_ ?_
            · first | rfl | (simp [outOf, aC]; done) | (simp [outOf, aC]; omega)
            · first | rfl | (simp; done) | (simp; omega)
          ·
            have hc7' := hc7; try simp only [sumB, Bool.not_eq_true', Bool.not_eq_false', Bool.or_eq_true, Bool.or_eq_false_iff, Bool.and_eq_true, Bool.and_eq_false_imp, decide_eq_true_eq, decide_eq_false_iff_not, Bool.not_not, Bool.not_true, Bool.not_false] at hc7'
            refine AC.skip ?_
            refine then_ok ?_
            refine AC.seq ?_
            refine AC.region ?_
            refine AL.val (Wanted.plain rfl) (g_fieldP rfl rfl Try.underlying92 rfl sz3 (by decide)) rfl rfl ?_
            refine AL.val (Wanted.plain rfl) (g_loadB rfl rfl rfl Try.underlying3 rfl rfl) rfl rfl ?_
            refine AL.fast 1 rfl ?_
            refine AL.val (Wanted.plain rfl) (g_binI rfl rfl rfl (wrap_ok (by first | omega | (simp; done) | (simp; omega)))) rfl rfl ?_
            refine AL.fast 1 rfl ?_
            refine AL.val (Wanted.plain rfl) (g_fieldP rfl rfl Try.underlying92 rfl sz3 (by decide)) rfl rfl ?_
            refine AL.sto (h' := [(2, (.arr 44 2 ((r1).map rUse))), (1, (.box 92 [(cI 0), (cI 0), (cI 0), (cI 0), (cI 0), cN])), (0, (.box 92 [(cI c.money), (cI (c.held + n)), (cI c.pace.ticks), (cI c.pace.count), (cI c.pace.sum), (cR 2 ((c.uses).map rUse))]))]) (Wanted.plain rfl) (g_storeB rfl rfl rfl rfl rfl sz3 rfl (Nat.le_of_ble_eq_true rfl) rfl) rfl rfl rfl rfl ?_
            refine AL.val (Wanted.plain rfl) (g_fieldP rfl rfl Try.underlying92 rfl sz42 (by decide)) rfl rfl ?_
            refine AL.sto (h' := [(2, (.arr 44 2 ((r1).map rUse))), (1, (.box 92 [(cI 0), (cI 0), (cI 0), (cI 0), (cI 0), cN])), (0, (.box 92 [(cI c.money), (cI (c.held + n)), (cI c.pace.ticks), (cI c.pace.count), (cI c.pace.sum), (.s 2 0 2 r1.length)]))]) (Wanted.plain rfl) (g_storeB rfl rfl rfl rfl rfl sz42 rfl (Nat.le_of_ble_eq_true rfl) rfl) rfl rfl rfl rfl ?_
            refine AL.nil ?_
            refine then_ok ?_
            refine AC.seq ?_
            refine AC.region ?_
            refine AL.val (Wanted.plain rfl) (g_loadBs rfl rfl rfl Try.underlying92 rfl sz92 rfl rfl) rfl rfl ?_
            refine AL.sto (h' := [(2, (.arr 44 2 ((r1).map rUse))), (1, (.box 92 [(cI c.money), (cI (c.held + n)), (cI c.pace.ticks), (cI c.pace.count), (cI c.pace.sum), (.s 2 0 2 r1.length)])), (0, (.box 92 [(cI c.money), (cI (c.held + n)), (cI c.pace.ticks), (cI c.pace.count), (cI c.pace.sum), (.s 2 0 2 r1.length)]))]) (Wanted.plain rfl) (g_storeB rfl rfl rfl rfl rfl sz92 rfl (Nat.le_of_ble_eq_true rfl) rfl) rfl rfl rfl rfl ?_
            refine AL.fast 1 rfl ?_
            refine AL.nil ?_
            refine then_ok ?_
            refine AC.ret ?_
            have hX : allowC c n time = ((⟨c.money, c.held + n, c.pace, r1⟩ : Card), 0) := by
              have ha := hr1
              unfold allowC; rw [if_neg (by omega), if_neg (by omega), if_neg (by omega), if_neg (by rw [ha]; dsimp only; omega), ha]
            rw [hX] at hr; clear hX
            simp only [Prod.mk.injEq] at hr; obtain ⟨rfl, rfl⟩ := hr
            refine retQ_mk (av' := outOf [(.g [(cI c.money), (cI (c.held + n)), (cI c.pace.ticks), (cI c.pace.count), (cI c.pace.sum), (.s 0 0 2 r1.length)]), (.c (cI 0))]) (nb' := [(0, (.arr 44 2 ((r1).map rUse)))]) (retQ_ret ⟨[(6, (aC (.p 1 0 0 0))), (7, (aI 0))], [(0, (.arr 44 2 ((r1).map rUse))), (1, (.box 92 [(cI c.money), (cI (c.held + n)), (cI c.pace.ticks), (cI c.pace.count), (cI c.pace.sum), (.s 0 0 2 r1.length)]))], 2⟩ [.cell 6 92, .tmp 7] [(.g [(cI c.money), (cI (c.held + n)), (cI c.pace.ticks), (cI c.pace.count), (cI c.pace.sum), (.s 0 0 2 r1.length)]), (.c (cI 0))] (Weak.ren (fun k => if k = 0 then 2 else if k = 1 then 1 else k) (⟨by first | rfl | (simp only [AV.map, GV.map, CV.map, AB.map', id]; done) | (congr 3; omega) | (congr 4; omega) | (simp only [List.length_append, List.length_cons, List.length_nil, List.length_set]; rfl), by first | rfl | (simp only [AV.map, GV.map, CV.map, AB.map', id]; done) | (congr 3; omega) | (congr 4; omega) | (simp only [List.length_append, List.length_cons, List.length_nil, List.length_set]; rfl),  trivial⟩) (⟨by first | rfl | (simp only [AV.map, GV.map, CV.map, AB.map', id]; done) | (congr 3; omega) | (congr 4; omega) | (simp only [List.length_append, List.length_cons, List.length_nil, List.length_set]; rfl), by first | rfl | (simp only [AV.map, GV.map, CV.map, AB.map', id]; done) | (congr 3; omega) | (congr 4; omega) | (simp only [List.length_append, List.length_cons, List.length_nil, List.length_set]; rfl),  trivial⟩) rfl) rfl ⟨.agg rfl rfl (fun _ => run_isAgg Try.underlying92) sz92, .tmp rfl, trivial⟩ ⟨by first | rfl | (simp only [AV.map, GV.map, CV.map, AB.map', id]; done) | (congr 3; omega) | (congr 4; omega) | (simp only [List.length_append, List.length_cons, List.length_nil, List.length_set]; rfl),  trivial⟩) ?_ ?_
            · first | rfl | (simp [outOf, aC]; done) | (simp [outOf, aC]; omega)
            · first | rfl | (simp; done) | (simp; omega)
set_option maxRecDepth 100000 in
set_option maxHeartbeats 1000000 in
theorem c_card_Force (c : Card) (n : Int) (x : Card) (e : Int) (hr : forceC c n = (x, e)) : Fn Try.prog 73 [(.g [(cI c.money), (cI c.held), (cI c.pace.ticks), (cI c.pace.count), (cI c.pace.sum), (cR 2 ((c.uses).map rUse))]), (.c (cI n))] (.t [(.g [(cI x.money), (cI x.held), (cI x.pace.ticks), (cI x.pace.count), (cI x.pace.sum), (.s 0 0 2 x.uses.length)]), (.c (cI e))]) [(0, (.arr 44 2 ((x.uses).map rUse)))] := by
  refine Fn.mk' 35 [(0, (aG [(cI c.money), (cI c.held), (cI c.pace.ticks), (cI c.pace.count), (cI c.pace.sum), (cR 2 ((c.uses).map rUse))])), (1, (aI n))] Try.func73 rfl rfl rfl rfl ?_
  intro W0 T0
  refine AC.lenG 0 5 rfl rfl (fun hlen0_5 => ?_)
  have hrc := @rightC c
  have hrl := @rightC_len c
  refine AC.seq ?_
  refine AC.region ?_
  refine AL.new (n' := 1) (Wanted.plain rfl) (g_boxS 0 rfl rfl) rfl rfl rfl ?_
  refine AL.new (n' := 2) (Wanted.plain rfl) (g_alloc 1 rfl zv92 rfl rfl rfl) rfl rfl rfl ?_
  refine AL.fast 1 rfl ?_
  refine AL.nil ?_
  refine then_ok ?_
  refine AC.seq ?_
  refine AC.seq ?_
  refine AC.region ?_
  refine AL.val (Wanted.plain rfl) (g_loadBs rfl rfl rfl Try.underlying92 rfl sz92 rfl rfl) rfl rfl ?_
  obtain ⟨e0, hr0⟩ : ∃ (e0 : Int), wrongC c = e0 := ⟨_, rfl⟩
  refine AL.call (n' := 2) (h' := [(1, (.box 92 [(cI 0), (cI 0), (cI 0), (cI 0), (cI 0), cN])), (0, (.box 92 [(cI c.money), (cI c.held), (cI c.pace.ticks), (cI c.pace.count), (cI c.pace.sum), (cR 2 ((c.uses).map rUse))]))]) (Wanted.plain rfl) (g_call 2 (c_card_Wrong c  e0 hr0) en72 rfl rfl ⟨⟨_, rfl, .g ⟨.d _, .d _, .d _, .d _, .d _, .d _,  trivial⟩⟩,  trivial⟩ trivial trivial rfl rfl rfl rfl) rfl rfl rfl rfl rfl ?_
  refine AL.fast 1 rfl ?_
  refine AL.nil ?_
  refine then_ok ?_
  refine AC.seq ?_
  refine AC.region ?_
  refine AL.fast 1 rfl ?_
  refine AL.val (Wanted.plain rfl) (g_binI rfl rfl rfl rfl) rfl rfl ?_
  refine AL.nil ?_
  refine then_ok ?_
  refine AC.cond rfl (fun hc1 => ?_) (fun hc1 => ?_)
  ·
    have hc1' := hc1; try simp only [sumB, Bool.not_eq_true', Bool.not_eq_false', Bool.or_eq_true, Bool.or_eq_false_iff, Bool.and_eq_true, Bool.and_eq_false_imp, decide_eq_true_eq, decide_eq_false_iff_not, Bool.not_not, Bool.not_true, Bool.not_false] at hc1'
    refine AC.seq ?_
    refine AC.region ?_
    refine AL.val (Wanted.plain rfl) (g_build (ys := []) rfl bld92 rfl trivial rfl rfl) rfl rfl ?_
    refine AL.fast 1 rfl ?_
    refine AL.sto (h' := [(1, (.box 92 [(cI 0), (cI 0), (cI 0), (cI 0), (cI 0), cN])), (0, (.box 92 [(cI c.money), (cI c.held), (cI c.pace.ticks), (cI c.pace.count), (cI c.pace.sum), (cR 2 ((c.uses).map rUse))]))]) (Wanted.plain rfl) (g_storeB rfl rfl rfl rfl rfl sz92 rfl (Nat.le_of_ble_eq_true rfl) rfl) rfl rfl rfl rfl ?_
    refine AL.fast 1 rfl ?_
    refine AL.nil ?_
    refine then_ok ?_
    refine AC.ret ?_
    refine then_ret ?_
    refine retQ_weak (Weak.nilB (n' := 3) (h' := [(2, (.arr 44 2 ((([] : List Use)).map rUse))), (1, (.box 92 [(cI 0), (cI 0), (cI 0), (cI 0), (cI 0), (.s 2 0 2 0)])), (0, (.box 92 [(cI c.money), (cI c.held), (cI c.pace.ticks), (cI c.pace.count), (cI c.pace.sum), (cR 2 ((c.uses).map rUse))]))]) 1 5 44 2 92 (by decide) rfl rfl rfl rfl rfl) ?_
    have hX : forceC c n = ((⟨0, 0, (⟨0, 0, 0⟩ : Pace), ([] : List Use)⟩ : Card), e0) := by
      unfold forceC; rw [if_pos (by omega), hr0]; rfl
    rw [hX] at hr; clear hX
    simp only [Prod.mk.injEq] at hr; obtain ⟨rfl, rfl⟩ := hr
    refine retQ_mk (av' := outOf [(.g [(cI 0), (cI 0), (cI 0), (cI 0), (cI 0), (.s 0 0 2 0)]), (.c (cI e0))]) (nb' := [(0, (.arr 44 2 ((([] : List Use)).map rUse)))]) (retQ_ret ⟨[(4, (aC (.p 1 0 0 0))), (5, (aI e0))], [(0, (.arr 44 2 ((([] : List Use)).map rUse))), (1, (.box 92 [(cI 0), (cI 0), (cI 0), (cI 0), (cI 0), (.s 0 0 2 0)]))], 2⟩ [.cell 4 92, .tmp 5] [(.g [(cI 0), (cI 0), (cI 0), (cI 0), (cI 0), (.s 0 0 2 0)]), (.c (cI e0))] (Weak.ren (fun k => if k = 0 then 2 else if k = 1 then 1 else k) (⟨by first | rfl | (simp only [AV.map, GV.map, CV.map, AB.map', id]; done) | (congr 3; omega) | (congr 4; omega) | (simp only [List.length_append, List.length_cons, List.length_nil, List.length_set]; rfl), by first | rfl | (simp only [AV.map, GV.map, CV.map, AB.map', id]; done) | (congr 3; omega) | (congr 4; omega) | (simp only [List.length_append, List.length_cons, List.length_nil, List.length_set]; rfl),  trivial⟩) (⟨by first | rfl | (simp only [AV.map, GV.map, CV.map, AB.map', id]; done) | (congr 3; omega) | (congr 4; omega) | (simp only [List.length_append, List.length_cons, List.length_nil, List.length_set]; rfl), by first | rfl | (simp only [AV.map, GV.map, CV.map, AB.map', id]; done) | (congr 3; omega) | (congr 4; omega) | (simp only [List.length_append, List.length_cons, List.length_nil, List.length_set]; rfl),  trivial⟩) rfl) rfl ⟨.agg rfl rfl (fun _ => run_isAgg Try.underlying92) sz92, .tmp rfl, trivial⟩ ⟨by first | rfl | (simp only [AV.map, GV.map, CV.map, AB.map', id]; done) | (congr 3; omega) | (congr 4; omega) | (simp only [List.length_append, List.length_cons, List.length_nil, List.length_set]; rfl),  trivial⟩) ?_ ?_
    · first | rfl | (simp [outOf, aC]; done) | (simp [outOf, aC]; omega)
    · first | rfl | (simp; done) | (simp; omega)
  ·
    have hc1' := hc1; try simp only [sumB, Bool.not_eq_true', Bool.not_eq_false', Bool.or_eq_true, Bool.or_eq_false_iff, Bool.and_eq_true, Bool.and_eq_false_imp, decide_eq_true_eq, decide_eq_false_iff_not, Bool.not_not, Bool.not_true, Bool.not_false] at hc1'
    refine AC.skip ?_
    refine then_ok ?_
    refine AC.seq ?_
    refine AC.cutB 25 (((decide (n < 1)) || (decide (n > 1000000))) || (decide (n > (1000000000000 - c.held)))) ?_ ?_
    ·
      refine AC.region ?_
      refine AL.fast 1 rfl ?_
      refine AL.val (Wanted.plain rfl) (g_binI rfl rfl rfl rfl) rfl rfl ?_
      refine AL.fast 1 rfl ?_
      refine AL.dec (t := 15) rfl (fun hb2 => ?_) (fun hb2 => ?_)
      ·
        have hb2' := hb2; try simp only [sumB, Bool.not_eq_true', Bool.not_eq_false', Bool.or_eq_true, Bool.or_eq_false_iff, Bool.and_eq_true, Bool.and_eq_false_imp, decide_eq_true_eq, decide_eq_false_iff_not, Bool.not_not, Bool.not_true, Bool.not_false] at hb2'
        refine AL.fast 10 rfl ?_
        refine AL.nil ?_
        refine then_ok ?_
        exact Weak.popB 14 rfl rfl (by first | (simp [hb2]; done) | (simp_all; done) | (exfalso; simp_all; done) | (simp_all; omega)) rfl
      ·
        have hb2' := hb2; try simp only [sumB, Bool.not_eq_true', Bool.not_eq_false', Bool.or_eq_true, Bool.or_eq_false_iff, Bool.and_eq_true, Bool.and_eq_false_imp, decide_eq_true_eq, decide_eq_false_iff_not, Bool.not_not, Bool.not_true, Bool.not_false] at hb2'
        refine AL.fast 1 rfl ?_
        refine AL.val (Wanted.yes rfl rfl rfl) (g_binI rfl rfl rfl rfl) rfl rfl ?_
        refine AL.fast 2 rfl ?_
        refine AL.dec (t := 19) rfl (fun hb3 => ?_) (fun hb3 => ?_)
        ·
          have hb3' := hb3; try simp only [sumB, Bool.not_eq_true', Bool.not_eq_false', Bool.or_eq_true, Bool.or_eq_false_iff, Bool.and_eq_true, Bool.and_eq_false_imp, decide_eq_true_eq, decide_eq_false_iff_not, Bool.not_not, Bool.not_true, Bool.not_false] at hb3'
          refine AL.fast 6 rfl ?_
          refine AL.nil ?_
          refine then_ok ?_
          exact Weak.popB 15 rfl rfl (by first | (simp [hb2, hb3]; done) | (simp_all; done) | (exfalso; simp_all; done) | (simp_all; omega)) rfl
        ·
          have hb3' := hb3; try simp only [sumB, Bool.not_eq_true', Bool.not_eq_false', Bool.or_eq_true, Bool.or_eq_false_iff, Bool.and_eq_true, Bool.and_eq_false_imp, decide_eq_true_eq, decide_eq_false_iff_not, Bool.not_not, Bool.not_true, Bool.not_false] at hb3'
          refine AL.fast 1 rfl ?_
          refine AL.val (Wanted.yes rfl rfl rfl) (g_fieldP rfl rfl Try.underlying92 rfl sz3 (by decide)) rfl rfl ?_
          refine AL.val (Wanted.yes rfl rfl rfl) (g_loadB rfl rfl rfl Try.underlying3 rfl rfl) rfl rfl ?_
          refine AL.val (Wanted.yes rfl rfl rfl) (g_binI rfl rfl rfl (wrap_ok (by first | omega | (simp; done) | (simp; omega)))) rfl rfl ?_
          refine AL.val (Wanted.yes rfl rfl rfl) (g_binI rfl rfl rfl rfl) rfl rfl ?_
          refine AL.fast 1 rfl ?_
          refine AL.nil ?_
          refine then_ok ?_
          exact Weak.popB 15 rfl rfl (by first | (simp [hb2, hb3]; done) | (simp_all; done) | (exfalso; simp_all; done) | (simp_all; omega)) rfl
    ·
      refine AC.cond rfl (fun hc4 => ?_) (fun hc4 => ?_)
      ·
        have hc4' := hc4; try simp only [sumB, Bool.not_eq_true', Bool.not_eq_false', Bool.or_eq_true, Bool.or_eq_false_iff, Bool.and_eq_true, Bool.and_eq_false_imp, decide_eq_true_eq, decide_eq_false_iff_not, Bool.not_not, Bool.not_true, Bool.not_false] at hc4'
        refine AC.seq ?_
        refine AC.region ?_
        refine AL.val (Wanted.plain rfl) (g_build (ys := []) rfl bld92 rfl trivial rfl rfl) rfl rfl ?_
        refine AL.sto (h' := [(1, (.box 92 [(cI 0), (cI 0), (cI 0), (cI 0), (cI 0), cN])), (0, (.box 92 [(cI c.money), (cI c.held), (cI c.pace.ticks), (cI c.pace.count), (cI c.pace.sum), (cR 2 ((c.uses).map rUse))]))]) (Wanted.plain rfl) (g_storeB rfl rfl rfl rfl rfl sz92 rfl (Nat.le_of_ble_eq_true rfl) rfl) rfl rfl rfl rfl ?_
        refine AL.fast 1 rfl ?_
        refine AL.nil ?_
        refine then_ok ?_
        refine AC.ret ?_
        refine then_ret ?_
        refine retQ_weak (Weak.nilB (n' := 3) (h' := [(2, (.arr 44 2 ((([] : List Use)).map rUse))), (1, (.box 92 [(cI 0), (cI 0), (cI 0), (cI 0), (cI 0), (.s 2 0 2 0)])), (0, (.box 92 [(cI c.money), (cI c.held), (cI c.pace.ticks), (cI c.pace.count), (cI c.pace.sum), (cR 2 ((c.uses).map rUse))]))]) 1 5 44 2 92 (by decide) rfl rfl rfl rfl rfl) ?_
        have hX : forceC c n = ((⟨0, 0, (⟨0, 0, 0⟩ : Pace), ([] : List Use)⟩ : Card), 3) := by
          unfold forceC; rw [if_neg (by omega), if_pos (by omega)]; rfl
        rw [hX] at hr; clear hX
        simp only [Prod.mk.injEq] at hr; obtain ⟨rfl, rfl⟩ := hr
        refine retQ_mk (av' := outOf [(.g [(cI 0), (cI 0), (cI 0), (cI 0), (cI 0), (.s 0 0 2 0)]), (.c (cI 3))]) (nb' := [(0, (.arr 44 2 ((([] : List Use)).map rUse)))]) (retQ_ret ⟨[(4, (aC (.p 1 0 0 0))), (5, (aI 3))], [(0, (.arr 44 2 ((([] : List Use)).map rUse))), (1, (.box 92 [(cI 0), (cI 0), (cI 0), (cI 0), (cI 0), (.s 0 0 2 0)]))], 2⟩ [.cell 4 92, .tmp 5] [(.g [(cI 0), (cI 0), (cI 0), (cI 0), (cI 0), (.s 0 0 2 0)]), (.c (cI 3))] (Weak.ren (fun k => if k = 0 then 2 else if k = 1 then 1 else k) (⟨by first | rfl | (simp only [AV.map, GV.map, CV.map, AB.map', id]; done) | (congr 3; omega) | (congr 4; omega) | (simp only [List.length_append, List.length_cons, List.length_nil, List.length_set]; rfl), by first | rfl | (simp only [AV.map, GV.map, CV.map, AB.map', id]; done) | (congr 3; omega) | (congr 4; omega) | (simp only [List.length_append, List.length_cons, List.length_nil, List.length_set]; rfl),  trivial⟩) (⟨by first | rfl | (simp only [AV.map, GV.map, CV.map, AB.map', id]; done) | (congr 3; omega) | (congr 4; omega) | (simp only [List.length_append, List.length_cons, List.length_nil, List.length_set]; rfl), by first | rfl | (simp only [AV.map, GV.map, CV.map, AB.map', id]; done) | (congr 3; omega) | (congr 4; omega) | (simp only [List.length_append, List.length_cons, List.length_nil, List.length_set]; rfl),  trivial⟩) rfl) rfl ⟨.agg rfl rfl (fun _ => run_isAgg Try.underlying92) sz92, .tmp rfl, trivial⟩ ⟨by first | rfl | (simp only [AV.map, GV.map, CV.map, AB.map', id]; done) | (congr 3; omega) | (congr 4; omega) | (simp only [List.length_append, List.length_cons, List.length_nil, List.length_set]; rfl),  trivial⟩) ?_ ?_
        · first | rfl | (simp [outOf, aC]; done) | (simp [outOf, aC]; omega)
        · first | rfl | (simp; done) | (simp; omega)
      ·
        have hc4' := hc4; try simp only [sumB, Bool.not_eq_true', Bool.not_eq_false', Bool.or_eq_true, Bool.or_eq_false_iff, Bool.and_eq_true, Bool.and_eq_false_imp, decide_eq_true_eq, decide_eq_false_iff_not, Bool.not_not, Bool.not_true, Bool.not_false] at hc4'
        refine AC.skip ?_
        refine then_ok ?_
        refine AC.seq ?_
        refine AC.region ?_
        refine AL.val (Wanted.plain rfl) (g_loadBs rfl rfl rfl Try.underlying92 rfl sz92 rfl rfl) rfl rfl ?_
        refine AL.call (n' := 3) (h' := [(2, (.arr 44 2 ((c.uses).map rUse))), (1, (.box 92 [(cI 0), (cI 0), (cI 0), (cI 0), (cI 0), cN])), (0, (.box 92 [(cI c.money), (cI c.held), (cI c.pace.ticks), (cI c.pace.count), (cI c.pace.sum), (cR 2 ((c.uses).map rUse))]))]) (Wanted.plain rfl) (g_call 2 (c_card_own c (by first | assumption | omega) ) en113 rfl rfl ⟨⟨_, rfl, .g ⟨.d _, .d _, .d _, .d _, .d _, .d _,  trivial⟩⟩,  trivial⟩ ⟨trivial, trivial, trivial, trivial, trivial, trivial,  trivial⟩ ⟨(fun _ _ _ _ => trivial),  trivial⟩ rfl rfl rfl rfl) rfl rfl rfl rfl rfl ?_
        refine AL.sto (h' := [(2, (.arr 44 2 ((c.uses).map rUse))), (1, (.box 92 [(cI 0), (cI 0), (cI 0), (cI 0), (cI 0), cN])), (0, (.box 92 [(cI c.money), (cI c.held), (cI c.pace.ticks), (cI c.pace.count), (cI c.pace.sum), (.s 2 0 2 c.uses.length)]))]) (Wanted.plain rfl) (g_storeB rfl rfl rfl rfl rfl sz92 rfl (Nat.le_of_ble_eq_true rfl) rfl) rfl rfl rfl rfl ?_
        refine AL.nil ?_
        refine then_ok ?_
        refine AC.seq ?_
        refine AC.region ?_
        refine AL.val (Wanted.plain rfl) (g_fieldP rfl rfl Try.underlying92 rfl sz3 (by decide)) rfl rfl ?_
        refine AL.val (Wanted.plain rfl) (g_loadB rfl rfl rfl Try.underlying3 rfl rfl) rfl rfl ?_
        refine AL.fast 1 rfl ?_
        refine AL.val (Wanted.plain rfl) (g_binI rfl rfl rfl (wrap_ok (by first | omega | (simp; done) | (simp; omega)))) rfl rfl ?_
        refine AL.val (Wanted.plain rfl) (g_fieldP rfl rfl Try.underlying92 rfl sz3 (by decide)) rfl rfl ?_
        refine AL.sto (h' := [(2, (.arr 44 2 ((c.uses).map rUse))), (1, (.box 92 [(cI 0), (cI 0), (cI 0), (cI 0), (cI 0), cN])), (0, (.box 92 [(cI c.money), (cI (c.held + n)), (cI c.pace.ticks), (cI c.pace.count), (cI c.pace.sum), (.s 2 0 2 c.uses.length)]))]) (Wanted.plain rfl) (g_storeB rfl rfl rfl rfl rfl sz3 rfl (Nat.le_of_ble_eq_true rfl) rfl) rfl rfl rfl rfl ?_
        refine AL.nil ?_
        refine then_ok ?_
        refine AC.seq ?_
        refine AC.region ?_
        refine AL.val (Wanted.plain rfl) (g_loadBs rfl rfl rfl Try.underlying92 rfl sz92 rfl rfl) rfl rfl ?_
        refine AL.sto (h' := [(2, (.arr 44 2 ((c.uses).map rUse))), (1, (.box 92 [(cI c.money), (cI (c.held + n)), (cI c.pace.ticks), (cI c.pace.count), (cI c.pace.sum), (.s 2 0 2 c.uses.length)])), (0, (.box 92 [(cI c.money), (cI (c.held + n)), (cI c.pace.ticks), (cI c.pace.count), (cI c.pace.sum), (.s 2 0 2 c.uses.length)]))]) (Wanted.plain rfl) (g_storeB rfl rfl rfl rfl rfl sz92 rfl (Nat.le_of_ble_eq_true rfl) rfl) rfl rfl rfl rfl ?_
        refine AL.fast 1 rfl ?_
        refine AL.nil ?_
        refine then_ok ?_
        refine AC.ret ?_
        have hX : forceC c n = ((⟨c.money, c.held + n, c.pace, c.uses⟩ : Card), 0) := by
          unfold forceC; rw [if_neg (by omega), if_neg (by omega)]
        rw [hX] at hr; clear hX
        simp only [Prod.mk.injEq] at hr; obtain ⟨rfl, rfl⟩ := hr
        refine retQ_mk (av' := outOf [(.g [(cI c.money), (cI (c.held + n)), (cI c.pace.ticks), (cI c.pace.count), (cI c.pace.sum), (.s 0 0 2 c.uses.length)]), (.c (cI 0))]) (nb' := [(0, (.arr 44 2 ((c.uses).map rUse)))]) (retQ_ret ⟨[(4, (aC (.p 1 0 0 0))), (5, (aI 0))], [(0, (.arr 44 2 ((c.uses).map rUse))), (1, (.box 92 [(cI c.money), (cI (c.held + n)), (cI c.pace.ticks), (cI c.pace.count), (cI c.pace.sum), (.s 0 0 2 c.uses.length)]))], 2⟩ [.cell 4 92, .tmp 5] [(.g [(cI c.money), (cI (c.held + n)), (cI c.pace.ticks), (cI c.pace.count), (cI c.pace.sum), (.s 0 0 2 c.uses.length)]), (.c (cI 0))] (Weak.ren (fun k => if k = 0 then 2 else if k = 1 then 1 else k) (⟨by first | rfl | (simp only [AV.map, GV.map, CV.map, AB.map', id]; done) | (congr 3; omega) | (congr 4; omega) | (simp only [List.length_append, List.length_cons, List.length_nil, List.length_set]; rfl), by first | rfl | (simp only [AV.map, GV.map, CV.map, AB.map', id]; done) | (congr 3; omega) | (congr 4; omega) | (simp only [List.length_append, List.length_cons, List.length_nil, List.length_set]; rfl),  trivial⟩) (⟨by first | rfl | (simp only [AV.map, GV.map, CV.map, AB.map', id]; done) | (congr 3; omega) | (congr 4; omega) | (simp only [List.length_append, List.length_cons, List.length_nil, List.length_set]; rfl), by first | rfl | (simp only [AV.map, GV.map, CV.map, AB.map', id]; done) | (congr 3; omega) | (congr 4; omega) | (simp only [List.length_append, List.length_cons, List.length_nil, List.length_set]; rfl),  trivial⟩) rfl) rfl ⟨.agg rfl rfl (fun _ => run_isAgg Try.underlying92) sz92, .tmp rfl, trivial⟩ ⟨by first | rfl | (simp only [AV.map, GV.map, CV.map, AB.map', id]; done) | (congr 3; omega) | (congr 4; omega) | (simp only [List.length_append, List.length_cons, List.length_nil, List.length_set]; rfl),  trivial⟩) ?_ ?_
        · first | rfl | (simp [outOf, aC]; done) | (simp [outOf, aC]; omega)
        · first | rfl | (simp; done) | (simp; omega)
set_option maxRecDepth 100000 in
set_option maxHeartbeats 1000000 in
theorem c_ref_Force (c : Card) (n : Int) (x : Card) (e : Int) (hr : forceC c n = (x, e)) : Fn Try.prog 77 [(.g [(cI c.money), (cI c.held), (cI c.pace.ticks), (cI c.pace.count), (cI c.pace.sum), (cR 2 ((c.uses).map rUse))]), (.c (cI n))] (.t [(.g [(cI x.money), (cI x.held), (cI x.pace.ticks), (cI x.pace.count), (cI x.pace.sum), (cR 2 ((x.uses).map rUse))]), (.c (cI e))]) [] := by
  refine Fn.mk' 33 [(0, (aG [(cI c.money), (cI c.held), (cI c.pace.ticks), (cI c.pace.count), (cI c.pace.sum), (cR 2 ((c.uses).map rUse))])), (1, (aI n))] Try.func77 rfl rfl rfl rfl ?_
  intro W0 T0
  refine AC.lenG 0 5 rfl rfl (fun hlen0_5 => ?_)
  have hrc := @rightC c
  have hrl := @rightC_len c
  refine AC.seq ?_
  refine AC.region ?_
  refine AL.new (n' := 1) (Wanted.plain rfl) (g_boxS 0 rfl rfl) rfl rfl rfl ?_
  refine AL.new (n' := 2) (Wanted.plain rfl) (g_alloc 1 rfl zv92 rfl rfl rfl) rfl rfl rfl ?_
  refine AL.fast 1 rfl ?_
  refine AL.nil ?_
  refine then_ok ?_
  refine AC.seq ?_
  refine AC.seq ?_
  refine AC.region ?_
  refine AL.val (Wanted.plain rfl) (g_loadBs rfl rfl rfl Try.underlying92 rfl sz92 rfl rfl) rfl rfl ?_
  obtain ⟨e0, hr0⟩ : ∃ (e0 : Int), wrongC c = e0 := ⟨_, rfl⟩
  refine AL.call (n' := 2) (h' := [(1, (.box 92 [(cI 0), (cI 0), (cI 0), (cI 0), (cI 0), cN])), (0, (.box 92 [(cI c.money), (cI c.held), (cI c.pace.ticks), (cI c.pace.count), (cI c.pace.sum), (cR 2 ((c.uses).map rUse))]))]) (Wanted.plain rfl) (g_call 2 (c_ref_WrongCard c  e0 hr0) en75 rfl rfl ⟨⟨_, rfl, .g ⟨.d _, .d _, .d _, .d _, .d _, .d _,  trivial⟩⟩,  trivial⟩ trivial trivial rfl rfl rfl rfl) rfl rfl rfl rfl rfl ?_
  refine AL.fast 1 rfl ?_
  refine AL.nil ?_
  refine then_ok ?_
  refine AC.seq ?_
  refine AC.region ?_
  refine AL.fast 1 rfl ?_
  refine AL.val (Wanted.plain rfl) (g_binI rfl rfl rfl rfl) rfl rfl ?_
  refine AL.nil ?_
  refine then_ok ?_
  refine AC.cond rfl (fun hc1 => ?_) (fun hc1 => ?_)
  ·
    have hc1' := hc1; try simp only [sumB, Bool.not_eq_true', Bool.not_eq_false', Bool.or_eq_true, Bool.or_eq_false_iff, Bool.and_eq_true, Bool.and_eq_false_imp, decide_eq_true_eq, decide_eq_false_iff_not, Bool.not_not, Bool.not_true, Bool.not_false] at hc1'
    refine AC.seq ?_
    refine AC.region ?_
    refine AL.val (Wanted.plain rfl) (g_build (ys := []) rfl bld92 rfl trivial rfl rfl) rfl rfl ?_
    refine AL.fast 1 rfl ?_
    refine AL.sto (h' := [(1, (.box 92 [(cI 0), (cI 0), (cI 0), (cI 0), (cI 0), cN])), (0, (.box 92 [(cI c.money), (cI c.held), (cI c.pace.ticks), (cI c.pace.count), (cI c.pace.sum), (cR 2 ((c.uses).map rUse))]))]) (Wanted.plain rfl) (g_storeB rfl rfl rfl rfl rfl sz92 rfl (Nat.le_of_ble_eq_true rfl) rfl) rfl rfl rfl rfl ?_
    refine AL.fast 1 rfl ?_
    refine AL.nil ?_
    refine then_ok ?_
    refine AC.ret ?_
    refine then_ret ?_
    refine retQ_weak (Weak.nilR (h' := [(1, (.box 92 [(cI 0), (cI 0), (cI 0), (cI 0), (cI 0), (cR 2 (([]).map rUse))])), (0, (.box 92 [(cI c.money), (cI c.held), (cI c.pace.ticks), (cI c.pace.count), (cI c.pace.sum), (cR 2 ((c.uses).map rUse))]))]) 1 5 2 92 rfl rfl rfl) ?_
    have hX : forceC c n = ((⟨0, 0, (⟨0, 0, 0⟩ : Pace), []⟩ : Card), e0) := by
      unfold forceC; rw [if_pos (by omega), hr0]; rfl
    rw [hX] at hr; clear hX
    simp only [Prod.mk.injEq] at hr; obtain ⟨rfl, rfl⟩ := hr
    refine retQ_mk (av' := outOf [(.g [(cI 0), (cI 0), (cI 0), (cI 0), (cI 0), (cR 2 (([]).map rUse))]), (.c (cI e0))]) (nb' := []) (retQ_ret ⟨[(4, (aC (.p 1 0 0 0))), (5, (aI e0))], [(1, (.box 92 [(cI 0), (cI 0), (cI 0), (cI 0), (cI 0), (cR 2 (([]).map rUse))]))], 2⟩ [.cell 4 92, .tmp 5] [(.g [(cI 0), (cI 0), (cI 0), (cI 0), (cI 0), (cR 2 (([]).map rUse))]), (.c (cI e0))] (Weak.ren id (⟨by first | rfl | (simp only [AV.map, GV.map, CV.map, AB.map', id]; done) | (congr 3; omega) | (congr 4; omega) | (simp only [List.length_append, List.length_cons, List.length_nil, List.length_set]; rfl), by first | rfl | (simp only [AV.map, GV.map, CV.map, AB.map', id]; done) | (congr 3; omega) | (congr 4; omega) | (simp only [List.length_append, List.length_cons, List.length_nil, List.length_set]; rfl),  trivial⟩) (⟨by first | rfl | (simp only [AV.map, GV.map, CV.map, AB.map', id]; done) | (congr 3; omega) | (congr 4; omega) | (simp only [List.length_append, List.length_cons, List.length_nil, List.length_set]; rfl),  trivial⟩) rfl) rfl ⟨.agg rfl rfl (fun _ => run_isAgg Try.underlying92) sz92, .tmp rfl, trivial⟩ trivial) ?_ ?_
    · first | rfl | (simp [outOf, aC]; done) | (simp [outOf, aC]; omega)
    · first | rfl | (simp; done) | (simp; omega)
  ·
    have hc1' := hc1; try simp only [sumB, Bool.not_eq_true', Bool.not_eq_false', Bool.or_eq_true, Bool.or_eq_false_iff, Bool.and_eq_true, Bool.and_eq_false_imp, decide_eq_true_eq, decide_eq_false_iff_not, Bool.not_not, Bool.not_true, Bool.not_false] at hc1'
    refine AC.skip ?_
    refine then_ok ?_
    refine AC.seq ?_
    refine AC.cutB 25 (((decide (n < 1)) || (decide (n > 1000000))) || (decide ((c.held + n) > 1000000000000))) ?_ ?_
    ·
      refine AC.region ?_
      refine AL.fast 1 rfl ?_
      refine AL.val (Wanted.plain rfl) (g_binI rfl rfl rfl rfl) rfl rfl ?_
      refine AL.fast 1 rfl ?_
      refine AL.dec (t := 15) rfl (fun hb2 => ?_) (fun hb2 => ?_)
      ·
        have hb2' := hb2; try simp only [sumB, Bool.not_eq_true', Bool.not_eq_false', Bool.or_eq_true, Bool.or_eq_false_iff, Bool.and_eq_true, Bool.and_eq_false_imp, decide_eq_true_eq, decide_eq_false_iff_not, Bool.not_not, Bool.not_true, Bool.not_false] at hb2'
        refine AL.fast 10 rfl ?_
        refine AL.nil ?_
        refine then_ok ?_
        exact Weak.popB 14 rfl rfl (by first | (simp [hb2]; done) | (simp_all; done) | (exfalso; simp_all; done) | (simp_all; omega)) rfl
      ·
        have hb2' := hb2; try simp only [sumB, Bool.not_eq_true', Bool.not_eq_false', Bool.or_eq_true, Bool.or_eq_false_iff, Bool.and_eq_true, Bool.and_eq_false_imp, decide_eq_true_eq, decide_eq_false_iff_not, Bool.not_not, Bool.not_true, Bool.not_false] at hb2'
        refine AL.fast 1 rfl ?_
        refine AL.val (Wanted.yes rfl rfl rfl) (g_binI rfl rfl rfl rfl) rfl rfl ?_
        refine AL.fast 2 rfl ?_
        refine AL.dec (t := 19) rfl (fun hb3 => ?_) (fun hb3 => ?_)
        ·
          have hb3' := hb3; try simp only [sumB, Bool.not_eq_true', Bool.not_eq_false', Bool.or_eq_true, Bool.or_eq_false_iff, Bool.and_eq_true, Bool.and_eq_false_imp, decide_eq_true_eq, decide_eq_false_iff_not, Bool.not_not, Bool.not_true, Bool.not_false] at hb3'
          refine AL.fast 6 rfl ?_
          refine AL.nil ?_
          refine then_ok ?_
          exact Weak.popB 15 rfl rfl (by first | (simp [hb2, hb3]; done) | (simp_all; done) | (exfalso; simp_all; done) | (simp_all; omega)) rfl
        ·
          have hb3' := hb3; try simp only [sumB, Bool.not_eq_true', Bool.not_eq_false', Bool.or_eq_true, Bool.or_eq_false_iff, Bool.and_eq_true, Bool.and_eq_false_imp, decide_eq_true_eq, decide_eq_false_iff_not, Bool.not_not, Bool.not_true, Bool.not_false] at hb3'
          refine AL.val (Wanted.yes rfl rfl rfl) (g_fieldP rfl rfl Try.underlying92 rfl sz3 (by decide)) rfl rfl ?_
          refine AL.val (Wanted.yes rfl rfl rfl) (g_loadB rfl rfl rfl Try.underlying3 rfl rfl) rfl rfl ?_
          refine AL.fast 1 rfl ?_
          refine AL.val (Wanted.yes rfl rfl rfl) (g_binI rfl rfl rfl (wrap_ok (by first | omega | (simp; done) | (simp; omega)))) rfl rfl ?_
          refine AL.val (Wanted.yes rfl rfl rfl) (g_binI rfl rfl rfl rfl) rfl rfl ?_
          refine AL.fast 1 rfl ?_
          refine AL.nil ?_
          refine then_ok ?_
          exact Weak.popB 15 rfl rfl (by first | (simp [hb2, hb3]; done) | (simp_all; done) | (exfalso; simp_all; done) | (simp_all; omega)) rfl
    ·
      refine AC.cond rfl (fun hc4 => ?_) (fun hc4 => ?_)
      ·
        have hc4' := hc4; try simp only [sumB, Bool.not_eq_true', Bool.not_eq_false', Bool.or_eq_true, Bool.or_eq_false_iff, Bool.and_eq_true, Bool.and_eq_false_imp, decide_eq_true_eq, decide_eq_false_iff_not, Bool.not_not, Bool.not_true, Bool.not_false] at hc4'
        refine AC.seq ?_
        refine AC.region ?_
        refine AL.val (Wanted.plain rfl) (g_build (ys := []) rfl bld92 rfl trivial rfl rfl) rfl rfl ?_
        refine AL.sto (h' := [(1, (.box 92 [(cI 0), (cI 0), (cI 0), (cI 0), (cI 0), cN])), (0, (.box 92 [(cI c.money), (cI c.held), (cI c.pace.ticks), (cI c.pace.count), (cI c.pace.sum), (cR 2 ((c.uses).map rUse))]))]) (Wanted.plain rfl) (g_storeB rfl rfl rfl rfl rfl sz92 rfl (Nat.le_of_ble_eq_true rfl) rfl) rfl rfl rfl rfl ?_
        refine AL.fast 1 rfl ?_
        refine AL.nil ?_
        refine then_ok ?_
        refine AC.ret ?_
        refine then_ret ?_
        refine retQ_weak (Weak.nilR (h' := [(1, (.box 92 [(cI 0), (cI 0), (cI 0), (cI 0), (cI 0), (cR 2 (([]).map rUse))])), (0, (.box 92 [(cI c.money), (cI c.held), (cI c.pace.ticks), (cI c.pace.count), (cI c.pace.sum), (cR 2 ((c.uses).map rUse))]))]) 1 5 2 92 rfl rfl rfl) ?_
        have hX : forceC c n = ((⟨0, 0, (⟨0, 0, 0⟩ : Pace), []⟩ : Card), 3) := by
          unfold forceC; rw [if_neg (by omega), if_pos (by omega)]; rfl
        rw [hX] at hr; clear hX
        simp only [Prod.mk.injEq] at hr; obtain ⟨rfl, rfl⟩ := hr
        refine retQ_mk (av' := outOf [(.g [(cI 0), (cI 0), (cI 0), (cI 0), (cI 0), (cR 2 (([]).map rUse))]), (.c (cI 3))]) (nb' := []) (retQ_ret ⟨[(4, (aC (.p 1 0 0 0))), (5, (aI 3))], [(1, (.box 92 [(cI 0), (cI 0), (cI 0), (cI 0), (cI 0), (cR 2 (([]).map rUse))]))], 2⟩ [.cell 4 92, .tmp 5] [(.g [(cI 0), (cI 0), (cI 0), (cI 0), (cI 0), (cR 2 (([]).map rUse))]), (.c (cI 3))] (Weak.ren id (⟨by first | rfl | (simp only [AV.map, GV.map, CV.map, AB.map', id]; done) | (congr 3; omega) | (congr 4; omega) | (simp only [List.length_append, List.length_cons, List.length_nil, List.length_set]; rfl), by first | rfl | (simp only [AV.map, GV.map, CV.map, AB.map', id]; done) | (congr 3; omega) | (congr 4; omega) | (simp only [List.length_append, List.length_cons, List.length_nil, List.length_set]; rfl),  trivial⟩) (⟨by first | rfl | (simp only [AV.map, GV.map, CV.map, AB.map', id]; done) | (congr 3; omega) | (congr 4; omega) | (simp only [List.length_append, List.length_cons, List.length_nil, List.length_set]; rfl),  trivial⟩) rfl) rfl ⟨.agg rfl rfl (fun _ => run_isAgg Try.underlying92) sz92, .tmp rfl, trivial⟩ trivial) ?_ ?_
        · first | rfl | (simp [outOf, aC]; done) | (simp [outOf, aC]; omega)
        · first | rfl | (simp; done) | (simp; omega)
      ·
        have hc4' := hc4; try simp only [sumB, Bool.not_eq_true', Bool.not_eq_false', Bool.or_eq_true, Bool.or_eq_false_iff, Bool.and_eq_true, Bool.and_eq_false_imp, decide_eq_true_eq, decide_eq_false_iff_not, Bool.not_not, Bool.not_true, Bool.not_false] at hc4'
        refine AC.skip ?_
        refine then_ok ?_
        refine AC.seq ?_
        refine AC.region ?_
        refine AL.val (Wanted.plain rfl) (g_fieldP rfl rfl Try.underlying92 rfl sz3 (by decide)) rfl rfl ?_
        refine AL.val (Wanted.plain rfl) (g_loadB rfl rfl rfl Try.underlying3 rfl rfl) rfl rfl ?_
        refine AL.fast 1 rfl ?_
        refine AL.val (Wanted.plain rfl) (g_binI rfl rfl rfl (wrap_ok (by first | omega | (simp; done) | (simp; omega)))) rfl rfl ?_
        refine AL.val (Wanted.plain rfl) (g_fieldP rfl rfl Try.underlying92 rfl sz3 (by decide)) rfl rfl ?_
        refine AL.sto (h' := [(1, (.box 92 [(cI 0), (cI 0), (cI 0), (cI 0), (cI 0), cN])), (0, (.box 92 [(cI c.money), (cI (c.held + n)), (cI c.pace.ticks), (cI c.pace.count), (cI c.pace.sum), (cR 2 ((c.uses).map rUse))]))]) (Wanted.plain rfl) (g_storeB rfl rfl rfl rfl rfl sz3 rfl (Nat.le_of_ble_eq_true rfl) rfl) rfl rfl rfl rfl ?_
        refine AL.nil ?_
        refine then_ok ?_
        refine AC.seq ?_
        refine AC.region ?_
        refine AL.val (Wanted.plain rfl) (g_loadBs rfl rfl rfl Try.underlying92 rfl sz92 rfl rfl) rfl rfl ?_
        refine AL.sto (h' := [(1, (.box 92 [(cI c.money), (cI (c.held + n)), (cI c.pace.ticks), (cI c.pace.count), (cI c.pace.sum), (cR 2 ((c.uses).map rUse))])), (0, (.box 92 [(cI c.money), (cI (c.held + n)), (cI c.pace.ticks), (cI c.pace.count), (cI c.pace.sum), (cR 2 ((c.uses).map rUse))]))]) (Wanted.plain rfl) (g_storeB rfl rfl rfl rfl rfl sz92 rfl (Nat.le_of_ble_eq_true rfl) rfl) rfl rfl rfl rfl ?_
        refine AL.fast 1 rfl ?_
        refine AL.nil ?_
        refine then_ok ?_
        refine AC.ret ?_
        have hX : forceC c n = ((⟨c.money, c.held + n, c.pace, c.uses⟩ : Card), 0) := by
          unfold forceC; rw [if_neg (by omega), if_neg (by omega)]
        rw [hX] at hr; clear hX
        simp only [Prod.mk.injEq] at hr; obtain ⟨rfl, rfl⟩ := hr
        refine retQ_mk (av' := outOf [(.g [(cI c.money), (cI (c.held + n)), (cI c.pace.ticks), (cI c.pace.count), (cI c.pace.sum), (cR 2 ((c.uses).map rUse))]), (.c (cI 0))]) (nb' := []) (retQ_ret ⟨[(4, (aC (.p 1 0 0 0))), (5, (aI 0))], [(1, (.box 92 [(cI c.money), (cI (c.held + n)), (cI c.pace.ticks), (cI c.pace.count), (cI c.pace.sum), (cR 2 ((c.uses).map rUse))]))], 2⟩ [.cell 4 92, .tmp 5] [(.g [(cI c.money), (cI (c.held + n)), (cI c.pace.ticks), (cI c.pace.count), (cI c.pace.sum), (cR 2 ((c.uses).map rUse))]), (.c (cI 0))] (Weak.ren id (⟨by first | rfl | (simp only [AV.map, GV.map, CV.map, AB.map', id]; done) | (congr 3; omega) | (congr 4; omega) | (simp only [List.length_append, List.length_cons, List.length_nil, List.length_set]; rfl), by first | rfl | (simp only [AV.map, GV.map, CV.map, AB.map', id]; done) | (congr 3; omega) | (congr 4; omega) | (simp only [List.length_append, List.length_cons, List.length_nil, List.length_set]; rfl),  trivial⟩) (⟨by first | rfl | (simp only [AV.map, GV.map, CV.map, AB.map', id]; done) | (congr 3; omega) | (congr 4; omega) | (simp only [List.length_append, List.length_cons, List.length_nil, List.length_set]; rfl),  trivial⟩) rfl) rfl ⟨.agg rfl rfl (fun _ => run_isAgg Try.underlying92) sz92, .tmp rfl, trivial⟩ trivial) ?_ ?_
        · first | rfl | (simp [outOf, aC]; done) | (simp [outOf, aC]; omega)
        · first | rfl | (simp; done) | (simp; omega)
end Go.Proofs.Ytgmcdlfmifijlaa.Dev
