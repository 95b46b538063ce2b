/- cards: Wrong, Free, own, SameCard. -/
import Derived.Test.YtgmcdlfmifijlaaDPace6
import Derived.Test.YtgmcdlfmifijlaaDPlCard
import Derived.Test.YtgmcdlfmifijlaaDPace4
set_option linter.unusedVariables false
set_option linter.unusedSimpArgs false
namespace Go.Proofs.Ytgmcdlfmifijlaa.Dev
open Go.RowKit

set_option maxRecDepth 100000 in
set_option maxHeartbeats 1000000 in
theorem c_card_Wrong (c : Card) (e : Int) (hr : wrongC c = e) : Fn Try.prog 72 [(.g [(cI c.money), (cI c.held), (cI c.pace.ticks), (cI c.pace.count), (cI c.pace.sum), (cR 2 ((c.uses).map rUse))])] (.v (.c (cI e))) [] := by
  refine Fn.mk' 32 [(0, (aG [(cI c.money), (cI c.held), (cI c.pace.ticks), (cI c.pace.count), (cI c.pace.sum), (cR 2 ((c.uses).map rUse))]))] Try.func72 rfl rfl rfl rfl ?_
  intro W0 T0
  refine AC.lenG 0 5 rfl rfl (fun hlen0_5 => ?_)
  refine AC.seq ?_
  refine AC.region ?_
  refine AL.new (n' := 1) (Wanted.plain rfl) (g_boxS 0 rfl rfl) rfl rfl rfl ?_
  refine AL.fast 1 rfl ?_
  refine AL.nil ?_
  refine then_ok ?_
  refine AC.seq ?_
  refine AC.cutB 21 ((((decide (c.money < (-1000000000000))) || (decide (c.money > 1000000000000))) || (decide (c.held < 0))) || (decide (c.held > 1000000000000))) ?_ ?_
  ·
    refine AC.region ?_
    refine AL.val (Wanted.plain rfl) (g_fieldP rfl rfl Try.underlying92 rfl sz3 (by decide)) rfl rfl ?_
    refine AL.val (Wanted.plain rfl) (g_loadB rfl rfl rfl Try.underlying3 rfl rfl) rfl rfl ?_
    refine AL.val (Wanted.plain rfl) (g_binI rfl rfl rfl rfl) rfl rfl ?_
    refine AL.fast 1 rfl ?_
    refine AL.dec (t := 7) rfl (fun hb1 => ?_) (fun hb1 => ?_)
    ·
      have hb1' := hb1; try simp only [sumB, Bool.not_eq_true', Bool.not_eq_false', Bool.or_eq_true, Bool.or_eq_false_iff, Bool.and_eq_true, Bool.and_eq_false_imp, decide_eq_true_eq, decide_eq_false_iff_not, Bool.not_not, Bool.not_true, Bool.not_false] at hb1'
      refine AL.fast 14 rfl ?_
      refine AL.nil ?_
      refine then_ok ?_
      exact Weak.popB 19 rfl rfl (by first | (simp [hb1]; done) | (simp_all; done) | (exfalso; simp_all; done) | (simp_all; omega)) rfl
    ·
      have hb1' := hb1; try simp only [sumB, Bool.not_eq_true', Bool.not_eq_false', Bool.or_eq_true, Bool.or_eq_false_iff, Bool.and_eq_true, Bool.and_eq_false_imp, decide_eq_true_eq, decide_eq_false_iff_not, Bool.not_not, Bool.not_true, Bool.not_false] at hb1'
      refine AL.val (Wanted.yes rfl rfl rfl) (g_fieldP rfl rfl Try.underlying92 rfl sz3 (by decide)) rfl rfl ?_
      refine AL.val (Wanted.yes rfl rfl rfl) (g_loadB rfl rfl rfl Try.underlying3 rfl rfl) rfl rfl ?_
      refine AL.val (Wanted.yes rfl rfl rfl) (g_binI rfl rfl rfl rfl) rfl rfl ?_
      refine AL.fast 2 rfl ?_
      refine AL.dec (t := 12) rfl (fun hb2 => ?_) (fun hb2 => ?_)
      ·
        have hb2' := hb2; try simp only [sumB, Bool.not_eq_true', Bool.not_eq_false', Bool.or_eq_true, Bool.or_eq_false_iff, Bool.and_eq_true, Bool.and_eq_false_imp, decide_eq_true_eq, decide_eq_false_iff_not, Bool.not_not, Bool.not_true, Bool.not_false] at hb2'
        refine AL.fast 9 rfl ?_
        refine AL.nil ?_
        refine then_ok ?_
        exact Weak.popB 20 rfl rfl (by first | (simp [hb1, hb2]; done) | (simp_all; done) | (exfalso; simp_all; done) | (simp_all; omega)) rfl
      ·
        have hb2' := hb2; try simp only [sumB, Bool.not_eq_true', Bool.not_eq_false', Bool.or_eq_true, Bool.or_eq_false_iff, Bool.and_eq_true, Bool.and_eq_false_imp, decide_eq_true_eq, decide_eq_false_iff_not, Bool.not_not, Bool.not_true, Bool.not_false] at hb2'
        refine AL.val (Wanted.yes rfl rfl rfl) (g_fieldP rfl rfl Try.underlying92 rfl sz3 (by decide)) rfl rfl ?_
        refine AL.val (Wanted.yes rfl rfl rfl) (g_loadB rfl rfl rfl Try.underlying3 rfl rfl) rfl rfl ?_
        refine AL.val (Wanted.yes rfl rfl rfl) (g_binI rfl rfl rfl rfl) rfl rfl ?_
        refine AL.fast 2 rfl ?_
        refine AL.dec (t := 17) rfl (fun hb3 => ?_) (fun hb3 => ?_)
        ·
          have hb3' := hb3; try simp only [sumB, Bool.not_eq_true', Bool.not_eq_false', Bool.or_eq_true, Bool.or_eq_false_iff, Bool.and_eq_true, Bool.and_eq_false_imp, decide_eq_true_eq, decide_eq_false_iff_not, Bool.not_not, Bool.not_true, Bool.not_false] at hb3'
          refine AL.fast 4 rfl ?_
          refine AL.nil ?_
          refine then_ok ?_
          exact Weak.popB 21 rfl rfl (by first | (simp [hb1, hb2, hb3]; done) | (simp_all; done) | (exfalso; simp_all; done) | (simp_all; omega)) rfl
        ·
          have hb3' := hb3; try simp only [sumB, Bool.not_eq_true', Bool.not_eq_false', Bool.or_eq_true, Bool.or_eq_false_iff, Bool.and_eq_true, Bool.and_eq_false_imp, decide_eq_true_eq, decide_eq_false_iff_not, Bool.not_not, Bool.not_true, Bool.not_false] at hb3'
          refine AL.val (Wanted.yes rfl rfl rfl) (g_fieldP rfl rfl Try.underlying92 rfl sz3 (by decide)) rfl rfl ?_
          refine AL.val (Wanted.yes rfl rfl rfl) (g_loadB rfl rfl rfl Try.underlying3 rfl rfl) rfl rfl ?_
          refine AL.val (Wanted.yes rfl rfl rfl) (g_binI rfl rfl rfl rfl) rfl rfl ?_
          refine AL.fast 1 rfl ?_
          refine AL.nil ?_
          refine then_ok ?_
          exact Weak.popB 21 rfl rfl (by first | (simp [hb1, hb2, hb3]; done) | (simp_all; done) | (exfalso; simp_all; done) | (simp_all; omega)) rfl
  ·
    refine AC.cond rfl (fun hc4 => ?_) (fun hc4 => ?_)
    ·
      have hc4' := hc4; try simp only [sumB, Bool.not_eq_true', Bool.not_eq_false', Bool.or_eq_true, Bool.or_eq_false_iff, Bool.and_eq_true, Bool.and_eq_false_imp, decide_eq_true_eq, decide_eq_false_iff_not, Bool.not_not, Bool.not_true, Bool.not_false] at hc4'
      refine AC.seq ?_
      refine AC.region ?_
      refine AL.fast 1 rfl ?_
      refine AL.nil ?_
      refine then_ok ?_
      refine AC.ret ?_
      refine then_ret ?_
      have hX : wrongC c = 3 := by
        unfold wrongC; rw [if_pos (by omega)]
      rw [hX] at hr; clear hX
      subst hr
      refine retQ_mk (av' := outOf [(.c (cI 3))]) (nb' := []) (retQ_ret ⟨[(2, (aI 3))], [], 0⟩ [.tmp 2] [(.c (cI 3))] (Weak.ren id (⟨by first | rfl | (simp only [AV.map, GV.map, CV.map, AB.map', id]; done) | (congr 3; omega) | (congr 4; omega) | (simp only [List.length_append, List.length_cons, List.length_nil, List.length_set]; rfl),  trivial⟩) (trivial) rfl) rfl ⟨.tmp rfl, trivial⟩ trivial) ?_ ?_
      · first | rfl | (simp [outOf, aC]; done) | (simp [outOf, aC]; omega)
      · first | rfl | (simp; done) | (simp; omega)
    ·
      have hc4' := hc4; try simp only [sumB, Bool.not_eq_true', Bool.not_eq_false', Bool.or_eq_true, Bool.or_eq_false_iff, Bool.and_eq_true, Bool.and_eq_false_imp, decide_eq_true_eq, decide_eq_false_iff_not, Bool.not_not, Bool.not_true, Bool.not_false] at hc4'
      refine AC.skip ?_
      refine then_ok ?_
      refine AC.seq ?_
      refine AC.seq ?_
      refine AC.region ?_
      refine AL.val (Wanted.plain rfl) (g_fieldP rfl rfl Try.underlying92 rfl sz41 (by decide)) rfl rfl ?_
      refine AL.val (Wanted.plain rfl) (g_loadBs rfl rfl rfl Try.underlying41 rfl sz41 rfl rfl) rfl rfl ?_
      obtain ⟨e0, hr0⟩ : ∃ (e0 : Int), wrongP c.pace = e0 := ⟨_, rfl⟩
      refine AL.call (n' := 1) (h' := [(0, (.box 92 [(cI c.money), (cI c.held), (cI c.pace.ticks), (cI c.pace.count), (cI c.pace.sum), (cR 2 ((c.uses).map rUse))]))]) (Wanted.plain rfl) (g_call 1 (c_pace_WrongN c.pace  e0 hr0) en38 rfl rfl ⟨⟨_, rfl, .g ⟨.d _, .d _, .d _,  trivial⟩⟩,  trivial⟩ trivial trivial rfl rfl rfl rfl) rfl rfl rfl rfl rfl ?_
      refine AL.fast 1 rfl ?_
      refine AL.nil ?_
      refine then_ok ?_
      refine AC.seq ?_
      refine AC.region ?_
      refine AL.fast 1 rfl ?_
      refine AL.val (Wanted.plain rfl) (g_binI rfl rfl rfl rfl) rfl rfl ?_
      refine AL.nil ?_
      refine then_ok ?_
      refine AC.cond rfl (fun hc5 => ?_) (fun hc5 => ?_)
      ·
        have hc5' := hc5; try simp only [sumB, Bool.not_eq_true', Bool.not_eq_false', Bool.or_eq_true, Bool.or_eq_false_iff, Bool.and_eq_true, Bool.and_eq_false_imp, decide_eq_true_eq, decide_eq_false_iff_not, Bool.not_not, Bool.not_true, Bool.not_false] at hc5'
        refine AC.seq ?_
        refine AC.region ?_
        refine AL.fast 2 rfl ?_
        refine AL.nil ?_
        refine then_ok ?_
        refine AC.ret ?_
        refine then_ret ?_
        have hX : wrongC c = e0 := by
          unfold wrongC; rw [if_neg (by omega), if_pos (by omega), hr0]
        rw [hX] at hr; clear hX
        subst hr
        refine retQ_mk (av' := outOf [(.c (cI e0))]) (nb' := []) (retQ_ret ⟨[(2, (aI e0))], [], 0⟩ [.tmp 2] [(.c (cI e0))] (Weak.ren id (⟨by first | rfl | (simp only [AV.map, GV.map, CV.map, AB.map', id]; done) | (congr 3; omega) | (congr 4; omega) | (simp only [List.length_append, List.length_cons, List.length_nil, List.length_set]; rfl),  trivial⟩) (trivial) rfl) rfl ⟨.tmp rfl, trivial⟩ trivial) ?_ ?_
        · first | rfl | (simp [outOf, aC]; done) | (simp [outOf, aC]; omega)
        · first | rfl | (simp; done) | (simp; omega)
      ·
        have hc5' := hc5; try simp only [sumB, Bool.not_eq_true', Bool.not_eq_false', Bool.or_eq_true, Bool.or_eq_false_iff, Bool.and_eq_true, Bool.and_eq_false_imp, decide_eq_true_eq, decide_eq_false_iff_not, Bool.not_not, Bool.not_true, Bool.not_false] at hc5'
        refine AC.skip ?_
        refine then_ok ?_
        refine AC.seq ?_
        refine AC.region ?_
        refine AL.val (Wanted.plain rfl) (g_fieldP rfl rfl Try.underlying92 rfl sz42 (by decide)) rfl rfl ?_
        refine AL.val (Wanted.plain rfl) (g_loadB rfl rfl rfl Try.underlying42 rfl rfl) rfl rfl ?_
        obtain ⟨f1, hr1⟩ : ∃ (f1 : Fault), usesF c.uses = f1 := ⟨_, rfl⟩
        refine AL.call (n' := 1) (h' := [(0, (.box 92 [(cI c.money), (cI c.held), (cI c.pace.ticks), (cI c.pace.count), (cI c.pace.sum), (cR 2 ((c.uses).map rUse))]))]) (Wanted.plain rfl) (g_call 1 (c_pace_UsesN c.uses  f1 hr1) en40 rfl rfl ⟨⟨_, rfl, .c (.d _)⟩,  trivial⟩ ⟨trivial, trivial,  trivial⟩ trivial rfl rfl rfl rfl) rfl rfl rfl rfl rfl ?_
        refine AL.val (Wanted.plain rfl) (g_field1 rfl rfl Try.underlying47 rfl Try.underlying27 rfl rfl) rfl rfl ?_
        refine AL.fast 1 rfl ?_
        refine AL.nil ?_
        refine then_ok ?_
        refine AC.ret ?_
        have hX : wrongC c = f1.err := by
          unfold wrongC; rw [if_neg (by omega), if_neg (by omega), hr1]
        rw [hX] at hr; clear hX
        subst hr
        refine retQ_mk (av' := outOf [(.c (cI f1.err))]) (nb' := []) (retQ_ret ⟨[(2, (aI f1.err))], [], 0⟩ [.tmp 2] [(.c (cI f1.err))] (Weak.ren id (⟨by first | rfl | (simp only [AV.map, GV.map, CV.map, AB.map', id]; done) | (congr 3; omega) | (congr 4; omega) | (simp only [List.length_append, List.length_cons, List.length_nil, List.length_set]; rfl),  trivial⟩) (trivial) rfl) rfl ⟨.tmp rfl, trivial⟩ trivial) ?_ ?_
        · first | rfl | (simp [outOf, aC]; done) | (simp [outOf, aC]; omega)
        · first | rfl | (simp; done) | (simp; omega)
set_option maxRecDepth 100000 in
set_option maxHeartbeats 1000000 in
theorem c_ref_WrongCard (c : Card) (e : Int) (hr : wrongC c = e) : Fn Try.prog 75 [(.g [(cI c.money), (cI c.held), (cI c.pace.ticks), (cI c.pace.count), (cI c.pace.sum), (cR 2 ((c.uses).map rUse))])] (.v (.c (cI e))) [] := by
  refine Fn.mk' 32 [(0, (aG [(cI c.money), (cI c.held), (cI c.pace.ticks), (cI c.pace.count), (cI c.pace.sum), (cR 2 ((c.uses).map rUse))]))] Try.func75 rfl rfl rfl rfl ?_
  intro W0 T0
  refine AC.lenG 0 5 rfl rfl (fun hlen0_5 => ?_)
  refine AC.seq ?_
  refine AC.region ?_
  refine AL.new (n' := 1) (Wanted.plain rfl) (g_boxS 0 rfl rfl) rfl rfl rfl ?_
  refine AL.fast 1 rfl ?_
  refine AL.nil ?_
  refine then_ok ?_
  refine AC.seq ?_
  refine AC.cutB 21 ((((decide (c.money > 1000000000000)) || (decide (c.money < (-1000000000000)))) || (decide (c.held < 0))) || (decide (c.held > 1000000000000))) ?_ ?_
  ·
    refine AC.region ?_
    refine AL.val (Wanted.plain rfl) (g_fieldP rfl rfl Try.underlying92 rfl sz3 (by decide)) rfl rfl ?_
    refine AL.val (Wanted.plain rfl) (g_loadB rfl rfl rfl Try.underlying3 rfl rfl) rfl rfl ?_
    refine AL.val (Wanted.plain rfl) (g_binI rfl rfl rfl rfl) rfl rfl ?_
    refine AL.fast 1 rfl ?_
    refine AL.dec (t := 7) rfl (fun hb1 => ?_) (fun hb1 => ?_)
    ·
      have hb1' := hb1; try simp only [sumB, Bool.not_eq_true', Bool.not_eq_false', Bool.or_eq_true, Bool.or_eq_false_iff, Bool.and_eq_true, Bool.and_eq_false_imp, decide_eq_true_eq, decide_eq_false_iff_not, Bool.not_not, Bool.not_true, Bool.not_false] at hb1'
      refine AL.fast 14 rfl ?_
      refine AL.nil ?_
      refine then_ok ?_
      exact Weak.popB 19 rfl rfl (by first | (simp [hb1]; done) | (simp_all; done) | (exfalso; simp_all; done) | (simp_all; omega)) rfl
    ·
      have hb1' := hb1; try simp only [sumB, Bool.not_eq_true', Bool.not_eq_false', Bool.or_eq_true, Bool.or_eq_false_iff, Bool.and_eq_true, Bool.and_eq_false_imp, decide_eq_true_eq, decide_eq_false_iff_not, Bool.not_not, Bool.not_true, Bool.not_false] at hb1'
      refine AL.val (Wanted.yes rfl rfl rfl) (g_fieldP rfl rfl Try.underlying92 rfl sz3 (by decide)) rfl rfl ?_
      refine AL.val (Wanted.yes rfl rfl rfl) (g_loadB rfl rfl rfl Try.underlying3 rfl rfl) rfl rfl ?_
      refine AL.val (Wanted.yes rfl rfl rfl) (g_binI rfl rfl rfl rfl) rfl rfl ?_
      refine AL.fast 2 rfl ?_
      refine AL.dec (t := 12) rfl (fun hb2 => ?_) (fun hb2 => ?_)
      ·
        have hb2' := hb2; try simp only [sumB, Bool.not_eq_true', Bool.not_eq_false', Bool.or_eq_true, Bool.or_eq_false_iff, Bool.and_eq_true, Bool.and_eq_false_imp, decide_eq_true_eq, decide_eq_false_iff_not, Bool.not_not, Bool.not_true, Bool.not_false] at hb2'
        refine AL.fast 9 rfl ?_
        refine AL.nil ?_
        refine then_ok ?_
        exact Weak.popB 20 rfl rfl (by first | (simp [hb1, hb2]; done) | (simp_all; done) | (exfalso; simp_all; done) | (simp_all; omega)) rfl
      ·
        have hb2' := hb2; try simp only [sumB, Bool.not_eq_true', Bool.not_eq_false', Bool.or_eq_true, Bool.or_eq_false_iff, Bool.and_eq_true, Bool.and_eq_false_imp, decide_eq_true_eq, decide_eq_false_iff_not, Bool.not_not, Bool.not_true, Bool.not_false] at hb2'
        refine AL.val (Wanted.yes rfl rfl rfl) (g_fieldP rfl rfl Try.underlying92 rfl sz3 (by decide)) rfl rfl ?_
        refine AL.val (Wanted.yes rfl rfl rfl) (g_loadB rfl rfl rfl Try.underlying3 rfl rfl) rfl rfl ?_
        refine AL.val (Wanted.yes rfl rfl rfl) (g_binI rfl rfl rfl rfl) rfl rfl ?_
        refine AL.fast 2 rfl ?_
        refine AL.dec (t := 17) rfl (fun hb3 => ?_) (fun hb3 => ?_)
        ·
          have hb3' := hb3; try simp only [sumB, Bool.not_eq_true', Bool.not_eq_false', Bool.or_eq_true, Bool.or_eq_false_iff, Bool.and_eq_true, Bool.and_eq_false_imp, decide_eq_true_eq, decide_eq_false_iff_not, Bool.not_not, Bool.not_true, Bool.not_false] at hb3'
          refine AL.fast 4 rfl ?_
          refine AL.nil ?_
          refine then_ok ?_
          exact Weak.popB 21 rfl rfl (by first | (simp [hb1, hb2, hb3]; done) | (simp_all; done) | (exfalso; simp_all; done) | (simp_all; omega)) rfl
        ·
          have hb3' := hb3; try simp only [sumB, Bool.not_eq_true', Bool.not_eq_false', Bool.or_eq_true, Bool.or_eq_false_iff, Bool.and_eq_true, Bool.and_eq_false_imp, decide_eq_true_eq, decide_eq_false_iff_not, Bool.not_not, Bool.not_true, Bool.not_false] at hb3'
          refine AL.val (Wanted.yes rfl rfl rfl) (g_fieldP rfl rfl Try.underlying92 rfl sz3 (by decide)) rfl rfl ?_
          refine AL.val (Wanted.yes rfl rfl rfl) (g_loadB rfl rfl rfl Try.underlying3 rfl rfl) rfl rfl ?_
          refine AL.val (Wanted.yes rfl rfl rfl) (g_binI rfl rfl rfl rfl) rfl rfl ?_
          refine AL.fast 1 rfl ?_
          refine AL.nil ?_
          refine then_ok ?_
          exact Weak.popB 21 rfl rfl (by first | (simp [hb1, hb2, hb3]; done) | (simp_all; done) | (exfalso; simp_all; done) | (simp_all; omega)) rfl
  ·
    refine AC.cond rfl (fun hc4 => ?_) (fun hc4 => ?_)
    ·
      have hc4' := hc4; try simp only [sumB, Bool.not_eq_true', Bool.not_eq_false', Bool.or_eq_true, Bool.or_eq_false_iff, Bool.and_eq_true, Bool.and_eq_false_imp, decide_eq_true_eq, decide_eq_false_iff_not, Bool.not_not, Bool.not_true, Bool.not_false] at hc4'
      refine AC.seq ?_
      refine AC.region ?_
      refine AL.fast 1 rfl ?_
      refine AL.nil ?_
      refine then_ok ?_
      refine AC.ret ?_
      refine then_ret ?_
      have hX : wrongC c = 3 := by
        unfold wrongC; rw [if_pos (by omega)]
      rw [hX] at hr; clear hX
      subst hr
      refine retQ_mk (av' := outOf [(.c (cI 3))]) (nb' := []) (retQ_ret ⟨[(2, (aI 3))], [], 0⟩ [.tmp 2] [(.c (cI 3))] (Weak.ren id (⟨by first | rfl | (simp only [AV.map, GV.map, CV.map, AB.map', id]; done) | (congr 3; omega) | (congr 4; omega) | (simp only [List.length_append, List.length_cons, List.length_nil, List.length_set]; rfl),  trivial⟩) (trivial) rfl) rfl ⟨.tmp rfl, trivial⟩ trivial) ?_ ?_
      · first | rfl | (simp [outOf, aC]; done) | (simp [outOf, aC]; omega)
      · first | rfl | (simp; done) | (simp; omega)
    ·
      have hc4' := hc4; try simp only [sumB, Bool.not_eq_true', Bool.not_eq_false', Bool.or_eq_true, Bool.or_eq_false_iff, Bool.and_eq_true, Bool.and_eq_false_imp, decide_eq_true_eq, decide_eq_false_iff_not, Bool.not_not, Bool.not_true, Bool.not_false] at hc4'
      refine AC.skip ?_
      refine then_ok ?_
      refine AC.seq ?_
      refine AC.seq ?_
      refine AC.region ?_
      refine AL.val (Wanted.plain rfl) (g_fieldP rfl rfl Try.underlying92 rfl sz41 (by decide)) rfl rfl ?_
      refine AL.val (Wanted.plain rfl) (g_loadBs rfl rfl rfl Try.underlying41 rfl sz41 rfl rfl) rfl rfl ?_
      obtain ⟨e0, hr0⟩ : ∃ (e0 : Int), wrongP c.pace = e0 := ⟨_, rfl⟩
      refine AL.call (n' := 1) (h' := [(0, (.box 92 [(cI c.money), (cI c.held), (cI c.pace.ticks), (cI c.pace.count), (cI c.pace.sum), (cR 2 ((c.uses).map rUse))]))]) (Wanted.plain rfl) (g_call 1 (c_ref_WrongPaceN c.pace  e0 hr0) en39 rfl rfl ⟨⟨_, rfl, .g ⟨.d _, .d _, .d _,  trivial⟩⟩,  trivial⟩ trivial trivial rfl rfl rfl rfl) rfl rfl rfl rfl rfl ?_
      refine AL.fast 1 rfl ?_
      refine AL.nil ?_
      refine then_ok ?_
      refine AC.seq ?_
      refine AC.region ?_
      refine AL.fast 1 rfl ?_
      refine AL.val (Wanted.plain rfl) (g_binI rfl rfl rfl rfl) rfl rfl ?_
      refine AL.nil ?_
      refine then_ok ?_
      refine AC.cond rfl (fun hc5 => ?_) (fun hc5 => ?_)
      ·
        have hc5' := hc5; try simp only [sumB, Bool.not_eq_true', Bool.not_eq_false', Bool.or_eq_true, Bool.or_eq_false_iff, Bool.and_eq_true, Bool.and_eq_false_imp, decide_eq_true_eq, decide_eq_false_iff_not, Bool.not_not, Bool.not_true, Bool.not_false] at hc5'
        refine AC.seq ?_
        refine AC.region ?_
        refine AL.fast 2 rfl ?_
        refine AL.nil ?_
        refine then_ok ?_
        refine AC.ret ?_
        refine then_ret ?_
        have hX : wrongC c = e0 := by
          unfold wrongC; rw [if_neg (by omega), if_pos (by omega), hr0]
        rw [hX] at hr; clear hX
        subst hr
        refine retQ_mk (av' := outOf [(.c (cI e0))]) (nb' := []) (retQ_ret ⟨[(2, (aI e0))], [], 0⟩ [.tmp 2] [(.c (cI e0))] (Weak.ren id (⟨by first | rfl | (simp only [AV.map, GV.map, CV.map, AB.map', id]; done) | (congr 3; omega) | (congr 4; omega) | (simp only [List.length_append, List.length_cons, List.length_nil, List.length_set]; rfl),  trivial⟩) (trivial) rfl) rfl ⟨.tmp rfl, trivial⟩ trivial) ?_ ?_
        · first | rfl | (simp [outOf, aC]; done) | (simp [outOf, aC]; omega)
        · first | rfl | (simp; done) | (simp; omega)
      ·
        have hc5' := hc5; try simp only [sumB, Bool.not_eq_true', Bool.not_eq_false', Bool.or_eq_true, Bool.or_eq_false_iff, Bool.and_eq_true, Bool.and_eq_false_imp, decide_eq_true_eq, decide_eq_false_iff_not, Bool.not_not, Bool.not_true, Bool.not_false] at hc5'
        refine AC.skip ?_
        refine then_ok ?_
        refine AC.seq ?_
        refine AC.region ?_
        refine AL.val (Wanted.plain rfl) (g_fieldP rfl rfl Try.underlying92 rfl sz42 (by decide)) rfl rfl ?_
        refine AL.val (Wanted.plain rfl) (g_loadB rfl rfl rfl Try.underlying42 rfl rfl) rfl rfl ?_
        obtain ⟨f1, hr1⟩ : ∃ (f1 : Fault), usesF c.uses = f1 := ⟨_, rfl⟩
        refine AL.call (n' := 1) (h' := [(0, (.box 92 [(cI c.money), (cI c.held), (cI c.pace.ticks), (cI c.pace.count), (cI c.pace.sum), (cR 2 ((c.uses).map rUse))]))]) (Wanted.plain rfl) (g_call 1 (c_ref_WrongUsesN c.uses  f1 hr1) en41 rfl rfl ⟨⟨_, rfl, .c (.d _)⟩,  trivial⟩ ⟨trivial, trivial,  trivial⟩ trivial rfl rfl rfl rfl) rfl rfl rfl rfl rfl ?_
        refine AL.val (Wanted.plain rfl) (g_field1 rfl rfl Try.underlying47 rfl Try.underlying27 rfl rfl) rfl rfl ?_
        refine AL.fast 1 rfl ?_
        refine AL.nil ?_
        refine then_ok ?_
        refine AC.ret ?_
        have hX : wrongC c = f1.err := by
          unfold wrongC; rw [if_neg (by omega), if_neg (by omega), hr1]
        rw [hX] at hr; clear hX
        subst hr
        refine retQ_mk (av' := outOf [(.c (cI f1.err))]) (nb' := []) (retQ_ret ⟨[(2, (aI f1.err))], [], 0⟩ [.tmp 2] [(.c (cI f1.err))] (Weak.ren id (⟨by first | rfl | (simp only [AV.map, GV.map, CV.map, AB.map', id]; done) | (congr 3; omega) | (congr 4; omega) | (simp only [List.length_append, List.length_cons, List.length_nil, List.length_set]; rfl),  trivial⟩) (trivial) rfl) rfl ⟨.tmp rfl, trivial⟩ trivial) ?_ ?_
        · first | rfl | (simp [outOf, aC]; done) | (simp [outOf, aC]; omega)
        · first | rfl | (simp; done) | (simp; omega)
set_option maxRecDepth 100000 in
set_option maxHeartbeats 1000000 in
theorem c_card_Free (c : Card) (hb : -9223372036854775808 ≤ c.money - c.held ∧ c.money - c.held ≤ 9223372036854775807) : Fn Try.prog 71 [(.g [(cI c.money), (cI c.held), (cI c.pace.ticks), (cI c.pace.count), (cI c.pace.sum), (cR 2 ((c.uses).map rUse))])] (aI (c.money - c.held)) [] := by
  refine Fn.mk' 8 [(0, (aG [(cI c.money), (cI c.held), (cI c.pace.ticks), (cI c.pace.count), (cI c.pace.sum), (cR 2 ((c.uses).map rUse))]))] Try.func71 rfl rfl rfl rfl ?_
  intro W0 T0
  refine AC.lenG 0 5 rfl rfl (fun hlen0_5 => ?_)
  obtain ⟨hb1, hb2⟩ := hb
  refine AC.seq ?_
  refine AC.region ?_
  refine AL.new (n' := 1) (Wanted.plain rfl) (g_boxS 0 rfl rfl) rfl rfl rfl ?_
  refine AL.fast 1 rfl ?_
  refine AL.nil ?_
  refine then_ok ?_
  refine AC.seq ?_
  refine AC.region ?_
  refine AL.val (Wanted.plain rfl) (g_fieldP rfl rfl Try.underlying92 rfl sz3 (by decide)) rfl rfl ?_
  refine AL.val (Wanted.plain rfl) (g_loadB rfl rfl rfl Try.underlying3 rfl rfl) rfl rfl ?_
  refine AL.val (Wanted.plain rfl) (g_fieldP rfl rfl Try.underlying92 rfl sz3 (by decide)) rfl rfl ?_
  refine AL.val (Wanted.plain rfl) (g_loadB rfl rfl rfl Try.underlying3 rfl rfl) rfl rfl ?_
  refine AL.val (Wanted.plain rfl) (g_binI rfl rfl rfl (wrap_ok (by first | omega | (simp; done) | (simp; omega)))) rfl rfl ?_
  refine AL.fast 1 rfl ?_
  refine AL.nil ?_
  refine then_ok ?_
  refine AC.ret ?_
  refine retQ_mk (av' := outOf [(.c (cI (c.money - c.held)))]) (nb' := []) (retQ_ret ⟨[(2, (aI (c.money - c.held)))], [], 0⟩ [.tmp 2] [(.c (cI (c.money - c.held)))] (Weak.ren id (⟨by first | rfl | (simp only [AV.map, GV.map, CV.map, AB.map', id]; done) | (congr 3; omega) | (congr 4; omega) | (simp only [List.length_append, List.length_cons, List.length_nil, List.length_set]; rfl),  trivial⟩) (trivial) rfl) rfl ⟨.tmp rfl, trivial⟩ trivial) ?_ ?_
  · first | rfl | (simp [outOf, aC]; done) | (simp [outOf, aC]; omega)
  · rfl
set_option maxRecDepth 100000 in
set_option maxHeartbeats 1000000 in
theorem c_card_own (c : Card) (hl : c.uses.length ≤ 1048576) : Fn Try.prog 113 [(.g [(cI c.money), (cI c.held), (cI c.pace.ticks), (cI c.pace.count), (cI c.pace.sum), (cR 2 ((c.uses).map rUse))])] (.v (.g [cI c.money, cI c.held, cI c.pace.ticks, cI c.pace.count, cI c.pace.sum, .s 0 0 2 c.uses.length])) [(0, .arr 44 2 (c.uses.map rUse))] := by
  refine Fn.mk' 8 [(0, (aG [(cI c.money), (cI c.held), (cI c.pace.ticks), (cI c.pace.count), (cI c.pace.sum), (cR 2 ((c.uses).map rUse))]))] Try.func113 rfl rfl rfl rfl ?_
  intro W0 T0
  refine AC.lenG 0 5 rfl rfl (fun hlen0_5 => ?_)
  refine AC.seq ?_
  refine AC.region ?_
  refine AL.new (n' := 1) (Wanted.plain rfl) (g_boxS 0 rfl rfl) rfl rfl rfl ?_
  refine AL.new (n' := 2) (Wanted.plain rfl) (g_alloc 1 rfl zv92 rfl rfl rfl) rfl rfl rfl ?_
  refine AL.nil ?_
  refine then_ok ?_
  refine AC.seq ?_
  refine AC.region ?_
  refine AL.val (Wanted.plain rfl) (g_fieldP rfl rfl Try.underlying92 rfl sz42 (by decide)) rfl rfl ?_
  refine AL.val (Wanted.plain rfl) (g_loadB rfl rfl rfl Try.underlying42 rfl rfl) rfl rfl ?_
  refine AL.call (n' := 3) (h' := [(2, (.arr 44 2 ((c.uses).map rUse))), (1, (.box 92 [(cI 0), (cI 0), (cI 0), (cI 0), (cI 0), cN])), (0, (.box 92 [(cI c.money), (cI c.held), (cI c.pace.ticks), (cI c.pace.count), (cI c.pace.sum), (cR 2 ((c.uses).map rUse))]))]) (Wanted.plain rfl) (g_call 2 (c_Clone_Use c.uses (by first | omega | (simp; done) | (simp; omega)) ) en105 rfl rfl ⟨⟨_, rfl, .c (.d _)⟩,  trivial⟩ trivial ⟨(fun _ _ _ _ => trivial),  trivial⟩ rfl rfl rfl rfl) rfl rfl rfl rfl rfl ?_
  refine AL.val (Wanted.plain rfl) (g_fieldP rfl rfl Try.underlying92 rfl sz42 (by decide)) rfl rfl ?_
  refine AL.sto (h' := [(2, (.arr 44 2 ((c.uses).map rUse))), (1, (.box 92 [(cI 0), (cI 0), (cI 0), (cI 0), (cI 0), cN])), (0, (.box 92 [(cI c.money), (cI c.held), (cI c.pace.ticks), (cI c.pace.count), (cI c.pace.sum), (.s 2 0 2 c.uses.length)]))]) (Wanted.plain rfl) (g_storeB rfl rfl rfl rfl rfl sz42 rfl (Nat.le_of_ble_eq_true rfl) rfl) rfl rfl rfl rfl ?_
  refine AL.nil ?_
  refine then_ok ?_
  refine AC.seq ?_
  refine AC.region ?_
  refine AL.val (Wanted.plain rfl) (g_loadBs rfl rfl rfl Try.underlying92 rfl sz92 rfl rfl) rfl rfl ?_
  refine AL.sto (h' := [(2, (.arr 44 2 ((c.uses).map rUse))), (1, (.box 92 [(cI c.money), (cI c.held), (cI c.pace.ticks), (cI c.pace.count), (cI c.pace.sum), (.s 2 0 2 c.uses.length)])), (0, (.box 92 [(cI c.money), (cI c.held), (cI c.pace.ticks), (cI c.pace.count), (cI c.pace.sum), (.s 2 0 2 c.uses.length)]))]) (Wanted.plain rfl) (g_storeB rfl rfl rfl rfl rfl sz92 rfl (Nat.le_of_ble_eq_true rfl) rfl) rfl rfl rfl rfl ?_
  refine AL.nil ?_
  refine then_ok ?_
  refine AC.ret ?_
  refine retQ_mk (av' := outOf [(.g [(cI c.money), (cI c.held), (cI c.pace.ticks), (cI c.pace.count), (cI c.pace.sum), (.s 0 0 2 c.uses.length)])]) (nb' := [(0, (.arr 44 2 ((c.uses).map rUse)))]) (retQ_ret ⟨[(2, (aC (.p 1 0 0 0)))], [(0, (.arr 44 2 ((c.uses).map rUse))), (1, (.box 92 [(cI c.money), (cI c.held), (cI c.pace.ticks), (cI c.pace.count), (cI c.pace.sum), (.s 0 0 2 c.uses.length)]))], 2⟩ [.cell 2 92] [(.g [(cI c.money), (cI c.held), (cI c.pace.ticks), (cI c.pace.count), (cI c.pace.sum), (.s 0 0 2 c.uses.length)])] (Weak.ren (fun k => if k = 0 then 2 else if k = 1 then 1 else k) (⟨by first | rfl | (simp only [AV.map, GV.map, CV.map, AB.map', id]; done) | (congr 3; omega) | (congr 4; omega) | (simp only [List.length_append, List.length_cons, List.length_nil, List.length_set]; rfl),  trivial⟩) (⟨by first | rfl | (simp only [AV.map, GV.map, CV.map, AB.map', id]; done) | (congr 3; omega) | (congr 4; omega) | (simp only [List.length_append, List.length_cons, List.length_nil, List.length_set]; rfl), by first | rfl | (simp only [AV.map, GV.map, CV.map, AB.map', id]; done) | (congr 3; omega) | (congr 4; omega) | (simp only [List.length_append, List.length_cons, List.length_nil, List.length_set]; rfl),  trivial⟩) rfl) rfl ⟨.agg rfl rfl (fun _ => run_isAgg Try.underlying92) sz92, trivial⟩ ⟨by first | rfl | (simp only [AV.map, GV.map, CV.map, AB.map', id]; done) | (congr 3; omega) | (congr 4; omega) | (simp only [List.length_append, List.length_cons, List.length_nil, List.length_set]; rfl),  trivial⟩) ?_ ?_
  · first | rfl | (simp [outOf, aC]; done) | (simp [outOf, aC]; omega)
  · rfl
set_option maxRecDepth 100000 in
set_option maxHeartbeats 1000000 in
theorem c_SameCard (a b : Card) (r : Bool) (hr : sameC a b = r) : Fn Try.prog 70 [(.g [(cI a.money), (cI a.held), (cI a.pace.ticks), (cI a.pace.count), (cI a.pace.sum), (cR 2 ((a.uses).map rUse))]), (.g [(cI b.money), (cI b.held), (cI b.pace.ticks), (cI b.pace.count), (cI b.pace.sum), (cR 2 ((b.uses).map rUse))])] (.v (.c (cB r))) [] := by
  refine Fn.mk' 31 [(0, (aG [(cI a.money), (cI a.held), (cI a.pace.ticks), (cI a.pace.count), (cI a.pace.sum), (cR 2 ((a.uses).map rUse))])), (1, (aG [(cI b.money), (cI b.held), (cI b.pace.ticks), (cI b.pace.count), (cI b.pace.sum), (cR 2 ((b.uses).map rUse))]))] Try.func70 rfl rfl rfl rfl ?_
  intro W0 T0
  refine AC.lenG 0 5 rfl rfl (fun hlen0_5 => ?_)
  refine AC.lenG 1 5 rfl rfl (fun hlen1_5 => ?_)
  refine AC.seq ?_
  refine AC.region ?_
  refine AL.new (n' := 1) (Wanted.plain rfl) (g_boxS 0 rfl rfl) rfl rfl rfl ?_
  refine AL.new (n' := 2) (Wanted.plain rfl) (g_boxS 1 rfl rfl) rfl rfl rfl ?_
  refine AL.fast 1 rfl ?_
  refine AL.nil ?_
  refine then_ok ?_
  obtain ⟨r0, hr0⟩ : ∃ (r0 : Bool), sameList a.uses b.uses = r0 := ⟨_, rfl⟩
  refine AC.cutB 4 ((((decide (a.money = b.money)) && (decide (a.held = b.held))) && (sameL [.int .i64 a.pace.ticks, .int .i64 a.pace.count, .int .i64 a.pace.sum] [.int .i64 b.pace.ticks, .int .i64 b.pace.count, .int .i64 b.pace.sum])) && r0) ?_ ?_
  ·
    refine AC.region ?_
    refine AL.val (Wanted.plain rfl) (g_fieldP rfl rfl Try.underlying92 rfl sz3 (by decide)) rfl rfl ?_
    refine AL.val (Wanted.plain rfl) (g_loadB rfl rfl rfl Try.underlying3 rfl rfl) rfl rfl ?_
    refine AL.val (Wanted.plain rfl) (g_fieldP rfl rfl Try.underlying92 rfl sz3 (by decide)) rfl rfl ?_
    refine AL.val (Wanted.plain rfl) (g_loadB rfl rfl rfl Try.underlying3 rfl rfl) rfl rfl ?_
    refine AL.val (Wanted.plain rfl) (g_binI rfl rfl rfl rfl) rfl rfl ?_
    refine AL.fast 1 rfl ?_
    refine AL.dec (t := 10) rfl (fun hb1 => ?_) (fun hb1 => ?_)
    ·
      have hb1' := hb1; try simp only [sumB, Bool.not_eq_true', Bool.not_eq_false', Bool.or_eq_true, Bool.or_eq_false_iff, Bool.and_eq_true, Bool.and_eq_false_imp, decide_eq_true_eq, decide_eq_false_iff_not, Bool.not_not, Bool.not_true, Bool.not_false] at hb1'
      refine AL.val (Wanted.yes rfl rfl rfl) (g_fieldP rfl rfl Try.underlying92 rfl sz3 (by decide)) rfl rfl ?_
      refine AL.val (Wanted.yes rfl rfl rfl) (g_loadB rfl rfl rfl Try.underlying3 rfl rfl) rfl rfl ?_
      refine AL.val (Wanted.yes rfl rfl rfl) (g_fieldP rfl rfl Try.underlying92 rfl sz3 (by decide)) rfl rfl ?_
      refine AL.val (Wanted.yes rfl rfl rfl) (g_loadB rfl rfl rfl Try.underlying3 rfl rfl) rfl rfl ?_
      refine AL.val (Wanted.yes rfl rfl rfl) (g_binI rfl rfl rfl rfl) rfl rfl ?_
      refine AL.fast 2 rfl ?_
      refine AL.dec (t := 17) rfl (fun hb2 => ?_) (fun hb2 => ?_)
      ·
        have hb2' := hb2; try simp only [sumB, Bool.not_eq_true', Bool.not_eq_false', Bool.or_eq_true, Bool.or_eq_false_iff, Bool.and_eq_true, Bool.and_eq_false_imp, decide_eq_true_eq, decide_eq_false_iff_not, Bool.not_not, Bool.not_true, Bool.not_false] at hb2'
        refine AL.val (Wanted.yes rfl rfl rfl) (g_fieldP rfl rfl Try.underlying92 rfl sz41 (by decide)) rfl rfl ?_
        refine AL.val (Wanted.yes rfl rfl rfl) (g_loadBs rfl rfl rfl Try.underlying41 rfl sz41 rfl rfl) rfl rfl ?_
        refine AL.val (Wanted.yes rfl rfl rfl) (g_fieldP rfl rfl Try.underlying92 rfl sz41 (by decide)) rfl rfl ?_
        refine AL.val (Wanted.yes rfl rfl rfl) (g_loadBs rfl rfl rfl Try.underlying41 rfl sz41 rfl rfl) rfl rfl ?_
        refine AL.val (Wanted.yes rfl rfl rfl) (g_eql (cmp41 _ _ _ _ _ _) rfl rfl rfl rfl rfl rfl) rfl rfl ?_
        refine AL.fast 2 rfl ?_
        refine AL.dec (t := 24) rfl (fun hb3 => ?_) (fun hb3 => ?_)
        ·
          have hb3' := hb3; try simp only [sumB, Bool.not_eq_true', Bool.not_eq_false', Bool.or_eq_true, Bool.or_eq_false_iff, Bool.and_eq_true, Bool.and_eq_false_imp, decide_eq_true_eq, decide_eq_false_iff_not, Bool.not_not, Bool.not_true, Bool.not_false] at hb3'
          refine AL.val (Wanted.yes rfl rfl rfl) (g_fieldP rfl rfl Try.underlying92 rfl sz42 (by decide)) rfl rfl ?_
          refine AL.val (Wanted.yes rfl rfl rfl) (g_loadB rfl rfl rfl Try.underlying42 rfl rfl) rfl rfl ?_
          refine AL.val (Wanted.yes rfl rfl rfl) (g_fieldP rfl rfl Try.underlying92 rfl sz42 (by decide)) rfl rfl ?_
          refine AL.val (Wanted.yes rfl rfl rfl) (g_loadB rfl rfl rfl Try.underlying42 rfl rfl) rfl rfl ?_
          refine AL.call (n' := 2) (h' := [(1, (.box 92 [(cI b.money), (cI b.held), (cI b.pace.ticks), (cI b.pace.count), (cI b.pace.sum), (cR 2 ((b.uses).map rUse))])), (0, (.box 92 [(cI a.money), (cI a.held), (cI a.pace.ticks), (cI a.pace.count), (cI a.pace.sum), (cR 2 ((a.uses).map rUse))]))]) (Wanted.yes rfl rfl rfl) (g_call 2 (c_SameUses a.uses b.uses  r0 hr0) en42 rfl rfl ⟨⟨_, rfl, .c (.d _)⟩, ⟨_, rfl, .c (.d _)⟩,  trivial⟩ trivial trivial rfl rfl rfl rfl) rfl rfl rfl rfl rfl ?_
          refine AL.fast 2 rfl ?_
          refine AL.nil ?_
          refine then_ok ?_
          exact Weak.popB 30 rfl rfl (by first | (simp [hb1, hb2, hb3]; done) | (simp_all; done) | (exfalso; simp_all; done) | (simp_all; omega)) rfl
        ·
          have hb3' := hb3; try simp only [sumB, Bool.not_eq_true', Bool.not_eq_false', Bool.or_eq_true, Bool.or_eq_false_iff, Bool.and_eq_true, Bool.and_eq_false_imp, decide_eq_true_eq, decide_eq_false_iff_not, Bool.not_not, Bool.not_true, Bool.not_false] at hb3'
          refine AL.fast 7 rfl ?_
          refine AL.nil ?_
          refine then_ok ?_
          exact Weak.popB 30 rfl rfl (by first | (simp [hb1, hb2, hb3]; done) | (simp_all; done) | (exfalso; simp_all; done) | (simp_all; omega)) rfl
      ·
        have hb2' := hb2; try simp only [sumB, Bool.not_eq_true', Bool.not_eq_false', Bool.or_eq_true, Bool.or_eq_false_iff, Bool.and_eq_true, Bool.and_eq_false_imp, decide_eq_true_eq, decide_eq_false_iff_not, Bool.not_not, Bool.not_true, Bool.not_false] at hb2'
        refine AL.fast 14 rfl ?_
        refine AL.nil ?_
        refine then_ok ?_
        exact Weak.popB 29 rfl rfl (by first | (simp [hb1, hb2]; done) | (simp_all; done) | (exfalso; simp_all; done) | (simp_all; omega)) rfl
    ·
      have hb1' := hb1; try simp only [sumB, Bool.not_eq_true', Bool.not_eq_false', Bool.or_eq_true, Bool.or_eq_false_iff, Bool.and_eq_true, Bool.and_eq_false_imp, decide_eq_true_eq, decide_eq_false_iff_not, Bool.not_not, Bool.not_true, Bool.not_false] at hb1'
      refine AL.fast 21 rfl ?_
      refine AL.nil ?_
      refine then_ok ?_
      exact Weak.popB 28 rfl rfl (by first | (simp [hb1]; done) | (simp_all; done) | (exfalso; simp_all; done) | (simp_all; omega)) rfl
  ·
    refine AC.ret ?_
    have hX : sameC a b = ((((decide (a.money = b.money)) && (decide (a.held = b.held))) && (sameL [.int .i64 a.pace.ticks, .int .i64 a.pace.count, .int .i64 a.pace.sum] [.int .i64 b.pace.ticks, .int .i64 b.pace.count, .int .i64 b.pace.sum])) && r0) := by
      rw [sameC_is, hr0, pace_same]
    rw [hX] at hr; clear hX
    subst hr
    refine retQ_mk (av' := outOf [(.c (cB ((((decide (a.money = b.money)) && (decide (a.held = b.held))) && (sameL [.int .i64 a.pace.ticks, .int .i64 a.pace.count, .int .i64 a.pace.sum] [.int .i64 b.pace.ticks, .int .i64 b.pace.count, .int .i64 b.pace.sum])) && r0)))]) (nb' := []) (retQ_ret ⟨[(4, (aB ((((decide (a.money = b.money)) && (decide (a.held = b.held))) && (sameL [.int .i64 a.pace.ticks, .int .i64 a.pace.count, .int .i64 a.pace.sum] [.int .i64 b.pace.ticks, .int .i64 b.pace.count, .int .i64 b.pace.sum])) && r0)))], [], 0⟩ [.tmp 4] [(.c (cB ((((decide (a.money = b.money)) && (decide (a.held = b.held))) && (sameL [.int .i64 a.pace.ticks, .int .i64 a.pace.count, .int .i64 a.pace.sum] [.int .i64 b.pace.ticks, .int .i64 b.pace.count, .int .i64 b.pace.sum])) && r0)))] (Weak.ren id (⟨by first | rfl | (simp only [AV.map, GV.map, CV.map, AB.map', id]; done) | (congr 3; omega) | (congr 4; omega) | (simp only [List.length_append, List.length_cons, List.length_nil, List.length_set]; rfl),  trivial⟩) (trivial) rfl) rfl ⟨.tmp rfl, trivial⟩ trivial) ?_ ?_
    · first | rfl | (simp [outOf, aC]; done) | (simp [outOf, aC]; omega)
    · first | rfl | (simp; done) | (simp; omega)
end Go.Proofs.Ytgmcdlfmifijlaa.Dev
