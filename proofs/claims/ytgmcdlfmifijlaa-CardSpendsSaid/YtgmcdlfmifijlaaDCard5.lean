/- CardForced, CardSpends. -/
import Derived.Test.YtgmcdlfmifijlaaDCard4
set_option linter.unusedVariables false
set_option linter.unusedSimpArgs false
namespace Go.Proofs.Ytgmcdlfmifijlaa.Dev
open Go.RowKit

set_option maxRecDepth 100000 in
set_option maxHeartbeats 1000000 in
theorem c_CardForced (c : Card) (n : Int) : Fn Try.prog 19 [(.g [(cI c.money), (cI c.held), (cI c.pace.ticks), (cI c.pace.count), (cI c.pace.sum), (cR 2 ((c.uses).map rUse))]), (.c (cI n))] (aB true) [] := by
  refine Fn.mk' 37 [(0, (aG [(cI c.money), (cI c.held), (cI c.pace.ticks), (cI c.pace.count), (cI c.pace.sum), (cR 2 ((c.uses).map rUse))])), (1, (aI n))] Try.func19 rfl rfl rfl rfl ?_
  intro W0 T0
  refine AC.lenG 0 5 rfl rfl (fun hlen0_5 => ?_)
  have hrc := @rightC c
  have hrl := @rightC_len c
  refine AC.seq ?_
  refine AC.region ?_
  refine AL.new (n' := 1) (Wanted.plain rfl) (g_boxS 0 rfl rfl) rfl rfl rfl ?_
  refine AL.fast 1 rfl ?_
  refine AL.nil ?_
  refine then_ok ?_
  refine AC.seq ?_
  refine AC.seq ?_
  refine AC.region ?_
  refine AL.call (n' := 1) (h' := [(0, (.box 92 [(cI c.money), (cI c.held), (cI c.pace.ticks), (cI c.pace.count), (cI c.pace.sum), (cR 2 ((c.uses).map rUse))]))]) (Wanted.plain rfl) (g_call 1 (c_card_alive   ) en68 rfl rfl trivial trivial trivial rfl rfl rfl rfl) rfl rfl rfl rfl rfl ?_
  refine AL.val (Wanted.plain rfl) (g_notB rfl rfl) rfl rfl ?_
  refine AL.nil ?_
  refine then_ok ?_
  refine AC.cond rfl (fun hno => by cases hno) (fun _ => ?_)
  refine AC.skip ?_
  refine then_ok ?_
  refine AC.seq ?_
  refine AC.region ?_
  refine AL.val (Wanted.plain rfl) (g_loadBs rfl rfl rfl Try.underlying92 rfl sz92 rfl rfl) rfl rfl ?_
  refine AL.fast 1 rfl ?_
  obtain ⟨x0, e0, hr0⟩ : ∃ (x0 : Card) (e0 : Int), forceC c n = (x0, e0) := ⟨_, _, rfl⟩
  have hf0 := force_facts hr0
  have hg0 : e0 = 0 → c.held + n ≤ 1000000000000 ∧ 0 ≤ c.held ∧ 1 ≤ n ∧ n ≤ 1000000 := fun h => by have h1 := hf0.1 h; have h2 := rightC h1.1; omega
  refine AL.call (n' := 2) (h' := [(1, (.arr 44 2 ((x0.uses).map rUse))), (0, (.box 92 [(cI c.money), (cI c.held), (cI c.pace.ticks), (cI c.pace.count), (cI c.pace.sum), (cR 2 ((c.uses).map rUse))]))]) (Wanted.plain rfl) (g_call 1 (c_card_Force c n  x0 e0 hr0) en73 rfl rfl ⟨⟨_, rfl, .g ⟨.d _, .d _, .d _, .d _, .d _, .d _,  trivial⟩⟩, ⟨_, rfl, .c (.d _)⟩,  trivial⟩ ⟨⟨trivial, trivial, trivial, trivial, trivial, trivial,  trivial⟩, trivial,  trivial⟩ ⟨(fun _ _ _ _ => trivial),  trivial⟩ rfl rfl rfl rfl) rfl rfl rfl rfl rfl ?_
  refine AL.fast 1 rfl ?_
  refine AL.val (Wanted.plain rfl) (g_extract rfl rfl rfl) rfl rfl ?_
  refine AL.val (Wanted.plain rfl) (g_extract rfl rfl rfl) rfl rfl ?_
  refine AL.new (n' := 3) (Wanted.plain rfl) (g_alloc 2 rfl zv92 rfl rfl rfl) rfl rfl rfl ?_
  refine AL.sto (h' := [(2, (.box 92 [(cI x0.money), (cI x0.held), (cI x0.pace.ticks), (cI x0.pace.count), (cI x0.pace.sum), (.s 1 0 2 x0.uses.length)])), (1, (.arr 44 2 ((x0.uses).map rUse))), (0, (.box 92 [(cI c.money), (cI c.held), (cI c.pace.ticks), (cI c.pace.count), (cI c.pace.sum), (cR 2 ((c.uses).map rUse))]))]) (Wanted.plain rfl) (g_storeB rfl rfl rfl rfl rfl sz92 rfl (Nat.le_of_ble_eq_true rfl) rfl) rfl rfl rfl rfl ?_
  refine AL.fast 1 rfl ?_
  refine AL.nil ?_
  refine then_ok ?_
  refine AC.seq ?_
  refine AC.seq ?_
  refine AC.region ?_
  refine AL.fast 1 rfl ?_
  refine AL.val (Wanted.plain rfl) (g_binI rfl rfl rfl rfl) rfl rfl ?_
  refine AL.nil ?_
  refine then_ok ?_
  refine AC.cond rfl (fun hc2 => ?_) (fun hc2 => ?_)
  ·
    have hc2' := hc2; try simp only [sumB, Bool.not_eq_true', Bool.not_eq_false', Bool.or_eq_true, Bool.or_eq_false_iff, Bool.and_eq_true, Bool.and_eq_false_imp, decide_eq_true_eq, decide_eq_false_iff_not, Bool.not_not, Bool.not_true, Bool.not_false] at hc2'
    refine AC.seq ?_
    refine AC.region ?_
    refine AL.val (Wanted.plain rfl) (g_loadBs rfl rfl rfl Try.underlying92 rfl sz92 rfl rfl) rfl rfl ?_
    refine AL.val (Wanted.plain rfl) (g_build (ys := []) rfl bld92 rfl trivial rfl rfl) rfl rfl ?_
    obtain ⟨r1, hr1⟩ : ∃ (r1 : Bool), sameC x0 (⟨0, 0, (⟨0, 0, 0⟩ : Pace), []⟩ : Card) = r1 := ⟨_, rfl⟩
    refine AL.call (n' := 3) (h' := [(2, (.box 92 [(cI x0.money), (cI x0.held), (cI x0.pace.ticks), (cI x0.pace.count), (cI x0.pace.sum), (.s 1 0 2 x0.uses.length)])), (1, (.arr 44 2 ((x0.uses).map rUse))), (0, (.box 92 [(cI c.money), (cI c.held), (cI c.pace.ticks), (cI c.pace.count), (cI c.pace.sum), (cR 2 ((c.uses).map rUse))]))]) (Wanted.plain rfl) (g_callE 3 [1] (c_SameCard x0 (⟨0, 0, (⟨0, 0, 0⟩ : Pace), []⟩ : Card)  r1 hr1) en70 rfl rfl ⟨⟨_, rfl, .g ⟨.d _, .d _, .d _, .d _, .d _, .s rfl (by decide) (by first | omega | (simp; done) | (simp; omega)),  trivial⟩⟩, ⟨_, rfl, .g ⟨.d _, .d _, .d _, .d _, .d _, .nil _,  trivial⟩⟩,  trivial⟩ rfl trivial rfl rfl rfl rfl) rfl rfl rfl rfl rfl ?_
    refine AL.fast 1 rfl ?_
    refine AL.nil ?_
    refine then_ok ?_
    refine AC.ret ?_
    refine then_ret ?_
    refine retQ_mk (av' := outOf [(.c (cB r1))]) (nb' := []) (retQ_ret ⟨[(4, (aB r1))], [], 0⟩ [.tmp 4] [(.c (cB r1))] (Weak.ren id (⟨by first | rfl | (simp only [AV.map, GV.map, CV.map, AB.map', id]; done) | (congr 3; omega) | (congr 4; omega) | (simp only [List.length_append, List.length_cons, List.length_nil, List.length_set]; rfl),  trivial⟩) (trivial) rfl) rfl ⟨.tmp rfl, trivial⟩ trivial) ?_ ?_
    · exact congrArg aB (show (r1) = true by (have hx := hf0.2 (by omega); rw [hx, noC_def, sameC_self] at hr1; exact hr1.symm))
    · rfl
  ·
    have hc2' := hc2; try simp only [sumB, Bool.not_eq_true', Bool.not_eq_false', Bool.or_eq_true, Bool.or_eq_false_iff, Bool.and_eq_true, Bool.and_eq_false_imp, decide_eq_true_eq, decide_eq_false_iff_not, Bool.not_not, Bool.not_true, Bool.not_false] at hc2'
    refine AC.skip ?_
    refine then_ok ?_
    refine AC.seq ?_
    refine AC.region ?_
    refine AL.val (Wanted.plain rfl) (g_loadBs rfl rfl rfl Try.underlying92 rfl sz92 rfl rfl) rfl rfl ?_
    refine AL.new (n' := 4) (Wanted.plain rfl) (g_alloc 3 rfl zv92 rfl rfl rfl) rfl rfl rfl ?_
    refine AL.sto (h' := [(3, (.box 92 [(cI x0.money), (cI x0.held), (cI x0.pace.ticks), (cI x0.pace.count), (cI x0.pace.sum), (.s 1 0 2 x0.uses.length)])), (2, (.box 92 [(cI x0.money), (cI x0.held), (cI x0.pace.ticks), (cI x0.pace.count), (cI x0.pace.sum), (.s 1 0 2 x0.uses.length)])), (1, (.arr 44 2 ((x0.uses).map rUse))), (0, (.box 92 [(cI c.money), (cI c.held), (cI c.pace.ticks), (cI c.pace.count), (cI c.pace.sum), (cR 2 ((c.uses).map rUse))]))]) (Wanted.plain rfl) (g_storeB rfl rfl rfl rfl rfl sz92 rfl (Nat.le_of_ble_eq_true rfl) rfl) rfl rfl rfl rfl ?_
    refine AL.nil ?_
    refine then_ok ?_
    refine AC.seq ?_
    refine AC.region ?_
    refine AL.val (Wanted.plain rfl) (g_fieldP rfl rfl Try.underlying92 rfl sz3 (by decide)) rfl rfl ?_
    refine AL.val (Wanted.plain rfl) (g_loadB rfl rfl rfl Try.underlying3 rfl rfl) rfl rfl ?_
    refine AL.val (Wanted.plain rfl) (g_fieldP rfl rfl Try.underlying92 rfl sz3 (by decide)) rfl rfl ?_
    refine AL.sto (h' := [(3, (.box 92 [(cI x0.money), (cI c.held), (cI x0.pace.ticks), (cI x0.pace.count), (cI x0.pace.sum), (.s 1 0 2 x0.uses.length)])), (2, (.box 92 [(cI x0.money), (cI x0.held), (cI x0.pace.ticks), (cI x0.pace.count), (cI x0.pace.sum), (.s 1 0 2 x0.uses.length)])), (1, (.arr 44 2 ((x0.uses).map rUse))), (0, (.box 92 [(cI c.money), (cI c.held), (cI c.pace.ticks), (cI c.pace.count), (cI c.pace.sum), (cR 2 ((c.uses).map rUse))]))]) (Wanted.plain rfl) (g_storeB rfl rfl rfl rfl rfl sz3 rfl (Nat.le_of_ble_eq_true rfl) rfl) rfl rfl rfl rfl ?_
    refine AL.nil ?_
    refine then_ok ?_
    obtain ⟨r2, hr2⟩ : ∃ (r2 : Bool), sameC (⟨x0.money, c.held, x0.pace, x0.uses⟩ : Card) c = r2 := ⟨_, rfl⟩
    refine AC.cutB 4 ((decide (x0.held = (c.held + n))) && r2) ?_ ?_
    ·
      refine AC.region ?_
      refine AL.val (Wanted.plain rfl) (g_fieldP rfl rfl Try.underlying92 rfl sz3 (by decide)) rfl rfl ?_
      refine AL.val (Wanted.plain rfl) (g_loadB rfl rfl rfl Try.underlying3 rfl rfl) rfl rfl ?_
      refine AL.val (Wanted.plain rfl) (g_fieldP rfl rfl Try.underlying92 rfl sz3 (by decide)) rfl rfl ?_
      refine AL.val (Wanted.plain rfl) (g_loadB rfl rfl rfl Try.underlying3 rfl rfl) rfl rfl ?_
      refine AL.fast 1 rfl ?_
      refine AL.val (Wanted.plain rfl) (g_binI rfl rfl rfl (wrap_ok (by first | omega | (simp; done) | (simp; omega)))) rfl rfl ?_
      refine AL.val (Wanted.plain rfl) (g_binI rfl rfl rfl rfl) rfl rfl ?_
      refine AL.fast 1 rfl ?_
      refine AL.dec (t := 32) rfl (fun hb3 => ?_) (fun hb3 => ?_)
      ·
        have hb3' := hb3; try simp only [sumB, Bool.not_eq_true', Bool.not_eq_false', Bool.or_eq_true, Bool.or_eq_false_iff, Bool.and_eq_true, Bool.and_eq_false_imp, decide_eq_true_eq, decide_eq_false_iff_not, Bool.not_not, Bool.not_true, Bool.not_false] at hb3'
        refine AL.val (Wanted.yes rfl rfl rfl) (g_loadBs rfl rfl rfl Try.underlying92 rfl sz92 rfl rfl) rfl rfl ?_
        refine AL.val (Wanted.yes rfl rfl rfl) (g_loadBs rfl rfl rfl Try.underlying92 rfl sz92 rfl rfl) rfl rfl ?_
        refine AL.call (n' := 4) (h' := [(3, (.box 92 [(cI x0.money), (cI c.held), (cI x0.pace.ticks), (cI x0.pace.count), (cI x0.pace.sum), (.s 1 0 2 x0.uses.length)])), (2, (.box 92 [(cI x0.money), (cI x0.held), (cI x0.pace.ticks), (cI x0.pace.count), (cI x0.pace.sum), (.s 1 0 2 x0.uses.length)])), (1, (.arr 44 2 ((x0.uses).map rUse))), (0, (.box 92 [(cI c.money), (cI c.held), (cI c.pace.ticks), (cI c.pace.count), (cI c.pace.sum), (cR 2 ((c.uses).map rUse))]))]) (Wanted.yes rfl rfl rfl) (g_callE 4 [1] (c_SameCard (⟨x0.money, c.held, x0.pace, x0.uses⟩ : Card) c  r2 hr2) en70 rfl rfl ⟨⟨_, rfl, .g ⟨.d _, .d _, .d _, .d _, .d _, .s rfl (by decide) (by first | omega | (simp; done) | (simp; omega)),  trivial⟩⟩, ⟨_, rfl, .g ⟨.d _, .d _, .d _, .d _, .d _, .d _,  trivial⟩⟩,  trivial⟩ rfl trivial rfl rfl rfl rfl) rfl rfl rfl rfl rfl ?_
        refine AL.fast 2 rfl ?_
        refine AL.nil ?_
        refine then_ok ?_
        exact Weak.popB 14 rfl rfl (by first | (simp [hb3]; done) | (simp_all; done) | (exfalso; simp_all; done) | (simp_all; omega)) rfl
      ·
        have hb3' := hb3; try simp only [sumB, Bool.not_eq_true', Bool.not_eq_false', Bool.or_eq_true, Bool.or_eq_false_iff, Bool.and_eq_true, Bool.and_eq_false_imp, decide_eq_true_eq, decide_eq_false_iff_not, Bool.not_not, Bool.not_true, Bool.not_false] at hb3'
        refine AL.fast 5 rfl ?_
        refine AL.nil ?_
        refine then_ok ?_
        exact Weak.popB 14 rfl rfl (by first | (simp [hb3]; done) | (simp_all; done) | (exfalso; simp_all; done) | (simp_all; omega)) rfl
    ·
      refine AC.ret ?_
      refine retQ_mk (av' := outOf [(.c (cB ((decide (x0.held = (c.held + n))) && r2)))]) (nb' := []) (retQ_ret ⟨[(4, (aB ((decide (x0.held = (c.held + n))) && r2)))], [], 0⟩ [.tmp 4] [(.c (cB ((decide (x0.held = (c.held + n))) && r2)))] (Weak.ren id (⟨by first | rfl | (simp only [AV.map, GV.map, CV.map, AB.map', id]; done) | (congr 3; omega) | (congr 4; omega) | (simp only [List.length_append, List.length_cons, List.length_nil, List.length_set]; rfl),  trivial⟩) (trivial) rfl) rfl ⟨.tmp rfl, trivial⟩ trivial) ?_ ?_
      · exact congrArg aB (show ((decide (x0.held = (c.held + n))) && r2) = true by (obtain ⟨_, _, _, _, rfl⟩ := hf0.1 (by omega); have h9 : sameC c c = _ := hr2; rw [sameC_self] at h9; subst h9; simp))
      · rfl
set_option maxRecDepth 100000 in
set_option maxHeartbeats 1000000 in
theorem c_CardSpends (c : Card) (n time : Int) : Fn Try.prog 18 [(.g [(cI c.money), (cI c.held), (cI c.pace.ticks), (cI c.pace.count), (cI c.pace.sum), (cR 2 ((c.uses).map rUse))]), (.c (cI n)), (.c (cI time))] (aB true) [] := by
  refine Fn.mk' 63 [(0, (aG [(cI c.money), (cI c.held), (cI c.pace.ticks), (cI c.pace.count), (cI c.pace.sum), (cR 2 ((c.uses).map rUse))])), (1, (aI n)), (2, (aI time))] Try.func18 rfl rfl rfl rfl ?_
  intro W0 T0
  refine AC.lenG 0 5 rfl rfl (fun hlen0_5 => ?_)
  have hrc := @rightC c
  have hrl := @rightC_len c
  refine AC.seq ?_
  refine AC.region ?_
  refine AL.new (n' := 1) (Wanted.plain rfl) (g_boxS 0 rfl rfl) rfl rfl rfl ?_
  refine AL.fast 1 rfl ?_
  refine AL.nil ?_
  refine then_ok ?_
  refine AC.seq ?_
  refine AC.seq ?_
  refine AC.region ?_
  refine AL.call (n' := 1) (h' := [(0, (.box 92 [(cI c.money), (cI c.held), (cI c.pace.ticks), (cI c.pace.count), (cI c.pace.sum), (cR 2 ((c.uses).map rUse))]))]) (Wanted.plain rfl) (g_call 1 (c_card_alive   ) en68 rfl rfl trivial trivial trivial rfl rfl rfl rfl) rfl rfl rfl rfl rfl ?_
  refine AL.val (Wanted.plain rfl) (g_notB rfl rfl) rfl rfl ?_
  refine AL.nil ?_
  refine then_ok ?_
  refine AC.cond rfl (fun hno => by cases hno) (fun _ => ?_)
  refine AC.skip ?_
  refine then_ok ?_
  refine AC.seq ?_
  refine AC.region ?_
  refine AL.val (Wanted.plain rfl) (g_loadBs rfl rfl rfl Try.underlying92 rfl sz92 rfl rfl) rfl rfl ?_
  refine AL.fast 2 rfl ?_
  obtain ⟨x0, e0, hr0⟩ : ∃ (x0 : Card) (e0 : Int), allowC c n time = (x0, e0) := ⟨_, _, rfl⟩
  have hf0 := allow_facts hr0
  refine AL.call (n' := 2) (h' := [(1, (.arr 44 2 ((x0.uses).map rUse))), (0, (.box 92 [(cI c.money), (cI c.held), (cI c.pace.ticks), (cI c.pace.count), (cI c.pace.sum), (cR 2 ((c.uses).map rUse))]))]) (Wanted.plain rfl) (g_call 1 (c_card_Allow c n time  x0 e0 hr0) en69 rfl rfl ⟨⟨_, rfl, .g ⟨.d _, .d _, .d _, .d _, .d _, .d _,  trivial⟩⟩, ⟨_, rfl, .c (.d _)⟩, ⟨_, rfl, .c (.d _)⟩,  trivial⟩ ⟨⟨trivial, trivial, trivial, trivial, trivial, trivial,  trivial⟩, trivial,  trivial⟩ ⟨(fun _ _ _ _ => trivial),  trivial⟩ rfl rfl rfl rfl) rfl rfl rfl rfl rfl ?_
  refine AL.fast 1 rfl ?_
  refine AL.val (Wanted.plain rfl) (g_extract rfl rfl rfl) rfl rfl ?_
  refine AL.val (Wanted.plain rfl) (g_extract rfl rfl rfl) rfl rfl ?_
  refine AL.new (n' := 3) (Wanted.plain rfl) (g_alloc 2 rfl zv92 rfl rfl rfl) rfl rfl rfl ?_
  refine AL.sto (h' := [(2, (.box 92 [(cI x0.money), (cI x0.held), (cI x0.pace.ticks), (cI x0.pace.count), (cI x0.pace.sum), (.s 1 0 2 x0.uses.length)])), (1, (.arr 44 2 ((x0.uses).map rUse))), (0, (.box 92 [(cI c.money), (cI c.held), (cI c.pace.ticks), (cI c.pace.count), (cI c.pace.sum), (cR 2 ((c.uses).map rUse))]))]) (Wanted.plain rfl) (g_storeB rfl rfl rfl rfl rfl sz92 rfl (Nat.le_of_ble_eq_true rfl) rfl) rfl rfl rfl rfl ?_
  refine AL.fast 1 rfl ?_
  refine AL.nil ?_
  refine then_ok ?_
  refine AC.seq ?_
  refine AC.seq ?_
  refine AC.region ?_
  refine AL.fast 1 rfl ?_
  refine AL.val (Wanted.plain rfl) (g_binI rfl rfl rfl rfl) rfl rfl ?_
  refine AL.nil ?_
  refine then_ok ?_
  refine AC.cond rfl (fun hc2 => ?_) (fun hc2 => ?_)
  ·
    have hc2' := hc2; try simp only [sumB, Bool.not_eq_true', Bool.not_eq_false', Bool.or_eq_true, Bool.or_eq_false_iff, Bool.and_eq_true, Bool.and_eq_false_imp, decide_eq_true_eq, decide_eq_false_iff_not, Bool.not_not, Bool.not_true, Bool.not_false] at hc2'
    obtain ⟨r1, hr1⟩ : ∃ (r1 : Bool), sameC x0 (⟨0, 0, (⟨0, 0, 0⟩ : Pace), []⟩ : Card) = r1 := ⟨_, rfl⟩
    refine AC.cutB 6 (r1 && ((decide (¬ e0 = 10)) || (decide (n > (c.money - c.held))))) ?_ ?_
    ·
      refine AC.region ?_
      refine AL.val (Wanted.plain rfl) (g_loadBs rfl rfl rfl Try.underlying92 rfl sz92 rfl rfl) rfl rfl ?_
      refine AL.val (Wanted.plain rfl) (g_build (ys := []) rfl bld92 rfl trivial rfl rfl) rfl rfl ?_
      refine AL.call (n' := 3) (h' := [(2, (.box 92 [(cI x0.money), (cI x0.held), (cI x0.pace.ticks), (cI x0.pace.count), (cI x0.pace.sum), (.s 1 0 2 x0.uses.length)])), (1, (.arr 44 2 ((x0.uses).map rUse))), (0, (.box 92 [(cI c.money), (cI c.held), (cI c.pace.ticks), (cI c.pace.count), (cI c.pace.sum), (cR 2 ((c.uses).map rUse))]))]) (Wanted.plain rfl) (g_callE 3 [1] (c_SameCard x0 (⟨0, 0, (⟨0, 0, 0⟩ : Pace), []⟩ : Card)  r1 hr1) en70 rfl rfl ⟨⟨_, rfl, .g ⟨.d _, .d _, .d _, .d _, .d _, .s rfl (by decide) (by first | omega | (simp; done) | (simp; omega)),  trivial⟩⟩, ⟨_, rfl, .g ⟨.d _, .d _, .d _, .d _, .d _, .nil _,  trivial⟩⟩,  trivial⟩ rfl trivial rfl rfl rfl rfl) rfl rfl rfl rfl rfl ?_
      refine AL.fast 1 rfl ?_
      refine AL.dec (t := 23) rfl (fun hb3 => ?_) (fun hb3 => ?_)
      ·
        have hb3' := hb3; try simp only [sumB, Bool.not_eq_true', Bool.not_eq_false', Bool.or_eq_true, Bool.or_eq_false_iff, Bool.and_eq_true, Bool.and_eq_false_imp, decide_eq_true_eq, decide_eq_false_iff_not, Bool.not_not, Bool.not_true, Bool.not_false] at hb3'
        refine AL.fast 1 rfl ?_
        refine AL.val (Wanted.yes rfl rfl rfl) (g_binI rfl rfl rfl rfl) rfl rfl ?_
        refine AL.fast 1 rfl ?_
        refine AL.dec (t := 26) rfl (fun hb4 => ?_) (fun hb4 => ?_)
        ·
          have hb4' := hb4; try simp only [sumB, Bool.not_eq_true', Bool.not_eq_false', Bool.or_eq_true, Bool.or_eq_false_iff, Bool.and_eq_true, Bool.and_eq_false_imp, decide_eq_true_eq, decide_eq_false_iff_not, Bool.not_not, Bool.not_true, Bool.not_false] at hb4'
          refine AL.fast 7 rfl ?_
          refine AL.nil ?_
          refine then_ok ?_
          exact Weak.popB 16 rfl rfl (by first | (simp [hb3, hb4]; done) | (simp_all; done) | (exfalso; simp_all; done) | (simp_all; omega)) rfl
        ·
          have hb4' := hb4; try simp only [sumB, Bool.not_eq_true', Bool.not_eq_false', Bool.or_eq_true, Bool.or_eq_false_iff, Bool.and_eq_true, Bool.and_eq_false_imp, decide_eq_true_eq, decide_eq_false_iff_not, Bool.not_not, Bool.not_true, Bool.not_false] at hb4'
          refine AL.fast 1 rfl ?_
          refine AL.val (Wanted.yes rfl rfl rfl) (g_loadBs rfl rfl rfl Try.underlying92 rfl sz92 rfl rfl) rfl rfl ?_
          refine AL.call (n' := 3) (h' := [(2, (.box 92 [(cI x0.money), (cI x0.held), (cI x0.pace.ticks), (cI x0.pace.count), (cI x0.pace.sum), (.s 1 0 2 x0.uses.length)])), (1, (.arr 44 2 ((x0.uses).map rUse))), (0, (.box 92 [(cI c.money), (cI c.held), (cI c.pace.ticks), (cI c.pace.count), (cI c.pace.sum), (cR 2 ((c.uses).map rUse))]))]) (Wanted.yes rfl rfl rfl) (g_call 3 (c_card_Free c (by first | assumption | omega | (constructor <;> decide) | (have hz := rightC (by first | assumption | omega); omega)) ) en71 rfl rfl ⟨⟨_, rfl, .g ⟨.d _, .d _, .d _, .d _, .d _, .d _,  trivial⟩⟩,  trivial⟩ trivial trivial rfl rfl rfl rfl) rfl rfl rfl rfl rfl ?_
          refine AL.val (Wanted.yes rfl rfl rfl) (g_binI rfl rfl rfl rfl) rfl rfl ?_
          refine AL.fast 3 rfl ?_
          refine AL.nil ?_
          refine then_ok ?_
          exact Weak.popB 16 rfl rfl (by first | (simp [hb3, hb4]; done) | (simp_all; done) | (exfalso; simp_all; done) | (simp_all; omega)) rfl
      ·
        have hb3' := hb3; try simp only [sumB, Bool.not_eq_true', Bool.not_eq_false', Bool.or_eq_true, Bool.or_eq_false_iff, Bool.and_eq_true, Bool.and_eq_false_imp, decide_eq_true_eq, decide_eq_false_iff_not, Bool.not_not, Bool.not_true, Bool.not_false] at hb3'
        refine AL.fast 10 rfl ?_
        refine AL.nil ?_
        refine then_ok ?_
        exact Weak.popB 15 rfl rfl (by first | (simp [hb3]; done) | (simp_all; done) | (exfalso; simp_all; done) | (simp_all; omega)) rfl
    ·
      refine AC.ret ?_
      refine then_ret ?_
      refine retQ_mk (av' := outOf [(.c (cB (r1 && ((decide (¬ e0 = 10)) || (decide (n > (c.money - c.held)))))))]) (nb' := []) (retQ_ret ⟨[(6, (aB (r1 && ((decide (¬ e0 = 10)) || (decide (n > (c.money - c.held)))))))], [], 0⟩ [.tmp 6] [(.c (cB (r1 && ((decide (¬ e0 = 10)) || (decide (n > (c.money - c.held)))))))] (Weak.ren id (⟨by first | rfl | (simp only [AV.map, GV.map, CV.map, AB.map', id]; done) | (congr 3; omega) | (congr 4; omega) | (simp only [List.length_append, List.length_cons, List.length_nil, List.length_set]; rfl),  trivial⟩) (trivial) rfl) rfl ⟨.tmp rfl, trivial⟩ trivial) ?_ ?_
      · exact congrArg aB (show (r1 && ((decide (¬ e0 = 10)) || (decide (n > (c.money - c.held))))) = true by (have hx := hf0.2.2 (by omega); rw [hx, noC_def, sameC_self] at hr1; subst hr1; have h10 := hf0.2.1; simp only [Bool.true_and, Bool.or_eq_true, decide_eq_true_eq]; omega))
      · rfl
  ·
    have hc2' := hc2; try simp only [sumB, Bool.not_eq_true', Bool.not_eq_false', Bool.or_eq_true, Bool.or_eq_false_iff, Bool.and_eq_true, Bool.and_eq_false_imp, decide_eq_true_eq, decide_eq_false_iff_not, Bool.not_not, Bool.not_true, Bool.not_false] at hc2'
    refine AC.skip ?_
    refine then_ok ?_
    refine AC.seq ?_
    obtain ⟨e3, hr3⟩ : ∃ (e3 : Int), wrongC x0 = e3 := ⟨_, rfl⟩
    rcases Bool.eq_false_or_eq_true (decide (e3 = 0)) with hb5 | hb5
    ·
      have hb5' := hb5; try simp only [sumB, Bool.not_eq_true', Bool.not_eq_false', Bool.or_eq_true, Bool.or_eq_false_iff, Bool.and_eq_true, Bool.and_eq_false_imp, decide_eq_true_eq, decide_eq_false_iff_not, Bool.not_not, Bool.not_true, Bool.not_false] at hb5'
      rcases Bool.eq_false_or_eq_true (decide (n ≤ (c.money - c.held))) with hb6 | hb6
      ·
        have hb6' := hb6; try simp only [sumB, Bool.not_eq_true', Bool.not_eq_false', Bool.or_eq_true, Bool.or_eq_false_iff, Bool.and_eq_true, Bool.and_eq_false_imp, decide_eq_true_eq, decide_eq_false_iff_not, Bool.not_not, Bool.not_true, Bool.not_false] at hb6'
        rcases Bool.eq_false_or_eq_true (decide ((x0.money - x0.held) = ((c.money - c.held) - n))) with hb7 | hb7
        ·
          have hb7' := hb7; try simp only [sumB, Bool.not_eq_true', Bool.not_eq_false', Bool.or_eq_true, Bool.or_eq_false_iff, Bool.and_eq_true, Bool.and_eq_false_imp, decide_eq_true_eq, decide_eq_false_iff_not, Bool.not_not, Bool.not_true, Bool.not_false] at hb7'
          rcases Bool.eq_false_or_eq_true (decide ((x0.money - x0.held) ≥ 0)) with hb8 | hb8
          ·
            have hb8' := hb8; try simp only [sumB, Bool.not_eq_true', Bool.not_eq_false', Bool.or_eq_true, Bool.or_eq_false_iff, Bool.and_eq_true, Bool.and_eq_false_imp, decide_eq_true_eq, decide_eq_false_iff_not, Bool.not_not, Bool.not_true, Bool.not_false] at hb8'
            refine AC.weak (st' := ⟨[(1, (aI n)), (3, (aC (.p 0 0 0 0))), (7, (aC (.p 2 0 0 0)))], [(2, (.box 92 [(cI x0.money), (cI x0.held), (cI x0.pace.ticks), (cI x0.pace.count), (cI x0.pace.sum), (.s 1 0 2 x0.uses.length)])), (1, (.arr 44 2 ((x0.uses).map rUse))), (0, (.box 92 [(cI c.money), (cI c.held), (cI c.pace.ticks), (cI c.pace.count), (cI c.pace.sum), (cR 2 ((c.uses).map rUse))]))], 3⟩) (Weak.ren id (⟨by first | rfl | (simp only [AV.map, GV.map, CV.map, AB.map', id]; done) | (congr 3; omega) | (congr 4; omega) | (simp only [List.length_append, List.length_cons, List.length_nil, List.length_set]; rfl), by first | rfl | (simp only [AV.map, GV.map, CV.map, AB.map', id]; done) | (congr 3; omega) | (congr 4; omega) | (simp only [List.length_append, List.length_cons, List.length_nil, List.length_set]; rfl), by first | rfl | (simp only [AV.map, GV.map, CV.map, AB.map', id]; done) | (congr 3; omega) | (congr 4; omega) | (simp only [List.length_append, List.length_cons, List.length_nil, List.length_set]; rfl),  trivial⟩) (⟨by first | rfl | (simp only [AV.map, GV.map, CV.map, AB.map', id]; done) | (congr 3; omega) | (congr 4; omega) | (simp only [List.length_append, List.length_cons, List.length_nil, List.length_set]; rfl), by first | rfl | (simp only [AV.map, GV.map, CV.map, AB.map', id]; done) | (congr 3; omega) | (congr 4; omega) | (simp only [List.length_append, List.length_cons, List.length_nil, List.length_set]; rfl), by first | rfl | (simp only [AV.map, GV.map, CV.map, AB.map', id]; done) | (congr 3; omega) | (congr 4; omega) | (simp only [List.length_append, List.length_cons, List.length_nil, List.length_set]; rfl),  trivial⟩) rfl) ?_
            refine AC.draw [⟨some 33, (aG [(cI x0.money), (cI x0.held), (cI x0.pace.ticks), (cI x0.pace.count), (cI x0.pace.sum), (.s 1 0 2 x0.uses.length)]), [], [], [], [(7, (aC (.p 2 0 0 0)))], [(2, (.box 92 [(cI x0.money), (cI x0.held), (cI x0.pace.ticks), (cI x0.pace.count), (cI x0.pace.sum), (.s 1 0 2 x0.uses.length)]))]⟩,
      ⟨some 34, (aI e3), [], [], [0], [(33, (aG [(cI x0.money), (cI x0.held), (cI x0.pace.ticks), (cI x0.pace.count), (cI x0.pace.sum), (.s 1 0 2 x0.uses.length)]))], [(1, (.arr 44 2 ((x0.uses).map rUse)))]⟩,
      ⟨some 35, (aB true), [], [], [1], [(34, (aI e3))], []⟩,
      ⟨some 36, (aB true), [], [], [2], [(35, (aB true))], []⟩,
      ⟨some 37, (aI n), [], [], [3], [(1, (aI n)), (36, (aB true))], []⟩,
      ⟨some 38, (aG [(cI c.money), (cI c.held), (cI c.pace.ticks), (cI c.pace.count), (cI c.pace.sum), (cR 2 ((c.uses).map rUse))]), [], [], [3], [(3, (aC (.p 0 0 0 0))), (36, (aB true))], [(0, (.box 92 [(cI c.money), (cI c.held), (cI c.pace.ticks), (cI c.pace.count), (cI c.pace.sum), (cR 2 ((c.uses).map rUse))]))]⟩,
      ⟨some 39, (aI (c.money - c.held)), [], [], [3, 5], [(38, (aG [(cI c.money), (cI c.held), (cI c.pace.ticks), (cI c.pace.count), (cI c.pace.sum), (cR 2 ((c.uses).map rUse))])), (36, (aB true))], []⟩,
      ⟨some 40, (aB true), [], [], [3, 4, 6], [(37, (aI n)), (39, (aI (c.money - c.held))), (36, (aB true))], []⟩,
      ⟨some 41, (aB true), [], [], [3, 7], [(36, (aB true)), (40, (aB true))], []⟩,
      ⟨some 42, (aB true), [], [], [8], [(41, (aB true))], []⟩,
      ⟨some 43, (aG [(cI x0.money), (cI x0.held), (cI x0.pace.ticks), (cI x0.pace.count), (cI x0.pace.sum), (.s 1 0 2 x0.uses.length)]), [], [], [9], [(7, (aC (.p 2 0 0 0))), (42, (aB true))], [(2, (.box 92 [(cI x0.money), (cI x0.held), (cI x0.pace.ticks), (cI x0.pace.count), (cI x0.pace.sum), (.s 1 0 2 x0.uses.length)]))]⟩,
      ⟨some 44, (aI (x0.money - x0.held)), [], [], [9, 10], [(43, (aG [(cI x0.money), (cI x0.held), (cI x0.pace.ticks), (cI x0.pace.count), (cI x0.pace.sum), (.s 1 0 2 x0.uses.length)])), (42, (aB true))], [(1, (.arr 44 2 ((x0.uses).map rUse)))]⟩,
      ⟨some 45, (aG [(cI c.money), (cI c.held), (cI c.pace.ticks), (cI c.pace.count), (cI c.pace.sum), (cR 2 ((c.uses).map rUse))]), [], [], [9], [(3, (aC (.p 0 0 0 0))), (42, (aB true))], [(0, (.box 92 [(cI c.money), (cI c.held), (cI c.pace.ticks), (cI c.pace.count), (cI c.pace.sum), (cR 2 ((c.uses).map rUse))]))]⟩,
      ⟨some 46, (aI (c.money - c.held)), [], [], [9, 12], [(45, (aG [(cI c.money), (cI c.held), (cI c.pace.ticks), (cI c.pace.count), (cI c.pace.sum), (cR 2 ((c.uses).map rUse))])), (42, (aB true))], []⟩,
      ⟨some 47, (aI n), [], [], [9], [(1, (aI n)), (42, (aB true))], []⟩,
      ⟨some 48, (aI ((c.money - c.held) - n)), [], [], [9, 13, 14], [(46, (aI (c.money - c.held))), (47, (aI n)), (42, (aB true))], []⟩,
      ⟨some 49, (aB true), [], [], [9, 11, 15], [(44, (aI (x0.money - x0.held))), (48, (aI ((c.money - c.held) - n))), (42, (aB true))], []⟩,
      ⟨some 50, (aB true), [], [], [9, 16], [(42, (aB true)), (49, (aB true))], []⟩,
      ⟨some 51, (aB true), [], [], [17], [(50, (aB true))], []⟩,
      ⟨some 52, (aG [(cI x0.money), (cI x0.held), (cI x0.pace.ticks), (cI x0.pace.count), (cI x0.pace.sum), (.s 1 0 2 x0.uses.length)]), [], [], [18], [(7, (aC (.p 2 0 0 0))), (51, (aB true))], [(2, (.box 92 [(cI x0.money), (cI x0.held), (cI x0.pace.ticks), (cI x0.pace.count), (cI x0.pace.sum), (.s 1 0 2 x0.uses.length)]))]⟩,
      ⟨some 53, (aI (x0.money - x0.held)), [], [], [18, 19], [(52, (aG [(cI x0.money), (cI x0.held), (cI x0.pace.ticks), (cI x0.pace.count), (cI x0.pace.sum), (.s 1 0 2 x0.uses.length)])), (51, (aB true))], [(1, (.arr 44 2 ((x0.uses).map rUse)))]⟩,
      ⟨some 54, (aB true), [], [], [18, 20], [(53, (aI (x0.money - x0.held))), (51, (aB true))], []⟩,
      ⟨some 55, (aB true), [], [], [18, 21], [(51, (aB true)), (54, (aB true))], []⟩,
      ⟨some 56, (aB true), [], [], [22], [(55, (aB true))], []⟩,
      ⟨some 57, (aC (.p 2 0 0 0)), [], [], [23], [(7, (aC (.p 2 0 0 0))), (56, (aB true))], [(2, (.box 92 [(cI x0.money), (cI x0.held), (cI x0.pace.ticks), (cI x0.pace.count), (cI x0.pace.sum), (.s 1 0 2 x0.uses.length)]))]⟩,
      ⟨some 58, (aI x0.money), [], [], [23, 24], [(57, (aC (.p 2 0 0 0))), (56, (aB true))], [(2, (.box 92 [(cI x0.money), (cI x0.held), (cI x0.pace.ticks), (cI x0.pace.count), (cI x0.pace.sum), (.s 1 0 2 x0.uses.length)]))]⟩,
      ⟨some 59, (aC (.p 0 0 0 0)), [], [], [23], [(3, (aC (.p 0 0 0 0))), (56, (aB true))], [(0, (.box 92 [(cI c.money), (cI c.held), (cI c.pace.ticks), (cI c.pace.count), (cI c.pace.sum), (cR 2 ((c.uses).map rUse))]))]⟩,
      ⟨some 60, (aI c.money), [], [], [23, 26], [(59, (aC (.p 0 0 0 0))), (56, (aB true))], [(0, (.box 92 [(cI c.money), (cI c.held), (cI c.pace.ticks), (cI c.pace.count), (cI c.pace.sum), (cR 2 ((c.uses).map rUse))]))]⟩,
      ⟨some 61, (aB (decide (x0.money = c.money))), [], [], [23, 25, 27], [(58, (aI x0.money)), (60, (aI c.money)), (56, (aB true))], []⟩,
      ⟨some 62, (aB (decide (x0.money = c.money))), [], [], [23, 28], [(56, (aB true)), (61, (aB (decide (x0.money = c.money))))], []⟩,
      ⟨some 6, (aB (decide (x0.money = c.money))), [], [], [29], [(62, (aB (decide (x0.money = c.money))))], []⟩] ⟨[(1, (aI n)), (3, (aC (.p 0 0 0 0))), (7, (aC (.p 2 0 0 0))), (6, (aB (decide (x0.money = c.money))))], [(2, (.box 92 [(cI x0.money), (cI x0.held), (cI x0.pace.ticks), (cI x0.pace.count), (cI x0.pace.sum), (.s 1 0 2 x0.uses.length)])), (1, (.arr 44 2 ((x0.uses).map rUse))), (0, (.box 92 [(cI c.money), (cI c.held), (cI c.pace.ticks), (cI c.pace.count), (cI c.pace.sum), (cR 2 ((c.uses).map rUse))]))], 3⟩ mixed (by kernel_rfl) ?_ ?_ ?_ ?_
            · exact ⟨.inl ⟨(Wanted.plain rfl), GOp.cast (g_loadBs rfl rfl rfl Try.underlying92 rfl sz92 rfl rfl) rfl⟩,
      .inl ⟨(Wanted.plain rfl), GOp.cast (g_callE 3 [1] (c_card_Wrong x0  e3 hr3) en72 rfl rfl ⟨⟨_, rfl, .g ⟨.d _, .d _, .d _, .d _, .d _, .s rfl (by decide) (by first | omega | (simp; done) | (simp; omega)),  trivial⟩⟩,  trivial⟩ rfl trivial rfl rfl rfl rfl) rfl⟩,
      .inl ⟨(Wanted.plain rfl), GOp.cast (g_binI rfl rfl rfl (congrArg (fun b => some (Value.bool b)) hb5)) rfl⟩,
      .inl ⟨(Wanted.plain rfl), GOp.cast (g_move rfl rfl) rfl⟩,
      .inl ⟨(Wanted.yes rfl rfl rfl), GOp.cast (g_move rfl rfl) rfl⟩,
      .inl ⟨(Wanted.yes rfl rfl rfl), GOp.cast (g_loadBs rfl rfl rfl Try.underlying92 rfl sz92 rfl rfl) rfl⟩,
      .inl ⟨(Wanted.yes rfl rfl rfl), GOp.cast (g_call 3 (c_card_Free c (by first | assumption | omega | (constructor <;> decide) | (have hz := rightC (by first | assumption | omega); omega)) ) en71 rfl rfl ⟨⟨_, rfl, .g ⟨.d _, .d _, .d _, .d _, .d _, .d _,  trivial⟩⟩,  trivial⟩ trivial trivial rfl rfl rfl rfl) rfl⟩,
      .inl ⟨(Wanted.yes rfl rfl rfl), GOp.cast (g_binI rfl rfl rfl (congrArg (fun b => some (Value.bool b)) hb6)) rfl⟩,
      .inl ⟨(Wanted.plain rfl), GOp.cast (g_pick rfl rfl rfl) rfl⟩,
      .inl ⟨(Wanted.plain rfl), GOp.cast (g_move rfl rfl) rfl⟩,
      .inl ⟨(Wanted.yes rfl rfl rfl), GOp.cast (g_loadBs rfl rfl rfl Try.underlying92 rfl sz92 rfl rfl) rfl⟩,
      .inl ⟨(Wanted.yes rfl rfl rfl), GOp.cast (g_callE 3 [1] (c_card_Free x0 (by first | assumption | omega | (constructor <;> decide) | (have hz := rightC (by first | assumption | omega); omega)) ) en71 rfl rfl ⟨⟨_, rfl, .g ⟨.d _, .d _, .d _, .d _, .d _, .s rfl (by decide) (by first | omega | (simp; done) | (simp; omega)),  trivial⟩⟩,  trivial⟩ rfl trivial rfl rfl rfl rfl) rfl⟩,
      .inl ⟨(Wanted.yes rfl rfl rfl), GOp.cast (g_loadBs rfl rfl rfl Try.underlying92 rfl sz92 rfl rfl) rfl⟩,
      .inl ⟨(Wanted.yes rfl rfl rfl), GOp.cast (g_call 3 (c_card_Free c (by first | assumption | omega | (constructor <;> decide) | (have hz := rightC (by first | assumption | omega); omega)) ) en71 rfl rfl ⟨⟨_, rfl, .g ⟨.d _, .d _, .d _, .d _, .d _, .d _,  trivial⟩⟩,  trivial⟩ trivial trivial rfl rfl rfl rfl) rfl⟩,
      .inl ⟨(Wanted.yes rfl rfl rfl), GOp.cast (g_move rfl rfl) rfl⟩,
      .inl ⟨(Wanted.yes rfl rfl rfl), GOp.cast (g_binI rfl rfl rfl (wrap_ok (by first | omega | (simp; done) | (simp; omega)))) rfl⟩,
      .inl ⟨(Wanted.yes rfl rfl rfl), GOp.cast (g_binI rfl rfl rfl (congrArg (fun b => some (Value.bool b)) hb7)) rfl⟩,
      .inl ⟨(Wanted.plain rfl), GOp.cast (g_pick rfl rfl rfl) rfl⟩,
      .inl ⟨(Wanted.plain rfl), GOp.cast (g_move rfl rfl) rfl⟩,
      .inl ⟨(Wanted.yes rfl rfl rfl), GOp.cast (g_loadBs rfl rfl rfl Try.underlying92 rfl sz92 rfl rfl) rfl⟩,
      .inl ⟨(Wanted.yes rfl rfl rfl), GOp.cast (g_callE 3 [1] (c_card_Free x0 (by first | assumption | omega | (constructor <;> decide) | (have hz := rightC (by first | assumption | omega); omega)) ) en71 rfl rfl ⟨⟨_, rfl, .g ⟨.d _, .d _, .d _, .d _, .d _, .s rfl (by decide) (by first | omega | (simp; done) | (simp; omega)),  trivial⟩⟩,  trivial⟩ rfl trivial rfl rfl rfl rfl) rfl⟩,
      .inl ⟨(Wanted.yes rfl rfl rfl), GOp.cast (g_binI rfl rfl rfl (congrArg (fun b => some (Value.bool b)) hb8)) rfl⟩,
      .inl ⟨(Wanted.plain rfl), GOp.cast (g_pick rfl rfl rfl) rfl⟩,
      .inl ⟨(Wanted.plain rfl), GOp.cast (g_move rfl rfl) rfl⟩,
      .inl ⟨(Wanted.yes rfl rfl rfl), GOp.cast (g_fieldP rfl rfl Try.underlying92 rfl sz3 (by decide)) rfl⟩,
      .inl ⟨(Wanted.yes rfl rfl rfl), GOp.cast (g_loadB rfl rfl rfl Try.underlying3 rfl rfl) rfl⟩,
      .inl ⟨(Wanted.yes rfl rfl rfl), GOp.cast (g_fieldP rfl rfl Try.underlying92 rfl sz3 (by decide)) rfl⟩,
      .inl ⟨(Wanted.yes rfl rfl rfl), GOp.cast (g_loadB rfl rfl rfl Try.underlying3 rfl rfl) rfl⟩,
      .inl ⟨(Wanted.yes rfl rfl rfl), GOp.cast (g_binI rfl rfl rfl rfl) rfl⟩,
      .inl ⟨(Wanted.plain rfl), GOp.cast (g_pick rfl rfl rfl) rfl⟩,
      .inl ⟨(Wanted.plain rfl), GOp.cast (g_assign rfl rfl) rfl⟩,
       trivial⟩
            · exact ⟨⟨⟨.inl rfl,  trivial⟩, ⟨.inl rfl,  trivial⟩⟩, ⟨⟨.inr ⟨0, .head _, _, rfl, rfl, rfl⟩,  trivial⟩, ⟨.inl rfl,  trivial⟩⟩, ⟨⟨.inr ⟨1, .head _, _, rfl, rfl, rfl⟩,  trivial⟩, trivial⟩, ⟨⟨.inr ⟨2, .head _, _, rfl, rfl, rfl⟩,  trivial⟩, trivial⟩, ⟨⟨.inl rfl, .inr ⟨3, .head _, _, rfl, rfl, rfl⟩,  trivial⟩, trivial⟩, ⟨⟨.inl rfl, .inr ⟨3, .head _, _, rfl, rfl, rfl⟩,  trivial⟩, ⟨.inl rfl,  trivial⟩⟩, ⟨⟨.inr ⟨5, .tail _ (.head _), _, rfl, rfl, rfl⟩, .inr ⟨3, .head _, _, rfl, rfl, rfl⟩,  trivial⟩, trivial⟩, ⟨⟨.inr ⟨4, .tail _ (.head _), _, rfl, rfl, rfl⟩, .inr ⟨6, .tail _ (.tail _ (.head _)), _, rfl, rfl, rfl⟩, .inr ⟨3, .head _, _, rfl, rfl, rfl⟩,  trivial⟩, trivial⟩, ⟨⟨.inr ⟨3, .head _, _, rfl, rfl, rfl⟩, .inr ⟨7, .tail _ (.head _), _, rfl, rfl, rfl⟩,  trivial⟩, trivial⟩, ⟨⟨.inr ⟨8, .head _, _, rfl, rfl, rfl⟩,  trivial⟩, trivial⟩, ⟨⟨.inl rfl, .inr ⟨9, .head _, _, rfl, rfl, rfl⟩,  trivial⟩, ⟨.inl rfl,  trivial⟩⟩, ⟨⟨.inr ⟨10, .tail _ (.head _), _, rfl, rfl, rfl⟩, .inr ⟨9, .head _, _, rfl, rfl, rfl⟩,  trivial⟩, ⟨.inl rfl,  trivial⟩⟩, ⟨⟨.inl rfl, .inr ⟨9, .head _, _, rfl, rfl, rfl⟩,  trivial⟩, ⟨.inl rfl,  trivial⟩⟩, ⟨⟨.inr ⟨12, .tail _ (.head _), _, rfl, rfl, rfl⟩, .inr ⟨9, .head _, _, rfl, rfl, rfl⟩,  trivial⟩, trivial⟩, ⟨⟨.inl rfl, .inr ⟨9, .head _, _, rfl, rfl, rfl⟩,  trivial⟩, trivial⟩, ⟨⟨.inr ⟨13, .tail _ (.head _), _, rfl, rfl, rfl⟩, .inr ⟨14, .tail _ (.tail _ (.head _)), _, rfl, rfl, rfl⟩, .inr ⟨9, .head _, _, rfl, rfl, rfl⟩,  trivial⟩, trivial⟩, ⟨⟨.inr ⟨11, .tail _ (.head _), _, rfl, rfl, rfl⟩, .inr ⟨15, .tail _ (.tail _ (.head _)), _, rfl, rfl, rfl⟩, .inr ⟨9, .head _, _, rfl, rfl, rfl⟩,  trivial⟩, trivial⟩, ⟨⟨.inr ⟨9, .head _, _, rfl, rfl, rfl⟩, .inr ⟨16, .tail _ (.head _), _, rfl, rfl, rfl⟩,  trivial⟩, trivial⟩, ⟨⟨.inr ⟨17, .head _, _, rfl, rfl, rfl⟩,  trivial⟩, trivial⟩, ⟨⟨.inl rfl, .inr ⟨18, .head _, _, rfl, rfl, rfl⟩,  trivial⟩, ⟨.inl rfl,  trivial⟩⟩, ⟨⟨.inr ⟨19, .tail _ (.head _), _, rfl, rfl, rfl⟩, .inr ⟨18, .head _, _, rfl, rfl, rfl⟩,  trivial⟩, ⟨.inl rfl,  trivial⟩⟩, ⟨⟨.inr ⟨20, .tail _ (.head _), _, rfl, rfl, rfl⟩, .inr ⟨18, .head _, _, rfl, rfl, rfl⟩,  trivial⟩, trivial⟩, ⟨⟨.inr ⟨18, .head _, _, rfl, rfl, rfl⟩, .inr ⟨21, .tail _ (.head _), _, rfl, rfl, rfl⟩,  trivial⟩, trivial⟩, ⟨⟨.inr ⟨22, .head _, _, rfl, rfl, rfl⟩,  trivial⟩, trivial⟩, ⟨⟨.inl rfl, .inr ⟨23, .head _, _, rfl, rfl, rfl⟩,  trivial⟩, ⟨.inl rfl,  trivial⟩⟩, ⟨⟨.inr ⟨24, .tail _ (.head _), _, rfl, rfl, rfl⟩, .inr ⟨23, .head _, _, rfl, rfl, rfl⟩,  trivial⟩, ⟨.inl rfl,  trivial⟩⟩, ⟨⟨.inl rfl, .inr ⟨23, .head _, _, rfl, rfl, rfl⟩,  trivial⟩, ⟨.inl rfl,  trivial⟩⟩, ⟨⟨.inr ⟨26, .tail _ (.head _), _, rfl, rfl, rfl⟩, .inr ⟨23, .head _, _, rfl, rfl, rfl⟩,  trivial⟩, ⟨.inl rfl,  trivial⟩⟩, ⟨⟨.inr ⟨25, .tail _ (.head _), _, rfl, rfl, rfl⟩, .inr ⟨27, .tail _ (.tail _ (.head _)), _, rfl, rfl, rfl⟩, .inr ⟨23, .head _, _, rfl, rfl, rfl⟩,  trivial⟩, trivial⟩, ⟨⟨.inr ⟨23, .head _, _, rfl, rfl, rfl⟩, .inr ⟨28, .tail _ (.head _), _, rfl, rfl, rfl⟩,  trivial⟩, trivial⟩, ⟨⟨.inr ⟨29, .head _, _, rfl, rfl, rfl⟩,  trivial⟩, trivial⟩,  trivial⟩
            · exact ⟨⟨.inl rfl, .inl rfl, .inl rfl, .inr ⟨30, _, rfl, rfl, rfl⟩,  trivial⟩, ⟨.inl rfl, .inl rfl, .inl rfl,  trivial⟩⟩
            ·
              refine AL.nil ?_
              refine then_ok ?_
              refine AC.ret ?_
              refine retQ_mk (av' := outOf [(.c (cB (decide (x0.money = c.money))))]) (nb' := []) (retQ_ret ⟨[(6, (aB (decide (x0.money = c.money))))], [], 0⟩ [.tmp 6] [(.c (cB (decide (x0.money = c.money))))] (Weak.ren id (⟨by first | rfl | (simp only [AV.map, GV.map, CV.map, AB.map', id]; done) | (congr 3; omega) | (congr 4; omega) | (simp only [List.length_append, List.length_cons, List.length_nil, List.length_set]; rfl),  trivial⟩) (trivial) rfl) rfl ⟨.tmp rfl, trivial⟩ trivial) ?_ ?_
              · exact congrArg aB (show (decide (x0.money = c.money)) = true by (have hz := hf0.1 (by omega); first | (exfalso; omega) | (simp only [decide_eq_true_eq]; omega)))
              · rfl
          ·
            have hb8' := hb8; try simp only [sumB, Bool.not_eq_true', Bool.not_eq_false', Bool.or_eq_true, Bool.or_eq_false_iff, Bool.and_eq_true, Bool.and_eq_false_imp, decide_eq_true_eq, decide_eq_false_iff_not, Bool.not_not, Bool.not_true, Bool.not_false] at hb8'
            refine AC.weak (st' := ⟨[(1, (aI n)), (3, (aC (.p 0 0 0 0))), (7, (aC (.p 2 0 0 0)))], [(2, (.box 92 [(cI x0.money), (cI x0.held), (cI x0.pace.ticks), (cI x0.pace.count), (cI x0.pace.sum), (.s 1 0 2 x0.uses.length)])), (1, (.arr 44 2 ((x0.uses).map rUse))), (0, (.box 92 [(cI c.money), (cI c.held), (cI c.pace.ticks), (cI c.pace.count), (cI c.pace.sum), (cR 2 ((c.uses).map rUse))]))], 3⟩) (Weak.ren id (⟨by first | rfl | (simp only [AV.map, GV.map, CV.map, AB.map', id]; done) | (congr 3; omega) | (congr 4; omega) | (simp only [List.length_append, List.length_cons, List.length_nil, List.length_set]; rfl), by first | rfl | (simp only [AV.map, GV.map, CV.map, AB.map', id]; done) | (congr 3; omega) | (congr 4; omega) | (simp only [List.length_append, List.length_cons, List.length_nil, List.length_set]; rfl), by first | rfl | (simp only [AV.map, GV.map, CV.map, AB.map', id]; done) | (congr 3; omega) | (congr 4; omega) | (simp only [List.length_append, List.length_cons, List.length_nil, List.length_set]; rfl),  trivial⟩) (⟨by first | rfl | (simp only [AV.map, GV.map, CV.map, AB.map', id]; done) | (congr 3; omega) | (congr 4; omega) | (simp only [List.length_append, List.length_cons, List.length_nil, List.length_set]; rfl), by first | rfl | (simp only [AV.map, GV.map, CV.map, AB.map', id]; done) | (congr 3; omega) | (congr 4; omega) | (simp only [List.length_append, List.length_cons, List.length_nil, List.length_set]; rfl), by first | rfl | (simp only [AV.map, GV.map, CV.map, AB.map', id]; done) | (congr 3; omega) | (congr 4; omega) | (simp only [List.length_append, List.length_cons, List.length_nil, List.length_set]; rfl),  trivial⟩) rfl) ?_
            refine AC.draw [⟨some 33, (aG [(cI x0.money), (cI x0.held), (cI x0.pace.ticks), (cI x0.pace.count), (cI x0.pace.sum), (.s 1 0 2 x0.uses.length)]), [], [], [], [(7, (aC (.p 2 0 0 0)))], [(2, (.box 92 [(cI x0.money), (cI x0.held), (cI x0.pace.ticks), (cI x0.pace.count), (cI x0.pace.sum), (.s 1 0 2 x0.uses.length)]))]⟩,
      ⟨some 34, (aI e3), [], [], [0], [(33, (aG [(cI x0.money), (cI x0.held), (cI x0.pace.ticks), (cI x0.pace.count), (cI x0.pace.sum), (.s 1 0 2 x0.uses.length)]))], [(1, (.arr 44 2 ((x0.uses).map rUse)))]⟩,
      ⟨some 35, (aB true), [], [], [1], [(34, (aI e3))], []⟩,
      ⟨some 36, (aB true), [], [], [2], [(35, (aB true))], []⟩,
      ⟨some 37, (aI n), [], [], [3], [(1, (aI n)), (36, (aB true))], []⟩,
      ⟨some 38, (aG [(cI c.money), (cI c.held), (cI c.pace.ticks), (cI c.pace.count), (cI c.pace.sum), (cR 2 ((c.uses).map rUse))]), [], [], [3], [(3, (aC (.p 0 0 0 0))), (36, (aB true))], [(0, (.box 92 [(cI c.money), (cI c.held), (cI c.pace.ticks), (cI c.pace.count), (cI c.pace.sum), (cR 2 ((c.uses).map rUse))]))]⟩,
      ⟨some 39, (aI (c.money - c.held)), [], [], [3, 5], [(38, (aG [(cI c.money), (cI c.held), (cI c.pace.ticks), (cI c.pace.count), (cI c.pace.sum), (cR 2 ((c.uses).map rUse))])), (36, (aB true))], []⟩,
      ⟨some 40, (aB true), [], [], [3, 4, 6], [(37, (aI n)), (39, (aI (c.money - c.held))), (36, (aB true))], []⟩,
      ⟨some 41, (aB true), [], [], [3, 7], [(36, (aB true)), (40, (aB true))], []⟩,
      ⟨some 42, (aB true), [], [], [8], [(41, (aB true))], []⟩,
      ⟨some 43, (aG [(cI x0.money), (cI x0.held), (cI x0.pace.ticks), (cI x0.pace.count), (cI x0.pace.sum), (.s 1 0 2 x0.uses.length)]), [], [], [9], [(7, (aC (.p 2 0 0 0))), (42, (aB true))], [(2, (.box 92 [(cI x0.money), (cI x0.held), (cI x0.pace.ticks), (cI x0.pace.count), (cI x0.pace.sum), (.s 1 0 2 x0.uses.length)]))]⟩,
      ⟨some 44, (aI (x0.money - x0.held)), [], [], [9, 10], [(43, (aG [(cI x0.money), (cI x0.held), (cI x0.pace.ticks), (cI x0.pace.count), (cI x0.pace.sum), (.s 1 0 2 x0.uses.length)])), (42, (aB true))], [(1, (.arr 44 2 ((x0.uses).map rUse)))]⟩,
      ⟨some 45, (aG [(cI c.money), (cI c.held), (cI c.pace.ticks), (cI c.pace.count), (cI c.pace.sum), (cR 2 ((c.uses).map rUse))]), [], [], [9], [(3, (aC (.p 0 0 0 0))), (42, (aB true))], [(0, (.box 92 [(cI c.money), (cI c.held), (cI c.pace.ticks), (cI c.pace.count), (cI c.pace.sum), (cR 2 ((c.uses).map rUse))]))]⟩,
      ⟨some 46, (aI (c.money - c.held)), [], [], [9, 12], [(45, (aG [(cI c.money), (cI c.held), (cI c.pace.ticks), (cI c.pace.count), (cI c.pace.sum), (cR 2 ((c.uses).map rUse))])), (42, (aB true))], []⟩,
      ⟨some 47, (aI n), [], [], [9], [(1, (aI n)), (42, (aB true))], []⟩,
      ⟨some 48, (aI ((c.money - c.held) - n)), [], [], [9, 13, 14], [(46, (aI (c.money - c.held))), (47, (aI n)), (42, (aB true))], []⟩,
      ⟨some 49, (aB true), [], [], [9, 11, 15], [(44, (aI (x0.money - x0.held))), (48, (aI ((c.money - c.held) - n))), (42, (aB true))], []⟩,
      ⟨some 50, (aB true), [], [], [9, 16], [(42, (aB true)), (49, (aB true))], []⟩,
      ⟨some 51, (aB true), [], [], [17], [(50, (aB true))], []⟩,
      ⟨some 52, (aG [(cI x0.money), (cI x0.held), (cI x0.pace.ticks), (cI x0.pace.count), (cI x0.pace.sum), (.s 1 0 2 x0.uses.length)]), [], [], [18], [(7, (aC (.p 2 0 0 0))), (51, (aB true))], [(2, (.box 92 [(cI x0.money), (cI x0.held), (cI x0.pace.ticks), (cI x0.pace.count), (cI x0.pace.sum), (.s 1 0 2 x0.uses.length)]))]⟩,
      ⟨some 53, (aI (x0.money - x0.held)), [], [], [18, 19], [(52, (aG [(cI x0.money), (cI x0.held), (cI x0.pace.ticks), (cI x0.pace.count), (cI x0.pace.sum), (.s 1 0 2 x0.uses.length)])), (51, (aB true))], [(1, (.arr 44 2 ((x0.uses).map rUse)))]⟩,
      ⟨some 54, (aB false), [], [], [18, 20], [(53, (aI (x0.money - x0.held))), (51, (aB true))], []⟩,
      ⟨some 55, (aB false), [], [], [18, 21], [(51, (aB true)), (54, (aB false))], []⟩,
      ⟨some 56, (aB false), [], [], [22], [(55, (aB false))], []⟩,
      ⟨some 57, (.t []), [], [], [23], [(7, (aC (.p 2 0 0 0))), (56, (aB false))], []⟩,
      ⟨some 58, (.t []), [], [], [23, 24], [(57, (.t [])), (56, (aB false))], []⟩,
      ⟨some 59, (.t []), [], [], [23], [(3, (aC (.p 0 0 0 0))), (56, (aB false))], []⟩,
      ⟨some 60, (.t []), [], [], [23, 26], [(59, (.t [])), (56, (aB false))], []⟩,
      ⟨some 61, (.t []), [], [], [23, 25, 27], [(58, (.t [])), (60, (.t [])), (56, (aB false))], []⟩,
      ⟨some 62, (aB false), [], [], [23, 28], [(56, (aB false)), (61, (.t []))], []⟩,
      ⟨some 6, (aB false), [], [], [29], [(62, (aB false))], []⟩] ⟨[(1, (aI n)), (3, (aC (.p 0 0 0 0))), (7, (aC (.p 2 0 0 0))), (6, (aB false))], [(2, (.box 92 [(cI x0.money), (cI x0.held), (cI x0.pace.ticks), (cI x0.pace.count), (cI x0.pace.sum), (.s 1 0 2 x0.uses.length)])), (1, (.arr 44 2 ((x0.uses).map rUse))), (0, (.box 92 [(cI c.money), (cI c.held), (cI c.pace.ticks), (cI c.pace.count), (cI c.pace.sum), (cR 2 ((c.uses).map rUse))]))], 3⟩ mixed (by kernel_rfl) ?_ ?_ ?_ ?_
            · exact ⟨.inl ⟨(Wanted.plain rfl), GOp.cast (g_loadBs rfl rfl rfl Try.underlying92 rfl sz92 rfl rfl) rfl⟩,
      .inl ⟨(Wanted.plain rfl), GOp.cast (g_callE 3 [1] (c_card_Wrong x0  e3 hr3) en72 rfl rfl ⟨⟨_, rfl, .g ⟨.d _, .d _, .d _, .d _, .d _, .s rfl (by decide) (by first | omega | (simp; done) | (simp; omega)),  trivial⟩⟩,  trivial⟩ rfl trivial rfl rfl rfl rfl) rfl⟩,
      .inl ⟨(Wanted.plain rfl), GOp.cast (g_binI rfl rfl rfl (congrArg (fun b => some (Value.bool b)) hb5)) rfl⟩,
      .inl ⟨(Wanted.plain rfl), GOp.cast (g_move rfl rfl) rfl⟩,
      .inl ⟨(Wanted.yes rfl rfl rfl), GOp.cast (g_move rfl rfl) rfl⟩,
      .inl ⟨(Wanted.yes rfl rfl rfl), GOp.cast (g_loadBs rfl rfl rfl Try.underlying92 rfl sz92 rfl rfl) rfl⟩,
      .inl ⟨(Wanted.yes rfl rfl rfl), GOp.cast (g_call 3 (c_card_Free c (by first | assumption | omega | (constructor <;> decide) | (have hz := rightC (by first | assumption | omega); omega)) ) en71 rfl rfl ⟨⟨_, rfl, .g ⟨.d _, .d _, .d _, .d _, .d _, .d _,  trivial⟩⟩,  trivial⟩ trivial trivial rfl rfl rfl rfl) rfl⟩,
      .inl ⟨(Wanted.yes rfl rfl rfl), GOp.cast (g_binI rfl rfl rfl (congrArg (fun b => some (Value.bool b)) hb6)) rfl⟩,
      .inl ⟨(Wanted.plain rfl), GOp.cast (g_pick rfl rfl rfl) rfl⟩,
      .inl ⟨(Wanted.plain rfl), GOp.cast (g_move rfl rfl) rfl⟩,
      .inl ⟨(Wanted.yes rfl rfl rfl), GOp.cast (g_loadBs rfl rfl rfl Try.underlying92 rfl sz92 rfl rfl) rfl⟩,
      .inl ⟨(Wanted.yes rfl rfl rfl), GOp.cast (g_callE 3 [1] (c_card_Free x0 (by first | assumption | omega | (constructor <;> decide) | (have hz := rightC (by first | assumption | omega); omega)) ) en71 rfl rfl ⟨⟨_, rfl, .g ⟨.d _, .d _, .d _, .d _, .d _, .s rfl (by decide) (by first | omega | (simp; done) | (simp; omega)),  trivial⟩⟩,  trivial⟩ rfl trivial rfl rfl rfl rfl) rfl⟩,
      .inl ⟨(Wanted.yes rfl rfl rfl), GOp.cast (g_loadBs rfl rfl rfl Try.underlying92 rfl sz92 rfl rfl) rfl⟩,
      .inl ⟨(Wanted.yes rfl rfl rfl), GOp.cast (g_call 3 (c_card_Free c (by first | assumption | omega | (constructor <;> decide) | (have hz := rightC (by first | assumption | omega); omega)) ) en71 rfl rfl ⟨⟨_, rfl, .g ⟨.d _, .d _, .d _, .d _, .d _, .d _,  trivial⟩⟩,  trivial⟩ trivial trivial rfl rfl rfl rfl) rfl⟩,
      .inl ⟨(Wanted.yes rfl rfl rfl), GOp.cast (g_move rfl rfl) rfl⟩,
      .inl ⟨(Wanted.yes rfl rfl rfl), GOp.cast (g_binI rfl rfl rfl (wrap_ok (by first | omega | (simp; done) | (simp; omega)))) rfl⟩,
      .inl ⟨(Wanted.yes rfl rfl rfl), GOp.cast (g_binI rfl rfl rfl (congrArg (fun b => some (Value.bool b)) hb7)) rfl⟩,
      .inl ⟨(Wanted.plain rfl), GOp.cast (g_pick rfl rfl rfl) rfl⟩,
      .inl ⟨(Wanted.plain rfl), GOp.cast (g_move rfl rfl) rfl⟩,
      .inl ⟨(Wanted.yes rfl rfl rfl), GOp.cast (g_loadBs rfl rfl rfl Try.underlying92 rfl sz92 rfl rfl) rfl⟩,
      .inl ⟨(Wanted.yes rfl rfl rfl), GOp.cast (g_callE 3 [1] (c_card_Free x0 (by first | assumption | omega | (constructor <;> decide) | (have hz := rightC (by first | assumption | omega); omega)) ) en71 rfl rfl ⟨⟨_, rfl, .g ⟨.d _, .d _, .d _, .d _, .d _, .s rfl (by decide) (by first | omega | (simp; done) | (simp; omega)),  trivial⟩⟩,  trivial⟩ rfl trivial rfl rfl rfl rfl) rfl⟩,
      .inl ⟨(Wanted.yes rfl rfl rfl), GOp.cast (g_binI rfl rfl rfl (congrArg (fun b => some (Value.bool b)) hb8)) rfl⟩,
      .inl ⟨(Wanted.plain rfl), GOp.cast (g_pick rfl rfl rfl) rfl⟩,
      .inl ⟨(Wanted.plain rfl), GOp.cast (g_move rfl rfl) rfl⟩,
      .inr ⟨(Unwanted.no rfl rfl rfl), rfl, rfl, rfl⟩,
      .inr ⟨(Unwanted.no rfl rfl rfl), rfl, rfl, rfl⟩,
      .inr ⟨(Unwanted.no rfl rfl rfl), rfl, rfl, rfl⟩,
      .inr ⟨(Unwanted.no rfl rfl rfl), rfl, rfl, rfl⟩,
      .inr ⟨(Unwanted.no rfl rfl rfl), rfl, rfl, rfl⟩,
      .inl ⟨(Wanted.plain rfl), GOp.cast (g_pick rfl rfl rfl) rfl⟩,
      .inl ⟨(Wanted.plain rfl), GOp.cast (g_assign rfl rfl) rfl⟩,
       trivial⟩
            · exact ⟨⟨⟨.inl rfl,  trivial⟩, ⟨.inl rfl,  trivial⟩⟩, ⟨⟨.inr ⟨0, .head _, _, rfl, rfl, rfl⟩,  trivial⟩, ⟨.inl rfl,  trivial⟩⟩, ⟨⟨.inr ⟨1, .head _, _, rfl, rfl, rfl⟩,  trivial⟩, trivial⟩, ⟨⟨.inr ⟨2, .head _, _, rfl, rfl, rfl⟩,  trivial⟩, trivial⟩, ⟨⟨.inl rfl, .inr ⟨3, .head _, _, rfl, rfl, rfl⟩,  trivial⟩, trivial⟩, ⟨⟨.inl rfl, .inr ⟨3, .head _, _, rfl, rfl, rfl⟩,  trivial⟩, ⟨.inl rfl,  trivial⟩⟩, ⟨⟨.inr ⟨5, .tail _ (.head _), _, rfl, rfl, rfl⟩, .inr ⟨3, .head _, _, rfl, rfl, rfl⟩,  trivial⟩, trivial⟩, ⟨⟨.inr ⟨4, .tail _ (.head _), _, rfl, rfl, rfl⟩, .inr ⟨6, .tail _ (.tail _ (.head _)), _, rfl, rfl, rfl⟩, .inr ⟨3, .head _, _, rfl, rfl, rfl⟩,  trivial⟩, trivial⟩, ⟨⟨.inr ⟨3, .head _, _, rfl, rfl, rfl⟩, .inr ⟨7, .tail _ (.head _), _, rfl, rfl, rfl⟩,  trivial⟩, trivial⟩, ⟨⟨.inr ⟨8, .head _, _, rfl, rfl, rfl⟩,  trivial⟩, trivial⟩, ⟨⟨.inl rfl, .inr ⟨9, .head _, _, rfl, rfl, rfl⟩,  trivial⟩, ⟨.inl rfl,  trivial⟩⟩, ⟨⟨.inr ⟨10, .tail _ (.head _), _, rfl, rfl, rfl⟩, .inr ⟨9, .head _, _, rfl, rfl, rfl⟩,  trivial⟩, ⟨.inl rfl,  trivial⟩⟩, ⟨⟨.inl rfl, .inr ⟨9, .head _, _, rfl, rfl, rfl⟩,  trivial⟩, ⟨.inl rfl,  trivial⟩⟩, ⟨⟨.inr ⟨12, .tail _ (.head _), _, rfl, rfl, rfl⟩, .inr ⟨9, .head _, _, rfl, rfl, rfl⟩,  trivial⟩, trivial⟩, ⟨⟨.inl rfl, .inr ⟨9, .head _, _, rfl, rfl, rfl⟩,  trivial⟩, trivial⟩, ⟨⟨.inr ⟨13, .tail _ (.head _), _, rfl, rfl, rfl⟩, .inr ⟨14, .tail _ (.tail _ (.head _)), _, rfl, rfl, rfl⟩, .inr ⟨9, .head _, _, rfl, rfl, rfl⟩,  trivial⟩, trivial⟩, ⟨⟨.inr ⟨11, .tail _ (.head _), _, rfl, rfl, rfl⟩, .inr ⟨15, .tail _ (.tail _ (.head _)), _, rfl, rfl, rfl⟩, .inr ⟨9, .head _, _, rfl, rfl, rfl⟩,  trivial⟩, trivial⟩, ⟨⟨.inr ⟨9, .head _, _, rfl, rfl, rfl⟩, .inr ⟨16, .tail _ (.head _), _, rfl, rfl, rfl⟩,  trivial⟩, trivial⟩, ⟨⟨.inr ⟨17, .head _, _, rfl, rfl, rfl⟩,  trivial⟩, trivial⟩, ⟨⟨.inl rfl, .inr ⟨18, .head _, _, rfl, rfl, rfl⟩,  trivial⟩, ⟨.inl rfl,  trivial⟩⟩, ⟨⟨.inr ⟨19, .tail _ (.head _), _, rfl, rfl, rfl⟩, .inr ⟨18, .head _, _, rfl, rfl, rfl⟩,  trivial⟩, ⟨.inl rfl,  trivial⟩⟩, ⟨⟨.inr ⟨20, .tail _ (.head _), _, rfl, rfl, rfl⟩, .inr ⟨18, .head _, _, rfl, rfl, rfl⟩,  trivial⟩, trivial⟩, ⟨⟨.inr ⟨18, .head _, _, rfl, rfl, rfl⟩, .inr ⟨21, .tail _ (.head _), _, rfl, rfl, rfl⟩,  trivial⟩, trivial⟩, ⟨⟨.inr ⟨22, .head _, _, rfl, rfl, rfl⟩,  trivial⟩, trivial⟩, ⟨⟨.inl rfl, .inr ⟨23, .head _, _, rfl, rfl, rfl⟩,  trivial⟩, trivial⟩, ⟨⟨.inr ⟨24, .tail _ (.head _), _, rfl, rfl, rfl⟩, .inr ⟨23, .head _, _, rfl, rfl, rfl⟩,  trivial⟩, trivial⟩, ⟨⟨.inl rfl, .inr ⟨23, .head _, _, rfl, rfl, rfl⟩,  trivial⟩, trivial⟩, ⟨⟨.inr ⟨26, .tail _ (.head _), _, rfl, rfl, rfl⟩, .inr ⟨23, .head _, _, rfl, rfl, rfl⟩,  trivial⟩, trivial⟩, ⟨⟨.inr ⟨25, .tail _ (.head _), _, rfl, rfl, rfl⟩, .inr ⟨27, .tail _ (.tail _ (.head _)), _, rfl, rfl, rfl⟩, .inr ⟨23, .head _, _, rfl, rfl, rfl⟩,  trivial⟩, trivial⟩, ⟨⟨.inr ⟨23, .head _, _, rfl, rfl, rfl⟩, .inr ⟨28, .tail _ (.head _), _, rfl, rfl, rfl⟩,  trivial⟩, trivial⟩, ⟨⟨.inr ⟨29, .head _, _, rfl, rfl, rfl⟩,  trivial⟩, trivial⟩,  trivial⟩
            · exact ⟨⟨.inl rfl, .inl rfl, .inl rfl, .inr ⟨30, _, rfl, rfl, rfl⟩,  trivial⟩, ⟨.inl rfl, .inl rfl, .inl rfl,  trivial⟩⟩
            ·
              refine AL.nil ?_
              refine then_ok ?_
              refine AC.ret ?_
              refine retQ_mk (av' := outOf [(.c (cB false))]) (nb' := []) (retQ_ret ⟨[(6, (aB false))], [], 0⟩ [.tmp 6] [(.c (cB false))] (Weak.ren id (⟨by first | rfl | (simp only [AV.map, GV.map, CV.map, AB.map', id]; done) | (congr 3; omega) | (congr 4; omega) | (simp only [List.length_append, List.length_cons, List.length_nil, List.length_set]; rfl),  trivial⟩) (trivial) rfl) rfl ⟨.tmp rfl, trivial⟩ trivial) ?_ ?_
              · exact congrArg aB (show (false) = true by (have hz := hf0.1 (by omega); first | (exfalso; omega) | (simp only [decide_eq_true_eq]; omega)))
              · rfl
        ·
          have hb7' := hb7; try simp only [sumB, Bool.not_eq_true', Bool.not_eq_false', Bool.or_eq_true, Bool.or_eq_false_iff, Bool.and_eq_true, Bool.and_eq_false_imp, decide_eq_true_eq, decide_eq_false_iff_not, Bool.not_not, Bool.not_true, Bool.not_false] at hb7'
          refine AC.weak (st' := ⟨[(1, (aI n)), (3, (aC (.p 0 0 0 0))), (7, (aC (.p 2 0 0 0)))], [(2, (.box 92 [(cI x0.money), (cI x0.held), (cI x0.pace.ticks), (cI x0.pace.count), (cI x0.pace.sum), (.s 1 0 2 x0.uses.length)])), (1, (.arr 44 2 ((x0.uses).map rUse))), (0, (.box 92 [(cI c.money), (cI c.held), (cI c.pace.ticks), (cI c.pace.count), (cI c.pace.sum), (cR 2 ((c.uses).map rUse))]))], 3⟩) (Weak.ren id (⟨by first | rfl | (simp only [AV.map, GV.map, CV.map, AB.map', id]; done) | (congr 3; omega) | (congr 4; omega) | (simp only [List.length_append, List.length_cons, List.length_nil, List.length_set]; rfl), by first | rfl | (simp only [AV.map, GV.map, CV.map, AB.map', id]; done) | (congr 3; omega) | (congr 4; omega) | (simp only [List.length_append, List.length_cons, List.length_nil, List.length_set]; rfl), by first | rfl | (simp only [AV.map, GV.map, CV.map, AB.map', id]; done) | (congr 3; omega) | (congr 4; omega) | (simp only [List.length_append, List.length_cons, List.length_nil, List.length_set]; rfl),  trivial⟩) (⟨by first | rfl | (simp only [AV.map, GV.map, CV.map, AB.map', id]; done) | (congr 3; omega) | (congr 4; omega) | (simp only [List.length_append, List.length_cons, List.length_nil, List.length_set]; rfl), by first | rfl | (simp only [AV.map, GV.map, CV.map, AB.map', id]; done) | (congr 3; omega) | (congr 4; omega) | (simp only [List.length_append, List.length_cons, List.length_nil, List.length_set]; rfl), by first | rfl | (simp only [AV.map, GV.map, CV.map, AB.map', id]; done) | (congr 3; omega) | (congr 4; omega) | (simp only [List.length_append, List.length_cons, List.length_nil, List.length_set]; rfl),  trivial⟩) rfl) ?_
          refine AC.draw [⟨some 33, (aG [(cI x0.money), (cI x0.held), (cI x0.pace.ticks), (cI x0.pace.count), (cI x0.pace.sum), (.s 1 0 2 x0.uses.length)]), [], [], [], [(7, (aC (.p 2 0 0 0)))], [(2, (.box 92 [(cI x0.money), (cI x0.held), (cI x0.pace.ticks), (cI x0.pace.count), (cI x0.pace.sum), (.s 1 0 2 x0.uses.length)]))]⟩,
      ⟨some 34, (aI e3), [], [], [0], [(33, (aG [(cI x0.money), (cI x0.held), (cI x0.pace.ticks), (cI x0.pace.count), (cI x0.pace.sum), (.s 1 0 2 x0.uses.length)]))], [(1, (.arr 44 2 ((x0.uses).map rUse)))]⟩,
      ⟨some 35, (aB true), [], [], [1], [(34, (aI e3))], []⟩,
      ⟨some 36, (aB true), [], [], [2], [(35, (aB true))], []⟩,
      ⟨some 37, (aI n), [], [], [3], [(1, (aI n)), (36, (aB true))], []⟩,
      ⟨some 38, (aG [(cI c.money), (cI c.held), (cI c.pace.ticks), (cI c.pace.count), (cI c.pace.sum), (cR 2 ((c.uses).map rUse))]), [], [], [3], [(3, (aC (.p 0 0 0 0))), (36, (aB true))], [(0, (.box 92 [(cI c.money), (cI c.held), (cI c.pace.ticks), (cI c.pace.count), (cI c.pace.sum), (cR 2 ((c.uses).map rUse))]))]⟩,
      ⟨some 39, (aI (c.money - c.held)), [], [], [3, 5], [(38, (aG [(cI c.money), (cI c.held), (cI c.pace.ticks), (cI c.pace.count), (cI c.pace.sum), (cR 2 ((c.uses).map rUse))])), (36, (aB true))], []⟩,
      ⟨some 40, (aB true), [], [], [3, 4, 6], [(37, (aI n)), (39, (aI (c.money - c.held))), (36, (aB true))], []⟩,
      ⟨some 41, (aB true), [], [], [3, 7], [(36, (aB true)), (40, (aB true))], []⟩,
      ⟨some 42, (aB true), [], [], [8], [(41, (aB true))], []⟩,
      ⟨some 43, (aG [(cI x0.money), (cI x0.held), (cI x0.pace.ticks), (cI x0.pace.count), (cI x0.pace.sum), (.s 1 0 2 x0.uses.length)]), [], [], [9], [(7, (aC (.p 2 0 0 0))), (42, (aB true))], [(2, (.box 92 [(cI x0.money), (cI x0.held), (cI x0.pace.ticks), (cI x0.pace.count), (cI x0.pace.sum), (.s 1 0 2 x0.uses.length)]))]⟩,
      ⟨some 44, (aI (x0.money - x0.held)), [], [], [9, 10], [(43, (aG [(cI x0.money), (cI x0.held), (cI x0.pace.ticks), (cI x0.pace.count), (cI x0.pace.sum), (.s 1 0 2 x0.uses.length)])), (42, (aB true))], [(1, (.arr 44 2 ((x0.uses).map rUse)))]⟩,
      ⟨some 45, (aG [(cI c.money), (cI c.held), (cI c.pace.ticks), (cI c.pace.count), (cI c.pace.sum), (cR 2 ((c.uses).map rUse))]), [], [], [9], [(3, (aC (.p 0 0 0 0))), (42, (aB true))], [(0, (.box 92 [(cI c.money), (cI c.held), (cI c.pace.ticks), (cI c.pace.count), (cI c.pace.sum), (cR 2 ((c.uses).map rUse))]))]⟩,
      ⟨some 46, (aI (c.money - c.held)), [], [], [9, 12], [(45, (aG [(cI c.money), (cI c.held), (cI c.pace.ticks), (cI c.pace.count), (cI c.pace.sum), (cR 2 ((c.uses).map rUse))])), (42, (aB true))], []⟩,
      ⟨some 47, (aI n), [], [], [9], [(1, (aI n)), (42, (aB true))], []⟩,
      ⟨some 48, (aI ((c.money - c.held) - n)), [], [], [9, 13, 14], [(46, (aI (c.money - c.held))), (47, (aI n)), (42, (aB true))], []⟩,
      ⟨some 49, (aB false), [], [], [9, 11, 15], [(44, (aI (x0.money - x0.held))), (48, (aI ((c.money - c.held) - n))), (42, (aB true))], []⟩,
      ⟨some 50, (aB false), [], [], [9, 16], [(42, (aB true)), (49, (aB false))], []⟩,
      ⟨some 51, (aB false), [], [], [17], [(50, (aB false))], []⟩,
      ⟨some 52, (.t []), [], [], [18], [(7, (aC (.p 2 0 0 0))), (51, (aB false))], []⟩,
      ⟨some 53, (.t []), [], [], [18, 19], [(52, (.t [])), (51, (aB false))], []⟩,
      ⟨some 54, (.t []), [], [], [18, 20], [(53, (.t [])), (51, (aB false))], []⟩,
      ⟨some 55, (aB false), [], [], [18, 21], [(51, (aB false)), (54, (.t []))], []⟩,
      ⟨some 56, (aB false), [], [], [22], [(55, (aB false))], []⟩,
      ⟨some 57, (.t []), [], [], [23], [(7, (aC (.p 2 0 0 0))), (56, (aB false))], []⟩,
      ⟨some 58, (.t []), [], [], [23, 24], [(57, (.t [])), (56, (aB false))], []⟩,
      ⟨some 59, (.t []), [], [], [23], [(3, (aC (.p 0 0 0 0))), (56, (aB false))], []⟩,
      ⟨some 60, (.t []), [], [], [23, 26], [(59, (.t [])), (56, (aB false))], []⟩,
      ⟨some 61, (.t []), [], [], [23, 25, 27], [(58, (.t [])), (60, (.t [])), (56, (aB false))], []⟩,
      ⟨some 62, (aB false), [], [], [23, 28], [(56, (aB false)), (61, (.t []))], []⟩,
      ⟨some 6, (aB false), [], [], [29], [(62, (aB false))], []⟩] ⟨[(1, (aI n)), (3, (aC (.p 0 0 0 0))), (7, (aC (.p 2 0 0 0))), (6, (aB false))], [(2, (.box 92 [(cI x0.money), (cI x0.held), (cI x0.pace.ticks), (cI x0.pace.count), (cI x0.pace.sum), (.s 1 0 2 x0.uses.length)])), (1, (.arr 44 2 ((x0.uses).map rUse))), (0, (.box 92 [(cI c.money), (cI c.held), (cI c.pace.ticks), (cI c.pace.count), (cI c.pace.sum), (cR 2 ((c.uses).map rUse))]))], 3⟩ mixed (by kernel_rfl) ?_ ?_ ?_ ?_
          · exact ⟨.inl ⟨(Wanted.plain rfl), GOp.cast (g_loadBs rfl rfl rfl Try.underlying92 rfl sz92 rfl rfl) rfl⟩,
      .inl ⟨(Wanted.plain rfl), GOp.cast (g_callE 3 [1] (c_card_Wrong x0  e3 hr3) en72 rfl rfl ⟨⟨_, rfl, .g ⟨.d _, .d _, .d _, .d _, .d _, .s rfl (by decide) (by first | omega | (simp; done) | (simp; omega)),  trivial⟩⟩,  trivial⟩ rfl trivial rfl rfl rfl rfl) rfl⟩,
      .inl ⟨(Wanted.plain rfl), GOp.cast (g_binI rfl rfl rfl (congrArg (fun b => some (Value.bool b)) hb5)) rfl⟩,
      .inl ⟨(Wanted.plain rfl), GOp.cast (g_move rfl rfl) rfl⟩,
      .inl ⟨(Wanted.yes rfl rfl rfl), GOp.cast (g_move rfl rfl) rfl⟩,
      .inl ⟨(Wanted.yes rfl rfl rfl), GOp.cast (g_loadBs rfl rfl rfl Try.underlying92 rfl sz92 rfl rfl) rfl⟩,
      .inl ⟨(Wanted.yes rfl rfl rfl), GOp.cast (g_call 3 (c_card_Free c (by first | assumption | omega | (constructor <;> decide) | (have hz := rightC (by first | assumption | omega); omega)) ) en71 rfl rfl ⟨⟨_, rfl, .g ⟨.d _, .d _, .d _, .d _, .d _, .d _,  trivial⟩⟩,  trivial⟩ trivial trivial rfl rfl rfl rfl) rfl⟩,
      .inl ⟨(Wanted.yes rfl rfl rfl), GOp.cast (g_binI rfl rfl rfl (congrArg (fun b => some (Value.bool b)) hb6)) rfl⟩,
      .inl ⟨(Wanted.plain rfl), GOp.cast (g_pick rfl rfl rfl) rfl⟩,
      .inl ⟨(Wanted.plain rfl), GOp.cast (g_move rfl rfl) rfl⟩,
      .inl ⟨(Wanted.yes rfl rfl rfl), GOp.cast (g_loadBs rfl rfl rfl Try.underlying92 rfl sz92 rfl rfl) rfl⟩,
      .inl ⟨(Wanted.yes rfl rfl rfl), GOp.cast (g_callE 3 [1] (c_card_Free x0 (by first | assumption | omega | (constructor <;> decide) | (have hz := rightC (by first | assumption | omega); omega)) ) en71 rfl rfl ⟨⟨_, rfl, .g ⟨.d _, .d _, .d _, .d _, .d _, .s rfl (by decide) (by first | omega | (simp; done) | (simp; omega)),  trivial⟩⟩,  trivial⟩ rfl trivial rfl rfl rfl rfl) rfl⟩,
      .inl ⟨(Wanted.yes rfl rfl rfl), GOp.cast (g_loadBs rfl rfl rfl Try.underlying92 rfl sz92 rfl rfl) rfl⟩,
      .inl ⟨(Wanted.yes rfl rfl rfl), GOp.cast (g_call 3 (c_card_Free c (by first | assumption | omega | (constructor <;> decide) | (have hz := rightC (by first | assumption | omega); omega)) ) en71 rfl rfl ⟨⟨_, rfl, .g ⟨.d _, .d _, .d _, .d _, .d _, .d _,  trivial⟩⟩,  trivial⟩ trivial trivial rfl rfl rfl rfl) rfl⟩,
      .inl ⟨(Wanted.yes rfl rfl rfl), GOp.cast (g_move rfl rfl) rfl⟩,
      .inl ⟨(Wanted.yes rfl rfl rfl), GOp.cast (g_binI rfl rfl rfl (wrap_ok (by first | omega | (simp; done) | (simp; omega)))) rfl⟩,
      .inl ⟨(Wanted.yes rfl rfl rfl), GOp.cast (g_binI rfl rfl rfl (congrArg (fun b => some (Value.bool b)) hb7)) rfl⟩,
      .inl ⟨(Wanted.plain rfl), GOp.cast (g_pick rfl rfl rfl) rfl⟩,
      .inl ⟨(Wanted.plain rfl), GOp.cast (g_move rfl rfl) rfl⟩,
      .inr ⟨(Unwanted.no rfl rfl rfl), rfl, rfl, rfl⟩,
      .inr ⟨(Unwanted.no rfl rfl rfl), rfl, rfl, rfl⟩,
      .inr ⟨(Unwanted.no rfl rfl rfl), rfl, rfl, rfl⟩,
      .inl ⟨(Wanted.plain rfl), GOp.cast (g_pick rfl rfl rfl) rfl⟩,
      .inl ⟨(Wanted.plain rfl), GOp.cast (g_move rfl rfl) rfl⟩,
      .inr ⟨(Unwanted.no rfl rfl rfl), rfl, rfl, rfl⟩,
      .inr ⟨(Unwanted.no rfl rfl rfl), rfl, rfl, rfl⟩,
      .inr ⟨(Unwanted.no rfl rfl rfl), rfl, rfl, rfl⟩,
      .inr ⟨(Unwanted.no rfl rfl rfl), rfl, rfl, rfl⟩,
      .inr ⟨(Unwanted.no rfl rfl rfl), rfl, rfl, rfl⟩,
      .inl ⟨(Wanted.plain rfl), GOp.cast (g_pick rfl rfl rfl) rfl⟩,
      .inl ⟨(Wanted.plain rfl), GOp.cast (g_assign rfl rfl) rfl⟩,
       trivial⟩
          · exact ⟨⟨⟨.inl rfl,  trivial⟩, ⟨.inl rfl,  trivial⟩⟩, ⟨⟨.inr ⟨0, .head _, _, rfl, rfl, rfl⟩,  trivial⟩, ⟨.inl rfl,  trivial⟩⟩, ⟨⟨.inr ⟨1, .head _, _, rfl, rfl, rfl⟩,  trivial⟩, trivial⟩, ⟨⟨.inr ⟨2, .head _, _, rfl, rfl, rfl⟩,  trivial⟩, trivial⟩, ⟨⟨.inl rfl, .inr ⟨3, .head _, _, rfl, rfl, rfl⟩,  trivial⟩, trivial⟩, ⟨⟨.inl rfl, .inr ⟨3, .head _, _, rfl, rfl, rfl⟩,  trivial⟩, ⟨.inl rfl,  trivial⟩⟩, ⟨⟨.inr ⟨5, .tail _ (.head _), _, rfl, rfl, rfl⟩, .inr ⟨3, .head _, _, rfl, rfl, rfl⟩,  trivial⟩, trivial⟩, ⟨⟨.inr ⟨4, .tail _ (.head _), _, rfl, rfl, rfl⟩, .inr ⟨6, .tail _ (.tail _ (.head _)), _, rfl, rfl, rfl⟩, .inr ⟨3, .head _, _, rfl, rfl, rfl⟩,  trivial⟩, trivial⟩, ⟨⟨.inr ⟨3, .head _, _, rfl, rfl, rfl⟩, .inr ⟨7, .tail _ (.head _), _, rfl, rfl, rfl⟩,  trivial⟩, trivial⟩, ⟨⟨.inr ⟨8, .head _, _, rfl, rfl, rfl⟩,  trivial⟩, trivial⟩, ⟨⟨.inl rfl, .inr ⟨9, .head _, _, rfl, rfl, rfl⟩,  trivial⟩, ⟨.inl rfl,  trivial⟩⟩, ⟨⟨.inr ⟨10, .tail _ (.head _), _, rfl, rfl, rfl⟩, .inr ⟨9, .head _, _, rfl, rfl, rfl⟩,  trivial⟩, ⟨.inl rfl,  trivial⟩⟩, ⟨⟨.inl rfl, .inr ⟨9, .head _, _, rfl, rfl, rfl⟩,  trivial⟩, ⟨.inl rfl,  trivial⟩⟩, ⟨⟨.inr ⟨12, .tail _ (.head _), _, rfl, rfl, rfl⟩, .inr ⟨9, .head _, _, rfl, rfl, rfl⟩,  trivial⟩, trivial⟩, ⟨⟨.inl rfl, .inr ⟨9, .head _, _, rfl, rfl, rfl⟩,  trivial⟩, trivial⟩, ⟨⟨.inr ⟨13, .tail _ (.head _), _, rfl, rfl, rfl⟩, .inr ⟨14, .tail _ (.tail _ (.head _)), _, rfl, rfl, rfl⟩, .inr ⟨9, .head _, _, rfl, rfl, rfl⟩,  trivial⟩, trivial⟩, ⟨⟨.inr ⟨11, .tail _ (.head _), _, rfl, rfl, rfl⟩, .inr ⟨15, .tail _ (.tail _ (.head _)), _, rfl, rfl, rfl⟩, .inr ⟨9, .head _, _, rfl, rfl, rfl⟩,  trivial⟩, trivial⟩, ⟨⟨.inr ⟨9, .head _, _, rfl, rfl, rfl⟩, .inr ⟨16, .tail _ (.head _), _, rfl, rfl, rfl⟩,  trivial⟩, trivial⟩, ⟨⟨.inr ⟨17, .head _, _, rfl, rfl, rfl⟩,  trivial⟩, trivial⟩, ⟨⟨.inl rfl, .inr ⟨18, .head _, _, rfl, rfl, rfl⟩,  trivial⟩, trivial⟩, ⟨⟨.inr ⟨19, .tail _ (.head _), _, rfl, rfl, rfl⟩, .inr ⟨18, .head _, _, rfl, rfl, rfl⟩,  trivial⟩, trivial⟩, ⟨⟨.inr ⟨20, .tail _ (.head _), _, rfl, rfl, rfl⟩, .inr ⟨18, .head _, _, rfl, rfl, rfl⟩,  trivial⟩, trivial⟩, ⟨⟨.inr ⟨18, .head _, _, rfl, rfl, rfl⟩, .inr ⟨21, .tail _ (.head _), _, rfl, rfl, rfl⟩,  trivial⟩, trivial⟩, ⟨⟨.inr ⟨22, .head _, _, rfl, rfl, rfl⟩,  trivial⟩, trivial⟩, ⟨⟨.inl rfl, .inr ⟨23, .head _, _, rfl, rfl, rfl⟩,  trivial⟩, trivial⟩, ⟨⟨.inr ⟨24, .tail _ (.head _), _, rfl, rfl, rfl⟩, .inr ⟨23, .head _, _, rfl, rfl, rfl⟩,  trivial⟩, trivial⟩, ⟨⟨.inl rfl, .inr ⟨23, .head _, _, rfl, rfl, rfl⟩,  trivial⟩, trivial⟩, ⟨⟨.inr ⟨26, .tail _ (.head _), _, rfl, rfl, rfl⟩, .inr ⟨23, .head _, _, rfl, rfl, rfl⟩,  trivial⟩, trivial⟩, ⟨⟨.inr ⟨25, .tail _ (.head _), _, rfl, rfl, rfl⟩, .inr ⟨27, .tail _ (.tail _ (.head _)), _, rfl, rfl, rfl⟩, .inr ⟨23, .head _, _, rfl, rfl, rfl⟩,  trivial⟩, trivial⟩, ⟨⟨.inr ⟨23, .head _, _, rfl, rfl, rfl⟩, .inr ⟨28, .tail _ (.head _), _, rfl, rfl, rfl⟩,  trivial⟩, trivial⟩, ⟨⟨.inr ⟨29, .head _, _, rfl, rfl, rfl⟩,  trivial⟩, trivial⟩,  trivial⟩
          · exact ⟨⟨.inl rfl, .inl rfl, .inl rfl, .inr ⟨30, _, rfl, rfl, rfl⟩,  trivial⟩, ⟨.inl rfl, .inl rfl, .inl rfl,  trivial⟩⟩
          ·
            refine AL.nil ?_
            refine then_ok ?_
            refine AC.ret ?_
            refine retQ_mk (av' := outOf [(.c (cB false))]) (nb' := []) (retQ_ret ⟨[(6, (aB false))], [], 0⟩ [.tmp 6] [(.c (cB false))] (Weak.ren id (⟨by first | rfl | (simp only [AV.map, GV.map, CV.map, AB.map', id]; done) | (congr 3; omega) | (congr 4; omega) | (simp only [List.length_append, List.length_cons, List.length_nil, List.length_set]; rfl),  trivial⟩) (trivial) rfl) rfl ⟨.tmp rfl, trivial⟩ trivial) ?_ ?_
            · exact congrArg aB (show (false) = true by (have hz := hf0.1 (by omega); first | (exfalso; omega) | (simp only [decide_eq_true_eq]; omega)))
            · rfl
      ·
        have hb6' := hb6; try simp only [sumB, Bool.not_eq_true', Bool.not_eq_false', Bool.or_eq_true, Bool.or_eq_false_iff, Bool.and_eq_true, Bool.and_eq_false_imp, decide_eq_true_eq, decide_eq_false_iff_not, Bool.not_not, Bool.not_true, Bool.not_false] at hb6'
        refine AC.weak (st' := ⟨[(1, (aI n)), (3, (aC (.p 0 0 0 0))), (7, (aC (.p 2 0 0 0)))], [(2, (.box 92 [(cI x0.money), (cI x0.held), (cI x0.pace.ticks), (cI x0.pace.count), (cI x0.pace.sum), (.s 1 0 2 x0.uses.length)])), (1, (.arr 44 2 ((x0.uses).map rUse))), (0, (.box 92 [(cI c.money), (cI c.held), (cI c.pace.ticks), (cI c.pace.count), (cI c.pace.sum), (cR 2 ((c.uses).map rUse))]))], 3⟩) (Weak.ren id (⟨by first | rfl | (simp only [AV.map, GV.map, CV.map, AB.map', id]; done) | (congr 3; omega) | (congr 4; omega) | (simp only [List.length_append, List.length_cons, List.length_nil, List.length_set]; rfl), by first | rfl | (simp only [AV.map, GV.map, CV.map, AB.map', id]; done) | (congr 3; omega) | (congr 4; omega) | (simp only [List.length_append, List.length_cons, List.length_nil, List.length_set]; rfl), by first | rfl | (simp only [AV.map, GV.map, CV.map, AB.map', id]; done) | (congr 3; omega) | (congr 4; omega) | (simp only [List.length_append, List.length_cons, List.length_nil, List.length_set]; rfl),  trivial⟩) (⟨by first | rfl | (simp only [AV.map, GV.map, CV.map, AB.map', id]; done) | (congr 3; omega) | (congr 4; omega) | (simp only [List.length_append, List.length_cons, List.length_nil, List.length_set]; rfl), by first | rfl | (simp only [AV.map, GV.map, CV.map, AB.map', id]; done) | (congr 3; omega) | (congr 4; omega) | (simp only [List.length_append, List.length_cons, List.length_nil, List.length_set]; rfl), by first | rfl | (simp only [AV.map, GV.map, CV.map, AB.map', id]; done) | (congr 3; omega) | (congr 4; omega) | (simp only [List.length_append, List.length_cons, List.length_nil, List.length_set]; rfl),  trivial⟩) rfl) ?_
        refine AC.draw [⟨some 33, (aG [(cI x0.money), (cI x0.held), (cI x0.pace.ticks), (cI x0.pace.count), (cI x0.pace.sum), (.s 1 0 2 x0.uses.length)]), [], [], [], [(7, (aC (.p 2 0 0 0)))], [(2, (.box 92 [(cI x0.money), (cI x0.held), (cI x0.pace.ticks), (cI x0.pace.count), (cI x0.pace.sum), (.s 1 0 2 x0.uses.length)]))]⟩,
      ⟨some 34, (aI e3), [], [], [0], [(33, (aG [(cI x0.money), (cI x0.held), (cI x0.pace.ticks), (cI x0.pace.count), (cI x0.pace.sum), (.s 1 0 2 x0.uses.length)]))], [(1, (.arr 44 2 ((x0.uses).map rUse)))]⟩,
      ⟨some 35, (aB true), [], [], [1], [(34, (aI e3))], []⟩,
      ⟨some 36, (aB true), [], [], [2], [(35, (aB true))], []⟩,
      ⟨some 37, (aI n), [], [], [3], [(1, (aI n)), (36, (aB true))], []⟩,
      ⟨some 38, (aG [(cI c.money), (cI c.held), (cI c.pace.ticks), (cI c.pace.count), (cI c.pace.sum), (cR 2 ((c.uses).map rUse))]), [], [], [3], [(3, (aC (.p 0 0 0 0))), (36, (aB true))], [(0, (.box 92 [(cI c.money), (cI c.held), (cI c.pace.ticks), (cI c.pace.count), (cI c.pace.sum), (cR 2 ((c.uses).map rUse))]))]⟩,
      ⟨some 39, (aI (c.money - c.held)), [], [], [3, 5], [(38, (aG [(cI c.money), (cI c.held), (cI c.pace.ticks), (cI c.pace.count), (cI c.pace.sum), (cR 2 ((c.uses).map rUse))])), (36, (aB true))], []⟩,
      ⟨some 40, (aB false), [], [], [3, 4, 6], [(37, (aI n)), (39, (aI (c.money - c.held))), (36, (aB true))], []⟩,
      ⟨some 41, (aB false), [], [], [3, 7], [(36, (aB true)), (40, (aB false))], []⟩,
      ⟨some 42, (aB false), [], [], [8], [(41, (aB false))], []⟩,
      ⟨some 43, (.t []), [], [], [9], [(7, (aC (.p 2 0 0 0))), (42, (aB false))], []⟩,
      ⟨some 44, (.t []), [], [], [9, 10], [(43, (.t [])), (42, (aB false))], []⟩,
      ⟨some 45, (.t []), [], [], [9], [(3, (aC (.p 0 0 0 0))), (42, (aB false))], []⟩,
      ⟨some 46, (.t []), [], [], [9, 12], [(45, (.t [])), (42, (aB false))], []⟩,
      ⟨some 47, (.t []), [], [], [9], [(1, (aI n)), (42, (aB false))], []⟩,
      ⟨some 48, (.t []), [], [], [9, 13, 14], [(46, (.t [])), (47, (.t [])), (42, (aB false))], []⟩,
      ⟨some 49, (.t []), [], [], [9, 11, 15], [(44, (.t [])), (48, (.t [])), (42, (aB false))], []⟩,
      ⟨some 50, (aB false), [], [], [9, 16], [(42, (aB false)), (49, (.t []))], []⟩,
      ⟨some 51, (aB false), [], [], [17], [(50, (aB false))], []⟩,
      ⟨some 52, (.t []), [], [], [18], [(7, (aC (.p 2 0 0 0))), (51, (aB false))], []⟩,
      ⟨some 53, (.t []), [], [], [18, 19], [(52, (.t [])), (51, (aB false))], []⟩,
      ⟨some 54, (.t []), [], [], [18, 20], [(53, (.t [])), (51, (aB false))], []⟩,
      ⟨some 55, (aB false), [], [], [18, 21], [(51, (aB false)), (54, (.t []))], []⟩,
      ⟨some 56, (aB false), [], [], [22], [(55, (aB false))], []⟩,
      ⟨some 57, (.t []), [], [], [23], [(7, (aC (.p 2 0 0 0))), (56, (aB false))], []⟩,
      ⟨some 58, (.t []), [], [], [23, 24], [(57, (.t [])), (56, (aB false))], []⟩,
      ⟨some 59, (.t []), [], [], [23], [(3, (aC (.p 0 0 0 0))), (56, (aB false))], []⟩,
      ⟨some 60, (.t []), [], [], [23, 26], [(59, (.t [])), (56, (aB false))], []⟩,
      ⟨some 61, (.t []), [], [], [23, 25, 27], [(58, (.t [])), (60, (.t [])), (56, (aB false))], []⟩,
      ⟨some 62, (aB false), [], [], [23, 28], [(56, (aB false)), (61, (.t []))], []⟩,
      ⟨some 6, (aB false), [], [], [29], [(62, (aB false))], []⟩] ⟨[(1, (aI n)), (3, (aC (.p 0 0 0 0))), (7, (aC (.p 2 0 0 0))), (6, (aB false))], [(2, (.box 92 [(cI x0.money), (cI x0.held), (cI x0.pace.ticks), (cI x0.pace.count), (cI x0.pace.sum), (.s 1 0 2 x0.uses.length)])), (1, (.arr 44 2 ((x0.uses).map rUse))), (0, (.box 92 [(cI c.money), (cI c.held), (cI c.pace.ticks), (cI c.pace.count), (cI c.pace.sum), (cR 2 ((c.uses).map rUse))]))], 3⟩ mixed (by kernel_rfl) ?_ ?_ ?_ ?_
        · exact ⟨.inl ⟨(Wanted.plain rfl), GOp.cast (g_loadBs rfl rfl rfl Try.underlying92 rfl sz92 rfl rfl) rfl⟩,
      .inl ⟨(Wanted.plain rfl), GOp.cast (g_callE 3 [1] (c_card_Wrong x0  e3 hr3) en72 rfl rfl ⟨⟨_, rfl, .g ⟨.d _, .d _, .d _, .d _, .d _, .s rfl (by decide) (by first | omega | (simp; done) | (simp; omega)),  trivial⟩⟩,  trivial⟩ rfl trivial rfl rfl rfl rfl) rfl⟩,
      .inl ⟨(Wanted.plain rfl), GOp.cast (g_binI rfl rfl rfl (congrArg (fun b => some (Value.bool b)) hb5)) rfl⟩,
      .inl ⟨(Wanted.plain rfl), GOp.cast (g_move rfl rfl) rfl⟩,
      .inl ⟨(Wanted.yes rfl rfl rfl), GOp.cast (g_move rfl rfl) rfl⟩,
      .inl ⟨(Wanted.yes rfl rfl rfl), GOp.cast (g_loadBs rfl rfl rfl Try.underlying92 rfl sz92 rfl rfl) rfl⟩,
      .inl ⟨(Wanted.yes rfl rfl rfl), GOp.cast (g_call 3 (c_card_Free c (by first | assumption | omega | (constructor <;> decide) | (have hz := rightC (by first | assumption | omega); omega)) ) en71 rfl rfl ⟨⟨_, rfl, .g ⟨.d _, .d _, .d _, .d _, .d _, .d _,  trivial⟩⟩,  trivial⟩ trivial trivial rfl rfl rfl rfl) rfl⟩,
      .inl ⟨(Wanted.yes rfl rfl rfl), GOp.cast (g_binI rfl rfl rfl (congrArg (fun b => some (Value.bool b)) hb6)) rfl⟩,
      .inl ⟨(Wanted.plain rfl), GOp.cast (g_pick rfl rfl rfl) rfl⟩,
      .inl ⟨(Wanted.plain rfl), GOp.cast (g_move rfl rfl) rfl⟩,
      .inr ⟨(Unwanted.no rfl rfl rfl), rfl, rfl, rfl⟩,
      .inr ⟨(Unwanted.no rfl rfl rfl), rfl, rfl, rfl⟩,
      .inr ⟨(Unwanted.no rfl rfl rfl), rfl, rfl, rfl⟩,
      .inr ⟨(Unwanted.no rfl rfl rfl), rfl, rfl, rfl⟩,
      .inr ⟨(Unwanted.no rfl rfl rfl), rfl, rfl, rfl⟩,
      .inr ⟨(Unwanted.no rfl rfl rfl), rfl, rfl, rfl⟩,
      .inr ⟨(Unwanted.no rfl rfl rfl), rfl, rfl, rfl⟩,
      .inl ⟨(Wanted.plain rfl), GOp.cast (g_pick rfl rfl rfl) rfl⟩,
      .inl ⟨(Wanted.plain rfl), GOp.cast (g_move rfl rfl) rfl⟩,
      .inr ⟨(Unwanted.no rfl rfl rfl), rfl, rfl, rfl⟩,
      .inr ⟨(Unwanted.no rfl rfl rfl), rfl, rfl, rfl⟩,
      .inr ⟨(Unwanted.no rfl rfl rfl), rfl, rfl, rfl⟩,
      .inl ⟨(Wanted.plain rfl), GOp.cast (g_pick rfl rfl rfl) rfl⟩,
      .inl ⟨(Wanted.plain rfl), GOp.cast (g_move rfl rfl) rfl⟩,
      .inr ⟨(Unwanted.no rfl rfl rfl), rfl, rfl, rfl⟩,
      .inr ⟨(Unwanted.no rfl rfl rfl), rfl, rfl, rfl⟩,
      .inr ⟨(Unwanted.no rfl rfl rfl), rfl, rfl, rfl⟩,
      .inr ⟨(Unwanted.no rfl rfl rfl), rfl, rfl, rfl⟩,
      .inr ⟨(Unwanted.no rfl rfl rfl), rfl, rfl, rfl⟩,
      .inl ⟨(Wanted.plain rfl), GOp.cast (g_pick rfl rfl rfl) rfl⟩,
      .inl ⟨(Wanted.plain rfl), GOp.cast (g_assign rfl rfl) rfl⟩,
       trivial⟩
        · exact ⟨⟨⟨.inl rfl,  trivial⟩, ⟨.inl rfl,  trivial⟩⟩, ⟨⟨.inr ⟨0, .head _, _, rfl, rfl, rfl⟩,  trivial⟩, ⟨.inl rfl,  trivial⟩⟩, ⟨⟨.inr ⟨1, .head _, _, rfl, rfl, rfl⟩,  trivial⟩, trivial⟩, ⟨⟨.inr ⟨2, .head _, _, rfl, rfl, rfl⟩,  trivial⟩, trivial⟩, ⟨⟨.inl rfl, .inr ⟨3, .head _, _, rfl, rfl, rfl⟩,  trivial⟩, trivial⟩, ⟨⟨.inl rfl, .inr ⟨3, .head _, _, rfl, rfl, rfl⟩,  trivial⟩, ⟨.inl rfl,  trivial⟩⟩, ⟨⟨.inr ⟨5, .tail _ (.head _), _, rfl, rfl, rfl⟩, .inr ⟨3, .head _, _, rfl, rfl, rfl⟩,  trivial⟩, trivial⟩, ⟨⟨.inr ⟨4, .tail _ (.head _), _, rfl, rfl, rfl⟩, .inr ⟨6, .tail _ (.tail _ (.head _)), _, rfl, rfl, rfl⟩, .inr ⟨3, .head _, _, rfl, rfl, rfl⟩,  trivial⟩, trivial⟩, ⟨⟨.inr ⟨3, .head _, _, rfl, rfl, rfl⟩, .inr ⟨7, .tail _ (.head _), _, rfl, rfl, rfl⟩,  trivial⟩, trivial⟩, ⟨⟨.inr ⟨8, .head _, _, rfl, rfl, rfl⟩,  trivial⟩, trivial⟩, ⟨⟨.inl rfl, .inr ⟨9, .head _, _, rfl, rfl, rfl⟩,  trivial⟩, trivial⟩, ⟨⟨.inr ⟨10, .tail _ (.head _), _, rfl, rfl, rfl⟩, .inr ⟨9, .head _, _, rfl, rfl, rfl⟩,  trivial⟩, trivial⟩, ⟨⟨.inl rfl, .inr ⟨9, .head _, _, rfl, rfl, rfl⟩,  trivial⟩, trivial⟩, ⟨⟨.inr ⟨12, .tail _ (.head _), _, rfl, rfl, rfl⟩, .inr ⟨9, .head _, _, rfl, rfl, rfl⟩,  trivial⟩, trivial⟩, ⟨⟨.inl rfl, .inr ⟨9, .head _, _, rfl, rfl, rfl⟩,  trivial⟩, trivial⟩, ⟨⟨.inr ⟨13, .tail _ (.head _), _, rfl, rfl, rfl⟩, .inr ⟨14, .tail _ (.tail _ (.head _)), _, rfl, rfl, rfl⟩, .inr ⟨9, .head _, _, rfl, rfl, rfl⟩,  trivial⟩, trivial⟩, ⟨⟨.inr ⟨11, .tail _ (.head _), _, rfl, rfl, rfl⟩, .inr ⟨15, .tail _ (.tail _ (.head _)), _, rfl, rfl, rfl⟩, .inr ⟨9, .head _, _, rfl, rfl, rfl⟩,  trivial⟩, trivial⟩, ⟨⟨.inr ⟨9, .head _, _, rfl, rfl, rfl⟩, .inr ⟨16, .tail _ (.head _), _, rfl, rfl, rfl⟩,  trivial⟩, trivial⟩, ⟨⟨.inr ⟨17, .head _, _, rfl, rfl, rfl⟩,  trivial⟩, trivial⟩, ⟨⟨.inl rfl, .inr ⟨18, .head _, _, rfl, rfl, rfl⟩,  trivial⟩, trivial⟩, ⟨⟨.inr ⟨19, .tail _ (.head _), _, rfl, rfl, rfl⟩, .inr ⟨18, .head _, _, rfl, rfl, rfl⟩,  trivial⟩, trivial⟩, ⟨⟨.inr ⟨20, .tail _ (.head _), _, rfl, rfl, rfl⟩, .inr ⟨18, .head _, _, rfl, rfl, rfl⟩,  trivial⟩, trivial⟩, ⟨⟨.inr ⟨18, .head _, _, rfl, rfl, rfl⟩, .inr ⟨21, .tail _ (.head _), _, rfl, rfl, rfl⟩,  trivial⟩, trivial⟩, ⟨⟨.inr ⟨22, .head _, _, rfl, rfl, rfl⟩,  trivial⟩, trivial⟩, ⟨⟨.inl rfl, .inr ⟨23, .head _, _, rfl, rfl, rfl⟩,  trivial⟩, trivial⟩, ⟨⟨.inr ⟨24, .tail _ (.head _), _, rfl, rfl, rfl⟩, .inr ⟨23, .head _, _, rfl, rfl, rfl⟩,  trivial⟩, trivial⟩, ⟨⟨.inl rfl, .inr ⟨23, .head _, _, rfl, rfl, rfl⟩,  trivial⟩, trivial⟩, ⟨⟨.inr ⟨26, .tail _ (.head _), _, rfl, rfl, rfl⟩, .inr ⟨23, .head _, _, rfl, rfl, rfl⟩,  trivial⟩, trivial⟩, ⟨⟨.inr ⟨25, .tail _ (.head _), _, rfl, rfl, rfl⟩, .inr ⟨27, .tail _ (.tail _ (.head _)), _, rfl, rfl, rfl⟩, .inr ⟨23, .head _, _, rfl, rfl, rfl⟩,  trivial⟩, trivial⟩, ⟨⟨.inr ⟨23, .head _, _, rfl, rfl, rfl⟩, .inr ⟨28, .tail _ (.head _), _, rfl, rfl, rfl⟩,  trivial⟩, trivial⟩, ⟨⟨.inr ⟨29, .head _, _, rfl, rfl, rfl⟩,  trivial⟩, trivial⟩,  trivial⟩
        · exact ⟨⟨.inl rfl, .inl rfl, .inl rfl, .inr ⟨30, _, rfl, rfl, rfl⟩,  trivial⟩, ⟨.inl rfl, .inl rfl, .inl rfl,  trivial⟩⟩
        ·
          refine AL.nil ?_
          refine then_ok ?_
          refine AC.ret ?_
          refine retQ_mk (av' := outOf [(.c (cB false))]) (nb' := []) (retQ_ret ⟨[(6, (aB false))], [], 0⟩ [.tmp 6] [(.c (cB false))] (Weak.ren id (⟨by first | rfl | (simp only [AV.map, GV.map, CV.map, AB.map', id]; done) | (congr 3; omega) | (congr 4; omega) | (simp only [List.length_append, List.length_cons, List.length_nil, List.length_set]; rfl),  trivial⟩) (trivial) rfl) rfl ⟨.tmp rfl, trivial⟩ trivial) ?_ ?_
          · exact congrArg aB (show (false) = true by (have hz := hf0.1 (by omega); first | (exfalso; omega) | (simp only [decide_eq_true_eq]; omega)))
          · rfl
    ·
      have hb5' := hb5; try simp only [sumB, Bool.not_eq_true', Bool.not_eq_false', Bool.or_eq_true, Bool.or_eq_false_iff, Bool.and_eq_true, Bool.and_eq_false_imp, decide_eq_true_eq, decide_eq_false_iff_not, Bool.not_not, Bool.not_true, Bool.not_false] at hb5'
      refine AC.weak (st' := ⟨[(1, (aI n)), (3, (aC (.p 0 0 0 0))), (7, (aC (.p 2 0 0 0)))], [(2, (.box 92 [(cI x0.money), (cI x0.held), (cI x0.pace.ticks), (cI x0.pace.count), (cI x0.pace.sum), (.s 1 0 2 x0.uses.length)])), (1, (.arr 44 2 ((x0.uses).map rUse))), (0, (.box 92 [(cI c.money), (cI c.held), (cI c.pace.ticks), (cI c.pace.count), (cI c.pace.sum), (cR 2 ((c.uses).map rUse))]))], 3⟩) (Weak.ren id (⟨by first | rfl | (simp only [AV.map, GV.map, CV.map, AB.map', id]; done) | (congr 3; omega) | (congr 4; omega) | (simp only [List.length_append, List.length_cons, List.length_nil, List.length_set]; rfl), by first | rfl | (simp only [AV.map, GV.map, CV.map, AB.map', id]; done) | (congr 3; omega) | (congr 4; omega) | (simp only [List.length_append, List.length_cons, List.length_nil, List.length_set]; rfl), by first | rfl | (simp only [AV.map, GV.map, CV.map, AB.map', id]; done) | (congr 3; omega) | (congr 4; omega) | (simp only [List.length_append, List.length_cons, List.length_nil, List.length_set]; rfl),  trivial⟩) (⟨by first | rfl | (simp only [AV.map, GV.map, CV.map, AB.map', id]; done) | (congr 3; omega) | (congr 4; omega) | (simp only [List.length_append, List.length_cons, List.length_nil, List.length_set]; rfl), by first | rfl | (simp only [AV.map, GV.map, CV.map, AB.map', id]; done) | (congr 3; omega) | (congr 4; omega) | (simp only [List.length_append, List.length_cons, List.length_nil, List.length_set]; rfl), by first | rfl | (simp only [AV.map, GV.map, CV.map, AB.map', id]; done) | (congr 3; omega) | (congr 4; omega) | (simp only [List.length_append, List.length_cons, List.length_nil, List.length_set]; rfl),  trivial⟩) rfl) ?_
      refine AC.draw [⟨some 33, (aG [(cI x0.money), (cI x0.held), (cI x0.pace.ticks), (cI x0.pace.count), (cI x0.pace.sum), (.s 1 0 2 x0.uses.length)]), [], [], [], [(7, (aC (.p 2 0 0 0)))], [(2, (.box 92 [(cI x0.money), (cI x0.held), (cI x0.pace.ticks), (cI x0.pace.count), (cI x0.pace.sum), (.s 1 0 2 x0.uses.length)]))]⟩,
      ⟨some 34, (aI e3), [], [], [0], [(33, (aG [(cI x0.money), (cI x0.held), (cI x0.pace.ticks), (cI x0.pace.count), (cI x0.pace.sum), (.s 1 0 2 x0.uses.length)]))], [(1, (.arr 44 2 ((x0.uses).map rUse)))]⟩,
      ⟨some 35, (aB false), [], [], [1], [(34, (aI e3))], []⟩,
      ⟨some 36, (aB false), [], [], [2], [(35, (aB false))], []⟩,
      ⟨some 37, (.t []), [], [], [3], [(1, (aI n)), (36, (aB false))], []⟩,
      ⟨some 38, (.t []), [], [], [3], [(3, (aC (.p 0 0 0 0))), (36, (aB false))], []⟩,
      ⟨some 39, (.t []), [], [], [3, 5], [(38, (.t [])), (36, (aB false))], []⟩,
      ⟨some 40, (.t []), [], [], [3, 4, 6], [(37, (.t [])), (39, (.t [])), (36, (aB false))], []⟩,
      ⟨some 41, (aB false), [], [], [3, 7], [(36, (aB false)), (40, (.t []))], []⟩,
      ⟨some 42, (aB false), [], [], [8], [(41, (aB false))], []⟩,
      ⟨some 43, (.t []), [], [], [9], [(7, (aC (.p 2 0 0 0))), (42, (aB false))], []⟩,
      ⟨some 44, (.t []), [], [], [9, 10], [(43, (.t [])), (42, (aB false))], []⟩,
      ⟨some 45, (.t []), [], [], [9], [(3, (aC (.p 0 0 0 0))), (42, (aB false))], []⟩,
      ⟨some 46, (.t []), [], [], [9, 12], [(45, (.t [])), (42, (aB false))], []⟩,
      ⟨some 47, (.t []), [], [], [9], [(1, (aI n)), (42, (aB false))], []⟩,
      ⟨some 48, (.t []), [], [], [9, 13, 14], [(46, (.t [])), (47, (.t [])), (42, (aB false))], []⟩,
      ⟨some 49, (.t []), [], [], [9, 11, 15], [(44, (.t [])), (48, (.t [])), (42, (aB false))], []⟩,
      ⟨some 50, (aB false), [], [], [9, 16], [(42, (aB false)), (49, (.t []))], []⟩,
      ⟨some 51, (aB false), [], [], [17], [(50, (aB false))], []⟩,
      ⟨some 52, (.t []), [], [], [18], [(7, (aC (.p 2 0 0 0))), (51, (aB false))], []⟩,
      ⟨some 53, (.t []), [], [], [18, 19], [(52, (.t [])), (51, (aB false))], []⟩,
      ⟨some 54, (.t []), [], [], [18, 20], [(53, (.t [])), (51, (aB false))], []⟩,
      ⟨some 55, (aB false), [], [], [18, 21], [(51, (aB false)), (54, (.t []))], []⟩,
      ⟨some 56, (aB false), [], [], [22], [(55, (aB false))], []⟩,
      ⟨some 57, (.t []), [], [], [23], [(7, (aC (.p 2 0 0 0))), (56, (aB false))], []⟩,
      ⟨some 58, (.t []), [], [], [23, 24], [(57, (.t [])), (56, (aB false))], []⟩,
      ⟨some 59, (.t []), [], [], [23], [(3, (aC (.p 0 0 0 0))), (56, (aB false))], []⟩,
      ⟨some 60, (.t []), [], [], [23, 26], [(59, (.t [])), (56, (aB false))], []⟩,
      ⟨some 61, (.t []), [], [], [23, 25, 27], [(58, (.t [])), (60, (.t [])), (56, (aB false))], []⟩,
      ⟨some 62, (aB false), [], [], [23, 28], [(56, (aB false)), (61, (.t []))], []⟩,
      ⟨some 6, (aB false), [], [], [29], [(62, (aB false))], []⟩] ⟨[(1, (aI n)), (3, (aC (.p 0 0 0 0))), (7, (aC (.p 2 0 0 0))), (6, (aB false))], [(2, (.box 92 [(cI x0.money), (cI x0.held), (cI x0.pace.ticks), (cI x0.pace.count), (cI x0.pace.sum), (.s 1 0 2 x0.uses.length)])), (1, (.arr 44 2 ((x0.uses).map rUse))), (0, (.box 92 [(cI c.money), (cI c.held), (cI c.pace.ticks), (cI c.pace.count), (cI c.pace.sum), (cR 2 ((c.uses).map rUse))]))], 3⟩ mixed (by kernel_rfl) ?_ ?_ ?_ ?_
      · exact ⟨.inl ⟨(Wanted.plain rfl), GOp.cast (g_loadBs rfl rfl rfl Try.underlying92 rfl sz92 rfl rfl) rfl⟩,
      .inl ⟨(Wanted.plain rfl), GOp.cast (g_callE 3 [1] (c_card_Wrong x0  e3 hr3) en72 rfl rfl ⟨⟨_, rfl, .g ⟨.d _, .d _, .d _, .d _, .d _, .s rfl (by decide) (by first | omega | (simp; done) | (simp; omega)),  trivial⟩⟩,  trivial⟩ rfl trivial rfl rfl rfl rfl) rfl⟩,
      .inl ⟨(Wanted.plain rfl), GOp.cast (g_binI rfl rfl rfl (congrArg (fun b => some (Value.bool b)) hb5)) rfl⟩,
      .inl ⟨(Wanted.plain rfl), GOp.cast (g_move rfl rfl) rfl⟩,
      .inr ⟨(Unwanted.no rfl rfl rfl), rfl, rfl, rfl⟩,
      .inr ⟨(Unwanted.no rfl rfl rfl), rfl, rfl, rfl⟩,
      .inr ⟨(Unwanted.no rfl rfl rfl), rfl, rfl, rfl⟩,
      .inr ⟨(Unwanted.no rfl rfl rfl), rfl, rfl, rfl⟩,
      .inl ⟨(Wanted.plain rfl), GOp.cast (g_pick rfl rfl rfl) rfl⟩,
      .inl ⟨(Wanted.plain rfl), GOp.cast (g_move rfl rfl) rfl⟩,
      .inr ⟨(Unwanted.no rfl rfl rfl), rfl, rfl, rfl⟩,
      .inr ⟨(Unwanted.no rfl rfl rfl), rfl, rfl, rfl⟩,
      .inr ⟨(Unwanted.no rfl rfl rfl), rfl, rfl, rfl⟩,
      .inr ⟨(Unwanted.no rfl rfl rfl), rfl, rfl, rfl⟩,
      .inr ⟨(Unwanted.no rfl rfl rfl), rfl, rfl, rfl⟩,
      .inr ⟨(Unwanted.no rfl rfl rfl), rfl, rfl, rfl⟩,
      .inr ⟨(Unwanted.no rfl rfl rfl), rfl, rfl, rfl⟩,
      .inl ⟨(Wanted.plain rfl), GOp.cast (g_pick rfl rfl rfl) rfl⟩,
      .inl ⟨(Wanted.plain rfl), GOp.cast (g_move rfl rfl) rfl⟩,
      .inr ⟨(Unwanted.no rfl rfl rfl), rfl, rfl, rfl⟩,
      .inr ⟨(Unwanted.no rfl rfl rfl), rfl, rfl, rfl⟩,
      .inr ⟨(Unwanted.no rfl rfl rfl), rfl, rfl, rfl⟩,
      .inl ⟨(Wanted.plain rfl), GOp.cast (g_pick rfl rfl rfl) rfl⟩,
      .inl ⟨(Wanted.plain rfl), GOp.cast (g_move rfl rfl) rfl⟩,
      .inr ⟨(Unwanted.no rfl rfl rfl), rfl, rfl, rfl⟩,
      .inr ⟨(Unwanted.no rfl rfl rfl), rfl, rfl, rfl⟩,
      .inr ⟨(Unwanted.no rfl rfl rfl), rfl, rfl, rfl⟩,
      .inr ⟨(Unwanted.no rfl rfl rfl), rfl, rfl, rfl⟩,
      .inr ⟨(Unwanted.no rfl rfl rfl), rfl, rfl, rfl⟩,
      .inl ⟨(Wanted.plain rfl), GOp.cast (g_pick rfl rfl rfl) rfl⟩,
      .inl ⟨(Wanted.plain rfl), GOp.cast (g_assign rfl rfl) rfl⟩,
       trivial⟩
      · exact ⟨⟨⟨.inl rfl,  trivial⟩, ⟨.inl rfl,  trivial⟩⟩, ⟨⟨.inr ⟨0, .head _, _, rfl, rfl, rfl⟩,  trivial⟩, ⟨.inl rfl,  trivial⟩⟩, ⟨⟨.inr ⟨1, .head _, _, rfl, rfl, rfl⟩,  trivial⟩, trivial⟩, ⟨⟨.inr ⟨2, .head _, _, rfl, rfl, rfl⟩,  trivial⟩, trivial⟩, ⟨⟨.inl rfl, .inr ⟨3, .head _, _, rfl, rfl, rfl⟩,  trivial⟩, trivial⟩, ⟨⟨.inl rfl, .inr ⟨3, .head _, _, rfl, rfl, rfl⟩,  trivial⟩, trivial⟩, ⟨⟨.inr ⟨5, .tail _ (.head _), _, rfl, rfl, rfl⟩, .inr ⟨3, .head _, _, rfl, rfl, rfl⟩,  trivial⟩, trivial⟩, ⟨⟨.inr ⟨4, .tail _ (.head _), _, rfl, rfl, rfl⟩, .inr ⟨6, .tail _ (.tail _ (.head _)), _, rfl, rfl, rfl⟩, .inr ⟨3, .head _, _, rfl, rfl, rfl⟩,  trivial⟩, trivial⟩, ⟨⟨.inr ⟨3, .head _, _, rfl, rfl, rfl⟩, .inr ⟨7, .tail _ (.head _), _, rfl, rfl, rfl⟩,  trivial⟩, trivial⟩, ⟨⟨.inr ⟨8, .head _, _, rfl, rfl, rfl⟩,  trivial⟩, trivial⟩, ⟨⟨.inl rfl, .inr ⟨9, .head _, _, rfl, rfl, rfl⟩,  trivial⟩, trivial⟩, ⟨⟨.inr ⟨10, .tail _ (.head _), _, rfl, rfl, rfl⟩, .inr ⟨9, .head _, _, rfl, rfl, rfl⟩,  trivial⟩, trivial⟩, ⟨⟨.inl rfl, .inr ⟨9, .head _, _, rfl, rfl, rfl⟩,  trivial⟩, trivial⟩, ⟨⟨.inr ⟨12, .tail _ (.head _), _, rfl, rfl, rfl⟩, .inr ⟨9, .head _, _, rfl, rfl, rfl⟩,  trivial⟩, trivial⟩, ⟨⟨.inl rfl, .inr ⟨9, .head _, _, rfl, rfl, rfl⟩,  trivial⟩, trivial⟩, ⟨⟨.inr ⟨13, .tail _ (.head _), _, rfl, rfl, rfl⟩, .inr ⟨14, .tail _ (.tail _ (.head _)), _, rfl, rfl, rfl⟩, .inr ⟨9, .head _, _, rfl, rfl, rfl⟩,  trivial⟩, trivial⟩, ⟨⟨.inr ⟨11, .tail _ (.head _), _, rfl, rfl, rfl⟩, .inr ⟨15, .tail _ (.tail _ (.head _)), _, rfl, rfl, rfl⟩, .inr ⟨9, .head _, _, rfl, rfl, rfl⟩,  trivial⟩, trivial⟩, ⟨⟨.inr ⟨9, .head _, _, rfl, rfl, rfl⟩, .inr ⟨16, .tail _ (.head _), _, rfl, rfl, rfl⟩,  trivial⟩, trivial⟩, ⟨⟨.inr ⟨17, .head _, _, rfl, rfl, rfl⟩,  trivial⟩, trivial⟩, ⟨⟨.inl rfl, .inr ⟨18, .head _, _, rfl, rfl, rfl⟩,  trivial⟩, trivial⟩, ⟨⟨.inr ⟨19, .tail _ (.head _), _, rfl, rfl, rfl⟩, .inr ⟨18, .head _, _, rfl, rfl, rfl⟩,  trivial⟩, trivial⟩, ⟨⟨.inr ⟨20, .tail _ (.head _), _, rfl, rfl, rfl⟩, .inr ⟨18, .head _, _, rfl, rfl, rfl⟩,  trivial⟩, trivial⟩, ⟨⟨.inr ⟨18, .head _, _, rfl, rfl, rfl⟩, .inr ⟨21, .tail _ (.head _), _, rfl, rfl, rfl⟩,  trivial⟩, trivial⟩, ⟨⟨.inr ⟨22, .head _, _, rfl, rfl, rfl⟩,  trivial⟩, trivial⟩, ⟨⟨.inl rfl, .inr ⟨23, .head _, _, rfl, rfl, rfl⟩,  trivial⟩, trivial⟩, ⟨⟨.inr ⟨24, .tail _ (.head _), _, rfl, rfl, rfl⟩, .inr ⟨23, .head _, _, rfl, rfl, rfl⟩,  trivial⟩, trivial⟩, ⟨⟨.inl rfl, .inr ⟨23, .head _, _, rfl, rfl, rfl⟩,  trivial⟩, trivial⟩, ⟨⟨.inr ⟨26, .tail _ (.head _), _, rfl, rfl, rfl⟩, .inr ⟨23, .head _, _, rfl, rfl, rfl⟩,  trivial⟩, trivial⟩, ⟨⟨.inr ⟨25, .tail _ (.head _), _, rfl, rfl, rfl⟩, .inr ⟨27, .tail _ (.tail _ (.head _)), _, rfl, rfl, rfl⟩, .inr ⟨23, .head _, _, rfl, rfl, rfl⟩,  trivial⟩, trivial⟩, ⟨⟨.inr ⟨23, .head _, _, rfl, rfl, rfl⟩, .inr ⟨28, .tail _ (.head _), _, rfl, rfl, rfl⟩,  trivial⟩, trivial⟩, ⟨⟨.inr ⟨29, .head _, _, rfl, rfl, rfl⟩,  trivial⟩, trivial⟩,  trivial⟩
      · exact ⟨⟨.inl rfl, .inl rfl, .inl rfl, .inr ⟨30, _, rfl, rfl, rfl⟩,  trivial⟩, ⟨.inl rfl, .inl rfl, .inl rfl,  trivial⟩⟩
      ·
        refine AL.nil ?_
        refine then_ok ?_
        refine AC.ret ?_
        refine retQ_mk (av' := outOf [(.c (cB false))]) (nb' := []) (retQ_ret ⟨[(6, (aB false))], [], 0⟩ [.tmp 6] [(.c (cB false))] (Weak.ren id (⟨by first | rfl | (simp only [AV.map, GV.map, CV.map, AB.map', id]; done) | (congr 3; omega) | (congr 4; omega) | (simp only [List.length_append, List.length_cons, List.length_nil, List.length_set]; rfl),  trivial⟩) (trivial) rfl) rfl ⟨.tmp rfl, trivial⟩ trivial) ?_ ?_
        · exact congrArg aB (show (false) = true by (have hz := hf0.1 (by omega); first | (exfalso; omega) | (simp only [decide_eq_true_eq]; omega)))
        · rfl
end Go.Proofs.Ytgmcdlfmifijlaa.Dev
