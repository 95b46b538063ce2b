/- CardShifts. -/
import Derived.Test.YtgmcdlfmifijlaaDCard4
set_option linter.unusedVariables false
set_option linter.unusedSimpArgs false
namespace Go.Proofs.Ytgmcdlfmifijlaa.Dev
open Go.RowKit

set_option maxRecDepth 100000 in
set_option maxHeartbeats 1000000 in
theorem c_CardShifts (c : Card) (a b m n : Int) : Fn Try.prog 20 [(.g [(cI c.money), (cI c.held), (cI c.pace.ticks), (cI c.pace.count), (cI c.pace.sum), (cR 2 ((c.uses).map rUse))]), (.c (cI a)), (.c (cI b)), (.c (cI m)), (.c (cI n))] (aB true) [] := by
  refine Fn.mk' 75 [(0, (aG [(cI c.money), (cI c.held), (cI c.pace.ticks), (cI c.pace.count), (cI c.pace.sum), (cR 2 ((c.uses).map rUse))])), (1, (aI a)), (2, (aI b)), (3, (aI m)), (4, (aI n))] Try.func20 rfl rfl rfl rfl ?_
  intro W0 T0
  refine AC.lenG 0 5 rfl rfl (fun hlen0_5 => ?_)
  have hrc := @rightC c
  have hrl := @rightC_len c
  refine AC.seq ?_
  refine AC.region ?_
  refine AL.new (n' := 1) (Wanted.plain rfl) (g_boxS 0 rfl rfl) rfl rfl rfl ?_
  refine AL.fast 1 rfl ?_
  refine AL.nil ?_
  refine then_ok ?_
  refine AC.seq ?_
  refine AC.seq ?_
  refine AC.region ?_
  refine AL.call (n' := 1) (h' := [(0, (.box 92 [(cI c.money), (cI c.held), (cI c.pace.ticks), (cI c.pace.count), (cI c.pace.sum), (cR 2 ((c.uses).map rUse))]))]) (Wanted.plain rfl) (g_call 1 (c_card_alive   ) en68 rfl rfl trivial trivial trivial rfl rfl rfl rfl) rfl rfl rfl rfl rfl ?_
  refine AL.val (Wanted.plain rfl) (g_notB rfl rfl) rfl rfl ?_
  refine AL.nil ?_
  refine then_ok ?_
  refine AC.cond rfl (fun hno => by cases hno) (fun _ => ?_)
  refine AC.skip ?_
  refine then_ok ?_
  refine AC.seq ?_
  refine AC.region ?_
  refine AL.val (Wanted.plain rfl) (g_loadBs rfl rfl rfl Try.underlying92 rfl sz92 rfl rfl) rfl rfl ?_
  refine AL.fast 2 rfl ?_
  obtain ⟨x0, e0, hr0⟩ : ∃ (x0 : Card) (e0 : Int), shiftC c a m = (x0, e0) := ⟨_, _, rfl⟩
  have hf0 := shift_bounds hr0
  refine AL.call (n' := 2) (h' := [(1, (.arr 44 2 ((x0.uses).map rUse))), (0, (.box 92 [(cI c.money), (cI c.held), (cI c.pace.ticks), (cI c.pace.count), (cI c.pace.sum), (cR 2 ((c.uses).map rUse))]))]) (Wanted.plain rfl) (g_call 1 (c_card_Shift c a m  x0 e0 hr0) en74 rfl rfl ⟨⟨_, rfl, .g ⟨.d _, .d _, .d _, .d _, .d _, .d _,  trivial⟩⟩, ⟨_, rfl, .c (.d _)⟩, ⟨_, rfl, .c (.d _)⟩,  trivial⟩ ⟨⟨trivial, trivial, trivial, trivial, trivial, trivial,  trivial⟩, trivial,  trivial⟩ ⟨(fun _ _ _ _ => trivial),  trivial⟩ rfl rfl rfl rfl) rfl rfl rfl rfl rfl ?_
  refine AL.fast 1 rfl ?_
  refine AL.val (Wanted.plain rfl) (g_extract rfl rfl rfl) rfl rfl ?_
  refine AL.val (Wanted.plain rfl) (g_extract rfl rfl rfl) rfl rfl ?_
  refine AL.new (n' := 3) (Wanted.plain rfl) (g_alloc 2 rfl zv92 rfl rfl rfl) rfl rfl rfl ?_
  refine AL.sto (h' := [(2, (.box 92 [(cI x0.money), (cI x0.held), (cI x0.pace.ticks), (cI x0.pace.count), (cI x0.pace.sum), (.s 1 0 2 x0.uses.length)])), (1, (.arr 44 2 ((x0.uses).map rUse))), (0, (.box 92 [(cI c.money), (cI c.held), (cI c.pace.ticks), (cI c.pace.count), (cI c.pace.sum), (cR 2 ((c.uses).map rUse))]))]) (Wanted.plain rfl) (g_storeB rfl rfl rfl rfl rfl sz92 rfl (Nat.le_of_ble_eq_true rfl) rfl) rfl rfl rfl rfl ?_
  refine AL.fast 1 rfl ?_
  refine AL.nil ?_
  refine then_ok ?_
  refine AC.seq ?_
  refine AC.seq ?_
  refine AC.region ?_
  refine AL.fast 1 rfl ?_
  refine AL.val (Wanted.plain rfl) (g_binI rfl rfl rfl rfl) rfl rfl ?_
  refine AL.nil ?_
  refine then_ok ?_
  refine AC.cond rfl (fun hc2 => ?_) (fun hc2 => ?_)
  ·
    have hc2' := hc2; try simp only [sumB, Bool.not_eq_true', Bool.not_eq_false', Bool.or_eq_true, Bool.or_eq_false_iff, Bool.and_eq_true, Bool.and_eq_false_imp, decide_eq_true_eq, decide_eq_false_iff_not, Bool.not_not, Bool.not_true, Bool.not_false] at hc2'
    refine AC.seq ?_
    refine AC.region ?_
    refine AL.fast 1 rfl ?_
    refine AL.nil ?_
    refine then_ok ?_
    refine AC.ret ?_
    refine then_ret ?_
    refine retQ_mk (av' := outOf [(.c (cB true))]) (nb' := []) (retQ_ret ⟨[(10, (aB true))], [], 0⟩ [.tmp 10] [(.c (cB true))] (Weak.ren id (⟨by first | rfl | (simp only [AV.map, GV.map, CV.map, AB.map', id]; done) | (congr 3; omega) | (congr 4; omega) | (simp only [List.length_append, List.length_cons, List.length_nil, List.length_set]; rfl),  trivial⟩) (trivial) rfl) rfl ⟨.tmp rfl, trivial⟩ trivial) ?_ ?_
    · rfl
    · rfl
  ·
    have hc2' := hc2; try simp only [sumB, Bool.not_eq_true', Bool.not_eq_false', Bool.or_eq_true, Bool.or_eq_false_iff, Bool.and_eq_true, Bool.and_eq_false_imp, decide_eq_true_eq, decide_eq_false_iff_not, Bool.not_not, Bool.not_true, Bool.not_false] at hc2'
    refine AC.skip ?_
    refine then_ok ?_
    refine AC.seq ?_
    refine AC.region ?_
    refine AL.val (Wanted.plain rfl) (g_loadBs rfl rfl rfl Try.underlying92 rfl sz92 rfl rfl) rfl rfl ?_
    refine AL.fast 1 rfl ?_
    refine AL.val (Wanted.plain rfl) (g_negI rfl rfl (wrap_ok (by first | omega | (simp; done) | (simp; omega)))) rfl rfl ?_
    refine AL.fast 1 rfl ?_
    refine AL.val (Wanted.plain rfl) (g_negI rfl rfl (wrap_ok (by first | omega | (simp; done) | (simp; omega)))) rfl rfl ?_
    obtain ⟨x1, e1, hr1⟩ : ∃ (x1 : Card) (e1 : Int), shiftC x0 (0 - a) (0 - m) = (x1, e1) := ⟨_, _, rfl⟩
    have hf1 := shift_bounds hr1
    refine AL.call (n' := 4) (h' := [(3, (.arr 44 2 ((x1.uses).map rUse))), (2, (.box 92 [(cI x0.money), (cI x0.held), (cI x0.pace.ticks), (cI x0.pace.count), (cI x0.pace.sum), (.s 1 0 2 x0.uses.length)])), (1, (.arr 44 2 ((x0.uses).map rUse))), (0, (.box 92 [(cI c.money), (cI c.held), (cI c.pace.ticks), (cI c.pace.count), (cI c.pace.sum), (cR 2 ((c.uses).map rUse))]))]) (Wanted.plain rfl) (g_callE 3 [1] (c_card_Shift x0 (0 - a) (0 - m)  x1 e1 hr1) en74 rfl rfl ⟨⟨_, rfl, .g ⟨.d _, .d _, .d _, .d _, .d _, .s rfl (by decide) (by first | omega | (simp; done) | (simp; omega)),  trivial⟩⟩, ⟨_, rfl, .c (.d _)⟩, ⟨_, rfl, .c (.d _)⟩,  trivial⟩ ⟨⟨rfl, rfl, rfl, rfl, rfl, trivial,  trivial⟩, rfl,  trivial⟩ ⟨(isv_rUse _),  trivial⟩ rfl rfl rfl rfl) rfl rfl rfl rfl rfl ?_
    refine AL.fast 1 rfl ?_
    refine AL.val (Wanted.plain rfl) (g_extract rfl rfl rfl) rfl rfl ?_
    refine AL.val (Wanted.plain rfl) (g_extract rfl rfl rfl) rfl rfl ?_
    refine AL.new (n' := 5) (Wanted.plain rfl) (g_alloc 4 rfl zv92 rfl rfl rfl) rfl rfl rfl ?_
    refine AL.sto (h' := [(4, (.box 92 [(cI x1.money), (cI x1.held), (cI x1.pace.ticks), (cI x1.pace.count), (cI x1.pace.sum), (.s 3 0 2 x1.uses.length)])), (3, (.arr 44 2 ((x1.uses).map rUse))), (2, (.box 92 [(cI x0.money), (cI x0.held), (cI x0.pace.ticks), (cI x0.pace.count), (cI x0.pace.sum), (.s 1 0 2 x0.uses.length)])), (1, (.arr 44 2 ((x0.uses).map rUse))), (0, (.box 92 [(cI c.money), (cI c.held), (cI c.pace.ticks), (cI c.pace.count), (cI c.pace.sum), (cR 2 ((c.uses).map rUse))]))]) (Wanted.plain rfl) (g_storeB rfl rfl rfl rfl rfl sz92 rfl (Nat.le_of_ble_eq_true rfl) rfl) rfl rfl rfl rfl ?_
    refine AL.fast 1 rfl ?_
    refine AL.nil ?_
    refine then_ok ?_
    refine AC.seq ?_
    obtain ⟨r2, hr2⟩ : ∃ (r2 : Bool), sameC x1 c = r2 := ⟨_, rfl⟩
    refine AC.cutB 43 ((decide (¬ e1 = 0)) || (!r2)) ?_ ?_
    ·
      refine AC.region ?_
      refine AL.fast 1 rfl ?_
      refine AL.val (Wanted.plain rfl) (g_binI rfl rfl rfl rfl) rfl rfl ?_
      refine AL.fast 1 rfl ?_
      refine AL.dec (t := 38) rfl (fun hb3 => ?_) (fun hb3 => ?_)
      ·
        have hb3' := hb3; try simp only [sumB, Bool.not_eq_true', Bool.not_eq_false', Bool.or_eq_true, Bool.or_eq_false_iff, Bool.and_eq_true, Bool.and_eq_false_imp, decide_eq_true_eq, decide_eq_false_iff_not, Bool.not_not, Bool.not_true, Bool.not_false] at hb3'
        refine AL.fast 5 rfl ?_
        refine AL.nil ?_
        refine then_ok ?_
        exact Weak.popB 9 rfl rfl (by first | (simp [hb3]; done) | (simp_all; done) | (exfalso; simp_all; done) | (simp_all; omega)) rfl
      ·
        have hb3' := hb3; try simp only [sumB, Bool.not_eq_true', Bool.not_eq_false', Bool.or_eq_true, Bool.or_eq_false_iff, Bool.and_eq_true, Bool.and_eq_false_imp, decide_eq_true_eq, decide_eq_false_iff_not, Bool.not_not, Bool.not_true, Bool.not_false] at hb3'
        refine AL.val (Wanted.yes rfl rfl rfl) (g_loadBs rfl rfl rfl Try.underlying92 rfl sz92 rfl rfl) rfl rfl ?_
        refine AL.val (Wanted.yes rfl rfl rfl) (g_loadBs rfl rfl rfl Try.underlying92 rfl sz92 rfl rfl) rfl rfl ?_
        refine AL.call (n' := 5) (h' := [(4, (.box 92 [(cI x1.money), (cI x1.held), (cI x1.pace.ticks), (cI x1.pace.count), (cI x1.pace.sum), (.s 3 0 2 x1.uses.length)])), (3, (.arr 44 2 ((x1.uses).map rUse))), (2, (.box 92 [(cI x0.money), (cI x0.held), (cI x0.pace.ticks), (cI x0.pace.count), (cI x0.pace.sum), (.s 1 0 2 x0.uses.length)])), (1, (.arr 44 2 ((x0.uses).map rUse))), (0, (.box 92 [(cI c.money), (cI c.held), (cI c.pace.ticks), (cI c.pace.count), (cI c.pace.sum), (cR 2 ((c.uses).map rUse))]))]) (Wanted.yes rfl rfl rfl) (g_callE 5 [3] (c_SameCard x1 c  r2 hr2) en70 rfl rfl ⟨⟨_, rfl, .g ⟨.d _, .d _, .d _, .d _, .d _, .s rfl (by decide) (by first | omega | (simp; done) | (simp; omega)),  trivial⟩⟩, ⟨_, rfl, .g ⟨.d _, .d _, .d _, .d _, .d _, .d _,  trivial⟩⟩,  trivial⟩ rfl trivial rfl rfl rfl rfl) rfl rfl rfl rfl rfl ?_
        refine AL.val (Wanted.yes rfl rfl rfl) (g_notB rfl rfl) rfl rfl ?_
        refine AL.fast 1 rfl ?_
        refine AL.nil ?_
        refine then_ok ?_
        exact Weak.popB 9 rfl rfl (by first | (simp [hb3]; done) | (simp_all; done) | (exfalso; simp_all; done) | (simp_all; omega)) rfl
    ·
      refine AC.cond rfl (fun hc4 => ?_) (fun hc4 => ?_)
      ·
        have hc4' := hc4; try simp only [sumB, Bool.not_eq_true', Bool.not_eq_false', Bool.or_eq_true, Bool.or_eq_false_iff, Bool.and_eq_true, Bool.and_eq_false_imp, decide_eq_true_eq, decide_eq_false_iff_not, Bool.not_not, Bool.not_true, Bool.not_false] at hc4'
        refine AC.seq ?_
        refine AC.region ?_
        refine AL.fast 1 rfl ?_
        refine AL.nil ?_
        refine then_ok ?_
        refine AC.ret ?_
        refine then_ret ?_
        refine retQ_mk (av' := outOf [(.c (cB false))]) (nb' := []) (retQ_ret ⟨[(10, (aB false))], [], 0⟩ [.tmp 10] [(.c (cB false))] (Weak.ren id (⟨by first | rfl | (simp only [AV.map, GV.map, CV.map, AB.map', id]; done) | (congr 3; omega) | (congr 4; omega) | (simp only [List.length_append, List.length_cons, List.length_nil, List.length_set]; rfl),  trivial⟩) (trivial) rfl) rfl ⟨.tmp rfl, trivial⟩ trivial) ?_ ?_
        · exact congrArg aB (show (false) = true by (exfalso; obtain rfl : e0 = 0 := (by omega); obtain ⟨h1, rfl⟩ := shift_back hr0 hr1; have h9 := hr2; rw [sameC_self] at h9; subst h9; simp at hc4'; omega))
        · rfl
      ·
        have hc4' := hc4; try simp only [sumB, Bool.not_eq_true', Bool.not_eq_false', Bool.or_eq_true, Bool.or_eq_false_iff, Bool.and_eq_true, Bool.and_eq_false_imp, decide_eq_true_eq, decide_eq_false_iff_not, Bool.not_not, Bool.not_true, Bool.not_false] at hc4'
        refine AC.skip ?_
        refine then_ok ?_
        refine AC.seq ?_
        refine AC.region ?_
        refine AL.val (Wanted.plain rfl) (g_loadBs rfl rfl rfl Try.underlying92 rfl sz92 rfl rfl) rfl rfl ?_
        refine AL.fast 2 rfl ?_
        obtain ⟨x3, e3, hr3⟩ : ∃ (x3 : Card) (e3 : Int), shiftC x0 b n = (x3, e3) := ⟨_, _, rfl⟩
        have hf3 := shift_bounds hr3
        refine AL.call (n' := 6) (h' := [(5, (.arr 44 2 ((x3.uses).map rUse))), (4, (.box 92 [(cI x1.money), (cI x1.held), (cI x1.pace.ticks), (cI x1.pace.count), (cI x1.pace.sum), (.s 3 0 2 x1.uses.length)])), (3, (.arr 44 2 ((x1.uses).map rUse))), (2, (.box 92 [(cI x0.money), (cI x0.held), (cI x0.pace.ticks), (cI x0.pace.count), (cI x0.pace.sum), (.s 1 0 2 x0.uses.length)])), (1, (.arr 44 2 ((x0.uses).map rUse))), (0, (.box 92 [(cI c.money), (cI c.held), (cI c.pace.ticks), (cI c.pace.count), (cI c.pace.sum), (cR 2 ((c.uses).map rUse))]))]) (Wanted.plain rfl) (g_callE 5 [1] (c_card_Shift x0 b n  x3 e3 hr3) en74 rfl rfl ⟨⟨_, rfl, .g ⟨.d _, .d _, .d _, .d _, .d _, .s rfl (by decide) (by first | omega | (simp; done) | (simp; omega)),  trivial⟩⟩, ⟨_, rfl, .c (.d _)⟩, ⟨_, rfl, .c (.d _)⟩,  trivial⟩ ⟨⟨rfl, rfl, rfl, rfl, rfl, trivial,  trivial⟩, rfl,  trivial⟩ ⟨(isv_rUse _),  trivial⟩ rfl rfl rfl rfl) rfl rfl rfl rfl rfl ?_
        refine AL.fast 1 rfl ?_
        refine AL.val (Wanted.plain rfl) (g_extract rfl rfl rfl) rfl rfl ?_
        refine AL.val (Wanted.plain rfl) (g_extract rfl rfl rfl) rfl rfl ?_
        refine AL.new (n' := 7) (Wanted.plain rfl) (g_alloc 6 rfl zv92 rfl rfl rfl) rfl rfl rfl ?_
        refine AL.sto (h' := [(6, (.box 92 [(cI x3.money), (cI x3.held), (cI x3.pace.ticks), (cI x3.pace.count), (cI x3.pace.sum), (.s 5 0 2 x3.uses.length)])), (5, (.arr 44 2 ((x3.uses).map rUse))), (4, (.box 92 [(cI x1.money), (cI x1.held), (cI x1.pace.ticks), (cI x1.pace.count), (cI x1.pace.sum), (.s 3 0 2 x1.uses.length)])), (3, (.arr 44 2 ((x1.uses).map rUse))), (2, (.box 92 [(cI x0.money), (cI x0.held), (cI x0.pace.ticks), (cI x0.pace.count), (cI x0.pace.sum), (.s 1 0 2 x0.uses.length)])), (1, (.arr 44 2 ((x0.uses).map rUse))), (0, (.box 92 [(cI c.money), (cI c.held), (cI c.pace.ticks), (cI c.pace.count), (cI c.pace.sum), (cR 2 ((c.uses).map rUse))]))]) (Wanted.plain rfl) (g_storeB rfl rfl rfl rfl rfl sz92 rfl (Nat.le_of_ble_eq_true rfl) rfl) rfl rfl rfl rfl ?_
        refine AL.fast 1 rfl ?_
        refine AL.nil ?_
        refine then_ok ?_
        refine AC.seq ?_
        refine AC.seq ?_
        refine AC.region ?_
        refine AL.fast 1 rfl ?_
        refine AL.val (Wanted.plain rfl) (g_binI rfl rfl rfl rfl) rfl rfl ?_
        refine AL.nil ?_
        refine then_ok ?_
        refine AC.cond rfl (fun hc5 => ?_) (fun hc5 => ?_)
        ·
          have hc5' := hc5; try simp only [sumB, Bool.not_eq_true', Bool.not_eq_false', Bool.or_eq_true, Bool.or_eq_false_iff, Bool.and_eq_true, Bool.and_eq_false_imp, decide_eq_true_eq, decide_eq_false_iff_not, Bool.not_not, Bool.not_true, Bool.not_false] at hc5'
          refine AC.seq ?_
          refine AC.region ?_
          refine AL.fast 1 rfl ?_
          refine AL.nil ?_
          refine then_ok ?_
          refine AC.ret ?_
          refine then_ret ?_
          refine retQ_mk (av' := outOf [(.c (cB true))]) (nb' := []) (retQ_ret ⟨[(10, (aB true))], [], 0⟩ [.tmp 10] [(.c (cB true))] (Weak.ren id (⟨by first | rfl | (simp only [AV.map, GV.map, CV.map, AB.map', id]; done) | (congr 3; omega) | (congr 4; omega) | (simp only [List.length_append, List.length_cons, List.length_nil, List.length_set]; rfl),  trivial⟩) (trivial) rfl) rfl ⟨.tmp rfl, trivial⟩ trivial) ?_ ?_
          · rfl
          · rfl
        ·
          have hc5' := hc5; try simp only [sumB, Bool.not_eq_true', Bool.not_eq_false', Bool.or_eq_true, Bool.or_eq_false_iff, Bool.and_eq_true, Bool.and_eq_false_imp, decide_eq_true_eq, decide_eq_false_iff_not, Bool.not_not, Bool.not_true, Bool.not_false] at hc5'
          refine AC.skip ?_
          refine then_ok ?_
          refine AC.seq ?_
          refine AC.region ?_
          refine AL.val (Wanted.plain rfl) (g_loadBs rfl rfl rfl Try.underlying92 rfl sz92 rfl rfl) rfl rfl ?_
          refine AL.fast 2 rfl ?_
          refine AL.val (Wanted.plain rfl) (g_binI rfl rfl rfl (wrap_ok (by first | omega | (simp; done) | (simp; omega)))) rfl rfl ?_
          refine AL.fast 2 rfl ?_
          refine AL.val (Wanted.plain rfl) (g_binI rfl rfl rfl (wrap_ok (by first | omega | (simp; done) | (simp; omega)))) rfl rfl ?_
          obtain ⟨x4, e4, hr4⟩ : ∃ (x4 : Card) (e4 : Int), shiftC c (a + b) (m + n) = (x4, e4) := ⟨_, _, rfl⟩
          have hf4 := shift_bounds hr4
          refine AL.call (n' := 8) (h' := [(7, (.arr 44 2 ((x4.uses).map rUse))), (6, (.box 92 [(cI x3.money), (cI x3.held), (cI x3.pace.ticks), (cI x3.pace.count), (cI x3.pace.sum), (.s 5 0 2 x3.uses.length)])), (5, (.arr 44 2 ((x3.uses).map rUse))), (4, (.box 92 [(cI x1.money), (cI x1.held), (cI x1.pace.ticks), (cI x1.pace.count), (cI x1.pace.sum), (.s 3 0 2 x1.uses.length)])), (3, (.arr 44 2 ((x1.uses).map rUse))), (2, (.box 92 [(cI x0.money), (cI x0.held), (cI x0.pace.ticks), (cI x0.pace.count), (cI x0.pace.sum), (.s 1 0 2 x0.uses.length)])), (1, (.arr 44 2 ((x0.uses).map rUse))), (0, (.box 92 [(cI c.money), (cI c.held), (cI c.pace.ticks), (cI c.pace.count), (cI c.pace.sum), (cR 2 ((c.uses).map rUse))]))]) (Wanted.plain rfl) (g_call 7 (c_card_Shift c (a + b) (m + n)  x4 e4 hr4) en74 rfl rfl ⟨⟨_, rfl, .g ⟨.d _, .d _, .d _, .d _, .d _, .d _,  trivial⟩⟩, ⟨_, rfl, .c (.d _)⟩, ⟨_, rfl, .c (.d _)⟩,  trivial⟩ ⟨⟨trivial, trivial, trivial, trivial, trivial, trivial,  trivial⟩, trivial,  trivial⟩ ⟨(fun _ _ _ _ => trivial),  trivial⟩ rfl rfl rfl rfl) rfl rfl rfl rfl rfl ?_
          refine AL.fast 1 rfl ?_
          refine AL.val (Wanted.plain rfl) (g_extract rfl rfl rfl) rfl rfl ?_
          refine AL.val (Wanted.plain rfl) (g_extract rfl rfl rfl) rfl rfl ?_
          refine AL.new (n' := 9) (Wanted.plain rfl) (g_alloc 8 rfl zv92 rfl rfl rfl) rfl rfl rfl ?_
          refine AL.sto (h' := [(8, (.box 92 [(cI x4.money), (cI x4.held), (cI x4.pace.ticks), (cI x4.pace.count), (cI x4.pace.sum), (.s 7 0 2 x4.uses.length)])), (7, (.arr 44 2 ((x4.uses).map rUse))), (6, (.box 92 [(cI x3.money), (cI x3.held), (cI x3.pace.ticks), (cI x3.pace.count), (cI x3.pace.sum), (.s 5 0 2 x3.uses.length)])), (5, (.arr 44 2 ((x3.uses).map rUse))), (4, (.box 92 [(cI x1.money), (cI x1.held), (cI x1.pace.ticks), (cI x1.pace.count), (cI x1.pace.sum), (.s 3 0 2 x1.uses.length)])), (3, (.arr 44 2 ((x1.uses).map rUse))), (2, (.box 92 [(cI x0.money), (cI x0.held), (cI x0.pace.ticks), (cI x0.pace.count), (cI x0.pace.sum), (.s 1 0 2 x0.uses.length)])), (1, (.arr 44 2 ((x0.uses).map rUse))), (0, (.box 92 [(cI c.money), (cI c.held), (cI c.pace.ticks), (cI c.pace.count), (cI c.pace.sum), (cR 2 ((c.uses).map rUse))]))]) (Wanted.plain rfl) (g_storeB rfl rfl rfl rfl rfl sz92 rfl (Nat.le_of_ble_eq_true rfl) rfl) rfl rfl rfl rfl ?_
          refine AL.fast 1 rfl ?_
          refine AL.nil ?_
          refine then_ok ?_
          obtain ⟨r5, hr5⟩ : ∃ (r5 : Bool), sameC x3 x4 = r5 := ⟨_, rfl⟩
          refine AC.cutB 10 ((decide (e4 = 3)) || ((decide (e4 = 0)) && r5)) ?_ ?_
          ·
            refine AC.region ?_
            refine AL.fast 1 rfl ?_
            refine AL.val (Wanted.plain rfl) (g_binI rfl rfl rfl rfl) rfl rfl ?_
            refine AL.fast 1 rfl ?_
            refine AL.dec (t := 66) rfl (fun hb6 => ?_) (fun hb6 => ?_)
            ·
              have hb6' := hb6; try simp only [sumB, Bool.not_eq_true', Bool.not_eq_false', Bool.or_eq_true, Bool.or_eq_false_iff, Bool.and_eq_true, Bool.and_eq_false_imp, decide_eq_true_eq, decide_eq_false_iff_not, Bool.not_not, Bool.not_true, Bool.not_false] at hb6'
              refine AL.fast 9 rfl ?_
              refine AL.nil ?_
              refine then_ok ?_
              exact Weak.popB 13 rfl rfl (by first | (simp [hb6]; done) | (simp_all; done) | (exfalso; simp_all; done) | (simp_all; omega)) rfl
            ·
              have hb6' := hb6; try simp only [sumB, Bool.not_eq_true', Bool.not_eq_false', Bool.or_eq_true, Bool.or_eq_false_iff, Bool.and_eq_true, Bool.and_eq_false_imp, decide_eq_true_eq, decide_eq_false_iff_not, Bool.not_not, Bool.not_true, Bool.not_false] at hb6'
              refine AL.fast 1 rfl ?_
              refine AL.val (Wanted.yes rfl rfl rfl) (g_binI rfl rfl rfl rfl) rfl rfl ?_
              refine AL.fast 1 rfl ?_
              refine AL.dec (t := 69) rfl (fun hb7 => ?_) (fun hb7 => ?_)
              ·
                have hb7' := hb7; try simp only [sumB, Bool.not_eq_true', Bool.not_eq_false', Bool.or_eq_true, Bool.or_eq_false_iff, Bool.and_eq_true, Bool.and_eq_false_imp, decide_eq_true_eq, decide_eq_false_iff_not, Bool.not_not, Bool.not_true, Bool.not_false] at hb7'
                refine AL.val (Wanted.yes rfl rfl rfl) (g_loadBs rfl rfl rfl Try.underlying92 rfl sz92 rfl rfl) rfl rfl ?_
                refine AL.val (Wanted.yes rfl rfl rfl) (g_loadBs rfl rfl rfl Try.underlying92 rfl sz92 rfl rfl) rfl rfl ?_
                refine AL.call (n' := 9) (h' := [(8, (.box 92 [(cI x4.money), (cI x4.held), (cI x4.pace.ticks), (cI x4.pace.count), (cI x4.pace.sum), (.s 7 0 2 x4.uses.length)])), (7, (.arr 44 2 ((x4.uses).map rUse))), (6, (.box 92 [(cI x3.money), (cI x3.held), (cI x3.pace.ticks), (cI x3.pace.count), (cI x3.pace.sum), (.s 5 0 2 x3.uses.length)])), (5, (.arr 44 2 ((x3.uses).map rUse))), (4, (.box 92 [(cI x1.money), (cI x1.held), (cI x1.pace.ticks), (cI x1.pace.count), (cI x1.pace.sum), (.s 3 0 2 x1.uses.length)])), (3, (.arr 44 2 ((x1.uses).map rUse))), (2, (.box 92 [(cI x0.money), (cI x0.held), (cI x0.pace.ticks), (cI x0.pace.count), (cI x0.pace.sum), (.s 1 0 2 x0.uses.length)])), (1, (.arr 44 2 ((x0.uses).map rUse))), (0, (.box 92 [(cI c.money), (cI c.held), (cI c.pace.ticks), (cI c.pace.count), (cI c.pace.sum), (cR 2 ((c.uses).map rUse))]))]) (Wanted.yes rfl rfl rfl) (g_callE 9 [5, 7] (c_SameCard x3 x4  r5 hr5) en70 rfl rfl ⟨⟨_, rfl, .g ⟨.d _, .d _, .d _, .d _, .d _, .s rfl (by decide) (by first | omega | (simp; done) | (simp; omega)),  trivial⟩⟩, ⟨_, rfl, .g ⟨.d _, .d _, .d _, .d _, .d _, .s rfl (by decide) (by first | omega | (simp; done) | (simp; omega)),  trivial⟩⟩,  trivial⟩ rfl trivial rfl rfl rfl rfl) rfl rfl rfl rfl rfl ?_
                refine AL.fast 3 rfl ?_
                refine AL.nil ?_
                refine then_ok ?_
                exact Weak.popB 14 rfl rfl (by first | (simp [hb6, hb7]; done) | (simp_all; done) | (exfalso; simp_all; done) | (simp_all; omega)) rfl
              ·
                have hb7' := hb7; try simp only [sumB, Bool.not_eq_true', Bool.not_eq_false', Bool.or_eq_true, Bool.or_eq_false_iff, Bool.and_eq_true, Bool.and_eq_false_imp, decide_eq_true_eq, decide_eq_false_iff_not, Bool.not_not, Bool.not_true, Bool.not_false] at hb7'
                refine AL.fast 6 rfl ?_
                refine AL.nil ?_
                refine then_ok ?_
                exact Weak.popB 14 rfl rfl (by first | (simp [hb6, hb7]; done) | (simp_all; done) | (exfalso; simp_all; done) | (simp_all; omega)) rfl
          ·
            refine AC.ret ?_
            refine retQ_mk (av' := outOf [(.c (cB ((decide (e4 = 3)) || ((decide (e4 = 0)) && r5))))]) (nb' := []) (retQ_ret ⟨[(10, (aB ((decide (e4 = 3)) || ((decide (e4 = 0)) && r5))))], [], 0⟩ [.tmp 10] [(.c (cB ((decide (e4 = 3)) || ((decide (e4 = 0)) && r5))))] (Weak.ren id (⟨by first | rfl | (simp only [AV.map, GV.map, CV.map, AB.map', id]; done) | (congr 3; omega) | (congr 4; omega) | (simp only [List.length_append, List.length_cons, List.length_nil, List.length_set]; rfl),  trivial⟩) (trivial) rfl) rfl ⟨.tmp rfl, trivial⟩ trivial) ?_ ?_
            · exact congrArg aB (show ((decide (e4 = 3)) || ((decide (e4 = 0)) && r5)) = true by (obtain rfl : e0 = 0 := (by omega); obtain rfl : e3 = 0 := (by omega); rcases shift_two hr0 hr3 hr4 with h1 | ⟨h1, rfl⟩; simp [h1]; (have h9 := hr5; rw [sameC_self] at h9; subst h9; simp [h1])))
            · rfl
end Go.Proofs.Ytgmcdlfmifijlaa.Dev
