/- Laws on permissions. -/
import Derived.Test.YtgmcdlfmifijlaaDAuth2
set_option linter.unusedVariables false
set_option linter.unusedSimpArgs false
namespace Go.Proofs.Ytgmcdlfmifijlaa.Dev
open Go.RowKit

set_option maxRecDepth 100000 in
set_option maxHeartbeats 1000000 in
theorem c_auth_alive  : Fn Try.prog 67 [] (aB true) [] := by
  refine Fn.mk' 40 [] Try.func67 rfl rfl rfl rfl ?_
  intro W0 T0
  refine AC.seq ?_
  refine AC.region ?_
  refine AL.fast 1 rfl ?_
  refine AL.nil ?_
  refine then_ok ?_
  refine AC.seq ?_
  refine AC.region ?_
  have hr0 : newAuth 1 2 100 7 = ((⟨1, 2, 100, 0, 0, 0, 107, false⟩ : Auth), 0) := by decide
  refine AL.call (n' := 0) (h' := []) (Wanted.plain rfl) (g_call 0 (c_auth_New 1 2 100 7  (⟨1, 2, 100, 0, 0, 0, 107, false⟩ : Auth) 0 hr0) en63 rfl rfl ⟨⟨_, rfl, .c (.d _)⟩, ⟨_, rfl, .c (.d _)⟩, ⟨_, rfl, .c (.d _)⟩, ⟨_, rfl, .c (.d _)⟩,  trivial⟩ ⟨⟨trivial, trivial, trivial, trivial, trivial, trivial, trivial, trivial,  trivial⟩, trivial,  trivial⟩ trivial rfl rfl rfl rfl) rfl rfl rfl rfl rfl ?_
  refine AL.fast 1 rfl ?_
  refine AL.val (Wanted.plain rfl) (g_extract rfl rfl rfl) rfl rfl ?_
  refine AL.val (Wanted.plain rfl) (g_extract rfl rfl rfl) rfl rfl ?_
  refine AL.new (n' := 1) (Wanted.plain rfl) (g_alloc 0 rfl zv75 rfl rfl rfl) rfl rfl rfl ?_
  refine AL.sto (h' := [(0, (.box 75 [(cI 1), (cI 2), (cI 100), (cI 0), (cI 0), (cI 0), (cI 107), (cB false)]))]) (Wanted.plain rfl) (g_storeB rfl rfl rfl rfl rfl sz75 rfl (Nat.le_of_ble_eq_true rfl) rfl) rfl rfl rfl rfl ?_
  refine AL.fast 1 rfl ?_
  refine AL.nil ?_
  refine then_ok ?_
  refine AC.seq ?_
  refine AC.region ?_
  refine AL.val (Wanted.plain rfl) (g_loadBs rfl rfl rfl Try.underlying75 rfl sz75 rfl rfl) rfl rfl ?_
  have hr1 : moveAuth (⟨1, 2, 100, 0, 0, 0, 107, false⟩ : Auth) 2 60 = ((⟨1, 2, 100, 60, 0, 0, 107, false⟩ : Auth), 0) := by decide
  refine AL.call (n' := 1) (h' := [(0, (.box 75 [(cI 1), (cI 2), (cI 100), (cI 0), (cI 0), (cI 0), (cI 107), (cB false)]))]) (Wanted.plain rfl) (g_call 1 (c_auth_Move (⟨1, 2, 100, 0, 0, 0, 107, false⟩ : Auth) 2 60  (⟨1, 2, 100, 60, 0, 0, 107, false⟩ : Auth) 0 hr1) en65 rfl rfl ⟨⟨_, rfl, .g ⟨.d _, .d _, .d _, .d _, .d _, .d _, .d _, .d _,  trivial⟩⟩, ⟨_, rfl, .c (.d _)⟩, ⟨_, rfl, .c (.d _)⟩,  trivial⟩ ⟨⟨trivial, trivial, trivial, trivial, trivial, trivial, trivial, trivial,  trivial⟩, trivial,  trivial⟩ trivial rfl rfl rfl rfl) rfl rfl rfl rfl rfl ?_
  refine AL.fast 1 rfl ?_
  refine AL.val (Wanted.plain rfl) (g_extract rfl rfl rfl) rfl rfl ?_
  refine AL.val (Wanted.plain rfl) (g_extract rfl rfl rfl) rfl rfl ?_
  refine AL.new (n' := 2) (Wanted.plain rfl) (g_alloc 1 rfl zv75 rfl rfl rfl) rfl rfl rfl ?_
  refine AL.sto (h' := [(1, (.box 75 [(cI 1), (cI 2), (cI 100), (cI 60), (cI 0), (cI 0), (cI 107), (cB false)])), (0, (.box 75 [(cI 1), (cI 2), (cI 100), (cI 0), (cI 0), (cI 0), (cI 107), (cB false)]))]) (Wanted.plain rfl) (g_storeB rfl rfl rfl rfl rfl sz75 rfl (Nat.le_of_ble_eq_true rfl) rfl) rfl rfl rfl rfl ?_
  refine AL.fast 1 rfl ?_
  refine AL.nil ?_
  refine then_ok ?_
  have hr2 : holdAuth (⟨1, 2, 100, 0, 0, 0, 107, false⟩ : Auth) = 100 := by decide
  have hr3 : holdAuth (⟨1, 2, 100, 60, 0, 0, 107, false⟩ : Auth) = 40 := by decide
  have hr4 : lateAuth (⟨1, 2, 100, 60, 0, 0, 107, false⟩ : Auth) 107 = (⟨1, 2, 100, 60, 0, 0, 107, true⟩ : Auth) := by decide
  refine AC.cutB 0 (((((true || false) || false) || false) || false) || false) ?_ ?_
  ·
    refine AC.region ?_
    refine AL.fast 1 rfl ?_
    refine AL.val (Wanted.plain rfl) (g_binI rfl rfl rfl (show _ = some (Value.bool true) from rfl)) rfl rfl ?_
    refine AL.fast 2 rfl ?_
    refine AL.val (Wanted.yes rfl rfl rfl) (g_binI rfl rfl rfl (show _ = some (Value.bool true) from rfl)) rfl rfl ?_
    refine AL.fast 2 rfl ?_
    refine AL.val (Wanted.yes rfl rfl rfl) (g_loadBs rfl rfl rfl Try.underlying75 rfl sz75 rfl rfl) rfl rfl ?_
    refine AL.call (n' := 2) (h' := [(1, (.box 75 [(cI 1), (cI 2), (cI 100), (cI 60), (cI 0), (cI 0), (cI 107), (cB false)])), (0, (.box 75 [(cI 1), (cI 2), (cI 100), (cI 0), (cI 0), (cI 0), (cI 107), (cB false)]))]) (Wanted.yes rfl rfl rfl) (g_call 2 (c_auth_Hold (⟨1, 2, 100, 0, 0, 0, 107, false⟩ : Auth) (by first | assumption | omega | rfl | decide) 100 hr2) en61 rfl rfl ⟨⟨_, rfl, .g ⟨.d _, .d _, .d _, .d _, .d _, .d _, .d _, .d _,  trivial⟩⟩,  trivial⟩ trivial trivial rfl rfl rfl rfl) rfl rfl rfl rfl rfl ?_
    refine AL.val (Wanted.yes rfl rfl rfl) (g_binI rfl rfl rfl (show _ = some (Value.bool true) from rfl)) rfl rfl ?_
    refine AL.fast 2 rfl ?_
    refine AL.val (Wanted.yes rfl rfl rfl) (g_loadBs rfl rfl rfl Try.underlying75 rfl sz75 rfl rfl) rfl rfl ?_
    refine AL.call (n' := 2) (h' := [(1, (.box 75 [(cI 1), (cI 2), (cI 100), (cI 60), (cI 0), (cI 0), (cI 107), (cB false)])), (0, (.box 75 [(cI 1), (cI 2), (cI 100), (cI 0), (cI 0), (cI 0), (cI 107), (cB false)]))]) (Wanted.yes rfl rfl rfl) (g_call 2 (c_auth_Hold (⟨1, 2, 100, 60, 0, 0, 107, false⟩ : Auth) (by first | assumption | omega | rfl | decide) 40 hr3) en61 rfl rfl ⟨⟨_, rfl, .g ⟨.d _, .d _, .d _, .d _, .d _, .d _, .d _, .d _,  trivial⟩⟩,  trivial⟩ trivial trivial rfl rfl rfl rfl) rfl rfl rfl rfl rfl ?_
    refine AL.val (Wanted.yes rfl rfl rfl) (g_binI rfl rfl rfl (show _ = some (Value.bool true) from rfl)) rfl rfl ?_
    refine AL.fast 2 rfl ?_
    refine AL.val (Wanted.yes rfl rfl rfl) (g_fieldP rfl rfl Try.underlying75 rfl sz3 (by decide)) rfl rfl ?_
    refine AL.val (Wanted.yes rfl rfl rfl) (g_loadB rfl rfl rfl Try.underlying3 rfl rfl) rfl rfl ?_
    refine AL.val (Wanted.yes rfl rfl rfl) (g_binI rfl rfl rfl (show _ = some (Value.bool true) from rfl)) rfl rfl ?_
    refine AL.fast 2 rfl ?_
    refine AL.val (Wanted.yes rfl rfl rfl) (g_loadBs rfl rfl rfl Try.underlying75 rfl sz75 rfl rfl) rfl rfl ?_
    refine AL.call (n' := 2) (h' := [(1, (.box 75 [(cI 1), (cI 2), (cI 100), (cI 60), (cI 0), (cI 0), (cI 107), (cB false)])), (0, (.box 75 [(cI 1), (cI 2), (cI 100), (cI 0), (cI 0), (cI 0), (cI 107), (cB false)]))]) (Wanted.yes rfl rfl rfl) (g_call 2 (c_auth_Late (⟨1, 2, 100, 60, 0, 0, 107, false⟩ : Auth) 107  (⟨1, 2, 100, 60, 0, 0, 107, true⟩ : Auth) hr4) en59 rfl rfl ⟨⟨_, rfl, .g ⟨.d _, .d _, .d _, .d _, .d _, .d _, .d _, .d _,  trivial⟩⟩, ⟨_, rfl, .c (.d _)⟩,  trivial⟩ ⟨trivial, trivial, trivial, trivial, trivial, trivial, trivial, trivial,  trivial⟩ trivial rfl rfl rfl rfl) rfl rfl rfl rfl rfl ?_
    refine AL.val (Wanted.yes rfl rfl rfl) (g_field1 rfl rfl Try.underlying75 rfl Try.underlying4 rfl rfl) rfl rfl ?_
    refine AL.fast 2 rfl ?_
    refine AL.nil ?_
    refine then_ok ?_
    exact Weak.popB 27 rfl rfl (by first | (simp []; done) | (simp_all; done) | (exfalso; simp_all; done) | (simp_all; omega)) rfl
  ·
    refine AC.ret ?_
    refine retQ_mk (av' := outOf [(.c (cB (((((true || false) || false) || false) || false) || false)))]) (nb' := []) (retQ_ret ⟨[(0, (aB (((((true || false) || false) || false) || false) || false)))], [], 0⟩ [.tmp 0] [(.c (cB (((((true || false) || false) || false) || false) || false)))] (Weak.ren id (⟨by first | rfl | (simp only [AV.map, GV.map, CV.map, AB.map', id]; done) | (congr 3; omega) | (congr 4; omega) | (simp only [List.length_append, List.length_cons, List.length_nil, List.length_set]; rfl),  trivial⟩) (trivial) rfl) rfl ⟨.tmp rfl, trivial⟩ trivial) ?_ ?_
    · first | rfl | (simp [outOf, aC]; done) | (simp [outOf, aC]; omega)
    · rfl
set_option maxRecDepth 100000 in
set_option maxHeartbeats 1000000 in
theorem c_AuthShut (a : Auth) (kind n : Int) : Fn Try.prog 15 [(.g [(cI a.card), (cI a.shop), (cI a.sum), (cI a.captured), (cI a.refunded), (cI a.disputed), (cI a.till), (cB a.shut)]), (.c (cI kind)), (.c (cI n))] (aB true) [] := by
  refine Fn.mk' 48 [(0, (aG [(cI a.card), (cI a.shop), (cI a.sum), (cI a.captured), (cI a.refunded), (cI a.disputed), (cI a.till), (cB a.shut)])), (1, (aI kind)), (2, (aI n))] Try.func15 rfl rfl rfl rfl ?_
  intro W0 T0
  refine AC.seq ?_
  refine AC.region ?_
  refine AL.new (n' := 1) (Wanted.plain rfl) (g_boxS 0 rfl rfl) rfl rfl rfl ?_
  refine AL.fast 1 rfl ?_
  refine AL.nil ?_
  refine then_ok ?_
  refine AC.seq ?_
  refine AC.seq ?_
  refine AC.region ?_
  refine AL.call (n' := 1) (h' := [(0, (.box 75 [(cI a.card), (cI a.shop), (cI a.sum), (cI a.captured), (cI a.refunded), (cI a.disputed), (cI a.till), (cB a.shut)]))]) (Wanted.plain rfl) (g_call 1 (c_auth_alive   ) en67 rfl rfl trivial trivial trivial rfl rfl rfl rfl) rfl rfl rfl rfl rfl ?_
  refine AL.val (Wanted.plain rfl) (g_notB rfl rfl) rfl rfl ?_
  refine AL.nil ?_
  refine then_ok ?_
  refine AC.cond rfl (fun hno => by cases hno) (fun _ => ?_)
  refine AC.skip ?_
  refine then_ok ?_
  refine AC.seq ?_
  obtain ⟨e0, hr0⟩ : ∃ (e0 : Int), wrongAuth a = e0 := ⟨_, rfl⟩
  refine AC.cutB 18 ((decide (¬ e0 = 0)) || (!a.shut)) ?_ ?_
  ·
    refine AC.region ?_
    refine AL.val (Wanted.plain rfl) (g_loadBs rfl rfl rfl Try.underlying75 rfl sz75 rfl rfl) rfl rfl ?_
    refine AL.call (n' := 1) (h' := [(0, (.box 75 [(cI a.card), (cI a.shop), (cI a.sum), (cI a.captured), (cI a.refunded), (cI a.disputed), (cI a.till), (cB a.shut)]))]) (Wanted.plain rfl) (g_call 1 (c_auth_Wrong a  e0 hr0) en57 rfl rfl ⟨⟨_, rfl, .g ⟨.d _, .d _, .d _, .d _, .d _, .d _, .d _, .d _,  trivial⟩⟩,  trivial⟩ trivial trivial rfl rfl rfl rfl) rfl rfl rfl rfl rfl ?_
    refine AL.val (Wanted.plain rfl) (g_binI rfl rfl rfl rfl) rfl rfl ?_
    refine AL.fast 1 rfl ?_
    refine AL.dec (t := 14) rfl (fun hb2 => ?_) (fun hb2 => ?_)
    ·
      have hb2' := hb2; try simp only [sumB, Bool.not_eq_true', Bool.not_eq_false', Bool.or_eq_true, Bool.or_eq_false_iff, Bool.and_eq_true, Bool.and_eq_false_imp, decide_eq_true_eq, decide_eq_false_iff_not, Bool.not_not, Bool.not_true, Bool.not_false] at hb2'
      refine AL.fast 4 rfl ?_
      refine AL.nil ?_
      refine then_ok ?_
      exact Weak.popB 9 rfl rfl (by first | (simp [hb2]; done) | (simp_all; done) | (exfalso; simp_all; done) | (simp_all; omega)) rfl
    ·
      have hb2' := hb2; try simp only [sumB, Bool.not_eq_true', Bool.not_eq_false', Bool.or_eq_true, Bool.or_eq_false_iff, Bool.and_eq_true, Bool.and_eq_false_imp, decide_eq_true_eq, decide_eq_false_iff_not, Bool.not_not, Bool.not_true, Bool.not_false] at hb2'
      refine AL.val (Wanted.yes rfl rfl rfl) (g_fieldP rfl rfl Try.underlying75 rfl sz4 (by decide)) rfl rfl ?_
      refine AL.val (Wanted.yes rfl rfl rfl) (g_loadB rfl rfl rfl Try.underlying4 rfl rfl) rfl rfl ?_
      refine AL.val (Wanted.yes rfl rfl rfl) (g_notB rfl rfl) rfl rfl ?_
      refine AL.fast 1 rfl ?_
      refine AL.nil ?_
      refine then_ok ?_
      exact Weak.popB 9 rfl rfl (by first | (simp [hb2]; done) | (simp_all; done) | (exfalso; simp_all; done) | (simp_all; omega)) rfl
  ·
    refine AC.cond rfl (fun hc3 => ?_) (fun hc3 => ?_)
    ·
      have hc3' := hc3; try simp only [sumB, Bool.not_eq_true', Bool.not_eq_false', Bool.or_eq_true, Bool.or_eq_false_iff, Bool.and_eq_true, Bool.and_eq_false_imp, decide_eq_true_eq, decide_eq_false_iff_not, Bool.not_not, Bool.not_true, Bool.not_false] at hc3'
      refine AC.seq ?_
      refine AC.region ?_
      refine AL.fast 1 rfl ?_
      refine AL.nil ?_
      refine then_ok ?_
      refine AC.ret ?_
      refine then_ret ?_
      refine retQ_mk (av' := outOf [(.c (cB true))]) (nb' := []) (retQ_ret ⟨[(6, (aB true))], [], 0⟩ [.tmp 6] [(.c (cB true))] (Weak.ren id (⟨by first | rfl | (simp only [AV.map, GV.map, CV.map, AB.map', id]; done) | (congr 3; omega) | (congr 4; omega) | (simp only [List.length_append, List.length_cons, List.length_nil, List.length_set]; rfl),  trivial⟩) (trivial) rfl) rfl ⟨.tmp rfl, trivial⟩ trivial) ?_ ?_
      · rfl
      · rfl
    ·
      have hc3' := hc3; try simp only [sumB, Bool.not_eq_true', Bool.not_eq_false', Bool.or_eq_true, Bool.or_eq_false_iff, Bool.and_eq_true, Bool.and_eq_false_imp, decide_eq_true_eq, decide_eq_false_iff_not, Bool.not_not, Bool.not_true, Bool.not_false] at hc3'
      refine AC.skip ?_
      refine then_ok ?_
      refine AC.seq ?_
      refine AC.region ?_
      refine AL.val (Wanted.plain rfl) (g_loadBs rfl rfl rfl Try.underlying75 rfl sz75 rfl rfl) rfl rfl ?_
      refine AL.fast 2 rfl ?_
      obtain ⟨b1, e1, hr1⟩ : ∃ (b1 : Auth) (e1 : Int), moveAuth a kind n = (b1, e1) := ⟨_, _, rfl⟩
      refine AL.call (n' := 1) (h' := [(0, (.box 75 [(cI a.card), (cI a.shop), (cI a.sum), (cI a.captured), (cI a.refunded), (cI a.disputed), (cI a.till), (cB a.shut)]))]) (Wanted.plain rfl) (g_call 1 (c_auth_Move a kind n  b1 e1 hr1) en65 rfl rfl ⟨⟨_, rfl, .g ⟨.d _, .d _, .d _, .d _, .d _, .d _, .d _, .d _,  trivial⟩⟩, ⟨_, rfl, .c (.d _)⟩, ⟨_, rfl, .c (.d _)⟩,  trivial⟩ ⟨⟨trivial, trivial, trivial, trivial, trivial, trivial, trivial, trivial,  trivial⟩, trivial,  trivial⟩ trivial rfl rfl rfl rfl) rfl rfl rfl rfl rfl ?_
      refine AL.fast 1 rfl ?_
      refine AL.val (Wanted.plain rfl) (g_extract rfl rfl rfl) rfl rfl ?_
      refine AL.val (Wanted.plain rfl) (g_extract rfl rfl rfl) rfl rfl ?_
      refine AL.new (n' := 2) (Wanted.plain rfl) (g_alloc 1 rfl zv75 rfl rfl rfl) rfl rfl rfl ?_
      refine AL.sto (h' := [(1, (.box 75 [(cI b1.card), (cI b1.shop), (cI b1.sum), (cI b1.captured), (cI b1.refunded), (cI b1.disputed), (cI b1.till), (cB b1.shut)])), (0, (.box 75 [(cI a.card), (cI a.shop), (cI a.sum), (cI a.captured), (cI a.refunded), (cI a.disputed), (cI a.till), (cB a.shut)]))]) (Wanted.plain rfl) (g_storeB rfl rfl rfl rfl rfl sz75 rfl (Nat.le_of_ble_eq_true rfl) rfl) rfl rfl rfl rfl ?_
      refine AL.fast 1 rfl ?_
      refine AL.nil ?_
      refine then_ok ?_
      refine AC.seq ?_
      refine AC.seq ?_
      refine AC.region ?_
      refine AL.fast 1 rfl ?_
      refine AL.val (Wanted.plain rfl) (g_binI rfl rfl rfl rfl) rfl rfl ?_
      refine AL.nil ?_
      refine then_ok ?_
      refine AC.cond rfl (fun hc4 => ?_) (fun hc4 => ?_)
      ·
        have hc4' := hc4; try simp only [sumB, Bool.not_eq_true', Bool.not_eq_false', Bool.or_eq_true, Bool.or_eq_false_iff, Bool.and_eq_true, Bool.and_eq_false_imp, decide_eq_true_eq, decide_eq_false_iff_not, Bool.not_not, Bool.not_true, Bool.not_false] at hc4'
        refine AC.seq ?_
        refine AC.region ?_
        refine AL.fast 1 rfl ?_
        refine AL.nil ?_
        refine then_ok ?_
        refine AC.ret ?_
        refine then_ret ?_
        refine retQ_mk (av' := outOf [(.c (cB true))]) (nb' := []) (retQ_ret ⟨[(6, (aB true))], [], 0⟩ [.tmp 6] [(.c (cB true))] (Weak.ren id (⟨by first | rfl | (simp only [AV.map, GV.map, CV.map, AB.map', id]; done) | (congr 3; omega) | (congr 4; omega) | (simp only [List.length_append, List.length_cons, List.length_nil, List.length_set]; rfl),  trivial⟩) (trivial) rfl) rfl ⟨.tmp rfl, trivial⟩ trivial) ?_ ?_
        · rfl
        · rfl
      ·
        have hc4' := hc4; try simp only [sumB, Bool.not_eq_true', Bool.not_eq_false', Bool.or_eq_true, Bool.or_eq_false_iff, Bool.and_eq_true, Bool.and_eq_false_imp, decide_eq_true_eq, decide_eq_false_iff_not, Bool.not_not, Bool.not_true, Bool.not_false] at hc4'
        refine AC.skip ?_
        refine then_ok ?_
        refine AC.cutB 6 ((((decide (kind ≥ 5)) && (decide (b1.captured = a.captured))) && (decide (b1.sum = a.sum))) && b1.shut) ?_ ?_
        ·
          refine AC.region ?_
          refine AL.fast 1 rfl ?_
          refine AL.val (Wanted.plain rfl) (g_binI rfl rfl rfl rfl) rfl rfl ?_
          refine AL.fast 1 rfl ?_
          refine AL.dec (t := 30) rfl (fun hb5 => ?_) (fun hb5 => ?_)
          ·
            have hb5' := hb5; try simp only [sumB, Bool.not_eq_true', Bool.not_eq_false', Bool.or_eq_true, Bool.or_eq_false_iff, Bool.and_eq_true, Bool.and_eq_false_imp, decide_eq_true_eq, decide_eq_false_iff_not, Bool.not_not, Bool.not_true, Bool.not_false] at hb5'
            refine AL.val (Wanted.yes rfl rfl rfl) (g_fieldP rfl rfl Try.underlying75 rfl sz3 (by decide)) rfl rfl ?_
            refine AL.val (Wanted.yes rfl rfl rfl) (g_loadB rfl rfl rfl Try.underlying3 rfl rfl) rfl rfl ?_
            refine AL.val (Wanted.yes rfl rfl rfl) (g_fieldP rfl rfl Try.underlying75 rfl sz3 (by decide)) rfl rfl ?_
            refine AL.val (Wanted.yes rfl rfl rfl) (g_loadB rfl rfl rfl Try.underlying3 rfl rfl) rfl rfl ?_
            refine AL.val (Wanted.yes rfl rfl rfl) (g_binI rfl rfl rfl rfl) rfl rfl ?_
            refine AL.fast 2 rfl ?_
            refine AL.dec (t := 37) rfl (fun hb6 => ?_) (fun hb6 => ?_)
            ·
              have hb6' := hb6; try simp only [sumB, Bool.not_eq_true', Bool.not_eq_false', Bool.or_eq_true, Bool.or_eq_false_iff, Bool.and_eq_true, Bool.and_eq_false_imp, decide_eq_true_eq, decide_eq_false_iff_not, Bool.not_not, Bool.not_true, Bool.not_false] at hb6'
              refine AL.val (Wanted.yes rfl rfl rfl) (g_fieldP rfl rfl Try.underlying75 rfl sz3 (by decide)) rfl rfl ?_
              refine AL.val (Wanted.yes rfl rfl rfl) (g_loadB rfl rfl rfl Try.underlying3 rfl rfl) rfl rfl ?_
              refine AL.val (Wanted.yes rfl rfl rfl) (g_fieldP rfl rfl Try.underlying75 rfl sz3 (by decide)) rfl rfl ?_
              refine AL.val (Wanted.yes rfl rfl rfl) (g_loadB rfl rfl rfl Try.underlying3 rfl rfl) rfl rfl ?_
              refine AL.val (Wanted.yes rfl rfl rfl) (g_binI rfl rfl rfl rfl) rfl rfl ?_
              refine AL.fast 2 rfl ?_
              refine AL.dec (t := 44) rfl (fun hb7 => ?_) (fun hb7 => ?_)
              ·
                have hb7' := hb7; try simp only [sumB, Bool.not_eq_true', Bool.not_eq_false', Bool.or_eq_true, Bool.or_eq_false_iff, Bool.and_eq_true, Bool.and_eq_false_imp, decide_eq_true_eq, decide_eq_false_iff_not, Bool.not_not, Bool.not_true, Bool.not_false] at hb7'
                refine AL.val (Wanted.yes rfl rfl rfl) (g_fieldP rfl rfl Try.underlying75 rfl sz4 (by decide)) rfl rfl ?_
                refine AL.val (Wanted.yes rfl rfl rfl) (g_loadB rfl rfl rfl Try.underlying4 rfl rfl) rfl rfl ?_
                refine AL.fast 2 rfl ?_
                refine AL.nil ?_
                refine then_ok ?_
                exact Weak.popB 24 rfl rfl (by first | (simp [hb5, hb6, hb7]; done) | (simp_all; done) | (exfalso; simp_all; done) | (simp_all; omega)) rfl
              ·
                have hb7' := hb7; try simp only [sumB, Bool.not_eq_true', Bool.not_eq_false', Bool.or_eq_true, Bool.or_eq_false_iff, Bool.and_eq_true, Bool.and_eq_false_imp, decide_eq_true_eq, decide_eq_false_iff_not, Bool.not_not, Bool.not_true, Bool.not_false] at hb7'
                refine AL.fast 4 rfl ?_
                refine AL.nil ?_
                refine then_ok ?_
                exact Weak.popB 24 rfl rfl (by first | (simp [hb5, hb6, hb7]; done) | (simp_all; done) | (exfalso; simp_all; done) | (simp_all; omega)) rfl
            ·
              have hb6' := hb6; try simp only [sumB, Bool.not_eq_true', Bool.not_eq_false', Bool.or_eq_true, Bool.or_eq_false_iff, Bool.and_eq_true, Bool.and_eq_false_imp, decide_eq_true_eq, decide_eq_false_iff_not, Bool.not_not, Bool.not_true, Bool.not_false] at hb6'
              refine AL.fast 11 rfl ?_
              refine AL.nil ?_
              refine then_ok ?_
              exact Weak.popB 23 rfl rfl (by first | (simp [hb5, hb6]; done) | (simp_all; done) | (exfalso; simp_all; done) | (simp_all; omega)) rfl
          ·
            have hb5' := hb5; try simp only [sumB, Bool.not_eq_true', Bool.not_eq_false', Bool.or_eq_true, Bool.or_eq_false_iff, Bool.and_eq_true, Bool.and_eq_false_imp, decide_eq_true_eq, decide_eq_false_iff_not, Bool.not_not, Bool.not_true, Bool.not_false] at hb5'
            refine AL.fast 18 rfl ?_
            refine AL.nil ?_
            refine then_ok ?_
            exact Weak.popB 22 rfl rfl (by first | (simp [hb5]; done) | (simp_all; done) | (exfalso; simp_all; done) | (simp_all; omega)) rfl
        ·
          refine AC.ret ?_
          refine retQ_mk (av' := outOf [(.c (cB ((((decide (kind ≥ 5)) && (decide (b1.captured = a.captured))) && (decide (b1.sum = a.sum))) && b1.shut)))]) (nb' := []) (retQ_ret ⟨[(6, (aB ((((decide (kind ≥ 5)) && (decide (b1.captured = a.captured))) && (decide (b1.sum = a.sum))) && b1.shut)))], [], 0⟩ [.tmp 6] [(.c (cB ((((decide (kind ≥ 5)) && (decide (b1.captured = a.captured))) && (decide (b1.sum = a.sum))) && b1.shut)))] (Weak.ren id (⟨by first | rfl | (simp only [AV.map, GV.map, CV.map, AB.map', id]; done) | (congr 3; omega) | (congr 4; omega) | (simp only [List.length_append, List.length_cons, List.length_nil, List.length_set]; rfl),  trivial⟩) (trivial) rfl) rfl ⟨.tmp rfl, trivial⟩ trivial) ?_ ?_
          · exact congrArg aB (show ((((decide (kind ≥ 5)) && (decide (b1.captured = a.captured))) && (decide (b1.sum = a.sum))) && b1.shut) = true by (obtain rfl : e1 = 0 := by omega); (obtain ⟨p1, p2, p3, p4⟩ := plain_shut hc3'.2 hr1); simp [p1, p2, p3, p4])
          · rfl
set_option maxRecDepth 100000 in
set_option maxHeartbeats 1000000 in
theorem c_AuthParts (a : Auth) (kind n m : Int) : Fn Try.prog 16 [(.g [(cI a.card), (cI a.shop), (cI a.sum), (cI a.captured), (cI a.refunded), (cI a.disputed), (cI a.till), (cB a.shut)]), (.c (cI kind)), (.c (cI n)), (.c (cI m))] (aB true) [] := by
  refine Fn.mk' 70 [(0, (aG [(cI a.card), (cI a.shop), (cI a.sum), (cI a.captured), (cI a.refunded), (cI a.disputed), (cI a.till), (cB a.shut)])), (1, (aI kind)), (2, (aI n)), (3, (aI m))] Try.func16 rfl rfl rfl rfl ?_
  intro W0 T0
  refine AC.seq ?_
  refine AC.region ?_
  refine AL.new (n' := 1) (Wanted.plain rfl) (g_boxS 0 rfl rfl) rfl rfl rfl ?_
  refine AL.fast 1 rfl ?_
  refine AL.nil ?_
  refine then_ok ?_
  refine AC.seq ?_
  refine AC.seq ?_
  refine AC.region ?_
  refine AL.call (n' := 1) (h' := [(0, (.box 75 [(cI a.card), (cI a.shop), (cI a.sum), (cI a.captured), (cI a.refunded), (cI a.disputed), (cI a.till), (cB a.shut)]))]) (Wanted.plain rfl) (g_call 1 (c_auth_alive   ) en67 rfl rfl trivial trivial trivial rfl rfl rfl rfl) rfl rfl rfl rfl rfl ?_
  refine AL.val (Wanted.plain rfl) (g_notB rfl rfl) rfl rfl ?_
  refine AL.nil ?_
  refine then_ok ?_
  refine AC.cond rfl (fun hno => by cases hno) (fun _ => ?_)
  refine AC.skip ?_
  refine then_ok ?_
  refine AC.seq ?_
  refine AC.cutB 33 (((((decide (n < 1)) || (decide (m < 1))) || (decide (n > 1000000))) || (decide (m > 1000000))) || (decide (kind = 3))) ?_ ?_
  ·
    refine AC.region ?_
    refine AL.fast 1 rfl ?_
    refine AL.val (Wanted.plain rfl) (g_binI rfl rfl rfl rfl) rfl rfl ?_
    refine AL.fast 1 rfl ?_
    refine AL.dec (t := 18) rfl (fun hb2 => ?_) (fun hb2 => ?_)
    ·
      have hb2' := hb2; try simp only [sumB, Bool.not_eq_true', Bool.not_eq_false', Bool.or_eq_true, Bool.or_eq_false_iff, Bool.and_eq_true, Bool.and_eq_false_imp, decide_eq_true_eq, decide_eq_false_iff_not, Bool.not_not, Bool.not_true, Bool.not_false] at hb2'
      refine AL.fast 15 rfl ?_
      refine AL.nil ?_
      refine then_ok ?_
      exact Weak.popB 19 rfl rfl (by first | (simp [hb2]; done) | (simp_all; done) | (exfalso; simp_all; done) | (simp_all; omega)) rfl
    ·
      have hb2' := hb2; try simp only [sumB, Bool.not_eq_true', Bool.not_eq_false', Bool.or_eq_true, Bool.or_eq_false_iff, Bool.and_eq_true, Bool.and_eq_false_imp, decide_eq_true_eq, decide_eq_false_iff_not, Bool.not_not, Bool.not_true, Bool.not_false] at hb2'
      refine AL.fast 1 rfl ?_
      refine AL.val (Wanted.yes rfl rfl rfl) (g_binI rfl rfl rfl rfl) rfl rfl ?_
      refine AL.fast 2 rfl ?_
      refine AL.dec (t := 22) rfl (fun hb3 => ?_) (fun hb3 => ?_)
      ·
        have hb3' := hb3; try simp only [sumB, Bool.not_eq_true', Bool.not_eq_false', Bool.or_eq_true, Bool.or_eq_false_iff, Bool.and_eq_true, Bool.and_eq_false_imp, decide_eq_true_eq, decide_eq_false_iff_not, Bool.not_not, Bool.not_true, Bool.not_false] at hb3'
        refine AL.fast 11 rfl ?_
        refine AL.nil ?_
        refine then_ok ?_
        exact Weak.popB 20 rfl rfl (by first | (simp [hb2, hb3]; done) | (simp_all; done) | (exfalso; simp_all; done) | (simp_all; omega)) rfl
      ·
        have hb3' := hb3; try simp only [sumB, Bool.not_eq_true', Bool.not_eq_false', Bool.or_eq_true, Bool.or_eq_false_iff, Bool.and_eq_true, Bool.and_eq_false_imp, decide_eq_true_eq, decide_eq_false_iff_not, Bool.not_not, Bool.not_true, Bool.not_false] at hb3'
        refine AL.fast 1 rfl ?_
        refine AL.val (Wanted.yes rfl rfl rfl) (g_binI rfl rfl rfl rfl) rfl rfl ?_
        refine AL.fast 2 rfl ?_
        refine AL.dec (t := 26) rfl (fun hb4 => ?_) (fun hb4 => ?_)
        ·
          have hb4' := hb4; try simp only [sumB, Bool.not_eq_true', Bool.not_eq_false', Bool.or_eq_true, Bool.or_eq_false_iff, Bool.and_eq_true, Bool.and_eq_false_imp, decide_eq_true_eq, decide_eq_false_iff_not, Bool.not_not, Bool.not_true, Bool.not_false] at hb4'
          refine AL.fast 7 rfl ?_
          refine AL.nil ?_
          refine then_ok ?_
          exact Weak.popB 21 rfl rfl (by first | (simp [hb2, hb3, hb4]; done) | (simp_all; done) | (exfalso; simp_all; done) | (simp_all; omega)) rfl
        ·
          have hb4' := hb4; try simp only [sumB, Bool.not_eq_true', Bool.not_eq_false', Bool.or_eq_true, Bool.or_eq_false_iff, Bool.and_eq_true, Bool.and_eq_false_imp, decide_eq_true_eq, decide_eq_false_iff_not, Bool.not_not, Bool.not_true, Bool.not_false] at hb4'
          refine AL.fast 1 rfl ?_
          refine AL.val (Wanted.yes rfl rfl rfl) (g_binI rfl rfl rfl rfl) rfl rfl ?_
          refine AL.fast 2 rfl ?_
          refine AL.dec (t := 30) rfl (fun hb5 => ?_) (fun hb5 => ?_)
          ·
            have hb5' := hb5; try simp only [sumB, Bool.not_eq_true', Bool.not_eq_false', Bool.or_eq_true, Bool.or_eq_false_iff, Bool.and_eq_true, Bool.and_eq_false_imp, decide_eq_true_eq, decide_eq_false_iff_not, Bool.not_not, Bool.not_true, Bool.not_false] at hb5'
            refine AL.fast 3 rfl ?_
            refine AL.nil ?_
            refine then_ok ?_
            exact Weak.popB 22 rfl rfl (by first | (simp [hb2, hb3, hb4, hb5]; done) | (simp_all; done) | (exfalso; simp_all; done) | (simp_all; omega)) rfl
          ·
            have hb5' := hb5; try simp only [sumB, Bool.not_eq_true', Bool.not_eq_false', Bool.or_eq_true, Bool.or_eq_false_iff, Bool.and_eq_true, Bool.and_eq_false_imp, decide_eq_true_eq, decide_eq_false_iff_not, Bool.not_not, Bool.not_true, Bool.not_false] at hb5'
            refine AL.fast 1 rfl ?_
            refine AL.val (Wanted.yes rfl rfl rfl) (g_binI rfl rfl rfl rfl) rfl rfl ?_
            refine AL.fast 1 rfl ?_
            refine AL.nil ?_
            refine then_ok ?_
            exact Weak.popB 22 rfl rfl (by first | (simp [hb2, hb3, hb4, hb5]; done) | (simp_all; done) | (exfalso; simp_all; done) | (simp_all; omega)) rfl
  ·
    refine AC.cond rfl (fun hc6 => ?_) (fun hc6 => ?_)
    ·
      have hc6' := hc6; try simp only [sumB, Bool.not_eq_true', Bool.not_eq_false', Bool.or_eq_true, Bool.or_eq_false_iff, Bool.and_eq_true, Bool.and_eq_false_imp, decide_eq_true_eq, decide_eq_false_iff_not, Bool.not_not, Bool.not_true, Bool.not_false] at hc6'
      refine AC.seq ?_
      refine AC.region ?_
      refine AL.fast 1 rfl ?_
      refine AL.nil ?_
      refine then_ok ?_
      refine AC.ret ?_
      refine then_ret ?_
      refine retQ_mk (av' := outOf [(.c (cB true))]) (nb' := []) (retQ_ret ⟨[(8, (aB true))], [], 0⟩ [.tmp 8] [(.c (cB true))] (Weak.ren id (⟨by first | rfl | (simp only [AV.map, GV.map, CV.map, AB.map', id]; done) | (congr 3; omega) | (congr 4; omega) | (simp only [List.length_append, List.length_cons, List.length_nil, List.length_set]; rfl),  trivial⟩) (trivial) rfl) rfl ⟨.tmp rfl, trivial⟩ trivial) ?_ ?_
      · rfl
      · rfl
    ·
      have hc6' := hc6; try simp only [sumB, Bool.not_eq_true', Bool.not_eq_false', Bool.or_eq_true, Bool.or_eq_false_iff, Bool.and_eq_true, Bool.and_eq_false_imp, decide_eq_true_eq, decide_eq_false_iff_not, Bool.not_not, Bool.not_true, Bool.not_false] at hc6'
      refine AC.skip ?_
      refine then_ok ?_
      refine AC.seq ?_
      refine AC.region ?_
      refine AL.val (Wanted.plain rfl) (g_loadBs rfl rfl rfl Try.underlying75 rfl sz75 rfl rfl) rfl rfl ?_
      refine AL.fast 2 rfl ?_
      obtain ⟨b0, e0, hr0⟩ : ∃ (b0 : Auth) (e0 : Int), moveAuth a kind n = (b0, e0) := ⟨_, _, rfl⟩
      refine AL.call (n' := 1) (h' := [(0, (.box 75 [(cI a.card), (cI a.shop), (cI a.sum), (cI a.captured), (cI a.refunded), (cI a.disputed), (cI a.till), (cB a.shut)]))]) (Wanted.plain rfl) (g_call 1 (c_auth_Move a kind n  b0 e0 hr0) en65 rfl rfl ⟨⟨_, rfl, .g ⟨.d _, .d _, .d _, .d _, .d _, .d _, .d _, .d _,  trivial⟩⟩, ⟨_, rfl, .c (.d _)⟩, ⟨_, rfl, .c (.d _)⟩,  trivial⟩ ⟨⟨trivial, trivial, trivial, trivial, trivial, trivial, trivial, trivial,  trivial⟩, trivial,  trivial⟩ trivial rfl rfl rfl rfl) rfl rfl rfl rfl rfl ?_
      refine AL.fast 1 rfl ?_
      refine AL.val (Wanted.plain rfl) (g_extract rfl rfl rfl) rfl rfl ?_
      refine AL.val (Wanted.plain rfl) (g_extract rfl rfl rfl) rfl rfl ?_
      refine AL.new (n' := 2) (Wanted.plain rfl) (g_alloc 1 rfl zv75 rfl rfl rfl) rfl rfl rfl ?_
      refine AL.sto (h' := [(1, (.box 75 [(cI b0.card), (cI b0.shop), (cI b0.sum), (cI b0.captured), (cI b0.refunded), (cI b0.disputed), (cI b0.till), (cB b0.shut)])), (0, (.box 75 [(cI a.card), (cI a.shop), (cI a.sum), (cI a.captured), (cI a.refunded), (cI a.disputed), (cI a.till), (cB a.shut)]))]) (Wanted.plain rfl) (g_storeB rfl rfl rfl rfl rfl sz75 rfl (Nat.le_of_ble_eq_true rfl) rfl) rfl rfl rfl rfl ?_
      refine AL.fast 1 rfl ?_
      refine AL.nil ?_
      refine then_ok ?_
      refine AC.seq ?_
      refine AC.seq ?_
      refine AC.region ?_
      refine AL.fast 1 rfl ?_
      refine AL.val (Wanted.plain rfl) (g_binI rfl rfl rfl rfl) rfl rfl ?_
      refine AL.nil ?_
      refine then_ok ?_
      refine AC.cond rfl (fun hc7 => ?_) (fun hc7 => ?_)
      ·
        have hc7' := hc7; try simp only [sumB, Bool.not_eq_true', Bool.not_eq_false', Bool.or_eq_true, Bool.or_eq_false_iff, Bool.and_eq_true, Bool.and_eq_false_imp, decide_eq_true_eq, decide_eq_false_iff_not, Bool.not_not, Bool.not_true, Bool.not_false] at hc7'
        refine AC.seq ?_
        refine AC.region ?_
        refine AL.fast 1 rfl ?_
        refine AL.nil ?_
        refine then_ok ?_
        refine AC.ret ?_
        refine then_ret ?_
        refine retQ_mk (av' := outOf [(.c (cB true))]) (nb' := []) (retQ_ret ⟨[(8, (aB true))], [], 0⟩ [.tmp 8] [(.c (cB true))] (Weak.ren id (⟨by first | rfl | (simp only [AV.map, GV.map, CV.map, AB.map', id]; done) | (congr 3; omega) | (congr 4; omega) | (simp only [List.length_append, List.length_cons, List.length_nil, List.length_set]; rfl),  trivial⟩) (trivial) rfl) rfl ⟨.tmp rfl, trivial⟩ trivial) ?_ ?_
        · rfl
        · rfl
      ·
        have hc7' := hc7; try simp only [sumB, Bool.not_eq_true', Bool.not_eq_false', Bool.or_eq_true, Bool.or_eq_false_iff, Bool.and_eq_true, Bool.and_eq_false_imp, decide_eq_true_eq, decide_eq_false_iff_not, Bool.not_not, Bool.not_true, Bool.not_false] at hc7'
        refine AC.skip ?_
        refine then_ok ?_
        refine AC.seq ?_
        refine AC.region ?_
        refine AL.val (Wanted.plain rfl) (g_loadBs rfl rfl rfl Try.underlying75 rfl sz75 rfl rfl) rfl rfl ?_
        refine AL.fast 2 rfl ?_
        obtain ⟨b1, e1, hr1⟩ : ∃ (b1 : Auth) (e1 : Int), moveAuth b0 kind m = (b1, e1) := ⟨_, _, rfl⟩
        refine AL.call (n' := 2) (h' := [(1, (.box 75 [(cI b0.card), (cI b0.shop), (cI b0.sum), (cI b0.captured), (cI b0.refunded), (cI b0.disputed), (cI b0.till), (cB b0.shut)])), (0, (.box 75 [(cI a.card), (cI a.shop), (cI a.sum), (cI a.captured), (cI a.refunded), (cI a.disputed), (cI a.till), (cB a.shut)]))]) (Wanted.plain rfl) (g_call 2 (c_auth_Move b0 kind m  b1 e1 hr1) en65 rfl rfl ⟨⟨_, rfl, .g ⟨.d _, .d _, .d _, .d _, .d _, .d _, .d _, .d _,  trivial⟩⟩, ⟨_, rfl, .c (.d _)⟩, ⟨_, rfl, .c (.d _)⟩,  trivial⟩ ⟨⟨trivial, trivial, trivial, trivial, trivial, trivial, trivial, trivial,  trivial⟩, trivial,  trivial⟩ trivial rfl rfl rfl rfl) rfl rfl rfl rfl rfl ?_
        refine AL.fast 1 rfl ?_
        refine AL.val (Wanted.plain rfl) (g_extract rfl rfl rfl) rfl rfl ?_
        refine AL.val (Wanted.plain rfl) (g_extract rfl rfl rfl) rfl rfl ?_
        refine AL.new (n' := 3) (Wanted.plain rfl) (g_alloc 2 rfl zv75 rfl rfl rfl) rfl rfl rfl ?_
        refine AL.sto (h' := [(2, (.box 75 [(cI b1.card), (cI b1.shop), (cI b1.sum), (cI b1.captured), (cI b1.refunded), (cI b1.disputed), (cI b1.till), (cB b1.shut)])), (1, (.box 75 [(cI b0.card), (cI b0.shop), (cI b0.sum), (cI b0.captured), (cI b0.refunded), (cI b0.disputed), (cI b0.till), (cB b0.shut)])), (0, (.box 75 [(cI a.card), (cI a.shop), (cI a.sum), (cI a.captured), (cI a.refunded), (cI a.disputed), (cI a.till), (cB a.shut)]))]) (Wanted.plain rfl) (g_storeB rfl rfl rfl rfl rfl sz75 rfl (Nat.le_of_ble_eq_true rfl) rfl) rfl rfl rfl rfl ?_
        refine AL.fast 1 rfl ?_
        refine AL.nil ?_
        refine then_ok ?_
        refine AC.seq ?_
        refine AC.region ?_
        refine AL.val (Wanted.plain rfl) (g_loadBs rfl rfl rfl Try.underlying75 rfl sz75 rfl rfl) rfl rfl ?_
        refine AL.fast 3 rfl ?_
        refine AL.val (Wanted.plain rfl) (g_binI rfl rfl rfl (wrap_ok (by first | omega | (simp; done) | (simp; omega)))) rfl rfl ?_
        obtain ⟨b2, e2, hr2⟩ : ∃ (b2 : Auth) (e2 : Int), moveAuth a kind (n + m) = (b2, e2) := ⟨_, _, rfl⟩
        refine AL.call (n' := 3) (h' := [(2, (.box 75 [(cI b1.card), (cI b1.shop), (cI b1.sum), (cI b1.captured), (cI b1.refunded), (cI b1.disputed), (cI b1.till), (cB b1.shut)])), (1, (.box 75 [(cI b0.card), (cI b0.shop), (cI b0.sum), (cI b0.captured), (cI b0.refunded), (cI b0.disputed), (cI b0.till), (cB b0.shut)])), (0, (.box 75 [(cI a.card), (cI a.shop), (cI a.sum), (cI a.captured), (cI a.refunded), (cI a.disputed), (cI a.till), (cB a.shut)]))]) (Wanted.plain rfl) (g_call 3 (c_auth_Move a kind (n + m)  b2 e2 hr2) en65 rfl rfl ⟨⟨_, rfl, .g ⟨.d _, .d _, .d _, .d _, .d _, .d _, .d _, .d _,  trivial⟩⟩, ⟨_, rfl, .c (.d _)⟩, ⟨_, rfl, .c (.d _)⟩,  trivial⟩ ⟨⟨trivial, trivial, trivial, trivial, trivial, trivial, trivial, trivial,  trivial⟩, trivial,  trivial⟩ trivial rfl rfl rfl rfl) rfl rfl rfl rfl rfl ?_
        refine AL.fast 1 rfl ?_
        refine AL.val (Wanted.plain rfl) (g_extract rfl rfl rfl) rfl rfl ?_
        refine AL.val (Wanted.plain rfl) (g_extract rfl rfl rfl) rfl rfl ?_
        refine AL.new (n' := 4) (Wanted.plain rfl) (g_alloc 3 rfl zv75 rfl rfl rfl) rfl rfl rfl ?_
        refine AL.sto (h' := [(3, (.box 75 [(cI b2.card), (cI b2.shop), (cI b2.sum), (cI b2.captured), (cI b2.refunded), (cI b2.disputed), (cI b2.till), (cB b2.shut)])), (2, (.box 75 [(cI b1.card), (cI b1.shop), (cI b1.sum), (cI b1.captured), (cI b1.refunded), (cI b1.disputed), (cI b1.till), (cB b1.shut)])), (1, (.box 75 [(cI b0.card), (cI b0.shop), (cI b0.sum), (cI b0.captured), (cI b0.refunded), (cI b0.disputed), (cI b0.till), (cB b0.shut)])), (0, (.box 75 [(cI a.card), (cI a.shop), (cI a.sum), (cI a.captured), (cI a.refunded), (cI a.disputed), (cI a.till), (cB a.shut)]))]) (Wanted.plain rfl) (g_storeB rfl rfl rfl rfl rfl sz75 rfl (Nat.le_of_ble_eq_true rfl) rfl) rfl rfl rfl rfl ?_
        refine AL.fast 1 rfl ?_
        refine AL.nil ?_
        refine then_ok ?_
        refine AC.seq ?_
        refine AC.seq ?_
        refine AC.region ?_
        refine AL.fast 1 rfl ?_
        refine AL.val (Wanted.plain rfl) (g_binI rfl rfl rfl rfl) rfl rfl ?_
        refine AL.nil ?_
        refine then_ok ?_
        refine AC.cond rfl (fun hc8 => ?_) (fun hc8 => ?_)
        ·
          have hc8' := hc8; try simp only [sumB, Bool.not_eq_true', Bool.not_eq_false', Bool.or_eq_true, Bool.or_eq_false_iff, Bool.and_eq_true, Bool.and_eq_false_imp, decide_eq_true_eq, decide_eq_false_iff_not, Bool.not_not, Bool.not_true, Bool.not_false] at hc8'
          refine AC.seq ?_
          refine AC.region ?_
          refine AL.fast 1 rfl ?_
          refine AL.val (Wanted.plain rfl) (g_binI rfl rfl rfl rfl) rfl rfl ?_
          refine AL.fast 1 rfl ?_
          refine AL.nil ?_
          refine then_ok ?_
          refine AC.ret ?_
          refine then_ret ?_
          refine retQ_mk (av' := outOf [(.c (cB (decide (¬ e2 = 0))))]) (nb' := []) (retQ_ret ⟨[(8, (aB (decide (¬ e2 = 0))))], [], 0⟩ [.tmp 8] [(.c (cB (decide (¬ e2 = 0))))] (Weak.ren id (⟨by first | rfl | (simp only [AV.map, GV.map, CV.map, AB.map', id]; done) | (congr 3; omega) | (congr 4; omega) | (simp only [List.length_append, List.length_cons, List.length_nil, List.length_set]; rfl),  trivial⟩) (trivial) rfl) rfl ⟨.tmp rfl, trivial⟩ trivial) ?_ ?_
          · exact congrArg aB (show (decide (¬ e2 = 0)) = true by (obtain rfl : e0 = 0 := by omega); (rcases plain_parts (m := m) (kind := kind) (by omega) (by omega) (by omega) (by omega) hr0 with ⟨p1, p2⟩ | ⟨p1, p2⟩ <;> rw [hr1] at p1 <;> rw [hr2] at p2 <;> try rw [hr1] at p2) <;> simp_all [same75])
          · rfl
        ·
          have hc8' := hc8; try simp only [sumB, Bool.not_eq_true', Bool.not_eq_false', Bool.or_eq_true, Bool.or_eq_false_iff, Bool.and_eq_true, Bool.and_eq_false_imp, decide_eq_true_eq, decide_eq_false_iff_not, Bool.not_not, Bool.not_true, Bool.not_false] at hc8'
          refine AC.skip ?_
          refine then_ok ?_
          refine AC.cutB 8 ((decide (e2 = 0)) && (sameL [.int .i64 b1.card, .int .i64 b1.shop, .int .i64 b1.sum, .int .i64 b1.captured, .int .i64 b1.refunded, .int .i64 b1.disputed, .int .i64 b1.till, .bool b1.shut] [.int .i64 b2.card, .int .i64 b2.shop, .int .i64 b2.sum, .int .i64 b2.captured, .int .i64 b2.refunded, .int .i64 b2.disputed, .int .i64 b2.till, .bool b2.shut])) ?_ ?_
          ·
            refine AC.region ?_
            refine AL.fast 1 rfl ?_
            refine AL.val (Wanted.plain rfl) (g_binI rfl rfl rfl rfl) rfl rfl ?_
            refine AL.fast 1 rfl ?_
            refine AL.dec (t := 65) rfl (fun hb9 => ?_) (fun hb9 => ?_)
            ·
              have hb9' := hb9; try simp only [sumB, Bool.not_eq_true', Bool.not_eq_false', Bool.or_eq_true, Bool.or_eq_false_iff, Bool.and_eq_true, Bool.and_eq_false_imp, decide_eq_true_eq, decide_eq_false_iff_not, Bool.not_not, Bool.not_true, Bool.not_false] at hb9'
              refine AL.val (Wanted.yes rfl rfl rfl) (g_loadBs rfl rfl rfl Try.underlying75 rfl sz75 rfl rfl) rfl rfl ?_
              refine AL.val (Wanted.yes rfl rfl rfl) (g_loadBs rfl rfl rfl Try.underlying75 rfl sz75 rfl rfl) rfl rfl ?_
              refine AL.val (Wanted.yes rfl rfl rfl) (g_eql (cmp75 _ _ _ _ _ _ _ _ _ _ _ _ _ _ _ _) rfl rfl rfl rfl rfl rfl) rfl rfl ?_
              refine AL.fast 2 rfl ?_
              refine AL.nil ?_
              refine then_ok ?_
              exact Weak.popB 9 rfl rfl (by first | (simp [hb9]; done) | (simp_all; done) | (exfalso; simp_all; done) | (simp_all; omega)) rfl
            ·
              have hb9' := hb9; try simp only [sumB, Bool.not_eq_true', Bool.not_eq_false', Bool.or_eq_true, Bool.or_eq_false_iff, Bool.and_eq_true, Bool.and_eq_false_imp, decide_eq_true_eq, decide_eq_false_iff_not, Bool.not_not, Bool.not_true, Bool.not_false] at hb9'
              refine AL.fast 5 rfl ?_
              refine AL.nil ?_
              refine then_ok ?_
              exact Weak.popB 9 rfl rfl (by first | (simp [hb9]; done) | (simp_all; done) | (exfalso; simp_all; done) | (simp_all; omega)) rfl
          ·
            refine AC.ret ?_
            refine retQ_mk (av' := outOf [(.c (cB ((decide (e2 = 0)) && (sameL [.int .i64 b1.card, .int .i64 b1.shop, .int .i64 b1.sum, .int .i64 b1.captured, .int .i64 b1.refunded, .int .i64 b1.disputed, .int .i64 b1.till, .bool b1.shut] [.int .i64 b2.card, .int .i64 b2.shop, .int .i64 b2.sum, .int .i64 b2.captured, .int .i64 b2.refunded, .int .i64 b2.disputed, .int .i64 b2.till, .bool b2.shut]))))]) (nb' := []) (retQ_ret ⟨[(8, (aB ((decide (e2 = 0)) && (sameL [.int .i64 b1.card, .int .i64 b1.shop, .int .i64 b1.sum, .int .i64 b1.captured, .int .i64 b1.refunded, .int .i64 b1.disputed, .int .i64 b1.till, .bool b1.shut] [.int .i64 b2.card, .int .i64 b2.shop, .int .i64 b2.sum, .int .i64 b2.captured, .int .i64 b2.refunded, .int .i64 b2.disputed, .int .i64 b2.till, .bool b2.shut]))))], [], 0⟩ [.tmp 8] [(.c (cB ((decide (e2 = 0)) && (sameL [.int .i64 b1.card, .int .i64 b1.shop, .int .i64 b1.sum, .int .i64 b1.captured, .int .i64 b1.refunded, .int .i64 b1.disputed, .int .i64 b1.till, .bool b1.shut] [.int .i64 b2.card, .int .i64 b2.shop, .int .i64 b2.sum, .int .i64 b2.captured, .int .i64 b2.refunded, .int .i64 b2.disputed, .int .i64 b2.till, .bool b2.shut]))))] (Weak.ren id (⟨by first | rfl | (simp only [AV.map, GV.map, CV.map, AB.map', id]; done) | (congr 3; omega) | (congr 4; omega) | (simp only [List.length_append, List.length_cons, List.length_nil, List.length_set]; rfl),  trivial⟩) (trivial) rfl) rfl ⟨.tmp rfl, trivial⟩ trivial) ?_ ?_
            · exact congrArg aB (show ((decide (e2 = 0)) && (sameL [.int .i64 b1.card, .int .i64 b1.shop, .int .i64 b1.sum, .int .i64 b1.captured, .int .i64 b1.refunded, .int .i64 b1.disputed, .int .i64 b1.till, .bool b1.shut] [.int .i64 b2.card, .int .i64 b2.shop, .int .i64 b2.sum, .int .i64 b2.captured, .int .i64 b2.refunded, .int .i64 b2.disputed, .int .i64 b2.till, .bool b2.shut])) = true by (obtain rfl : e0 = 0 := by omega); (rcases plain_parts (m := m) (kind := kind) (by omega) (by omega) (by omega) (by omega) hr0 with ⟨p1, p2⟩ | ⟨p1, p2⟩ <;> rw [hr1] at p1 <;> rw [hr2] at p2 <;> try rw [hr1] at p2) <;> simp_all [same75])
            · rfl
set_option maxRecDepth 100000 in
set_option maxHeartbeats 1000000 in
theorem c_AuthSettled (a : Auth) (n : Int) : Fn Try.prog 17 [(.g [(cI a.card), (cI a.shop), (cI a.sum), (cI a.captured), (cI a.refunded), (cI a.disputed), (cI a.till), (cB a.shut)]), (.c (cI n))] (aB true) [] := by
  refine Fn.mk' 60 [(0, (aG [(cI a.card), (cI a.shop), (cI a.sum), (cI a.captured), (cI a.refunded), (cI a.disputed), (cI a.till), (cB a.shut)])), (1, (aI n))] Try.func17 rfl rfl rfl rfl ?_
  intro W0 T0
  refine AC.seq ?_
  refine AC.region ?_
  refine AL.new (n' := 1) (Wanted.plain rfl) (g_boxS 0 rfl rfl) rfl rfl rfl ?_
  refine AL.fast 1 rfl ?_
  refine AL.nil ?_
  refine then_ok ?_
  refine AC.seq ?_
  refine AC.seq ?_
  refine AC.region ?_
  refine AL.call (n' := 1) (h' := [(0, (.box 75 [(cI a.card), (cI a.shop), (cI a.sum), (cI a.captured), (cI a.refunded), (cI a.disputed), (cI a.till), (cB a.shut)]))]) (Wanted.plain rfl) (g_call 1 (c_auth_alive   ) en67 rfl rfl trivial trivial trivial rfl rfl rfl rfl) rfl rfl rfl rfl rfl ?_
  refine AL.val (Wanted.plain rfl) (g_notB rfl rfl) rfl rfl ?_
  refine AL.nil ?_
  refine then_ok ?_
  refine AC.cond rfl (fun hno => by cases hno) (fun _ => ?_)
  refine AC.skip ?_
  refine then_ok ?_
  refine AC.seq ?_
  refine AC.region ?_
  refine AL.val (Wanted.plain rfl) (g_loadBs rfl rfl rfl Try.underlying75 rfl sz75 rfl rfl) rfl rfl ?_
  refine AL.fast 1 rfl ?_
  obtain ⟨b0, e0, hr0⟩ : ∃ (b0 : Auth) (e0 : Int), moveAuth a 6 n = (b0, e0) := ⟨_, _, rfl⟩
  refine AL.call (n' := 1) (h' := [(0, (.box 75 [(cI a.card), (cI a.shop), (cI a.sum), (cI a.captured), (cI a.refunded), (cI a.disputed), (cI a.till), (cB a.shut)]))]) (Wanted.plain rfl) (g_call 1 (c_auth_Move a 6 n  b0 e0 hr0) en65 rfl rfl ⟨⟨_, rfl, .g ⟨.d _, .d _, .d _, .d _, .d _, .d _, .d _, .d _,  trivial⟩⟩, ⟨_, rfl, .c (.d _)⟩, ⟨_, rfl, .c (.d _)⟩,  trivial⟩ ⟨⟨trivial, trivial, trivial, trivial, trivial, trivial, trivial, trivial,  trivial⟩, trivial,  trivial⟩ trivial rfl rfl rfl rfl) rfl rfl rfl rfl rfl ?_
  refine AL.fast 1 rfl ?_
  refine AL.val (Wanted.plain rfl) (g_extract rfl rfl rfl) rfl rfl ?_
  refine AL.val (Wanted.plain rfl) (g_extract rfl rfl rfl) rfl rfl ?_
  refine AL.new (n' := 2) (Wanted.plain rfl) (g_alloc 1 rfl zv75 rfl rfl rfl) rfl rfl rfl ?_
  refine AL.sto (h' := [(1, (.box 75 [(cI b0.card), (cI b0.shop), (cI b0.sum), (cI b0.captured), (cI b0.refunded), (cI b0.disputed), (cI b0.till), (cB b0.shut)])), (0, (.box 75 [(cI a.card), (cI a.shop), (cI a.sum), (cI a.captured), (cI a.refunded), (cI a.disputed), (cI a.till), (cB a.shut)]))]) (Wanted.plain rfl) (g_storeB rfl rfl rfl rfl rfl sz75 rfl (Nat.le_of_ble_eq_true rfl) rfl) rfl rfl rfl rfl ?_
  refine AL.fast 1 rfl ?_
  refine AL.nil ?_
  refine then_ok ?_
  refine AC.seq ?_
  refine AC.seq ?_
  refine AC.region ?_
  refine AL.fast 1 rfl ?_
  refine AL.val (Wanted.plain rfl) (g_binI rfl rfl rfl rfl) rfl rfl ?_
  refine AL.nil ?_
  refine then_ok ?_
  refine AC.cond rfl (fun hc2 => ?_) (fun hc2 => ?_)
  ·
    have hc2' := hc2; try simp only [sumB, Bool.not_eq_true', Bool.not_eq_false', Bool.or_eq_true, Bool.or_eq_false_iff, Bool.and_eq_true, Bool.and_eq_false_imp, decide_eq_true_eq, decide_eq_false_iff_not, Bool.not_not, Bool.not_true, Bool.not_false] at hc2'
    refine AC.seq ?_
    refine AC.region ?_
    refine AL.fast 1 rfl ?_
    refine AL.nil ?_
    refine then_ok ?_
    refine AC.ret ?_
    refine then_ret ?_
    refine retQ_mk (av' := outOf [(.c (cB true))]) (nb' := []) (retQ_ret ⟨[(4, (aB true))], [], 0⟩ [.tmp 4] [(.c (cB true))] (Weak.ren id (⟨by first | rfl | (simp only [AV.map, GV.map, CV.map, AB.map', id]; done) | (congr 3; omega) | (congr 4; omega) | (simp only [List.length_append, List.length_cons, List.length_nil, List.length_set]; rfl),  trivial⟩) (trivial) rfl) rfl ⟨.tmp rfl, trivial⟩ trivial) ?_ ?_
    · rfl
    · rfl
  ·
    have hc2' := hc2; try simp only [sumB, Bool.not_eq_true', Bool.not_eq_false', Bool.or_eq_true, Bool.or_eq_false_iff, Bool.and_eq_true, Bool.and_eq_false_imp, decide_eq_true_eq, decide_eq_false_iff_not, Bool.not_not, Bool.not_true, Bool.not_false] at hc2'
    refine AC.skip ?_
    refine then_ok ?_
    refine AC.seq ?_
    refine AC.region ?_
    refine AL.val (Wanted.plain rfl) (g_loadBs rfl rfl rfl Try.underlying75 rfl sz75 rfl rfl) rfl rfl ?_
    refine AL.fast 1 rfl ?_
    obtain ⟨b1, e1, hr1⟩ : ∃ (b1 : Auth) (e1 : Int), moveAuth b0 8 n = (b1, e1) := ⟨_, _, rfl⟩
    refine AL.call (n' := 2) (h' := [(1, (.box 75 [(cI b0.card), (cI b0.shop), (cI b0.sum), (cI b0.captured), (cI b0.refunded), (cI b0.disputed), (cI b0.till), (cB b0.shut)])), (0, (.box 75 [(cI a.card), (cI a.shop), (cI a.sum), (cI a.captured), (cI a.refunded), (cI a.disputed), (cI a.till), (cB a.shut)]))]) (Wanted.plain rfl) (g_call 2 (c_auth_Move b0 8 n  b1 e1 hr1) en65 rfl rfl ⟨⟨_, rfl, .g ⟨.d _, .d _, .d _, .d _, .d _, .d _, .d _, .d _,  trivial⟩⟩, ⟨_, rfl, .c (.d _)⟩, ⟨_, rfl, .c (.d _)⟩,  trivial⟩ ⟨⟨trivial, trivial, trivial, trivial, trivial, trivial, trivial, trivial,  trivial⟩, trivial,  trivial⟩ trivial rfl rfl rfl rfl) rfl rfl rfl rfl rfl ?_
    refine AL.fast 1 rfl ?_
    refine AL.val (Wanted.plain rfl) (g_extract rfl rfl rfl) rfl rfl ?_
    refine AL.val (Wanted.plain rfl) (g_extract rfl rfl rfl) rfl rfl ?_
    refine AL.new (n' := 3) (Wanted.plain rfl) (g_alloc 2 rfl zv75 rfl rfl rfl) rfl rfl rfl ?_
    refine AL.sto (h' := [(2, (.box 75 [(cI b1.card), (cI b1.shop), (cI b1.sum), (cI b1.captured), (cI b1.refunded), (cI b1.disputed), (cI b1.till), (cB b1.shut)])), (1, (.box 75 [(cI b0.card), (cI b0.shop), (cI b0.sum), (cI b0.captured), (cI b0.refunded), (cI b0.disputed), (cI b0.till), (cB b0.shut)])), (0, (.box 75 [(cI a.card), (cI a.shop), (cI a.sum), (cI a.captured), (cI a.refunded), (cI a.disputed), (cI a.till), (cB a.shut)]))]) (Wanted.plain rfl) (g_storeB rfl rfl rfl rfl rfl sz75 rfl (Nat.le_of_ble_eq_true rfl) rfl) rfl rfl rfl rfl ?_
    refine AL.fast 1 rfl ?_
    refine AL.nil ?_
    refine then_ok ?_
    refine AC.seq ?_
    refine AC.region ?_
    refine AL.val (Wanted.plain rfl) (g_loadBs rfl rfl rfl Try.underlying75 rfl sz75 rfl rfl) rfl rfl ?_
    refine AL.fast 1 rfl ?_
    obtain ⟨b2, e2, hr2⟩ : ∃ (b2 : Auth) (e2 : Int), moveAuth b0 7 n = (b2, e2) := ⟨_, _, rfl⟩
    refine AL.call (n' := 3) (h' := [(2, (.box 75 [(cI b1.card), (cI b1.shop), (cI b1.sum), (cI b1.captured), (cI b1.refunded), (cI b1.disputed), (cI b1.till), (cB b1.shut)])), (1, (.box 75 [(cI b0.card), (cI b0.shop), (cI b0.sum), (cI b0.captured), (cI b0.refunded), (cI b0.disputed), (cI b0.till), (cB b0.shut)])), (0, (.box 75 [(cI a.card), (cI a.shop), (cI a.sum), (cI a.captured), (cI a.refunded), (cI a.disputed), (cI a.till), (cB a.shut)]))]) (Wanted.plain rfl) (g_call 3 (c_auth_Move b0 7 n  b2 e2 hr2) en65 rfl rfl ⟨⟨_, rfl, .g ⟨.d _, .d _, .d _, .d _, .d _, .d _, .d _, .d _,  trivial⟩⟩, ⟨_, rfl, .c (.d _)⟩, ⟨_, rfl, .c (.d _)⟩,  trivial⟩ ⟨⟨trivial, trivial, trivial, trivial, trivial, trivial, trivial, trivial,  trivial⟩, trivial,  trivial⟩ trivial rfl rfl rfl rfl) rfl rfl rfl rfl rfl ?_
    refine AL.fast 1 rfl ?_
    refine AL.val (Wanted.plain rfl) (g_extract rfl rfl rfl) rfl rfl ?_
    refine AL.val (Wanted.plain rfl) (g_extract rfl rfl rfl) rfl rfl ?_
    refine AL.new (n' := 4) (Wanted.plain rfl) (g_alloc 3 rfl zv75 rfl rfl rfl) rfl rfl rfl ?_
    refine AL.sto (h' := [(3, (.box 75 [(cI b2.card), (cI b2.shop), (cI b2.sum), (cI b2.captured), (cI b2.refunded), (cI b2.disputed), (cI b2.till), (cB b2.shut)])), (2, (.box 75 [(cI b1.card), (cI b1.shop), (cI b1.sum), (cI b1.captured), (cI b1.refunded), (cI b1.disputed), (cI b1.till), (cB b1.shut)])), (1, (.box 75 [(cI b0.card), (cI b0.shop), (cI b0.sum), (cI b0.captured), (cI b0.refunded), (cI b0.disputed), (cI b0.till), (cB b0.shut)])), (0, (.box 75 [(cI a.card), (cI a.shop), (cI a.sum), (cI a.captured), (cI a.refunded), (cI a.disputed), (cI a.till), (cB a.shut)]))]) (Wanted.plain rfl) (g_storeB rfl rfl rfl rfl rfl sz75 rfl (Nat.le_of_ble_eq_true rfl) rfl) rfl rfl rfl rfl ?_
    refine AL.fast 1 rfl ?_
    refine AL.nil ?_
    refine then_ok ?_
    refine AC.seq ?_
    refine AC.region ?_
    refine AL.val (Wanted.plain rfl) (g_loadBs rfl rfl rfl Try.underlying75 rfl sz75 rfl rfl) rfl rfl ?_
    refine AL.fast 1 rfl ?_
    obtain ⟨b3, e3, hr3⟩ : ∃ (b3 : Auth) (e3 : Int), moveAuth a 5 n = (b3, e3) := ⟨_, _, rfl⟩
    refine AL.call (n' := 4) (h' := [(3, (.box 75 [(cI b2.card), (cI b2.shop), (cI b2.sum), (cI b2.captured), (cI b2.refunded), (cI b2.disputed), (cI b2.till), (cB b2.shut)])), (2, (.box 75 [(cI b1.card), (cI b1.shop), (cI b1.sum), (cI b1.captured), (cI b1.refunded), (cI b1.disputed), (cI b1.till), (cB b1.shut)])), (1, (.box 75 [(cI b0.card), (cI b0.shop), (cI b0.sum), (cI b0.captured), (cI b0.refunded), (cI b0.disputed), (cI b0.till), (cB b0.shut)])), (0, (.box 75 [(cI a.card), (cI a.shop), (cI a.sum), (cI a.captured), (cI a.refunded), (cI a.disputed), (cI a.till), (cB a.shut)]))]) (Wanted.plain rfl) (g_call 4 (c_auth_Move a 5 n  b3 e3 hr3) en65 rfl rfl ⟨⟨_, rfl, .g ⟨.d _, .d _, .d _, .d _, .d _, .d _, .d _, .d _,  trivial⟩⟩, ⟨_, rfl, .c (.d _)⟩, ⟨_, rfl, .c (.d _)⟩,  trivial⟩ ⟨⟨trivial, trivial, trivial, trivial, trivial, trivial, trivial, trivial,  trivial⟩, trivial,  trivial⟩ trivial rfl rfl rfl rfl) rfl rfl rfl rfl rfl ?_
    refine AL.fast 1 rfl ?_
    refine AL.val (Wanted.plain rfl) (g_extract rfl rfl rfl) rfl rfl ?_
    refine AL.val (Wanted.plain rfl) (g_extract rfl rfl rfl) rfl rfl ?_
    refine AL.new (n' := 5) (Wanted.plain rfl) (g_alloc 4 rfl zv75 rfl rfl rfl) rfl rfl rfl ?_
    refine AL.sto (h' := [(4, (.box 75 [(cI b3.card), (cI b3.shop), (cI b3.sum), (cI b3.captured), (cI b3.refunded), (cI b3.disputed), (cI b3.till), (cB b3.shut)])), (3, (.box 75 [(cI b2.card), (cI b2.shop), (cI b2.sum), (cI b2.captured), (cI b2.refunded), (cI b2.disputed), (cI b2.till), (cB b2.shut)])), (2, (.box 75 [(cI b1.card), (cI b1.shop), (cI b1.sum), (cI b1.captured), (cI b1.refunded), (cI b1.disputed), (cI b1.till), (cB b1.shut)])), (1, (.box 75 [(cI b0.card), (cI b0.shop), (cI b0.sum), (cI b0.captured), (cI b0.refunded), (cI b0.disputed), (cI b0.till), (cB b0.shut)])), (0, (.box 75 [(cI a.card), (cI a.shop), (cI a.sum), (cI a.captured), (cI a.refunded), (cI a.disputed), (cI a.till), (cB a.shut)]))]) (Wanted.plain rfl) (g_storeB rfl rfl rfl rfl rfl sz75 rfl (Nat.le_of_ble_eq_true rfl) rfl) rfl rfl rfl rfl ?_
    refine AL.fast 1 rfl ?_
    refine AL.nil ?_
    refine then_ok ?_
    refine AC.cutB 4 (((((decide (e1 = 0)) && (decide (e2 = 0))) && (decide (e3 = 0))) && (sameL [.int .i64 b1.card, .int .i64 b1.shop, .int .i64 b1.sum, .int .i64 b1.captured, .int .i64 b1.refunded, .int .i64 b1.disputed, .int .i64 b1.till, .bool b1.shut] [.int .i64 a.card, .int .i64 a.shop, .int .i64 a.sum, .int .i64 a.captured, .int .i64 a.refunded, .int .i64 a.disputed, .int .i64 a.till, .bool a.shut])) && (sameL [.int .i64 b2.card, .int .i64 b2.shop, .int .i64 b2.sum, .int .i64 b2.captured, .int .i64 b2.refunded, .int .i64 b2.disputed, .int .i64 b2.till, .bool b2.shut] [.int .i64 b3.card, .int .i64 b3.shop, .int .i64 b3.sum, .int .i64 b3.captured, .int .i64 b3.refunded, .int .i64 b3.disputed, .int .i64 b3.till, .bool b3.shut])) ?_ ?_
    ·
      refine AC.region ?_
      refine AL.fast 1 rfl ?_
      refine AL.val (Wanted.plain rfl) (g_binI rfl rfl rfl rfl) rfl rfl ?_
      refine AL.fast 1 rfl ?_
      refine AL.dec (t := 42) rfl (fun hb3 => ?_) (fun hb3 => ?_)
      ·
        have hb3' := hb3; try simp only [sumB, Bool.not_eq_true', Bool.not_eq_false', Bool.or_eq_true, Bool.or_eq_false_iff, Bool.and_eq_true, Bool.and_eq_false_imp, decide_eq_true_eq, decide_eq_false_iff_not, Bool.not_not, Bool.not_true, Bool.not_false] at hb3'
        refine AL.fast 1 rfl ?_
        refine AL.val (Wanted.yes rfl rfl rfl) (g_binI rfl rfl rfl rfl) rfl rfl ?_
        refine AL.fast 2 rfl ?_
        refine AL.dec (t := 46) rfl (fun hb4 => ?_) (fun hb4 => ?_)
        ·
          have hb4' := hb4; try simp only [sumB, Bool.not_eq_true', Bool.not_eq_false', Bool.or_eq_true, Bool.or_eq_false_iff, Bool.and_eq_true, Bool.and_eq_false_imp, decide_eq_true_eq, decide_eq_false_iff_not, Bool.not_not, Bool.not_true, Bool.not_false] at hb4'
          refine AL.fast 1 rfl ?_
          refine AL.val (Wanted.yes rfl rfl rfl) (g_binI rfl rfl rfl rfl) rfl rfl ?_
          refine AL.fast 2 rfl ?_
          refine AL.dec (t := 50) rfl (fun hb5 => ?_) (fun hb5 => ?_)
          ·
            have hb5' := hb5; try simp only [sumB, Bool.not_eq_true', Bool.not_eq_false', Bool.or_eq_true, Bool.or_eq_false_iff, Bool.and_eq_true, Bool.and_eq_false_imp, decide_eq_true_eq, decide_eq_false_iff_not, Bool.not_not, Bool.not_true, Bool.not_false] at hb5'
            refine AL.val (Wanted.yes rfl rfl rfl) (g_loadBs rfl rfl rfl Try.underlying75 rfl sz75 rfl rfl) rfl rfl ?_
            refine AL.val (Wanted.yes rfl rfl rfl) (g_loadBs rfl rfl rfl Try.underlying75 rfl sz75 rfl rfl) rfl rfl ?_
            refine AL.val (Wanted.yes rfl rfl rfl) (g_eql (cmp75 _ _ _ _ _ _ _ _ _ _ _ _ _ _ _ _) rfl rfl rfl rfl rfl rfl) rfl rfl ?_
            refine AL.fast 2 rfl ?_
            refine AL.dec (t := 55) rfl (fun hb6 => ?_) (fun hb6 => ?_)
            ·
              have hb6' := hb6; try simp only [sumB, Bool.not_eq_true', Bool.not_eq_false', Bool.or_eq_true, Bool.or_eq_false_iff, Bool.and_eq_true, Bool.and_eq_false_imp, decide_eq_true_eq, decide_eq_false_iff_not, Bool.not_not, Bool.not_true, Bool.not_false] at hb6'
              refine AL.val (Wanted.yes rfl rfl rfl) (g_loadBs rfl rfl rfl Try.underlying75 rfl sz75 rfl rfl) rfl rfl ?_
              refine AL.val (Wanted.yes rfl rfl rfl) (g_loadBs rfl rfl rfl Try.underlying75 rfl sz75 rfl rfl) rfl rfl ?_
              refine AL.val (Wanted.yes rfl rfl rfl) (g_eql (cmp75 _ _ _ _ _ _ _ _ _ _ _ _ _ _ _ _) rfl rfl rfl rfl rfl rfl) rfl rfl ?_
              refine AL.fast 2 rfl ?_
              refine AL.nil ?_
              refine then_ok ?_
              exact Weak.popB 25 rfl rfl (by first | (simp [hb3, hb4, hb5, hb6]; done) | (simp_all; done) | (exfalso; simp_all; done) | (simp_all; omega)) rfl
            ·
              have hb6' := hb6; try simp only [sumB, Bool.not_eq_true', Bool.not_eq_false', Bool.or_eq_true, Bool.or_eq_false_iff, Bool.and_eq_true, Bool.and_eq_false_imp, decide_eq_true_eq, decide_eq_false_iff_not, Bool.not_not, Bool.not_true, Bool.not_false] at hb6'
              refine AL.fast 5 rfl ?_
              refine AL.nil ?_
              refine then_ok ?_
              exact Weak.popB 25 rfl rfl (by first | (simp [hb3, hb4, hb5, hb6]; done) | (simp_all; done) | (exfalso; simp_all; done) | (simp_all; omega)) rfl
          ·
            have hb5' := hb5; try simp only [sumB, Bool.not_eq_true', Bool.not_eq_false', Bool.or_eq_true, Bool.or_eq_false_iff, Bool.and_eq_true, Bool.and_eq_false_imp, decide_eq_true_eq, decide_eq_false_iff_not, Bool.not_not, Bool.not_true, Bool.not_false] at hb5'
            refine AL.fast 10 rfl ?_
            refine AL.nil ?_
            refine then_ok ?_
            exact Weak.popB 24 rfl rfl (by first | (simp [hb3, hb4, hb5]; done) | (simp_all; done) | (exfalso; simp_all; done) | (simp_all; omega)) rfl
        ·
          have hb4' := hb4; try simp only [sumB, Bool.not_eq_true', Bool.not_eq_false', Bool.or_eq_true, Bool.or_eq_false_iff, Bool.and_eq_true, Bool.and_eq_false_imp, decide_eq_true_eq, decide_eq_false_iff_not, Bool.not_not, Bool.not_true, Bool.not_false] at hb4'
          refine AL.fast 14 rfl ?_
          refine AL.nil ?_
          refine then_ok ?_
          exact Weak.popB 23 rfl rfl (by first | (simp [hb3, hb4]; done) | (simp_all; done) | (exfalso; simp_all; done) | (simp_all; omega)) rfl
      ·
        have hb3' := hb3; try simp only [sumB, Bool.not_eq_true', Bool.not_eq_false', Bool.or_eq_true, Bool.or_eq_false_iff, Bool.and_eq_true, Bool.and_eq_false_imp, decide_eq_true_eq, decide_eq_false_iff_not, Bool.not_not, Bool.not_true, Bool.not_false] at hb3'
        refine AL.fast 18 rfl ?_
        refine AL.nil ?_
        refine then_ok ?_
        exact Weak.popB 22 rfl rfl (by first | (simp [hb3]; done) | (simp_all; done) | (exfalso; simp_all; done) | (simp_all; omega)) rfl
    ·
      refine AC.ret ?_
      refine retQ_mk (av' := outOf [(.c (cB (((((decide (e1 = 0)) && (decide (e2 = 0))) && (decide (e3 = 0))) && (sameL [.int .i64 b1.card, .int .i64 b1.shop, .int .i64 b1.sum, .int .i64 b1.captured, .int .i64 b1.refunded, .int .i64 b1.disputed, .int .i64 b1.till, .bool b1.shut] [.int .i64 a.card, .int .i64 a.shop, .int .i64 a.sum, .int .i64 a.captured, .int .i64 a.refunded, .int .i64 a.disputed, .int .i64 a.till, .bool a.shut])) && (sameL [.int .i64 b2.card, .int .i64 b2.shop, .int .i64 b2.sum, .int .i64 b2.captured, .int .i64 b2.refunded, .int .i64 b2.disputed, .int .i64 b2.till, .bool b2.shut] [.int .i64 b3.card, .int .i64 b3.shop, .int .i64 b3.sum, .int .i64 b3.captured, .int .i64 b3.refunded, .int .i64 b3.disputed, .int .i64 b3.till, .bool b3.shut]))))]) (nb' := []) (retQ_ret ⟨[(4, (aB (((((decide (e1 = 0)) && (decide (e2 = 0))) && (decide (e3 = 0))) && (sameL [.int .i64 b1.card, .int .i64 b1.shop, .int .i64 b1.sum, .int .i64 b1.captured, .int .i64 b1.refunded, .int .i64 b1.disputed, .int .i64 b1.till, .bool b1.shut] [.int .i64 a.card, .int .i64 a.shop, .int .i64 a.sum, .int .i64 a.captured, .int .i64 a.refunded, .int .i64 a.disputed, .int .i64 a.till, .bool a.shut])) && (sameL [.int .i64 b2.card, .int .i64 b2.shop, .int .i64 b2.sum, .int .i64 b2.captured, .int .i64 b2.refunded, .int .i64 b2.disputed, .int .i64 b2.till, .bool b2.shut] [.int .i64 b3.card, .int .i64 b3.shop, .int .i64 b3.sum, .int .i64 b3.captured, .int .i64 b3.refunded, .int .i64 b3.disputed, .int .i64 b3.till, .bool b3.shut]))))], [], 0⟩ [.tmp 4] [(.c (cB (((((decide (e1 = 0)) && (decide (e2 = 0))) && (decide (e3 = 0))) && (sameL [.int .i64 b1.card, .int .i64 b1.shop, .int .i64 b1.sum, .int .i64 b1.captured, .int .i64 b1.refunded, .int .i64 b1.disputed, .int .i64 b1.till, .bool b1.shut] [.int .i64 a.card, .int .i64 a.shop, .int .i64 a.sum, .int .i64 a.captured, .int .i64 a.refunded, .int .i64 a.disputed, .int .i64 a.till, .bool a.shut])) && (sameL [.int .i64 b2.card, .int .i64 b2.shop, .int .i64 b2.sum, .int .i64 b2.captured, .int .i64 b2.refunded, .int .i64 b2.disputed, .int .i64 b2.till, .bool b2.shut] [.int .i64 b3.card, .int .i64 b3.shop, .int .i64 b3.sum, .int .i64 b3.captured, .int .i64 b3.refunded, .int .i64 b3.disputed, .int .i64 b3.till, .bool b3.shut]))))] (Weak.ren id (⟨by first | rfl | (simp only [AV.map, GV.map, CV.map, AB.map', id]; done) | (congr 3; omega) | (congr 4; omega) | (simp only [List.length_append, List.length_cons, List.length_nil, List.length_set]; rfl),  trivial⟩) (trivial) rfl) rfl ⟨.tmp rfl, trivial⟩ trivial) ?_ ?_
      · exact congrArg aB (show (((((decide (e1 = 0)) && (decide (e2 = 0))) && (decide (e3 = 0))) && (sameL [.int .i64 b1.card, .int .i64 b1.shop, .int .i64 b1.sum, .int .i64 b1.captured, .int .i64 b1.refunded, .int .i64 b1.disputed, .int .i64 b1.till, .bool b1.shut] [.int .i64 a.card, .int .i64 a.shop, .int .i64 a.sum, .int .i64 a.captured, .int .i64 a.refunded, .int .i64 a.disputed, .int .i64 a.till, .bool a.shut])) && (sameL [.int .i64 b2.card, .int .i64 b2.shop, .int .i64 b2.sum, .int .i64 b2.captured, .int .i64 b2.refunded, .int .i64 b2.disputed, .int .i64 b2.till, .bool b2.shut] [.int .i64 b3.card, .int .i64 b3.shop, .int .i64 b3.sum, .int .i64 b3.captured, .int .i64 b3.refunded, .int .i64 b3.disputed, .int .i64 b3.till, .bool b3.shut])) = true by (obtain rfl : e0 = 0 := by omega); (obtain ⟨p1, z, p2, p3⟩ := plain_settled hr0); (rw [hr1] at p1; rw [hr2] at p2; rw [hr3] at p3; cases p1; cases p2; cases p3); simp [same75])
      · rfl
end Go.Proofs.Ytgmcdlfmifijlaa.Dev
