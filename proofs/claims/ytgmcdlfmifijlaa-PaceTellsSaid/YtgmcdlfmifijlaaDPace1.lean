/- pace: Wrong. -/
import Derived.Test.YtgmcdlfmifijlaaDCom
import Derived.Test.YtgmcdlfmifijlaaDPlPace
set_option linter.unusedVariables false
set_option linter.unusedSimpArgs false
namespace Go.Proofs.Ytgmcdlfmifijlaa.Dev
open Go.RowKit


set_option maxRecDepth 100000 in
set_option maxHeartbeats 1000000 in
theorem c_pace_Wrong (a b c : Int) : Fn Try.prog 38 [(.g [(cI a), (cI b), (cI c)])] (aI (wrongPace a b c)) [] := by
  refine Fn.mk' 31 [(0, (aG [(cI a), (cI b), (cI c)]))] Try.func38 rfl rfl rfl rfl ?_
  intro W0 T0
  refine AC.seq ?_
  refine AC.region ?_
  refine AL.new (n' := 1) (Wanted.plain rfl) (g_boxS 0 rfl rfl) rfl rfl rfl ?_
  refine AL.fast 1 rfl ?_
  refine AL.nil ?_
  refine then_ok ?_
  refine AC.seq ?_
  refine AC.cutB 30 ((((((decide (a < 1)) || (decide (a > 1000000))) || (decide (b < 0))) || (decide (b > 30))) || (decide (c < 0))) || (decide (c > 1000000000000))) ?_ ?_
  ·
    refine AC.region ?_
    refine AL.val (Wanted.plain rfl) (g_fieldP rfl rfl Try.underlying41 rfl sz3 (by decide)) rfl rfl ?_
    refine AL.val (Wanted.plain rfl) (g_loadB rfl rfl rfl Try.underlying3 rfl rfl) rfl rfl ?_
    refine AL.val (Wanted.plain rfl) (g_binI rfl rfl rfl rfl) rfl rfl ?_
    refine AL.fast 1 rfl ?_
    refine AL.dec (t := 6) rfl (fun hb1 => ?_) (fun hb1 => ?_)
    ·
      have hb1' := hb1; try simp only [sumB, Bool.not_eq_true', Bool.not_eq_false', Bool.or_eq_true, Bool.or_eq_false_iff, Bool.and_eq_true, Bool.and_eq_false_imp, decide_eq_true_eq, decide_eq_false_iff_not, Bool.not_not, Bool.not_true, Bool.not_false] at hb1'
      refine AL.fast 24 rfl ?_
      refine AL.nil ?_
      refine then_ok ?_
      exact Weak.popB 29 rfl rfl (by first | (simp [hb1]; done) | (simp_all; done) | (exfalso; simp_all; done) | (simp_all; omega)) rfl
    ·
      have hb1' := hb1; try simp only [sumB, Bool.not_eq_true', Bool.not_eq_false', Bool.or_eq_true, Bool.or_eq_false_iff, Bool.and_eq_true, Bool.and_eq_false_imp, decide_eq_true_eq, decide_eq_false_iff_not, Bool.not_not, Bool.not_true, Bool.not_false] at hb1'
      refine AL.val (Wanted.yes rfl rfl rfl) (g_fieldP rfl rfl Try.underlying41 rfl sz3 (by decide)) rfl rfl ?_
      refine AL.val (Wanted.yes rfl rfl rfl) (g_loadB rfl rfl rfl Try.underlying3 rfl rfl) rfl rfl ?_
      refine AL.val (Wanted.yes rfl rfl rfl) (g_binI rfl rfl rfl rfl) rfl rfl ?_
      refine AL.fast 2 rfl ?_
      refine AL.dec (t := 11) rfl (fun hb2 => ?_) (fun hb2 => ?_)
      ·
        have hb2' := hb2; try simp only [sumB, Bool.not_eq_true', Bool.not_eq_false', Bool.or_eq_true, Bool.or_eq_false_iff, Bool.and_eq_true, Bool.and_eq_false_imp, decide_eq_true_eq, decide_eq_false_iff_not, Bool.not_not, Bool.not_true, Bool.not_false] at hb2'
        refine AL.fast 19 rfl ?_
        refine AL.nil ?_
        refine then_ok ?_
        exact Weak.popB 30 rfl rfl (by first | (simp [hb1, hb2]; done) | (simp_all; done) | (exfalso; simp_all; done) | (simp_all; omega)) rfl
      ·
        have hb2' := hb2; try simp only [sumB, Bool.not_eq_true', Bool.not_eq_false', Bool.or_eq_true, Bool.or_eq_false_iff, Bool.and_eq_true, Bool.and_eq_false_imp, decide_eq_true_eq, decide_eq_false_iff_not, Bool.not_not, Bool.not_true, Bool.not_false] at hb2'
        refine AL.val (Wanted.yes rfl rfl rfl) (g_fieldP rfl rfl Try.underlying41 rfl sz3 (by decide)) rfl rfl ?_
        refine AL.val (Wanted.yes rfl rfl rfl) (g_loadB rfl rfl rfl Try.underlying3 rfl rfl) rfl rfl ?_
        refine AL.val (Wanted.yes rfl rfl rfl) (g_binI rfl rfl rfl rfl) rfl rfl ?_
        refine AL.fast 2 rfl ?_
        refine AL.dec (t := 16) rfl (fun hb3 => ?_) (fun hb3 => ?_)
        ·
          have hb3' := hb3; try simp only [sumB, Bool.not_eq_true', Bool.not_eq_false', Bool.or_eq_true, Bool.or_eq_false_iff, Bool.and_eq_true, Bool.and_eq_false_imp, decide_eq_true_eq, decide_eq_false_iff_not, Bool.not_not, Bool.not_true, Bool.not_false] at hb3'
          refine AL.fast 14 rfl ?_
          refine AL.nil ?_
          refine then_ok ?_
          exact Weak.popB 31 rfl rfl (by first | (simp [hb1, hb2, hb3]; done) | (simp_all; done) | (exfalso; simp_all; done) | (simp_all; omega)) rfl
        ·
          have hb3' := hb3; try simp only [sumB, Bool.not_eq_true', Bool.not_eq_false', Bool.or_eq_true, Bool.or_eq_false_iff, Bool.and_eq_true, Bool.and_eq_false_imp, decide_eq_true_eq, decide_eq_false_iff_not, Bool.not_not, Bool.not_true, Bool.not_false] at hb3'
          refine AL.val (Wanted.yes rfl rfl rfl) (g_fieldP rfl rfl Try.underlying41 rfl sz3 (by decide)) rfl rfl ?_
          refine AL.val (Wanted.yes rfl rfl rfl) (g_loadB rfl rfl rfl Try.underlying3 rfl rfl) rfl rfl ?_
          refine AL.val (Wanted.yes rfl rfl rfl) (g_binI rfl rfl rfl rfl) rfl rfl ?_
          refine AL.fast 2 rfl ?_
          refine AL.dec (t := 21) rfl (fun hb4 => ?_) (fun hb4 => ?_)
          ·
            have hb4' := hb4; try simp only [sumB, Bool.not_eq_true', Bool.not_eq_false', Bool.or_eq_true, Bool.or_eq_false_iff, Bool.and_eq_true, Bool.and_eq_false_imp, decide_eq_true_eq, decide_eq_false_iff_not, Bool.not_not, Bool.not_true, Bool.not_false] at hb4'
            refine AL.fast 9 rfl ?_
            refine AL.nil ?_
            refine then_ok ?_
            exact Weak.popB 32 rfl rfl (by first | (simp [hb1, hb2, hb3, hb4]; done) | (simp_all; done) | (exfalso; simp_all; done) | (simp_all; omega)) rfl
          ·
            have hb4' := hb4; try simp only [sumB, Bool.not_eq_true', Bool.not_eq_false', Bool.or_eq_true, Bool.or_eq_false_iff, Bool.and_eq_true, Bool.and_eq_false_imp, decide_eq_true_eq, decide_eq_false_iff_not, Bool.not_not, Bool.not_true, Bool.not_false] at hb4'
            refine AL.val (Wanted.yes rfl rfl rfl) (g_fieldP rfl rfl Try.underlying41 rfl sz3 (by decide)) rfl rfl ?_
            refine AL.val (Wanted.yes rfl rfl rfl) (g_loadB rfl rfl rfl Try.underlying3 rfl rfl) rfl rfl ?_
            refine AL.val (Wanted.yes rfl rfl rfl) (g_binI rfl rfl rfl rfl) rfl rfl ?_
            refine AL.fast 2 rfl ?_
            refine AL.dec (t := 26) rfl (fun hb5 => ?_) (fun hb5 => ?_)
            ·
              have hb5' := hb5; try simp only [sumB, Bool.not_eq_true', Bool.not_eq_false', Bool.or_eq_true, Bool.or_eq_false_iff, Bool.and_eq_true, Bool.and_eq_false_imp, decide_eq_true_eq, decide_eq_false_iff_not, Bool.not_not, Bool.not_true, Bool.not_false] at hb5'
              refine AL.fast 4 rfl ?_
              refine AL.nil ?_
              refine then_ok ?_
              exact Weak.popB 33 rfl rfl (by first | (simp [hb1, hb2, hb3, hb4, hb5]; done) | (simp_all; done) | (exfalso; simp_all; done) | (simp_all; omega)) rfl
            ·
              have hb5' := hb5; try simp only [sumB, Bool.not_eq_true', Bool.not_eq_false', Bool.or_eq_true, Bool.or_eq_false_iff, Bool.and_eq_true, Bool.and_eq_false_imp, decide_eq_true_eq, decide_eq_false_iff_not, Bool.not_not, Bool.not_true, Bool.not_false] at hb5'
              refine AL.val (Wanted.yes rfl rfl rfl) (g_fieldP rfl rfl Try.underlying41 rfl sz3 (by decide)) rfl rfl ?_
              refine AL.val (Wanted.yes rfl rfl rfl) (g_loadB rfl rfl rfl Try.underlying3 rfl rfl) rfl rfl ?_
              refine AL.val (Wanted.yes rfl rfl rfl) (g_binI rfl rfl rfl rfl) rfl rfl ?_
              refine AL.fast 1 rfl ?_
              refine AL.nil ?_
              refine then_ok ?_
              exact Weak.popB 33 rfl rfl (by first | (simp [hb1, hb2, hb3, hb4, hb5]; done) | (simp_all; done) | (exfalso; simp_all; done) | (simp_all; omega)) rfl
  ·
    refine AC.cond rfl (fun hc6 => ?_) (fun hc6 => ?_)
    ·
      have hc6' := hc6; try simp only [sumB, Bool.not_eq_true', Bool.not_eq_false', Bool.or_eq_true, Bool.or_eq_false_iff, Bool.and_eq_true, Bool.and_eq_false_imp, decide_eq_true_eq, decide_eq_false_iff_not, Bool.not_not, Bool.not_true, Bool.not_false] at hc6'
      refine AC.seq ?_
      refine AC.region ?_
      refine AL.fast 1 rfl ?_
      refine AL.nil ?_
      refine then_ok ?_
      refine AC.ret ?_
      refine then_ret ?_
      refine retQ_mk (av' := outOf [(.c (cI 3))]) (nb' := []) (retQ_ret ⟨[(2, (aI 3))], [], 0⟩ [.tmp 2] [(.c (cI 3))] (Weak.ren id (⟨by first | rfl | (simp only [AV.map, GV.map, CV.map, AB.map', id]; done) | (congr 3; omega) | (congr 4; omega) | (simp only [List.length_append, List.length_cons, List.length_nil, List.length_set]; rfl),  trivial⟩) (trivial) rfl) rfl ⟨.tmp rfl, trivial⟩ trivial) ?_ ?_
      · (show aI _ = aI _; unfold wrongPace; rw [if_pos (by omega)])
      · rfl
    ·
      have hc6' := hc6; try simp only [sumB, Bool.not_eq_true', Bool.not_eq_false', Bool.or_eq_true, Bool.or_eq_false_iff, Bool.and_eq_true, Bool.and_eq_false_imp, decide_eq_true_eq, decide_eq_false_iff_not, Bool.not_not, Bool.not_true, Bool.not_false] at hc6'
      refine AC.skip ?_
      refine then_ok ?_
      refine AC.seq ?_
      refine AC.region ?_
      refine AL.fast 1 rfl ?_
      refine AL.nil ?_
      refine then_ok ?_
      refine AC.ret ?_
      refine retQ_mk (av' := outOf [(.c (cI 0))]) (nb' := []) (retQ_ret ⟨[(2, (aI 0))], [], 0⟩ [.tmp 2] [(.c (cI 0))] (Weak.ren id (⟨by first | rfl | (simp only [AV.map, GV.map, CV.map, AB.map', id]; done) | (congr 3; omega) | (congr 4; omega) | (simp only [List.length_append, List.length_cons, List.length_nil, List.length_set]; rfl),  trivial⟩) (trivial) rfl) rfl ⟨.tmp rfl, trivial⟩ trivial) ?_ ?_
      · (show aI _ = aI _; unfold wrongPace; rw [if_neg (by omega)])
      · rfl
set_option maxRecDepth 100000 in
set_option maxHeartbeats 1000000 in
theorem c_ref_WrongPace (a b c : Int) : Fn Try.prog 39 [(.g [(cI a), (cI b), (cI c)])] (aI (wrongPace a b c)) [] := by
  refine Fn.mk' 31 [(0, (aG [(cI a), (cI b), (cI c)]))] Try.func39 rfl rfl rfl rfl ?_
  intro W0 T0
  refine AC.seq ?_
  refine AC.region ?_
  refine AL.new (n' := 1) (Wanted.plain rfl) (g_boxS 0 rfl rfl) rfl rfl rfl ?_
  refine AL.fast 1 rfl ?_
  refine AL.nil ?_
  refine then_ok ?_
  refine AC.seq ?_
  refine AC.cutB 30 ((((((decide (a < 1)) || (decide (a > 1000000))) || (decide (b < 0))) || (decide (b > 30))) || (decide (c < 0))) || (decide (c > 1000000000000))) ?_ ?_
  ·
    refine AC.region ?_
    refine AL.val (Wanted.plain rfl) (g_fieldP rfl rfl Try.underlying41 rfl sz3 (by decide)) rfl rfl ?_
    refine AL.val (Wanted.plain rfl) (g_loadB rfl rfl rfl Try.underlying3 rfl rfl) rfl rfl ?_
    refine AL.val (Wanted.plain rfl) (g_binI rfl rfl rfl rfl) rfl rfl ?_
    refine AL.fast 1 rfl ?_
    refine AL.dec (t := 6) rfl (fun hb1 => ?_) (fun hb1 => ?_)
    ·
      have hb1' := hb1; try simp only [sumB, Bool.not_eq_true', Bool.not_eq_false', Bool.or_eq_true, Bool.or_eq_false_iff, Bool.and_eq_true, Bool.and_eq_false_imp, decide_eq_true_eq, decide_eq_false_iff_not, Bool.not_not, Bool.not_true, Bool.not_false] at hb1'
      refine AL.fast 24 rfl ?_
      refine AL.nil ?_
      refine then_ok ?_
      exact Weak.popB 29 rfl rfl (by first | (simp [hb1]; done) | (simp_all; done) | (exfalso; simp_all; done) | (simp_all; omega)) rfl
    ·
      have hb1' := hb1; try simp only [sumB, Bool.not_eq_true', Bool.not_eq_false', Bool.or_eq_true, Bool.or_eq_false_iff, Bool.and_eq_true, Bool.and_eq_false_imp, decide_eq_true_eq, decide_eq_false_iff_not, Bool.not_not, Bool.not_true, Bool.not_false] at hb1'
      refine AL.val (Wanted.yes rfl rfl rfl) (g_fieldP rfl rfl Try.underlying41 rfl sz3 (by decide)) rfl rfl ?_
      refine AL.val (Wanted.yes rfl rfl rfl) (g_loadB rfl rfl rfl Try.underlying3 rfl rfl) rfl rfl ?_
      refine AL.val (Wanted.yes rfl rfl rfl) (g_binI rfl rfl rfl rfl) rfl rfl ?_
      refine AL.fast 2 rfl ?_
      refine AL.dec (t := 11) rfl (fun hb2 => ?_) (fun hb2 => ?_)
      ·
        have hb2' := hb2; try simp only [sumB, Bool.not_eq_true', Bool.not_eq_false', Bool.or_eq_true, Bool.or_eq_false_iff, Bool.and_eq_true, Bool.and_eq_false_imp, decide_eq_true_eq, decide_eq_false_iff_not, Bool.not_not, Bool.not_true, Bool.not_false] at hb2'
        refine AL.fast 19 rfl ?_
        refine AL.nil ?_
        refine then_ok ?_
        exact Weak.popB 30 rfl rfl (by first | (simp [hb1, hb2]; done) | (simp_all; done) | (exfalso; simp_all; done) | (simp_all; omega)) rfl
      ·
        have hb2' := hb2; try simp only [sumB, Bool.not_eq_true', Bool.not_eq_false', Bool.or_eq_true, Bool.or_eq_false_iff, Bool.and_eq_true, Bool.and_eq_false_imp, decide_eq_true_eq, decide_eq_false_iff_not, Bool.not_not, Bool.not_true, Bool.not_false] at hb2'
        refine AL.val (Wanted.yes rfl rfl rfl) (g_fieldP rfl rfl Try.underlying41 rfl sz3 (by decide)) rfl rfl ?_
        refine AL.val (Wanted.yes rfl rfl rfl) (g_loadB rfl rfl rfl Try.underlying3 rfl rfl) rfl rfl ?_
        refine AL.val (Wanted.yes rfl rfl rfl) (g_binI rfl rfl rfl rfl) rfl rfl ?_
        refine AL.fast 2 rfl ?_
        refine AL.dec (t := 16) rfl (fun hb3 => ?_) (fun hb3 => ?_)
        ·
          have hb3' := hb3; try simp only [sumB, Bool.not_eq_true', Bool.not_eq_false', Bool.or_eq_true, Bool.or_eq_false_iff, Bool.and_eq_true, Bool.and_eq_false_imp, decide_eq_true_eq, decide_eq_false_iff_not, Bool.not_not, Bool.not_true, Bool.not_false] at hb3'
          refine AL.fast 14 rfl ?_
          refine AL.nil ?_
          refine then_ok ?_
          exact Weak.popB 31 rfl rfl (by first | (simp [hb1, hb2, hb3]; done) | (simp_all; done) | (exfalso; simp_all; done) | (simp_all; omega)) rfl
        ·
          have hb3' := hb3; try simp only [sumB, Bool.not_eq_true', Bool.not_eq_false', Bool.or_eq_true, Bool.or_eq_false_iff, Bool.and_eq_true, Bool.and_eq_false_imp, decide_eq_true_eq, decide_eq_false_iff_not, Bool.not_not, Bool.not_true, Bool.not_false] at hb3'
          refine AL.val (Wanted.yes rfl rfl rfl) (g_fieldP rfl rfl Try.underlying41 rfl sz3 (by decide)) rfl rfl ?_
          refine AL.val (Wanted.yes rfl rfl rfl) (g_loadB rfl rfl rfl Try.underlying3 rfl rfl) rfl rfl ?_
          refine AL.val (Wanted.yes rfl rfl rfl) (g_binI rfl rfl rfl rfl) rfl rfl ?_
          refine AL.fast 2 rfl ?_
          refine AL.dec (t := 21) rfl (fun hb4 => ?_) (fun hb4 => ?_)
          ·
            have hb4' := hb4; try simp only [sumB, Bool.not_eq_true', Bool.not_eq_false', Bool.or_eq_true, Bool.or_eq_false_iff, Bool.and_eq_true, Bool.and_eq_false_imp, decide_eq_true_eq, decide_eq_false_iff_not, Bool.not_not, Bool.not_true, Bool.not_false] at hb4'
            refine AL.fast 9 rfl ?_
            refine AL.nil ?_
            refine then_ok ?_
            exact Weak.popB 32 rfl rfl (by first | (simp [hb1, hb2, hb3, hb4]; done) | (simp_all; done) | (exfalso; simp_all; done) | (simp_all; omega)) rfl
          ·
            have hb4' := hb4; try simp only [sumB, Bool.not_eq_true', Bool.not_eq_false', Bool.or_eq_true, Bool.or_eq_false_iff, Bool.and_eq_true, Bool.and_eq_false_imp, decide_eq_true_eq, decide_eq_false_iff_not, Bool.not_not, Bool.not_true, Bool.not_false] at hb4'
            refine AL.val (Wanted.yes rfl rfl rfl) (g_fieldP rfl rfl Try.underlying41 rfl sz3 (by decide)) rfl rfl ?_
            refine AL.val (Wanted.yes rfl rfl rfl) (g_loadB rfl rfl rfl Try.underlying3 rfl rfl) rfl rfl ?_
            refine AL.val (Wanted.yes rfl rfl rfl) (g_binI rfl rfl rfl rfl) rfl rfl ?_
            refine AL.fast 2 rfl ?_
            refine AL.dec (t := 26) rfl (fun hb5 => ?_) (fun hb5 => ?_)
            ·
              have hb5' := hb5; try simp only [sumB, Bool.not_eq_true', Bool.not_eq_false', Bool.or_eq_true, Bool.or_eq_false_iff, Bool.and_eq_true, Bool.and_eq_false_imp, decide_eq_true_eq, decide_eq_false_iff_not, Bool.not_not, Bool.not_true, Bool.not_false] at hb5'
              refine AL.fast 4 rfl ?_
              refine AL.nil ?_
              refine then_ok ?_
              exact Weak.popB 33 rfl rfl (by first | (simp [hb1, hb2, hb3, hb4, hb5]; done) | (simp_all; done) | (exfalso; simp_all; done) | (simp_all; omega)) rfl
            ·
              have hb5' := hb5; try simp only [sumB, Bool.not_eq_true', Bool.not_eq_false', Bool.or_eq_true, Bool.or_eq_false_iff, Bool.and_eq_true, Bool.and_eq_false_imp, decide_eq_true_eq, decide_eq_false_iff_not, Bool.not_not, Bool.not_true, Bool.not_false] at hb5'
              refine AL.val (Wanted.yes rfl rfl rfl) (g_fieldP rfl rfl Try.underlying41 rfl sz3 (by decide)) rfl rfl ?_
              refine AL.val (Wanted.yes rfl rfl rfl) (g_loadB rfl rfl rfl Try.underlying3 rfl rfl) rfl rfl ?_
              refine AL.val (Wanted.yes rfl rfl rfl) (g_binI rfl rfl rfl rfl) rfl rfl ?_
              refine AL.fast 1 rfl ?_
              refine AL.nil ?_
              refine then_ok ?_
              exact Weak.popB 33 rfl rfl (by first | (simp [hb1, hb2, hb3, hb4, hb5]; done) | (simp_all; done) | (exfalso; simp_all; done) | (simp_all; omega)) rfl
  ·
    refine AC.cond rfl (fun hc6 => ?_) (fun hc6 => ?_)
    ·
      have hc6' := hc6; try simp only [sumB, Bool.not_eq_true', Bool.not_eq_false', Bool.or_eq_true, Bool.or_eq_false_iff, Bool.and_eq_true, Bool.and_eq_false_imp, decide_eq_true_eq, decide_eq_false_iff_not, Bool.not_not, Bool.not_true, Bool.not_false] at hc6'
      refine AC.seq ?_
      refine AC.region ?_
      refine AL.fast 1 rfl ?_
      refine AL.nil ?_
      refine then_ok ?_
      refine AC.ret ?_
      refine then_ret ?_
      refine retQ_mk (av' := outOf [(.c (cI 3))]) (nb' := []) (retQ_ret ⟨[(2, (aI 3))], [], 0⟩ [.tmp 2] [(.c (cI 3))] (Weak.ren id (⟨by first | rfl | (simp only [AV.map, GV.map, CV.map, AB.map', id]; done) | (congr 3; omega) | (congr 4; omega) | (simp only [List.length_append, List.length_cons, List.length_nil, List.length_set]; rfl),  trivial⟩) (trivial) rfl) rfl ⟨.tmp rfl, trivial⟩ trivial) ?_ ?_
      · (show aI _ = aI _; unfold wrongPace; rw [if_pos (by omega)])
      · rfl
    ·
      have hc6' := hc6; try simp only [sumB, Bool.not_eq_true', Bool.not_eq_false', Bool.or_eq_true, Bool.or_eq_false_iff, Bool.and_eq_true, Bool.and_eq_false_imp, decide_eq_true_eq, decide_eq_false_iff_not, Bool.not_not, Bool.not_true, Bool.not_false] at hc6'
      refine AC.skip ?_
      refine then_ok ?_
      refine AC.seq ?_
      refine AC.region ?_
      refine AL.fast 1 rfl ?_
      refine AL.nil ?_
      refine then_ok ?_
      refine AC.ret ?_
      refine retQ_mk (av' := outOf [(.c (cI 0))]) (nb' := []) (retQ_ret ⟨[(2, (aI 0))], [], 0⟩ [.tmp 2] [(.c (cI 0))] (Weak.ren id (⟨by first | rfl | (simp only [AV.map, GV.map, CV.map, AB.map', id]; done) | (congr 3; omega) | (congr 4; omega) | (simp only [List.length_append, List.length_cons, List.length_nil, List.length_set]; rfl),  trivial⟩) (trivial) rfl) rfl ⟨.tmp rfl, trivial⟩ trivial) ?_ ?_
      · (show aI _ = aI _; unfold wrongPace; rw [if_neg (by omega)])
      · rfl
end Go.Proofs.Ytgmcdlfmifijlaa.Dev
