/- paylaw7: DayTurns. -/
import Derived.Test.YtgmcdlfmifijlaaDDay8
set_option linter.unusedVariables false
set_option linter.unusedSimpArgs false
namespace Go.Proofs.Ytgmcdlfmifijlaa.Dev
open Go.RowKit

set_option maxRecDepth 100000 in
set_option maxHeartbeats 4000000 in
theorem c_DayTurns (l : List Record) (b : List Int) (hl : l.length * 32 ≤ 140737488355328) (hb : ∀ c ∈ b, 0 ≤ c ∧ c ≤ 255) (hlb : b.length ≤ 9223372036854775807) : Fn Try.prog 26 [(.c (cR 4 ((l).map rRecord))), (.c (cR 1 ((b).map rU8)))] (aB true) [] := by
  refine Fn.mk' 62 [(0, (aC (cR 4 ((l).map rRecord)))), (1, (aC (cR 1 ((b).map rU8))))] Try.func26 rfl rfl rfl rfl ?_
  intro W0 T0
  refine AC.len1 0 rfl (fun hlen0 => ?_)
  refine AC.len1 1 rfl (fun hlen1 => ?_)
  refine AC.seq ?_
  refine AC.region ?_
  refine AL.fast 1 rfl ?_
  refine AL.nil ?_
  refine then_ok ?_
  refine AC.seq ?_
  refine AC.seq ?_
  refine AC.region ?_
  refine AL.call (n' := 0) (h' := []) (Wanted.plain rfl) (g_call 0 (c_day_alive   ) en100 rfl rfl trivial trivial trivial rfl rfl rfl rfl) rfl rfl rfl rfl rfl ?_
  refine AL.val (Wanted.plain rfl) (g_notB rfl rfl) rfl rfl ?_
  refine AL.nil ?_
  refine then_ok ?_
  refine AC.cond rfl (fun hno => by cases hno) (fun _ => ?_)
  refine AC.skip ?_
  refine then_ok ?_
  refine AC.seq ?_
  refine AC.seq ?_
  refine AC.region ?_
  refine AL.fast 1 rfl ?_
  obtain ⟨x0, f0, hr0⟩ : ∃ (x0 : List Int) (f0 : Fault), bytesR l = (x0, f0) := ⟨_, _, rfl⟩
  refine AL.call (n' := 1) (h' := [(0, (.arr 5 1 ((x0).map rU8)))]) (Wanted.plain rfl) (g_call 0 (c_day_Bytes l (by first | omega | (simp; done) | (simp; omega)) x0 f0 hr0) en89 rfl rfl ⟨⟨_, rfl, .c (.d _)⟩,  trivial⟩ ⟨trivial, ⟨trivial, trivial,  trivial⟩,  trivial⟩ ⟨(fun _ _ _ _ => trivial),  trivial⟩ rfl rfl rfl rfl) rfl rfl rfl rfl rfl ?_
  refine AL.fast 1 rfl ?_
  refine AL.val (Wanted.plain rfl) (g_extract rfl rfl rfl) rfl rfl ?_
  refine AL.val (Wanted.plain rfl) (g_extract rfl rfl rfl) rfl rfl ?_
  refine AL.new (n' := 2) (Wanted.plain rfl) (g_alloc 1 rfl zv47 rfl rfl rfl) rfl rfl rfl ?_
  refine AL.fast 1 rfl ?_
  refine AL.sto (h' := [(1, (.box 47 [(cI f0.err), (cI f0.at_)])), (0, (.arr 5 1 ((x0).map rU8)))]) (Wanted.plain rfl) (g_storeB rfl rfl rfl rfl rfl sz47 rfl (Nat.le_of_ble_eq_true rfl) rfl) rfl rfl rfl rfl ?_
  refine AL.nil ?_
  refine then_ok ?_
  refine AC.seq ?_
  refine AC.region ?_
  refine AL.val (Wanted.plain rfl) (g_fieldP rfl rfl Try.underlying47 rfl sz27 (by decide)) rfl rfl ?_
  refine AL.val (Wanted.plain rfl) (g_loadB rfl rfl rfl Try.underlying27 rfl rfl) rfl rfl ?_
  refine AL.val (Wanted.plain rfl) (g_binI rfl rfl rfl rfl) rfl rfl ?_
  refine AL.nil ?_
  refine then_ok ?_
  refine AC.cond rfl (fun hc2 => ?_) (fun hc2 => ?_)
  ·
    have hc2' := hc2; try simp only [sumB, Bool.not_eq_true', Bool.not_eq_false', Bool.or_eq_true, Bool.or_eq_false_iff, Bool.and_eq_true, Bool.and_eq_false_imp, decide_eq_true_eq, decide_eq_false_iff_not, Bool.not_not, Bool.not_true, Bool.not_false] at hc2'
    have hxb := bytesR_b hr0
    have hxl := bytesR_l hr0 hl
    refine AC.seq ?_
    refine AC.region ?_
    refine AL.fast 1 rfl ?_
    obtain ⟨r1, e1, hr1⟩ : ∃ (r1 : List Record) (e1 : Int), parseR x0 = (r1, e1) := ⟨_, _, rfl⟩
    refine AL.call (n' := 3) (h' := [(2, (.arr 127 4 ((r1).map rRecord))), (1, (.box 47 [(cI f0.err), (cI f0.at_)])), (0, (.arr 5 1 ((x0).map rU8)))]) (Wanted.plain rfl) (g_callE 2 [0] (c_day_Parse x0 (by first | assumption | decide) (by first | omega | (simp; done)) r1 e1 hr1) en98 rfl rfl ⟨⟨_, rfl, .c (.s rfl (by decide) (by first | omega | (simp; done) | (simp; omega)))⟩,  trivial⟩ ⟨trivial, rfl,  trivial⟩ ⟨(isv_rRecord _),  trivial⟩ rfl rfl rfl rfl) rfl rfl rfl rfl rfl ?_
    refine AL.fast 1 rfl ?_
    refine AL.val (Wanted.plain rfl) (g_extract rfl rfl rfl) rfl rfl ?_
    refine AL.val (Wanted.plain rfl) (g_extract rfl rfl rfl) rfl rfl ?_
    refine AL.fast 2 rfl ?_
    refine AL.nil ?_
    refine then_ok ?_
    refine AC.seq ?_
    refine AC.region ?_
    refine AL.fast 1 rfl ?_
    refine AL.val (Wanted.plain rfl) (g_binI rfl rfl rfl rfl) rfl rfl ?_
    refine AL.fast 1 rfl ?_
    refine AL.dec (t := 30) rfl (fun hb3 => ?_) (fun hb3 => ?_)
    ·
      have hb3' := hb3; try simp only [sumB, Bool.not_eq_true', Bool.not_eq_false', Bool.or_eq_true, Bool.or_eq_false_iff, Bool.and_eq_true, Bool.and_eq_false_imp, decide_eq_true_eq, decide_eq_false_iff_not, Bool.not_not, Bool.not_true, Bool.not_false] at hb3'
      refine AL.fast 6 rfl ?_
      refine AL.nil ?_
      refine then_ok ?_
      refine AC.cond rfl (fun _ => ?_) (fun hno => by cases hno)
      refine AC.seq ?_
      refine AC.region ?_
      refine AL.fast 1 rfl ?_
      refine AL.nil ?_
      refine then_ok ?_
      refine AC.ret ?_
      refine then_ret ?_
      refine retQ_mk (av' := outOf [(.c (cB false))]) (nb' := []) (retQ_ret ⟨[(4, (aB false))], [], 0⟩ [.tmp 4] [(.c (cB false))] (Weak.ren id (⟨by first | rfl | (simp only [AV.map, GV.map, CV.map, AB.map', id]; done) | (congr 3; omega) | (congr 4; omega) | (simp only [List.length_append, List.length_cons, List.length_nil, List.length_set]; rfl), trivial⟩) (trivial) rfl) rfl ⟨.tmp rfl, trivial⟩ trivial) ?_ ?_
      · exact congrArg aB (show (false) = true by (have hq := parse_bytes (l := l) (by rw [hr0]; omega); rw [hr0, hr1] at hq; injection hq with hq1 hq2; subst hq2; simp_all [same_self_R]))
      · rfl
    ·
      have hb3' := hb3; try simp only [sumB, Bool.not_eq_true', Bool.not_eq_false', Bool.or_eq_true, Bool.or_eq_false_iff, Bool.and_eq_true, Bool.and_eq_false_imp, decide_eq_true_eq, decide_eq_false_iff_not, Bool.not_not, Bool.not_true, Bool.not_false] at hb3'
      refine AL.fast 2 rfl ?_
      obtain ⟨r3, hr3⟩ : ∃ (r3 : List Record), sortR l = r3 := ⟨_, rfl⟩
      refine AL.call (n' := 4) (h' := [(3, (.arr 127 4 ((r3).map rRecord))), (2, (.arr 127 4 ((r1).map rRecord))), (1, (.box 47 [(cI f0.err), (cI f0.at_)])), (0, (.arr 5 1 ((x0).map rU8)))]) (Wanted.yes rfl rfl rfl) (g_call 3 (c_Sorted l (by first | omega | (simp; done) | (simp; omega)) r3 hr3) en94 rfl rfl ⟨⟨_, rfl, .c (.d _)⟩,  trivial⟩ trivial ⟨(fun _ _ _ _ => trivial),  trivial⟩ rfl rfl rfl rfl) rfl rfl rfl rfl rfl ?_
      obtain ⟨r4, hr4⟩ : ∃ (r4 : Bool), sameList r1 r3 = r4 := ⟨_, rfl⟩
      refine AL.call (n' := 4) (h' := [(3, (.arr 127 4 ((r3).map rRecord))), (2, (.arr 127 4 ((r1).map rRecord))), (1, (.box 47 [(cI f0.err), (cI f0.at_)])), (0, (.arr 5 1 ((x0).map rU8)))]) (Wanted.yes rfl rfl rfl) (g_callE 4 [2, 3] (c_SameRecords r1 r3  r4 hr4) en93 rfl rfl ⟨⟨_, rfl, .c (.s rfl (by decide) (by first | omega | (simp; done) | (simp; omega)))⟩, ⟨_, rfl, .c (.s rfl (by decide) (by first | omega | (simp; done) | (simp; omega)))⟩,  trivial⟩ rfl trivial rfl rfl rfl rfl) rfl rfl rfl rfl rfl ?_
      refine AL.val (Wanted.yes rfl rfl rfl) (g_notB rfl rfl) rfl rfl ?_
      refine AL.fast 1 rfl ?_
      refine AL.nil ?_
      refine then_ok ?_
      refine AC.cond rfl (fun hc5 => ?_) (fun hc5 => ?_)
      ·
        have hc5' := hc5; try simp only [sumB, Bool.not_eq_true', Bool.not_eq_false', Bool.or_eq_true, Bool.or_eq_false_iff, Bool.and_eq_true, Bool.and_eq_false_imp, decide_eq_true_eq, decide_eq_false_iff_not, Bool.not_not, Bool.not_true, Bool.not_false] at hc5'
        refine AC.seq ?_
        refine AC.region ?_
        refine AL.fast 1 rfl ?_
        refine AL.nil ?_
        refine then_ok ?_
        refine AC.ret ?_
        refine then_ret ?_
        refine retQ_mk (av' := outOf [(.c (cB false))]) (nb' := []) (retQ_ret ⟨[(4, (aB false))], [], 0⟩ [.tmp 4] [(.c (cB false))] (Weak.ren id (⟨by first | rfl | (simp only [AV.map, GV.map, CV.map, AB.map', id]; done) | (congr 3; omega) | (congr 4; omega) | (simp only [List.length_append, List.length_cons, List.length_nil, List.length_set]; rfl), trivial⟩) (trivial) rfl) rfl ⟨.tmp rfl, trivial⟩ trivial) ?_ ?_
        · exact congrArg aB (show (false) = true by (have hq := parse_bytes (l := l) (by rw [hr0]; omega); rw [hr0, hr1] at hq; injection hq with hq1 hq2; subst hq2; simp_all [same_self_R]))
        · rfl
      ·
        have hc5' := hc5; try simp only [sumB, Bool.not_eq_true', Bool.not_eq_false', Bool.or_eq_true, Bool.or_eq_false_iff, Bool.and_eq_true, Bool.and_eq_false_imp, decide_eq_true_eq, decide_eq_false_iff_not, Bool.not_not, Bool.not_true, Bool.not_false] at hc5'
        refine AC.skip ?_
        refine then_ok ?_
        refine AC.seq ?_
        refine AC.region ?_
        refine AL.fast 1 rfl ?_
        obtain ⟨r5, e5, hr5⟩ : ∃ (r5 : List Record) (e5 : Int), parseR b = (r5, e5) := ⟨_, _, rfl⟩
        refine AL.call (n' := 5) (h' := [(4, (.arr 127 4 ((r5).map rRecord))), (3, (.arr 127 4 ((r3).map rRecord))), (2, (.arr 127 4 ((r1).map rRecord))), (1, (.box 47 [(cI f0.err), (cI f0.at_)])), (0, (.arr 5 1 ((x0).map rU8)))]) (Wanted.plain rfl) (g_call 4 (c_day_Parse b (by first | assumption | decide) (by first | omega | (simp; done)) r5 e5 hr5) en98 rfl rfl ⟨⟨_, rfl, .c (.d _)⟩,  trivial⟩ ⟨trivial, trivial,  trivial⟩ ⟨(fun _ _ _ _ => trivial),  trivial⟩ rfl rfl rfl rfl) rfl rfl rfl rfl rfl ?_
        refine AL.fast 1 rfl ?_
        refine AL.val (Wanted.plain rfl) (g_extract rfl rfl rfl) rfl rfl ?_
        refine AL.val (Wanted.plain rfl) (g_extract rfl rfl rfl) rfl rfl ?_
        refine AL.fast 2 rfl ?_
        refine AL.nil ?_
        refine then_ok ?_
        refine AC.seq ?_
        refine AC.seq ?_
        refine AC.region ?_
        refine AL.fast 1 rfl ?_
        refine AL.val (Wanted.plain rfl) (g_binI rfl rfl rfl rfl) rfl rfl ?_
        refine AL.nil ?_
        refine then_ok ?_
        refine AC.cond rfl (fun hc6 => ?_) (fun hc6 => ?_)
        ·
          have hc6' := hc6; try simp only [sumB, Bool.not_eq_true', Bool.not_eq_false', Bool.or_eq_true, Bool.or_eq_false_iff, Bool.and_eq_true, Bool.and_eq_false_imp, decide_eq_true_eq, decide_eq_false_iff_not, Bool.not_not, Bool.not_true, Bool.not_false] at hc6'
          refine AC.seq ?_
          refine AC.region ?_
          refine AL.fast 1 rfl ?_
          refine AL.val (Wanted.plain rfl) (g_lenS rfl rfl rfl rfl rfl Try.underlying114) rfl rfl ?_
          refine AL.val (Wanted.plain rfl) (g_binI rfl rfl rfl rfl) rfl rfl ?_
          refine AL.fast 1 rfl ?_
          refine AL.nil ?_
          refine then_ok ?_
          refine AC.ret ?_
          refine then_ret ?_
          refine retQ_mk (av' := outOf [(.c (cB (decide ((↑r5.length : Int) = 0))))]) (nb' := []) (retQ_ret ⟨[(4, (aB (decide ((↑r5.length : Int) = 0))))], [], 0⟩ [.tmp 4] [(.c (cB (decide ((↑r5.length : Int) = 0))))] (Weak.ren id (⟨by first | rfl | (simp only [AV.map, GV.map, CV.map, AB.map', id]; done) | (congr 3; omega) | (congr 4; omega) | (simp only [List.length_append, List.length_cons, List.length_nil, List.length_set]; rfl), trivial⟩) (trivial) rfl) rfl ⟨.tmp rfl, trivial⟩ trivial) ?_ ?_
          · exact congrArg aB (show (decide ((↑r5.length : Int) = 0)) = true by (have hq := parseR_bad (b := b) (by rw [hr5]; omega); rw [hr5] at hq; simp_all))
          · rfl
        ·
          have hc6' := hc6; try simp only [sumB, Bool.not_eq_true', Bool.not_eq_false', Bool.or_eq_true, Bool.or_eq_false_iff, Bool.and_eq_true, Bool.and_eq_false_imp, decide_eq_true_eq, decide_eq_false_iff_not, Bool.not_not, Bool.not_true, Bool.not_false] at hc6'
          refine AC.skip ?_
          refine then_ok ?_
          have hpl := (parse_ok hr5 (by omega)).1
          refine AC.seq ?_
          refine AC.region ?_
          refine AL.fast 1 rfl ?_
          obtain ⟨x6, f6, hr6⟩ : ∃ (x6 : List Int) (f6 : Fault), bytesR r5 = (x6, f6) := ⟨_, _, rfl⟩
          refine AL.call (n' := 6) (h' := [(5, (.arr 5 1 ((x6).map rU8))), (4, (.arr 127 4 ((r5).map rRecord))), (3, (.arr 127 4 ((r3).map rRecord))), (2, (.arr 127 4 ((r1).map rRecord))), (1, (.box 47 [(cI f0.err), (cI f0.at_)])), (0, (.arr 5 1 ((x0).map rU8)))]) (Wanted.plain rfl) (g_callE 5 [4] (c_day_Bytes r5 (by first | omega | (simp; done) | (simp; omega)) x6 f6 hr6) en89 rfl rfl ⟨⟨_, rfl, .c (.s rfl (by decide) (by first | omega | (simp; done) | (simp; omega)))⟩,  trivial⟩ ⟨trivial, ⟨rfl, rfl,  trivial⟩,  trivial⟩ ⟨(isv_rU8 _),  trivial⟩ rfl rfl rfl rfl) rfl rfl rfl rfl rfl ?_
          refine AL.fast 1 rfl ?_
          refine AL.val (Wanted.plain rfl) (g_extract rfl rfl rfl) rfl rfl ?_
          refine AL.val (Wanted.plain rfl) (g_extract rfl rfl rfl) rfl rfl ?_
          refine AL.new (n' := 7) (Wanted.plain rfl) (g_alloc 6 rfl zv47 rfl rfl rfl) rfl rfl rfl ?_
          refine AL.fast 1 rfl ?_
          refine AL.sto (h' := [(6, (.box 47 [(cI f6.err), (cI f6.at_)])), (5, (.arr 5 1 ((x6).map rU8))), (4, (.arr 127 4 ((r5).map rRecord))), (3, (.arr 127 4 ((r3).map rRecord))), (2, (.arr 127 4 ((r1).map rRecord))), (1, (.box 47 [(cI f0.err), (cI f0.at_)])), (0, (.arr 5 1 ((x0).map rU8)))]) (Wanted.plain rfl) (g_storeB rfl rfl rfl rfl rfl sz47 rfl (Nat.le_of_ble_eq_true rfl) rfl) rfl rfl rfl rfl ?_
          refine AL.nil ?_
          refine then_ok ?_
          refine AC.cutB 4 ((decide (f6.err = 0)) && (strE x6 b)) ?_ ?_
          ·
            refine AC.region ?_
            refine AL.val (Wanted.plain rfl) (g_fieldP rfl rfl Try.underlying47 rfl sz27 (by decide)) rfl rfl ?_
            refine AL.val (Wanted.plain rfl) (g_loadB rfl rfl rfl Try.underlying27 rfl rfl) rfl rfl ?_
            refine AL.val (Wanted.plain rfl) (g_binI rfl rfl rfl rfl) rfl rfl ?_
            refine AL.fast 1 rfl ?_
            refine AL.dec (t := 55) rfl (fun hb7 => ?_) (fun hb7 => ?_)
            ·
              have hb7' := hb7; try simp only [sumB, Bool.not_eq_true', Bool.not_eq_false', Bool.or_eq_true, Bool.or_eq_false_iff, Bool.and_eq_true, Bool.and_eq_false_imp, decide_eq_true_eq, decide_eq_false_iff_not, Bool.not_not, Bool.not_true, Bool.not_false] at hb7'
              refine AL.fast 1 rfl ?_
              refine AL.val (Wanted.yes rfl rfl rfl) (g_bytesStr (n := x6.length) (l := x6) rfl Try.underlying115 Try.underlying5 Try.underlying9 rfl (.s rfl (Nat.le_refl _) (by first | omega | (simp; done) | (simp; omega)) (by first | (simp; done) | (simp [List.map_take, List.map_drop]; done) | (rw [List.drop_zero]; exact List.take_of_length_le (by first | (simp; done) | (simp; omega))))) (by first | omega | (simp; done) | (simp; omega))) rfl rfl ?_
              refine AL.fast 1 rfl ?_
              refine AL.val (Wanted.yes rfl rfl rfl) (g_bytesStr (n := b.length) (l := b) rfl Try.underlying115 Try.underlying5 Try.underlying9 rfl (.d (by first | (simp; done) | rfl) (Nat.le_refl _) (by first | (simp; done) | exact List.take_of_length_le (by simp))) (by first | omega | (simp; done) | (simp; omega))) rfl rfl ?_
              refine AL.val (Wanted.yes rfl rfl rfl) (g_eqStr rfl rfl rfl) rfl rfl ?_
              refine AL.fast 2 rfl ?_
              refine AL.nil ?_
              refine then_ok ?_
              exact Weak.popB 12 rfl rfl (by first | (simp [hb7]; done) | (simp_all; done) | (exfalso; simp_all; done) | (simp_all; omega)) rfl
            ·
              have hb7' := hb7; try simp only [sumB, Bool.not_eq_true', Bool.not_eq_false', Bool.or_eq_true, Bool.or_eq_false_iff, Bool.and_eq_true, Bool.and_eq_false_imp, decide_eq_true_eq, decide_eq_false_iff_not, Bool.not_not, Bool.not_true, Bool.not_false] at hb7'
              refine AL.fast 7 rfl ?_
              refine AL.nil ?_
              refine then_ok ?_
              exact Weak.popB 12 rfl rfl (by first | (simp [hb7]; done) | (simp_all; done) | (exfalso; simp_all; done) | (simp_all; omega)) rfl
          ·
            refine AC.ret ?_
            refine retQ_mk (av' := outOf [(.c (cB ((decide (f6.err = 0)) && (strE x6 b))))]) (nb' := []) (retQ_ret ⟨[(4, (aB ((decide (f6.err = 0)) && (strE x6 b))))], [], 0⟩ [.tmp 4] [(.c (cB ((decide (f6.err = 0)) && (strE x6 b))))] (Weak.ren id (⟨by first | rfl | (simp only [AV.map, GV.map, CV.map, AB.map', id]; done) | (congr 3; omega) | (congr 4; omega) | (simp only [List.length_append, List.length_cons, List.length_nil, List.length_set]; rfl), trivial⟩) (trivial) rfl) rfl ⟨.tmp rfl, trivial⟩ trivial) ?_ ?_
            · exact congrArg aB (show ((decide (f6.err = 0)) && (strE x6 b)) = true by (have hq := bytes_parse hb (by rw [hr5]; omega); rw [hr5] at hq; rw [hr6] at hq; injection hq with hq1 hq2; subst hq1 hq2; simp [strE_same]))
            · rfl
  ·
    have hc2' := hc2; try simp only [sumB, Bool.not_eq_true', Bool.not_eq_false', Bool.or_eq_true, Bool.or_eq_false_iff, Bool.and_eq_true, Bool.and_eq_false_imp, decide_eq_true_eq, decide_eq_false_iff_not, Bool.not_not, Bool.not_true, Bool.not_false] at hc2'
    refine AC.skip ?_
    refine then_ok ?_
    refine AC.seq ?_
    refine AC.region ?_
    refine AL.fast 1 rfl ?_
    obtain ⟨r7, e7, hr7⟩ : ∃ (r7 : List Record) (e7 : Int), parseR b = (r7, e7) := ⟨_, _, rfl⟩
    refine AL.call (n' := 3) (h' := [(2, (.arr 127 4 ((r7).map rRecord))), (1, (.box 47 [(cI f0.err), (cI f0.at_)])), (0, (.arr 5 1 ((x0).map rU8)))]) (Wanted.plain rfl) (g_call 2 (c_day_Parse b (by first | assumption | decide) (by first | omega | (simp; done)) r7 e7 hr7) en98 rfl rfl ⟨⟨_, rfl, .c (.d _)⟩,  trivial⟩ ⟨trivial, trivial,  trivial⟩ ⟨(fun _ _ _ _ => trivial),  trivial⟩ rfl rfl rfl rfl) rfl rfl rfl rfl rfl ?_
    refine AL.fast 1 rfl ?_
    refine AL.val (Wanted.plain rfl) (g_extract rfl rfl rfl) rfl rfl ?_
    refine AL.val (Wanted.plain rfl) (g_extract rfl rfl rfl) rfl rfl ?_
    refine AL.fast 2 rfl ?_
    refine AL.nil ?_
    refine then_ok ?_
    refine AC.seq ?_
    refine AC.seq ?_
    refine AC.region ?_
    refine AL.fast 1 rfl ?_
    refine AL.val (Wanted.plain rfl) (g_binI rfl rfl rfl rfl) rfl rfl ?_
    refine AL.nil ?_
    refine then_ok ?_
    refine AC.cond rfl (fun hc8 => ?_) (fun hc8 => ?_)
    ·
      have hc8' := hc8; try simp only [sumB, Bool.not_eq_true', Bool.not_eq_false', Bool.or_eq_true, Bool.or_eq_false_iff, Bool.and_eq_true, Bool.and_eq_false_imp, decide_eq_true_eq, decide_eq_false_iff_not, Bool.not_not, Bool.not_true, Bool.not_false] at hc8'
      refine AC.seq ?_
      refine AC.region ?_
      refine AL.fast 1 rfl ?_
      refine AL.val (Wanted.plain rfl) (g_lenS rfl rfl rfl rfl rfl Try.underlying114) rfl rfl ?_
      refine AL.val (Wanted.plain rfl) (g_binI rfl rfl rfl rfl) rfl rfl ?_
      refine AL.fast 1 rfl ?_
      refine AL.nil ?_
      refine then_ok ?_
      refine AC.ret ?_
      refine then_ret ?_
      refine retQ_mk (av' := outOf [(.c (cB (decide ((↑r7.length : Int) = 0))))]) (nb' := []) (retQ_ret ⟨[(4, (aB (decide ((↑r7.length : Int) = 0))))], [], 0⟩ [.tmp 4] [(.c (cB (decide ((↑r7.length : Int) = 0))))] (Weak.ren id (⟨by first | rfl | (simp only [AV.map, GV.map, CV.map, AB.map', id]; done) | (congr 3; omega) | (congr 4; omega) | (simp only [List.length_append, List.length_cons, List.length_nil, List.length_set]; rfl), trivial⟩) (trivial) rfl) rfl ⟨.tmp rfl, trivial⟩ trivial) ?_ ?_
      · exact congrArg aB (show (decide ((↑r7.length : Int) = 0)) = true by (have hq := parseR_bad (b := b) (by rw [hr7]; omega); rw [hr7] at hq; simp_all))
      · rfl
    ·
      have hc8' := hc8; try simp only [sumB, Bool.not_eq_true', Bool.not_eq_false', Bool.or_eq_true, Bool.or_eq_false_iff, Bool.and_eq_true, Bool.and_eq_false_imp, decide_eq_true_eq, decide_eq_false_iff_not, Bool.not_not, Bool.not_true, Bool.not_false] at hc8'
      refine AC.skip ?_
      refine then_ok ?_
      have hpl := (parse_ok hr7 (by omega)).1
      refine AC.seq ?_
      refine AC.region ?_
      refine AL.fast 1 rfl ?_
      obtain ⟨x8, f8, hr8⟩ : ∃ (x8 : List Int) (f8 : Fault), bytesR r7 = (x8, f8) := ⟨_, _, rfl⟩
      refine AL.call (n' := 4) (h' := [(3, (.arr 5 1 ((x8).map rU8))), (2, (.arr 127 4 ((r7).map rRecord))), (1, (.box 47 [(cI f0.err), (cI f0.at_)])), (0, (.arr 5 1 ((x0).map rU8)))]) (Wanted.plain rfl) (g_callE 3 [2] (c_day_Bytes r7 (by first | omega | (simp; done) | (simp; omega)) x8 f8 hr8) en89 rfl rfl ⟨⟨_, rfl, .c (.s rfl (by decide) (by first | omega | (simp; done) | (simp; omega)))⟩,  trivial⟩ ⟨trivial, ⟨rfl, rfl,  trivial⟩,  trivial⟩ ⟨(isv_rU8 _),  trivial⟩ rfl rfl rfl rfl) rfl rfl rfl rfl rfl ?_
      refine AL.fast 1 rfl ?_
      refine AL.val (Wanted.plain rfl) (g_extract rfl rfl rfl) rfl rfl ?_
      refine AL.val (Wanted.plain rfl) (g_extract rfl rfl rfl) rfl rfl ?_
      refine AL.new (n' := 5) (Wanted.plain rfl) (g_alloc 4 rfl zv47 rfl rfl rfl) rfl rfl rfl ?_
      refine AL.fast 1 rfl ?_
      refine AL.sto (h' := [(4, (.box 47 [(cI f8.err), (cI f8.at_)])), (3, (.arr 5 1 ((x8).map rU8))), (2, (.arr 127 4 ((r7).map rRecord))), (1, (.box 47 [(cI f0.err), (cI f0.at_)])), (0, (.arr 5 1 ((x0).map rU8)))]) (Wanted.plain rfl) (g_storeB rfl rfl rfl rfl rfl sz47 rfl (Nat.le_of_ble_eq_true rfl) rfl) rfl rfl rfl rfl ?_
      refine AL.nil ?_
      refine then_ok ?_
      refine AC.cutB 4 ((decide (f8.err = 0)) && (strE x8 b)) ?_ ?_
      ·
        refine AC.region ?_
        refine AL.val (Wanted.plain rfl) (g_fieldP rfl rfl Try.underlying47 rfl sz27 (by decide)) rfl rfl ?_
        refine AL.val (Wanted.plain rfl) (g_loadB rfl rfl rfl Try.underlying27 rfl rfl) rfl rfl ?_
        refine AL.val (Wanted.plain rfl) (g_binI rfl rfl rfl rfl) rfl rfl ?_
        refine AL.fast 1 rfl ?_
        refine AL.dec (t := 55) rfl (fun hb9 => ?_) (fun hb9 => ?_)
        ·
          have hb9' := hb9; try simp only [sumB, Bool.not_eq_true', Bool.not_eq_false', Bool.or_eq_true, Bool.or_eq_false_iff, Bool.and_eq_true, Bool.and_eq_false_imp, decide_eq_true_eq, decide_eq_false_iff_not, Bool.not_not, Bool.not_true, Bool.not_false] at hb9'
          refine AL.fast 1 rfl ?_
          refine AL.val (Wanted.yes rfl rfl rfl) (g_bytesStr (n := x8.length) (l := x8) rfl Try.underlying115 Try.underlying5 Try.underlying9 rfl (.s rfl (Nat.le_refl _) (by first | omega | (simp; done) | (simp; omega)) (by first | (simp; done) | (simp [List.map_take, List.map_drop]; done) | (rw [List.drop_zero]; exact List.take_of_length_le (by first | (simp; done) | (simp; omega))))) (by first | omega | (simp; done) | (simp; omega))) rfl rfl ?_
          refine AL.fast 1 rfl ?_
          refine AL.val (Wanted.yes rfl rfl rfl) (g_bytesStr (n := b.length) (l := b) rfl Try.underlying115 Try.underlying5 Try.underlying9 rfl (.d (by first | (simp; done) | rfl) (Nat.le_refl _) (by first | (simp; done) | exact List.take_of_length_le (by simp))) (by first | omega | (simp; done) | (simp; omega))) rfl rfl ?_
          refine AL.val (Wanted.yes rfl rfl rfl) (g_eqStr rfl rfl rfl) rfl rfl ?_
          refine AL.fast 2 rfl ?_
          refine AL.nil ?_
          refine then_ok ?_
          exact Weak.popB 12 rfl rfl (by first | (simp [hb9]; done) | (simp_all; done) | (exfalso; simp_all; done) | (simp_all; omega)) rfl
        ·
          have hb9' := hb9; try simp only [sumB, Bool.not_eq_true', Bool.not_eq_false', Bool.or_eq_true, Bool.or_eq_false_iff, Bool.and_eq_true, Bool.and_eq_false_imp, decide_eq_true_eq, decide_eq_false_iff_not, Bool.not_not, Bool.not_true, Bool.not_false] at hb9'
          refine AL.fast 7 rfl ?_
          refine AL.nil ?_
          refine then_ok ?_
          exact Weak.popB 12 rfl rfl (by first | (simp [hb9]; done) | (simp_all; done) | (exfalso; simp_all; done) | (simp_all; omega)) rfl
      ·
        refine AC.ret ?_
        refine retQ_mk (av' := outOf [(.c (cB ((decide (f8.err = 0)) && (strE x8 b))))]) (nb' := []) (retQ_ret ⟨[(4, (aB ((decide (f8.err = 0)) && (strE x8 b))))], [], 0⟩ [.tmp 4] [(.c (cB ((decide (f8.err = 0)) && (strE x8 b))))] (Weak.ren id (⟨by first | rfl | (simp only [AV.map, GV.map, CV.map, AB.map', id]; done) | (congr 3; omega) | (congr 4; omega) | (simp only [List.length_append, List.length_cons, List.length_nil, List.length_set]; rfl), trivial⟩) (trivial) rfl) rfl ⟨.tmp rfl, trivial⟩ trivial) ?_ ?_
        · exact congrArg aB (show ((decide (f8.err = 0)) && (strE x8 b)) = true by (have hq := bytes_parse hb (by rw [hr7]; omega); rw [hr7] at hq; rw [hr8] at hq; injection hq with hq1 hq2; subst hq1 hq2; simp [strE_same]))
        · rfl
end Go.Proofs.Ytgmcdlfmifijlaa.Dev
