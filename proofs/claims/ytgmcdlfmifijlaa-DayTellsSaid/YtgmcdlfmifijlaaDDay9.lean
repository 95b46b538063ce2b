/- paylaw7: DayTells. -/
import Derived.Test.YtgmcdlfmifijlaaDDay8
import Derived.Test.YtgmcdlfmifijlaaDDay6
set_option linter.unusedVariables false
set_option linter.unusedSimpArgs false
namespace Go.Proofs.Ytgmcdlfmifijlaa.Dev
open Go.RowKit

set_option maxRecDepth 100000 in
set_option maxHeartbeats 4000000 in
theorem c_DayTells (l : List Record) (shop : Int) (b : List Int) (hl : l.length * 32 ≤ 140737488355328) (hb : ∀ c ∈ b, 0 ≤ c ∧ c ≤ 255) (hlb : b.length ≤ 9223372036854775807) : Fn Try.prog 25 [(.c (cR 4 ((l).map rRecord))), (.c (cI shop)), (.c (cR 1 ((b).map rU8)))] (aB true) [] := by
  refine Fn.mk' 81 [(0, (aC (cR 4 ((l).map rRecord)))), (1, (aI shop)), (2, (aC (cR 1 ((b).map rU8))))] Try.func25 rfl rfl rfl rfl ?_
  intro W0 T0
  refine AC.len1 0 rfl (fun hlen0 => ?_)
  refine AC.len1 2 rfl (fun hlen2 => ?_)
  refine AC.seq ?_
  refine AC.region ?_
  refine AL.fast 1 rfl ?_
  refine AL.nil ?_
  refine then_ok ?_
  refine AC.seq ?_
  refine AC.region ?_
  refine AL.fast 1 rfl ?_
  obtain ⟨x0, f0, hr0⟩ : ∃ (x0 : List Int) (f0 : Fault), bytesR l = (x0, f0) := ⟨_, _, rfl⟩
  refine AL.call (n' := 1) (h' := [(0, (.arr 5 1 ((x0).map rU8)))]) (Wanted.plain rfl) (g_call 0 (c_day_Bytes l (by first | omega | (simp; done) | (simp; omega)) x0 f0 hr0) en89 rfl rfl ⟨⟨_, rfl, .c (.d _)⟩,  trivial⟩ ⟨trivial, ⟨trivial, trivial,  trivial⟩,  trivial⟩ ⟨(fun _ _ _ _ => trivial),  trivial⟩ rfl rfl rfl rfl) rfl rfl rfl rfl rfl ?_
  refine AL.fast 1 rfl ?_
  refine AL.val (Wanted.plain rfl) (g_extract rfl rfl rfl) rfl rfl ?_
  refine AL.val (Wanted.plain rfl) (g_extract rfl rfl rfl) rfl rfl ?_
  refine AL.new (n' := 2) (Wanted.plain rfl) (g_alloc 1 rfl zv47 rfl rfl rfl) rfl rfl rfl ?_
  refine AL.fast 1 rfl ?_
  refine AL.sto (h' := [(1, (.box 47 [(cI f0.err), (cI f0.at_)])), (0, (.arr 5 1 ((x0).map rU8)))]) (Wanted.plain rfl) (g_storeB rfl rfl rfl rfl rfl sz47 rfl (Nat.le_of_ble_eq_true rfl) rfl) rfl rfl rfl rfl ?_
  refine AL.nil ?_
  refine then_ok ?_
  refine AC.seq ?_
  refine AC.region ?_
  refine AL.fast 1 rfl ?_
  refine AL.call (n' := 3) (h' := [(2, (.arr 5 1 ((x0).map rU8))), (1, (.box 47 [(cI f0.err), (cI f0.at_)])), (0, (.arr 5 1 ((x0).map rU8)))]) (Wanted.plain rfl) (g_call 2 (c_ref_Bytes l (by first | omega | (simp; done) | (simp; omega)) x0 f0 hr0) en90 rfl rfl ⟨⟨_, rfl, .c (.d _)⟩,  trivial⟩ ⟨trivial, ⟨trivial, trivial,  trivial⟩,  trivial⟩ ⟨(fun _ _ _ _ => trivial),  trivial⟩ rfl rfl rfl rfl) rfl rfl rfl rfl rfl ?_
  refine AL.fast 1 rfl ?_
  refine AL.val (Wanted.plain rfl) (g_extract rfl rfl rfl) rfl rfl ?_
  refine AL.val (Wanted.plain rfl) (g_extract rfl rfl rfl) rfl rfl ?_
  refine AL.new (n' := 4) (Wanted.plain rfl) (g_alloc 3 rfl zv47 rfl rfl rfl) rfl rfl rfl ?_
  refine AL.fast 1 rfl ?_
  refine AL.sto (h' := [(3, (.box 47 [(cI f0.err), (cI f0.at_)])), (2, (.arr 5 1 ((x0).map rU8))), (1, (.box 47 [(cI f0.err), (cI f0.at_)])), (0, (.arr 5 1 ((x0).map rU8)))]) (Wanted.plain rfl) (g_storeB rfl rfl rfl rfl rfl sz47 rfl (Nat.le_of_ble_eq_true rfl) rfl) rfl rfl rfl rfl ?_
  refine AL.nil ?_
  refine then_ok ?_
  refine AC.seq ?_
  refine AC.seq ?_
  refine AC.region ?_
  refine AL.val (Wanted.plain rfl) (g_loadBs rfl rfl rfl Try.underlying47 rfl sz47 rfl rfl) rfl rfl ?_
  refine AL.val (Wanted.plain rfl) (g_loadBs rfl rfl rfl Try.underlying47 rfl sz47 rfl rfl) rfl rfl ?_
  refine AL.val (Wanted.plain rfl) (GOp.cast (g_neq (cmp47 _ _ _ _) rfl rfl rfl rfl rfl rfl) (congrArg aB (show (!(sameL [.int .i64 f0.err, .int .i64 f0.at_] [.int .i64 f0.err, .int .i64 f0.at_])) = false by simp [sameL, sameV]))) rfl rfl ?_
  refine AL.fast 2 rfl ?_
  refine AL.val (Wanted.yes rfl rfl rfl) (g_bytesStr (n := x0.length) (l := x0) rfl Try.underlying115 Try.underlying5 Try.underlying9 rfl (.s rfl (Nat.le_refl _) (by first | omega | (simp; done) | (simp; omega)) (by first | (simp; done) | (simp [List.map_take, List.map_drop]; done) | (rw [List.drop_zero]; exact List.take_of_length_le (by first | (simp; done) | (simp; omega))))) (by first | omega | (simp; done) | (simp; omega))) rfl rfl ?_
  refine AL.fast 1 rfl ?_
  refine AL.val (Wanted.yes rfl rfl rfl) (g_bytesStr (n := x0.length) (l := x0) rfl Try.underlying115 Try.underlying5 Try.underlying9 rfl (.s rfl (Nat.le_refl _) (by first | omega | (simp; done) | (simp; omega)) (by first | (simp; done) | (simp [List.map_take, List.map_drop]; done) | (rw [List.drop_zero]; exact List.take_of_length_le (by first | (simp; done) | (simp; omega))))) (by first | omega | (simp; done) | (simp; omega))) rfl rfl ?_
  refine AL.val (Wanted.yes rfl rfl rfl) (GOp.cast (g_neqStr rfl rfl rfl) (congrArg aB (by first | (rw [strE_same]; done) | (rw [strE_same]; rfl)))) rfl rfl ?_
  refine AL.fast 3 rfl ?_
  obtain ⟨f3, hr3⟩ : ∃ (f3 : Fault), wrongR l = f3 := ⟨_, rfl⟩
  refine AL.call (n' := 4) (h' := [(3, (.box 47 [(cI f0.err), (cI f0.at_)])), (2, (.arr 5 1 ((x0).map rU8))), (1, (.box 47 [(cI f0.err), (cI f0.at_)])), (0, (.arr 5 1 ((x0).map rU8)))]) (Wanted.yes rfl rfl rfl) (g_call 4 (c_day_Wrong l  f3 hr3) en91 rfl rfl ⟨⟨_, rfl, .c (.d _)⟩,  trivial⟩ ⟨trivial, trivial,  trivial⟩ trivial rfl rfl rfl rfl) rfl rfl rfl rfl rfl ?_
  refine AL.fast 1 rfl ?_
  refine AL.call (n' := 4) (h' := [(3, (.box 47 [(cI f0.err), (cI f0.at_)])), (2, (.arr 5 1 ((x0).map rU8))), (1, (.box 47 [(cI f0.err), (cI f0.at_)])), (0, (.arr 5 1 ((x0).map rU8)))]) (Wanted.yes rfl rfl rfl) (g_call 4 (c_ref_WrongR l  f3 hr3) en92 rfl rfl ⟨⟨_, rfl, .c (.d _)⟩,  trivial⟩ ⟨trivial, trivial,  trivial⟩ trivial rfl rfl rfl rfl) rfl rfl rfl rfl rfl ?_
  refine AL.val (Wanted.yes rfl rfl rfl) (GOp.cast (g_neq (cmp47 _ _ _ _) rfl rfl rfl rfl rfl rfl) (congrArg aB (show (!(sameL [.int .i64 f3.err, .int .i64 f3.at_] [.int .i64 f3.err, .int .i64 f3.at_])) = false by simp [sameL, sameV]))) rfl rfl ?_
  refine AL.fast 3 rfl ?_
  obtain ⟨r4, hr4⟩ : ∃ (r4 : List Record), sortR l = r4 := ⟨_, rfl⟩
  refine AL.call (n' := 5) (h' := [(4, (.arr 127 4 ((r4).map rRecord))), (3, (.box 47 [(cI f0.err), (cI f0.at_)])), (2, (.arr 5 1 ((x0).map rU8))), (1, (.box 47 [(cI f0.err), (cI f0.at_)])), (0, (.arr 5 1 ((x0).map rU8)))]) (Wanted.yes rfl rfl rfl) (g_call 4 (c_Sorted l (by first | omega | (simp; done) | (simp; omega)) r4 hr4) en94 rfl rfl ⟨⟨_, rfl, .c (.d _)⟩,  trivial⟩ trivial ⟨(fun _ _ _ _ => trivial),  trivial⟩ rfl rfl rfl rfl) rfl rfl rfl rfl rfl ?_
  refine AL.fast 1 rfl ?_
  refine AL.call (n' := 6) (h' := [(5, (.arr 127 4 ((r4).map rRecord))), (4, (.arr 127 4 ((r4).map rRecord))), (3, (.box 47 [(cI f0.err), (cI f0.at_)])), (2, (.arr 5 1 ((x0).map rU8))), (1, (.box 47 [(cI f0.err), (cI f0.at_)])), (0, (.arr 5 1 ((x0).map rU8)))]) (Wanted.yes rfl rfl rfl) (g_call 5 (c_ref_Sorted l (by first | omega | (simp; done) | (simp; omega)) r4 hr4) en95 rfl rfl ⟨⟨_, rfl, .c (.d _)⟩,  trivial⟩ trivial ⟨(fun _ _ _ _ => trivial),  trivial⟩ rfl rfl rfl rfl) rfl rfl rfl rfl rfl ?_
  obtain ⟨r5, hr5⟩ : ∃ (r5 : Bool), sameList r4 r4 = r5 := ⟨_, rfl⟩
  refine AL.call (n' := 6) (h' := [(5, (.arr 127 4 ((r4).map rRecord))), (4, (.arr 127 4 ((r4).map rRecord))), (3, (.box 47 [(cI f0.err), (cI f0.at_)])), (2, (.arr 5 1 ((x0).map rU8))), (1, (.box 47 [(cI f0.err), (cI f0.at_)])), (0, (.arr 5 1 ((x0).map rU8)))]) (Wanted.yes rfl rfl rfl) (g_callE 6 [4, 5] (c_SameRecords r4 r4  r5 hr5) en93 rfl rfl ⟨⟨_, rfl, .c (.s rfl (by decide) (by first | omega | (simp; done) | (simp; omega)))⟩, ⟨_, rfl, .c (.s rfl (by decide) (by first | omega | (simp; done) | (simp; omega)))⟩,  trivial⟩ rfl trivial rfl rfl rfl rfl) rfl rfl rfl rfl rfl ?_
  refine AL.val (Wanted.yes rfl rfl rfl) (g_notB rfl rfl) rfl rfl ?_
  refine AL.fast 1 rfl ?_
  refine AL.nil ?_
  refine then_ok ?_
  refine AC.cond rfl (fun hc1 => ?_) (fun hc1 => ?_)
  ·
    have hc1' := hc1; try simp only [sumB, Bool.not_eq_true', Bool.not_eq_false', Bool.or_eq_true, Bool.or_eq_false_iff, Bool.and_eq_true, Bool.and_eq_false_imp, decide_eq_true_eq, decide_eq_false_iff_not, Bool.not_not, Bool.not_true, Bool.not_false] at hc1'
    refine AC.seq ?_
    refine AC.region ?_
    refine AL.fast 1 rfl ?_
    refine AL.nil ?_
    refine then_ok ?_
    refine AC.ret ?_
    refine then_ret ?_
    refine retQ_mk (av' := outOf [(.c (cB false))]) (nb' := []) (retQ_ret ⟨[(6, (aB false))], [], 0⟩ [.tmp 6] [(.c (cB false))] (Weak.ren id (⟨by first | rfl | (simp only [AV.map, GV.map, CV.map, AB.map', id]; done) | (congr 3; omega) | (congr 4; omega) | (simp only [List.length_append, List.length_cons, List.length_nil, List.length_set]; rfl), trivial⟩) (trivial) rfl) rfl ⟨.tmp rfl, trivial⟩ trivial) ?_ ?_
    · exact congrArg aB (show (false) = true by (simp_all [sameL, sameV, same_self_R]))
    · rfl
  ·
    have hc1' := hc1; try simp only [sumB, Bool.not_eq_true', Bool.not_eq_false', Bool.or_eq_true, Bool.or_eq_false_iff, Bool.and_eq_true, Bool.and_eq_false_imp, decide_eq_true_eq, decide_eq_false_iff_not, Bool.not_not, Bool.not_true, Bool.not_false] at hc1'
    refine AC.skip ?_
    refine then_ok ?_
    refine AC.seq ?_
    obtain ⟨n6, hr6⟩ : ∃ (n6 : Int), netR l shop = n6 := ⟨_, rfl⟩
    refine AC.cutB 62 ((decide (f3.err = 0)) && false) ?_ ?_
    ·
      refine AC.region ?_
      refine AL.fast 1 rfl ?_
      refine AL.call (n' := 6) (h' := [(5, (.arr 127 4 ((r4).map rRecord))), (4, (.arr 127 4 ((r4).map rRecord))), (3, (.box 47 [(cI f0.err), (cI f0.at_)])), (2, (.arr 5 1 ((x0).map rU8))), (1, (.box 47 [(cI f0.err), (cI f0.at_)])), (0, (.arr 5 1 ((x0).map rU8)))]) (Wanted.plain rfl) (g_call 6 (c_ref_WrongR l  f3 hr3) en92 rfl rfl ⟨⟨_, rfl, .c (.d _)⟩,  trivial⟩ ⟨trivial, trivial,  trivial⟩ trivial rfl rfl rfl rfl) rfl rfl rfl rfl rfl ?_
      refine AL.val (Wanted.plain rfl) (g_field1 rfl rfl Try.underlying47 rfl Try.underlying27 rfl rfl) rfl rfl ?_
      refine AL.val (Wanted.plain rfl) (g_binI rfl rfl rfl rfl) rfl rfl ?_
      refine AL.fast 1 rfl ?_
      refine AL.dec (t := 54) rfl (fun hb2 => ?_) (fun hb2 => ?_)
      ·
        have hb2' := hb2; try simp only [sumB, Bool.not_eq_true', Bool.not_eq_false', Bool.or_eq_true, Bool.or_eq_false_iff, Bool.and_eq_true, Bool.and_eq_false_imp, decide_eq_true_eq, decide_eq_false_iff_not, Bool.not_not, Bool.not_true, Bool.not_false] at hb2'
        refine AL.fast 2 rfl ?_
        have hok := wrongR_ok.1 (show (wrongR l).err = 0 by rw [hr3]; omega)
        have hsb : ∀ x ∈ l, 0 ≤ x.sum ∧ x.sum ≤ 1000000 := fun x hx => by have := okR_b (hok.2 x hx); omega
        refine AL.call (n' := 6) (h' := [(5, (.arr 127 4 ((r4).map rRecord))), (4, (.arr 127 4 ((r4).map rRecord))), (3, (.box 47 [(cI f0.err), (cI f0.at_)])), (2, (.arr 5 1 ((x0).map rU8))), (1, (.box 47 [(cI f0.err), (cI f0.at_)])), (0, (.arr 5 1 ((x0).map rU8)))]) (Wanted.yes rfl rfl rfl) (g_call 6 (c_day_Net l shop (by first | assumption | decide) (by first | omega | (simp; done)) n6 hr6) en96 rfl rfl ⟨⟨_, rfl, .c (.d _)⟩, ⟨_, rfl, .c (.d _)⟩,  trivial⟩ trivial trivial rfl rfl rfl rfl) rfl rfl rfl rfl rfl ?_
        refine AL.fast 2 rfl ?_
        refine AL.call (n' := 6) (h' := [(5, (.arr 127 4 ((r4).map rRecord))), (4, (.arr 127 4 ((r4).map rRecord))), (3, (.box 47 [(cI f0.err), (cI f0.at_)])), (2, (.arr 5 1 ((x0).map rU8))), (1, (.box 47 [(cI f0.err), (cI f0.at_)])), (0, (.arr 5 1 ((x0).map rU8)))]) (Wanted.yes rfl rfl rfl) (g_call 6 (c_ref_Net l shop (by first | assumption | decide) (by first | omega | (simp; done)) n6 hr6) en97 rfl rfl ⟨⟨_, rfl, .c (.d _)⟩, ⟨_, rfl, .c (.d _)⟩,  trivial⟩ trivial trivial rfl rfl rfl rfl) rfl rfl rfl rfl rfl ?_
        refine AL.val (Wanted.yes rfl rfl rfl) (g_binI rfl rfl rfl (congrArg (fun b => some (Value.bool b)) (decide_eq_false (fun h => h rfl)))) rfl rfl ?_
        refine AL.fast 1 rfl ?_
        refine AL.nil ?_
        refine then_ok ?_
        exact Weak.popB 14 rfl rfl (by first | (simp [hb2]; done) | (simp_all; done) | (exfalso; simp_all; done) | (simp_all; omega)) rfl
      ·
        have hb2' := hb2; try simp only [sumB, Bool.not_eq_true', Bool.not_eq_false', Bool.or_eq_true, Bool.or_eq_false_iff, Bool.and_eq_true, Bool.and_eq_false_imp, decide_eq_true_eq, decide_eq_false_iff_not, Bool.not_not, Bool.not_true, Bool.not_false] at hb2'
        refine AL.fast 8 rfl ?_
        refine AL.nil ?_
        refine then_ok ?_
        exact Weak.popB 14 rfl rfl (by first | (simp [hb2]; done) | (simp_all; done) | (exfalso; simp_all; done) | (simp_all; omega)) rfl
    ·
      refine AC.cond rfl (fun hc3 => ?_) (fun hc3 => ?_)
      ·
        have hc3' := hc3; try simp only [sumB, Bool.not_eq_true', Bool.not_eq_false', Bool.or_eq_true, Bool.or_eq_false_iff, Bool.and_eq_true, Bool.and_eq_false_imp, decide_eq_true_eq, decide_eq_false_iff_not, Bool.not_not, Bool.not_true, Bool.not_false] at hc3'
        refine AC.seq ?_
        refine AC.region ?_
        refine AL.fast 1 rfl ?_
        refine AL.nil ?_
        refine then_ok ?_
        refine AC.ret ?_
        refine then_ret ?_
        refine retQ_mk (av' := outOf [(.c (cB false))]) (nb' := []) (retQ_ret ⟨[(6, (aB false))], [], 0⟩ [.tmp 6] [(.c (cB false))] (Weak.ren id (⟨by first | rfl | (simp only [AV.map, GV.map, CV.map, AB.map', id]; done) | (congr 3; omega) | (congr 4; omega) | (simp only [List.length_append, List.length_cons, List.length_nil, List.length_set]; rfl), trivial⟩) (trivial) rfl) rfl ⟨.tmp rfl, trivial⟩ trivial) ?_ ?_
        · exact congrArg aB (show (false) = true by (simp_all [sameL, sameV, same_self_R]))
        · rfl
      ·
        have hc3' := hc3; try simp only [sumB, Bool.not_eq_true', Bool.not_eq_false', Bool.or_eq_true, Bool.or_eq_false_iff, Bool.and_eq_true, Bool.and_eq_false_imp, decide_eq_true_eq, decide_eq_false_iff_not, Bool.not_not, Bool.not_true, Bool.not_false] at hc3'
        refine AC.skip ?_
        refine then_ok ?_
        refine AC.seq ?_
        refine AC.region ?_
        refine AL.fast 1 rfl ?_
        obtain ⟨r7, e7, hr7⟩ : ∃ (r7 : List Record) (e7 : Int), parseR b = (r7, e7) := ⟨_, _, rfl⟩
        refine AL.call (n' := 7) (h' := [(6, (.arr 127 4 ((r7).map rRecord))), (5, (.arr 127 4 ((r4).map rRecord))), (4, (.arr 127 4 ((r4).map rRecord))), (3, (.box 47 [(cI f0.err), (cI f0.at_)])), (2, (.arr 5 1 ((x0).map rU8))), (1, (.box 47 [(cI f0.err), (cI f0.at_)])), (0, (.arr 5 1 ((x0).map rU8)))]) (Wanted.plain rfl) (g_call 6 (c_day_Parse b (by first | assumption | decide) (by first | omega | (simp; done)) r7 e7 hr7) en98 rfl rfl ⟨⟨_, rfl, .c (.d _)⟩,  trivial⟩ ⟨trivial, trivial,  trivial⟩ ⟨(fun _ _ _ _ => trivial),  trivial⟩ rfl rfl rfl rfl) rfl rfl rfl rfl rfl ?_
        refine AL.fast 1 rfl ?_
        refine AL.val (Wanted.plain rfl) (g_extract rfl rfl rfl) rfl rfl ?_
        refine AL.val (Wanted.plain rfl) (g_extract rfl rfl rfl) rfl rfl ?_
        refine AL.fast 2 rfl ?_
        refine AL.nil ?_
        refine then_ok ?_
        refine AC.seq ?_
        refine AC.region ?_
        refine AL.fast 1 rfl ?_
        refine AL.call (n' := 8) (h' := [(7, (.arr 127 4 ((r7).map rRecord))), (6, (.arr 127 4 ((r7).map rRecord))), (5, (.arr 127 4 ((r4).map rRecord))), (4, (.arr 127 4 ((r4).map rRecord))), (3, (.box 47 [(cI f0.err), (cI f0.at_)])), (2, (.arr 5 1 ((x0).map rU8))), (1, (.box 47 [(cI f0.err), (cI f0.at_)])), (0, (.arr 5 1 ((x0).map rU8)))]) (Wanted.plain rfl) (g_call 7 (c_ref_Parse b (by first | assumption | decide) (by first | omega | (simp; done)) r7 e7 hr7) en99 rfl rfl ⟨⟨_, rfl, .c (.d _)⟩,  trivial⟩ ⟨trivial, trivial,  trivial⟩ ⟨(fun _ _ _ _ => trivial),  trivial⟩ rfl rfl rfl rfl) rfl rfl rfl rfl rfl ?_
        refine AL.fast 1 rfl ?_
        refine AL.val (Wanted.plain rfl) (g_extract rfl rfl rfl) rfl rfl ?_
        refine AL.val (Wanted.plain rfl) (g_extract rfl rfl rfl) rfl rfl ?_
        refine AL.fast 2 rfl ?_
        refine AL.nil ?_
        refine then_ok ?_
        obtain ⟨r8, hr8⟩ : ∃ (r8 : Bool), sameList r7 r7 = r8 := ⟨_, rfl⟩
        refine AC.cutB 6 (true && r8) ?_ ?_
        ·
          refine AC.region ?_
          refine AL.fast 2 rfl ?_
          refine AL.val (Wanted.plain rfl) (g_binI rfl rfl rfl (congrArg (fun b => some (Value.bool b)) (decide_eq_true rfl))) rfl rfl ?_
          refine AL.fast 3 rfl ?_
          refine AL.call (n' := 8) (h' := [(7, (.arr 127 4 ((r7).map rRecord))), (6, (.arr 127 4 ((r7).map rRecord))), (5, (.arr 127 4 ((r4).map rRecord))), (4, (.arr 127 4 ((r4).map rRecord))), (3, (.box 47 [(cI f0.err), (cI f0.at_)])), (2, (.arr 5 1 ((x0).map rU8))), (1, (.box 47 [(cI f0.err), (cI f0.at_)])), (0, (.arr 5 1 ((x0).map rU8)))]) (Wanted.yes rfl rfl rfl) (g_callE 8 [6, 7] (c_SameRecords r7 r7  r8 hr8) en93 rfl rfl ⟨⟨_, rfl, .c (.s rfl (by decide) (by first | omega | (simp; done) | (simp; omega)))⟩, ⟨_, rfl, .c (.s rfl (by decide) (by first | omega | (simp; done) | (simp; omega)))⟩,  trivial⟩ rfl trivial rfl rfl rfl rfl) rfl rfl rfl rfl rfl ?_
          refine AL.fast 2 rfl ?_
          refine AL.nil ?_
          refine then_ok ?_
          exact Weak.popB 9 rfl rfl (by first | (simp []; done) | (simp_all; done) | (exfalso; simp_all; done) | (simp_all; omega)) rfl
        ·
          refine AC.ret ?_
          refine retQ_mk (av' := outOf [(.c (cB (true && r8)))]) (nb' := []) (retQ_ret ⟨[(6, (aB (true && r8)))], [], 0⟩ [.tmp 6] [(.c (cB (true && r8)))] (Weak.ren id (⟨by first | rfl | (simp only [AV.map, GV.map, CV.map, AB.map', id]; done) | (congr 3; omega) | (congr 4; omega) | (simp only [List.length_append, List.length_cons, List.length_nil, List.length_set]; rfl), trivial⟩) (trivial) rfl) rfl ⟨.tmp rfl, trivial⟩ trivial) ?_ ?_
          · exact congrArg aB (show (true && r8) = true by (simp_all [sameL, sameV, same_self_R]))
          · rfl
end Go.Proofs.Ytgmcdlfmifijlaa.Dev
