/- paylaw7: DaySorted. -/
import Derived.Test.YtgmcdlfmifijlaaDDay8
set_option linter.unusedVariables false
set_option linter.unusedSimpArgs false
namespace Go.Proofs.Ytgmcdlfmifijlaa.Dev
open Go.RowKit

set_option maxRecDepth 100000 in
set_option maxHeartbeats 4000000 in
theorem c_DaySorted (l : List Record) (shop : Int) (hl : l.length * 32 ≤ 140737488355328) : Fn Try.prog 27 [(.c (cR 4 ((l).map rRecord))), (.c (cI shop))] (aB true) [] := by
  refine Fn.mk' 158 [(0, (aC (cR 4 ((l).map rRecord)))), (1, (aI shop))] Try.func27 rfl rfl rfl rfl ?_
  intro W0 T0
  refine AC.len1 0 rfl (fun hlen0 => ?_)
  refine AC.seq ?_
  refine AC.region ?_
  refine AL.fast 1 rfl ?_
  refine AL.nil ?_
  refine then_ok ?_
  refine AC.seq ?_
  refine AC.seq ?_
  refine AC.region ?_
  refine AL.call (n' := 0) (h' := []) (Wanted.plain rfl) (g_call 0 (c_day_alive   ) en100 rfl rfl trivial trivial trivial rfl rfl rfl rfl) rfl rfl rfl rfl rfl ?_
  refine AL.val (Wanted.plain rfl) (g_notB rfl rfl) rfl rfl ?_
  refine AL.nil ?_
  refine then_ok ?_
  refine AC.cond rfl (fun hno => by cases hno) (fun _ => ?_)
  refine AC.skip ?_
  refine then_ok ?_
  refine AC.seq ?_
  refine AC.seq ?_
  refine AC.region ?_
  refine AL.fast 1 rfl ?_
  obtain ⟨f0, hr0⟩ : ∃ (f0 : Fault), wrongR l = f0 := ⟨_, rfl⟩
  refine AL.call (n' := 0) (h' := []) (Wanted.plain rfl) (g_call 0 (c_day_Wrong l  f0 hr0) en91 rfl rfl ⟨⟨_, rfl, .c (.d _)⟩,  trivial⟩ ⟨trivial, trivial,  trivial⟩ trivial rfl rfl rfl rfl) rfl rfl rfl rfl rfl ?_
  refine AL.val (Wanted.plain rfl) (g_field1 rfl rfl Try.underlying47 rfl Try.underlying27 rfl rfl) rfl rfl ?_
  refine AL.val (Wanted.plain rfl) (g_binI rfl rfl rfl rfl) rfl rfl ?_
  refine AL.nil ?_
  refine then_ok ?_
  refine AC.cond rfl (fun hc2 => ?_) (fun hc2 => ?_)
  ·
    have hc2' := hc2; try simp only [sumB, Bool.not_eq_true', Bool.not_eq_false', Bool.or_eq_true, Bool.or_eq_false_iff, Bool.and_eq_true, Bool.and_eq_false_imp, decide_eq_true_eq, decide_eq_false_iff_not, Bool.not_not, Bool.not_true, Bool.not_false] at hc2'
    refine AC.seq ?_
    refine AC.region ?_
    refine AL.fast 1 rfl ?_
    refine AL.nil ?_
    refine then_ok ?_
    refine AC.ret ?_
    refine then_ret ?_
    refine retQ_mk (av' := outOf [(.c (cB true))]) (nb' := []) (retQ_ret ⟨[(4, (aB true))], [], 0⟩ [.tmp 4] [(.c (cB true))] (Weak.ren id (⟨by first | rfl | (simp only [AV.map, GV.map, CV.map, AB.map', id]; done) | (congr 3; omega) | (congr 4; omega) | (simp only [List.length_append, List.length_cons, List.length_nil, List.length_set]; rfl), trivial⟩) (trivial) rfl) rfl ⟨.tmp rfl, trivial⟩ trivial) ?_ ?_
    · rfl
    · rfl
  ·
    have hc2' := hc2; try simp only [sumB, Bool.not_eq_true', Bool.not_eq_false', Bool.or_eq_true, Bool.or_eq_false_iff, Bool.and_eq_true, Bool.and_eq_false_imp, decide_eq_true_eq, decide_eq_false_iff_not, Bool.not_not, Bool.not_true, Bool.not_false] at hc2'
    refine AC.skip ?_
    refine then_ok ?_
    have hok := wrongR_ok.1 (show (wrongR l).err = 0 by rw [hr0]; omega)
    have hsb : ∀ x ∈ l, 0 ≤ x.sum ∧ x.sum ≤ 1000000 := fun x hx => by have := okR_b (hok.2 x hx); omega
    refine AC.seq ?_
    refine AC.region ?_
    refine AL.fast 1 rfl ?_
    obtain ⟨r1, hr1⟩ : ∃ (r1 : List Record), sortR l = r1 := ⟨_, rfl⟩
    have hsl : r1.length = l.length := by rw [← hr1]; exact sortR_len l
    have hss : Srt r1 := by rw [← hr1]; exact sortR_srt l
    have hsm : Same l r1 := by rw [← hr1]; exact sortR_same l
    have hsb2 : ∀ x ∈ r1, 0 ≤ x.sum ∧ x.sum ≤ 1000000 := fun x hx => hsb x (hsm.mem.2 hx)
    refine AL.call (n' := 1) (h' := [(0, (.arr 127 4 ((r1).map rRecord)))]) (Wanted.plain rfl) (g_call 0 (c_Sorted l (by first | omega | (simp; done) | (simp; omega)) r1 hr1) en94 rfl rfl ⟨⟨_, rfl, .c (.d _)⟩,  trivial⟩ trivial ⟨(fun _ _ _ _ => trivial),  trivial⟩ rfl rfl rfl rfl) rfl rfl rfl rfl rfl ?_
    refine AL.fast 1 rfl ?_
    refine AL.nil ?_
    refine then_ok ?_
    refine AC.seq ?_
    refine AC.seq ?_
    refine AC.region ?_
    refine AL.fast 1 rfl ?_
    refine AL.val (Wanted.plain rfl) (g_lenS rfl rfl rfl rfl rfl Try.underlying114) rfl rfl ?_
    refine AL.fast 1 rfl ?_
    refine AL.val (Wanted.plain rfl) (g_lenM rfl rfl rfl rfl rfl Try.underlying114) rfl rfl ?_
    refine AL.val (Wanted.plain rfl) (g_binI rfl rfl rfl rfl) rfl rfl ?_
    refine AL.fast 1 rfl ?_
    refine AL.dec (t := 25) rfl (fun hb3 => ?_) (fun hb3 => ?_)
    ·
      have hb3' := hb3; try simp only [sumB, Bool.not_eq_true', Bool.not_eq_false', Bool.or_eq_true, Bool.or_eq_false_iff, Bool.and_eq_true, Bool.and_eq_false_imp, decide_eq_true_eq, decide_eq_false_iff_not, Bool.not_not, Bool.not_true, Bool.not_false] at hb3'
      refine AL.fast 15 rfl ?_
      refine AL.nil ?_
      refine then_ok ?_
      refine AC.cond rfl (fun _ => ?_) (fun hno => by cases hno)
      refine AC.seq ?_
      refine AC.region ?_
      refine AL.fast 1 rfl ?_
      refine AL.nil ?_
      refine then_ok ?_
      refine AC.ret ?_
      refine then_ret ?_
      refine retQ_mk (av' := outOf [(.c (cB false))]) (nb' := []) (retQ_ret ⟨[(4, (aB false))], [], 0⟩ [.tmp 4] [(.c (cB false))] (Weak.ren id (⟨by first | rfl | (simp only [AV.map, GV.map, CV.map, AB.map', id]; done) | (congr 3; omega) | (congr 4; omega) | (simp only [List.length_append, List.length_cons, List.length_nil, List.length_set]; rfl), trivial⟩) (trivial) rfl) rfl ⟨.tmp rfl, trivial⟩ trivial) ?_ ?_
      · exact congrArg aB (show (false) = true by (exfalso; first | omega | (simp_all [same_self_R]; done) | (simp_all [same_self_R]; omega)))
      · rfl
    ·
      have hb3' := hb3; try simp only [sumB, Bool.not_eq_true', Bool.not_eq_false', Bool.or_eq_true, Bool.or_eq_false_iff, Bool.and_eq_true, Bool.and_eq_false_imp, decide_eq_true_eq, decide_eq_false_iff_not, Bool.not_not, Bool.not_true, Bool.not_false] at hb3'
      refine AL.fast 1 rfl ?_
      obtain ⟨r3, hr3⟩ : ∃ (r3 : List Record), sortR r1 = r3 := ⟨_, rfl⟩
      refine AL.call (n' := 2) (h' := [(1, (.arr 127 4 ((r3).map rRecord))), (0, (.arr 127 4 ((r1).map rRecord)))]) (Wanted.yes rfl rfl rfl) (g_callE 1 [0] (c_Sorted r1 (by first | omega | (simp; done) | (simp; omega)) r3 hr3) en94 rfl rfl ⟨⟨_, rfl, .c (.s rfl (by decide) (by first | omega | (simp; done) | (simp; omega)))⟩,  trivial⟩ trivial ⟨(isv_rRecord _),  trivial⟩ rfl rfl rfl rfl) rfl rfl rfl rfl rfl ?_
      refine AL.fast 1 rfl ?_
      obtain ⟨r4, hr4⟩ : ∃ (r4 : Bool), sameList r3 r1 = r4 := ⟨_, rfl⟩
      refine AL.call (n' := 2) (h' := [(1, (.arr 127 4 ((r3).map rRecord))), (0, (.arr 127 4 ((r1).map rRecord)))]) (Wanted.yes rfl rfl rfl) (g_callE 2 [0, 1] (c_SameRecords r3 r1  r4 hr4) en93 rfl rfl ⟨⟨_, rfl, .c (.s rfl (by decide) (by first | omega | (simp; done) | (simp; omega)))⟩, ⟨_, rfl, .c (.s rfl (by decide) (by first | omega | (simp; done) | (simp; omega)))⟩,  trivial⟩ rfl trivial rfl rfl rfl rfl) rfl rfl rfl rfl rfl ?_
      refine AL.val (Wanted.yes rfl rfl rfl) (g_notB rfl rfl) rfl rfl ?_
      refine AL.fast 2 rfl ?_
      refine AL.dec (t := 32) rfl (fun hb5 => ?_) (fun hb5 => ?_)
      ·
        have hb5' := hb5; try simp only [sumB, Bool.not_eq_true', Bool.not_eq_false', Bool.or_eq_true, Bool.or_eq_false_iff, Bool.and_eq_true, Bool.and_eq_false_imp, decide_eq_true_eq, decide_eq_false_iff_not, Bool.not_not, Bool.not_true, Bool.not_false] at hb5'
        refine AL.fast 8 rfl ?_
        refine AL.nil ?_
        refine then_ok ?_
        refine AC.cond rfl (fun _ => ?_) (fun hno => by cases hno)
        refine AC.seq ?_
        refine AC.region ?_
        refine AL.fast 1 rfl ?_
        refine AL.nil ?_
        refine then_ok ?_
        refine AC.ret ?_
        refine then_ret ?_
        refine retQ_mk (av' := outOf [(.c (cB false))]) (nb' := []) (retQ_ret ⟨[(4, (aB false))], [], 0⟩ [.tmp 4] [(.c (cB false))] (Weak.ren id (⟨by first | rfl | (simp only [AV.map, GV.map, CV.map, AB.map', id]; done) | (congr 3; omega) | (congr 4; omega) | (simp only [List.length_append, List.length_cons, List.length_nil, List.length_set]; rfl), trivial⟩) (trivial) rfl) rfl ⟨.tmp rfl, trivial⟩ trivial) ?_ ?_
        · exact congrArg aB (show (false) = true by (exfalso; have h1 : r3 = r1 := (hr3.symm.trans (sortR_of hss)); rw [h1, same_self_R] at hr4; first | omega | (simp_all [same_self_R]; done) | (simp_all [same_self_R]; omega)))
        · rfl
      ·
        have hb5' := hb5; try simp only [sumB, Bool.not_eq_true', Bool.not_eq_false', Bool.or_eq_true, Bool.or_eq_false_iff, Bool.and_eq_true, Bool.and_eq_false_imp, decide_eq_true_eq, decide_eq_false_iff_not, Bool.not_not, Bool.not_true, Bool.not_false] at hb5'
        refine AL.fast 2 rfl ?_
        obtain ⟨n5, hr5⟩ : ∃ (n5 : Int), netR r1 shop = n5 := ⟨_, rfl⟩
        refine AL.call (n' := 2) (h' := [(1, (.arr 127 4 ((r3).map rRecord))), (0, (.arr 127 4 ((r1).map rRecord)))]) (Wanted.yes rfl rfl rfl) (g_callE 2 [0] (c_day_Net r1 shop (by first | assumption | decide) (by first | omega | (simp; done)) n5 hr5) en96 rfl rfl ⟨⟨_, rfl, .c (.s rfl (by decide) (by first | omega | (simp; done) | (simp; omega)))⟩, ⟨_, rfl, .c (.d _)⟩,  trivial⟩ rfl trivial rfl rfl rfl rfl) rfl rfl rfl rfl rfl ?_
        refine AL.fast 2 rfl ?_
        obtain ⟨n6, hr6⟩ : ∃ (n6 : Int), netR l shop = n6 := ⟨_, rfl⟩
        refine AL.call (n' := 2) (h' := [(1, (.arr 127 4 ((r3).map rRecord))), (0, (.arr 127 4 ((r1).map rRecord)))]) (Wanted.yes rfl rfl rfl) (g_call 2 (c_day_Net l shop (by first | assumption | decide) (by first | omega | (simp; done)) n6 hr6) en96 rfl rfl ⟨⟨_, rfl, .c (.d _)⟩, ⟨_, rfl, .c (.d _)⟩,  trivial⟩ trivial trivial rfl rfl rfl rfl) rfl rfl rfl rfl rfl ?_
        refine AL.val (Wanted.yes rfl rfl rfl) (g_binI rfl rfl rfl rfl) rfl rfl ?_
        refine AL.fast 1 rfl ?_
        refine AL.nil ?_
        refine then_ok ?_
        refine AC.cond rfl (fun hc7 => ?_) (fun hc7 => ?_)
        ·
          have hc7' := hc7; try simp only [sumB, Bool.not_eq_true', Bool.not_eq_false', Bool.or_eq_true, Bool.or_eq_false_iff, Bool.and_eq_true, Bool.and_eq_false_imp, decide_eq_true_eq, decide_eq_false_iff_not, Bool.not_not, Bool.not_true, Bool.not_false] at hc7'
          refine AC.seq ?_
          refine AC.region ?_
          refine AL.fast 1 rfl ?_
          refine AL.nil ?_
          refine then_ok ?_
          refine AC.ret ?_
          refine then_ret ?_
          refine retQ_mk (av' := outOf [(.c (cB false))]) (nb' := []) (retQ_ret ⟨[(4, (aB false))], [], 0⟩ [.tmp 4] [(.c (cB false))] (Weak.ren id (⟨by first | rfl | (simp only [AV.map, GV.map, CV.map, AB.map', id]; done) | (congr 3; omega) | (congr 4; omega) | (simp only [List.length_append, List.length_cons, List.length_nil, List.length_set]; rfl), trivial⟩) (trivial) rfl) rfl ⟨.tmp rfl, trivial⟩ trivial) ?_ ?_
          · exact congrArg aB (show (false) = true by (exfalso; have h1 : r3 = r1 := (hr3.symm.trans (sortR_of hss)); rw [h1, same_self_R] at hr4; have h2 : netR r1 shop = netR l shop := (by rw [← hr1]; exact netR_sort l shop); rw [hr5, hr6] at h2; first | omega | (simp_all [same_self_R]; done) | (simp_all [same_self_R]; omega)))
          · rfl
        ·
          have hc7' := hc7; try simp only [sumB, Bool.not_eq_true', Bool.not_eq_false', Bool.or_eq_true, Bool.or_eq_false_iff, Bool.and_eq_true, Bool.and_eq_false_imp, decide_eq_true_eq, decide_eq_false_iff_not, Bool.not_not, Bool.not_true, Bool.not_false] at hc7'
          refine AC.skip ?_
          refine then_ok ?_
          refine AC.seq ?_
          refine AC.seq ?_
          refine AC.region ?_
          refine AL.fast 1 rfl ?_
          refine AL.val (Wanted.plain rfl) (g_lenS rfl rfl rfl rfl rfl Try.underlying114) rfl rfl ?_
          refine AL.fast 1 rfl ?_
          refine AL.nil ?_
          refine then_ok ?_
          refine AC.block ?_
          refine AC.loop (β := Nat) (fun (q : Nat) => ⟨[(0, (aC (cR 4 ((l).map rRecord)))), (5, (aC (.s 0 0 4 r1.length))), (42, (aI (↑r1.length : Int))), (43, (aI (↑q : Int)))], [(0, (.arr 127 4 ((r1).map rRecord)))], 1⟩) (fun (q : Nat) => q ≤ l.length) (fun (q : Nat) => l.length - q) 0 ?_ ?_ ?_
          · exact (by omega)
          · exact Weak.ren id (by refine ⟨?_, ?_, ?_, ?_,  trivial⟩ <;> first | rfl | (simp only [AV.map, GV.map, CV.map, AB.map', id]; done) | (congr 3; omega) | (congr 4; omega) | (simp only [List.length_append, List.length_cons, List.length_nil, List.length_set]; rfl)) (⟨by first | rfl | (simp only [AV.map, GV.map, CV.map, AB.map', id]; done) | (congr 3; omega) | (congr 4; omega) | (simp only [List.length_append, List.length_cons, List.length_nil, List.length_set]; rfl), trivial⟩) rfl
          ·
            rintro q hi0_0
            refine AC.seq ?_
            refine AC.region ?_
            refine AL.val (Wanted.plain rfl) (g_binI rfl rfl rfl rfl) rfl rfl ?_
            refine AL.nil ?_
            refine then_ok ?_
            refine AC.seq ?_
            refine AC.cond rfl (fun hc8 => ?_) (fun hc8 => ?_)
            ·
              have hc8' := hc8; try simp only [sumB, Bool.not_eq_true', Bool.not_eq_false', Bool.or_eq_true, Bool.or_eq_false_iff, Bool.and_eq_true, Bool.and_eq_false_imp, decide_eq_true_eq, decide_eq_false_iff_not, Bool.not_not, Bool.not_true, Bool.not_false] at hc8'
              refine AC.skip ?_
              refine then_ok ?_
              refine AC.seq ?_
              refine AC.block ?_
              refine AC.seq ?_
              refine AC.region ?_
              refine AL.fast 2 rfl ?_
              refine AL.nil ?_
              refine then_ok ?_
              refine AC.seq ?_
              rcases Bool.eq_false_or_eq_true (decide ((↑q : Int) > 0)) with hb9 | hb9
              ·
                have hb9' := hb9; try simp only [sumB, Bool.not_eq_true', Bool.not_eq_false', Bool.or_eq_true, Bool.or_eq_false_iff, Bool.and_eq_true, Bool.and_eq_false_imp, decide_eq_true_eq, decide_eq_false_iff_not, Bool.not_not, Bool.not_true, Bool.not_false] at hb9'
                obtain ⟨x1, hx1⟩ := exget (xs := r1) (i := (q) - 1) (by first | omega | (simp; done) | (simp; omega))
                obtain ⟨x2, hx2⟩ := exget (xs := r1) (i := q) (by first | omega | (simp; done) | (simp; omega))
                rcases Bool.eq_false_or_eq_true (decide (x1.shop > x2.shop)) with hb10 | hb10
                ·
                  have hb10' := hb10; try simp only [sumB, Bool.not_eq_true', Bool.not_eq_false', Bool.or_eq_true, Bool.or_eq_false_iff, Bool.and_eq_true, Bool.and_eq_false_imp, decide_eq_true_eq, decide_eq_false_iff_not, Bool.not_not, Bool.not_true, Bool.not_false] at hb10'
                  refine AC.weak (st' := ⟨[(0, (aC (cR 4 ((l).map rRecord)))), (5, (aC (.s 0 0 4 r1.length))), (42, (aI (↑r1.length : Int))), (43, (aI (↑q : Int))), (6, (aI (↑q : Int)))], [(0, (.arr 127 4 ((r1).map rRecord)))], 1⟩) (Weak.ren id (by refine ⟨?_, ?_, ?_, ?_, ?_,  trivial⟩ <;> first | rfl | (simp only [AV.map, GV.map, CV.map, AB.map', id]; done) | (congr 3; omega) | (congr 4; omega) | (simp only [List.length_append, List.length_cons, List.length_nil, List.length_set]; rfl)) (⟨by first | rfl | (simp only [AV.map, GV.map, CV.map, AB.map', id]; done) | (congr 3; omega) | (congr 4; omega) | (simp only [List.length_append, List.length_cons, List.length_nil, List.length_set]; rfl), trivial⟩) rfl) ?_
                  refine AC.draw [⟨some 46, (aI (↑q : Int)), [], [], [], [(6, (aI (↑q : Int)))], []⟩,
      ⟨some 47, (aB true), [], [], [0], [(46, (aI (↑q : Int)))], []⟩,
      ⟨some 48, (aB true), [], [], [1], [(47, (aB true))], []⟩,
      ⟨some 49, (aC (.s 0 0 4 r1.length)), [], [], [2], [(5, (aC (.s 0 0 4 r1.length))), (48, (aB true))], []⟩,
      ⟨some 50, (aI (↑q : Int)), [], [], [2], [(6, (aI (↑q : Int))), (48, (aB true))], []⟩,
      ⟨some 51, (aI ((↑q : Int) - 1)), [], [], [2, 4], [(50, (aI (↑q : Int))), (48, (aB true))], []⟩,
      ⟨some 52, (aC (.p 0 ((q) - 1) 4 0)), [], [], [2, 3, 5], [(49, (aC (.s 0 0 4 r1.length))), (51, (aI ((↑q : Int) - 1))), (48, (aB true))], [(0, (.arr 127 4 ((r1).map rRecord)))]⟩,
      ⟨some 53, (aC (.p 0 ((q) - 1) 4 0)), [], [], [2, 6], [(52, (aC (.p 0 ((q) - 1) 4 0))), (48, (aB true))], []⟩,
      ⟨some 54, (aI x1.shop), [], [], [2, 7], [(53, (aC (.p 0 ((q) - 1) 4 0))), (48, (aB true))], [(0, (.arr 127 4 ((r1).map rRecord)))]⟩,
      ⟨some 55, (aC (.s 0 0 4 r1.length)), [], [], [2], [(5, (aC (.s 0 0 4 r1.length))), (48, (aB true))], []⟩,
      ⟨some 56, (aI (↑q : Int)), [], [], [2], [(6, (aI (↑q : Int))), (48, (aB true))], []⟩,
      ⟨some 57, (aC (.p 0 q 4 0)), [], [], [2, 9, 10], [(55, (aC (.s 0 0 4 r1.length))), (56, (aI (↑q : Int))), (48, (aB true))], [(0, (.arr 127 4 ((r1).map rRecord)))]⟩,
      ⟨some 58, (aC (.p 0 q 4 0)), [], [], [2, 11], [(57, (aC (.p 0 q 4 0))), (48, (aB true))], []⟩,
      ⟨some 59, (aI x2.shop), [], [], [2, 12], [(58, (aC (.p 0 q 4 0))), (48, (aB true))], [(0, (.arr 127 4 ((r1).map rRecord)))]⟩,
      ⟨some 60, (aB true), [], [], [2, 8, 13], [(54, (aI x1.shop)), (59, (aI x2.shop)), (48, (aB true))], []⟩,
      ⟨some 61, (aB true), [], [], [2, 14], [(60, (aB true)), (48, (aB true))], []⟩,
      ⟨some 62, (.t []), [], [], [15], [(5, (aC (.s 0 0 4 r1.length))), (61, (aB true))], []⟩,
      ⟨some 63, (.t []), [], [], [15], [(6, (aI (↑q : Int))), (61, (aB true))], []⟩,
      ⟨some 64, (.t []), [], [], [15, 17], [(63, (.t [])), (61, (aB true))], []⟩,
      ⟨some 65, (.t []), [], [], [15, 16, 18], [(62, (.t [])), (64, (.t [])), (61, (aB true))], []⟩,
      ⟨some 66, (.t []), [], [], [15, 19], [(65, (.t [])), (61, (aB true))], []⟩,
      ⟨some 67, (.t []), [], [], [15, 20], [(66, (.t [])), (61, (aB true))], []⟩,
      ⟨some 68, (.t []), [], [], [15], [(5, (aC (.s 0 0 4 r1.length))), (61, (aB true))], []⟩,
      ⟨some 69, (.t []), [], [], [15], [(6, (aI (↑q : Int))), (61, (aB true))], []⟩,
      ⟨some 70, (.t []), [], [], [15, 22, 23], [(68, (.t [])), (69, (.t [])), (61, (aB true))], []⟩,
      ⟨some 71, (.t []), [], [], [15, 24], [(70, (.t [])), (61, (aB true))], []⟩,
      ⟨some 72, (.t []), [], [], [15, 25], [(71, (.t [])), (61, (aB true))], []⟩,
      ⟨some 73, (.t []), [], [], [15, 21, 26], [(67, (.t [])), (72, (.t [])), (61, (aB true))], []⟩,
      ⟨some 74, (.t []), [], [], [15, 27], [(73, (.t [])), (61, (aB true))], []⟩,
      ⟨some 75, (.t []), [], [], [28], [(5, (aC (.s 0 0 4 r1.length))), (74, (.t []))], []⟩,
      ⟨some 76, (.t []), [], [], [28], [(6, (aI (↑q : Int))), (74, (.t []))], []⟩,
      ⟨some 77, (.t []), [], [], [28, 30], [(76, (.t [])), (74, (.t []))], []⟩,
      ⟨some 78, (.t []), [], [], [28, 29, 31], [(75, (.t [])), (77, (.t [])), (74, (.t []))], []⟩,
      ⟨some 79, (.t []), [], [], [28, 32], [(78, (.t [])), (74, (.t []))], []⟩,
      ⟨some 80, (.t []), [], [], [28, 33], [(79, (.t [])), (74, (.t []))], []⟩,
      ⟨some 81, (.t []), [], [], [28], [(5, (aC (.s 0 0 4 r1.length))), (74, (.t []))], []⟩,
      ⟨some 82, (.t []), [], [], [28], [(6, (aI (↑q : Int))), (74, (.t []))], []⟩,
      ⟨some 83, (.t []), [], [], [28, 35, 36], [(81, (.t [])), (82, (.t [])), (74, (.t []))], []⟩,
      ⟨some 84, (.t []), [], [], [28, 37], [(83, (.t [])), (74, (.t []))], []⟩,
      ⟨some 85, (.t []), [], [], [28, 38], [(84, (.t [])), (74, (.t []))], []⟩,
      ⟨some 86, (.t []), [], [], [28, 34, 39], [(80, (.t [])), (85, (.t [])), (74, (.t []))], []⟩,
      ⟨some 87, (.t []), [], [], [15, 28, 40], [(74, (.t [])), (86, (.t [])), (61, (aB true))], []⟩,
      ⟨some 88, (aB true), [], [], [2, 15, 41], [(61, (aB true)), (87, (.t [])), (48, (aB true))], []⟩,
      ⟨some 89, (aB true), [], [], [2, 42], [(48, (aB true)), (88, (aB true))], []⟩] ⟨[(0, (aC (cR 4 ((l).map rRecord)))), (5, (aC (.s 0 0 4 r1.length))), (42, (aI (↑r1.length : Int))), (43, (aI (↑q : Int))), (6, (aI (↑q : Int))), (89, (aB true))], [(0, (.arr 127 4 ((r1).map rRecord)))], 1⟩ mixed (by kernel_rfl) ?_ ?_ ?_ ?_
                  · exact ⟨.inl ⟨(Wanted.plain rfl), GOp.cast (g_move rfl rfl) rfl⟩,
      .inl ⟨(Wanted.plain rfl), GOp.cast (g_binI rfl rfl rfl (congrArg (fun b => some (Value.bool b)) hb9)) rfl⟩,
      .inl ⟨(Wanted.plain rfl), GOp.cast (g_move rfl rfl) rfl⟩,
      .inl ⟨(Wanted.yes rfl rfl rfl), GOp.cast (g_move rfl rfl) rfl⟩,
      .inl ⟨(Wanted.yes rfl rfl rfl), GOp.cast (g_move rfl rfl) rfl⟩,
      .inl ⟨(Wanted.yes rfl rfl rfl), GOp.cast (g_binI rfl rfl rfl (wrap_ok (by first | omega | (simp; done) | (simp; omega)))) rfl⟩,
      .inl ⟨(Wanted.yes rfl rfl rfl), GOp.cast (g_indexP0 (i := (q) - 1) rfl rfl rfl Try.underlying114 sz127 (by first | omega | (simp; done) | (simp; omega)) (by first | omega | (simp; done) | (simp; omega))) rfl⟩,
      .inl ⟨(Wanted.yes rfl rfl rfl), GOp.cast (g_fieldP rfl rfl Try.underlying127 rfl sz3 (by decide)) rfl⟩,
      .inl ⟨(Wanted.yes rfl rfl rfl), GOp.cast (g_loadA rfl rfl rfl Try.underlying3 rfl (getmap hx1) rfl) rfl⟩,
      .inl ⟨(Wanted.yes rfl rfl rfl), GOp.cast (g_move rfl rfl) rfl⟩,
      .inl ⟨(Wanted.yes rfl rfl rfl), GOp.cast (g_move rfl rfl) rfl⟩,
      .inl ⟨(Wanted.yes rfl rfl rfl), GOp.cast (g_indexP0 (i := q) rfl rfl rfl Try.underlying114 sz127 (by first | omega | (simp; done) | (simp; omega)) (by first | omega | (simp; done) | (simp; omega))) rfl⟩,
      .inl ⟨(Wanted.yes rfl rfl rfl), GOp.cast (g_fieldP rfl rfl Try.underlying127 rfl sz3 (by decide)) rfl⟩,
      .inl ⟨(Wanted.yes rfl rfl rfl), GOp.cast (g_loadA rfl rfl rfl Try.underlying3 rfl (getmap hx2) rfl) rfl⟩,
      .inl ⟨(Wanted.yes rfl rfl rfl), GOp.cast (g_binI rfl rfl rfl (congrArg (fun b => some (Value.bool b)) hb10)) rfl⟩,
      .inl ⟨(Wanted.yes rfl rfl rfl), GOp.cast (g_move rfl rfl) rfl⟩,
      .inr ⟨(Unwanted.no rfl rfl rfl), rfl, rfl, rfl⟩,
      .inr ⟨(Unwanted.no rfl rfl rfl), rfl, rfl, rfl⟩,
      .inr ⟨(Unwanted.no rfl rfl rfl), rfl, rfl, rfl⟩,
      .inr ⟨(Unwanted.no rfl rfl rfl), rfl, rfl, rfl⟩,
      .inr ⟨(Unwanted.no rfl rfl rfl), rfl, rfl, rfl⟩,
      .inr ⟨(Unwanted.no rfl rfl rfl), rfl, rfl, rfl⟩,
      .inr ⟨(Unwanted.no rfl rfl rfl), rfl, rfl, rfl⟩,
      .inr ⟨(Unwanted.no rfl rfl rfl), rfl, rfl, rfl⟩,
      .inr ⟨(Unwanted.no rfl rfl rfl), rfl, rfl, rfl⟩,
      .inr ⟨(Unwanted.no rfl rfl rfl), rfl, rfl, rfl⟩,
      .inr ⟨(Unwanted.no rfl rfl rfl), rfl, rfl, rfl⟩,
      .inr ⟨(Unwanted.no rfl rfl rfl), rfl, rfl, rfl⟩,
      .inr ⟨(Unwanted.no rfl rfl rfl), rfl, rfl, rfl⟩,
      .inr ⟨(Unwanted.un rfl rfl rfl), rfl, rfl, rfl⟩,
      .inr ⟨(Unwanted.un rfl rfl rfl), rfl, rfl, rfl⟩,
      .inr ⟨(Unwanted.un rfl rfl rfl), rfl, rfl, rfl⟩,
      .inr ⟨(Unwanted.un rfl rfl rfl), rfl, rfl, rfl⟩,
      .inr ⟨(Unwanted.un rfl rfl rfl), rfl, rfl, rfl⟩,
      .inr ⟨(Unwanted.un rfl rfl rfl), rfl, rfl, rfl⟩,
      .inr ⟨(Unwanted.un rfl rfl rfl), rfl, rfl, rfl⟩,
      .inr ⟨(Unwanted.un rfl rfl rfl), rfl, rfl, rfl⟩,
      .inr ⟨(Unwanted.un rfl rfl rfl), rfl, rfl, rfl⟩,
      .inr ⟨(Unwanted.un rfl rfl rfl), rfl, rfl, rfl⟩,
      .inr ⟨(Unwanted.un rfl rfl rfl), rfl, rfl, rfl⟩,
      .inr ⟨(Unwanted.un rfl rfl rfl), rfl, rfl, rfl⟩,
      .inr ⟨(Unwanted.no rfl rfl rfl), rfl, rfl, rfl⟩,
      .inl ⟨(Wanted.yes rfl rfl rfl), GOp.cast (g_pick rfl rfl rfl) rfl⟩,
      .inl ⟨(Wanted.plain rfl), GOp.cast (g_pick rfl rfl rfl) rfl⟩,
       trivial⟩
                  · exact ⟨⟨⟨.inl rfl,  trivial⟩, trivial⟩, ⟨⟨.inr ⟨0, .head _, _, rfl, rfl, rfl⟩,  trivial⟩, trivial⟩, ⟨⟨.inr ⟨1, .head _, _, rfl, rfl, rfl⟩,  trivial⟩, trivial⟩, ⟨⟨.inl rfl, .inr ⟨2, .head _, _, rfl, rfl, rfl⟩,  trivial⟩, trivial⟩, ⟨⟨.inl rfl, .inr ⟨2, .head _, _, rfl, rfl, rfl⟩,  trivial⟩, trivial⟩, ⟨⟨.inr ⟨4, .tail _ (.head _), _, rfl, rfl, rfl⟩, .inr ⟨2, .head _, _, rfl, rfl, rfl⟩,  trivial⟩, trivial⟩, ⟨⟨.inr ⟨3, .tail _ (.head _), _, rfl, rfl, rfl⟩, .inr ⟨5, .tail _ (.tail _ (.head _)), _, rfl, rfl, rfl⟩, .inr ⟨2, .head _, _, rfl, rfl, rfl⟩,  trivial⟩, ⟨.inl rfl,  trivial⟩⟩, ⟨⟨.inr ⟨6, .tail _ (.head _), _, rfl, rfl, rfl⟩, .inr ⟨2, .head _, _, rfl, rfl, rfl⟩,  trivial⟩, trivial⟩, ⟨⟨.inr ⟨7, .tail _ (.head _), _, rfl, rfl, rfl⟩, .inr ⟨2, .head _, _, rfl, rfl, rfl⟩,  trivial⟩, ⟨.inl rfl,  trivial⟩⟩, ⟨⟨.inl rfl, .inr ⟨2, .head _, _, rfl, rfl, rfl⟩,  trivial⟩, trivial⟩, ⟨⟨.inl rfl, .inr ⟨2, .head _, _, rfl, rfl, rfl⟩,  trivial⟩, trivial⟩, ⟨⟨.inr ⟨9, .tail _ (.head _), _, rfl, rfl, rfl⟩, .inr ⟨10, .tail _ (.tail _ (.head _)), _, rfl, rfl, rfl⟩, .inr ⟨2, .head _, _, rfl, rfl, rfl⟩,  trivial⟩, ⟨.inl rfl,  trivial⟩⟩, ⟨⟨.inr ⟨11, .tail _ (.head _), _, rfl, rfl, rfl⟩, .inr ⟨2, .head _, _, rfl, rfl, rfl⟩,  trivial⟩, trivial⟩, ⟨⟨.inr ⟨12, .tail _ (.head _), _, rfl, rfl, rfl⟩, .inr ⟨2, .head _, _, rfl, rfl, rfl⟩,  trivial⟩, ⟨.inl rfl,  trivial⟩⟩, ⟨⟨.inr ⟨8, .tail _ (.head _), _, rfl, rfl, rfl⟩, .inr ⟨13, .tail _ (.tail _ (.head _)), _, rfl, rfl, rfl⟩, .inr ⟨2, .head _, _, rfl, rfl, rfl⟩,  trivial⟩, trivial⟩, ⟨⟨.inr ⟨14, .tail _ (.head _), _, rfl, rfl, rfl⟩, .inr ⟨2, .head _, _, rfl, rfl, rfl⟩,  trivial⟩, trivial⟩, ⟨⟨.inl rfl, .inr ⟨15, .head _, _, rfl, rfl, rfl⟩,  trivial⟩, trivial⟩, ⟨⟨.inl rfl, .inr ⟨15, .head _, _, rfl, rfl, rfl⟩,  trivial⟩, trivial⟩, ⟨⟨.inr ⟨17, .tail _ (.head _), _, rfl, rfl, rfl⟩, .inr ⟨15, .head _, _, rfl, rfl, rfl⟩,  trivial⟩, trivial⟩, ⟨⟨.inr ⟨16, .tail _ (.head _), _, rfl, rfl, rfl⟩, .inr ⟨18, .tail _ (.tail _ (.head _)), _, rfl, rfl, rfl⟩, .inr ⟨15, .head _, _, rfl, rfl, rfl⟩,  trivial⟩, trivial⟩, ⟨⟨.inr ⟨19, .tail _ (.head _), _, rfl, rfl, rfl⟩, .inr ⟨15, .head _, _, rfl, rfl, rfl⟩,  trivial⟩, trivial⟩, ⟨⟨.inr ⟨20, .tail _ (.head _), _, rfl, rfl, rfl⟩, .inr ⟨15, .head _, _, rfl, rfl, rfl⟩,  trivial⟩, trivial⟩, ⟨⟨.inl rfl, .inr ⟨15, .head _, _, rfl, rfl, rfl⟩,  trivial⟩, trivial⟩, ⟨⟨.inl rfl, .inr ⟨15, .head _, _, rfl, rfl, rfl⟩,  trivial⟩, trivial⟩, ⟨⟨.inr ⟨22, .tail _ (.head _), _, rfl, rfl, rfl⟩, .inr ⟨23, .tail _ (.tail _ (.head _)), _, rfl, rfl, rfl⟩, .inr ⟨15, .head _, _, rfl, rfl, rfl⟩,  trivial⟩, trivial⟩, ⟨⟨.inr ⟨24, .tail _ (.head _), _, rfl, rfl, rfl⟩, .inr ⟨15, .head _, _, rfl, rfl, rfl⟩,  trivial⟩, trivial⟩, ⟨⟨.inr ⟨25, .tail _ (.head _), _, rfl, rfl, rfl⟩, .inr ⟨15, .head _, _, rfl, rfl, rfl⟩,  trivial⟩, trivial⟩, ⟨⟨.inr ⟨21, .tail _ (.head _), _, rfl, rfl, rfl⟩, .inr ⟨26, .tail _ (.tail _ (.head _)), _, rfl, rfl, rfl⟩, .inr ⟨15, .head _, _, rfl, rfl, rfl⟩,  trivial⟩, trivial⟩, ⟨⟨.inr ⟨27, .tail _ (.head _), _, rfl, rfl, rfl⟩, .inr ⟨15, .head _, _, rfl, rfl, rfl⟩,  trivial⟩, trivial⟩, ⟨⟨.inl rfl, .inr ⟨28, .head _, _, rfl, rfl, rfl⟩,  trivial⟩, trivial⟩, ⟨⟨.inl rfl, .inr ⟨28, .head _, _, rfl, rfl, rfl⟩,  trivial⟩, trivial⟩, ⟨⟨.inr ⟨30, .tail _ (.head _), _, rfl, rfl, rfl⟩, .inr ⟨28, .head _, _, rfl, rfl, rfl⟩,  trivial⟩, trivial⟩, ⟨⟨.inr ⟨29, .tail _ (.head _), _, rfl, rfl, rfl⟩, .inr ⟨31, .tail _ (.tail _ (.head _)), _, rfl, rfl, rfl⟩, .inr ⟨28, .head _, _, rfl, rfl, rfl⟩,  trivial⟩, trivial⟩, ⟨⟨.inr ⟨32, .tail _ (.head _), _, rfl, rfl, rfl⟩, .inr ⟨28, .head _, _, rfl, rfl, rfl⟩,  trivial⟩, trivial⟩, ⟨⟨.inr ⟨33, .tail _ (.head _), _, rfl, rfl, rfl⟩, .inr ⟨28, .head _, _, rfl, rfl, rfl⟩,  trivial⟩, trivial⟩, ⟨⟨.inl rfl, .inr ⟨28, .head _, _, rfl, rfl, rfl⟩,  trivial⟩, trivial⟩, ⟨⟨.inl rfl, .inr ⟨28, .head _, _, rfl, rfl, rfl⟩,  trivial⟩, trivial⟩, ⟨⟨.inr ⟨35, .tail _ (.head _), _, rfl, rfl, rfl⟩, .inr ⟨36, .tail _ (.tail _ (.head _)), _, rfl, rfl, rfl⟩, .inr ⟨28, .head _, _, rfl, rfl, rfl⟩,  trivial⟩, trivial⟩, ⟨⟨.inr ⟨37, .tail _ (.head _), _, rfl, rfl, rfl⟩, .inr ⟨28, .head _, _, rfl, rfl, rfl⟩,  trivial⟩, trivial⟩, ⟨⟨.inr ⟨38, .tail _ (.head _), _, rfl, rfl, rfl⟩, .inr ⟨28, .head _, _, rfl, rfl, rfl⟩,  trivial⟩, trivial⟩, ⟨⟨.inr ⟨34, .tail _ (.head _), _, rfl, rfl, rfl⟩, .inr ⟨39, .tail _ (.tail _ (.head _)), _, rfl, rfl, rfl⟩, .inr ⟨28, .head _, _, rfl, rfl, rfl⟩,  trivial⟩, trivial⟩, ⟨⟨.inr ⟨28, .tail _ (.head _), _, rfl, rfl, rfl⟩, .inr ⟨40, .tail _ (.tail _ (.head _)), _, rfl, rfl, rfl⟩, .inr ⟨15, .head _, _, rfl, rfl, rfl⟩,  trivial⟩, trivial⟩, ⟨⟨.inr ⟨15, .tail _ (.head _), _, rfl, rfl, rfl⟩, .inr ⟨41, .tail _ (.tail _ (.head _)), _, rfl, rfl, rfl⟩, .inr ⟨2, .head _, _, rfl, rfl, rfl⟩,  trivial⟩, trivial⟩, ⟨⟨.inr ⟨2, .head _, _, rfl, rfl, rfl⟩, .inr ⟨42, .tail _ (.head _), _, rfl, rfl, rfl⟩,  trivial⟩, trivial⟩,  trivial⟩
                  · exact ⟨⟨.inl rfl, .inl rfl, .inl rfl, .inl rfl, .inl rfl, .inr ⟨43, _, rfl, rfl, rfl⟩,  trivial⟩, ⟨.inl rfl,  trivial⟩⟩
                  ·
                    refine AL.nil ?_
                    refine then_ok ?_
                    refine AC.cond rfl (fun _ => ?_) (fun hno => by cases hno)
                    refine AC.seq ?_
                    refine AC.region ?_
                    refine AL.fast 1 rfl ?_
                    refine AL.nil ?_
                    refine then_ok ?_
                    refine AC.ret ?_
                    refine block_ret ?_
                    refine then_ret ?_
                    refine then_ret ?_
                    refine block_ret ?_
                    refine then_ret ?_
                    refine retQ_mk (av' := outOf [(.c (cB false))]) (nb' := []) (retQ_ret ⟨[(4, (aB false))], [], 0⟩ [.tmp 4] [(.c (cB false))] (Weak.ren id (⟨by first | rfl | (simp only [AV.map, GV.map, CV.map, AB.map', id]; done) | (congr 3; omega) | (congr 4; omega) | (simp only [List.length_append, List.length_cons, List.length_nil, List.length_set]; rfl), trivial⟩) (trivial) rfl) rfl ⟨.tmp rfl, trivial⟩ trivial) ?_ ?_
                    · exact congrArg aB (show (false) = true by (exfalso; have h1 := srt_at hss (q := q) (by omega) hx2 hx1; unfold leR at h1; simp_all; try omega))
                    · rfl
                ·
                  have hb10' := hb10; try simp only [sumB, Bool.not_eq_true', Bool.not_eq_false', Bool.or_eq_true, Bool.or_eq_false_iff, Bool.and_eq_true, Bool.and_eq_false_imp, decide_eq_true_eq, decide_eq_false_iff_not, Bool.not_not, Bool.not_true, Bool.not_false] at hb10'
                  rcases Bool.eq_false_or_eq_true (decide (x1.shop = x2.shop)) with hb12 | hb12
                  ·
                    have hb12' := hb12; try simp only [sumB, Bool.not_eq_true', Bool.not_eq_false', Bool.or_eq_true, Bool.or_eq_false_iff, Bool.and_eq_true, Bool.and_eq_false_imp, decide_eq_true_eq, decide_eq_false_iff_not, Bool.not_not, Bool.not_true, Bool.not_false] at hb12'
                    refine AC.weak (st' := ⟨[(0, (aC (cR 4 ((l).map rRecord)))), (5, (aC (.s 0 0 4 r1.length))), (42, (aI (↑r1.length : Int))), (43, (aI (↑q : Int))), (6, (aI (↑q : Int)))], [(0, (.arr 127 4 ((r1).map rRecord)))], 1⟩) (Weak.ren id (by refine ⟨?_, ?_, ?_, ?_, ?_,  trivial⟩ <;> first | rfl | (simp only [AV.map, GV.map, CV.map, AB.map', id]; done) | (congr 3; omega) | (congr 4; omega) | (simp only [List.length_append, List.length_cons, List.length_nil, List.length_set]; rfl)) (⟨by first | rfl | (simp only [AV.map, GV.map, CV.map, AB.map', id]; done) | (congr 3; omega) | (congr 4; omega) | (simp only [List.length_append, List.length_cons, List.length_nil, List.length_set]; rfl), trivial⟩) rfl) ?_
                    refine AC.draw [⟨some 46, (aI (↑q : Int)), [], [], [], [(6, (aI (↑q : Int)))], []⟩,
      ⟨some 47, (aB true), [], [], [0], [(46, (aI (↑q : Int)))], []⟩,
      ⟨some 48, (aB true), [], [], [1], [(47, (aB true))], []⟩,
      ⟨some 49, (aC (.s 0 0 4 r1.length)), [], [], [2], [(5, (aC (.s 0 0 4 r1.length))), (48, (aB true))], []⟩,
      ⟨some 50, (aI (↑q : Int)), [], [], [2], [(6, (aI (↑q : Int))), (48, (aB true))], []⟩,
      ⟨some 51, (aI ((↑q : Int) - 1)), [], [], [2, 4], [(50, (aI (↑q : Int))), (48, (aB true))], []⟩,
      ⟨some 52, (aC (.p 0 ((q) - 1) 4 0)), [], [], [2, 3, 5], [(49, (aC (.s 0 0 4 r1.length))), (51, (aI ((↑q : Int) - 1))), (48, (aB true))], [(0, (.arr 127 4 ((r1).map rRecord)))]⟩,
      ⟨some 53, (aC (.p 0 ((q) - 1) 4 0)), [], [], [2, 6], [(52, (aC (.p 0 ((q) - 1) 4 0))), (48, (aB true))], []⟩,
      ⟨some 54, (aI x1.shop), [], [], [2, 7], [(53, (aC (.p 0 ((q) - 1) 4 0))), (48, (aB true))], [(0, (.arr 127 4 ((r1).map rRecord)))]⟩,
      ⟨some 55, (aC (.s 0 0 4 r1.length)), [], [], [2], [(5, (aC (.s 0 0 4 r1.length))), (48, (aB true))], []⟩,
      ⟨some 56, (aI (↑q : Int)), [], [], [2], [(6, (aI (↑q : Int))), (48, (aB true))], []⟩,
      ⟨some 57, (aC (.p 0 q 4 0)), [], [], [2, 9, 10], [(55, (aC (.s 0 0 4 r1.length))), (56, (aI (↑q : Int))), (48, (aB true))], [(0, (.arr 127 4 ((r1).map rRecord)))]⟩,
      ⟨some 58, (aC (.p 0 q 4 0)), [], [], [2, 11], [(57, (aC (.p 0 q 4 0))), (48, (aB true))], []⟩,
      ⟨some 59, (aI x2.shop), [], [], [2, 12], [(58, (aC (.p 0 q 4 0))), (48, (aB true))], [(0, (.arr 127 4 ((r1).map rRecord)))]⟩,
      ⟨some 60, (aB false), [], [], [2, 8, 13], [(54, (aI x1.shop)), (59, (aI x2.shop)), (48, (aB true))], []⟩,
      ⟨some 61, (aB false), [], [], [2, 14], [(60, (aB false)), (48, (aB true))], []⟩,
      ⟨some 62, (aC (.s 0 0 4 r1.length)), [], [], [15], [(5, (aC (.s 0 0 4 r1.length))), (61, (aB false))], []⟩,
      ⟨some 63, (aI (↑q : Int)), [], [], [15], [(6, (aI (↑q : Int))), (61, (aB false))], []⟩,
      ⟨some 64, (aI ((↑q : Int) - 1)), [], [], [15, 17], [(63, (aI (↑q : Int))), (61, (aB false))], []⟩,
      ⟨some 65, (aC (.p 0 ((q) - 1) 4 0)), [], [], [15, 16, 18], [(62, (aC (.s 0 0 4 r1.length))), (64, (aI ((↑q : Int) - 1))), (61, (aB false))], [(0, (.arr 127 4 ((r1).map rRecord)))]⟩,
      ⟨some 66, (aC (.p 0 ((q) - 1) 4 0)), [], [], [15, 19], [(65, (aC (.p 0 ((q) - 1) 4 0))), (61, (aB false))], []⟩,
      ⟨some 67, (aI x1.shop), [], [], [15, 20], [(66, (aC (.p 0 ((q) - 1) 4 0))), (61, (aB false))], [(0, (.arr 127 4 ((r1).map rRecord)))]⟩,
      ⟨some 68, (aC (.s 0 0 4 r1.length)), [], [], [15], [(5, (aC (.s 0 0 4 r1.length))), (61, (aB false))], []⟩,
      ⟨some 69, (aI (↑q : Int)), [], [], [15], [(6, (aI (↑q : Int))), (61, (aB false))], []⟩,
      ⟨some 70, (aC (.p 0 q 4 0)), [], [], [15, 22, 23], [(68, (aC (.s 0 0 4 r1.length))), (69, (aI (↑q : Int))), (61, (aB false))], [(0, (.arr 127 4 ((r1).map rRecord)))]⟩,
      ⟨some 71, (aC (.p 0 q 4 0)), [], [], [15, 24], [(70, (aC (.p 0 q 4 0))), (61, (aB false))], []⟩,
      ⟨some 72, (aI x2.shop), [], [], [15, 25], [(71, (aC (.p 0 q 4 0))), (61, (aB false))], [(0, (.arr 127 4 ((r1).map rRecord)))]⟩,
      ⟨some 73, (aB true), [], [], [15, 21, 26], [(67, (aI x1.shop)), (72, (aI x2.shop)), (61, (aB false))], []⟩,
      ⟨some 74, (aB true), [], [], [15, 27], [(73, (aB true)), (61, (aB false))], []⟩,
      ⟨some 75, (aC (.s 0 0 4 r1.length)), [], [], [28], [(5, (aC (.s 0 0 4 r1.length))), (74, (aB true))], []⟩,
      ⟨some 76, (aI (↑q : Int)), [], [], [28], [(6, (aI (↑q : Int))), (74, (aB true))], []⟩,
      ⟨some 77, (aI ((↑q : Int) - 1)), [], [], [28, 30], [(76, (aI (↑q : Int))), (74, (aB true))], []⟩,
      ⟨some 78, (aC (.p 0 ((q) - 1) 4 0)), [], [], [28, 29, 31], [(75, (aC (.s 0 0 4 r1.length))), (77, (aI ((↑q : Int) - 1))), (74, (aB true))], [(0, (.arr 127 4 ((r1).map rRecord)))]⟩,
      ⟨some 79, (aC (.p 0 ((q) - 1) 4 1)), [], [], [28, 32], [(78, (aC (.p 0 ((q) - 1) 4 0))), (74, (aB true))], []⟩,
      ⟨some 80, (aI x1.auth), [], [], [28, 33], [(79, (aC (.p 0 ((q) - 1) 4 1))), (74, (aB true))], [(0, (.arr 127 4 ((r1).map rRecord)))]⟩,
      ⟨some 81, (aC (.s 0 0 4 r1.length)), [], [], [28], [(5, (aC (.s 0 0 4 r1.length))), (74, (aB true))], []⟩,
      ⟨some 82, (aI (↑q : Int)), [], [], [28], [(6, (aI (↑q : Int))), (74, (aB true))], []⟩,
      ⟨some 83, (aC (.p 0 q 4 0)), [], [], [28, 35, 36], [(81, (aC (.s 0 0 4 r1.length))), (82, (aI (↑q : Int))), (74, (aB true))], [(0, (.arr 127 4 ((r1).map rRecord)))]⟩,
      ⟨some 84, (aC (.p 0 q 4 1)), [], [], [28, 37], [(83, (aC (.p 0 q 4 0))), (74, (aB true))], []⟩,
      ⟨some 85, (aI x2.auth), [], [], [28, 38], [(84, (aC (.p 0 q 4 1))), (74, (aB true))], [(0, (.arr 127 4 ((r1).map rRecord)))]⟩,
      ⟨some 86, (aB (decide (x1.auth > x2.auth))), [], [], [28, 34, 39], [(80, (aI x1.auth)), (85, (aI x2.auth)), (74, (aB true))], []⟩,
      ⟨some 87, (aB (decide (x1.auth > x2.auth))), [], [], [15, 28, 40], [(74, (aB true)), (86, (aB (decide (x1.auth > x2.auth)))), (61, (aB false))], []⟩,
      ⟨some 88, (aB (decide (x1.auth > x2.auth))), [], [], [2, 15, 41], [(61, (aB false)), (87, (aB (decide (x1.auth > x2.auth)))), (48, (aB true))], []⟩,
      ⟨some 89, (aB (decide (x1.auth > x2.auth))), [], [], [2, 42], [(48, (aB true)), (88, (aB (decide (x1.auth > x2.auth))))], []⟩] ⟨[(0, (aC (cR 4 ((l).map rRecord)))), (5, (aC (.s 0 0 4 r1.length))), (42, (aI (↑r1.length : Int))), (43, (aI (↑q : Int))), (6, (aI (↑q : Int))), (89, (aB (decide (x1.auth > x2.auth))))], [(0, (.arr 127 4 ((r1).map rRecord)))], 1⟩ mixed (by kernel_rfl) ?_ ?_ ?_ ?_
                    · exact ⟨.inl ⟨(Wanted.plain rfl), GOp.cast (g_move rfl rfl) rfl⟩,
      .inl ⟨(Wanted.plain rfl), GOp.cast (g_binI rfl rfl rfl (congrArg (fun b => some (Value.bool b)) hb9)) rfl⟩,
      .inl ⟨(Wanted.plain rfl), GOp.cast (g_move rfl rfl) rfl⟩,
      .inl ⟨(Wanted.yes rfl rfl rfl), GOp.cast (g_move rfl rfl) rfl⟩,
      .inl ⟨(Wanted.yes rfl rfl rfl), GOp.cast (g_move rfl rfl) rfl⟩,
      .inl ⟨(Wanted.yes rfl rfl rfl), GOp.cast (g_binI rfl rfl rfl (wrap_ok (by first | omega | (simp; done) | (simp; omega)))) rfl⟩,
      .inl ⟨(Wanted.yes rfl rfl rfl), GOp.cast (g_indexP0 (i := (q) - 1) rfl rfl rfl Try.underlying114 sz127 (by first | omega | (simp; done) | (simp; omega)) (by first | omega | (simp; done) | (simp; omega))) rfl⟩,
      .inl ⟨(Wanted.yes rfl rfl rfl), GOp.cast (g_fieldP rfl rfl Try.underlying127 rfl sz3 (by decide)) rfl⟩,
      .inl ⟨(Wanted.yes rfl rfl rfl), GOp.cast (g_loadA rfl rfl rfl Try.underlying3 rfl (getmap hx1) rfl) rfl⟩,
      .inl ⟨(Wanted.yes rfl rfl rfl), GOp.cast (g_move rfl rfl) rfl⟩,
      .inl ⟨(Wanted.yes rfl rfl rfl), GOp.cast (g_move rfl rfl) rfl⟩,
      .inl ⟨(Wanted.yes rfl rfl rfl), GOp.cast (g_indexP0 (i := q) rfl rfl rfl Try.underlying114 sz127 (by first | omega | (simp; done) | (simp; omega)) (by first | omega | (simp; done) | (simp; omega))) rfl⟩,
      .inl ⟨(Wanted.yes rfl rfl rfl), GOp.cast (g_fieldP rfl rfl Try.underlying127 rfl sz3 (by decide)) rfl⟩,
      .inl ⟨(Wanted.yes rfl rfl rfl), GOp.cast (g_loadA rfl rfl rfl Try.underlying3 rfl (getmap hx2) rfl) rfl⟩,
      .inl ⟨(Wanted.yes rfl rfl rfl), GOp.cast (g_binI rfl rfl rfl (congrArg (fun b => some (Value.bool b)) hb10)) rfl⟩,
      .inl ⟨(Wanted.yes rfl rfl rfl), GOp.cast (g_move rfl rfl) rfl⟩,
      .inl ⟨(Wanted.yes rfl rfl rfl), GOp.cast (g_move rfl rfl) rfl⟩,
      .inl ⟨(Wanted.yes rfl rfl rfl), GOp.cast (g_move rfl rfl) rfl⟩,
      .inl ⟨(Wanted.yes rfl rfl rfl), GOp.cast (g_binI rfl rfl rfl (wrap_ok (by first | omega | (simp; done) | (simp; omega)))) rfl⟩,
      .inl ⟨(Wanted.yes rfl rfl rfl), GOp.cast (g_indexP0 (i := (q) - 1) rfl rfl rfl Try.underlying114 sz127 (by first | omega | (simp; done) | (simp; omega)) (by first | omega | (simp; done) | (simp; omega))) rfl⟩,
      .inl ⟨(Wanted.yes rfl rfl rfl), GOp.cast (g_fieldP rfl rfl Try.underlying127 rfl sz3 (by decide)) rfl⟩,
      .inl ⟨(Wanted.yes rfl rfl rfl), GOp.cast (g_loadA rfl rfl rfl Try.underlying3 rfl (getmap hx1) rfl) rfl⟩,
      .inl ⟨(Wanted.yes rfl rfl rfl), GOp.cast (g_move rfl rfl) rfl⟩,
      .inl ⟨(Wanted.yes rfl rfl rfl), GOp.cast (g_move rfl rfl) rfl⟩,
      .inl ⟨(Wanted.yes rfl rfl rfl), GOp.cast (g_indexP0 (i := q) rfl rfl rfl Try.underlying114 sz127 (by first | omega | (simp; done) | (simp; omega)) (by first | omega | (simp; done) | (simp; omega))) rfl⟩,
      .inl ⟨(Wanted.yes rfl rfl rfl), GOp.cast (g_fieldP rfl rfl Try.underlying127 rfl sz3 (by decide)) rfl⟩,
      .inl ⟨(Wanted.yes rfl rfl rfl), GOp.cast (g_loadA rfl rfl rfl Try.underlying3 rfl (getmap hx2) rfl) rfl⟩,
      .inl ⟨(Wanted.yes rfl rfl rfl), GOp.cast (g_binI rfl rfl rfl (congrArg (fun b => some (Value.bool b)) hb12)) rfl⟩,
      .inl ⟨(Wanted.yes rfl rfl rfl), GOp.cast (g_move rfl rfl) rfl⟩,
      .inl ⟨(Wanted.yes rfl rfl rfl), GOp.cast (g_move rfl rfl) rfl⟩,
      .inl ⟨(Wanted.yes rfl rfl rfl), GOp.cast (g_move rfl rfl) rfl⟩,
      .inl ⟨(Wanted.yes rfl rfl rfl), GOp.cast (g_binI rfl rfl rfl (wrap_ok (by first | omega | (simp; done) | (simp; omega)))) rfl⟩,
      .inl ⟨(Wanted.yes rfl rfl rfl), GOp.cast (g_indexP0 (i := (q) - 1) rfl rfl rfl Try.underlying114 sz127 (by first | omega | (simp; done) | (simp; omega)) (by first | omega | (simp; done) | (simp; omega))) rfl⟩,
      .inl ⟨(Wanted.yes rfl rfl rfl), GOp.cast (g_fieldP rfl rfl Try.underlying127 rfl sz3 (by decide)) rfl⟩,
      .inl ⟨(Wanted.yes rfl rfl rfl), GOp.cast (g_loadA rfl rfl rfl Try.underlying3 rfl (getmap hx1) rfl) rfl⟩,
      .inl ⟨(Wanted.yes rfl rfl rfl), GOp.cast (g_move rfl rfl) rfl⟩,
      .inl ⟨(Wanted.yes rfl rfl rfl), GOp.cast (g_move rfl rfl) rfl⟩,
      .inl ⟨(Wanted.yes rfl rfl rfl), GOp.cast (g_indexP0 (i := q) rfl rfl rfl Try.underlying114 sz127 (by first | omega | (simp; done) | (simp; omega)) (by first | omega | (simp; done) | (simp; omega))) rfl⟩,
      .inl ⟨(Wanted.yes rfl rfl rfl), GOp.cast (g_fieldP rfl rfl Try.underlying127 rfl sz3 (by decide)) rfl⟩,
      .inl ⟨(Wanted.yes rfl rfl rfl), GOp.cast (g_loadA rfl rfl rfl Try.underlying3 rfl (getmap hx2) rfl) rfl⟩,
      .inl ⟨(Wanted.yes rfl rfl rfl), GOp.cast (g_binI rfl rfl rfl rfl) rfl⟩,
      .inl ⟨(Wanted.yes rfl rfl rfl), GOp.cast (g_pick rfl rfl rfl) rfl⟩,
      .inl ⟨(Wanted.yes rfl rfl rfl), GOp.cast (g_pick rfl rfl rfl) rfl⟩,
      .inl ⟨(Wanted.plain rfl), GOp.cast (g_pick rfl rfl rfl) rfl⟩,
       trivial⟩
                    · exact ⟨⟨⟨.inl rfl,  trivial⟩, trivial⟩, ⟨⟨.inr ⟨0, .head _, _, rfl, rfl, rfl⟩,  trivial⟩, trivial⟩, ⟨⟨.inr ⟨1, .head _, _, rfl, rfl, rfl⟩,  trivial⟩, trivial⟩, ⟨⟨.inl rfl, .inr ⟨2, .head _, _, rfl, rfl, rfl⟩,  trivial⟩, trivial⟩, ⟨⟨.inl rfl, .inr ⟨2, .head _, _, rfl, rfl, rfl⟩,  trivial⟩, trivial⟩, ⟨⟨.inr ⟨4, .tail _ (.head _), _, rfl, rfl, rfl⟩, .inr ⟨2, .head _, _, rfl, rfl, rfl⟩,  trivial⟩, trivial⟩, ⟨⟨.inr ⟨3, .tail _ (.head _), _, rfl, rfl, rfl⟩, .inr ⟨5, .tail _ (.tail _ (.head _)), _, rfl, rfl, rfl⟩, .inr ⟨2, .head _, _, rfl, rfl, rfl⟩,  trivial⟩, ⟨.inl rfl,  trivial⟩⟩, ⟨⟨.inr ⟨6, .tail _ (.head _), _, rfl, rfl, rfl⟩, .inr ⟨2, .head _, _, rfl, rfl, rfl⟩,  trivial⟩, trivial⟩, ⟨⟨.inr ⟨7, .tail _ (.head _), _, rfl, rfl, rfl⟩, .inr ⟨2, .head _, _, rfl, rfl, rfl⟩,  trivial⟩, ⟨.inl rfl,  trivial⟩⟩, ⟨⟨.inl rfl, .inr ⟨2, .head _, _, rfl, rfl, rfl⟩,  trivial⟩, trivial⟩, ⟨⟨.inl rfl, .inr ⟨2, .head _, _, rfl, rfl, rfl⟩,  trivial⟩, trivial⟩, ⟨⟨.inr ⟨9, .tail _ (.head _), _, rfl, rfl, rfl⟩, .inr ⟨10, .tail _ (.tail _ (.head _)), _, rfl, rfl, rfl⟩, .inr ⟨2, .head _, _, rfl, rfl, rfl⟩,  trivial⟩, ⟨.inl rfl,  trivial⟩⟩, ⟨⟨.inr ⟨11, .tail _ (.head _), _, rfl, rfl, rfl⟩, .inr ⟨2, .head _, _, rfl, rfl, rfl⟩,  trivial⟩, trivial⟩, ⟨⟨.inr ⟨12, .tail _ (.head _), _, rfl, rfl, rfl⟩, .inr ⟨2, .head _, _, rfl, rfl, rfl⟩,  trivial⟩, ⟨.inl rfl,  trivial⟩⟩, ⟨⟨.inr ⟨8, .tail _ (.head _), _, rfl, rfl, rfl⟩, .inr ⟨13, .tail _ (.tail _ (.head _)), _, rfl, rfl, rfl⟩, .inr ⟨2, .head _, _, rfl, rfl, rfl⟩,  trivial⟩, trivial⟩, ⟨⟨.inr ⟨14, .tail _ (.head _), _, rfl, rfl, rfl⟩, .inr ⟨2, .head _, _, rfl, rfl, rfl⟩,  trivial⟩, trivial⟩, ⟨⟨.inl rfl, .inr ⟨15, .head _, _, rfl, rfl, rfl⟩,  trivial⟩, trivial⟩, ⟨⟨.inl rfl, .inr ⟨15, .head _, _, rfl, rfl, rfl⟩,  trivial⟩, trivial⟩, ⟨⟨.inr ⟨17, .tail _ (.head _), _, rfl, rfl, rfl⟩, .inr ⟨15, .head _, _, rfl, rfl, rfl⟩,  trivial⟩, trivial⟩, ⟨⟨.inr ⟨16, .tail _ (.head _), _, rfl, rfl, rfl⟩, .inr ⟨18, .tail _ (.tail _ (.head _)), _, rfl, rfl, rfl⟩, .inr ⟨15, .head _, _, rfl, rfl, rfl⟩,  trivial⟩, ⟨.inl rfl,  trivial⟩⟩, ⟨⟨.inr ⟨19, .tail _ (.head _), _, rfl, rfl, rfl⟩, .inr ⟨15, .head _, _, rfl, rfl, rfl⟩,  trivial⟩, trivial⟩, ⟨⟨.inr ⟨20, .tail _ (.head _), _, rfl, rfl, rfl⟩, .inr ⟨15, .head _, _, rfl, rfl, rfl⟩,  trivial⟩, ⟨.inl rfl,  trivial⟩⟩, ⟨⟨.inl rfl, .inr ⟨15, .head _, _, rfl, rfl, rfl⟩,  trivial⟩, trivial⟩, ⟨⟨.inl rfl, .inr ⟨15, .head _, _, rfl, rfl, rfl⟩,  trivial⟩, trivial⟩, ⟨⟨.inr ⟨22, .tail _ (.head _), _, rfl, rfl, rfl⟩, .inr ⟨23, .tail _ (.tail _ (.head _)), _, rfl, rfl, rfl⟩, .inr ⟨15, .head _, _, rfl, rfl, rfl⟩,  trivial⟩, ⟨.inl rfl,  trivial⟩⟩, ⟨⟨.inr ⟨24, .tail _ (.head _), _, rfl, rfl, rfl⟩, .inr ⟨15, .head _, _, rfl, rfl, rfl⟩,  trivial⟩, trivial⟩, ⟨⟨.inr ⟨25, .tail _ (.head _), _, rfl, rfl, rfl⟩, .inr ⟨15, .head _, _, rfl, rfl, rfl⟩,  trivial⟩, ⟨.inl rfl,  trivial⟩⟩, ⟨⟨.inr ⟨21, .tail _ (.head _), _, rfl, rfl, rfl⟩, .inr ⟨26, .tail _ (.tail _ (.head _)), _, rfl, rfl, rfl⟩, .inr ⟨15, .head _, _, rfl, rfl, rfl⟩,  trivial⟩, trivial⟩, ⟨⟨.inr ⟨27, .tail _ (.head _), _, rfl, rfl, rfl⟩, .inr ⟨15, .head _, _, rfl, rfl, rfl⟩,  trivial⟩, trivial⟩, ⟨⟨.inl rfl, .inr ⟨28, .head _, _, rfl, rfl, rfl⟩,  trivial⟩, trivial⟩, ⟨⟨.inl rfl, .inr ⟨28, .head _, _, rfl, rfl, rfl⟩,  trivial⟩, trivial⟩, ⟨⟨.inr ⟨30, .tail _ (.head _), _, rfl, rfl, rfl⟩, .inr ⟨28, .head _, _, rfl, rfl, rfl⟩,  trivial⟩, trivial⟩, ⟨⟨.inr ⟨29, .tail _ (.head _), _, rfl, rfl, rfl⟩, .inr ⟨31, .tail _ (.tail _ (.head _)), _, rfl, rfl, rfl⟩, .inr ⟨28, .head _, _, rfl, rfl, rfl⟩,  trivial⟩, ⟨.inl rfl,  trivial⟩⟩, ⟨⟨.inr ⟨32, .tail _ (.head _), _, rfl, rfl, rfl⟩, .inr ⟨28, .head _, _, rfl, rfl, rfl⟩,  trivial⟩, trivial⟩, ⟨⟨.inr ⟨33, .tail _ (.head _), _, rfl, rfl, rfl⟩, .inr ⟨28, .head _, _, rfl, rfl, rfl⟩,  trivial⟩, ⟨.inl rfl,  trivial⟩⟩, ⟨⟨.inl rfl, .inr ⟨28, .head _, _, rfl, rfl, rfl⟩,  trivial⟩, trivial⟩, ⟨⟨.inl rfl, .inr ⟨28, .head _, _, rfl, rfl, rfl⟩,  trivial⟩, trivial⟩, ⟨⟨.inr ⟨35, .tail _ (.head _), _, rfl, rfl, rfl⟩, .inr ⟨36, .tail _ (.tail _ (.head _)), _, rfl, rfl, rfl⟩, .inr ⟨28, .head _, _, rfl, rfl, rfl⟩,  trivial⟩, ⟨.inl rfl,  trivial⟩⟩, ⟨⟨.inr ⟨37, .tail _ (.head _), _, rfl, rfl, rfl⟩, .inr ⟨28, .head _, _, rfl, rfl, rfl⟩,  trivial⟩, trivial⟩, ⟨⟨.inr ⟨38, .tail _ (.head _), _, rfl, rfl, rfl⟩, .inr ⟨28, .head _, _, rfl, rfl, rfl⟩,  trivial⟩, ⟨.inl rfl,  trivial⟩⟩, ⟨⟨.inr ⟨34, .tail _ (.head _), _, rfl, rfl, rfl⟩, .inr ⟨39, .tail _ (.tail _ (.head _)), _, rfl, rfl, rfl⟩, .inr ⟨28, .head _, _, rfl, rfl, rfl⟩,  trivial⟩, trivial⟩, ⟨⟨.inr ⟨28, .tail _ (.head _), _, rfl, rfl, rfl⟩, .inr ⟨40, .tail _ (.tail _ (.head _)), _, rfl, rfl, rfl⟩, .inr ⟨15, .head _, _, rfl, rfl, rfl⟩,  trivial⟩, trivial⟩, ⟨⟨.inr ⟨15, .tail _ (.head _), _, rfl, rfl, rfl⟩, .inr ⟨41, .tail _ (.tail _ (.head _)), _, rfl, rfl, rfl⟩, .inr ⟨2, .head _, _, rfl, rfl, rfl⟩,  trivial⟩, trivial⟩, ⟨⟨.inr ⟨2, .head _, _, rfl, rfl, rfl⟩, .inr ⟨42, .tail _ (.head _), _, rfl, rfl, rfl⟩,  trivial⟩, trivial⟩,  trivial⟩
                    · exact ⟨⟨.inl rfl, .inl rfl, .inl rfl, .inl rfl, .inl rfl, .inr ⟨43, _, rfl, rfl, rfl⟩,  trivial⟩, ⟨.inl rfl,  trivial⟩⟩
                    ·
                      refine AL.nil ?_
                      refine then_ok ?_
                      refine AC.cond rfl (fun hc13 => ?_) (fun hc13 => ?_)
                      ·
                        have hc13' := hc13; try simp only [sumB, Bool.not_eq_true', Bool.not_eq_false', Bool.or_eq_true, Bool.or_eq_false_iff, Bool.and_eq_true, Bool.and_eq_false_imp, decide_eq_true_eq, decide_eq_false_iff_not, Bool.not_not, Bool.not_true, Bool.not_false] at hc13'
                        refine AC.seq ?_
                        refine AC.region ?_
                        refine AL.fast 1 rfl ?_
                        refine AL.nil ?_
                        refine then_ok ?_
                        refine AC.ret ?_
                        refine block_ret ?_
                        refine then_ret ?_
                        refine then_ret ?_
                        refine block_ret ?_
                        refine then_ret ?_
                        refine retQ_mk (av' := outOf [(.c (cB false))]) (nb' := []) (retQ_ret ⟨[(4, (aB false))], [], 0⟩ [.tmp 4] [(.c (cB false))] (Weak.ren id (⟨by first | rfl | (simp only [AV.map, GV.map, CV.map, AB.map', id]; done) | (congr 3; omega) | (congr 4; omega) | (simp only [List.length_append, List.length_cons, List.length_nil, List.length_set]; rfl), trivial⟩) (trivial) rfl) rfl ⟨.tmp rfl, trivial⟩ trivial) ?_ ?_
                        · exact congrArg aB (show (false) = true by (exfalso; have h1 := srt_at hss (q := q) (by omega) hx2 hx1; unfold leR at h1; simp_all; try omega))
                        · rfl
                      ·
                        have hc13' := hc13; try simp only [sumB, Bool.not_eq_true', Bool.not_eq_false', Bool.or_eq_true, Bool.or_eq_false_iff, Bool.and_eq_true, Bool.and_eq_false_imp, decide_eq_true_eq, decide_eq_false_iff_not, Bool.not_not, Bool.not_true, Bool.not_false] at hc13'
                        refine AC.skip ?_
                        refine block_ok ?_
                        refine then_ok ?_
                        refine AC.region ?_
                        refine AL.val (Wanted.plain rfl) (g_binI rfl rfl rfl (wrap_ok (by first | omega | (simp; done) | (simp; omega)))) rfl rfl ?_
                        refine AL.fast 1 rfl ?_
                        refine AL.nil ?_
                        refine then_ok ?_
                        refine ⟨q + 1, by first | omega | trivial, by first | omega | (simp; done) | (simp; omega), Weak.ren id (by refine ⟨?_, ?_, ?_, ?_,  trivial⟩ <;> first | rfl | (simp only [AV.map, GV.map, CV.map, AB.map', id]; done) | (congr 3; omega) | (congr 4; omega) | (simp only [List.length_append, List.length_cons, List.length_nil, List.length_set]; rfl)) (⟨by first | rfl | (simp only [AV.map, GV.map, CV.map, AB.map', id]; done) | (congr 3; omega) | (congr 4; omega) | (simp only [List.length_append, List.length_cons, List.length_nil, List.length_set]; rfl), trivial⟩) rfl⟩
                  ·
                    have hb12' := hb12; try simp only [sumB, Bool.not_eq_true', Bool.not_eq_false', Bool.or_eq_true, Bool.or_eq_false_iff, Bool.and_eq_true, Bool.and_eq_false_imp, decide_eq_true_eq, decide_eq_false_iff_not, Bool.not_not, Bool.not_true, Bool.not_false] at hb12'
                    refine AC.weak (st' := ⟨[(0, (aC (cR 4 ((l).map rRecord)))), (5, (aC (.s 0 0 4 r1.length))), (42, (aI (↑r1.length : Int))), (43, (aI (↑q : Int))), (6, (aI (↑q : Int)))], [(0, (.arr 127 4 ((r1).map rRecord)))], 1⟩) (Weak.ren id (by refine ⟨?_, ?_, ?_, ?_, ?_,  trivial⟩ <;> first | rfl | (simp only [AV.map, GV.map, CV.map, AB.map', id]; done) | (congr 3; omega) | (congr 4; omega) | (simp only [List.length_append, List.length_cons, List.length_nil, List.length_set]; rfl)) (⟨by first | rfl | (simp only [AV.map, GV.map, CV.map, AB.map', id]; done) | (congr 3; omega) | (congr 4; omega) | (simp only [List.length_append, List.length_cons, List.length_nil, List.length_set]; rfl), trivial⟩) rfl) ?_
                    refine AC.draw [⟨some 46, (aI (↑q : Int)), [], [], [], [(6, (aI (↑q : Int)))], []⟩,
      ⟨some 47, (aB true), [], [], [0], [(46, (aI (↑q : Int)))], []⟩,
      ⟨some 48, (aB true), [], [], [1], [(47, (aB true))], []⟩,
      ⟨some 49, (aC (.s 0 0 4 r1.length)), [], [], [2], [(5, (aC (.s 0 0 4 r1.length))), (48, (aB true))], []⟩,
      ⟨some 50, (aI (↑q : Int)), [], [], [2], [(6, (aI (↑q : Int))), (48, (aB true))], []⟩,
      ⟨some 51, (aI ((↑q : Int) - 1)), [], [], [2, 4], [(50, (aI (↑q : Int))), (48, (aB true))], []⟩,
      ⟨some 52, (aC (.p 0 ((q) - 1) 4 0)), [], [], [2, 3, 5], [(49, (aC (.s 0 0 4 r1.length))), (51, (aI ((↑q : Int) - 1))), (48, (aB true))], [(0, (.arr 127 4 ((r1).map rRecord)))]⟩,
      ⟨some 53, (aC (.p 0 ((q) - 1) 4 0)), [], [], [2, 6], [(52, (aC (.p 0 ((q) - 1) 4 0))), (48, (aB true))], []⟩,
      ⟨some 54, (aI x1.shop), [], [], [2, 7], [(53, (aC (.p 0 ((q) - 1) 4 0))), (48, (aB true))], [(0, (.arr 127 4 ((r1).map rRecord)))]⟩,
      ⟨some 55, (aC (.s 0 0 4 r1.length)), [], [], [2], [(5, (aC (.s 0 0 4 r1.length))), (48, (aB true))], []⟩,
      ⟨some 56, (aI (↑q : Int)), [], [], [2], [(6, (aI (↑q : Int))), (48, (aB true))], []⟩,
      ⟨some 57, (aC (.p 0 q 4 0)), [], [], [2, 9, 10], [(55, (aC (.s 0 0 4 r1.length))), (56, (aI (↑q : Int))), (48, (aB true))], [(0, (.arr 127 4 ((r1).map rRecord)))]⟩,
      ⟨some 58, (aC (.p 0 q 4 0)), [], [], [2, 11], [(57, (aC (.p 0 q 4 0))), (48, (aB true))], []⟩,
      ⟨some 59, (aI x2.shop), [], [], [2, 12], [(58, (aC (.p 0 q 4 0))), (48, (aB true))], [(0, (.arr 127 4 ((r1).map rRecord)))]⟩,
      ⟨some 60, (aB false), [], [], [2, 8, 13], [(54, (aI x1.shop)), (59, (aI x2.shop)), (48, (aB true))], []⟩,
      ⟨some 61, (aB false), [], [], [2, 14], [(60, (aB false)), (48, (aB true))], []⟩,
      ⟨some 62, (aC (.s 0 0 4 r1.length)), [], [], [15], [(5, (aC (.s 0 0 4 r1.length))), (61, (aB false))], []⟩,
      ⟨some 63, (aI (↑q : Int)), [], [], [15], [(6, (aI (↑q : Int))), (61, (aB false))], []⟩,
      ⟨some 64, (aI ((↑q : Int) - 1)), [], [], [15, 17], [(63, (aI (↑q : Int))), (61, (aB false))], []⟩,
      ⟨some 65, (aC (.p 0 ((q) - 1) 4 0)), [], [], [15, 16, 18], [(62, (aC (.s 0 0 4 r1.length))), (64, (aI ((↑q : Int) - 1))), (61, (aB false))], [(0, (.arr 127 4 ((r1).map rRecord)))]⟩,
      ⟨some 66, (aC (.p 0 ((q) - 1) 4 0)), [], [], [15, 19], [(65, (aC (.p 0 ((q) - 1) 4 0))), (61, (aB false))], []⟩,
      ⟨some 67, (aI x1.shop), [], [], [15, 20], [(66, (aC (.p 0 ((q) - 1) 4 0))), (61, (aB false))], [(0, (.arr 127 4 ((r1).map rRecord)))]⟩,
      ⟨some 68, (aC (.s 0 0 4 r1.length)), [], [], [15], [(5, (aC (.s 0 0 4 r1.length))), (61, (aB false))], []⟩,
      ⟨some 69, (aI (↑q : Int)), [], [], [15], [(6, (aI (↑q : Int))), (61, (aB false))], []⟩,
      ⟨some 70, (aC (.p 0 q 4 0)), [], [], [15, 22, 23], [(68, (aC (.s 0 0 4 r1.length))), (69, (aI (↑q : Int))), (61, (aB false))], [(0, (.arr 127 4 ((r1).map rRecord)))]⟩,
      ⟨some 71, (aC (.p 0 q 4 0)), [], [], [15, 24], [(70, (aC (.p 0 q 4 0))), (61, (aB false))], []⟩,
      ⟨some 72, (aI x2.shop), [], [], [15, 25], [(71, (aC (.p 0 q 4 0))), (61, (aB false))], [(0, (.arr 127 4 ((r1).map rRecord)))]⟩,
      ⟨some 73, (aB false), [], [], [15, 21, 26], [(67, (aI x1.shop)), (72, (aI x2.shop)), (61, (aB false))], []⟩,
      ⟨some 74, (aB false), [], [], [15, 27], [(73, (aB false)), (61, (aB false))], []⟩,
      ⟨some 75, (.t []), [], [], [28], [(5, (aC (.s 0 0 4 r1.length))), (74, (aB false))], []⟩,
      ⟨some 76, (.t []), [], [], [28], [(6, (aI (↑q : Int))), (74, (aB false))], []⟩,
      ⟨some 77, (.t []), [], [], [28, 30], [(76, (.t [])), (74, (aB false))], []⟩,
      ⟨some 78, (.t []), [], [], [28, 29, 31], [(75, (.t [])), (77, (.t [])), (74, (aB false))], []⟩,
      ⟨some 79, (.t []), [], [], [28, 32], [(78, (.t [])), (74, (aB false))], []⟩,
      ⟨some 80, (.t []), [], [], [28, 33], [(79, (.t [])), (74, (aB false))], []⟩,
      ⟨some 81, (.t []), [], [], [28], [(5, (aC (.s 0 0 4 r1.length))), (74, (aB false))], []⟩,
      ⟨some 82, (.t []), [], [], [28], [(6, (aI (↑q : Int))), (74, (aB false))], []⟩,
      ⟨some 83, (.t []), [], [], [28, 35, 36], [(81, (.t [])), (82, (.t [])), (74, (aB false))], []⟩,
      ⟨some 84, (.t []), [], [], [28, 37], [(83, (.t [])), (74, (aB false))], []⟩,
      ⟨some 85, (.t []), [], [], [28, 38], [(84, (.t [])), (74, (aB false))], []⟩,
      ⟨some 86, (.t []), [], [], [28, 34, 39], [(80, (.t [])), (85, (.t [])), (74, (aB false))], []⟩,
      ⟨some 87, (aB false), [], [], [15, 28, 40], [(74, (aB false)), (86, (.t [])), (61, (aB false))], []⟩,
      ⟨some 88, (aB false), [], [], [2, 15, 41], [(61, (aB false)), (87, (aB false)), (48, (aB true))], []⟩,
      ⟨some 89, (aB false), [], [], [2, 42], [(48, (aB true)), (88, (aB false))], []⟩] ⟨[(0, (aC (cR 4 ((l).map rRecord)))), (5, (aC (.s 0 0 4 r1.length))), (42, (aI (↑r1.length : Int))), (43, (aI (↑q : Int))), (6, (aI (↑q : Int))), (89, (aB false))], [(0, (.arr 127 4 ((r1).map rRecord)))], 1⟩ mixed (by kernel_rfl) ?_ ?_ ?_ ?_
                    · exact ⟨.inl ⟨(Wanted.plain rfl), GOp.cast (g_move rfl rfl) rfl⟩,
      .inl ⟨(Wanted.plain rfl), GOp.cast (g_binI rfl rfl rfl (congrArg (fun b => some (Value.bool b)) hb9)) rfl⟩,
      .inl ⟨(Wanted.plain rfl), GOp.cast (g_move rfl rfl) rfl⟩,
      .inl ⟨(Wanted.yes rfl rfl rfl), GOp.cast (g_move rfl rfl) rfl⟩,
      .inl ⟨(Wanted.yes rfl rfl rfl), GOp.cast (g_move rfl rfl) rfl⟩,
      .inl ⟨(Wanted.yes rfl rfl rfl), GOp.cast (g_binI rfl rfl rfl (wrap_ok (by first | omega | (simp; done) | (simp; omega)))) rfl⟩,
      .inl ⟨(Wanted.yes rfl rfl rfl), GOp.cast (g_indexP0 (i := (q) - 1) rfl rfl rfl Try.underlying114 sz127 (by first | omega | (simp; done) | (simp; omega)) (by first | omega | (simp; done) | (simp; omega))) rfl⟩,
      .inl ⟨(Wanted.yes rfl rfl rfl), GOp.cast (g_fieldP rfl rfl Try.underlying127 rfl sz3 (by decide)) rfl⟩,
      .inl ⟨(Wanted.yes rfl rfl rfl), GOp.cast (g_loadA rfl rfl rfl Try.underlying3 rfl (getmap hx1) rfl) rfl⟩,
      .inl ⟨(Wanted.yes rfl rfl rfl), GOp.cast (g_move rfl rfl) rfl⟩,
      .inl ⟨(Wanted.yes rfl rfl rfl), GOp.cast (g_move rfl rfl) rfl⟩,
      .inl ⟨(Wanted.yes rfl rfl rfl), GOp.cast (g_indexP0 (i := q) rfl rfl rfl Try.underlying114 sz127 (by first | omega | (simp; done) | (simp; omega)) (by first | omega | (simp; done) | (simp; omega))) rfl⟩,
      .inl ⟨(Wanted.yes rfl rfl rfl), GOp.cast (g_fieldP rfl rfl Try.underlying127 rfl sz3 (by decide)) rfl⟩,
      .inl ⟨(Wanted.yes rfl rfl rfl), GOp.cast (g_loadA rfl rfl rfl Try.underlying3 rfl (getmap hx2) rfl) rfl⟩,
      .inl ⟨(Wanted.yes rfl rfl rfl), GOp.cast (g_binI rfl rfl rfl (congrArg (fun b => some (Value.bool b)) hb10)) rfl⟩,
      .inl ⟨(Wanted.yes rfl rfl rfl), GOp.cast (g_move rfl rfl) rfl⟩,
      .inl ⟨(Wanted.yes rfl rfl rfl), GOp.cast (g_move rfl rfl) rfl⟩,
      .inl ⟨(Wanted.yes rfl rfl rfl), GOp.cast (g_move rfl rfl) rfl⟩,
      .inl ⟨(Wanted.yes rfl rfl rfl), GOp.cast (g_binI rfl rfl rfl (wrap_ok (by first | omega | (simp; done) | (simp; omega)))) rfl⟩,
      .inl ⟨(Wanted.yes rfl rfl rfl), GOp.cast (g_indexP0 (i := (q) - 1) rfl rfl rfl Try.underlying114 sz127 (by first | omega | (simp; done) | (simp; omega)) (by first | omega | (simp; done) | (simp; omega))) rfl⟩,
      .inl ⟨(Wanted.yes rfl rfl rfl), GOp.cast (g_fieldP rfl rfl Try.underlying127 rfl sz3 (by decide)) rfl⟩,
      .inl ⟨(Wanted.yes rfl rfl rfl), GOp.cast (g_loadA rfl rfl rfl Try.underlying3 rfl (getmap hx1) rfl) rfl⟩,
      .inl ⟨(Wanted.yes rfl rfl rfl), GOp.cast (g_move rfl rfl) rfl⟩,
      .inl ⟨(Wanted.yes rfl rfl rfl), GOp.cast (g_move rfl rfl) rfl⟩,
      .inl ⟨(Wanted.yes rfl rfl rfl), GOp.cast (g_indexP0 (i := q) rfl rfl rfl Try.underlying114 sz127 (by first | omega | (simp; done) | (simp; omega)) (by first | omega | (simp; done) | (simp; omega))) rfl⟩,
      .inl ⟨(Wanted.yes rfl rfl rfl), GOp.cast (g_fieldP rfl rfl Try.underlying127 rfl sz3 (by decide)) rfl⟩,
      .inl ⟨(Wanted.yes rfl rfl rfl), GOp.cast (g_loadA rfl rfl rfl Try.underlying3 rfl (getmap hx2) rfl) rfl⟩,
      .inl ⟨(Wanted.yes rfl rfl rfl), GOp.cast (g_binI rfl rfl rfl (congrArg (fun b => some (Value.bool b)) hb12)) rfl⟩,
      .inl ⟨(Wanted.yes rfl rfl rfl), GOp.cast (g_move rfl rfl) rfl⟩,
      .inr ⟨(Unwanted.no rfl rfl rfl), rfl, rfl, rfl⟩,
      .inr ⟨(Unwanted.no rfl rfl rfl), rfl, rfl, rfl⟩,
      .inr ⟨(Unwanted.no rfl rfl rfl), rfl, rfl, rfl⟩,
      .inr ⟨(Unwanted.no rfl rfl rfl), rfl, rfl, rfl⟩,
      .inr ⟨(Unwanted.no rfl rfl rfl), rfl, rfl, rfl⟩,
      .inr ⟨(Unwanted.no rfl rfl rfl), rfl, rfl, rfl⟩,
      .inr ⟨(Unwanted.no rfl rfl rfl), rfl, rfl, rfl⟩,
      .inr ⟨(Unwanted.no rfl rfl rfl), rfl, rfl, rfl⟩,
      .inr ⟨(Unwanted.no rfl rfl rfl), rfl, rfl, rfl⟩,
      .inr ⟨(Unwanted.no rfl rfl rfl), rfl, rfl, rfl⟩,
      .inr ⟨(Unwanted.no rfl rfl rfl), rfl, rfl, rfl⟩,
      .inr ⟨(Unwanted.no rfl rfl rfl), rfl, rfl, rfl⟩,
      .inl ⟨(Wanted.yes rfl rfl rfl), GOp.cast (g_pick rfl rfl rfl) rfl⟩,
      .inl ⟨(Wanted.yes rfl rfl rfl), GOp.cast (g_pick rfl rfl rfl) rfl⟩,
      .inl ⟨(Wanted.plain rfl), GOp.cast (g_pick rfl rfl rfl) rfl⟩,
       trivial⟩
                    · exact ⟨⟨⟨.inl rfl,  trivial⟩, trivial⟩, ⟨⟨.inr ⟨0, .head _, _, rfl, rfl, rfl⟩,  trivial⟩, trivial⟩, ⟨⟨.inr ⟨1, .head _, _, rfl, rfl, rfl⟩,  trivial⟩, trivial⟩, ⟨⟨.inl rfl, .inr ⟨2, .head _, _, rfl, rfl, rfl⟩,  trivial⟩, trivial⟩, ⟨⟨.inl rfl, .inr ⟨2, .head _, _, rfl, rfl, rfl⟩,  trivial⟩, trivial⟩, ⟨⟨.inr ⟨4, .tail _ (.head _), _, rfl, rfl, rfl⟩, .inr ⟨2, .head _, _, rfl, rfl, rfl⟩,  trivial⟩, trivial⟩, ⟨⟨.inr ⟨3, .tail _ (.head _), _, rfl, rfl, rfl⟩, .inr ⟨5, .tail _ (.tail _ (.head _)), _, rfl, rfl, rfl⟩, .inr ⟨2, .head _, _, rfl, rfl, rfl⟩,  trivial⟩, ⟨.inl rfl,  trivial⟩⟩, ⟨⟨.inr ⟨6, .tail _ (.head _), _, rfl, rfl, rfl⟩, .inr ⟨2, .head _, _, rfl, rfl, rfl⟩,  trivial⟩, trivial⟩, ⟨⟨.inr ⟨7, .tail _ (.head _), _, rfl, rfl, rfl⟩, .inr ⟨2, .head _, _, rfl, rfl, rfl⟩,  trivial⟩, ⟨.inl rfl,  trivial⟩⟩, ⟨⟨.inl rfl, .inr ⟨2, .head _, _, rfl, rfl, rfl⟩,  trivial⟩, trivial⟩, ⟨⟨.inl rfl, .inr ⟨2, .head _, _, rfl, rfl, rfl⟩,  trivial⟩, trivial⟩, ⟨⟨.inr ⟨9, .tail _ (.head _), _, rfl, rfl, rfl⟩, .inr ⟨10, .tail _ (.tail _ (.head _)), _, rfl, rfl, rfl⟩, .inr ⟨2, .head _, _, rfl, rfl, rfl⟩,  trivial⟩, ⟨.inl rfl,  trivial⟩⟩, ⟨⟨.inr ⟨11, .tail _ (.head _), _, rfl, rfl, rfl⟩, .inr ⟨2, .head _, _, rfl, rfl, rfl⟩,  trivial⟩, trivial⟩, ⟨⟨.inr ⟨12, .tail _ (.head _), _, rfl, rfl, rfl⟩, .inr ⟨2, .head _, _, rfl, rfl, rfl⟩,  trivial⟩, ⟨.inl rfl,  trivial⟩⟩, ⟨⟨.inr ⟨8, .tail _ (.head _), _, rfl, rfl, rfl⟩, .inr ⟨13, .tail _ (.tail _ (.head _)), _, rfl, rfl, rfl⟩, .inr ⟨2, .head _, _, rfl, rfl, rfl⟩,  trivial⟩, trivial⟩, ⟨⟨.inr ⟨14, .tail _ (.head _), _, rfl, rfl, rfl⟩, .inr ⟨2, .head _, _, rfl, rfl, rfl⟩,  trivial⟩, trivial⟩, ⟨⟨.inl rfl, .inr ⟨15, .head _, _, rfl, rfl, rfl⟩,  trivial⟩, trivial⟩, ⟨⟨.inl rfl, .inr ⟨15, .head _, _, rfl, rfl, rfl⟩,  trivial⟩, trivial⟩, ⟨⟨.inr ⟨17, .tail _ (.head _), _, rfl, rfl, rfl⟩, .inr ⟨15, .head _, _, rfl, rfl, rfl⟩,  trivial⟩, trivial⟩, ⟨⟨.inr ⟨16, .tail _ (.head _), _, rfl, rfl, rfl⟩, .inr ⟨18, .tail _ (.tail _ (.head _)), _, rfl, rfl, rfl⟩, .inr ⟨15, .head _, _, rfl, rfl, rfl⟩,  trivial⟩, ⟨.inl rfl,  trivial⟩⟩, ⟨⟨.inr ⟨19, .tail _ (.head _), _, rfl, rfl, rfl⟩, .inr ⟨15, .head _, _, rfl, rfl, rfl⟩,  trivial⟩, trivial⟩, ⟨⟨.inr ⟨20, .tail _ (.head _), _, rfl, rfl, rfl⟩, .inr ⟨15, .head _, _, rfl, rfl, rfl⟩,  trivial⟩, ⟨.inl rfl,  trivial⟩⟩, ⟨⟨.inl rfl, .inr ⟨15, .head _, _, rfl, rfl, rfl⟩,  trivial⟩, trivial⟩, ⟨⟨.inl rfl, .inr ⟨15, .head _, _, rfl, rfl, rfl⟩,  trivial⟩, trivial⟩, ⟨⟨.inr ⟨22, .tail _ (.head _), _, rfl, rfl, rfl⟩, .inr ⟨23, .tail _ (.tail _ (.head _)), _, rfl, rfl, rfl⟩, .inr ⟨15, .head _, _, rfl, rfl, rfl⟩,  trivial⟩, ⟨.inl rfl,  trivial⟩⟩, ⟨⟨.inr ⟨24, .tail _ (.head _), _, rfl, rfl, rfl⟩, .inr ⟨15, .head _, _, rfl, rfl, rfl⟩,  trivial⟩, trivial⟩, ⟨⟨.inr ⟨25, .tail _ (.head _), _, rfl, rfl, rfl⟩, .inr ⟨15, .head _, _, rfl, rfl, rfl⟩,  trivial⟩, ⟨.inl rfl,  trivial⟩⟩, ⟨⟨.inr ⟨21, .tail _ (.head _), _, rfl, rfl, rfl⟩, .inr ⟨26, .tail _ (.tail _ (.head _)), _, rfl, rfl, rfl⟩, .inr ⟨15, .head _, _, rfl, rfl, rfl⟩,  trivial⟩, trivial⟩, ⟨⟨.inr ⟨27, .tail _ (.head _), _, rfl, rfl, rfl⟩, .inr ⟨15, .head _, _, rfl, rfl, rfl⟩,  trivial⟩, trivial⟩, ⟨⟨.inl rfl, .inr ⟨28, .head _, _, rfl, rfl, rfl⟩,  trivial⟩, trivial⟩, ⟨⟨.inl rfl, .inr ⟨28, .head _, _, rfl, rfl, rfl⟩,  trivial⟩, trivial⟩, ⟨⟨.inr ⟨30, .tail _ (.head _), _, rfl, rfl, rfl⟩, .inr ⟨28, .head _, _, rfl, rfl, rfl⟩,  trivial⟩, trivial⟩, ⟨⟨.inr ⟨29, .tail _ (.head _), _, rfl, rfl, rfl⟩, .inr ⟨31, .tail _ (.tail _ (.head _)), _, rfl, rfl, rfl⟩, .inr ⟨28, .head _, _, rfl, rfl, rfl⟩,  trivial⟩, trivial⟩, ⟨⟨.inr ⟨32, .tail _ (.head _), _, rfl, rfl, rfl⟩, .inr ⟨28, .head _, _, rfl, rfl, rfl⟩,  trivial⟩, trivial⟩, ⟨⟨.inr ⟨33, .tail _ (.head _), _, rfl, rfl, rfl⟩, .inr ⟨28, .head _, _, rfl, rfl, rfl⟩,  trivial⟩, trivial⟩, ⟨⟨.inl rfl, .inr ⟨28, .head _, _, rfl, rfl, rfl⟩,  trivial⟩, trivial⟩, ⟨⟨.inl rfl, .inr ⟨28, .head _, _, rfl, rfl, rfl⟩,  trivial⟩, trivial⟩, ⟨⟨.inr ⟨35, .tail _ (.head _), _, rfl, rfl, rfl⟩, .inr ⟨36, .tail _ (.tail _ (.head _)), _, rfl, rfl, rfl⟩, .inr ⟨28, .head _, _, rfl, rfl, rfl⟩,  trivial⟩, trivial⟩, ⟨⟨.inr ⟨37, .tail _ (.head _), _, rfl, rfl, rfl⟩, .inr ⟨28, .head _, _, rfl, rfl, rfl⟩,  trivial⟩, trivial⟩, ⟨⟨.inr ⟨38, .tail _ (.head _), _, rfl, rfl, rfl⟩, .inr ⟨28, .head _, _, rfl, rfl, rfl⟩,  trivial⟩, trivial⟩, ⟨⟨.inr ⟨34, .tail _ (.head _), _, rfl, rfl, rfl⟩, .inr ⟨39, .tail _ (.tail _ (.head _)), _, rfl, rfl, rfl⟩, .inr ⟨28, .head _, _, rfl, rfl, rfl⟩,  trivial⟩, trivial⟩, ⟨⟨.inr ⟨28, .tail _ (.head _), _, rfl, rfl, rfl⟩, .inr ⟨40, .tail _ (.tail _ (.head _)), _, rfl, rfl, rfl⟩, .inr ⟨15, .head _, _, rfl, rfl, rfl⟩,  trivial⟩, trivial⟩, ⟨⟨.inr ⟨15, .tail _ (.head _), _, rfl, rfl, rfl⟩, .inr ⟨41, .tail _ (.tail _ (.head _)), _, rfl, rfl, rfl⟩, .inr ⟨2, .head _, _, rfl, rfl, rfl⟩,  trivial⟩, trivial⟩, ⟨⟨.inr ⟨2, .head _, _, rfl, rfl, rfl⟩, .inr ⟨42, .tail _ (.head _), _, rfl, rfl, rfl⟩,  trivial⟩, trivial⟩,  trivial⟩
                    · exact ⟨⟨.inl rfl, .inl rfl, .inl rfl, .inl rfl, .inl rfl, .inr ⟨43, _, rfl, rfl, rfl⟩,  trivial⟩, ⟨.inl rfl,  trivial⟩⟩
                    ·
                      refine AL.nil ?_
                      refine then_ok ?_
                      refine AC.cond rfl (fun hno => by cases hno) (fun _ => ?_)
                      refine AC.skip ?_
                      refine block_ok ?_
                      refine then_ok ?_
                      refine AC.region ?_
                      refine AL.val (Wanted.plain rfl) (g_binI rfl rfl rfl (wrap_ok (by first | omega | (simp; done) | (simp; omega)))) rfl rfl ?_
                      refine AL.fast 1 rfl ?_
                      refine AL.nil ?_
                      refine then_ok ?_
                      refine ⟨q + 1, by first | omega | trivial, by first | omega | (simp; done) | (simp; omega), Weak.ren id (by refine ⟨?_, ?_, ?_, ?_,  trivial⟩ <;> first | rfl | (simp only [AV.map, GV.map, CV.map, AB.map', id]; done) | (congr 3; omega) | (congr 4; omega) | (simp only [List.length_append, List.length_cons, List.length_nil, List.length_set]; rfl)) (⟨by first | rfl | (simp only [AV.map, GV.map, CV.map, AB.map', id]; done) | (congr 3; omega) | (congr 4; omega) | (simp only [List.length_append, List.length_cons, List.length_nil, List.length_set]; rfl), trivial⟩) rfl⟩
              ·
                have hb9' := hb9; try simp only [sumB, Bool.not_eq_true', Bool.not_eq_false', Bool.or_eq_true, Bool.or_eq_false_iff, Bool.and_eq_true, Bool.and_eq_false_imp, decide_eq_true_eq, decide_eq_false_iff_not, Bool.not_not, Bool.not_true, Bool.not_false] at hb9'
                refine AC.weak (st' := ⟨[(0, (aC (cR 4 ((l).map rRecord)))), (5, (aC (.s 0 0 4 r1.length))), (42, (aI (↑r1.length : Int))), (43, (aI (↑q : Int))), (6, (aI (↑q : Int)))], [(0, (.arr 127 4 ((r1).map rRecord)))], 1⟩) (Weak.ren id (by refine ⟨?_, ?_, ?_, ?_, ?_,  trivial⟩ <;> first | rfl | (simp only [AV.map, GV.map, CV.map, AB.map', id]; done) | (congr 3; omega) | (congr 4; omega) | (simp only [List.length_append, List.length_cons, List.length_nil, List.length_set]; rfl)) (⟨by first | rfl | (simp only [AV.map, GV.map, CV.map, AB.map', id]; done) | (congr 3; omega) | (congr 4; omega) | (simp only [List.length_append, List.length_cons, List.length_nil, List.length_set]; rfl), trivial⟩) rfl) ?_
                refine AC.draw [⟨some 46, (aI (↑q : Int)), [], [], [], [(6, (aI (↑q : Int)))], []⟩,
      ⟨some 47, (aB false), [], [], [0], [(46, (aI (↑q : Int)))], []⟩,
      ⟨some 48, (aB false), [], [], [1], [(47, (aB false))], []⟩,
      ⟨some 49, (.t []), [], [], [2], [(5, (aC (.s 0 0 4 r1.length))), (48, (aB false))], []⟩,
      ⟨some 50, (.t []), [], [], [2], [(6, (aI (↑q : Int))), (48, (aB false))], []⟩,
      ⟨some 51, (.t []), [], [], [2, 4], [(50, (.t [])), (48, (aB false))], []⟩,
      ⟨some 52, (.t []), [], [], [2, 3, 5], [(49, (.t [])), (51, (.t [])), (48, (aB false))], []⟩,
      ⟨some 53, (.t []), [], [], [2, 6], [(52, (.t [])), (48, (aB false))], []⟩,
      ⟨some 54, (.t []), [], [], [2, 7], [(53, (.t [])), (48, (aB false))], []⟩,
      ⟨some 55, (.t []), [], [], [2], [(5, (aC (.s 0 0 4 r1.length))), (48, (aB false))], []⟩,
      ⟨some 56, (.t []), [], [], [2], [(6, (aI (↑q : Int))), (48, (aB false))], []⟩,
      ⟨some 57, (.t []), [], [], [2, 9, 10], [(55, (.t [])), (56, (.t [])), (48, (aB false))], []⟩,
      ⟨some 58, (.t []), [], [], [2, 11], [(57, (.t [])), (48, (aB false))], []⟩,
      ⟨some 59, (.t []), [], [], [2, 12], [(58, (.t [])), (48, (aB false))], []⟩,
      ⟨some 60, (.t []), [], [], [2, 8, 13], [(54, (.t [])), (59, (.t [])), (48, (aB false))], []⟩,
      ⟨some 61, (.t []), [], [], [2, 14], [(60, (.t [])), (48, (aB false))], []⟩,
      ⟨some 62, (.t []), [], [], [15], [(5, (aC (.s 0 0 4 r1.length))), (61, (.t []))], []⟩,
      ⟨some 63, (.t []), [], [], [15], [(6, (aI (↑q : Int))), (61, (.t []))], []⟩,
      ⟨some 64, (.t []), [], [], [15, 17], [(63, (.t [])), (61, (.t []))], []⟩,
      ⟨some 65, (.t []), [], [], [15, 16, 18], [(62, (.t [])), (64, (.t [])), (61, (.t []))], []⟩,
      ⟨some 66, (.t []), [], [], [15, 19], [(65, (.t [])), (61, (.t []))], []⟩,
      ⟨some 67, (.t []), [], [], [15, 20], [(66, (.t [])), (61, (.t []))], []⟩,
      ⟨some 68, (.t []), [], [], [15], [(5, (aC (.s 0 0 4 r1.length))), (61, (.t []))], []⟩,
      ⟨some 69, (.t []), [], [], [15], [(6, (aI (↑q : Int))), (61, (.t []))], []⟩,
      ⟨some 70, (.t []), [], [], [15, 22, 23], [(68, (.t [])), (69, (.t [])), (61, (.t []))], []⟩,
      ⟨some 71, (.t []), [], [], [15, 24], [(70, (.t [])), (61, (.t []))], []⟩,
      ⟨some 72, (.t []), [], [], [15, 25], [(71, (.t [])), (61, (.t []))], []⟩,
      ⟨some 73, (.t []), [], [], [15, 21, 26], [(67, (.t [])), (72, (.t [])), (61, (.t []))], []⟩,
      ⟨some 74, (.t []), [], [], [15, 27], [(73, (.t [])), (61, (.t []))], []⟩,
      ⟨some 75, (.t []), [], [], [28], [(5, (aC (.s 0 0 4 r1.length))), (74, (.t []))], []⟩,
      ⟨some 76, (.t []), [], [], [28], [(6, (aI (↑q : Int))), (74, (.t []))], []⟩,
      ⟨some 77, (.t []), [], [], [28, 30], [(76, (.t [])), (74, (.t []))], []⟩,
      ⟨some 78, (.t []), [], [], [28, 29, 31], [(75, (.t [])), (77, (.t [])), (74, (.t []))], []⟩,
      ⟨some 79, (.t []), [], [], [28, 32], [(78, (.t [])), (74, (.t []))], []⟩,
      ⟨some 80, (.t []), [], [], [28, 33], [(79, (.t [])), (74, (.t []))], []⟩,
      ⟨some 81, (.t []), [], [], [28], [(5, (aC (.s 0 0 4 r1.length))), (74, (.t []))], []⟩,
      ⟨some 82, (.t []), [], [], [28], [(6, (aI (↑q : Int))), (74, (.t []))], []⟩,
      ⟨some 83, (.t []), [], [], [28, 35, 36], [(81, (.t [])), (82, (.t [])), (74, (.t []))], []⟩,
      ⟨some 84, (.t []), [], [], [28, 37], [(83, (.t [])), (74, (.t []))], []⟩,
      ⟨some 85, (.t []), [], [], [28, 38], [(84, (.t [])), (74, (.t []))], []⟩,
      ⟨some 86, (.t []), [], [], [28, 34, 39], [(80, (.t [])), (85, (.t [])), (74, (.t []))], []⟩,
      ⟨some 87, (.t []), [], [], [15, 28, 40], [(74, (.t [])), (86, (.t [])), (61, (.t []))], []⟩,
      ⟨some 88, (.t []), [], [], [2, 15, 41], [(61, (.t [])), (87, (.t [])), (48, (aB false))], []⟩,
      ⟨some 89, (aB false), [], [], [2, 42], [(48, (aB false)), (88, (.t []))], []⟩] ⟨[(0, (aC (cR 4 ((l).map rRecord)))), (5, (aC (.s 0 0 4 r1.length))), (42, (aI (↑r1.length : Int))), (43, (aI (↑q : Int))), (6, (aI (↑q : Int))), (89, (aB false))], [(0, (.arr 127 4 ((r1).map rRecord)))], 1⟩ mixed (by kernel_rfl) ?_ ?_ ?_ ?_
                · exact ⟨.inl ⟨(Wanted.plain rfl), GOp.cast (g_move rfl rfl) rfl⟩,
      .inl ⟨(Wanted.plain rfl), GOp.cast (g_binI rfl rfl rfl (congrArg (fun b => some (Value.bool b)) hb9)) rfl⟩,
      .inl ⟨(Wanted.plain rfl), GOp.cast (g_move rfl rfl) rfl⟩,
      .inr ⟨(Unwanted.no rfl rfl rfl), rfl, rfl, rfl⟩,
      .inr ⟨(Unwanted.no rfl rfl rfl), rfl, rfl, rfl⟩,
      .inr ⟨(Unwanted.no rfl rfl rfl), rfl, rfl, rfl⟩,
      .inr ⟨(Unwanted.no rfl rfl rfl), rfl, rfl, rfl⟩,
      .inr ⟨(Unwanted.no rfl rfl rfl), rfl, rfl, rfl⟩,
      .inr ⟨(Unwanted.no rfl rfl rfl), rfl, rfl, rfl⟩,
      .inr ⟨(Unwanted.no rfl rfl rfl), rfl, rfl, rfl⟩,
      .inr ⟨(Unwanted.no rfl rfl rfl), rfl, rfl, rfl⟩,
      .inr ⟨(Unwanted.no rfl rfl rfl), rfl, rfl, rfl⟩,
      .inr ⟨(Unwanted.no rfl rfl rfl), rfl, rfl, rfl⟩,
      .inr ⟨(Unwanted.no rfl rfl rfl), rfl, rfl, rfl⟩,
      .inr ⟨(Unwanted.no rfl rfl rfl), rfl, rfl, rfl⟩,
      .inr ⟨(Unwanted.no rfl rfl rfl), rfl, rfl, rfl⟩,
      .inr ⟨(Unwanted.un rfl rfl rfl), rfl, rfl, rfl⟩,
      .inr ⟨(Unwanted.un rfl rfl rfl), rfl, rfl, rfl⟩,
      .inr ⟨(Unwanted.un rfl rfl rfl), rfl, rfl, rfl⟩,
      .inr ⟨(Unwanted.un rfl rfl rfl), rfl, rfl, rfl⟩,
      .inr ⟨(Unwanted.un rfl rfl rfl), rfl, rfl, rfl⟩,
      .inr ⟨(Unwanted.un rfl rfl rfl), rfl, rfl, rfl⟩,
      .inr ⟨(Unwanted.un rfl rfl rfl), rfl, rfl, rfl⟩,
      .inr ⟨(Unwanted.un rfl rfl rfl), rfl, rfl, rfl⟩,
      .inr ⟨(Unwanted.un rfl rfl rfl), rfl, rfl, rfl⟩,
      .inr ⟨(Unwanted.un rfl rfl rfl), rfl, rfl, rfl⟩,
      .inr ⟨(Unwanted.un rfl rfl rfl), rfl, rfl, rfl⟩,
      .inr ⟨(Unwanted.un rfl rfl rfl), rfl, rfl, rfl⟩,
      .inr ⟨(Unwanted.un rfl rfl rfl), rfl, rfl, rfl⟩,
      .inr ⟨(Unwanted.un rfl rfl rfl), rfl, rfl, rfl⟩,
      .inr ⟨(Unwanted.un rfl rfl rfl), rfl, rfl, rfl⟩,
      .inr ⟨(Unwanted.un rfl rfl rfl), rfl, rfl, rfl⟩,
      .inr ⟨(Unwanted.un rfl rfl rfl), rfl, rfl, rfl⟩,
      .inr ⟨(Unwanted.un rfl rfl rfl), rfl, rfl, rfl⟩,
      .inr ⟨(Unwanted.un rfl rfl rfl), rfl, rfl, rfl⟩,
      .inr ⟨(Unwanted.un rfl rfl rfl), rfl, rfl, rfl⟩,
      .inr ⟨(Unwanted.un rfl rfl rfl), rfl, rfl, rfl⟩,
      .inr ⟨(Unwanted.un rfl rfl rfl), rfl, rfl, rfl⟩,
      .inr ⟨(Unwanted.un rfl rfl rfl), rfl, rfl, rfl⟩,
      .inr ⟨(Unwanted.un rfl rfl rfl), rfl, rfl, rfl⟩,
      .inr ⟨(Unwanted.un rfl rfl rfl), rfl, rfl, rfl⟩,
      .inr ⟨(Unwanted.un rfl rfl rfl), rfl, rfl, rfl⟩,
      .inr ⟨(Unwanted.no rfl rfl rfl), rfl, rfl, rfl⟩,
      .inl ⟨(Wanted.plain rfl), GOp.cast (g_pick rfl rfl rfl) rfl⟩,
       trivial⟩
                · exact ⟨⟨⟨.inl rfl,  trivial⟩, trivial⟩, ⟨⟨.inr ⟨0, .head _, _, rfl, rfl, rfl⟩,  trivial⟩, trivial⟩, ⟨⟨.inr ⟨1, .head _, _, rfl, rfl, rfl⟩,  trivial⟩, trivial⟩, ⟨⟨.inl rfl, .inr ⟨2, .head _, _, rfl, rfl, rfl⟩,  trivial⟩, trivial⟩, ⟨⟨.inl rfl, .inr ⟨2, .head _, _, rfl, rfl, rfl⟩,  trivial⟩, trivial⟩, ⟨⟨.inr ⟨4, .tail _ (.head _), _, rfl, rfl, rfl⟩, .inr ⟨2, .head _, _, rfl, rfl, rfl⟩,  trivial⟩, trivial⟩, ⟨⟨.inr ⟨3, .tail _ (.head _), _, rfl, rfl, rfl⟩, .inr ⟨5, .tail _ (.tail _ (.head _)), _, rfl, rfl, rfl⟩, .inr ⟨2, .head _, _, rfl, rfl, rfl⟩,  trivial⟩, trivial⟩, ⟨⟨.inr ⟨6, .tail _ (.head _), _, rfl, rfl, rfl⟩, .inr ⟨2, .head _, _, rfl, rfl, rfl⟩,  trivial⟩, trivial⟩, ⟨⟨.inr ⟨7, .tail _ (.head _), _, rfl, rfl, rfl⟩, .inr ⟨2, .head _, _, rfl, rfl, rfl⟩,  trivial⟩, trivial⟩, ⟨⟨.inl rfl, .inr ⟨2, .head _, _, rfl, rfl, rfl⟩,  trivial⟩, trivial⟩, ⟨⟨.inl rfl, .inr ⟨2, .head _, _, rfl, rfl, rfl⟩,  trivial⟩, trivial⟩, ⟨⟨.inr ⟨9, .tail _ (.head _), _, rfl, rfl, rfl⟩, .inr ⟨10, .tail _ (.tail _ (.head _)), _, rfl, rfl, rfl⟩, .inr ⟨2, .head _, _, rfl, rfl, rfl⟩,  trivial⟩, trivial⟩, ⟨⟨.inr ⟨11, .tail _ (.head _), _, rfl, rfl, rfl⟩, .inr ⟨2, .head _, _, rfl, rfl, rfl⟩,  trivial⟩, trivial⟩, ⟨⟨.inr ⟨12, .tail _ (.head _), _, rfl, rfl, rfl⟩, .inr ⟨2, .head _, _, rfl, rfl, rfl⟩,  trivial⟩, trivial⟩, ⟨⟨.inr ⟨8, .tail _ (.head _), _, rfl, rfl, rfl⟩, .inr ⟨13, .tail _ (.tail _ (.head _)), _, rfl, rfl, rfl⟩, .inr ⟨2, .head _, _, rfl, rfl, rfl⟩,  trivial⟩, trivial⟩, ⟨⟨.inr ⟨14, .tail _ (.head _), _, rfl, rfl, rfl⟩, .inr ⟨2, .head _, _, rfl, rfl, rfl⟩,  trivial⟩, trivial⟩, ⟨⟨.inl rfl, .inr ⟨15, .head _, _, rfl, rfl, rfl⟩,  trivial⟩, trivial⟩, ⟨⟨.inl rfl, .inr ⟨15, .head _, _, rfl, rfl, rfl⟩,  trivial⟩, trivial⟩, ⟨⟨.inr ⟨17, .tail _ (.head _), _, rfl, rfl, rfl⟩, .inr ⟨15, .head _, _, rfl, rfl, rfl⟩,  trivial⟩, trivial⟩, ⟨⟨.inr ⟨16, .tail _ (.head _), _, rfl, rfl, rfl⟩, .inr ⟨18, .tail _ (.tail _ (.head _)), _, rfl, rfl, rfl⟩, .inr ⟨15, .head _, _, rfl, rfl, rfl⟩,  trivial⟩, trivial⟩, ⟨⟨.inr ⟨19, .tail _ (.head _), _, rfl, rfl, rfl⟩, .inr ⟨15, .head _, _, rfl, rfl, rfl⟩,  trivial⟩, trivial⟩, ⟨⟨.inr ⟨20, .tail _ (.head _), _, rfl, rfl, rfl⟩, .inr ⟨15, .head _, _, rfl, rfl, rfl⟩,  trivial⟩, trivial⟩, ⟨⟨.inl rfl, .inr ⟨15, .head _, _, rfl, rfl, rfl⟩,  trivial⟩, trivial⟩, ⟨⟨.inl rfl, .inr ⟨15, .head _, _, rfl, rfl, rfl⟩,  trivial⟩, trivial⟩, ⟨⟨.inr ⟨22, .tail _ (.head _), _, rfl, rfl, rfl⟩, .inr ⟨23, .tail _ (.tail _ (.head _)), _, rfl, rfl, rfl⟩, .inr ⟨15, .head _, _, rfl, rfl, rfl⟩,  trivial⟩, trivial⟩, ⟨⟨.inr ⟨24, .tail _ (.head _), _, rfl, rfl, rfl⟩, .inr ⟨15, .head _, _, rfl, rfl, rfl⟩,  trivial⟩, trivial⟩, ⟨⟨.inr ⟨25, .tail _ (.head _), _, rfl, rfl, rfl⟩, .inr ⟨15, .head _, _, rfl, rfl, rfl⟩,  trivial⟩, trivial⟩, ⟨⟨.inr ⟨21, .tail _ (.head _), _, rfl, rfl, rfl⟩, .inr ⟨26, .tail _ (.tail _ (.head _)), _, rfl, rfl, rfl⟩, .inr ⟨15, .head _, _, rfl, rfl, rfl⟩,  trivial⟩, trivial⟩, ⟨⟨.inr ⟨27, .tail _ (.head _), _, rfl, rfl, rfl⟩, .inr ⟨15, .head _, _, rfl, rfl, rfl⟩,  trivial⟩, trivial⟩, ⟨⟨.inl rfl, .inr ⟨28, .head _, _, rfl, rfl, rfl⟩,  trivial⟩, trivial⟩, ⟨⟨.inl rfl, .inr ⟨28, .head _, _, rfl, rfl, rfl⟩,  trivial⟩, trivial⟩, ⟨⟨.inr ⟨30, .tail _ (.head _), _, rfl, rfl, rfl⟩, .inr ⟨28, .head _, _, rfl, rfl, rfl⟩,  trivial⟩, trivial⟩, ⟨⟨.inr ⟨29, .tail _ (.head _), _, rfl, rfl, rfl⟩, .inr ⟨31, .tail _ (.tail _ (.head _)), _, rfl, rfl, rfl⟩, .inr ⟨28, .head _, _, rfl, rfl, rfl⟩,  trivial⟩, trivial⟩, ⟨⟨.inr ⟨32, .tail _ (.head _), _, rfl, rfl, rfl⟩, .inr ⟨28, .head _, _, rfl, rfl, rfl⟩,  trivial⟩, trivial⟩, ⟨⟨.inr ⟨33, .tail _ (.head _), _, rfl, rfl, rfl⟩, .inr ⟨28, .head _, _, rfl, rfl, rfl⟩,  trivial⟩, trivial⟩, ⟨⟨.inl rfl, .inr ⟨28, .head _, _, rfl, rfl, rfl⟩,  trivial⟩, trivial⟩, ⟨⟨.inl rfl, .inr ⟨28, .head _, _, rfl, rfl, rfl⟩,  trivial⟩, trivial⟩, ⟨⟨.inr ⟨35, .tail _ (.head _), _, rfl, rfl, rfl⟩, .inr ⟨36, .tail _ (.tail _ (.head _)), _, rfl, rfl, rfl⟩, .inr ⟨28, .head _, _, rfl, rfl, rfl⟩,  trivial⟩, trivial⟩, ⟨⟨.inr ⟨37, .tail _ (.head _), _, rfl, rfl, rfl⟩, .inr ⟨28, .head _, _, rfl, rfl, rfl⟩,  trivial⟩, trivial⟩, ⟨⟨.inr ⟨38, .tail _ (.head _), _, rfl, rfl, rfl⟩, .inr ⟨28, .head _, _, rfl, rfl, rfl⟩,  trivial⟩, trivial⟩, ⟨⟨.inr ⟨34, .tail _ (.head _), _, rfl, rfl, rfl⟩, .inr ⟨39, .tail _ (.tail _ (.head _)), _, rfl, rfl, rfl⟩, .inr ⟨28, .head _, _, rfl, rfl, rfl⟩,  trivial⟩, trivial⟩, ⟨⟨.inr ⟨28, .tail _ (.head _), _, rfl, rfl, rfl⟩, .inr ⟨40, .tail _ (.tail _ (.head _)), _, rfl, rfl, rfl⟩, .inr ⟨15, .head _, _, rfl, rfl, rfl⟩,  trivial⟩, trivial⟩, ⟨⟨.inr ⟨15, .tail _ (.head _), _, rfl, rfl, rfl⟩, .inr ⟨41, .tail _ (.tail _ (.head _)), _, rfl, rfl, rfl⟩, .inr ⟨2, .head _, _, rfl, rfl, rfl⟩,  trivial⟩, trivial⟩, ⟨⟨.inr ⟨2, .head _, _, rfl, rfl, rfl⟩, .inr ⟨42, .tail _ (.head _), _, rfl, rfl, rfl⟩,  trivial⟩, trivial⟩,  trivial⟩
                · exact ⟨⟨.inl rfl, .inl rfl, .inl rfl, .inl rfl, .inl rfl, .inr ⟨43, _, rfl, rfl, rfl⟩,  trivial⟩, ⟨.inl rfl,  trivial⟩⟩
                ·
                  refine AL.nil ?_
                  refine then_ok ?_
                  refine AC.cond rfl (fun hno => by cases hno) (fun _ => ?_)
                  refine AC.skip ?_
                  refine block_ok ?_
                  refine then_ok ?_
                  refine AC.region ?_
                  refine AL.val (Wanted.plain rfl) (g_binI rfl rfl rfl (wrap_ok (by first | omega | (simp; done) | (simp; omega)))) rfl rfl ?_
                  refine AL.fast 1 rfl ?_
                  refine AL.nil ?_
                  refine then_ok ?_
                  refine ⟨q + 1, by first | omega | trivial, by first | omega | (simp; done) | (simp; omega), Weak.ren id (by refine ⟨?_, ?_, ?_, ?_,  trivial⟩ <;> first | rfl | (simp only [AV.map, GV.map, CV.map, AB.map', id]; done) | (congr 3; omega) | (congr 4; omega) | (simp only [List.length_append, List.length_cons, List.length_nil, List.length_set]; rfl)) (⟨by first | rfl | (simp only [AV.map, GV.map, CV.map, AB.map', id]; done) | (congr 3; omega) | (congr 4; omega) | (simp only [List.length_append, List.length_cons, List.length_nil, List.length_set]; rfl), trivial⟩) rfl⟩
            ·
              have hc8' := hc8; try simp only [sumB, Bool.not_eq_true', Bool.not_eq_false', Bool.or_eq_true, Bool.or_eq_false_iff, Bool.and_eq_true, Bool.and_eq_false_imp, decide_eq_true_eq, decide_eq_false_iff_not, Bool.not_not, Bool.not_true, Bool.not_false] at hc8'
              refine AC.exit ?_
              refine then_exit ?_
              refine then_exit ?_
              refine block_hit ?_
              refine then_ok ?_
              refine AC.seq ?_
              refine AC.seq ?_
              refine AC.region ?_
              refine AL.fast 1 rfl ?_
              refine AL.val (Wanted.plain rfl) (g_lenM rfl rfl rfl rfl rfl Try.underlying114) rfl rfl ?_
              refine AL.fast 1 rfl ?_
              refine AL.nil ?_
              refine then_ok ?_
              refine AC.block ?_
              refine AC.loop (β := Nat) (fun (w1 : Nat) => ⟨[(0, (aC (cR 4 ((l).map rRecord)))), (5, (aC (.s 0 0 4 r1.length))), (42, (aI (↑r1.length : Int))), (43, (aI (↑q : Int))), (91, (aC (cR 4 ((l).map rRecord)))), (92, (aI (↑l.length : Int))), (93, (aI (↑w1 : Int)))], [(0, (.arr 127 4 ((r1).map rRecord)))], 1⟩) (fun (w1 : Nat) => w1 ≤ l.length) (fun (w1 : Nat) => l.length - w1) 0 ?_ ?_ ?_
              · exact (by omega)
              · exact Weak.ren id (by refine ⟨?_, ?_, ?_, ?_, ?_, ?_, ?_,  trivial⟩ <;> first | rfl | (simp only [AV.map, GV.map, CV.map, AB.map', id]; done) | (congr 3; omega) | (congr 4; omega) | (simp only [List.length_append, List.length_cons, List.length_nil, List.length_set]; rfl)) (⟨by first | rfl | (simp only [AV.map, GV.map, CV.map, AB.map', id]; done) | (congr 3; omega) | (congr 4; omega) | (simp only [List.length_append, List.length_cons, List.length_nil, List.length_set]; rfl), trivial⟩) rfl
              ·
                rintro w1 hi1_0
                refine AC.seq ?_
                refine AC.region ?_
                refine AL.val (Wanted.plain rfl) (g_binI rfl rfl rfl rfl) rfl rfl ?_
                refine AL.nil ?_
                refine then_ok ?_
                refine AC.seq ?_
                refine AC.cond rfl (fun hc16 => ?_) (fun hc16 => ?_)
                ·
                  have hc16' := hc16; try simp only [sumB, Bool.not_eq_true', Bool.not_eq_false', Bool.or_eq_true, Bool.or_eq_false_iff, Bool.and_eq_true, Bool.and_eq_false_imp, decide_eq_true_eq, decide_eq_false_iff_not, Bool.not_not, Bool.not_true, Bool.not_false] at hc16'
                  refine AC.skip ?_
                  refine then_ok ?_
                  refine AC.seq ?_
                  refine AC.block ?_
                  refine AC.seq ?_
                  refine AC.region ?_
                  obtain ⟨x1, hx1⟩ := exget (xs := l) (i := w1) (by first | omega | (simp; done) | (simp; omega))
                  refine AL.val (Wanted.plain rfl) (g_indexQ (i := w1) rfl rfl rfl Try.underlying114 sz127 (by first | omega | (simp; done) | (simp; omega)) (getmap hx1)) rfl rfl ?_
                  refine AL.val (Wanted.plain rfl) (g_loadQs rfl rfl Try.underlying127 rfl sz127 rfl rfl) rfl rfl ?_
                  refine AL.new (n' := 2) (Wanted.plain rfl) (g_alloc 1 rfl zv127 rfl rfl rfl) rfl rfl rfl ?_
                  refine AL.sto (h' := [(1, (.box 127 [(cI x1.shop), (cI x1.auth), (cI x1.kind), (cI x1.sum)])), (0, (.arr 127 4 ((r1).map rRecord)))]) (Wanted.plain rfl) (g_storeB rfl rfl rfl rfl rfl sz127 rfl (Nat.le_of_ble_eq_true rfl) rfl) rfl rfl rfl rfl ?_
                  refine AL.nil ?_
                  refine then_ok ?_
                  refine AC.seq ?_
                  refine AC.region ?_
                  refine AL.fast 2 rfl ?_
                  refine AL.nil ?_
                  refine then_ok ?_
                  refine AC.seq ?_
                  refine AC.seq ?_
                  refine AC.region ?_
                  refine AL.fast 1 rfl ?_
                  refine AL.val (Wanted.plain rfl) (g_lenM rfl rfl rfl rfl rfl Try.underlying114) rfl rfl ?_
                  refine AL.fast 1 rfl ?_
                  refine AL.nil ?_
                  refine then_ok ?_
                  refine AC.block ?_
                  refine AC.weak (Weak.nil 9 127 4 (by decide) rfl) ?_
                  refine AC.weak (Weak.nil 10 127 4 (by decide) rfl) ?_
                  refine AC.loop (β := Nat × List Record × List Record) (fun (p : Nat × List Record × List Record) => match p with | (u, ma, mb) => ⟨[(0, (aC (cR 4 ((l).map rRecord)))), (5, (aC (.s 0 0 4 r1.length))), (42, (aI (↑r1.length : Int))), (43, (aI (↑q : Int))), (91, (aC (cR 4 ((l).map rRecord)))), (92, (aI (↑l.length : Int))), (93, (aI (↑w1 : Int))), (8, (aC (.p 1 0 0 0))), (9, (aC (.s 2 0 4 ma.length))), (10, (aC (.s 3 0 4 mb.length))), (98, (aI (↑l.length : Int))), (99, (aI (↑u : Int)))], [(3, (.arr 127 4 ((mb).map rRecord))), (2, (.arr 127 4 ((ma).map rRecord))), (1, (.box 127 [(cI x1.shop), (cI x1.auth), (cI x1.kind), (cI x1.sum)])), (0, (.arr 127 4 ((r1).map rRecord)))], 4⟩) (fun (p : Nat × List Record × List Record) => match p with | (u, ma, mb) => u ≤ l.length ∧ ma = (l.take u).filter (sameK x1) ∧ mb = (r1.take u).filter (sameK x1)) (fun (p : Nat × List Record × List Record) => match p with | (u, ma, mb) => l.length - u) (0, ([] : List Record), ([] : List Record)) ?_ ?_ ?_
                  · exact ⟨by omega, by simp, by simp⟩
                  · exact Weak.ren id (by refine ⟨?_, ?_, ?_, ?_, ?_, ?_, ?_, ?_, ?_, ?_, ?_, ?_,  trivial⟩ <;> first | rfl | (simp only [AV.map, GV.map, CV.map, AB.map', id]; done) | (congr 3; omega) | (congr 4; omega) | (simp only [List.length_append, List.length_cons, List.length_nil, List.length_set]; rfl)) (by refine ⟨?_, ?_, ?_, ?_,  trivial⟩ <;> first | rfl | (simp only [AV.map, GV.map, CV.map, AB.map', id]; done) | (congr 3; omega) | (congr 4; omega) | (simp only [List.length_append, List.length_cons, List.length_nil, List.length_set]; rfl)) rfl
                  ·
                    rintro ⟨u, ma, mb⟩ ⟨hi2_0, hi2_1, hi2_2⟩
                    have hla : ma.length ≤ u := by rw [hi2_1]; exact fil_len
                    have hlb : mb.length ≤ u := by rw [hi2_2]; exact fil_len
                    refine AC.seq ?_
                    refine AC.region ?_
                    refine AL.val (Wanted.plain rfl) (g_binI rfl rfl rfl rfl) rfl rfl ?_
                    refine AL.nil ?_
                    refine then_ok ?_
                    refine AC.seq ?_
                    refine AC.cond rfl (fun hc17 => ?_) (fun hc17 => ?_)
                    ·
                      have hc17' := hc17; try simp only [sumB, Bool.not_eq_true', Bool.not_eq_false', Bool.or_eq_true, Bool.or_eq_false_iff, Bool.and_eq_true, Bool.and_eq_false_imp, decide_eq_true_eq, decide_eq_false_iff_not, Bool.not_not, Bool.not_true, Bool.not_false] at hc17'
                      refine AC.skip ?_
                      refine then_ok ?_
                      refine AC.seq ?_
                      refine AC.block ?_
                      refine AC.seq ?_
                      refine AC.region ?_
                      refine AL.fast 2 rfl ?_
                      refine AL.nil ?_
                      refine then_ok ?_
                      refine AC.seq ?_
                      refine AC.seq ?_
                      obtain ⟨x2, hx2⟩ := exget (xs := l) (i := u) (by first | omega | (simp; done) | (simp; omega))
                      rcases Bool.eq_false_or_eq_true (decide (x2.shop = x1.shop)) with hb18 | hb18
                      ·
                        have hb18' := hb18; try simp only [sumB, Bool.not_eq_true', Bool.not_eq_false', Bool.or_eq_true, Bool.or_eq_false_iff, Bool.and_eq_true, Bool.and_eq_false_imp, decide_eq_true_eq, decide_eq_false_iff_not, Bool.not_not, Bool.not_true, Bool.not_false] at hb18'
                        refine AC.weak (st' := ⟨[(0, (aC (cR 4 ((l).map rRecord)))), (5, (aC (.s 0 0 4 r1.length))), (42, (aI (↑r1.length : Int))), (43, (aI (↑q : Int))), (91, (aC (cR 4 ((l).map rRecord)))), (92, (aI (↑l.length : Int))), (93, (aI (↑w1 : Int))), (8, (aC (.p 1 0 0 0))), (9, (aC (.s 2 0 4 ma.length))), (10, (aC (.s 3 0 4 mb.length))), (98, (aI (↑l.length : Int))), (99, (aI (↑u : Int))), (11, (aI (↑u : Int)))], [(3, (.arr 127 4 ((mb).map rRecord))), (2, (.arr 127 4 ((ma).map rRecord))), (1, (.box 127 [(cI x1.shop), (cI x1.auth), (cI x1.kind), (cI x1.sum)])), (0, (.arr 127 4 ((r1).map rRecord)))], 4⟩) (Weak.ren id (by refine ⟨?_, ?_, ?_, ?_, ?_, ?_, ?_, ?_, ?_, ?_, ?_, ?_, ?_,  trivial⟩ <;> first | rfl | (simp only [AV.map, GV.map, CV.map, AB.map', id]; done) | (congr 3; omega) | (congr 4; omega) | (simp only [List.length_append, List.length_cons, List.length_nil, List.length_set]; rfl)) (by refine ⟨?_, ?_, ?_, ?_,  trivial⟩ <;> first | rfl | (simp only [AV.map, GV.map, CV.map, AB.map', id]; done) | (congr 3; omega) | (congr 4; omega) | (simp only [List.length_append, List.length_cons, List.length_nil, List.length_set]; rfl)) rfl) ?_
                        refine AC.draw [⟨some 102, (aC (cR 4 ((l).map rRecord))), [], [], [], [(0, (aC (cR 4 ((l).map rRecord))))], []⟩,
      ⟨some 103, (aI (↑u : Int)), [], [], [], [(11, (aI (↑u : Int)))], []⟩,
      ⟨some 104, (aC (.q (rRecord x2) 0)), [], [], [0, 1], [(102, (aC (cR 4 ((l).map rRecord)))), (103, (aI (↑u : Int)))], []⟩,
      ⟨some 105, (aC (.q (rRecord x2) 0)), [], [], [2], [(104, (aC (.q (rRecord x2) 0)))], []⟩,
      ⟨some 106, (aI x2.shop), [], [], [3], [(105, (aC (.q (rRecord x2) 0)))], []⟩,
      ⟨some 107, (aC (.p 1 0 0 0)), [], [], [], [(8, (aC (.p 1 0 0 0)))], []⟩,
      ⟨some 108, (aI x1.shop), [], [], [5], [(107, (aC (.p 1 0 0 0)))], [(1, (.box 127 [(cI x1.shop), (cI x1.auth), (cI x1.kind), (cI x1.sum)]))]⟩,
      ⟨some 109, (aB true), [], [], [4, 6], [(106, (aI x2.shop)), (108, (aI x1.shop))], []⟩,
      ⟨some 110, (aB true), [], [], [7], [(109, (aB true))], []⟩,
      ⟨some 111, (aC (cR 4 ((l).map rRecord))), [], [], [8], [(0, (aC (cR 4 ((l).map rRecord)))), (110, (aB true))], []⟩,
      ⟨some 112, (aI (↑u : Int)), [], [], [8], [(11, (aI (↑u : Int))), (110, (aB true))], []⟩,
      ⟨some 113, (aC (.q (rRecord x2) 0)), [], [], [8, 9, 10], [(111, (aC (cR 4 ((l).map rRecord)))), (112, (aI (↑u : Int))), (110, (aB true))], []⟩,
      ⟨some 114, (aC (.q (rRecord x2) 1)), [], [], [8, 11], [(113, (aC (.q (rRecord x2) 0))), (110, (aB true))], []⟩,
      ⟨some 115, (aI x2.auth), [], [], [8, 12], [(114, (aC (.q (rRecord x2) 1))), (110, (aB true))], []⟩,
      ⟨some 116, (aC (.p 1 0 0 1)), [], [], [8], [(8, (aC (.p 1 0 0 0))), (110, (aB true))], []⟩,
      ⟨some 117, (aI x1.auth), [], [], [8, 14], [(116, (aC (.p 1 0 0 1))), (110, (aB true))], [(1, (.box 127 [(cI x1.shop), (cI x1.auth), (cI x1.kind), (cI x1.sum)]))]⟩,
      ⟨some 118, (aB (decide (x2.auth = x1.auth))), [], [], [8, 13, 15], [(115, (aI x2.auth)), (117, (aI x1.auth)), (110, (aB true))], []⟩,
      ⟨some 119, (aB (decide (x2.auth = x1.auth))), [], [], [8, 16], [(110, (aB true)), (118, (aB (decide (x2.auth = x1.auth))))], []⟩] ⟨[(0, (aC (cR 4 ((l).map rRecord)))), (5, (aC (.s 0 0 4 r1.length))), (42, (aI (↑r1.length : Int))), (43, (aI (↑q : Int))), (91, (aC (cR 4 ((l).map rRecord)))), (92, (aI (↑l.length : Int))), (93, (aI (↑w1 : Int))), (8, (aC (.p 1 0 0 0))), (9, (aC (.s 2 0 4 ma.length))), (10, (aC (.s 3 0 4 mb.length))), (98, (aI (↑l.length : Int))), (99, (aI (↑u : Int))), (11, (aI (↑u : Int))), (119, (aB (decide (x2.auth = x1.auth))))], [(3, (.arr 127 4 ((mb).map rRecord))), (2, (.arr 127 4 ((ma).map rRecord))), (1, (.box 127 [(cI x1.shop), (cI x1.auth), (cI x1.kind), (cI x1.sum)])), (0, (.arr 127 4 ((r1).map rRecord)))], 4⟩ mixed (by kernel_rfl) ?_ ?_ ?_ ?_
                        · exact ⟨.inl ⟨(Wanted.plain rfl), GOp.cast (g_move rfl rfl) rfl⟩,
      .inl ⟨(Wanted.plain rfl), GOp.cast (g_move rfl rfl) rfl⟩,
      .inl ⟨(Wanted.plain rfl), GOp.cast (g_indexQ (i := u) rfl rfl rfl Try.underlying114 sz127 (by first | omega | (simp; done) | (simp; omega)) (getmap hx2)) rfl⟩,
      .inl ⟨(Wanted.plain rfl), GOp.cast (g_fieldQ rfl rfl Try.underlying127 rfl sz3 (by decide)) rfl⟩,
      .inl ⟨(Wanted.plain rfl), GOp.cast (g_loadQ rfl rfl Try.underlying3 rfl rfl) rfl⟩,
      .inl ⟨(Wanted.plain rfl), GOp.cast (g_fieldP rfl rfl Try.underlying127 rfl sz3 (by decide)) rfl⟩,
      .inl ⟨(Wanted.plain rfl), GOp.cast (g_loadB rfl rfl rfl Try.underlying3 rfl rfl) rfl⟩,
      .inl ⟨(Wanted.plain rfl), GOp.cast (g_binI rfl rfl rfl (congrArg (fun b => some (Value.bool b)) hb18)) rfl⟩,
      .inl ⟨(Wanted.plain rfl), GOp.cast (g_move rfl rfl) rfl⟩,
      .inl ⟨(Wanted.yes rfl rfl rfl), GOp.cast (g_move rfl rfl) rfl⟩,
      .inl ⟨(Wanted.yes rfl rfl rfl), GOp.cast (g_move rfl rfl) rfl⟩,
      .inl ⟨(Wanted.yes rfl rfl rfl), GOp.cast (g_indexQ (i := u) rfl rfl rfl Try.underlying114 sz127 (by first | omega | (simp; done) | (simp; omega)) (getmap hx2)) rfl⟩,
      .inl ⟨(Wanted.yes rfl rfl rfl), GOp.cast (g_fieldQ rfl rfl Try.underlying127 rfl sz3 (by decide)) rfl⟩,
      .inl ⟨(Wanted.yes rfl rfl rfl), GOp.cast (g_loadQ rfl rfl Try.underlying3 rfl rfl) rfl⟩,
      .inl ⟨(Wanted.yes rfl rfl rfl), GOp.cast (g_fieldP rfl rfl Try.underlying127 rfl sz3 (by decide)) rfl⟩,
      .inl ⟨(Wanted.yes rfl rfl rfl), GOp.cast (g_loadB rfl rfl rfl Try.underlying3 rfl rfl) rfl⟩,
      .inl ⟨(Wanted.yes rfl rfl rfl), GOp.cast (g_binI rfl rfl rfl rfl) rfl⟩,
      .inl ⟨(Wanted.plain rfl), GOp.cast (g_pick rfl rfl rfl) rfl⟩,
       trivial⟩
                        · exact ⟨⟨⟨.inl rfl,  trivial⟩, trivial⟩, ⟨⟨.inl rfl,  trivial⟩, trivial⟩, ⟨⟨.inr ⟨0, .head _, _, rfl, rfl, rfl⟩, .inr ⟨1, .tail _ (.head _), _, rfl, rfl, rfl⟩,  trivial⟩, trivial⟩, ⟨⟨.inr ⟨2, .head _, _, rfl, rfl, rfl⟩,  trivial⟩, trivial⟩, ⟨⟨.inr ⟨3, .head _, _, rfl, rfl, rfl⟩,  trivial⟩, trivial⟩, ⟨⟨.inl rfl,  trivial⟩, trivial⟩, ⟨⟨.inr ⟨5, .head _, _, rfl, rfl, rfl⟩,  trivial⟩, ⟨.inl rfl,  trivial⟩⟩, ⟨⟨.inr ⟨4, .head _, _, rfl, rfl, rfl⟩, .inr ⟨6, .tail _ (.head _), _, rfl, rfl, rfl⟩,  trivial⟩, trivial⟩, ⟨⟨.inr ⟨7, .head _, _, rfl, rfl, rfl⟩,  trivial⟩, trivial⟩, ⟨⟨.inl rfl, .inr ⟨8, .head _, _, rfl, rfl, rfl⟩,  trivial⟩, trivial⟩, ⟨⟨.inl rfl, .inr ⟨8, .head _, _, rfl, rfl, rfl⟩,  trivial⟩, trivial⟩, ⟨⟨.inr ⟨9, .tail _ (.head _), _, rfl, rfl, rfl⟩, .inr ⟨10, .tail _ (.tail _ (.head _)), _, rfl, rfl, rfl⟩, .inr ⟨8, .head _, _, rfl, rfl, rfl⟩,  trivial⟩, trivial⟩, ⟨⟨.inr ⟨11, .tail _ (.head _), _, rfl, rfl, rfl⟩, .inr ⟨8, .head _, _, rfl, rfl, rfl⟩,  trivial⟩, trivial⟩, ⟨⟨.inr ⟨12, .tail _ (.head _), _, rfl, rfl, rfl⟩, .inr ⟨8, .head _, _, rfl, rfl, rfl⟩,  trivial⟩, trivial⟩, ⟨⟨.inl rfl, .inr ⟨8, .head _, _, rfl, rfl, rfl⟩,  trivial⟩, trivial⟩, ⟨⟨.inr ⟨14, .tail _ (.head _), _, rfl, rfl, rfl⟩, .inr ⟨8, .head _, _, rfl, rfl, rfl⟩,  trivial⟩, ⟨.inl rfl,  trivial⟩⟩, ⟨⟨.inr ⟨13, .tail _ (.head _), _, rfl, rfl, rfl⟩, .inr ⟨15, .tail _ (.tail _ (.head _)), _, rfl, rfl, rfl⟩, .inr ⟨8, .head _, _, rfl, rfl, rfl⟩,  trivial⟩, trivial⟩, ⟨⟨.inr ⟨8, .head _, _, rfl, rfl, rfl⟩, .inr ⟨16, .tail _ (.head _), _, rfl, rfl, rfl⟩,  trivial⟩, trivial⟩,  trivial⟩
                        · exact ⟨⟨.inl rfl, .inl rfl, .inl rfl, .inl rfl, .inl rfl, .inl rfl, .inl rfl, .inl rfl, .inl rfl, .inl rfl, .inl rfl, .inl rfl, .inl rfl, .inr ⟨17, _, rfl, rfl, rfl⟩,  trivial⟩, ⟨.inl rfl, .inl rfl, .inl rfl, .inl rfl,  trivial⟩⟩
                        ·
                          refine AL.nil ?_
                          refine then_ok ?_
                          refine AC.cond rfl (fun hc19 => ?_) (fun hc19 => ?_)
                          ·
                            have hc19' := hc19; try simp only [sumB, Bool.not_eq_true', Bool.not_eq_false', Bool.or_eq_true, Bool.or_eq_false_iff, Bool.and_eq_true, Bool.and_eq_false_imp, decide_eq_true_eq, decide_eq_false_iff_not, Bool.not_not, Bool.not_true, Bool.not_false] at hc19'
                            refine AC.region ?_
                            refine AL.fast 3 rfl ?_
                            refine AL.val (Wanted.plain rfl) (g_indexQ (i := u) rfl rfl rfl Try.underlying114 sz127 (by first | omega | (simp; done) | (simp; omega)) (getmap hx2)) rfl rfl ?_
                            refine AL.val (Wanted.plain rfl) (g_loadQs rfl rfl Try.underlying127 rfl sz127 rfl rfl) rfl rfl ?_
                            refine AL.new (n' := 5) (Wanted.plain rfl) (g_lit (ys := [(0, (.g [(cI x2.shop), (cI x2.auth), (cI x2.kind), (cI x2.sum)]))]) (rows := ([x2]).map rRecord) 4 sl114 rfl (by decide) ⟨⟨rfl, rfl⟩,  trivial⟩ rfl rfl rfl rfl) rfl rfl rfl ?_
                            refine AL.eat (n' := 6) (h' := [(5, (.arr 127 4 ((ma ++ ([x2])).map rRecord))), (4, (.arr 127 4 (([x2]).map rRecord))), (3, (.arr 127 4 ((mb).map rRecord))), (1, (.box 127 [(cI x1.shop), (cI x1.auth), (cI x1.kind), (cI x1.sum)])), (0, (.arr 127 4 ((r1).map rRecord)))]) (Wanted.plain rfl) (g_append (m := 1) (N := ma.length + 1) (k2 := 5) (ys := ([x2]).map rRecord) sl114 rfl rfl rfl rfl rfl rfl (by first | omega | (simp; done) | (simp; omega)) rfl (.s rfl (by first | omega | (simp; done) | (simp; omega))) (by first | omega | (simp; done) | (simp; omega)) (by first | omega | (simp; done) | (simp; omega)) appmap (by decide) (by first | omega | (simp; done) | (simp; omega)) (by first | omega | (simp; done) | (simp; omega))) rfl rfl rfl rfl rfl ?_
                            refine AL.fast 1 rfl ?_
                            refine AL.nil ?_
                            refine then_ok ?_
                            refine AC.seq ?_
                            obtain ⟨x3, hx3⟩ := exget (xs := r1) (i := u) (by first | omega | (simp; done) | (simp; omega))
                            rcases Bool.eq_false_or_eq_true (decide (x3.shop = x1.shop)) with hb20 | hb20
                            ·
                              have hb20' := hb20; try simp only [sumB, Bool.not_eq_true', Bool.not_eq_false', Bool.or_eq_true, Bool.or_eq_false_iff, Bool.and_eq_true, Bool.and_eq_false_imp, decide_eq_true_eq, decide_eq_false_iff_not, Bool.not_not, Bool.not_true, Bool.not_false] at hb20'
                              refine AC.weak (st' := ⟨[(0, (aC (cR 4 ((l).map rRecord)))), (5, (aC (.s 0 0 4 r1.length))), (42, (aI (↑r1.length : Int))), (43, (aI (↑q : Int))), (91, (aC (cR 4 ((l).map rRecord)))), (92, (aI (↑l.length : Int))), (93, (aI (↑w1 : Int))), (8, (aC (.p 1 0 0 0))), (9, (aC (.s 5 0 4 (ma.length + 1)))), (10, (aC (.s 3 0 4 mb.length))), (98, (aI (↑l.length : Int))), (99, (aI (↑u : Int))), (11, (aI (↑u : Int)))], [(5, (.arr 127 4 ((ma ++ ([x2])).map rRecord))), (3, (.arr 127 4 ((mb).map rRecord))), (1, (.box 127 [(cI x1.shop), (cI x1.auth), (cI x1.kind), (cI x1.sum)])), (0, (.arr 127 4 ((r1).map rRecord)))], 6⟩) (Weak.ren id (by refine ⟨?_, ?_, ?_, ?_, ?_, ?_, ?_, ?_, ?_, ?_, ?_, ?_, ?_,  trivial⟩ <;> first | rfl | (simp only [AV.map, GV.map, CV.map, AB.map', id]; done) | (congr 3; omega) | (congr 4; omega) | (simp only [List.length_append, List.length_cons, List.length_nil, List.length_set]; rfl)) (by refine ⟨?_, ?_, ?_, ?_,  trivial⟩ <;> first | rfl | (simp only [AV.map, GV.map, CV.map, AB.map', id]; done) | (congr 3; omega) | (congr 4; omega) | (simp only [List.length_append, List.length_cons, List.length_nil, List.length_set]; rfl)) rfl) ?_
                              refine AC.draw [⟨some 127, (aC (.s 0 0 4 r1.length)), [], [], [], [(5, (aC (.s 0 0 4 r1.length)))], []⟩,
      ⟨some 128, (aI (↑u : Int)), [], [], [], [(11, (aI (↑u : Int)))], []⟩,
      ⟨some 129, (aC (.p 0 u 4 0)), [], [], [0, 1], [(127, (aC (.s 0 0 4 r1.length))), (128, (aI (↑u : Int)))], [(0, (.arr 127 4 ((r1).map rRecord)))]⟩,
      ⟨some 130, (aC (.p 0 u 4 0)), [], [], [2], [(129, (aC (.p 0 u 4 0)))], []⟩,
      ⟨some 131, (aI x3.shop), [], [], [3], [(130, (aC (.p 0 u 4 0)))], [(0, (.arr 127 4 ((r1).map rRecord)))]⟩,
      ⟨some 132, (aC (.p 1 0 0 0)), [], [], [], [(8, (aC (.p 1 0 0 0)))], []⟩,
      ⟨some 133, (aI x1.shop), [], [], [5], [(132, (aC (.p 1 0 0 0)))], [(1, (.box 127 [(cI x1.shop), (cI x1.auth), (cI x1.kind), (cI x1.sum)]))]⟩,
      ⟨some 134, (aB true), [], [], [4, 6], [(131, (aI x3.shop)), (133, (aI x1.shop))], []⟩,
      ⟨some 135, (aB true), [], [], [7], [(134, (aB true))], []⟩,
      ⟨some 136, (aC (.s 0 0 4 r1.length)), [], [], [8], [(5, (aC (.s 0 0 4 r1.length))), (135, (aB true))], []⟩,
      ⟨some 137, (aI (↑u : Int)), [], [], [8], [(11, (aI (↑u : Int))), (135, (aB true))], []⟩,
      ⟨some 138, (aC (.p 0 u 4 0)), [], [], [8, 9, 10], [(136, (aC (.s 0 0 4 r1.length))), (137, (aI (↑u : Int))), (135, (aB true))], [(0, (.arr 127 4 ((r1).map rRecord)))]⟩,
      ⟨some 139, (aC (.p 0 u 4 1)), [], [], [8, 11], [(138, (aC (.p 0 u 4 0))), (135, (aB true))], []⟩,
      ⟨some 140, (aI x3.auth), [], [], [8, 12], [(139, (aC (.p 0 u 4 1))), (135, (aB true))], [(0, (.arr 127 4 ((r1).map rRecord)))]⟩,
      ⟨some 141, (aC (.p 1 0 0 1)), [], [], [8], [(8, (aC (.p 1 0 0 0))), (135, (aB true))], []⟩,
      ⟨some 142, (aI x1.auth), [], [], [8, 14], [(141, (aC (.p 1 0 0 1))), (135, (aB true))], [(1, (.box 127 [(cI x1.shop), (cI x1.auth), (cI x1.kind), (cI x1.sum)]))]⟩,
      ⟨some 143, (aB (decide (x3.auth = x1.auth))), [], [], [8, 13, 15], [(140, (aI x3.auth)), (142, (aI x1.auth)), (135, (aB true))], []⟩,
      ⟨some 144, (aB (decide (x3.auth = x1.auth))), [], [], [8, 16], [(135, (aB true)), (143, (aB (decide (x3.auth = x1.auth))))], []⟩] ⟨[(0, (aC (cR 4 ((l).map rRecord)))), (5, (aC (.s 0 0 4 r1.length))), (42, (aI (↑r1.length : Int))), (43, (aI (↑q : Int))), (91, (aC (cR 4 ((l).map rRecord)))), (92, (aI (↑l.length : Int))), (93, (aI (↑w1 : Int))), (8, (aC (.p 1 0 0 0))), (9, (aC (.s 5 0 4 (ma.length + 1)))), (10, (aC (.s 3 0 4 mb.length))), (98, (aI (↑l.length : Int))), (99, (aI (↑u : Int))), (11, (aI (↑u : Int))), (144, (aB (decide (x3.auth = x1.auth))))], [(5, (.arr 127 4 ((ma ++ ([x2])).map rRecord))), (3, (.arr 127 4 ((mb).map rRecord))), (1, (.box 127 [(cI x1.shop), (cI x1.auth), (cI x1.kind), (cI x1.sum)])), (0, (.arr 127 4 ((r1).map rRecord)))], 6⟩ mixed (by kernel_rfl) ?_ ?_ ?_ ?_
                              · exact ⟨.inl ⟨(Wanted.plain rfl), GOp.cast (g_move rfl rfl) rfl⟩,
      .inl ⟨(Wanted.plain rfl), GOp.cast (g_move rfl rfl) rfl⟩,
      .inl ⟨(Wanted.plain rfl), GOp.cast (g_indexP0 (i := u) rfl rfl rfl Try.underlying114 sz127 (by first | omega | (simp; done) | (simp; omega)) (by first | omega | (simp; done) | (simp; omega))) rfl⟩,
      .inl ⟨(Wanted.plain rfl), GOp.cast (g_fieldP rfl rfl Try.underlying127 rfl sz3 (by decide)) rfl⟩,
      .inl ⟨(Wanted.plain rfl), GOp.cast (g_loadA rfl rfl rfl Try.underlying3 rfl (getmap hx3) rfl) rfl⟩,
      .inl ⟨(Wanted.plain rfl), GOp.cast (g_fieldP rfl rfl Try.underlying127 rfl sz3 (by decide)) rfl⟩,
      .inl ⟨(Wanted.plain rfl), GOp.cast (g_loadB rfl rfl rfl Try.underlying3 rfl rfl) rfl⟩,
      .inl ⟨(Wanted.plain rfl), GOp.cast (g_binI rfl rfl rfl (congrArg (fun b => some (Value.bool b)) hb20)) rfl⟩,
      .inl ⟨(Wanted.plain rfl), GOp.cast (g_move rfl rfl) rfl⟩,
      .inl ⟨(Wanted.yes rfl rfl rfl), GOp.cast (g_move rfl rfl) rfl⟩,
      .inl ⟨(Wanted.yes rfl rfl rfl), GOp.cast (g_move rfl rfl) rfl⟩,
      .inl ⟨(Wanted.yes rfl rfl rfl), GOp.cast (g_indexP0 (i := u) rfl rfl rfl Try.underlying114 sz127 (by first | omega | (simp; done) | (simp; omega)) (by first | omega | (simp; done) | (simp; omega))) rfl⟩,
      .inl ⟨(Wanted.yes rfl rfl rfl), GOp.cast (g_fieldP rfl rfl Try.underlying127 rfl sz3 (by decide)) rfl⟩,
      .inl ⟨(Wanted.yes rfl rfl rfl), GOp.cast (g_loadA rfl rfl rfl Try.underlying3 rfl (getmap hx3) rfl) rfl⟩,
      .inl ⟨(Wanted.yes rfl rfl rfl), GOp.cast (g_fieldP rfl rfl Try.underlying127 rfl sz3 (by decide)) rfl⟩,
      .inl ⟨(Wanted.yes rfl rfl rfl), GOp.cast (g_loadB rfl rfl rfl Try.underlying3 rfl rfl) rfl⟩,
      .inl ⟨(Wanted.yes rfl rfl rfl), GOp.cast (g_binI rfl rfl rfl rfl) rfl⟩,
      .inl ⟨(Wanted.plain rfl), GOp.cast (g_pick rfl rfl rfl) rfl⟩,
       trivial⟩
                              · exact ⟨⟨⟨.inl rfl,  trivial⟩, trivial⟩, ⟨⟨.inl rfl,  trivial⟩, trivial⟩, ⟨⟨.inr ⟨0, .head _, _, rfl, rfl, rfl⟩, .inr ⟨1, .tail _ (.head _), _, rfl, rfl, rfl⟩,  trivial⟩, ⟨.inl rfl,  trivial⟩⟩, ⟨⟨.inr ⟨2, .head _, _, rfl, rfl, rfl⟩,  trivial⟩, trivial⟩, ⟨⟨.inr ⟨3, .head _, _, rfl, rfl, rfl⟩,  trivial⟩, ⟨.inl rfl,  trivial⟩⟩, ⟨⟨.inl rfl,  trivial⟩, trivial⟩, ⟨⟨.inr ⟨5, .head _, _, rfl, rfl, rfl⟩,  trivial⟩, ⟨.inl rfl,  trivial⟩⟩, ⟨⟨.inr ⟨4, .head _, _, rfl, rfl, rfl⟩, .inr ⟨6, .tail _ (.head _), _, rfl, rfl, rfl⟩,  trivial⟩, trivial⟩, ⟨⟨.inr ⟨7, .head _, _, rfl, rfl, rfl⟩,  trivial⟩, trivial⟩, ⟨⟨.inl rfl, .inr ⟨8, .head _, _, rfl, rfl, rfl⟩,  trivial⟩, trivial⟩, ⟨⟨.inl rfl, .inr ⟨8, .head _, _, rfl, rfl, rfl⟩,  trivial⟩, trivial⟩, ⟨⟨.inr ⟨9, .tail _ (.head _), _, rfl, rfl, rfl⟩, .inr ⟨10, .tail _ (.tail _ (.head _)), _, rfl, rfl, rfl⟩, .inr ⟨8, .head _, _, rfl, rfl, rfl⟩,  trivial⟩, ⟨.inl rfl,  trivial⟩⟩, ⟨⟨.inr ⟨11, .tail _ (.head _), _, rfl, rfl, rfl⟩, .inr ⟨8, .head _, _, rfl, rfl, rfl⟩,  trivial⟩, trivial⟩, ⟨⟨.inr ⟨12, .tail _ (.head _), _, rfl, rfl, rfl⟩, .inr ⟨8, .head _, _, rfl, rfl, rfl⟩,  trivial⟩, ⟨.inl rfl,  trivial⟩⟩, ⟨⟨.inl rfl, .inr ⟨8, .head _, _, rfl, rfl, rfl⟩,  trivial⟩, trivial⟩, ⟨⟨.inr ⟨14, .tail _ (.head _), _, rfl, rfl, rfl⟩, .inr ⟨8, .head _, _, rfl, rfl, rfl⟩,  trivial⟩, ⟨.inl rfl,  trivial⟩⟩, ⟨⟨.inr ⟨13, .tail _ (.head _), _, rfl, rfl, rfl⟩, .inr ⟨15, .tail _ (.tail _ (.head _)), _, rfl, rfl, rfl⟩, .inr ⟨8, .head _, _, rfl, rfl, rfl⟩,  trivial⟩, trivial⟩, ⟨⟨.inr ⟨8, .head _, _, rfl, rfl, rfl⟩, .inr ⟨16, .tail _ (.head _), _, rfl, rfl, rfl⟩,  trivial⟩, trivial⟩,  trivial⟩
                              · exact ⟨⟨.inl rfl, .inl rfl, .inl rfl, .inl rfl, .inl rfl, .inl rfl, .inl rfl, .inl rfl, .inl rfl, .inl rfl, .inl rfl, .inl rfl, .inl rfl, .inr ⟨17, _, rfl, rfl, rfl⟩,  trivial⟩, ⟨.inl rfl, .inl rfl, .inl rfl, .inl rfl,  trivial⟩⟩
                              ·
                                refine AL.nil ?_
                                refine then_ok ?_
                                refine AC.cond rfl (fun hc21 => ?_) (fun hc21 => ?_)
                                ·
                                  have hc21' := hc21; try simp only [sumB, Bool.not_eq_true', Bool.not_eq_false', Bool.or_eq_true, Bool.or_eq_false_iff, Bool.and_eq_true, Bool.and_eq_false_imp, decide_eq_true_eq, decide_eq_false_iff_not, Bool.not_not, Bool.not_true, Bool.not_false] at hc21'
                                  refine AC.region ?_
                                  refine AL.fast 3 rfl ?_
                                  refine AL.val (Wanted.plain rfl) (g_indexP0 (i := u) rfl rfl rfl Try.underlying114 sz127 (by first | omega | (simp; done) | (simp; omega)) (by first | omega | (simp; done) | (simp; omega))) rfl rfl ?_
                                  refine AL.val (Wanted.plain rfl) (g_loadAs rfl rfl rfl Try.underlying127 rfl sz127 (getmap hx3) rfl) rfl rfl ?_
                                  refine AL.new (n' := 7) (Wanted.plain rfl) (g_lit (ys := [(0, (.g [(cI x3.shop), (cI x3.auth), (cI x3.kind), (cI x3.sum)]))]) (rows := ([x3]).map rRecord) 6 sl114 rfl (by decide) ⟨⟨rfl, rfl⟩,  trivial⟩ rfl rfl rfl rfl) rfl rfl rfl ?_
                                  refine AL.eat (n' := 8) (h' := [(7, (.arr 127 4 ((mb ++ ([x3])).map rRecord))), (6, (.arr 127 4 (([x3]).map rRecord))), (5, (.arr 127 4 ((ma ++ ([x2])).map rRecord))), (1, (.box 127 [(cI x1.shop), (cI x1.auth), (cI x1.kind), (cI x1.sum)])), (0, (.arr 127 4 ((r1).map rRecord)))]) (Wanted.plain rfl) (g_append (m := 1) (N := mb.length + 1) (k2 := 7) (ys := ([x3]).map rRecord) sl114 rfl rfl rfl rfl rfl rfl (by first | omega | (simp; done) | (simp; omega)) rfl (.s rfl (by first | omega | (simp; done) | (simp; omega))) (by first | omega | (simp; done) | (simp; omega)) (by first | omega | (simp; done) | (simp; omega)) appmap (by decide) (by first | omega | (simp; done) | (simp; omega)) (by first | omega | (simp; done) | (simp; omega))) rfl rfl rfl rfl rfl ?_
                                  refine AL.fast 1 rfl ?_
                                  refine AL.nil ?_
                                  refine block_ok ?_
                                  refine then_ok ?_
                                  refine AC.region ?_
                                  refine AL.val (Wanted.plain rfl) (g_binI rfl rfl rfl (wrap_ok (by first | omega | (simp; done) | (simp; omega)))) rfl rfl ?_
                                  refine AL.fast 1 rfl ?_
                                  refine AL.nil ?_
                                  refine then_ok ?_
                                  refine ⟨(u + 1, ma ++ ([x2]), mb ++ ([x3])), ⟨by omega, by rw [fil_take hx2, ← hi2_1]; first | rw [if_pos (by rw [sameK_t]; omega)] | rw [if_neg (by rw [sameK_t]; omega)], by rw [fil_take hx3, ← hi2_2]; first | rw [if_pos (by rw [sameK_t]; omega)] | rw [if_neg (by rw [sameK_t]; omega)]⟩, by first | omega | (simp; done) | (simp; omega), Weak.ren (fun k => if k = 3 then 7 else if k = 2 then 5 else k) (by refine ⟨?_, ?_, ?_, ?_, ?_, ?_, ?_, ?_, ?_, ?_, ?_, ?_,  trivial⟩ <;> first | rfl | (simp only [AV.map, GV.map, CV.map, AB.map', id]; done) | (congr 3; omega) | (congr 4; omega) | (simp only [List.length_append, List.length_cons, List.length_nil, List.length_set]; rfl) | (first | exact look_i rfl (by omega) | exact look_s rfl (by simp only [List.length_append, List.length_take, List.length_drop, List.length_cons, List.length_nil]; omega))) (by refine ⟨?_, ?_, ?_, ?_,  trivial⟩ <;> first | rfl | (simp only [AV.map, GV.map, CV.map, AB.map', id]; done) | (congr 3; omega) | (congr 4; omega) | (simp only [List.length_append, List.length_cons, List.length_nil, List.length_set]; rfl)) rfl⟩
                                ·
                                  have hc21' := hc21; try simp only [sumB, Bool.not_eq_true', Bool.not_eq_false', Bool.or_eq_true, Bool.or_eq_false_iff, Bool.and_eq_true, Bool.and_eq_false_imp, decide_eq_true_eq, decide_eq_false_iff_not, Bool.not_not, Bool.not_true, Bool.not_false] at hc21'
                                  refine AC.skip ?_
                                  refine block_ok ?_
                                  refine then_ok ?_
                                  refine AC.region ?_
                                  refine AL.val (Wanted.plain rfl) (g_binI rfl rfl rfl (wrap_ok (by first | omega | (simp; done) | (simp; omega)))) rfl rfl ?_
                                  refine AL.fast 1 rfl ?_
                                  refine AL.nil ?_
                                  refine then_ok ?_
                                  refine ⟨(u + 1, ma ++ ([x2]), mb), ⟨by omega, by rw [fil_take hx2, ← hi2_1]; first | rw [if_pos (by rw [sameK_t]; omega)] | rw [if_neg (by rw [sameK_t]; omega)], by rw [fil_take hx3, ← hi2_2]; first | rw [if_pos (by rw [sameK_t]; omega)] | rw [if_neg (by rw [sameK_t]; omega)]⟩, by first | omega | (simp; done) | (simp; omega), Weak.ren (fun k => if k = 2 then 5 else k) (by refine ⟨?_, ?_, ?_, ?_, ?_, ?_, ?_, ?_, ?_, ?_, ?_, ?_,  trivial⟩ <;> first | rfl | (simp only [AV.map, GV.map, CV.map, AB.map', id]; done) | (congr 3; omega) | (congr 4; omega) | (simp only [List.length_append, List.length_cons, List.length_nil, List.length_set]; rfl) | (first | exact look_i rfl (by omega) | exact look_s rfl (by simp only [List.length_append, List.length_take, List.length_drop, List.length_cons, List.length_nil]; omega))) (by refine ⟨?_, ?_, ?_, ?_,  trivial⟩ <;> first | rfl | (simp only [AV.map, GV.map, CV.map, AB.map', id]; done) | (congr 3; omega) | (congr 4; omega) | (simp only [List.length_append, List.length_cons, List.length_nil, List.length_set]; rfl)) rfl⟩
                            ·
                              have hb20' := hb20; try simp only [sumB, Bool.not_eq_true', Bool.not_eq_false', Bool.or_eq_true, Bool.or_eq_false_iff, Bool.and_eq_true, Bool.and_eq_false_imp, decide_eq_true_eq, decide_eq_false_iff_not, Bool.not_not, Bool.not_true, Bool.not_false] at hb20'
                              refine AC.weak (st' := ⟨[(0, (aC (cR 4 ((l).map rRecord)))), (5, (aC (.s 0 0 4 r1.length))), (42, (aI (↑r1.length : Int))), (43, (aI (↑q : Int))), (91, (aC (cR 4 ((l).map rRecord)))), (92, (aI (↑l.length : Int))), (93, (aI (↑w1 : Int))), (8, (aC (.p 1 0 0 0))), (9, (aC (.s 5 0 4 (ma.length + 1)))), (10, (aC (.s 3 0 4 mb.length))), (98, (aI (↑l.length : Int))), (99, (aI (↑u : Int))), (11, (aI (↑u : Int)))], [(5, (.arr 127 4 ((ma ++ ([x2])).map rRecord))), (3, (.arr 127 4 ((mb).map rRecord))), (1, (.box 127 [(cI x1.shop), (cI x1.auth), (cI x1.kind), (cI x1.sum)])), (0, (.arr 127 4 ((r1).map rRecord)))], 6⟩) (Weak.ren id (by refine ⟨?_, ?_, ?_, ?_, ?_, ?_, ?_, ?_, ?_, ?_, ?_, ?_, ?_,  trivial⟩ <;> first | rfl | (simp only [AV.map, GV.map, CV.map, AB.map', id]; done) | (congr 3; omega) | (congr 4; omega) | (simp only [List.length_append, List.length_cons, List.length_nil, List.length_set]; rfl)) (by refine ⟨?_, ?_, ?_, ?_,  trivial⟩ <;> first | rfl | (simp only [AV.map, GV.map, CV.map, AB.map', id]; done) | (congr 3; omega) | (congr 4; omega) | (simp only [List.length_append, List.length_cons, List.length_nil, List.length_set]; rfl)) rfl) ?_
                              refine AC.draw [⟨some 127, (aC (.s 0 0 4 r1.length)), [], [], [], [(5, (aC (.s 0 0 4 r1.length)))], []⟩,
      ⟨some 128, (aI (↑u : Int)), [], [], [], [(11, (aI (↑u : Int)))], []⟩,
      ⟨some 129, (aC (.p 0 u 4 0)), [], [], [0, 1], [(127, (aC (.s 0 0 4 r1.length))), (128, (aI (↑u : Int)))], [(0, (.arr 127 4 ((r1).map rRecord)))]⟩,
      ⟨some 130, (aC (.p 0 u 4 0)), [], [], [2], [(129, (aC (.p 0 u 4 0)))], []⟩,
      ⟨some 131, (aI x3.shop), [], [], [3], [(130, (aC (.p 0 u 4 0)))], [(0, (.arr 127 4 ((r1).map rRecord)))]⟩,
      ⟨some 132, (aC (.p 1 0 0 0)), [], [], [], [(8, (aC (.p 1 0 0 0)))], []⟩,
      ⟨some 133, (aI x1.shop), [], [], [5], [(132, (aC (.p 1 0 0 0)))], [(1, (.box 127 [(cI x1.shop), (cI x1.auth), (cI x1.kind), (cI x1.sum)]))]⟩,
      ⟨some 134, (aB false), [], [], [4, 6], [(131, (aI x3.shop)), (133, (aI x1.shop))], []⟩,
      ⟨some 135, (aB false), [], [], [7], [(134, (aB false))], []⟩,
      ⟨some 136, (.t []), [], [], [8], [(5, (aC (.s 0 0 4 r1.length))), (135, (aB false))], []⟩,
      ⟨some 137, (.t []), [], [], [8], [(11, (aI (↑u : Int))), (135, (aB false))], []⟩,
      ⟨some 138, (.t []), [], [], [8, 9, 10], [(136, (.t [])), (137, (.t [])), (135, (aB false))], []⟩,
      ⟨some 139, (.t []), [], [], [8, 11], [(138, (.t [])), (135, (aB false))], []⟩,
      ⟨some 140, (.t []), [], [], [8, 12], [(139, (.t [])), (135, (aB false))], []⟩,
      ⟨some 141, (.t []), [], [], [8], [(8, (aC (.p 1 0 0 0))), (135, (aB false))], []⟩,
      ⟨some 142, (.t []), [], [], [8, 14], [(141, (.t [])), (135, (aB false))], []⟩,
      ⟨some 143, (.t []), [], [], [8, 13, 15], [(140, (.t [])), (142, (.t [])), (135, (aB false))], []⟩,
      ⟨some 144, (aB false), [], [], [8, 16], [(135, (aB false)), (143, (.t []))], []⟩] ⟨[(0, (aC (cR 4 ((l).map rRecord)))), (5, (aC (.s 0 0 4 r1.length))), (42, (aI (↑r1.length : Int))), (43, (aI (↑q : Int))), (91, (aC (cR 4 ((l).map rRecord)))), (92, (aI (↑l.length : Int))), (93, (aI (↑w1 : Int))), (8, (aC (.p 1 0 0 0))), (9, (aC (.s 5 0 4 (ma.length + 1)))), (10, (aC (.s 3 0 4 mb.length))), (98, (aI (↑l.length : Int))), (99, (aI (↑u : Int))), (11, (aI (↑u : Int))), (144, (aB false))], [(5, (.arr 127 4 ((ma ++ ([x2])).map rRecord))), (3, (.arr 127 4 ((mb).map rRecord))), (1, (.box 127 [(cI x1.shop), (cI x1.auth), (cI x1.kind), (cI x1.sum)])), (0, (.arr 127 4 ((r1).map rRecord)))], 6⟩ mixed (by kernel_rfl) ?_ ?_ ?_ ?_
                              · exact ⟨.inl ⟨(Wanted.plain rfl), GOp.cast (g_move rfl rfl) rfl⟩,
      .inl ⟨(Wanted.plain rfl), GOp.cast (g_move rfl rfl) rfl⟩,
      .inl ⟨(Wanted.plain rfl), GOp.cast (g_indexP0 (i := u) rfl rfl rfl Try.underlying114 sz127 (by first | omega | (simp; done) | (simp; omega)) (by first | omega | (simp; done) | (simp; omega))) rfl⟩,
      .inl ⟨(Wanted.plain rfl), GOp.cast (g_fieldP rfl rfl Try.underlying127 rfl sz3 (by decide)) rfl⟩,
      .inl ⟨(Wanted.plain rfl), GOp.cast (g_loadA rfl rfl rfl Try.underlying3 rfl (getmap hx3) rfl) rfl⟩,
      .inl ⟨(Wanted.plain rfl), GOp.cast (g_fieldP rfl rfl Try.underlying127 rfl sz3 (by decide)) rfl⟩,
      .inl ⟨(Wanted.plain rfl), GOp.cast (g_loadB rfl rfl rfl Try.underlying3 rfl rfl) rfl⟩,
      .inl ⟨(Wanted.plain rfl), GOp.cast (g_binI rfl rfl rfl (congrArg (fun b => some (Value.bool b)) hb20)) rfl⟩,
      .inl ⟨(Wanted.plain rfl), GOp.cast (g_move rfl rfl) rfl⟩,
      .inr ⟨(Unwanted.no rfl rfl rfl), rfl, rfl, rfl⟩,
      .inr ⟨(Unwanted.no rfl rfl rfl), rfl, rfl, rfl⟩,
      .inr ⟨(Unwanted.no rfl rfl rfl), rfl, rfl, rfl⟩,
      .inr ⟨(Unwanted.no rfl rfl rfl), rfl, rfl, rfl⟩,
      .inr ⟨(Unwanted.no rfl rfl rfl), rfl, rfl, rfl⟩,
      .inr ⟨(Unwanted.no rfl rfl rfl), rfl, rfl, rfl⟩,
      .inr ⟨(Unwanted.no rfl rfl rfl), rfl, rfl, rfl⟩,
      .inr ⟨(Unwanted.no rfl rfl rfl), rfl, rfl, rfl⟩,
      .inl ⟨(Wanted.plain rfl), GOp.cast (g_pick rfl rfl rfl) rfl⟩,
       trivial⟩
                              · exact ⟨⟨⟨.inl rfl,  trivial⟩, trivial⟩, ⟨⟨.inl rfl,  trivial⟩, trivial⟩, ⟨⟨.inr ⟨0, .head _, _, rfl, rfl, rfl⟩, .inr ⟨1, .tail _ (.head _), _, rfl, rfl, rfl⟩,  trivial⟩, ⟨.inl rfl,  trivial⟩⟩, ⟨⟨.inr ⟨2, .head _, _, rfl, rfl, rfl⟩,  trivial⟩, trivial⟩, ⟨⟨.inr ⟨3, .head _, _, rfl, rfl, rfl⟩,  trivial⟩, ⟨.inl rfl,  trivial⟩⟩, ⟨⟨.inl rfl,  trivial⟩, trivial⟩, ⟨⟨.inr ⟨5, .head _, _, rfl, rfl, rfl⟩,  trivial⟩, ⟨.inl rfl,  trivial⟩⟩, ⟨⟨.inr ⟨4, .head _, _, rfl, rfl, rfl⟩, .inr ⟨6, .tail _ (.head _), _, rfl, rfl, rfl⟩,  trivial⟩, trivial⟩, ⟨⟨.inr ⟨7, .head _, _, rfl, rfl, rfl⟩,  trivial⟩, trivial⟩, ⟨⟨.inl rfl, .inr ⟨8, .head _, _, rfl, rfl, rfl⟩,  trivial⟩, trivial⟩, ⟨⟨.inl rfl, .inr ⟨8, .head _, _, rfl, rfl, rfl⟩,  trivial⟩, trivial⟩, ⟨⟨.inr ⟨9, .tail _ (.head _), _, rfl, rfl, rfl⟩, .inr ⟨10, .tail _ (.tail _ (.head _)), _, rfl, rfl, rfl⟩, .inr ⟨8, .head _, _, rfl, rfl, rfl⟩,  trivial⟩, trivial⟩, ⟨⟨.inr ⟨11, .tail _ (.head _), _, rfl, rfl, rfl⟩, .inr ⟨8, .head _, _, rfl, rfl, rfl⟩,  trivial⟩, trivial⟩, ⟨⟨.inr ⟨12, .tail _ (.head _), _, rfl, rfl, rfl⟩, .inr ⟨8, .head _, _, rfl, rfl, rfl⟩,  trivial⟩, trivial⟩, ⟨⟨.inl rfl, .inr ⟨8, .head _, _, rfl, rfl, rfl⟩,  trivial⟩, trivial⟩, ⟨⟨.inr ⟨14, .tail _ (.head _), _, rfl, rfl, rfl⟩, .inr ⟨8, .head _, _, rfl, rfl, rfl⟩,  trivial⟩, trivial⟩, ⟨⟨.inr ⟨13, .tail _ (.head _), _, rfl, rfl, rfl⟩, .inr ⟨15, .tail _ (.tail _ (.head _)), _, rfl, rfl, rfl⟩, .inr ⟨8, .head _, _, rfl, rfl, rfl⟩,  trivial⟩, trivial⟩, ⟨⟨.inr ⟨8, .head _, _, rfl, rfl, rfl⟩, .inr ⟨16, .tail _ (.head _), _, rfl, rfl, rfl⟩,  trivial⟩, trivial⟩,  trivial⟩
                              · exact ⟨⟨.inl rfl, .inl rfl, .inl rfl, .inl rfl, .inl rfl, .inl rfl, .inl rfl, .inl rfl, .inl rfl, .inl rfl, .inl rfl, .inl rfl, .inl rfl, .inr ⟨17, _, rfl, rfl, rfl⟩,  trivial⟩, ⟨.inl rfl, .inl rfl, .inl rfl, .inl rfl,  trivial⟩⟩
                              ·
                                refine AL.nil ?_
                                refine then_ok ?_
                                refine AC.cond rfl (fun hno => by cases hno) (fun _ => ?_)
                                refine AC.skip ?_
                                refine block_ok ?_
                                refine then_ok ?_
                                refine AC.region ?_
                                refine AL.val (Wanted.plain rfl) (g_binI rfl rfl rfl (wrap_ok (by first | omega | (simp; done) | (simp; omega)))) rfl rfl ?_
                                refine AL.fast 1 rfl ?_
                                refine AL.nil ?_
                                refine then_ok ?_
                                refine ⟨(u + 1, ma ++ ([x2]), mb), ⟨by omega, by rw [fil_take hx2, ← hi2_1]; first | rw [if_pos (by rw [sameK_t]; omega)] | rw [if_neg (by rw [sameK_t]; omega)], by rw [fil_take hx3, ← hi2_2]; first | rw [if_pos (by rw [sameK_t]; omega)] | rw [if_neg (by rw [sameK_t]; omega)]⟩, by first | omega | (simp; done) | (simp; omega), Weak.ren (fun k => if k = 2 then 5 else k) (by refine ⟨?_, ?_, ?_, ?_, ?_, ?_, ?_, ?_, ?_, ?_, ?_, ?_,  trivial⟩ <;> first | rfl | (simp only [AV.map, GV.map, CV.map, AB.map', id]; done) | (congr 3; omega) | (congr 4; omega) | (simp only [List.length_append, List.length_cons, List.length_nil, List.length_set]; rfl) | (first | exact look_i rfl (by omega) | exact look_s rfl (by simp only [List.length_append, List.length_take, List.length_drop, List.length_cons, List.length_nil]; omega))) (by refine ⟨?_, ?_, ?_, ?_,  trivial⟩ <;> first | rfl | (simp only [AV.map, GV.map, CV.map, AB.map', id]; done) | (congr 3; omega) | (congr 4; omega) | (simp only [List.length_append, List.length_cons, List.length_nil, List.length_set]; rfl)) rfl⟩
                          ·
                            have hc19' := hc19; try simp only [sumB, Bool.not_eq_true', Bool.not_eq_false', Bool.or_eq_true, Bool.or_eq_false_iff, Bool.and_eq_true, Bool.and_eq_false_imp, decide_eq_true_eq, decide_eq_false_iff_not, Bool.not_not, Bool.not_true, Bool.not_false] at hc19'
                            refine AC.skip ?_
                            refine then_ok ?_
                            refine AC.seq ?_
                            obtain ⟨x3, hx3⟩ := exget (xs := r1) (i := u) (by first | omega | (simp; done) | (simp; omega))
                            rcases Bool.eq_false_or_eq_true (decide (x3.shop = x1.shop)) with hb23 | hb23
                            ·
                              have hb23' := hb23; try simp only [sumB, Bool.not_eq_true', Bool.not_eq_false', Bool.or_eq_true, Bool.or_eq_false_iff, Bool.and_eq_true, Bool.and_eq_false_imp, decide_eq_true_eq, decide_eq_false_iff_not, Bool.not_not, Bool.not_true, Bool.not_false] at hb23'
                              refine AC.weak (st' := ⟨[(0, (aC (cR 4 ((l).map rRecord)))), (5, (aC (.s 0 0 4 r1.length))), (42, (aI (↑r1.length : Int))), (43, (aI (↑q : Int))), (91, (aC (cR 4 ((l).map rRecord)))), (92, (aI (↑l.length : Int))), (93, (aI (↑w1 : Int))), (8, (aC (.p 1 0 0 0))), (9, (aC (.s 2 0 4 ma.length))), (10, (aC (.s 3 0 4 mb.length))), (98, (aI (↑l.length : Int))), (99, (aI (↑u : Int))), (11, (aI (↑u : Int)))], [(3, (.arr 127 4 ((mb).map rRecord))), (2, (.arr 127 4 ((ma).map rRecord))), (1, (.box 127 [(cI x1.shop), (cI x1.auth), (cI x1.kind), (cI x1.sum)])), (0, (.arr 127 4 ((r1).map rRecord)))], 4⟩) (Weak.ren id (by refine ⟨?_, ?_, ?_, ?_, ?_, ?_, ?_, ?_, ?_, ?_, ?_, ?_, ?_,  trivial⟩ <;> first | rfl | (simp only [AV.map, GV.map, CV.map, AB.map', id]; done) | (congr 3; omega) | (congr 4; omega) | (simp only [List.length_append, List.length_cons, List.length_nil, List.length_set]; rfl)) (by refine ⟨?_, ?_, ?_, ?_,  trivial⟩ <;> first | rfl | (simp only [AV.map, GV.map, CV.map, AB.map', id]; done) | (congr 3; omega) | (congr 4; omega) | (simp only [List.length_append, List.length_cons, List.length_nil, List.length_set]; rfl)) rfl) ?_
                              refine AC.draw [⟨some 127, (aC (.s 0 0 4 r1.length)), [], [], [], [(5, (aC (.s 0 0 4 r1.length)))], []⟩,
      ⟨some 128, (aI (↑u : Int)), [], [], [], [(11, (aI (↑u : Int)))], []⟩,
      ⟨some 129, (aC (.p 0 u 4 0)), [], [], [0, 1], [(127, (aC (.s 0 0 4 r1.length))), (128, (aI (↑u : Int)))], [(0, (.arr 127 4 ((r1).map rRecord)))]⟩,
      ⟨some 130, (aC (.p 0 u 4 0)), [], [], [2], [(129, (aC (.p 0 u 4 0)))], []⟩,
      ⟨some 131, (aI x3.shop), [], [], [3], [(130, (aC (.p 0 u 4 0)))], [(0, (.arr 127 4 ((r1).map rRecord)))]⟩,
      ⟨some 132, (aC (.p 1 0 0 0)), [], [], [], [(8, (aC (.p 1 0 0 0)))], []⟩,
      ⟨some 133, (aI x1.shop), [], [], [5], [(132, (aC (.p 1 0 0 0)))], [(1, (.box 127 [(cI x1.shop), (cI x1.auth), (cI x1.kind), (cI x1.sum)]))]⟩,
      ⟨some 134, (aB true), [], [], [4, 6], [(131, (aI x3.shop)), (133, (aI x1.shop))], []⟩,
      ⟨some 135, (aB true), [], [], [7], [(134, (aB true))], []⟩,
      ⟨some 136, (aC (.s 0 0 4 r1.length)), [], [], [8], [(5, (aC (.s 0 0 4 r1.length))), (135, (aB true))], []⟩,
      ⟨some 137, (aI (↑u : Int)), [], [], [8], [(11, (aI (↑u : Int))), (135, (aB true))], []⟩,
      ⟨some 138, (aC (.p 0 u 4 0)), [], [], [8, 9, 10], [(136, (aC (.s 0 0 4 r1.length))), (137, (aI (↑u : Int))), (135, (aB true))], [(0, (.arr 127 4 ((r1).map rRecord)))]⟩,
      ⟨some 139, (aC (.p 0 u 4 1)), [], [], [8, 11], [(138, (aC (.p 0 u 4 0))), (135, (aB true))], []⟩,
      ⟨some 140, (aI x3.auth), [], [], [8, 12], [(139, (aC (.p 0 u 4 1))), (135, (aB true))], [(0, (.arr 127 4 ((r1).map rRecord)))]⟩,
      ⟨some 141, (aC (.p 1 0 0 1)), [], [], [8], [(8, (aC (.p 1 0 0 0))), (135, (aB true))], []⟩,
      ⟨some 142, (aI x1.auth), [], [], [8, 14], [(141, (aC (.p 1 0 0 1))), (135, (aB true))], [(1, (.box 127 [(cI x1.shop), (cI x1.auth), (cI x1.kind), (cI x1.sum)]))]⟩,
      ⟨some 143, (aB (decide (x3.auth = x1.auth))), [], [], [8, 13, 15], [(140, (aI x3.auth)), (142, (aI x1.auth)), (135, (aB true))], []⟩,
      ⟨some 144, (aB (decide (x3.auth = x1.auth))), [], [], [8, 16], [(135, (aB true)), (143, (aB (decide (x3.auth = x1.auth))))], []⟩] ⟨[(0, (aC (cR 4 ((l).map rRecord)))), (5, (aC (.s 0 0 4 r1.length))), (42, (aI (↑r1.length : Int))), (43, (aI (↑q : Int))), (91, (aC (cR 4 ((l).map rRecord)))), (92, (aI (↑l.length : Int))), (93, (aI (↑w1 : Int))), (8, (aC (.p 1 0 0 0))), (9, (aC (.s 2 0 4 ma.length))), (10, (aC (.s 3 0 4 mb.length))), (98, (aI (↑l.length : Int))), (99, (aI (↑u : Int))), (11, (aI (↑u : Int))), (144, (aB (decide (x3.auth = x1.auth))))], [(3, (.arr 127 4 ((mb).map rRecord))), (2, (.arr 127 4 ((ma).map rRecord))), (1, (.box 127 [(cI x1.shop), (cI x1.auth), (cI x1.kind), (cI x1.sum)])), (0, (.arr 127 4 ((r1).map rRecord)))], 4⟩ mixed (by kernel_rfl) ?_ ?_ ?_ ?_
                              · exact ⟨.inl ⟨(Wanted.plain rfl), GOp.cast (g_move rfl rfl) rfl⟩,
      .inl ⟨(Wanted.plain rfl), GOp.cast (g_move rfl rfl) rfl⟩,
      .inl ⟨(Wanted.plain rfl), GOp.cast (g_indexP0 (i := u) rfl rfl rfl Try.underlying114 sz127 (by first | omega | (simp; done) | (simp; omega)) (by first | omega | (simp; done) | (simp; omega))) rfl⟩,
      .inl ⟨(Wanted.plain rfl), GOp.cast (g_fieldP rfl rfl Try.underlying127 rfl sz3 (by decide)) rfl⟩,
      .inl ⟨(Wanted.plain rfl), GOp.cast (g_loadA rfl rfl rfl Try.underlying3 rfl (getmap hx3) rfl) rfl⟩,
      .inl ⟨(Wanted.plain rfl), GOp.cast (g_fieldP rfl rfl Try.underlying127 rfl sz3 (by decide)) rfl⟩,
      .inl ⟨(Wanted.plain rfl), GOp.cast (g_loadB rfl rfl rfl Try.underlying3 rfl rfl) rfl⟩,
      .inl ⟨(Wanted.plain rfl), GOp.cast (g_binI rfl rfl rfl (congrArg (fun b => some (Value.bool b)) hb23)) rfl⟩,
      .inl ⟨(Wanted.plain rfl), GOp.cast (g_move rfl rfl) rfl⟩,
      .inl ⟨(Wanted.yes rfl rfl rfl), GOp.cast (g_move rfl rfl) rfl⟩,
      .inl ⟨(Wanted.yes rfl rfl rfl), GOp.cast (g_move rfl rfl) rfl⟩,
      .inl ⟨(Wanted.yes rfl rfl rfl), GOp.cast (g_indexP0 (i := u) rfl rfl rfl Try.underlying114 sz127 (by first | omega | (simp; done) | (simp; omega)) (by first | omega | (simp; done) | (simp; omega))) rfl⟩,
      .inl ⟨(Wanted.yes rfl rfl rfl), GOp.cast (g_fieldP rfl rfl Try.underlying127 rfl sz3 (by decide)) rfl⟩,
      .inl ⟨(Wanted.yes rfl rfl rfl), GOp.cast (g_loadA rfl rfl rfl Try.underlying3 rfl (getmap hx3) rfl) rfl⟩,
      .inl ⟨(Wanted.yes rfl rfl rfl), GOp.cast (g_fieldP rfl rfl Try.underlying127 rfl sz3 (by decide)) rfl⟩,
      .inl ⟨(Wanted.yes rfl rfl rfl), GOp.cast (g_loadB rfl rfl rfl Try.underlying3 rfl rfl) rfl⟩,
      .inl ⟨(Wanted.yes rfl rfl rfl), GOp.cast (g_binI rfl rfl rfl rfl) rfl⟩,
      .inl ⟨(Wanted.plain rfl), GOp.cast (g_pick rfl rfl rfl) rfl⟩,
       trivial⟩
                              · exact ⟨⟨⟨.inl rfl,  trivial⟩, trivial⟩, ⟨⟨.inl rfl,  trivial⟩, trivial⟩, ⟨⟨.inr ⟨0, .head _, _, rfl, rfl, rfl⟩, .inr ⟨1, .tail _ (.head _), _, rfl, rfl, rfl⟩,  trivial⟩, ⟨.inl rfl,  trivial⟩⟩, ⟨⟨.inr ⟨2, .head _, _, rfl, rfl, rfl⟩,  trivial⟩, trivial⟩, ⟨⟨.inr ⟨3, .head _, _, rfl, rfl, rfl⟩,  trivial⟩, ⟨.inl rfl,  trivial⟩⟩, ⟨⟨.inl rfl,  trivial⟩, trivial⟩, ⟨⟨.inr ⟨5, .head _, _, rfl, rfl, rfl⟩,  trivial⟩, ⟨.inl rfl,  trivial⟩⟩, ⟨⟨.inr ⟨4, .head _, _, rfl, rfl, rfl⟩, .inr ⟨6, .tail _ (.head _), _, rfl, rfl, rfl⟩,  trivial⟩, trivial⟩, ⟨⟨.inr ⟨7, .head _, _, rfl, rfl, rfl⟩,  trivial⟩, trivial⟩, ⟨⟨.inl rfl, .inr ⟨8, .head _, _, rfl, rfl, rfl⟩,  trivial⟩, trivial⟩, ⟨⟨.inl rfl, .inr ⟨8, .head _, _, rfl, rfl, rfl⟩,  trivial⟩, trivial⟩, ⟨⟨.inr ⟨9, .tail _ (.head _), _, rfl, rfl, rfl⟩, .inr ⟨10, .tail _ (.tail _ (.head _)), _, rfl, rfl, rfl⟩, .inr ⟨8, .head _, _, rfl, rfl, rfl⟩,  trivial⟩, ⟨.inl rfl,  trivial⟩⟩, ⟨⟨.inr ⟨11, .tail _ (.head _), _, rfl, rfl, rfl⟩, .inr ⟨8, .head _, _, rfl, rfl, rfl⟩,  trivial⟩, trivial⟩, ⟨⟨.inr ⟨12, .tail _ (.head _), _, rfl, rfl, rfl⟩, .inr ⟨8, .head _, _, rfl, rfl, rfl⟩,  trivial⟩, ⟨.inl rfl,  trivial⟩⟩, ⟨⟨.inl rfl, .inr ⟨8, .head _, _, rfl, rfl, rfl⟩,  trivial⟩, trivial⟩, ⟨⟨.inr ⟨14, .tail _ (.head _), _, rfl, rfl, rfl⟩, .inr ⟨8, .head _, _, rfl, rfl, rfl⟩,  trivial⟩, ⟨.inl rfl,  trivial⟩⟩, ⟨⟨.inr ⟨13, .tail _ (.head _), _, rfl, rfl, rfl⟩, .inr ⟨15, .tail _ (.tail _ (.head _)), _, rfl, rfl, rfl⟩, .inr ⟨8, .head _, _, rfl, rfl, rfl⟩,  trivial⟩, trivial⟩, ⟨⟨.inr ⟨8, .head _, _, rfl, rfl, rfl⟩, .inr ⟨16, .tail _ (.head _), _, rfl, rfl, rfl⟩,  trivial⟩, trivial⟩,  trivial⟩
                              · exact ⟨⟨.inl rfl, .inl rfl, .inl rfl, .inl rfl, .inl rfl, .inl rfl, .inl rfl, .inl rfl, .inl rfl, .inl rfl, .inl rfl, .inl rfl, .inl rfl, .inr ⟨17, _, rfl, rfl, rfl⟩,  trivial⟩, ⟨.inl rfl, .inl rfl, .inl rfl, .inl rfl,  trivial⟩⟩
                              ·
                                refine AL.nil ?_
                                refine then_ok ?_
                                refine AC.cond rfl (fun hc24 => ?_) (fun hc24 => ?_)
                                ·
                                  have hc24' := hc24; try simp only [sumB, Bool.not_eq_true', Bool.not_eq_false', Bool.or_eq_true, Bool.or_eq_false_iff, Bool.and_eq_true, Bool.and_eq_false_imp, decide_eq_true_eq, decide_eq_false_iff_not, Bool.not_not, Bool.not_true, Bool.not_false] at hc24'
                                  refine AC.region ?_
                                  refine AL.fast 3 rfl ?_
                                  refine AL.val (Wanted.plain rfl) (g_indexP0 (i := u) rfl rfl rfl Try.underlying114 sz127 (by first | omega | (simp; done) | (simp; omega)) (by first | omega | (simp; done) | (simp; omega))) rfl rfl ?_
                                  refine AL.val (Wanted.plain rfl) (g_loadAs rfl rfl rfl Try.underlying127 rfl sz127 (getmap hx3) rfl) rfl rfl ?_
                                  refine AL.new (n' := 5) (Wanted.plain rfl) (g_lit (ys := [(0, (.g [(cI x3.shop), (cI x3.auth), (cI x3.kind), (cI x3.sum)]))]) (rows := ([x3]).map rRecord) 4 sl114 rfl (by decide) ⟨⟨rfl, rfl⟩,  trivial⟩ rfl rfl rfl rfl) rfl rfl rfl ?_
                                  refine AL.eat (n' := 6) (h' := [(5, (.arr 127 4 ((mb ++ ([x3])).map rRecord))), (4, (.arr 127 4 (([x3]).map rRecord))), (2, (.arr 127 4 ((ma).map rRecord))), (1, (.box 127 [(cI x1.shop), (cI x1.auth), (cI x1.kind), (cI x1.sum)])), (0, (.arr 127 4 ((r1).map rRecord)))]) (Wanted.plain rfl) (g_append (m := 1) (N := mb.length + 1) (k2 := 5) (ys := ([x3]).map rRecord) sl114 rfl rfl rfl rfl rfl rfl (by first | omega | (simp; done) | (simp; omega)) rfl (.s rfl (by first | omega | (simp; done) | (simp; omega))) (by first | omega | (simp; done) | (simp; omega)) (by first | omega | (simp; done) | (simp; omega)) appmap (by decide) (by first | omega | (simp; done) | (simp; omega)) (by first | omega | (simp; done) | (simp; omega))) rfl rfl rfl rfl rfl ?_
                                  refine AL.fast 1 rfl ?_
                                  refine AL.nil ?_
                                  refine block_ok ?_
                                  refine then_ok ?_
                                  refine AC.region ?_
                                  refine AL.val (Wanted.plain rfl) (g_binI rfl rfl rfl (wrap_ok (by first | omega | (simp; done) | (simp; omega)))) rfl rfl ?_
                                  refine AL.fast 1 rfl ?_
                                  refine AL.nil ?_
                                  refine then_ok ?_
                                  refine ⟨(u + 1, ma, mb ++ ([x3])), ⟨by omega, by rw [fil_take hx2, ← hi2_1]; first | rw [if_pos (by rw [sameK_t]; omega)] | rw [if_neg (by rw [sameK_t]; omega)], by rw [fil_take hx3, ← hi2_2]; first | rw [if_pos (by rw [sameK_t]; omega)] | rw [if_neg (by rw [sameK_t]; omega)]⟩, by first | omega | (simp; done) | (simp; omega), Weak.ren (fun k => if k = 3 then 5 else k) (by refine ⟨?_, ?_, ?_, ?_, ?_, ?_, ?_, ?_, ?_, ?_, ?_, ?_,  trivial⟩ <;> first | rfl | (simp only [AV.map, GV.map, CV.map, AB.map', id]; done) | (congr 3; omega) | (congr 4; omega) | (simp only [List.length_append, List.length_cons, List.length_nil, List.length_set]; rfl) | (first | exact look_i rfl (by omega) | exact look_s rfl (by simp only [List.length_append, List.length_take, List.length_drop, List.length_cons, List.length_nil]; omega))) (by refine ⟨?_, ?_, ?_, ?_,  trivial⟩ <;> first | rfl | (simp only [AV.map, GV.map, CV.map, AB.map', id]; done) | (congr 3; omega) | (congr 4; omega) | (simp only [List.length_append, List.length_cons, List.length_nil, List.length_set]; rfl)) rfl⟩
                                ·
                                  have hc24' := hc24; try simp only [sumB, Bool.not_eq_true', Bool.not_eq_false', Bool.or_eq_true, Bool.or_eq_false_iff, Bool.and_eq_true, Bool.and_eq_false_imp, decide_eq_true_eq, decide_eq_false_iff_not, Bool.not_not, Bool.not_true, Bool.not_false] at hc24'
                                  refine AC.skip ?_
                                  refine block_ok ?_
                                  refine then_ok ?_
                                  refine AC.region ?_
                                  refine AL.val (Wanted.plain rfl) (g_binI rfl rfl rfl (wrap_ok (by first | omega | (simp; done) | (simp; omega)))) rfl rfl ?_
                                  refine AL.fast 1 rfl ?_
                                  refine AL.nil ?_
                                  refine then_ok ?_
                                  refine ⟨(u + 1, ma, mb), ⟨by omega, by rw [fil_take hx2, ← hi2_1]; first | rw [if_pos (by rw [sameK_t]; omega)] | rw [if_neg (by rw [sameK_t]; omega)], by rw [fil_take hx3, ← hi2_2]; first | rw [if_pos (by rw [sameK_t]; omega)] | rw [if_neg (by rw [sameK_t]; omega)]⟩, by first | omega | (simp; done) | (simp; omega), Weak.ren id (by refine ⟨?_, ?_, ?_, ?_, ?_, ?_, ?_, ?_, ?_, ?_, ?_, ?_,  trivial⟩ <;> first | rfl | (simp only [AV.map, GV.map, CV.map, AB.map', id]; done) | (congr 3; omega) | (congr 4; omega) | (simp only [List.length_append, List.length_cons, List.length_nil, List.length_set]; rfl) | (first | exact look_i rfl (by omega) | exact look_s rfl (by simp only [List.length_append, List.length_take, List.length_drop, List.length_cons, List.length_nil]; omega))) (by refine ⟨?_, ?_, ?_, ?_,  trivial⟩ <;> first | rfl | (simp only [AV.map, GV.map, CV.map, AB.map', id]; done) | (congr 3; omega) | (congr 4; omega) | (simp only [List.length_append, List.length_cons, List.length_nil, List.length_set]; rfl)) rfl⟩
                            ·
                              have hb23' := hb23; try simp only [sumB, Bool.not_eq_true', Bool.not_eq_false', Bool.or_eq_true, Bool.or_eq_false_iff, Bool.and_eq_true, Bool.and_eq_false_imp, decide_eq_true_eq, decide_eq_false_iff_not, Bool.not_not, Bool.not_true, Bool.not_false] at hb23'
                              refine AC.weak (st' := ⟨[(0, (aC (cR 4 ((l).map rRecord)))), (5, (aC (.s 0 0 4 r1.length))), (42, (aI (↑r1.length : Int))), (43, (aI (↑q : Int))), (91, (aC (cR 4 ((l).map rRecord)))), (92, (aI (↑l.length : Int))), (93, (aI (↑w1 : Int))), (8, (aC (.p 1 0 0 0))), (9, (aC (.s 2 0 4 ma.length))), (10, (aC (.s 3 0 4 mb.length))), (98, (aI (↑l.length : Int))), (99, (aI (↑u : Int))), (11, (aI (↑u : Int)))], [(3, (.arr 127 4 ((mb).map rRecord))), (2, (.arr 127 4 ((ma).map rRecord))), (1, (.box 127 [(cI x1.shop), (cI x1.auth), (cI x1.kind), (cI x1.sum)])), (0, (.arr 127 4 ((r1).map rRecord)))], 4⟩) (Weak.ren id (by refine ⟨?_, ?_, ?_, ?_, ?_, ?_, ?_, ?_, ?_, ?_, ?_, ?_, ?_,  trivial⟩ <;> first | rfl | (simp only [AV.map, GV.map, CV.map, AB.map', id]; done) | (congr 3; omega) | (congr 4; omega) | (simp only [List.length_append, List.length_cons, List.length_nil, List.length_set]; rfl)) (by refine ⟨?_, ?_, ?_, ?_,  trivial⟩ <;> first | rfl | (simp only [AV.map, GV.map, CV.map, AB.map', id]; done) | (congr 3; omega) | (congr 4; omega) | (simp only [List.length_append, List.length_cons, List.length_nil, List.length_set]; rfl)) rfl) ?_
                              refine AC.draw [⟨some 127, (aC (.s 0 0 4 r1.length)), [], [], [], [(5, (aC (.s 0 0 4 r1.length)))], []⟩,
      ⟨some 128, (aI (↑u : Int)), [], [], [], [(11, (aI (↑u : Int)))], []⟩,
      ⟨some 129, (aC (.p 0 u 4 0)), [], [], [0, 1], [(127, (aC (.s 0 0 4 r1.length))), (128, (aI (↑u : Int)))], [(0, (.arr 127 4 ((r1).map rRecord)))]⟩,
      ⟨some 130, (aC (.p 0 u 4 0)), [], [], [2], [(129, (aC (.p 0 u 4 0)))], []⟩,
      ⟨some 131, (aI x3.shop), [], [], [3], [(130, (aC (.p 0 u 4 0)))], [(0, (.arr 127 4 ((r1).map rRecord)))]⟩,
      ⟨some 132, (aC (.p 1 0 0 0)), [], [], [], [(8, (aC (.p 1 0 0 0)))], []⟩,
      ⟨some 133, (aI x1.shop), [], [], [5], [(132, (aC (.p 1 0 0 0)))], [(1, (.box 127 [(cI x1.shop), (cI x1.auth), (cI x1.kind), (cI x1.sum)]))]⟩,
      ⟨some 134, (aB false), [], [], [4, 6], [(131, (aI x3.shop)), (133, (aI x1.shop))], []⟩,
      ⟨some 135, (aB false), [], [], [7], [(134, (aB false))], []⟩,
      ⟨some 136, (.t []), [], [], [8], [(5, (aC (.s 0 0 4 r1.length))), (135, (aB false))], []⟩,
      ⟨some 137, (.t []), [], [], [8], [(11, (aI (↑u : Int))), (135, (aB false))], []⟩,
      ⟨some 138, (.t []), [], [], [8, 9, 10], [(136, (.t [])), (137, (.t [])), (135, (aB false))], []⟩,
      ⟨some 139, (.t []), [], [], [8, 11], [(138, (.t [])), (135, (aB false))], []⟩,
      ⟨some 140, (.t []), [], [], [8, 12], [(139, (.t [])), (135, (aB false))], []⟩,
      ⟨some 141, (.t []), [], [], [8], [(8, (aC (.p 1 0 0 0))), (135, (aB false))], []⟩,
      ⟨some 142, (.t []), [], [], [8, 14], [(141, (.t [])), (135, (aB false))], []⟩,
      ⟨some 143, (.t []), [], [], [8, 13, 15], [(140, (.t [])), (142, (.t [])), (135, (aB false))], []⟩,
      ⟨some 144, (aB false), [], [], [8, 16], [(135, (aB false)), (143, (.t []))], []⟩] ⟨[(0, (aC (cR 4 ((l).map rRecord)))), (5, (aC (.s 0 0 4 r1.length))), (42, (aI (↑r1.length : Int))), (43, (aI (↑q : Int))), (91, (aC (cR 4 ((l).map rRecord)))), (92, (aI (↑l.length : Int))), (93, (aI (↑w1 : Int))), (8, (aC (.p 1 0 0 0))), (9, (aC (.s 2 0 4 ma.length))), (10, (aC (.s 3 0 4 mb.length))), (98, (aI (↑l.length : Int))), (99, (aI (↑u : Int))), (11, (aI (↑u : Int))), (144, (aB false))], [(3, (.arr 127 4 ((mb).map rRecord))), (2, (.arr 127 4 ((ma).map rRecord))), (1, (.box 127 [(cI x1.shop), (cI x1.auth), (cI x1.kind), (cI x1.sum)])), (0, (.arr 127 4 ((r1).map rRecord)))], 4⟩ mixed (by kernel_rfl) ?_ ?_ ?_ ?_
                              · exact ⟨.inl ⟨(Wanted.plain rfl), GOp.cast (g_move rfl rfl) rfl⟩,
      .inl ⟨(Wanted.plain rfl), GOp.cast (g_move rfl rfl) rfl⟩,
      .inl ⟨(Wanted.plain rfl), GOp.cast (g_indexP0 (i := u) rfl rfl rfl Try.underlying114 sz127 (by first | omega | (simp; done) | (simp; omega)) (by first | omega | (simp; done) | (simp; omega))) rfl⟩,
      .inl ⟨(Wanted.plain rfl), GOp.cast (g_fieldP rfl rfl Try.underlying127 rfl sz3 (by decide)) rfl⟩,
      .inl ⟨(Wanted.plain rfl), GOp.cast (g_loadA rfl rfl rfl Try.underlying3 rfl (getmap hx3) rfl) rfl⟩,
      .inl ⟨(Wanted.plain rfl), GOp.cast (g_fieldP rfl rfl Try.underlying127 rfl sz3 (by decide)) rfl⟩,
      .inl ⟨(Wanted.plain rfl), GOp.cast (g_loadB rfl rfl rfl Try.underlying3 rfl rfl) rfl⟩,
      .inl ⟨(Wanted.plain rfl), GOp.cast (g_binI rfl rfl rfl (congrArg (fun b => some (Value.bool b)) hb23)) rfl⟩,
      .inl ⟨(Wanted.plain rfl), GOp.cast (g_move rfl rfl) rfl⟩,
      .inr ⟨(Unwanted.no rfl rfl rfl), rfl, rfl, rfl⟩,
      .inr ⟨(Unwanted.no rfl rfl rfl), rfl, rfl, rfl⟩,
      .inr ⟨(Unwanted.no rfl rfl rfl), rfl, rfl, rfl⟩,
      .inr ⟨(Unwanted.no rfl rfl rfl), rfl, rfl, rfl⟩,
      .inr ⟨(Unwanted.no rfl rfl rfl), rfl, rfl, rfl⟩,
      .inr ⟨(Unwanted.no rfl rfl rfl), rfl, rfl, rfl⟩,
      .inr ⟨(Unwanted.no rfl rfl rfl), rfl, rfl, rfl⟩,
      .inr ⟨(Unwanted.no rfl rfl rfl), rfl, rfl, rfl⟩,
      .inl ⟨(Wanted.plain rfl), GOp.cast (g_pick rfl rfl rfl) rfl⟩,
       trivial⟩
                              · exact ⟨⟨⟨.inl rfl,  trivial⟩, trivial⟩, ⟨⟨.inl rfl,  trivial⟩, trivial⟩, ⟨⟨.inr ⟨0, .head _, _, rfl, rfl, rfl⟩, .inr ⟨1, .tail _ (.head _), _, rfl, rfl, rfl⟩,  trivial⟩, ⟨.inl rfl,  trivial⟩⟩, ⟨⟨.inr ⟨2, .head _, _, rfl, rfl, rfl⟩,  trivial⟩, trivial⟩, ⟨⟨.inr ⟨3, .head _, _, rfl, rfl, rfl⟩,  trivial⟩, ⟨.inl rfl,  trivial⟩⟩, ⟨⟨.inl rfl,  trivial⟩, trivial⟩, ⟨⟨.inr ⟨5, .head _, _, rfl, rfl, rfl⟩,  trivial⟩, ⟨.inl rfl,  trivial⟩⟩, ⟨⟨.inr ⟨4, .head _, _, rfl, rfl, rfl⟩, .inr ⟨6, .tail _ (.head _), _, rfl, rfl, rfl⟩,  trivial⟩, trivial⟩, ⟨⟨.inr ⟨7, .head _, _, rfl, rfl, rfl⟩,  trivial⟩, trivial⟩, ⟨⟨.inl rfl, .inr ⟨8, .head _, _, rfl, rfl, rfl⟩,  trivial⟩, trivial⟩, ⟨⟨.inl rfl, .inr ⟨8, .head _, _, rfl, rfl, rfl⟩,  trivial⟩, trivial⟩, ⟨⟨.inr ⟨9, .tail _ (.head _), _, rfl, rfl, rfl⟩, .inr ⟨10, .tail _ (.tail _ (.head _)), _, rfl, rfl, rfl⟩, .inr ⟨8, .head _, _, rfl, rfl, rfl⟩,  trivial⟩, trivial⟩, ⟨⟨.inr ⟨11, .tail _ (.head _), _, rfl, rfl, rfl⟩, .inr ⟨8, .head _, _, rfl, rfl, rfl⟩,  trivial⟩, trivial⟩, ⟨⟨.inr ⟨12, .tail _ (.head _), _, rfl, rfl, rfl⟩, .inr ⟨8, .head _, _, rfl, rfl, rfl⟩,  trivial⟩, trivial⟩, ⟨⟨.inl rfl, .inr ⟨8, .head _, _, rfl, rfl, rfl⟩,  trivial⟩, trivial⟩, ⟨⟨.inr ⟨14, .tail _ (.head _), _, rfl, rfl, rfl⟩, .inr ⟨8, .head _, _, rfl, rfl, rfl⟩,  trivial⟩, trivial⟩, ⟨⟨.inr ⟨13, .tail _ (.head _), _, rfl, rfl, rfl⟩, .inr ⟨15, .tail _ (.tail _ (.head _)), _, rfl, rfl, rfl⟩, .inr ⟨8, .head _, _, rfl, rfl, rfl⟩,  trivial⟩, trivial⟩, ⟨⟨.inr ⟨8, .head _, _, rfl, rfl, rfl⟩, .inr ⟨16, .tail _ (.head _), _, rfl, rfl, rfl⟩,  trivial⟩, trivial⟩,  trivial⟩
                              · exact ⟨⟨.inl rfl, .inl rfl, .inl rfl, .inl rfl, .inl rfl, .inl rfl, .inl rfl, .inl rfl, .inl rfl, .inl rfl, .inl rfl, .inl rfl, .inl rfl, .inr ⟨17, _, rfl, rfl, rfl⟩,  trivial⟩, ⟨.inl rfl, .inl rfl, .inl rfl, .inl rfl,  trivial⟩⟩
                              ·
                                refine AL.nil ?_
                                refine then_ok ?_
                                refine AC.cond rfl (fun hno => by cases hno) (fun _ => ?_)
                                refine AC.skip ?_
                                refine block_ok ?_
                                refine then_ok ?_
                                refine AC.region ?_
                                refine AL.val (Wanted.plain rfl) (g_binI rfl rfl rfl (wrap_ok (by first | omega | (simp; done) | (simp; omega)))) rfl rfl ?_
                                refine AL.fast 1 rfl ?_
                                refine AL.nil ?_
                                refine then_ok ?_
                                refine ⟨(u + 1, ma, mb), ⟨by omega, by rw [fil_take hx2, ← hi2_1]; first | rw [if_pos (by rw [sameK_t]; omega)] | rw [if_neg (by rw [sameK_t]; omega)], by rw [fil_take hx3, ← hi2_2]; first | rw [if_pos (by rw [sameK_t]; omega)] | rw [if_neg (by rw [sameK_t]; omega)]⟩, by first | omega | (simp; done) | (simp; omega), Weak.ren id (by refine ⟨?_, ?_, ?_, ?_, ?_, ?_, ?_, ?_, ?_, ?_, ?_, ?_,  trivial⟩ <;> first | rfl | (simp only [AV.map, GV.map, CV.map, AB.map', id]; done) | (congr 3; omega) | (congr 4; omega) | (simp only [List.length_append, List.length_cons, List.length_nil, List.length_set]; rfl) | (first | exact look_i rfl (by omega) | exact look_s rfl (by simp only [List.length_append, List.length_take, List.length_drop, List.length_cons, List.length_nil]; omega))) (by refine ⟨?_, ?_, ?_, ?_,  trivial⟩ <;> first | rfl | (simp only [AV.map, GV.map, CV.map, AB.map', id]; done) | (congr 3; omega) | (congr 4; omega) | (simp only [List.length_append, List.length_cons, List.length_nil, List.length_set]; rfl)) rfl⟩
                      ·
                        have hb18' := hb18; try simp only [sumB, Bool.not_eq_true', Bool.not_eq_false', Bool.or_eq_true, Bool.or_eq_false_iff, Bool.and_eq_true, Bool.and_eq_false_imp, decide_eq_true_eq, decide_eq_false_iff_not, Bool.not_not, Bool.not_true, Bool.not_false] at hb18'
                        refine AC.weak (st' := ⟨[(0, (aC (cR 4 ((l).map rRecord)))), (5, (aC (.s 0 0 4 r1.length))), (42, (aI (↑r1.length : Int))), (43, (aI (↑q : Int))), (91, (aC (cR 4 ((l).map rRecord)))), (92, (aI (↑l.length : Int))), (93, (aI (↑w1 : Int))), (8, (aC (.p 1 0 0 0))), (9, (aC (.s 2 0 4 ma.length))), (10, (aC (.s 3 0 4 mb.length))), (98, (aI (↑l.length : Int))), (99, (aI (↑u : Int))), (11, (aI (↑u : Int)))], [(3, (.arr 127 4 ((mb).map rRecord))), (2, (.arr 127 4 ((ma).map rRecord))), (1, (.box 127 [(cI x1.shop), (cI x1.auth), (cI x1.kind), (cI x1.sum)])), (0, (.arr 127 4 ((r1).map rRecord)))], 4⟩) (Weak.ren id (by refine ⟨?_, ?_, ?_, ?_, ?_, ?_, ?_, ?_, ?_, ?_, ?_, ?_, ?_,  trivial⟩ <;> first | rfl | (simp only [AV.map, GV.map, CV.map, AB.map', id]; done) | (congr 3; omega) | (congr 4; omega) | (simp only [List.length_append, List.length_cons, List.length_nil, List.length_set]; rfl)) (by refine ⟨?_, ?_, ?_, ?_,  trivial⟩ <;> first | rfl | (simp only [AV.map, GV.map, CV.map, AB.map', id]; done) | (congr 3; omega) | (congr 4; omega) | (simp only [List.length_append, List.length_cons, List.length_nil, List.length_set]; rfl)) rfl) ?_
                        refine AC.draw [⟨some 102, (aC (cR 4 ((l).map rRecord))), [], [], [], [(0, (aC (cR 4 ((l).map rRecord))))], []⟩,
      ⟨some 103, (aI (↑u : Int)), [], [], [], [(11, (aI (↑u : Int)))], []⟩,
      ⟨some 104, (aC (.q (rRecord x2) 0)), [], [], [0, 1], [(102, (aC (cR 4 ((l).map rRecord)))), (103, (aI (↑u : Int)))], []⟩,
      ⟨some 105, (aC (.q (rRecord x2) 0)), [], [], [2], [(104, (aC (.q (rRecord x2) 0)))], []⟩,
      ⟨some 106, (aI x2.shop), [], [], [3], [(105, (aC (.q (rRecord x2) 0)))], []⟩,
      ⟨some 107, (aC (.p 1 0 0 0)), [], [], [], [(8, (aC (.p 1 0 0 0)))], []⟩,
      ⟨some 108, (aI x1.shop), [], [], [5], [(107, (aC (.p 1 0 0 0)))], [(1, (.box 127 [(cI x1.shop), (cI x1.auth), (cI x1.kind), (cI x1.sum)]))]⟩,
      ⟨some 109, (aB false), [], [], [4, 6], [(106, (aI x2.shop)), (108, (aI x1.shop))], []⟩,
      ⟨some 110, (aB false), [], [], [7], [(109, (aB false))], []⟩,
      ⟨some 111, (.t []), [], [], [8], [(0, (aC (cR 4 ((l).map rRecord)))), (110, (aB false))], []⟩,
      ⟨some 112, (.t []), [], [], [8], [(11, (aI (↑u : Int))), (110, (aB false))], []⟩,
      ⟨some 113, (.t []), [], [], [8, 9, 10], [(111, (.t [])), (112, (.t [])), (110, (aB false))], []⟩,
      ⟨some 114, (.t []), [], [], [8, 11], [(113, (.t [])), (110, (aB false))], []⟩,
      ⟨some 115, (.t []), [], [], [8, 12], [(114, (.t [])), (110, (aB false))], []⟩,
      ⟨some 116, (.t []), [], [], [8], [(8, (aC (.p 1 0 0 0))), (110, (aB false))], []⟩,
      ⟨some 117, (.t []), [], [], [8, 14], [(116, (.t [])), (110, (aB false))], []⟩,
      ⟨some 118, (.t []), [], [], [8, 13, 15], [(115, (.t [])), (117, (.t [])), (110, (aB false))], []⟩,
      ⟨some 119, (aB false), [], [], [8, 16], [(110, (aB false)), (118, (.t []))], []⟩] ⟨[(0, (aC (cR 4 ((l).map rRecord)))), (5, (aC (.s 0 0 4 r1.length))), (42, (aI (↑r1.length : Int))), (43, (aI (↑q : Int))), (91, (aC (cR 4 ((l).map rRecord)))), (92, (aI (↑l.length : Int))), (93, (aI (↑w1 : Int))), (8, (aC (.p 1 0 0 0))), (9, (aC (.s 2 0 4 ma.length))), (10, (aC (.s 3 0 4 mb.length))), (98, (aI (↑l.length : Int))), (99, (aI (↑u : Int))), (11, (aI (↑u : Int))), (119, (aB false))], [(3, (.arr 127 4 ((mb).map rRecord))), (2, (.arr 127 4 ((ma).map rRecord))), (1, (.box 127 [(cI x1.shop), (cI x1.auth), (cI x1.kind), (cI x1.sum)])), (0, (.arr 127 4 ((r1).map rRecord)))], 4⟩ mixed (by kernel_rfl) ?_ ?_ ?_ ?_
                        · exact ⟨.inl ⟨(Wanted.plain rfl), GOp.cast (g_move rfl rfl) rfl⟩,
      .inl ⟨(Wanted.plain rfl), GOp.cast (g_move rfl rfl) rfl⟩,
      .inl ⟨(Wanted.plain rfl), GOp.cast (g_indexQ (i := u) rfl rfl rfl Try.underlying114 sz127 (by first | omega | (simp; done) | (simp; omega)) (getmap hx2)) rfl⟩,
      .inl ⟨(Wanted.plain rfl), GOp.cast (g_fieldQ rfl rfl Try.underlying127 rfl sz3 (by decide)) rfl⟩,
      .inl ⟨(Wanted.plain rfl), GOp.cast (g_loadQ rfl rfl Try.underlying3 rfl rfl) rfl⟩,
      .inl ⟨(Wanted.plain rfl), GOp.cast (g_fieldP rfl rfl Try.underlying127 rfl sz3 (by decide)) rfl⟩,
      .inl ⟨(Wanted.plain rfl), GOp.cast (g_loadB rfl rfl rfl Try.underlying3 rfl rfl) rfl⟩,
      .inl ⟨(Wanted.plain rfl), GOp.cast (g_binI rfl rfl rfl (congrArg (fun b => some (Value.bool b)) hb18)) rfl⟩,
      .inl ⟨(Wanted.plain rfl), GOp.cast (g_move rfl rfl) rfl⟩,
      .inr ⟨(Unwanted.no rfl rfl rfl), rfl, rfl, rfl⟩,
      .inr ⟨(Unwanted.no rfl rfl rfl), rfl, rfl, rfl⟩,
      .inr ⟨(Unwanted.no rfl rfl rfl), rfl, rfl, rfl⟩,
      .inr ⟨(Unwanted.no rfl rfl rfl), rfl, rfl, rfl⟩,
      .inr ⟨(Unwanted.no rfl rfl rfl), rfl, rfl, rfl⟩,
      .inr ⟨(Unwanted.no rfl rfl rfl), rfl, rfl, rfl⟩,
      .inr ⟨(Unwanted.no rfl rfl rfl), rfl, rfl, rfl⟩,
      .inr ⟨(Unwanted.no rfl rfl rfl), rfl, rfl, rfl⟩,
      .inl ⟨(Wanted.plain rfl), GOp.cast (g_pick rfl rfl rfl) rfl⟩,
       trivial⟩
                        · exact ⟨⟨⟨.inl rfl,  trivial⟩, trivial⟩, ⟨⟨.inl rfl,  trivial⟩, trivial⟩, ⟨⟨.inr ⟨0, .head _, _, rfl, rfl, rfl⟩, .inr ⟨1, .tail _ (.head _), _, rfl, rfl, rfl⟩,  trivial⟩, trivial⟩, ⟨⟨.inr ⟨2, .head _, _, rfl, rfl, rfl⟩,  trivial⟩, trivial⟩, ⟨⟨.inr ⟨3, .head _, _, rfl, rfl, rfl⟩,  trivial⟩, trivial⟩, ⟨⟨.inl rfl,  trivial⟩, trivial⟩, ⟨⟨.inr ⟨5, .head _, _, rfl, rfl, rfl⟩,  trivial⟩, ⟨.inl rfl,  trivial⟩⟩, ⟨⟨.inr ⟨4, .head _, _, rfl, rfl, rfl⟩, .inr ⟨6, .tail _ (.head _), _, rfl, rfl, rfl⟩,  trivial⟩, trivial⟩, ⟨⟨.inr ⟨7, .head _, _, rfl, rfl, rfl⟩,  trivial⟩, trivial⟩, ⟨⟨.inl rfl, .inr ⟨8, .head _, _, rfl, rfl, rfl⟩,  trivial⟩, trivial⟩, ⟨⟨.inl rfl, .inr ⟨8, .head _, _, rfl, rfl, rfl⟩,  trivial⟩, trivial⟩, ⟨⟨.inr ⟨9, .tail _ (.head _), _, rfl, rfl, rfl⟩, .inr ⟨10, .tail _ (.tail _ (.head _)), _, rfl, rfl, rfl⟩, .inr ⟨8, .head _, _, rfl, rfl, rfl⟩,  trivial⟩, trivial⟩, ⟨⟨.inr ⟨11, .tail _ (.head _), _, rfl, rfl, rfl⟩, .inr ⟨8, .head _, _, rfl, rfl, rfl⟩,  trivial⟩, trivial⟩, ⟨⟨.inr ⟨12, .tail _ (.head _), _, rfl, rfl, rfl⟩, .inr ⟨8, .head _, _, rfl, rfl, rfl⟩,  trivial⟩, trivial⟩, ⟨⟨.inl rfl, .inr ⟨8, .head _, _, rfl, rfl, rfl⟩,  trivial⟩, trivial⟩, ⟨⟨.inr ⟨14, .tail _ (.head _), _, rfl, rfl, rfl⟩, .inr ⟨8, .head _, _, rfl, rfl, rfl⟩,  trivial⟩, trivial⟩, ⟨⟨.inr ⟨13, .tail _ (.head _), _, rfl, rfl, rfl⟩, .inr ⟨15, .tail _ (.tail _ (.head _)), _, rfl, rfl, rfl⟩, .inr ⟨8, .head _, _, rfl, rfl, rfl⟩,  trivial⟩, trivial⟩, ⟨⟨.inr ⟨8, .head _, _, rfl, rfl, rfl⟩, .inr ⟨16, .tail _ (.head _), _, rfl, rfl, rfl⟩,  trivial⟩, trivial⟩,  trivial⟩
                        · exact ⟨⟨.inl rfl, .inl rfl, .inl rfl, .inl rfl, .inl rfl, .inl rfl, .inl rfl, .inl rfl, .inl rfl, .inl rfl, .inl rfl, .inl rfl, .inl rfl, .inr ⟨17, _, rfl, rfl, rfl⟩,  trivial⟩, ⟨.inl rfl, .inl rfl, .inl rfl, .inl rfl,  trivial⟩⟩
                        ·
                          refine AL.nil ?_
                          refine then_ok ?_
                          refine AC.cond rfl (fun hno => by cases hno) (fun _ => ?_)
                          refine AC.skip ?_
                          refine then_ok ?_
                          refine AC.seq ?_
                          obtain ⟨x3, hx3⟩ := exget (xs := r1) (i := u) (by first | omega | (simp; done) | (simp; omega))
                          rcases Bool.eq_false_or_eq_true (decide (x3.shop = x1.shop)) with hb27 | hb27
                          ·
                            have hb27' := hb27; try simp only [sumB, Bool.not_eq_true', Bool.not_eq_false', Bool.or_eq_true, Bool.or_eq_false_iff, Bool.and_eq_true, Bool.and_eq_false_imp, decide_eq_true_eq, decide_eq_false_iff_not, Bool.not_not, Bool.not_true, Bool.not_false] at hb27'
                            refine AC.weak (st' := ⟨[(0, (aC (cR 4 ((l).map rRecord)))), (5, (aC (.s 0 0 4 r1.length))), (42, (aI (↑r1.length : Int))), (43, (aI (↑q : Int))), (91, (aC (cR 4 ((l).map rRecord)))), (92, (aI (↑l.length : Int))), (93, (aI (↑w1 : Int))), (8, (aC (.p 1 0 0 0))), (9, (aC (.s 2 0 4 ma.length))), (10, (aC (.s 3 0 4 mb.length))), (98, (aI (↑l.length : Int))), (99, (aI (↑u : Int))), (11, (aI (↑u : Int)))], [(3, (.arr 127 4 ((mb).map rRecord))), (2, (.arr 127 4 ((ma).map rRecord))), (1, (.box 127 [(cI x1.shop), (cI x1.auth), (cI x1.kind), (cI x1.sum)])), (0, (.arr 127 4 ((r1).map rRecord)))], 4⟩) (Weak.ren id (by refine ⟨?_, ?_, ?_, ?_, ?_, ?_, ?_, ?_, ?_, ?_, ?_, ?_, ?_,  trivial⟩ <;> first | rfl | (simp only [AV.map, GV.map, CV.map, AB.map', id]; done) | (congr 3; omega) | (congr 4; omega) | (simp only [List.length_append, List.length_cons, List.length_nil, List.length_set]; rfl)) (by refine ⟨?_, ?_, ?_, ?_,  trivial⟩ <;> first | rfl | (simp only [AV.map, GV.map, CV.map, AB.map', id]; done) | (congr 3; omega) | (congr 4; omega) | (simp only [List.length_append, List.length_cons, List.length_nil, List.length_set]; rfl)) rfl) ?_
                            refine AC.draw [⟨some 127, (aC (.s 0 0 4 r1.length)), [], [], [], [(5, (aC (.s 0 0 4 r1.length)))], []⟩,
      ⟨some 128, (aI (↑u : Int)), [], [], [], [(11, (aI (↑u : Int)))], []⟩,
      ⟨some 129, (aC (.p 0 u 4 0)), [], [], [0, 1], [(127, (aC (.s 0 0 4 r1.length))), (128, (aI (↑u : Int)))], [(0, (.arr 127 4 ((r1).map rRecord)))]⟩,
      ⟨some 130, (aC (.p 0 u 4 0)), [], [], [2], [(129, (aC (.p 0 u 4 0)))], []⟩,
      ⟨some 131, (aI x3.shop), [], [], [3], [(130, (aC (.p 0 u 4 0)))], [(0, (.arr 127 4 ((r1).map rRecord)))]⟩,
      ⟨some 132, (aC (.p 1 0 0 0)), [], [], [], [(8, (aC (.p 1 0 0 0)))], []⟩,
      ⟨some 133, (aI x1.shop), [], [], [5], [(132, (aC (.p 1 0 0 0)))], [(1, (.box 127 [(cI x1.shop), (cI x1.auth), (cI x1.kind), (cI x1.sum)]))]⟩,
      ⟨some 134, (aB true), [], [], [4, 6], [(131, (aI x3.shop)), (133, (aI x1.shop))], []⟩,
      ⟨some 135, (aB true), [], [], [7], [(134, (aB true))], []⟩,
      ⟨some 136, (aC (.s 0 0 4 r1.length)), [], [], [8], [(5, (aC (.s 0 0 4 r1.length))), (135, (aB true))], []⟩,
      ⟨some 137, (aI (↑u : Int)), [], [], [8], [(11, (aI (↑u : Int))), (135, (aB true))], []⟩,
      ⟨some 138, (aC (.p 0 u 4 0)), [], [], [8, 9, 10], [(136, (aC (.s 0 0 4 r1.length))), (137, (aI (↑u : Int))), (135, (aB true))], [(0, (.arr 127 4 ((r1).map rRecord)))]⟩,
      ⟨some 139, (aC (.p 0 u 4 1)), [], [], [8, 11], [(138, (aC (.p 0 u 4 0))), (135, (aB true))], []⟩,
      ⟨some 140, (aI x3.auth), [], [], [8, 12], [(139, (aC (.p 0 u 4 1))), (135, (aB true))], [(0, (.arr 127 4 ((r1).map rRecord)))]⟩,
      ⟨some 141, (aC (.p 1 0 0 1)), [], [], [8], [(8, (aC (.p 1 0 0 0))), (135, (aB true))], []⟩,
      ⟨some 142, (aI x1.auth), [], [], [8, 14], [(141, (aC (.p 1 0 0 1))), (135, (aB true))], [(1, (.box 127 [(cI x1.shop), (cI x1.auth), (cI x1.kind), (cI x1.sum)]))]⟩,
      ⟨some 143, (aB (decide (x3.auth = x1.auth))), [], [], [8, 13, 15], [(140, (aI x3.auth)), (142, (aI x1.auth)), (135, (aB true))], []⟩,
      ⟨some 144, (aB (decide (x3.auth = x1.auth))), [], [], [8, 16], [(135, (aB true)), (143, (aB (decide (x3.auth = x1.auth))))], []⟩] ⟨[(0, (aC (cR 4 ((l).map rRecord)))), (5, (aC (.s 0 0 4 r1.length))), (42, (aI (↑r1.length : Int))), (43, (aI (↑q : Int))), (91, (aC (cR 4 ((l).map rRecord)))), (92, (aI (↑l.length : Int))), (93, (aI (↑w1 : Int))), (8, (aC (.p 1 0 0 0))), (9, (aC (.s 2 0 4 ma.length))), (10, (aC (.s 3 0 4 mb.length))), (98, (aI (↑l.length : Int))), (99, (aI (↑u : Int))), (11, (aI (↑u : Int))), (144, (aB (decide (x3.auth = x1.auth))))], [(3, (.arr 127 4 ((mb).map rRecord))), (2, (.arr 127 4 ((ma).map rRecord))), (1, (.box 127 [(cI x1.shop), (cI x1.auth), (cI x1.kind), (cI x1.sum)])), (0, (.arr 127 4 ((r1).map rRecord)))], 4⟩ mixed (by kernel_rfl) ?_ ?_ ?_ ?_
                            · exact ⟨.inl ⟨(Wanted.plain rfl), GOp.cast (g_move rfl rfl) rfl⟩,
      .inl ⟨(Wanted.plain rfl), GOp.cast (g_move rfl rfl) rfl⟩,
      .inl ⟨(Wanted.plain rfl), GOp.cast (g_indexP0 (i := u) rfl rfl rfl Try.underlying114 sz127 (by first | omega | (simp; done) | (simp; omega)) (by first | omega | (simp; done) | (simp; omega))) rfl⟩,
      .inl ⟨(Wanted.plain rfl), GOp.cast (g_fieldP rfl rfl Try.underlying127 rfl sz3 (by decide)) rfl⟩,
      .inl ⟨(Wanted.plain rfl), GOp.cast (g_loadA rfl rfl rfl Try.underlying3 rfl (getmap hx3) rfl) rfl⟩,
      .inl ⟨(Wanted.plain rfl), GOp.cast (g_fieldP rfl rfl Try.underlying127 rfl sz3 (by decide)) rfl⟩,
      .inl ⟨(Wanted.plain rfl), GOp.cast (g_loadB rfl rfl rfl Try.underlying3 rfl rfl) rfl⟩,
      .inl ⟨(Wanted.plain rfl), GOp.cast (g_binI rfl rfl rfl (congrArg (fun b => some (Value.bool b)) hb27)) rfl⟩,
      .inl ⟨(Wanted.plain rfl), GOp.cast (g_move rfl rfl) rfl⟩,
      .inl ⟨(Wanted.yes rfl rfl rfl), GOp.cast (g_move rfl rfl) rfl⟩,
      .inl ⟨(Wanted.yes rfl rfl rfl), GOp.cast (g_move rfl rfl) rfl⟩,
      .inl ⟨(Wanted.yes rfl rfl rfl), GOp.cast (g_indexP0 (i := u) rfl rfl rfl Try.underlying114 sz127 (by first | omega | (simp; done) | (simp; omega)) (by first | omega | (simp; done) | (simp; omega))) rfl⟩,
      .inl ⟨(Wanted.yes rfl rfl rfl), GOp.cast (g_fieldP rfl rfl Try.underlying127 rfl sz3 (by decide)) rfl⟩,
      .inl ⟨(Wanted.yes rfl rfl rfl), GOp.cast (g_loadA rfl rfl rfl Try.underlying3 rfl (getmap hx3) rfl) rfl⟩,
      .inl ⟨(Wanted.yes rfl rfl rfl), GOp.cast (g_fieldP rfl rfl Try.underlying127 rfl sz3 (by decide)) rfl⟩,
      .inl ⟨(Wanted.yes rfl rfl rfl), GOp.cast (g_loadB rfl rfl rfl Try.underlying3 rfl rfl) rfl⟩,
      .inl ⟨(Wanted.yes rfl rfl rfl), GOp.cast (g_binI rfl rfl rfl rfl) rfl⟩,
      .inl ⟨(Wanted.plain rfl), GOp.cast (g_pick rfl rfl rfl) rfl⟩,
       trivial⟩
                            · exact ⟨⟨⟨.inl rfl,  trivial⟩, trivial⟩, ⟨⟨.inl rfl,  trivial⟩, trivial⟩, ⟨⟨.inr ⟨0, .head _, _, rfl, rfl, rfl⟩, .inr ⟨1, .tail _ (.head _), _, rfl, rfl, rfl⟩,  trivial⟩, ⟨.inl rfl,  trivial⟩⟩, ⟨⟨.inr ⟨2, .head _, _, rfl, rfl, rfl⟩,  trivial⟩, trivial⟩, ⟨⟨.inr ⟨3, .head _, _, rfl, rfl, rfl⟩,  trivial⟩, ⟨.inl rfl,  trivial⟩⟩, ⟨⟨.inl rfl,  trivial⟩, trivial⟩, ⟨⟨.inr ⟨5, .head _, _, rfl, rfl, rfl⟩,  trivial⟩, ⟨.inl rfl,  trivial⟩⟩, ⟨⟨.inr ⟨4, .head _, _, rfl, rfl, rfl⟩, .inr ⟨6, .tail _ (.head _), _, rfl, rfl, rfl⟩,  trivial⟩, trivial⟩, ⟨⟨.inr ⟨7, .head _, _, rfl, rfl, rfl⟩,  trivial⟩, trivial⟩, ⟨⟨.inl rfl, .inr ⟨8, .head _, _, rfl, rfl, rfl⟩,  trivial⟩, trivial⟩, ⟨⟨.inl rfl, .inr ⟨8, .head _, _, rfl, rfl, rfl⟩,  trivial⟩, trivial⟩, ⟨⟨.inr ⟨9, .tail _ (.head _), _, rfl, rfl, rfl⟩, .inr ⟨10, .tail _ (.tail _ (.head _)), _, rfl, rfl, rfl⟩, .inr ⟨8, .head _, _, rfl, rfl, rfl⟩,  trivial⟩, ⟨.inl rfl,  trivial⟩⟩, ⟨⟨.inr ⟨11, .tail _ (.head _), _, rfl, rfl, rfl⟩, .inr ⟨8, .head _, _, rfl, rfl, rfl⟩,  trivial⟩, trivial⟩, ⟨⟨.inr ⟨12, .tail _ (.head _), _, rfl, rfl, rfl⟩, .inr ⟨8, .head _, _, rfl, rfl, rfl⟩,  trivial⟩, ⟨.inl rfl,  trivial⟩⟩, ⟨⟨.inl rfl, .inr ⟨8, .head _, _, rfl, rfl, rfl⟩,  trivial⟩, trivial⟩, ⟨⟨.inr ⟨14, .tail _ (.head _), _, rfl, rfl, rfl⟩, .inr ⟨8, .head _, _, rfl, rfl, rfl⟩,  trivial⟩, ⟨.inl rfl,  trivial⟩⟩, ⟨⟨.inr ⟨13, .tail _ (.head _), _, rfl, rfl, rfl⟩, .inr ⟨15, .tail _ (.tail _ (.head _)), _, rfl, rfl, rfl⟩, .inr ⟨8, .head _, _, rfl, rfl, rfl⟩,  trivial⟩, trivial⟩, ⟨⟨.inr ⟨8, .head _, _, rfl, rfl, rfl⟩, .inr ⟨16, .tail _ (.head _), _, rfl, rfl, rfl⟩,  trivial⟩, trivial⟩,  trivial⟩
                            · exact ⟨⟨.inl rfl, .inl rfl, .inl rfl, .inl rfl, .inl rfl, .inl rfl, .inl rfl, .inl rfl, .inl rfl, .inl rfl, .inl rfl, .inl rfl, .inl rfl, .inr ⟨17, _, rfl, rfl, rfl⟩,  trivial⟩, ⟨.inl rfl, .inl rfl, .inl rfl, .inl rfl,  trivial⟩⟩
                            ·
                              refine AL.nil ?_
                              refine then_ok ?_
                              refine AC.cond rfl (fun hc28 => ?_) (fun hc28 => ?_)
                              ·
                                have hc28' := hc28; try simp only [sumB, Bool.not_eq_true', Bool.not_eq_false', Bool.or_eq_true, Bool.or_eq_false_iff, Bool.and_eq_true, Bool.and_eq_false_imp, decide_eq_true_eq, decide_eq_false_iff_not, Bool.not_not, Bool.not_true, Bool.not_false] at hc28'
                                refine AC.region ?_
                                refine AL.fast 3 rfl ?_
                                refine AL.val (Wanted.plain rfl) (g_indexP0 (i := u) rfl rfl rfl Try.underlying114 sz127 (by first | omega | (simp; done) | (simp; omega)) (by first | omega | (simp; done) | (simp; omega))) rfl rfl ?_
                                refine AL.val (Wanted.plain rfl) (g_loadAs rfl rfl rfl Try.underlying127 rfl sz127 (getmap hx3) rfl) rfl rfl ?_
                                refine AL.new (n' := 5) (Wanted.plain rfl) (g_lit (ys := [(0, (.g [(cI x3.shop), (cI x3.auth), (cI x3.kind), (cI x3.sum)]))]) (rows := ([x3]).map rRecord) 4 sl114 rfl (by decide) ⟨⟨rfl, rfl⟩,  trivial⟩ rfl rfl rfl rfl) rfl rfl rfl ?_
                                refine AL.eat (n' := 6) (h' := [(5, (.arr 127 4 ((mb ++ ([x3])).map rRecord))), (4, (.arr 127 4 (([x3]).map rRecord))), (2, (.arr 127 4 ((ma).map rRecord))), (1, (.box 127 [(cI x1.shop), (cI x1.auth), (cI x1.kind), (cI x1.sum)])), (0, (.arr 127 4 ((r1).map rRecord)))]) (Wanted.plain rfl) (g_append (m := 1) (N := mb.length + 1) (k2 := 5) (ys := ([x3]).map rRecord) sl114 rfl rfl rfl rfl rfl rfl (by first | omega | (simp; done) | (simp; omega)) rfl (.s rfl (by first | omega | (simp; done) | (simp; omega))) (by first | omega | (simp; done) | (simp; omega)) (by first | omega | (simp; done) | (simp; omega)) appmap (by decide) (by first | omega | (simp; done) | (simp; omega)) (by first | omega | (simp; done) | (simp; omega))) rfl rfl rfl rfl rfl ?_
                                refine AL.fast 1 rfl ?_
                                refine AL.nil ?_
                                refine block_ok ?_
                                refine then_ok ?_
                                refine AC.region ?_
                                refine AL.val (Wanted.plain rfl) (g_binI rfl rfl rfl (wrap_ok (by first | omega | (simp; done) | (simp; omega)))) rfl rfl ?_
                                refine AL.fast 1 rfl ?_
                                refine AL.nil ?_
                                refine then_ok ?_
                                refine ⟨(u + 1, ma, mb ++ ([x3])), ⟨by omega, by rw [fil_take hx2, ← hi2_1]; first | rw [if_pos (by rw [sameK_t]; omega)] | rw [if_neg (by rw [sameK_t]; omega)], by rw [fil_take hx3, ← hi2_2]; first | rw [if_pos (by rw [sameK_t]; omega)] | rw [if_neg (by rw [sameK_t]; omega)]⟩, by first | omega | (simp; done) | (simp; omega), Weak.ren (fun k => if k = 3 then 5 else k) (by refine ⟨?_, ?_, ?_, ?_, ?_, ?_, ?_, ?_, ?_, ?_, ?_, ?_,  trivial⟩ <;> first | rfl | (simp only [AV.map, GV.map, CV.map, AB.map', id]; done) | (congr 3; omega) | (congr 4; omega) | (simp only [List.length_append, List.length_cons, List.length_nil, List.length_set]; rfl) | (first | exact look_i rfl (by omega) | exact look_s rfl (by simp only [List.length_append, List.length_take, List.length_drop, List.length_cons, List.length_nil]; omega))) (by refine ⟨?_, ?_, ?_, ?_,  trivial⟩ <;> first | rfl | (simp only [AV.map, GV.map, CV.map, AB.map', id]; done) | (congr 3; omega) | (congr 4; omega) | (simp only [List.length_append, List.length_cons, List.length_nil, List.length_set]; rfl)) rfl⟩
                              ·
                                have hc28' := hc28; try simp only [sumB, Bool.not_eq_true', Bool.not_eq_false', Bool.or_eq_true, Bool.or_eq_false_iff, Bool.and_eq_true, Bool.and_eq_false_imp, decide_eq_true_eq, decide_eq_false_iff_not, Bool.not_not, Bool.not_true, Bool.not_false] at hc28'
                                refine AC.skip ?_
                                refine block_ok ?_
                                refine then_ok ?_
                                refine AC.region ?_
                                refine AL.val (Wanted.plain rfl) (g_binI rfl rfl rfl (wrap_ok (by first | omega | (simp; done) | (simp; omega)))) rfl rfl ?_
                                refine AL.fast 1 rfl ?_
                                refine AL.nil ?_
                                refine then_ok ?_
                                refine ⟨(u + 1, ma, mb), ⟨by omega, by rw [fil_take hx2, ← hi2_1]; first | rw [if_pos (by rw [sameK_t]; omega)] | rw [if_neg (by rw [sameK_t]; omega)], by rw [fil_take hx3, ← hi2_2]; first | rw [if_pos (by rw [sameK_t]; omega)] | rw [if_neg (by rw [sameK_t]; omega)]⟩, by first | omega | (simp; done) | (simp; omega), Weak.ren id (by refine ⟨?_, ?_, ?_, ?_, ?_, ?_, ?_, ?_, ?_, ?_, ?_, ?_,  trivial⟩ <;> first | rfl | (simp only [AV.map, GV.map, CV.map, AB.map', id]; done) | (congr 3; omega) | (congr 4; omega) | (simp only [List.length_append, List.length_cons, List.length_nil, List.length_set]; rfl) | (first | exact look_i rfl (by omega) | exact look_s rfl (by simp only [List.length_append, List.length_take, List.length_drop, List.length_cons, List.length_nil]; omega))) (by refine ⟨?_, ?_, ?_, ?_,  trivial⟩ <;> first | rfl | (simp only [AV.map, GV.map, CV.map, AB.map', id]; done) | (congr 3; omega) | (congr 4; omega) | (simp only [List.length_append, List.length_cons, List.length_nil, List.length_set]; rfl)) rfl⟩
                          ·
                            have hb27' := hb27; try simp only [sumB, Bool.not_eq_true', Bool.not_eq_false', Bool.or_eq_true, Bool.or_eq_false_iff, Bool.and_eq_true, Bool.and_eq_false_imp, decide_eq_true_eq, decide_eq_false_iff_not, Bool.not_not, Bool.not_true, Bool.not_false] at hb27'
                            refine AC.weak (st' := ⟨[(0, (aC (cR 4 ((l).map rRecord)))), (5, (aC (.s 0 0 4 r1.length))), (42, (aI (↑r1.length : Int))), (43, (aI (↑q : Int))), (91, (aC (cR 4 ((l).map rRecord)))), (92, (aI (↑l.length : Int))), (93, (aI (↑w1 : Int))), (8, (aC (.p 1 0 0 0))), (9, (aC (.s 2 0 4 ma.length))), (10, (aC (.s 3 0 4 mb.length))), (98, (aI (↑l.length : Int))), (99, (aI (↑u : Int))), (11, (aI (↑u : Int)))], [(3, (.arr 127 4 ((mb).map rRecord))), (2, (.arr 127 4 ((ma).map rRecord))), (1, (.box 127 [(cI x1.shop), (cI x1.auth), (cI x1.kind), (cI x1.sum)])), (0, (.arr 127 4 ((r1).map rRecord)))], 4⟩) (Weak.ren id (by refine ⟨?_, ?_, ?_, ?_, ?_, ?_, ?_, ?_, ?_, ?_, ?_, ?_, ?_,  trivial⟩ <;> first | rfl | (simp only [AV.map, GV.map, CV.map, AB.map', id]; done) | (congr 3; omega) | (congr 4; omega) | (simp only [List.length_append, List.length_cons, List.length_nil, List.length_set]; rfl)) (by refine ⟨?_, ?_, ?_, ?_,  trivial⟩ <;> first | rfl | (simp only [AV.map, GV.map, CV.map, AB.map', id]; done) | (congr 3; omega) | (congr 4; omega) | (simp only [List.length_append, List.length_cons, List.length_nil, List.length_set]; rfl)) rfl) ?_
                            refine AC.draw [⟨some 127, (aC (.s 0 0 4 r1.length)), [], [], [], [(5, (aC (.s 0 0 4 r1.length)))], []⟩,
      ⟨some 128, (aI (↑u : Int)), [], [], [], [(11, (aI (↑u : Int)))], []⟩,
      ⟨some 129, (aC (.p 0 u 4 0)), [], [], [0, 1], [(127, (aC (.s 0 0 4 r1.length))), (128, (aI (↑u : Int)))], [(0, (.arr 127 4 ((r1).map rRecord)))]⟩,
      ⟨some 130, (aC (.p 0 u 4 0)), [], [], [2], [(129, (aC (.p 0 u 4 0)))], []⟩,
      ⟨some 131, (aI x3.shop), [], [], [3], [(130, (aC (.p 0 u 4 0)))], [(0, (.arr 127 4 ((r1).map rRecord)))]⟩,
      ⟨some 132, (aC (.p 1 0 0 0)), [], [], [], [(8, (aC (.p 1 0 0 0)))], []⟩,
      ⟨some 133, (aI x1.shop), [], [], [5], [(132, (aC (.p 1 0 0 0)))], [(1, (.box 127 [(cI x1.shop), (cI x1.auth), (cI x1.kind), (cI x1.sum)]))]⟩,
      ⟨some 134, (aB false), [], [], [4, 6], [(131, (aI x3.shop)), (133, (aI x1.shop))], []⟩,
      ⟨some 135, (aB false), [], [], [7], [(134, (aB false))], []⟩,
      ⟨some 136, (.t []), [], [], [8], [(5, (aC (.s 0 0 4 r1.length))), (135, (aB false))], []⟩,
      ⟨some 137, (.t []), [], [], [8], [(11, (aI (↑u : Int))), (135, (aB false))], []⟩,
      ⟨some 138, (.t []), [], [], [8, 9, 10], [(136, (.t [])), (137, (.t [])), (135, (aB false))], []⟩,
      ⟨some 139, (.t []), [], [], [8, 11], [(138, (.t [])), (135, (aB false))], []⟩,
      ⟨some 140, (.t []), [], [], [8, 12], [(139, (.t [])), (135, (aB false))], []⟩,
      ⟨some 141, (.t []), [], [], [8], [(8, (aC (.p 1 0 0 0))), (135, (aB false))], []⟩,
      ⟨some 142, (.t []), [], [], [8, 14], [(141, (.t [])), (135, (aB false))], []⟩,
      ⟨some 143, (.t []), [], [], [8, 13, 15], [(140, (.t [])), (142, (.t [])), (135, (aB false))], []⟩,
      ⟨some 144, (aB false), [], [], [8, 16], [(135, (aB false)), (143, (.t []))], []⟩] ⟨[(0, (aC (cR 4 ((l).map rRecord)))), (5, (aC (.s 0 0 4 r1.length))), (42, (aI (↑r1.length : Int))), (43, (aI (↑q : Int))), (91, (aC (cR 4 ((l).map rRecord)))), (92, (aI (↑l.length : Int))), (93, (aI (↑w1 : Int))), (8, (aC (.p 1 0 0 0))), (9, (aC (.s 2 0 4 ma.length))), (10, (aC (.s 3 0 4 mb.length))), (98, (aI (↑l.length : Int))), (99, (aI (↑u : Int))), (11, (aI (↑u : Int))), (144, (aB false))], [(3, (.arr 127 4 ((mb).map rRecord))), (2, (.arr 127 4 ((ma).map rRecord))), (1, (.box 127 [(cI x1.shop), (cI x1.auth), (cI x1.kind), (cI x1.sum)])), (0, (.arr 127 4 ((r1).map rRecord)))], 4⟩ mixed (by kernel_rfl) ?_ ?_ ?_ ?_
                            · exact ⟨.inl ⟨(Wanted.plain rfl), GOp.cast (g_move rfl rfl) rfl⟩,
      .inl ⟨(Wanted.plain rfl), GOp.cast (g_move rfl rfl) rfl⟩,
      .inl ⟨(Wanted.plain rfl), GOp.cast (g_indexP0 (i := u) rfl rfl rfl Try.underlying114 sz127 (by first | omega | (simp; done) | (simp; omega)) (by first | omega | (simp; done) | (simp; omega))) rfl⟩,
      .inl ⟨(Wanted.plain rfl), GOp.cast (g_fieldP rfl rfl Try.underlying127 rfl sz3 (by decide)) rfl⟩,
      .inl ⟨(Wanted.plain rfl), GOp.cast (g_loadA rfl rfl rfl Try.underlying3 rfl (getmap hx3) rfl) rfl⟩,
      .inl ⟨(Wanted.plain rfl), GOp.cast (g_fieldP rfl rfl Try.underlying127 rfl sz3 (by decide)) rfl⟩,
      .inl ⟨(Wanted.plain rfl), GOp.cast (g_loadB rfl rfl rfl Try.underlying3 rfl rfl) rfl⟩,
      .inl ⟨(Wanted.plain rfl), GOp.cast (g_binI rfl rfl rfl (congrArg (fun b => some (Value.bool b)) hb27)) rfl⟩,
      .inl ⟨(Wanted.plain rfl), GOp.cast (g_move rfl rfl) rfl⟩,
      .inr ⟨(Unwanted.no rfl rfl rfl), rfl, rfl, rfl⟩,
      .inr ⟨(Unwanted.no rfl rfl rfl), rfl, rfl, rfl⟩,
      .inr ⟨(Unwanted.no rfl rfl rfl), rfl, rfl, rfl⟩,
      .inr ⟨(Unwanted.no rfl rfl rfl), rfl, rfl, rfl⟩,
      .inr ⟨(Unwanted.no rfl rfl rfl), rfl, rfl, rfl⟩,
      .inr ⟨(Unwanted.no rfl rfl rfl), rfl, rfl, rfl⟩,
      .inr ⟨(Unwanted.no rfl rfl rfl), rfl, rfl, rfl⟩,
      .inr ⟨(Unwanted.no rfl rfl rfl), rfl, rfl, rfl⟩,
      .inl ⟨(Wanted.plain rfl), GOp.cast (g_pick rfl rfl rfl) rfl⟩,
       trivial⟩
                            · exact ⟨⟨⟨.inl rfl,  trivial⟩, trivial⟩, ⟨⟨.inl rfl,  trivial⟩, trivial⟩, ⟨⟨.inr ⟨0, .head _, _, rfl, rfl, rfl⟩, .inr ⟨1, .tail _ (.head _), _, rfl, rfl, rfl⟩,  trivial⟩, ⟨.inl rfl,  trivial⟩⟩, ⟨⟨.inr ⟨2, .head _, _, rfl, rfl, rfl⟩,  trivial⟩, trivial⟩, ⟨⟨.inr ⟨3, .head _, _, rfl, rfl, rfl⟩,  trivial⟩, ⟨.inl rfl,  trivial⟩⟩, ⟨⟨.inl rfl,  trivial⟩, trivial⟩, ⟨⟨.inr ⟨5, .head _, _, rfl, rfl, rfl⟩,  trivial⟩, ⟨.inl rfl,  trivial⟩⟩, ⟨⟨.inr ⟨4, .head _, _, rfl, rfl, rfl⟩, .inr ⟨6, .tail _ (.head _), _, rfl, rfl, rfl⟩,  trivial⟩, trivial⟩, ⟨⟨.inr ⟨7, .head _, _, rfl, rfl, rfl⟩,  trivial⟩, trivial⟩, ⟨⟨.inl rfl, .inr ⟨8, .head _, _, rfl, rfl, rfl⟩,  trivial⟩, trivial⟩, ⟨⟨.inl rfl, .inr ⟨8, .head _, _, rfl, rfl, rfl⟩,  trivial⟩, trivial⟩, ⟨⟨.inr ⟨9, .tail _ (.head _), _, rfl, rfl, rfl⟩, .inr ⟨10, .tail _ (.tail _ (.head _)), _, rfl, rfl, rfl⟩, .inr ⟨8, .head _, _, rfl, rfl, rfl⟩,  trivial⟩, trivial⟩, ⟨⟨.inr ⟨11, .tail _ (.head _), _, rfl, rfl, rfl⟩, .inr ⟨8, .head _, _, rfl, rfl, rfl⟩,  trivial⟩, trivial⟩, ⟨⟨.inr ⟨12, .tail _ (.head _), _, rfl, rfl, rfl⟩, .inr ⟨8, .head _, _, rfl, rfl, rfl⟩,  trivial⟩, trivial⟩, ⟨⟨.inl rfl, .inr ⟨8, .head _, _, rfl, rfl, rfl⟩,  trivial⟩, trivial⟩, ⟨⟨.inr ⟨14, .tail _ (.head _), _, rfl, rfl, rfl⟩, .inr ⟨8, .head _, _, rfl, rfl, rfl⟩,  trivial⟩, trivial⟩, ⟨⟨.inr ⟨13, .tail _ (.head _), _, rfl, rfl, rfl⟩, .inr ⟨15, .tail _ (.tail _ (.head _)), _, rfl, rfl, rfl⟩, .inr ⟨8, .head _, _, rfl, rfl, rfl⟩,  trivial⟩, trivial⟩, ⟨⟨.inr ⟨8, .head _, _, rfl, rfl, rfl⟩, .inr ⟨16, .tail _ (.head _), _, rfl, rfl, rfl⟩,  trivial⟩, trivial⟩,  trivial⟩
                            · exact ⟨⟨.inl rfl, .inl rfl, .inl rfl, .inl rfl, .inl rfl, .inl rfl, .inl rfl, .inl rfl, .inl rfl, .inl rfl, .inl rfl, .inl rfl, .inl rfl, .inr ⟨17, _, rfl, rfl, rfl⟩,  trivial⟩, ⟨.inl rfl, .inl rfl, .inl rfl, .inl rfl,  trivial⟩⟩
                            ·
                              refine AL.nil ?_
                              refine then_ok ?_
                              refine AC.cond rfl (fun hno => by cases hno) (fun _ => ?_)
                              refine AC.skip ?_
                              refine block_ok ?_
                              refine then_ok ?_
                              refine AC.region ?_
                              refine AL.val (Wanted.plain rfl) (g_binI rfl rfl rfl (wrap_ok (by first | omega | (simp; done) | (simp; omega)))) rfl rfl ?_
                              refine AL.fast 1 rfl ?_
                              refine AL.nil ?_
                              refine then_ok ?_
                              refine ⟨(u + 1, ma, mb), ⟨by omega, by rw [fil_take hx2, ← hi2_1]; first | rw [if_pos (by rw [sameK_t]; omega)] | rw [if_neg (by rw [sameK_t]; omega)], by rw [fil_take hx3, ← hi2_2]; first | rw [if_pos (by rw [sameK_t]; omega)] | rw [if_neg (by rw [sameK_t]; omega)]⟩, by first | omega | (simp; done) | (simp; omega), Weak.ren id (by refine ⟨?_, ?_, ?_, ?_, ?_, ?_, ?_, ?_, ?_, ?_, ?_, ?_,  trivial⟩ <;> first | rfl | (simp only [AV.map, GV.map, CV.map, AB.map', id]; done) | (congr 3; omega) | (congr 4; omega) | (simp only [List.length_append, List.length_cons, List.length_nil, List.length_set]; rfl) | (first | exact look_i rfl (by omega) | exact look_s rfl (by simp only [List.length_append, List.length_take, List.length_drop, List.length_cons, List.length_nil]; omega))) (by refine ⟨?_, ?_, ?_, ?_,  trivial⟩ <;> first | rfl | (simp only [AV.map, GV.map, CV.map, AB.map', id]; done) | (congr 3; omega) | (congr 4; omega) | (simp only [List.length_append, List.length_cons, List.length_nil, List.length_set]; rfl)) rfl⟩
                    ·
                      have hc17' := hc17; try simp only [sumB, Bool.not_eq_true', Bool.not_eq_false', Bool.or_eq_true, Bool.or_eq_false_iff, Bool.and_eq_true, Bool.and_eq_false_imp, decide_eq_true_eq, decide_eq_false_iff_not, Bool.not_not, Bool.not_true, Bool.not_false] at hc17'
                      refine AC.exit ?_
                      refine then_exit ?_
                      refine then_exit ?_
                      refine block_hit ?_
                      refine then_ok ?_
                      refine AC.seq ?_
                      refine AC.region ?_
                      refine AL.fast 2 rfl ?_
                      obtain ⟨r7, hr7⟩ : ∃ (r7 : Bool), sameList ma mb = r7 := ⟨_, rfl⟩
                      refine AL.call (n' := 4) (h' := [(3, (.arr 127 4 ((mb).map rRecord))), (2, (.arr 127 4 ((ma).map rRecord))), (1, (.box 127 [(cI x1.shop), (cI x1.auth), (cI x1.kind), (cI x1.sum)])), (0, (.arr 127 4 ((r1).map rRecord)))]) (Wanted.plain rfl) (g_callE 4 [2, 3] (c_SameRecords ma mb  r7 hr7) en93 rfl rfl ⟨⟨_, rfl, .c (.s rfl (by decide) (by first | omega | (simp; done) | (simp; omega)))⟩, ⟨_, rfl, .c (.s rfl (by decide) (by first | omega | (simp; done) | (simp; omega)))⟩,  trivial⟩ rfl trivial rfl rfl rfl rfl) rfl rfl rfl rfl rfl ?_
                      refine AL.val (Wanted.plain rfl) (g_notB rfl rfl) rfl rfl ?_
                      refine AL.nil ?_
                      refine then_ok ?_
                      refine AC.cond rfl (fun hc30 => ?_) (fun hc30 => ?_)
                      ·
                        have hc30' := hc30; try simp only [sumB, Bool.not_eq_true', Bool.not_eq_false', Bool.or_eq_true, Bool.or_eq_false_iff, Bool.and_eq_true, Bool.and_eq_false_imp, decide_eq_true_eq, decide_eq_false_iff_not, Bool.not_not, Bool.not_true, Bool.not_false] at hc30'
                        refine AC.seq ?_
                        refine AC.region ?_
                        refine AL.fast 1 rfl ?_
                        refine AL.nil ?_
                        refine then_ok ?_
                        refine AC.ret ?_
                        refine block_ret ?_
                        refine then_ret ?_
                        refine then_ret ?_
                        refine block_ret ?_
                        refine then_ret ?_
                        refine retQ_mk (av' := outOf [(.c (cB false))]) (nb' := []) (retQ_ret ⟨[(4, (aB false))], [], 0⟩ [.tmp 4] [(.c (cB false))] (Weak.ren id (⟨by first | rfl | (simp only [AV.map, GV.map, CV.map, AB.map', id]; done) | (congr 3; omega) | (congr 4; omega) | (simp only [List.length_append, List.length_cons, List.length_nil, List.length_set]; rfl), trivial⟩) (trivial) rfl) rfl ⟨.tmp rfl, trivial⟩ trivial) ?_ ?_
                        · exact congrArg aB (show (false) = true by (exfalso; have he : ma = mb := (by rw [hi2_1, hi2_2, fil_all (by omega), fil_all (by omega)]; exact hsm x1); rw [he, same_self_R] at hr7; simp_all))
                        · rfl
                      ·
                        have hc30' := hc30; try simp only [sumB, Bool.not_eq_true', Bool.not_eq_false', Bool.or_eq_true, Bool.or_eq_false_iff, Bool.and_eq_true, Bool.and_eq_false_imp, decide_eq_true_eq, decide_eq_false_iff_not, Bool.not_not, Bool.not_true, Bool.not_false] at hc30'
                        refine AC.skip ?_
                        refine block_ok ?_
                        refine then_ok ?_
                        refine AC.region ?_
                        refine AL.val (Wanted.plain rfl) (g_binI rfl rfl rfl (wrap_ok (by first | omega | (simp; done) | (simp; omega)))) rfl rfl ?_
                        refine AL.fast 1 rfl ?_
                        refine AL.nil ?_
                        refine then_ok ?_
                        refine ⟨w1 + 1, by first | omega | trivial, by first | omega | (simp; done) | (simp; omega), Weak.ren id (by refine ⟨?_, ?_, ?_, ?_, ?_, ?_, ?_,  trivial⟩ <;> first | rfl | (simp only [AV.map, GV.map, CV.map, AB.map', id]; done) | (congr 3; omega) | (congr 4; omega) | (simp only [List.length_append, List.length_cons, List.length_nil, List.length_set]; rfl)) (⟨by first | rfl | (simp only [AV.map, GV.map, CV.map, AB.map', id]; done) | (congr 3; omega) | (congr 4; omega) | (simp only [List.length_append, List.length_cons, List.length_nil, List.length_set]; rfl), trivial⟩) rfl⟩
                ·
                  have hc16' := hc16; try simp only [sumB, Bool.not_eq_true', Bool.not_eq_false', Bool.or_eq_true, Bool.or_eq_false_iff, Bool.and_eq_true, Bool.and_eq_false_imp, decide_eq_true_eq, decide_eq_false_iff_not, Bool.not_not, Bool.not_true, Bool.not_false] at hc16'
                  refine AC.exit ?_
                  refine then_exit ?_
                  refine then_exit ?_
                  refine block_hit ?_
                  refine then_ok ?_
                  refine AC.seq ?_
                  refine AC.region ?_
                  refine AL.fast 1 rfl ?_
                  refine AL.nil ?_
                  refine then_ok ?_
                  refine AC.ret ?_
                  refine retQ_mk (av' := outOf [(.c (cB true))]) (nb' := []) (retQ_ret ⟨[(4, (aB true))], [], 0⟩ [.tmp 4] [(.c (cB true))] (Weak.ren id (⟨by first | rfl | (simp only [AV.map, GV.map, CV.map, AB.map', id]; done) | (congr 3; omega) | (congr 4; omega) | (simp only [List.length_append, List.length_cons, List.length_nil, List.length_set]; rfl), trivial⟩) (trivial) rfl) rfl ⟨.tmp rfl, trivial⟩ trivial) ?_ ?_
                  · rfl
                  · rfl
end Go.Proofs.Ytgmcdlfmifijlaa.Dev
