/- paylaw1: BookTells, BookRight. -/
import Derived.Test.YtgmcdlfmifijlaaDBook9
set_option linter.unusedVariables false
set_option linter.unusedSimpArgs false
namespace Go.Proofs.Ytgmcdlfmifijlaa.Dev
open Go.RowKit

set_option maxRecDepth 100000 in
set_option maxHeartbeats 1000000 in
theorem c_BookTells (l es : List Entry) (src dst n : Int) : Fn Try.prog 22 [(.c (cR 2 ((l).map rEntry))), (.c (cR 2 ((es).map rEntry))), (.c (cI src)), (.c (cI dst)), (.c (cI n))] (aB true) [] := by
  refine Fn.mk' 74 [(0, (aC (cR 2 ((l).map rEntry)))), (1, (aC (cR 2 ((es).map rEntry)))), (2, (aI src)), (3, (aI dst)), (4, (aI n))] Try.func22 rfl rfl rfl rfl ?_
  intro W0 T0
  refine AC.len1 0 rfl (fun hlen0 => ?_)
  refine AC.len1 1 rfl (fun hlen1 => ?_)
  refine AC.seq ?_
  refine AC.region ?_
  refine AL.fast 1 rfl ?_
  refine AL.nil ?_
  refine then_ok ?_
  refine AC.seq ?_
  obtain ⟨f0, hr0⟩ : ∃ (f0 : Fault), wrongB l = f0 := ⟨_, rfl⟩
  obtain ⟨n1, hr1⟩ : ∃ (n1 : Int), getE l src = n1 := ⟨_, rfl⟩
  refine AC.cutB 28 (false || false) ?_ ?_
  ·
    refine AC.region ?_
    refine AL.fast 1 rfl ?_
    refine AL.call (n' := 0) (h' := []) (Wanted.plain rfl) (g_call 0 (c_book_Wrong l  f0 hr0) en79 rfl rfl ⟨⟨_, rfl, .c (.d _)⟩,  trivial⟩ ⟨trivial, trivial,  trivial⟩ trivial rfl rfl rfl rfl) rfl rfl rfl rfl rfl ?_
    refine AL.fast 1 rfl ?_
    refine AL.call (n' := 0) (h' := []) (Wanted.plain rfl) (g_call 0 (c_ref_Wrong l  f0 hr0) en80 rfl rfl ⟨⟨_, rfl, .c (.d _)⟩,  trivial⟩ ⟨trivial, trivial,  trivial⟩ trivial rfl rfl rfl rfl) rfl rfl rfl rfl rfl ?_
    refine AL.val (Wanted.plain rfl) (GOp.cast (g_neq (cmp47 _ _ _ _) rfl rfl rfl rfl rfl rfl) (congrArg aB (show (!(sameL [.int .i64 f0.err, .int .i64 f0.at_] [.int .i64 f0.err, .int .i64 f0.at_])) = false by simp [sameL, sameV]))) rfl rfl ?_
    refine AL.fast 3 rfl ?_
    refine AL.call (n' := 0) (h' := []) (Wanted.yes rfl rfl rfl) (g_call 0 (c_book_Get l src  n1 hr1) en81 rfl rfl ⟨⟨_, rfl, .c (.d _)⟩, ⟨_, rfl, .c (.d _)⟩,  trivial⟩ trivial trivial rfl rfl rfl rfl) rfl rfl rfl rfl rfl ?_
    refine AL.fast 2 rfl ?_
    refine AL.call (n' := 0) (h' := []) (Wanted.yes rfl rfl rfl) (g_call 0 (c_ref_Get l src  n1 hr1) en82 rfl rfl ⟨⟨_, rfl, .c (.d _)⟩, ⟨_, rfl, .c (.d _)⟩,  trivial⟩ trivial trivial rfl rfl rfl rfl) rfl rfl rfl rfl rfl ?_
    refine AL.val (Wanted.yes rfl rfl rfl) (g_binI rfl rfl rfl (congrArg (fun b => some (Value.bool b)) (decide_eq_false (fun h => h rfl)))) rfl rfl ?_
    refine AL.fast 1 rfl ?_
    refine AL.nil ?_
    refine then_ok ?_
    exact Weak.popB 14 rfl rfl (by first | (simp []; done) | (simp_all; done) | (exfalso; simp_all; done) | (simp_all; omega)) rfl
  ·
    refine AC.cond rfl (fun hc1 => ?_) (fun hc1 => ?_)
    ·
      have hc1' := hc1; try simp only [sumB, Bool.not_eq_true', Bool.not_eq_false', Bool.or_eq_true, Bool.or_eq_false_iff, Bool.and_eq_true, Bool.and_eq_false_imp, decide_eq_true_eq, decide_eq_false_iff_not, Bool.not_not, Bool.not_true, Bool.not_false] at hc1'
      refine AC.seq ?_
      refine AC.region ?_
      refine AL.fast 1 rfl ?_
      refine AL.nil ?_
      refine then_ok ?_
      refine AC.ret ?_
      refine then_ret ?_
      refine retQ_mk (av' := outOf [(.c (cB false))]) (nb' := []) (retQ_ret ⟨[(10, (aB false))], [], 0⟩ [.tmp 10] [(.c (cB false))] (Weak.ren id (⟨by first | rfl | (simp only [AV.map, GV.map, CV.map, AB.map', id]; done) | (congr 3; omega) | (congr 4; omega) | (simp only [List.length_append, List.length_cons, List.length_nil, List.length_set]; rfl),  trivial⟩) (trivial) rfl) rfl ⟨.tmp rfl, trivial⟩ trivial) ?_ ?_
      · exact congrArg aB (show (false) = true by (simp_all [sameL, sameV, same_self_list]))
      · rfl
    ·
      have hc1' := hc1; try simp only [sumB, Bool.not_eq_true', Bool.not_eq_false', Bool.or_eq_true, Bool.or_eq_false_iff, Bool.and_eq_true, Bool.and_eq_false_imp, decide_eq_true_eq, decide_eq_false_iff_not, Bool.not_not, Bool.not_true, Bool.not_false] at hc1'
      refine AC.skip ?_
      refine then_ok ?_
      refine AC.seq ?_
      refine AC.region ?_
      refine AL.fast 2 rfl ?_
      obtain ⟨r2, e2, hr2⟩ : ∃ (r2 : List Entry) (e2 : Int), postB l es = (r2, e2) := ⟨_, _, rfl⟩
      refine AL.call (n' := 1) (h' := [(0, (.arr 111 2 ((r2).map rEntry)))]) (Wanted.plain rfl) (g_call 0 (c_book_Post l es  r2 e2 hr2) en83 rfl rfl ⟨⟨_, rfl, .c (.d _)⟩, ⟨_, rfl, .c (.d _)⟩,  trivial⟩ ⟨trivial, trivial,  trivial⟩ ⟨(fun _ _ _ _ => trivial),  trivial⟩ rfl rfl rfl rfl) rfl rfl rfl rfl rfl ?_
      refine AL.fast 1 rfl ?_
      refine AL.val (Wanted.plain rfl) (g_extract rfl rfl rfl) rfl rfl ?_
      refine AL.val (Wanted.plain rfl) (g_extract rfl rfl rfl) rfl rfl ?_
      refine AL.fast 2 rfl ?_
      refine AL.nil ?_
      refine then_ok ?_
      refine AC.seq ?_
      refine AC.region ?_
      refine AL.fast 2 rfl ?_
      refine AL.call (n' := 2) (h' := [(1, (.arr 111 2 ((r2).map rEntry))), (0, (.arr 111 2 ((r2).map rEntry)))]) (Wanted.plain rfl) (g_call 1 (c_ref_Post l es  r2 e2 hr2) en84 rfl rfl ⟨⟨_, rfl, .c (.d _)⟩, ⟨_, rfl, .c (.d _)⟩,  trivial⟩ ⟨trivial, trivial,  trivial⟩ ⟨(fun _ _ _ _ => trivial),  trivial⟩ rfl rfl rfl rfl) rfl rfl rfl rfl rfl ?_
      refine AL.fast 1 rfl ?_
      refine AL.val (Wanted.plain rfl) (g_extract rfl rfl rfl) rfl rfl ?_
      refine AL.val (Wanted.plain rfl) (g_extract rfl rfl rfl) rfl rfl ?_
      refine AL.fast 2 rfl ?_
      refine AL.nil ?_
      refine then_ok ?_
      refine AC.seq ?_
      obtain ⟨r3, hr3⟩ : ∃ (r3 : Bool), sameList r2 r2 = r3 := ⟨_, rfl⟩
      refine AC.cutB 49 (false || (!r3)) ?_ ?_
      ·
        refine AC.region ?_
        refine AL.fast 2 rfl ?_
        refine AL.val (Wanted.plain rfl) (g_binI rfl rfl rfl (congrArg (fun b => some (Value.bool b)) (decide_eq_false (fun h => h rfl)))) rfl rfl ?_
        refine AL.fast 3 rfl ?_
        refine AL.call (n' := 2) (h' := [(1, (.arr 111 2 ((r2).map rEntry))), (0, (.arr 111 2 ((r2).map rEntry)))]) (Wanted.yes rfl rfl rfl) (g_callE 2 [0, 1] (c_SameBook r2 r2  r3 hr3) en85 rfl rfl ⟨⟨_, rfl, .c (.s rfl (by decide) (by first | omega | (simp; done) | (simp; omega)))⟩, ⟨_, rfl, .c (.s rfl (by decide) (by first | omega | (simp; done) | (simp; omega)))⟩,  trivial⟩ rfl trivial rfl rfl rfl rfl) rfl rfl rfl rfl rfl ?_
        refine AL.val (Wanted.yes rfl rfl rfl) (g_notB rfl rfl) rfl rfl ?_
        refine AL.fast 1 rfl ?_
        refine AL.nil ?_
        refine then_ok ?_
        exact Weak.popB 9 rfl rfl (by first | (simp []; done) | (simp_all; done) | (exfalso; simp_all; done) | (simp_all; omega)) rfl
      ·
        refine AC.cond rfl (fun hc2 => ?_) (fun hc2 => ?_)
        ·
          have hc2' := hc2; try simp only [sumB, Bool.not_eq_true', Bool.not_eq_false', Bool.or_eq_true, Bool.or_eq_false_iff, Bool.and_eq_true, Bool.and_eq_false_imp, decide_eq_true_eq, decide_eq_false_iff_not, Bool.not_not, Bool.not_true, Bool.not_false] at hc2'
          refine AC.seq ?_
          refine AC.region ?_
          refine AL.fast 1 rfl ?_
          refine AL.nil ?_
          refine then_ok ?_
          refine AC.ret ?_
          refine then_ret ?_
          refine retQ_mk (av' := outOf [(.c (cB false))]) (nb' := []) (retQ_ret ⟨[(10, (aB false))], [], 0⟩ [.tmp 10] [(.c (cB false))] (Weak.ren id (⟨by first | rfl | (simp only [AV.map, GV.map, CV.map, AB.map', id]; done) | (congr 3; omega) | (congr 4; omega) | (simp only [List.length_append, List.length_cons, List.length_nil, List.length_set]; rfl),  trivial⟩) (trivial) rfl) rfl ⟨.tmp rfl, trivial⟩ trivial) ?_ ?_
          · exact congrArg aB (show (false) = true by (simp_all [sameL, sameV, same_self_list]))
          · rfl
        ·
          have hc2' := hc2; try simp only [sumB, Bool.not_eq_true', Bool.not_eq_false', Bool.or_eq_true, Bool.or_eq_false_iff, Bool.and_eq_true, Bool.and_eq_false_imp, decide_eq_true_eq, decide_eq_false_iff_not, Bool.not_not, Bool.not_true, Bool.not_false] at hc2'
          refine AC.skip ?_
          refine then_ok ?_
          refine AC.seq ?_
          refine AC.region ?_
          refine AL.fast 4 rfl ?_
          obtain ⟨r4, e4, hr4⟩ : ∃ (r4 : List Entry) (e4 : Int), moveB l src dst n = (r4, e4) := ⟨_, _, rfl⟩
          refine AL.call (n' := 3) (h' := [(2, (.arr 111 2 ((r4).map rEntry))), (1, (.arr 111 2 ((r2).map rEntry))), (0, (.arr 111 2 ((r2).map rEntry)))]) (Wanted.plain rfl) (g_call 2 (c_book_Move l src dst n  r4 e4 hr4) en86 rfl rfl ⟨⟨_, rfl, .c (.d _)⟩, ⟨_, rfl, .c (.d _)⟩, ⟨_, rfl, .c (.d _)⟩, ⟨_, rfl, .c (.d _)⟩,  trivial⟩ ⟨trivial, trivial,  trivial⟩ ⟨(fun _ _ _ _ => trivial),  trivial⟩ rfl rfl rfl rfl) rfl rfl rfl rfl rfl ?_
          refine AL.fast 1 rfl ?_
          refine AL.val (Wanted.plain rfl) (g_extract rfl rfl rfl) rfl rfl ?_
          refine AL.val (Wanted.plain rfl) (g_extract rfl rfl rfl) rfl rfl ?_
          refine AL.fast 2 rfl ?_
          refine AL.nil ?_
          refine then_ok ?_
          refine AC.seq ?_
          refine AC.region ?_
          refine AL.fast 4 rfl ?_
          refine AL.call (n' := 4) (h' := [(3, (.arr 111 2 ((r4).map rEntry))), (2, (.arr 111 2 ((r4).map rEntry))), (1, (.arr 111 2 ((r2).map rEntry))), (0, (.arr 111 2 ((r2).map rEntry)))]) (Wanted.plain rfl) (g_call 3 (c_ref_Move l src dst n  r4 e4 hr4) en87 rfl rfl ⟨⟨_, rfl, .c (.d _)⟩, ⟨_, rfl, .c (.d _)⟩, ⟨_, rfl, .c (.d _)⟩, ⟨_, rfl, .c (.d _)⟩,  trivial⟩ ⟨trivial, trivial,  trivial⟩ ⟨(fun _ _ _ _ => trivial),  trivial⟩ rfl rfl rfl rfl) rfl rfl rfl rfl rfl ?_
          refine AL.fast 1 rfl ?_
          refine AL.val (Wanted.plain rfl) (g_extract rfl rfl rfl) rfl rfl ?_
          refine AL.val (Wanted.plain rfl) (g_extract rfl rfl rfl) rfl rfl ?_
          refine AL.fast 2 rfl ?_
          refine AL.nil ?_
          refine then_ok ?_
          obtain ⟨r5, hr5⟩ : ∃ (r5 : Bool), sameList r4 r4 = r5 := ⟨_, rfl⟩
          refine AC.cutB 10 (true && r5) ?_ ?_
          ·
            refine AC.region ?_
            refine AL.fast 2 rfl ?_
            refine AL.val (Wanted.plain rfl) (g_binI rfl rfl rfl (congrArg (fun b => some (Value.bool b)) (decide_eq_true rfl))) rfl rfl ?_
            refine AL.fast 3 rfl ?_
            refine AL.call (n' := 4) (h' := [(3, (.arr 111 2 ((r4).map rEntry))), (2, (.arr 111 2 ((r4).map rEntry))), (1, (.arr 111 2 ((r2).map rEntry))), (0, (.arr 111 2 ((r2).map rEntry)))]) (Wanted.yes rfl rfl rfl) (g_callE 4 [2, 3] (c_SameBook r4 r4  r5 hr5) en85 rfl rfl ⟨⟨_, rfl, .c (.s rfl (by decide) (by first | omega | (simp; done) | (simp; omega)))⟩, ⟨_, rfl, .c (.s rfl (by decide) (by first | omega | (simp; done) | (simp; omega)))⟩,  trivial⟩ rfl trivial rfl rfl rfl rfl) rfl rfl rfl rfl rfl ?_
            refine AL.fast 2 rfl ?_
            refine AL.nil ?_
            refine then_ok ?_
            exact Weak.popB 9 rfl rfl (by first | (simp []; done) | (simp_all; done) | (exfalso; simp_all; done) | (simp_all; omega)) rfl
          ·
            refine AC.ret ?_
            refine retQ_mk (av' := outOf [(.c (cB (true && r5)))]) (nb' := []) (retQ_ret ⟨[(10, (aB (true && r5)))], [], 0⟩ [.tmp 10] [(.c (cB (true && r5)))] (Weak.ren id (⟨by first | rfl | (simp only [AV.map, GV.map, CV.map, AB.map', id]; done) | (congr 3; omega) | (congr 4; omega) | (simp only [List.length_append, List.length_cons, List.length_nil, List.length_set]; rfl),  trivial⟩) (trivial) rfl) rfl ⟨.tmp rfl, trivial⟩ trivial) ?_ ?_
            · exact congrArg aB (show (true && r5) = true by (simp_all [sameL, sameV, same_self_list]))
            · rfl
set_option maxRecDepth 100000 in
set_option maxHeartbeats 1000000 in
theorem c_BookRight (l es : List Entry) (a : Int) : Fn Try.prog 23 [(.c (cR 2 ((l).map rEntry))), (.c (cR 2 ((es).map rEntry))), (.c (cI a))] (aB true) [] := by
  refine Fn.mk' 54 [(0, (aC (cR 2 ((l).map rEntry)))), (1, (aC (cR 2 ((es).map rEntry)))), (2, (aI a))] Try.func23 rfl rfl rfl rfl ?_
  intro W0 T0
  refine AC.len1 0 rfl (fun hlen0 => ?_)
  refine AC.len1 1 rfl (fun hlen1 => ?_)
  refine AC.seq ?_
  refine AC.region ?_
  refine AL.fast 1 rfl ?_
  refine AL.nil ?_
  refine then_ok ?_
  refine AC.seq ?_
  refine AC.seq ?_
  refine AC.region ?_
  refine AL.call (n' := 0) (h' := []) (Wanted.plain rfl) (g_call 0 (c_book_alive   ) en88 rfl rfl trivial trivial trivial rfl rfl rfl rfl) rfl rfl rfl rfl rfl ?_
  refine AL.val (Wanted.plain rfl) (g_notB rfl rfl) rfl rfl ?_
  refine AL.nil ?_
  refine then_ok ?_
  refine AC.cond rfl (fun hno => by cases hno) (fun _ => ?_)
  refine AC.skip ?_
  refine then_ok ?_
  refine AC.seq ?_
  refine AC.region ?_
  refine AL.fast 2 rfl ?_
  obtain ⟨r0, e0, hr0⟩ : ∃ (r0 : List Entry) (e0 : Int), postB l es = (r0, e0) := ⟨_, _, rfl⟩
  refine AL.call (n' := 1) (h' := [(0, (.arr 111 2 ((r0).map rEntry)))]) (Wanted.plain rfl) (g_call 0 (c_book_Post l es  r0 e0 hr0) en83 rfl rfl ⟨⟨_, rfl, .c (.d _)⟩, ⟨_, rfl, .c (.d _)⟩,  trivial⟩ ⟨trivial, trivial,  trivial⟩ ⟨(fun _ _ _ _ => trivial),  trivial⟩ rfl rfl rfl rfl) rfl rfl rfl rfl rfl ?_
  refine AL.fast 1 rfl ?_
  refine AL.val (Wanted.plain rfl) (g_extract rfl rfl rfl) rfl rfl ?_
  refine AL.val (Wanted.plain rfl) (g_extract rfl rfl rfl) rfl rfl ?_
  refine AL.fast 2 rfl ?_
  refine AL.nil ?_
  refine then_ok ?_
  refine AC.seq ?_
  refine AC.seq ?_
  refine AC.region ?_
  refine AL.fast 1 rfl ?_
  refine AL.val (Wanted.plain rfl) (g_binI rfl rfl rfl rfl) rfl rfl ?_
  refine AL.nil ?_
  refine then_ok ?_
  refine AC.cond rfl (fun hc2 => ?_) (fun hc2 => ?_)
  ·
    have hc2' := hc2; try simp only [sumB, Bool.not_eq_true', Bool.not_eq_false', Bool.or_eq_true, Bool.or_eq_false_iff, Bool.and_eq_true, Bool.and_eq_false_imp, decide_eq_true_eq, decide_eq_false_iff_not, Bool.not_not, Bool.not_true, Bool.not_false] at hc2'
    refine AC.seq ?_
    refine AC.region ?_
    refine AL.fast 1 rfl ?_
    refine AL.val (Wanted.plain rfl) (g_lenS rfl rfl rfl rfl rfl Try.underlying102) rfl rfl ?_
    refine AL.val (Wanted.plain rfl) (g_binI rfl rfl rfl rfl) rfl rfl ?_
    refine AL.fast 1 rfl ?_
    refine AL.nil ?_
    refine then_ok ?_
    refine AC.ret ?_
    refine then_ret ?_
    refine retQ_mk (av' := outOf [(.c (cB (decide ((↑r0.length : Int) = 0))))]) (nb' := []) (retQ_ret ⟨[(6, (aB (decide ((↑r0.length : Int) = 0))))], [], 0⟩ [.tmp 6] [(.c (cB (decide ((↑r0.length : Int) = 0))))] (Weak.ren id (⟨by first | rfl | (simp only [AV.map, GV.map, CV.map, AB.map', id]; done) | (congr 3; omega) | (congr 4; omega) | (simp only [List.length_append, List.length_cons, List.length_nil, List.length_set]; rfl),  trivial⟩) (trivial) rfl) rfl ⟨.tmp rfl, trivial⟩ trivial) ?_ ?_
    · exact congrArg aB (show (decide ((↑r0.length : Int) = 0)) = true by (rw [postB_bad hr0 (by omega)]; rfl))
    · rfl
  ·
    have hc2' := hc2; try simp only [sumB, Bool.not_eq_true', Bool.not_eq_false', Bool.or_eq_true, Bool.or_eq_false_iff, Bool.and_eq_true, Bool.and_eq_false_imp, decide_eq_true_eq, decide_eq_false_iff_not, Bool.not_not, Bool.not_true, Bool.not_false] at hc2'
    refine AC.skip ?_
    refine then_ok ?_
    refine AC.seq ?_
    refine AC.region ?_
    refine AL.fast 2 rfl ?_
    obtain ⟨n1, hr1⟩ : ∃ (n1 : Int), getE l a = n1 := ⟨_, rfl⟩
    refine AL.call (n' := 1) (h' := [(0, (.arr 111 2 ((r0).map rEntry)))]) (Wanted.plain rfl) (g_call 1 (c_book_Get l a  n1 hr1) en81 rfl rfl ⟨⟨_, rfl, .c (.d _)⟩, ⟨_, rfl, .c (.d _)⟩,  trivial⟩ trivial trivial rfl rfl rfl rfl) rfl rfl rfl rfl rfl ?_
    refine AL.fast 1 rfl ?_
    refine AL.nil ?_
    refine then_ok ?_
    refine AC.seq ?_
    refine AC.seq ?_
    refine AC.region ?_
    refine AL.fast 1 rfl ?_
    refine AL.val (Wanted.plain rfl) (g_lenM rfl rfl rfl rfl rfl Try.underlying102) rfl rfl ?_
    refine AL.fast 1 rfl ?_
    refine AL.nil ?_
    refine then_ok ?_
    refine AC.block ?_
    obtain ⟨hok, hlen, hnb, hse, hpa⟩ := postB_ok (l := l) (es := es) (r := r0) (by rw [hr0]; congr 1; omega)
    have hR : Right l := (wrongB_iff.1 hok).1
    have hgb := getE_bound (a := a) (fun y hy => by have := hR.ok y hy; omega : ∀ x ∈ l, -1000000000000 ≤ x.sum ∧ x.sum ≤ 1000000000000)
    rw [hr1] at hgb
    refine AC.loop (β := Nat) (fun (q : Nat) => ⟨[(2, (aI a)), (6, (aB false)), (7, (aC (.s 0 0 2 r0.length))), (9, (aI (n1 + givenE a (es.take q)))), (28, (aC (cR 2 ((es).map rEntry)))), (29, (aI (↑es.length : Int))), (30, (aI (↑q : Int)))], [(0, (.arr 111 2 ((r0).map rEntry)))], 1⟩) (fun (q : Nat) => q ≤ es.length ∧ -1000000000000 * (q : Int) ≤ givenE a (es.take q) ∧ givenE a (es.take q) ≤ 1000000000000 * (q : Int)) (fun (q : Nat) => es.length - q) 0 ?_ ?_ ?_
    · exact ⟨by omega, by (have h0 : givenE a (es.take 0) = 0 := rfl); omega⟩
    · exact Weak.ren id (⟨by first | rfl | (simp only [AV.map, GV.map, CV.map, AB.map', id]; done) | (congr 3; omega) | (congr 4; omega) | (simp only [List.length_append, List.length_cons, List.length_nil, List.length_set]; rfl) | (rw [show givenE a (es.take 0) = 0 from rfl, Int.add_zero]; rfl), by first | rfl | (simp only [AV.map, GV.map, CV.map, AB.map', id]; done) | (congr 3; omega) | (congr 4; omega) | (simp only [List.length_append, List.length_cons, List.length_nil, List.length_set]; rfl) | (rw [show givenE a (es.take 0) = 0 from rfl, Int.add_zero]; rfl), by first | rfl | (simp only [AV.map, GV.map, CV.map, AB.map', id]; done) | (congr 3; omega) | (congr 4; omega) | (simp only [List.length_append, List.length_cons, List.length_nil, List.length_set]; rfl) | (rw [show givenE a (es.take 0) = 0 from rfl, Int.add_zero]; rfl), by first | rfl | (simp only [AV.map, GV.map, CV.map, AB.map', id]; done) | (congr 3; omega) | (congr 4; omega) | (simp only [List.length_append, List.length_cons, List.length_nil, List.length_set]; rfl) | (rw [show givenE a (es.take 0) = 0 from rfl, Int.add_zero]; rfl), by first | rfl | (simp only [AV.map, GV.map, CV.map, AB.map', id]; done) | (congr 3; omega) | (congr 4; omega) | (simp only [List.length_append, List.length_cons, List.length_nil, List.length_set]; rfl) | (rw [show givenE a (es.take 0) = 0 from rfl, Int.add_zero]; rfl), by first | rfl | (simp only [AV.map, GV.map, CV.map, AB.map', id]; done) | (congr 3; omega) | (congr 4; omega) | (simp only [List.length_append, List.length_cons, List.length_nil, List.length_set]; rfl) | (rw [show givenE a (es.take 0) = 0 from rfl, Int.add_zero]; rfl), by first | rfl | (simp only [AV.map, GV.map, CV.map, AB.map', id]; done) | (congr 3; omega) | (congr 4; omega) | (simp only [List.length_append, List.length_cons, List.length_nil, List.length_set]; rfl) | (rw [show givenE a (es.take 0) = 0 from rfl, Int.add_zero]; rfl),  trivial⟩) (⟨by first | rfl | (simp only [AV.map, GV.map, CV.map, AB.map', id]; done) | (congr 3; omega) | (congr 4; omega) | (simp only [List.length_append, List.length_cons, List.length_nil, List.length_set]; rfl),  trivial⟩) rfl
    ·
      rintro q ⟨hi0_0, hi0_1⟩
      refine AC.seq ?_
      refine AC.region ?_
      refine AL.val (Wanted.plain rfl) (g_binI rfl rfl rfl rfl) rfl rfl ?_
      refine AL.nil ?_
      refine then_ok ?_
      refine AC.seq ?_
      refine AC.cond rfl (fun hc3 => ?_) (fun hc3 => ?_)
      ·
        have hc3' := hc3; try simp only [sumB, Bool.not_eq_true', Bool.not_eq_false', Bool.or_eq_true, Bool.or_eq_false_iff, Bool.and_eq_true, Bool.and_eq_false_imp, decide_eq_true_eq, decide_eq_false_iff_not, Bool.not_not, Bool.not_true, Bool.not_false] at hc3'
        refine AC.skip ?_
        refine then_ok ?_
        refine AC.seq ?_
        refine AC.block ?_
        refine AC.seq ?_
        refine AC.region ?_
        obtain ⟨x1, hx1⟩ := exget (xs := es) (i := q) (by first | omega | (simp; done) | (simp; omega))
        have hx1n := hnb x1 (List.mem_of_getElem? hx1)
        unfold badE at hx1n
        refine AL.val (Wanted.plain rfl) (g_indexQ (i := q) rfl rfl rfl Try.underlying102 sz111 (by first | omega | (simp; done) | (simp; omega)) (getmap hx1)) rfl rfl ?_
        refine AL.val (Wanted.plain rfl) (g_loadQs rfl rfl Try.underlying111 rfl sz111 rfl rfl) rfl rfl ?_
        refine AL.new (n' := 2) (Wanted.plain rfl) (g_alloc 1 rfl zv111 rfl rfl rfl) rfl rfl rfl ?_
        refine AL.sto (h' := [(1, (.box 111 [(cI x1.account), (cI x1.sum)])), (0, (.arr 111 2 ((r0).map rEntry)))]) (Wanted.plain rfl) (g_storeB rfl rfl rfl rfl rfl sz111 rfl (Nat.le_of_ble_eq_true rfl) rfl) rfl rfl rfl rfl ?_
        refine AL.nil ?_
        refine then_ok ?_
        refine AC.seq ?_
        refine AC.region ?_
        refine AL.val (Wanted.plain rfl) (g_fieldP rfl rfl Try.underlying111 rfl sz3 (by decide)) rfl rfl ?_
        refine AL.val (Wanted.plain rfl) (g_loadB rfl rfl rfl Try.underlying3 rfl rfl) rfl rfl ?_
        refine AL.fast 1 rfl ?_
        refine AL.val (Wanted.plain rfl) (g_binI rfl rfl rfl rfl) rfl rfl ?_
        refine AL.nil ?_
        refine then_ok ?_
        refine AC.cond rfl (fun hc4 => ?_) (fun hc4 => ?_)
        ·
          have hc4' := hc4; try simp only [sumB, Bool.not_eq_true', Bool.not_eq_false', Bool.or_eq_true, Bool.or_eq_false_iff, Bool.and_eq_true, Bool.and_eq_false_imp, decide_eq_true_eq, decide_eq_false_iff_not, Bool.not_not, Bool.not_true, Bool.not_false] at hc4'
          refine AC.region ?_
          refine AL.fast 1 rfl ?_
          refine AL.val (Wanted.plain rfl) (g_fieldP rfl rfl Try.underlying111 rfl sz3 (by decide)) rfl rfl ?_
          refine AL.val (Wanted.plain rfl) (g_loadB rfl rfl rfl Try.underlying3 rfl rfl) rfl rfl ?_
          refine AL.val (Wanted.plain rfl) (g_binI rfl rfl rfl (wrap_ok (by first | omega | (simp; done) | (simp; omega)))) rfl rfl ?_
          refine AL.fast 1 rfl ?_
          refine AL.nil ?_
          refine block_ok ?_
          refine then_ok ?_
          refine AC.region ?_
          refine AL.val (Wanted.plain rfl) (g_binI rfl rfl rfl (wrap_ok (by first | omega | (simp; done) | (simp; omega)))) rfl rfl ?_
          refine AL.fast 1 rfl ?_
          refine AL.nil ?_
          refine then_ok ?_
          refine ⟨q + 1, ⟨by omega, by (rw [givenE_take hx1]; split <;> omega)⟩, by first | omega | (simp; done) | (simp; omega), Weak.ren id (⟨by first | rfl | (simp only [AV.map, GV.map, CV.map, AB.map', id]; done) | (congr 3; omega) | (congr 4; omega) | (simp only [List.length_append, List.length_cons, List.length_nil, List.length_set]; rfl) | (first | (rw [givenE_take hx1, if_pos (by omega), ← Int.add_assoc]; rfl) | (rw [givenE_take hx1, if_neg (by omega), Int.add_zero]; rfl)), by first | rfl | (simp only [AV.map, GV.map, CV.map, AB.map', id]; done) | (congr 3; omega) | (congr 4; omega) | (simp only [List.length_append, List.length_cons, List.length_nil, List.length_set]; rfl) | (first | (rw [givenE_take hx1, if_pos (by omega), ← Int.add_assoc]; rfl) | (rw [givenE_take hx1, if_neg (by omega), Int.add_zero]; rfl)), by first | rfl | (simp only [AV.map, GV.map, CV.map, AB.map', id]; done) | (congr 3; omega) | (congr 4; omega) | (simp only [List.length_append, List.length_cons, List.length_nil, List.length_set]; rfl) | (first | (rw [givenE_take hx1, if_pos (by omega), ← Int.add_assoc]; rfl) | (rw [givenE_take hx1, if_neg (by omega), Int.add_zero]; rfl)), by first | rfl | (simp only [AV.map, GV.map, CV.map, AB.map', id]; done) | (congr 3; omega) | (congr 4; omega) | (simp only [List.length_append, List.length_cons, List.length_nil, List.length_set]; rfl) | (first | (rw [givenE_take hx1, if_pos (by omega), ← Int.add_assoc]; rfl) | (rw [givenE_take hx1, if_neg (by omega), Int.add_zero]; rfl)), by first | rfl | (simp only [AV.map, GV.map, CV.map, AB.map', id]; done) | (congr 3; omega) | (congr 4; omega) | (simp only [List.length_append, List.length_cons, List.length_nil, List.length_set]; rfl) | (first | (rw [givenE_take hx1, if_pos (by omega), ← Int.add_assoc]; rfl) | (rw [givenE_take hx1, if_neg (by omega), Int.add_zero]; rfl)), by first | rfl | (simp only [AV.map, GV.map, CV.map, AB.map', id]; done) | (congr 3; omega) | (congr 4; omega) | (simp only [List.length_append, List.length_cons, List.length_nil, List.length_set]; rfl) | (first | (rw [givenE_take hx1, if_pos (by omega), ← Int.add_assoc]; rfl) | (rw [givenE_take hx1, if_neg (by omega), Int.add_zero]; rfl)), by first | rfl | (simp only [AV.map, GV.map, CV.map, AB.map', id]; done) | (congr 3; omega) | (congr 4; omega) | (simp only [List.length_append, List.length_cons, List.length_nil, List.length_set]; rfl) | (first | (rw [givenE_take hx1, if_pos (by omega), ← Int.add_assoc]; rfl) | (rw [givenE_take hx1, if_neg (by omega), Int.add_zero]; rfl)),  trivial⟩) (⟨by first | rfl | (simp only [AV.map, GV.map, CV.map, AB.map', id]; done) | (congr 3; omega) | (congr 4; omega) | (simp only [List.length_append, List.length_cons, List.length_nil, List.length_set]; rfl),  trivial⟩) rfl⟩
        ·
          have hc4' := hc4; try simp only [sumB, Bool.not_eq_true', Bool.not_eq_false', Bool.or_eq_true, Bool.or_eq_false_iff, Bool.and_eq_true, Bool.and_eq_false_imp, decide_eq_true_eq, decide_eq_false_iff_not, Bool.not_not, Bool.not_true, Bool.not_false] at hc4'
          refine AC.skip ?_
          refine block_ok ?_
          refine then_ok ?_
          refine AC.region ?_
          refine AL.val (Wanted.plain rfl) (g_binI rfl rfl rfl (wrap_ok (by first | omega | (simp; done) | (simp; omega)))) rfl rfl ?_
          refine AL.fast 1 rfl ?_
          refine AL.nil ?_
          refine then_ok ?_
          refine ⟨q + 1, ⟨by omega, by (rw [givenE_take hx1]; split <;> omega)⟩, by first | omega | (simp; done) | (simp; omega), Weak.ren id (⟨by first | rfl | (simp only [AV.map, GV.map, CV.map, AB.map', id]; done) | (congr 3; omega) | (congr 4; omega) | (simp only [List.length_append, List.length_cons, List.length_nil, List.length_set]; rfl) | (first | (rw [givenE_take hx1, if_pos (by omega), ← Int.add_assoc]; rfl) | (rw [givenE_take hx1, if_neg (by omega), Int.add_zero]; rfl)), by first | rfl | (simp only [AV.map, GV.map, CV.map, AB.map', id]; done) | (congr 3; omega) | (congr 4; omega) | (simp only [List.length_append, List.length_cons, List.length_nil, List.length_set]; rfl) | (first | (rw [givenE_take hx1, if_pos (by omega), ← Int.add_assoc]; rfl) | (rw [givenE_take hx1, if_neg (by omega), Int.add_zero]; rfl)), by first | rfl | (simp only [AV.map, GV.map, CV.map, AB.map', id]; done) | (congr 3; omega) | (congr 4; omega) | (simp only [List.length_append, List.length_cons, List.length_nil, List.length_set]; rfl) | (first | (rw [givenE_take hx1, if_pos (by omega), ← Int.add_assoc]; rfl) | (rw [givenE_take hx1, if_neg (by omega), Int.add_zero]; rfl)), by first | rfl | (simp only [AV.map, GV.map, CV.map, AB.map', id]; done) | (congr 3; omega) | (congr 4; omega) | (simp only [List.length_append, List.length_cons, List.length_nil, List.length_set]; rfl) | (first | (rw [givenE_take hx1, if_pos (by omega), ← Int.add_assoc]; rfl) | (rw [givenE_take hx1, if_neg (by omega), Int.add_zero]; rfl)), by first | rfl | (simp only [AV.map, GV.map, CV.map, AB.map', id]; done) | (congr 3; omega) | (congr 4; omega) | (simp only [List.length_append, List.length_cons, List.length_nil, List.length_set]; rfl) | (first | (rw [givenE_take hx1, if_pos (by omega), ← Int.add_assoc]; rfl) | (rw [givenE_take hx1, if_neg (by omega), Int.add_zero]; rfl)), by first | rfl | (simp only [AV.map, GV.map, CV.map, AB.map', id]; done) | (congr 3; omega) | (congr 4; omega) | (simp only [List.length_append, List.length_cons, List.length_nil, List.length_set]; rfl) | (first | (rw [givenE_take hx1, if_pos (by omega), ← Int.add_assoc]; rfl) | (rw [givenE_take hx1, if_neg (by omega), Int.add_zero]; rfl)), by first | rfl | (simp only [AV.map, GV.map, CV.map, AB.map', id]; done) | (congr 3; omega) | (congr 4; omega) | (simp only [List.length_append, List.length_cons, List.length_nil, List.length_set]; rfl) | (first | (rw [givenE_take hx1, if_pos (by omega), ← Int.add_assoc]; rfl) | (rw [givenE_take hx1, if_neg (by omega), Int.add_zero]; rfl)),  trivial⟩) (⟨by first | rfl | (simp only [AV.map, GV.map, CV.map, AB.map', id]; done) | (congr 3; omega) | (congr 4; omega) | (simp only [List.length_append, List.length_cons, List.length_nil, List.length_set]; rfl),  trivial⟩) rfl⟩
      ·
        have hc3' := hc3; try simp only [sumB, Bool.not_eq_true', Bool.not_eq_false', Bool.or_eq_true, Bool.or_eq_false_iff, Bool.and_eq_true, Bool.and_eq_false_imp, decide_eq_true_eq, decide_eq_false_iff_not, Bool.not_not, Bool.not_true, Bool.not_false] at hc3'
        refine AC.exit ?_
        refine then_exit ?_
        refine then_exit ?_
        refine block_hit ?_
        refine then_ok ?_
        obtain ⟨f2, hr2⟩ : ∃ (f2 : Fault), wrongB r0 = f2 := ⟨_, rfl⟩
        obtain ⟨n3, hr3⟩ : ∃ (n3 : Int), getE r0 a = n3 := ⟨_, rfl⟩
        refine AC.cutB 6 ((decide (f2.err = 0)) && (decide (n3 = (n1 + givenE a (es.take q))))) ?_ ?_
        ·
          refine AC.region ?_
          refine AL.fast 1 rfl ?_
          refine AL.call (n' := 1) (h' := [(0, (.arr 111 2 ((r0).map rEntry)))]) (Wanted.plain rfl) (g_callE 1 [0] (c_book_Wrong r0  f2 hr2) en79 rfl rfl ⟨⟨_, rfl, .c (.s rfl (by decide) (by first | omega | (simp; done) | (simp; omega)))⟩,  trivial⟩ ⟨rfl, rfl,  trivial⟩ trivial rfl rfl rfl rfl) rfl rfl rfl rfl rfl ?_
          refine AL.val (Wanted.plain rfl) (g_field1 rfl rfl Try.underlying47 rfl Try.underlying27 rfl rfl) rfl rfl ?_
          refine AL.val (Wanted.plain rfl) (g_binI rfl rfl rfl rfl) rfl rfl ?_
          refine AL.fast 1 rfl ?_
          refine AL.dec (t := 47) rfl (fun hb5 => ?_) (fun hb5 => ?_)
          ·
            have hb5' := hb5; try simp only [sumB, Bool.not_eq_true', Bool.not_eq_false', Bool.or_eq_true, Bool.or_eq_false_iff, Bool.and_eq_true, Bool.and_eq_false_imp, decide_eq_true_eq, decide_eq_false_iff_not, Bool.not_not, Bool.not_true, Bool.not_false] at hb5'
            refine AL.fast 2 rfl ?_
            refine AL.call (n' := 1) (h' := [(0, (.arr 111 2 ((r0).map rEntry)))]) (Wanted.yes rfl rfl rfl) (g_callE 1 [0] (c_book_Get r0 a  n3 hr3) en81 rfl rfl ⟨⟨_, rfl, .c (.s rfl (by decide) (by first | omega | (simp; done) | (simp; omega)))⟩, ⟨_, rfl, .c (.d _)⟩,  trivial⟩ rfl trivial rfl rfl rfl rfl) rfl rfl rfl rfl rfl ?_
            refine AL.fast 1 rfl ?_
            refine AL.val (Wanted.yes rfl rfl rfl) (g_binI rfl rfl rfl rfl) rfl rfl ?_
            refine AL.fast 2 rfl ?_
            refine AL.nil ?_
            refine then_ok ?_
            exact Weak.popB 13 rfl rfl (by first | (simp [hb5]; done) | (simp_all; done) | (exfalso; simp_all; done) | (simp_all; omega)) rfl
          ·
            have hb5' := hb5; try simp only [sumB, Bool.not_eq_true', Bool.not_eq_false', Bool.or_eq_true, Bool.or_eq_false_iff, Bool.and_eq_true, Bool.and_eq_false_imp, decide_eq_true_eq, decide_eq_false_iff_not, Bool.not_not, Bool.not_true, Bool.not_false] at hb5'
            refine AL.fast 7 rfl ?_
            refine AL.nil ?_
            refine then_ok ?_
            exact Weak.popB 13 rfl rfl (by first | (simp [hb5]; done) | (simp_all; done) | (exfalso; simp_all; done) | (simp_all; omega)) rfl
        ·
          refine AC.ret ?_
          refine retQ_mk (av' := outOf [(.c (cB ((decide (f2.err = 0)) && (decide (n3 = (n1 + givenE a (es.take q)))))))]) (nb' := []) (retQ_ret ⟨[(6, (aB ((decide (f2.err = 0)) && (decide (n3 = (n1 + givenE a (es.take q)))))))], [], 0⟩ [.tmp 6] [(.c (cB ((decide (f2.err = 0)) && (decide (n3 = (n1 + givenE a (es.take q)))))))] (Weak.ren id (⟨by first | rfl | (simp only [AV.map, GV.map, CV.map, AB.map', id]; done) | (congr 3; omega) | (congr 4; omega) | (simp only [List.length_append, List.length_cons, List.length_nil, List.length_set]; rfl),  trivial⟩) (trivial) rfl) rfl ⟨.tmp rfl, trivial⟩ trivial) ?_ ?_
          · exact congrArg aB (show ((decide (f2.err = 0)) && (decide (n3 = (n1 + givenE a (es.take q))))) = true by (obtain rfl : e0 = 0 := (by omega); obtain ⟨hw, hg⟩ := right_posted hr0 a; first | (exfalso; simp_all; done) | (have hq : es.take q = es := List.take_of_length_le (by omega); rw [hq] at *; simp_all; done) | (have hq : es.take q = es := List.take_of_length_le (by omega); rw [hq]; simp_all; omega)))
          · rfl
end Go.Proofs.Ytgmcdlfmifijlaa.Dev
