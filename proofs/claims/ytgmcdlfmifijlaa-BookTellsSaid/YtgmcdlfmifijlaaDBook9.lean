/- book.Move, payref1.Move, paylaw1: alive. -/
import Derived.Test.YtgmcdlfmifijlaaDBook8
set_option linter.unusedVariables false
set_option linter.unusedSimpArgs false
namespace Go.Proofs.Ytgmcdlfmifijlaa.Dev
open Go.RowKit


def moveB (l : List Entry) (src dst n : Int) : List Entry × Int := if n < 0 ∨ n > 1000000000000 then ([], 3) else postB l [⟨src, 0 - n⟩, ⟨dst, n⟩]
theorem wrongB_nonzero {l : List Entry} (h : (wrongB l).err ≠ 0) : True := trivial
theorem postB_ok {l es r : List Entry} (h : postB l es = (r, 0)) : (wrongB l).err = 0 ∧ es.length ≤ 10 ∧ (∀ x ∈ es, ¬ badE x) ∧ sumE es = 0 ∧ putAll l es = some r := by
  unfold postB at h
  split at h
  · rename_i h0; injection h with _ h1; exact absurd h1 h0
  rename_i h0
  split at h
  · injection h with _ h1; cases h1
  rename_i h1
  split at h
  · injection h with _ h1; cases h1
  rename_i h2
  split at h
  · injection h with _ h1; cases h1
  rename_i h3
  split at h
  · rename_i r' hr
    injection h with h4 _
    subst h4
    exact ⟨by omega, by omega, fun x hx hb => h2 ⟨x, hx, hb⟩, by omega, hr⟩
  · injection h with _ h1; cases h1
theorem postB_bad {l es r : List Entry} {e : Int} (h : postB l es = (r, e)) (he : ¬ e = 0) : r = [] := by
  unfold postB at h
  split at h
  · injection h with h1 _; exact h1.symm
  split at h
  · injection h with h1 _; exact h1.symm
  split at h
  · injection h with h1 _; exact h1.symm
  split at h
  · injection h with h1 _; exact h1.symm
  split at h
  · injection h with _ h1; omega
  · injection h with h1 _; exact h1.symm
theorem givenE_append (a : Int) (l r : List Entry) : givenE a (l ++ r) = givenE a l + givenE a r := by
  induction l with
  | nil => simp [givenE]
  | cons x l ih => simp only [List.cons_append, givenE, ih]; omega
theorem givenE_take {es : List Entry} {q : Nat} {x : Entry} {a : Int} (h : es[q]? = some x) : givenE a (es.take (q + 1)) = givenE a (es.take q) + (if x.account = a then x.sum else 0) := by
  rw [take_snoc h, givenE_append]; simp [givenE]
theorem right_posted {l es r : List Entry} (h : postB l es = (r, 0)) (a : Int) : (wrongB r).err = 0 ∧ getE r a = getE l a + givenE a es := by
  obtain ⟨h1, h2, h3, h4, h5⟩ := postB_ok h
  obtain ⟨h6, h7⟩ := wrongB_iff.1 h1
  obtain ⟨h8, h9⟩ := putAll_right h6 h3 h5
  exact ⟨wrongB_iff.2 ⟨h8, by omega⟩, putAll_get h6.up h5⟩

set_option maxRecDepth 100000 in
set_option maxHeartbeats 1000000 in
theorem c_book_Move (l : List Entry) (src dst n : Int) (r : List Entry) (e : Int) (hr : moveB l src dst n = (r, e)) : Fn Try.prog 86 [(.c (cR 2 ((l).map rEntry))), (.c (cI src)), (.c (cI dst)), (.c (cI n))] (.t [(.c (.s 0 0 2 r.length)), (.c (cI e))]) [(0, (.arr 111 2 ((r).map rEntry)))] := by
  refine Fn.mk' 28 [(0, (aC (cR 2 ((l).map rEntry)))), (1, (aI src)), (2, (aI dst)), (3, (aI n))] Try.func86 rfl rfl rfl rfl ?_
  intro W0 T0
  refine AC.len1 0 rfl (fun hlen0 => ?_)
  refine AC.seq ?_
  refine AC.region ?_
  refine AL.fast 2 rfl ?_
  refine AL.nil ?_
  refine then_ok ?_
  refine AC.seq ?_
  refine AC.cutB 15 ((decide (n < 0)) || (decide (n > 1000000000000))) ?_ ?_
  ·
    refine AC.region ?_
    refine AL.fast 1 rfl ?_
    refine AL.val (Wanted.plain rfl) (g_binI rfl rfl rfl rfl) rfl rfl ?_
    refine AL.fast 1 rfl ?_
    refine AL.dec (t := 12) rfl (fun hb1 => ?_) (fun hb1 => ?_)
    ·
      have hb1' := hb1; try simp only [sumB, Bool.not_eq_true', Bool.not_eq_false', Bool.or_eq_true, Bool.or_eq_false_iff, Bool.and_eq_true, Bool.and_eq_false_imp, decide_eq_true_eq, decide_eq_false_iff_not, Bool.not_not, Bool.not_true, Bool.not_false] at hb1'
      refine AL.fast 3 rfl ?_
      refine AL.nil ?_
      refine then_ok ?_
      exact Weak.popB 7 rfl rfl (by first | (simp [hb1]; done) | (simp_all; done) | (exfalso; simp_all; done) | (simp_all; omega)) rfl
    ·
      have hb1' := hb1; try simp only [sumB, Bool.not_eq_true', Bool.not_eq_false', Bool.or_eq_true, Bool.or_eq_false_iff, Bool.and_eq_true, Bool.and_eq_false_imp, decide_eq_true_eq, decide_eq_false_iff_not, Bool.not_not, Bool.not_true, Bool.not_false] at hb1'
      refine AL.fast 1 rfl ?_
      refine AL.val (Wanted.yes rfl rfl rfl) (g_binI rfl rfl rfl rfl) rfl rfl ?_
      refine AL.fast 1 rfl ?_
      refine AL.nil ?_
      refine then_ok ?_
      exact Weak.popB 7 rfl rfl (by first | (simp [hb1]; done) | (simp_all; done) | (exfalso; simp_all; done) | (simp_all; omega)) rfl
  ·
    refine AC.cond rfl (fun hc2 => ?_) (fun hc2 => ?_)
    ·
      have hc2' := hc2; try simp only [sumB, Bool.not_eq_true', Bool.not_eq_false', Bool.or_eq_true, Bool.or_eq_false_iff, Bool.and_eq_true, Bool.and_eq_false_imp, decide_eq_true_eq, decide_eq_false_iff_not, Bool.not_not, Bool.not_true, Bool.not_false] at hc2'
      refine AC.seq ?_
      refine AC.region ?_
      refine AL.fast 2 rfl ?_
      refine AL.nil ?_
      refine then_ok ?_
      refine AC.ret ?_
      refine then_ret ?_
      refine retQ_weak (Weak.nil 8 111 2 (by decide) rfl) ?_
      have hX : moveB l src dst n = (([] : List Entry), 3) := by
        unfold moveB; rw [if_pos (by omega)]
      rw [hX] at hr; clear hX
      simp only [Prod.mk.injEq] at hr; obtain ⟨rfl, rfl⟩ := hr
      refine retQ_mk (av' := outOf [(.c (.s 0 0 2 0)), (.c (cI 3))]) (nb' := [(0, (.arr 111 2 ((([] : List Entry)).map rEntry)))]) (retQ_ret ⟨[(8, (aC (.s 0 0 2 0))), (9, (aI 3))], [(0, (.arr 111 2 ((([] : List Entry)).map rEntry)))], 1⟩ [.tmp 8, .tmp 9] [(.c (.s 0 0 2 0)), (.c (cI 3))] (Weak.ren (fun k => if k = 0 then 0 else k) (⟨by first | rfl | (simp only [AV.map, GV.map, CV.map, AB.map', id]; done) | (congr 3; omega) | (congr 4; omega) | (simp only [List.length_append, List.length_cons, List.length_nil, List.length_set]; rfl), by first | rfl | (simp only [AV.map, GV.map, CV.map, AB.map', id]; done) | (congr 3; omega) | (congr 4; omega) | (simp only [List.length_append, List.length_cons, List.length_nil, List.length_set]; rfl),  trivial⟩) (⟨by first | rfl | (simp only [AV.map, GV.map, CV.map, AB.map', id]; done) | (congr 3; omega) | (congr 4; omega) | (simp only [List.length_append, List.length_cons, List.length_nil, List.length_set]; rfl),  trivial⟩) rfl) rfl ⟨.tmp rfl, .tmp rfl, trivial⟩ ⟨by first | rfl | (simp only [AV.map, GV.map, CV.map, AB.map', id]; done) | (congr 3; omega) | (congr 4; omega) | (simp only [List.length_append, List.length_cons, List.length_nil, List.length_set]; rfl),  trivial⟩) ?_ ?_
      · first | rfl | (simp [outOf, aC]; done) | (simp [outOf, aC]; omega)
      · first | rfl | (simp; done) | (simp; omega)
    ·
      have hc2' := hc2; try simp only [sumB, Bool.not_eq_true', Bool.not_eq_false', Bool.or_eq_true, Bool.or_eq_false_iff, Bool.and_eq_true, Bool.and_eq_false_imp, decide_eq_true_eq, decide_eq_false_iff_not, Bool.not_not, Bool.not_true, Bool.not_false] at hc2'
      refine AC.skip ?_
      refine then_ok ?_
      refine AC.seq ?_
      refine AC.region ?_
      refine AL.fast 3 rfl ?_
      refine AL.val (Wanted.plain rfl) (g_negI rfl rfl (wrap_ok (by first | omega | (simp; done) | (simp; omega)))) rfl rfl ?_
      refine AL.val (Wanted.plain rfl) (g_build (ys := [(0, (.c (cI src))), (1, (.c (cI (0 - n))))]) rfl bld111 rfl ⟨⟨rfl, rfl⟩, ⟨rfl, rfl⟩,  trivial⟩ rfl rfl) rfl rfl ?_
      refine AL.fast 2 rfl ?_
      refine AL.val (Wanted.plain rfl) (g_build (ys := [(0, (.c (cI dst))), (1, (.c (cI n)))]) rfl bld111 rfl ⟨⟨rfl, rfl⟩, ⟨rfl, rfl⟩,  trivial⟩ rfl rfl) rfl rfl ?_
      refine AL.new (n' := 1) (Wanted.plain rfl) (g_lit (ys := [(0, (.g [(cI src), (cI (0 - n))])), (1, (.g [(cI dst), (cI n)]))]) (rows := ([(⟨src, 0 - n⟩ : Entry), (⟨dst, n⟩ : Entry)]).map rEntry) 0 sl102 rfl (by decide) ⟨⟨rfl, rfl⟩, ⟨rfl, rfl⟩,  trivial⟩ rfl rfl rfl rfl) rfl rfl rfl ?_
      obtain ⟨r0, e0, hr0⟩ : ∃ (r0 : List Entry) (e0 : Int), postB l ([(⟨src, 0 - n⟩ : Entry), (⟨dst, n⟩ : Entry)]) = (r0, e0) := ⟨_, _, rfl⟩
      refine AL.call (n' := 2) (h' := [(1, (.arr 111 2 ((r0).map rEntry))), (0, (.arr 111 2 (([(⟨src, 0 - n⟩ : Entry), (⟨dst, n⟩ : Entry)]).map rEntry)))]) (Wanted.plain rfl) (g_callE 1 [0] (c_book_Post l ([(⟨src, 0 - n⟩ : Entry), (⟨dst, n⟩ : Entry)])  r0 e0 hr0) en83 rfl rfl ⟨⟨_, rfl, .c (.d _)⟩, ⟨_, rfl, .c (.s rfl (by decide) (by first | omega | (simp; done) | (simp; omega)))⟩,  trivial⟩ ⟨trivial, rfl,  trivial⟩ ⟨(isv_rEntry _),  trivial⟩ rfl rfl rfl rfl) rfl rfl rfl rfl rfl ?_
      refine AL.val (Wanted.plain rfl) (g_extract rfl rfl rfl) rfl rfl ?_
      refine AL.val (Wanted.plain rfl) (g_extract rfl rfl rfl) rfl rfl ?_
      refine AL.fast 2 rfl ?_
      refine AL.nil ?_
      refine then_ok ?_
      refine AC.ret ?_
      have hX : moveB l src dst n = (r0, e0) := by
        unfold moveB; rw [if_neg (by omega)]; assumption
      rw [hX] at hr; clear hX
      simp only [Prod.mk.injEq] at hr; obtain ⟨rfl, rfl⟩ := hr
      refine retQ_mk (av' := outOf [(.c (.s 0 0 2 r0.length)), (.c (cI e0))]) (nb' := [(0, (.arr 111 2 ((r0).map rEntry)))]) (retQ_ret ⟨[(8, (aC (.s 0 0 2 r0.length))), (9, (aI e0))], [(0, (.arr 111 2 ((r0).map rEntry)))], 1⟩ [.tmp 8, .tmp 9] [(.c (.s 0 0 2 r0.length)), (.c (cI e0))] (Weak.ren (fun k => if k = 0 then 1 else k) (⟨by first | rfl | (simp only [AV.map, GV.map, CV.map, AB.map', id]; done) | (congr 3; omega) | (congr 4; omega) | (simp only [List.length_append, List.length_cons, List.length_nil, List.length_set]; rfl), by first | rfl | (simp only [AV.map, GV.map, CV.map, AB.map', id]; done) | (congr 3; omega) | (congr 4; omega) | (simp only [List.length_append, List.length_cons, List.length_nil, List.length_set]; rfl),  trivial⟩) (⟨by first | rfl | (simp only [AV.map, GV.map, CV.map, AB.map', id]; done) | (congr 3; omega) | (congr 4; omega) | (simp only [List.length_append, List.length_cons, List.length_nil, List.length_set]; rfl),  trivial⟩) rfl) rfl ⟨.tmp rfl, .tmp rfl, trivial⟩ ⟨by first | rfl | (simp only [AV.map, GV.map, CV.map, AB.map', id]; done) | (congr 3; omega) | (congr 4; omega) | (simp only [List.length_append, List.length_cons, List.length_nil, List.length_set]; rfl),  trivial⟩) ?_ ?_
      · first | rfl | (simp [outOf, aC]; done) | (simp [outOf, aC]; omega)
      · first | rfl | (simp; done) | (simp; omega)
set_option maxRecDepth 100000 in
set_option maxHeartbeats 1000000 in
theorem c_ref_Move (l : List Entry) (src dst n : Int) (r : List Entry) (e : Int) (hr : moveB l src dst n = (r, e)) : Fn Try.prog 87 [(.c (cR 2 ((l).map rEntry))), (.c (cI src)), (.c (cI dst)), (.c (cI n))] (.t [(.c (.s 0 0 2 r.length)), (.c (cI e))]) [(0, (.arr 111 2 ((r).map rEntry)))] := by
  refine Fn.mk' 28 [(0, (aC (cR 2 ((l).map rEntry)))), (1, (aI src)), (2, (aI dst)), (3, (aI n))] Try.func87 rfl rfl rfl rfl ?_
  intro W0 T0
  refine AC.len1 0 rfl (fun hlen0 => ?_)
  refine AC.seq ?_
  refine AC.region ?_
  refine AL.fast 2 rfl ?_
  refine AL.nil ?_
  refine then_ok ?_
  refine AC.seq ?_
  refine AC.cutB 15 ((decide (n < 0)) || (decide (n > 1000000000000))) ?_ ?_
  ·
    refine AC.region ?_
    refine AL.fast 1 rfl ?_
    refine AL.val (Wanted.plain rfl) (g_binI rfl rfl rfl rfl) rfl rfl ?_
    refine AL.fast 1 rfl ?_
    refine AL.dec (t := 12) rfl (fun hb1 => ?_) (fun hb1 => ?_)
    ·
      have hb1' := hb1; try simp only [sumB, Bool.not_eq_true', Bool.not_eq_false', Bool.or_eq_true, Bool.or_eq_false_iff, Bool.and_eq_true, Bool.and_eq_false_imp, decide_eq_true_eq, decide_eq_false_iff_not, Bool.not_not, Bool.not_true, Bool.not_false] at hb1'
      refine AL.fast 3 rfl ?_
      refine AL.nil ?_
      refine then_ok ?_
      exact Weak.popB 7 rfl rfl (by first | (simp [hb1]; done) | (simp_all; done) | (exfalso; simp_all; done) | (simp_all; omega)) rfl
    ·
      have hb1' := hb1; try simp only [sumB, Bool.not_eq_true', Bool.not_eq_false', Bool.or_eq_true, Bool.or_eq_false_iff, Bool.and_eq_true, Bool.and_eq_false_imp, decide_eq_true_eq, decide_eq_false_iff_not, Bool.not_not, Bool.not_true, Bool.not_false] at hb1'
      refine AL.fast 1 rfl ?_
      refine AL.val (Wanted.yes rfl rfl rfl) (g_binI rfl rfl rfl rfl) rfl rfl ?_
      refine AL.fast 1 rfl ?_
      refine AL.nil ?_
      refine then_ok ?_
      exact Weak.popB 7 rfl rfl (by first | (simp [hb1]; done) | (simp_all; done) | (exfalso; simp_all; done) | (simp_all; omega)) rfl
  ·
    refine AC.cond rfl (fun hc2 => ?_) (fun hc2 => ?_)
    ·
      have hc2' := hc2; try simp only [sumB, Bool.not_eq_true', Bool.not_eq_false', Bool.or_eq_true, Bool.or_eq_false_iff, Bool.and_eq_true, Bool.and_eq_false_imp, decide_eq_true_eq, decide_eq_false_iff_not, Bool.not_not, Bool.not_true, Bool.not_false] at hc2'
      refine AC.seq ?_
      refine AC.region ?_
      refine AL.fast 2 rfl ?_
      refine AL.nil ?_
      refine then_ok ?_
      refine AC.ret ?_
      refine then_ret ?_
      refine retQ_weak (Weak.nil 8 111 2 (by decide) rfl) ?_
      have hX : moveB l src dst n = (([] : List Entry), 3) := by
        unfold moveB; rw [if_pos (by omega)]
      rw [hX] at hr; clear hX
      simp only [Prod.mk.injEq] at hr; obtain ⟨rfl, rfl⟩ := hr
      refine retQ_mk (av' := outOf [(.c (.s 0 0 2 0)), (.c (cI 3))]) (nb' := [(0, (.arr 111 2 ((([] : List Entry)).map rEntry)))]) (retQ_ret ⟨[(8, (aC (.s 0 0 2 0))), (9, (aI 3))], [(0, (.arr 111 2 ((([] : List Entry)).map rEntry)))], 1⟩ [.tmp 8, .tmp 9] [(.c (.s 0 0 2 0)), (.c (cI 3))] (Weak.ren (fun k => if k = 0 then 0 else k) (⟨by first | rfl | (simp only [AV.map, GV.map, CV.map, AB.map', id]; done) | (congr 3; omega) | (congr 4; omega) | (simp only [List.length_append, List.length_cons, List.length_nil, List.length_set]; rfl), by first | rfl | (simp only [AV.map, GV.map, CV.map, AB.map', id]; done) | (congr 3; omega) | (congr 4; omega) | (simp only [List.length_append, List.length_cons, List.length_nil, List.length_set]; rfl),  trivial⟩) (⟨by first | rfl | (simp only [AV.map, GV.map, CV.map, AB.map', id]; done) | (congr 3; omega) | (congr 4; omega) | (simp only [List.length_append, List.length_cons, List.length_nil, List.length_set]; rfl),  trivial⟩) rfl) rfl ⟨.tmp rfl, .tmp rfl, trivial⟩ ⟨by first | rfl | (simp only [AV.map, GV.map, CV.map, AB.map', id]; done) | (congr 3; omega) | (congr 4; omega) | (simp only [List.length_append, List.length_cons, List.length_nil, List.length_set]; rfl),  trivial⟩) ?_ ?_
      · first | rfl | (simp [outOf, aC]; done) | (simp [outOf, aC]; omega)
      · first | rfl | (simp; done) | (simp; omega)
    ·
      have hc2' := hc2; try simp only [sumB, Bool.not_eq_true', Bool.not_eq_false', Bool.or_eq_true, Bool.or_eq_false_iff, Bool.and_eq_true, Bool.and_eq_false_imp, decide_eq_true_eq, decide_eq_false_iff_not, Bool.not_not, Bool.not_true, Bool.not_false] at hc2'
      refine AC.skip ?_
      refine then_ok ?_
      refine AC.seq ?_
      refine AC.region ?_
      refine AL.fast 3 rfl ?_
      refine AL.val (Wanted.plain rfl) (g_negI rfl rfl (wrap_ok (by first | omega | (simp; done) | (simp; omega)))) rfl rfl ?_
      refine AL.val (Wanted.plain rfl) (g_build (ys := [(0, (.c (cI src))), (1, (.c (cI (0 - n))))]) rfl bld111 rfl ⟨⟨rfl, rfl⟩, ⟨rfl, rfl⟩,  trivial⟩ rfl rfl) rfl rfl ?_
      refine AL.fast 2 rfl ?_
      refine AL.val (Wanted.plain rfl) (g_build (ys := [(0, (.c (cI dst))), (1, (.c (cI n)))]) rfl bld111 rfl ⟨⟨rfl, rfl⟩, ⟨rfl, rfl⟩,  trivial⟩ rfl rfl) rfl rfl ?_
      refine AL.new (n' := 1) (Wanted.plain rfl) (g_lit (ys := [(0, (.g [(cI src), (cI (0 - n))])), (1, (.g [(cI dst), (cI n)]))]) (rows := ([(⟨src, 0 - n⟩ : Entry), (⟨dst, n⟩ : Entry)]).map rEntry) 0 sl102 rfl (by decide) ⟨⟨rfl, rfl⟩, ⟨rfl, rfl⟩,  trivial⟩ rfl rfl rfl rfl) rfl rfl rfl ?_
      obtain ⟨r0, e0, hr0⟩ : ∃ (r0 : List Entry) (e0 : Int), postB l ([(⟨src, 0 - n⟩ : Entry), (⟨dst, n⟩ : Entry)]) = (r0, e0) := ⟨_, _, rfl⟩
      refine AL.call (n' := 2) (h' := [(1, (.arr 111 2 ((r0).map rEntry))), (0, (.arr 111 2 (([(⟨src, 0 - n⟩ : Entry), (⟨dst, n⟩ : Entry)]).map rEntry)))]) (Wanted.plain rfl) (g_callE 1 [0] (c_ref_Post l ([(⟨src, 0 - n⟩ : Entry), (⟨dst, n⟩ : Entry)])  r0 e0 hr0) en84 rfl rfl ⟨⟨_, rfl, .c (.d _)⟩, ⟨_, rfl, .c (.s rfl (by decide) (by first | omega | (simp; done) | (simp; omega)))⟩,  trivial⟩ ⟨trivial, rfl,  trivial⟩ ⟨(isv_rEntry _),  trivial⟩ rfl rfl rfl rfl) rfl rfl rfl rfl rfl ?_
      refine AL.val (Wanted.plain rfl) (g_extract rfl rfl rfl) rfl rfl ?_
      refine AL.val (Wanted.plain rfl) (g_extract rfl rfl rfl) rfl rfl ?_
      refine AL.fast 2 rfl ?_
      refine AL.nil ?_
      refine then_ok ?_
      refine AC.ret ?_
      have hX : moveB l src dst n = (r0, e0) := by
        unfold moveB; rw [if_neg (by omega)]; assumption
      rw [hX] at hr; clear hX
      simp only [Prod.mk.injEq] at hr; obtain ⟨rfl, rfl⟩ := hr
      refine retQ_mk (av' := outOf [(.c (.s 0 0 2 r0.length)), (.c (cI e0))]) (nb' := [(0, (.arr 111 2 ((r0).map rEntry)))]) (retQ_ret ⟨[(8, (aC (.s 0 0 2 r0.length))), (9, (aI e0))], [(0, (.arr 111 2 ((r0).map rEntry)))], 1⟩ [.tmp 8, .tmp 9] [(.c (.s 0 0 2 r0.length)), (.c (cI e0))] (Weak.ren (fun k => if k = 0 then 1 else k) (⟨by first | rfl | (simp only [AV.map, GV.map, CV.map, AB.map', id]; done) | (congr 3; omega) | (congr 4; omega) | (simp only [List.length_append, List.length_cons, List.length_nil, List.length_set]; rfl), by first | rfl | (simp only [AV.map, GV.map, CV.map, AB.map', id]; done) | (congr 3; omega) | (congr 4; omega) | (simp only [List.length_append, List.length_cons, List.length_nil, List.length_set]; rfl),  trivial⟩) (⟨by first | rfl | (simp only [AV.map, GV.map, CV.map, AB.map', id]; done) | (congr 3; omega) | (congr 4; omega) | (simp only [List.length_append, List.length_cons, List.length_nil, List.length_set]; rfl),  trivial⟩) rfl) rfl ⟨.tmp rfl, .tmp rfl, trivial⟩ ⟨by first | rfl | (simp only [AV.map, GV.map, CV.map, AB.map', id]; done) | (congr 3; omega) | (congr 4; omega) | (simp only [List.length_append, List.length_cons, List.length_nil, List.length_set]; rfl),  trivial⟩) ?_ ?_
      · first | rfl | (simp [outOf, aC]; done) | (simp [outOf, aC]; omega)
      · first | rfl | (simp; done) | (simp; omega)
set_option maxRecDepth 100000 in
set_option maxHeartbeats 1000000 in
theorem c_book_alive  : Fn Try.prog 88 [] (aB true) [] := by
  refine Fn.mk' 30 [] Try.func88 rfl rfl rfl rfl ?_
  intro W0 T0
  refine AC.seq ?_
  refine AC.region ?_
  refine AL.fast 1 rfl ?_
  refine AL.nil ?_
  refine then_ok ?_
  refine AC.seq ?_
  refine AC.region ?_
  have hr0 : moveB ([]) 0 10 50 = (([⟨0, -50⟩, ⟨10, 50⟩] : List Entry), 0) := by decide
  refine AL.call (n' := 1) (h' := [(0, (.arr 111 2 ((([⟨0, -50⟩, ⟨10, 50⟩] : List Entry)).map rEntry)))]) (Wanted.plain rfl) (g_call 0 (c_book_Move ([]) 0 10 50  ([⟨0, -50⟩, ⟨10, 50⟩] : List Entry) 0 hr0) en86 rfl rfl ⟨⟨_, rfl, .c (.nil _)⟩, ⟨_, rfl, .c (.d _)⟩, ⟨_, rfl, .c (.d _)⟩, ⟨_, rfl, .c (.d _)⟩,  trivial⟩ ⟨trivial, trivial,  trivial⟩ ⟨(fun _ _ _ _ => trivial),  trivial⟩ rfl rfl rfl rfl) rfl rfl rfl rfl rfl ?_
  refine AL.fast 1 rfl ?_
  refine AL.val (Wanted.plain rfl) (g_extract rfl rfl rfl) rfl rfl ?_
  refine AL.val (Wanted.plain rfl) (g_extract rfl rfl rfl) rfl rfl ?_
  refine AL.fast 2 rfl ?_
  refine AL.nil ?_
  refine then_ok ?_
  have hr1 : getE ([⟨0, -50⟩, ⟨10, 50⟩] : List Entry) 10 = 50 := by decide
  have hr2 : getE ([⟨0, -50⟩, ⟨10, 50⟩] : List Entry) 0 = (-50) := by decide
  have hr3 : wrongB ([⟨0, -50⟩, ⟨10, 50⟩] : List Entry) = (⟨0, 0⟩ : Fault) := by decide
  refine AC.cutB 0 ((((true || false) || false) || false) || false) ?_ ?_
  ·
    refine AC.region ?_
    refine AL.fast 1 rfl ?_
    refine AL.val (Wanted.plain rfl) (g_binI rfl rfl rfl (show _ = some (Value.bool true) from rfl)) rfl rfl ?_
    refine AL.fast 2 rfl ?_
    refine AL.val (Wanted.yes rfl rfl rfl) (g_lenS rfl rfl rfl rfl rfl Try.underlying102) rfl rfl ?_
    refine AL.val (Wanted.yes rfl rfl rfl) (g_binI rfl rfl rfl (show _ = some (Value.bool true) from rfl)) rfl rfl ?_
    refine AL.fast 3 rfl ?_
    refine AL.call (n' := 1) (h' := [(0, (.arr 111 2 ((([⟨0, -50⟩, ⟨10, 50⟩] : List Entry)).map rEntry)))]) (Wanted.yes rfl rfl rfl) (g_callE 1 [0] (c_book_Get ([⟨0, -50⟩, ⟨10, 50⟩] : List Entry) 10  50 hr1) en81 rfl rfl ⟨⟨_, rfl, .c (.s rfl (by decide) (by first | omega | (simp; done) | (simp; omega)))⟩, ⟨_, rfl, .c (.d _)⟩,  trivial⟩ rfl trivial rfl rfl rfl rfl) rfl rfl rfl rfl rfl ?_
    refine AL.val (Wanted.yes rfl rfl rfl) (g_binI rfl rfl rfl (show _ = some (Value.bool true) from rfl)) rfl rfl ?_
    refine AL.fast 3 rfl ?_
    refine AL.call (n' := 1) (h' := [(0, (.arr 111 2 ((([⟨0, -50⟩, ⟨10, 50⟩] : List Entry)).map rEntry)))]) (Wanted.yes rfl rfl rfl) (g_callE 1 [0] (c_book_Get ([⟨0, -50⟩, ⟨10, 50⟩] : List Entry) 0  (-50) hr2) en81 rfl rfl ⟨⟨_, rfl, .c (.s rfl (by decide) (by first | omega | (simp; done) | (simp; omega)))⟩, ⟨_, rfl, .c (.d _)⟩,  trivial⟩ rfl trivial rfl rfl rfl rfl) rfl rfl rfl rfl rfl ?_
    refine AL.val (Wanted.yes rfl rfl rfl) (g_binI rfl rfl rfl (show _ = some (Value.bool true) from rfl)) rfl rfl ?_
    refine AL.fast 3 rfl ?_
    refine AL.call (n' := 1) (h' := [(0, (.arr 111 2 ((([⟨0, -50⟩, ⟨10, 50⟩] : List Entry)).map rEntry)))]) (Wanted.yes rfl rfl rfl) (g_callE 1 [0] (c_book_Wrong ([⟨0, -50⟩, ⟨10, 50⟩] : List Entry)  (⟨0, 0⟩ : Fault) hr3) en79 rfl rfl ⟨⟨_, rfl, .c (.s rfl (by decide) (by first | omega | (simp; done) | (simp; omega)))⟩,  trivial⟩ ⟨rfl, rfl,  trivial⟩ trivial rfl rfl rfl rfl) rfl rfl rfl rfl rfl ?_
    refine AL.val (Wanted.yes rfl rfl rfl) (g_field1 rfl rfl Try.underlying47 rfl Try.underlying27 rfl rfl) rfl rfl ?_
    refine AL.val (Wanted.yes rfl rfl rfl) (g_binI rfl rfl rfl (show _ = some (Value.bool true) from rfl)) rfl rfl ?_
    refine AL.fast 2 rfl ?_
    refine AL.nil ?_
    refine then_ok ?_
    exact Weak.popB 24 rfl rfl (by first | (simp []; done) | (simp_all; done) | (exfalso; simp_all; done) | (simp_all; omega)) rfl
  ·
    refine AC.ret ?_
    refine retQ_mk (av' := outOf [(.c (cB ((((true || false) || false) || false) || false)))]) (nb' := []) (retQ_ret ⟨[(0, (aB ((((true || false) || false) || false) || false)))], [], 0⟩ [.tmp 0] [(.c (cB ((((true || false) || false) || false) || false)))] (Weak.ren id (⟨by first | rfl | (simp only [AV.map, GV.map, CV.map, AB.map', id]; done) | (congr 3; omega) | (congr 4; omega) | (simp only [List.length_append, List.length_cons, List.length_nil, List.length_set]; rfl),  trivial⟩) (trivial) rfl) rfl ⟨.tmp rfl, trivial⟩ trivial) ?_ ?_
    · first | rfl | (simp [outOf, aC]; done) | (simp [outOf, aC]; omega)
    · rfl
end Go.Proofs.Ytgmcdlfmifijlaa.Dev
