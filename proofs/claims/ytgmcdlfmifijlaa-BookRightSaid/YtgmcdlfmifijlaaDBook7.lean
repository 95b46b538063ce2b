/- book.Post. -/
import Derived.Test.YtgmcdlfmifijlaaDBook6
set_option linter.unusedVariables false
set_option linter.unusedSimpArgs false
namespace Go.Proofs.Ytgmcdlfmifijlaa.Dev
open Go.RowKit


theorem postB_go {l es : List Entry} (h0 : (wrongB l).err = 0) (h1 : es.length ≤ 10) (h2 : ∀ x ∈ es, ¬ badE x) (h3 : sumE es = 0) : postB l es = match putAll l es with
    | some r => (r, 0)
    | none => ([], 4) := by
  unfold postB
  rw [if_neg (by omega), if_neg (by omega), if_neg (fun ⟨x, hx, hb⟩ => h2 x hx hb), if_neg (by omega)]
  cases putAll l es <;> rfl
theorem nobad_all {es : List Entry} {q : Nat} (h : ∀ x ∈ es.take q, ¬ badE x) (hq : es.length ≤ q) : ∀ x ∈ es, ¬ badE x := by
  rwa [List.take_of_length_le hq] at h
theorem nobad_next {es : List Entry} {q : Nat} {x : Entry} (h : ∀ x ∈ es.take q, ¬ badE x) (hx : es[q]? = some x) (hb : ¬ badE x) : ∀ x ∈ es.take (q + 1), ¬ badE x := by
  rw [take_snoc hx]
  intro y hy
  rcases List.mem_append.1 hy with hy | hy
  · exact h y hy
  · rw [List.mem_singleton.1 hy]; exact hb
theorem sum_all {es : List Entry} {q : Nat} (hq : es.length ≤ q) : sumE (es.take q) = sumE es := by rw [List.take_of_length_le hq]
theorem put_end {l m es : List Entry} {q : Nat} (h : putAll l es = putAll m (es.drop q)) (hq : es.length ≤ q) : putAll l es = some m := by
  rw [h, List.drop_of_length_le hq]; rfl
theorem set_atI {l : List Int} {k : Nat} {y z : Int} (h : (l.set k y)[k]? = some z) : z = y := by
  have hlt := (List.getElem?_eq_some_iff.1 h).1
  rw [List.length_set] at hlt
  rw [List.getElem?_set_self hlt] at h
  exact (Option.some.inj h).symm
theorem bookTo_succ (f : Int → Int) (k : Nat) : bookTo f (k + 1) = bookTo f k ++ if f k = 0 then [] else [⟨k, f k⟩] := rfl
theorem bookTo_len (f : Int → Int) : ∀ k, (bookTo f k).length ≤ k
  | 0 => Nat.le_refl _
  | k + 1 => by
    rw [bookTo_succ, List.length_append]
    have := bookTo_len f k
    split <;> simp <;> omega

set_option maxRecDepth 100000 in
set_option maxHeartbeats 2000000 in
theorem c_book_Post (l es : List Entry) (r : List Entry) (e : Int) (hr : postB l es = (r, e)) : Fn Try.prog 83 [(.c (cR 2 ((l).map rEntry))), (.c (cR 2 ((es).map rEntry)))] (.t [(.c (.s 0 0 2 r.length)), (.c (cI e))]) [(0, (.arr 111 2 ((r).map rEntry)))] := by
  refine Fn.mk' 75 [(0, (aC (cR 2 ((l).map rEntry)))), (1, (aC (cR 2 ((es).map rEntry))))] Try.func83 rfl rfl rfl rfl ?_
  intro W0 T0
  refine AC.len1 0 rfl (fun hlen0 => ?_)
  refine AC.len1 1 rfl (fun hlen1 => ?_)
  refine AC.seq ?_
  refine AC.region ?_
  refine AL.fast 2 rfl ?_
  refine AL.nil ?_
  refine then_ok ?_
  refine AC.seq ?_
  refine AC.seq ?_
  refine AC.region ?_
  refine AL.fast 1 rfl ?_
  obtain ⟨f0, hr0⟩ : ∃ (f0 : Fault), wrongB l = f0 := ⟨_, rfl⟩
  refine AL.call (n' := 0) (h' := []) (Wanted.plain rfl) (g_call 0 (c_book_Wrong l  f0 hr0) en79 rfl rfl ⟨⟨_, rfl, .c (.d _)⟩,  trivial⟩ ⟨trivial, trivial,  trivial⟩ trivial rfl rfl rfl rfl) rfl rfl rfl rfl rfl ?_
  refine AL.new (n' := 1) (Wanted.plain rfl) (g_alloc 0 rfl zv47 rfl rfl rfl) rfl rfl rfl ?_
  refine AL.sto (h' := [(0, (.box 47 [(cI f0.err), (cI f0.at_)]))]) (Wanted.plain rfl) (g_storeB rfl rfl rfl rfl rfl sz47 rfl (Nat.le_of_ble_eq_true rfl) rfl) rfl rfl rfl rfl ?_
  refine AL.nil ?_
  refine then_ok ?_
  refine AC.seq ?_
  refine AC.region ?_
  refine AL.val (Wanted.plain rfl) (g_fieldP rfl rfl Try.underlying47 rfl sz27 (by decide)) rfl rfl ?_
  refine AL.val (Wanted.plain rfl) (g_loadB rfl rfl rfl Try.underlying27 rfl rfl) rfl rfl ?_
  refine AL.val (Wanted.plain rfl) (g_binI rfl rfl rfl rfl) rfl rfl ?_
  refine AL.nil ?_
  refine then_ok ?_
  refine AC.cond rfl (fun hc1 => ?_) (fun hc1 => ?_)
  ·
    have hc1' := hc1; try simp only [sumB, Bool.not_eq_true', Bool.not_eq_false', Bool.or_eq_true, Bool.or_eq_false_iff, Bool.and_eq_true, Bool.and_eq_false_imp, decide_eq_true_eq, decide_eq_false_iff_not, Bool.not_not, Bool.not_true, Bool.not_false] at hc1'
    refine AC.seq ?_
    refine AC.weak (st' := ⟨[(0, (aC (cR 2 ((l).map rEntry)))), (1, (aC (cR 2 ((es).map rEntry)))), (6, (aC (.p 0 0 0 0)))], [(0, (.box 47 [(cI f0.err), (cI f0.at_)]))], 1⟩) (Weak.ren id (⟨by first | rfl | (simp only [AV.map, GV.map, CV.map, AB.map', id]; done) | (congr 3; omega) | (congr 4; omega) | (simp only [List.length_append, List.length_cons, List.length_nil, List.length_set]; rfl), by first | rfl | (simp only [AV.map, GV.map, CV.map, AB.map', id]; done) | (congr 3; omega) | (congr 4; omega) | (simp only [List.length_append, List.length_cons, List.length_nil, List.length_set]; rfl), by first | rfl | (simp only [AV.map, GV.map, CV.map, AB.map', id]; done) | (congr 3; omega) | (congr 4; omega) | (simp only [List.length_append, List.length_cons, List.length_nil, List.length_set]; rfl),  trivial⟩) (⟨by first | rfl | (simp only [AV.map, GV.map, CV.map, AB.map', id]; done) | (congr 3; omega) | (congr 4; omega) | (simp only [List.length_append, List.length_cons, List.length_nil, List.length_set]; rfl),  trivial⟩) rfl) ?_
    refine AC.draw [⟨some 20, (aC (.p 0 0 0 0)), [], [], [], [(6, (aC (.p 0 0 0 0)))], [(0, (.box 47 [(cI f0.err), (cI f0.at_)]))]⟩,
      ⟨some 21, (aI f0.err), [], [], [0], [(20, (aC (.p 0 0 0 0)))], [(0, (.box 47 [(cI f0.err), (cI f0.at_)]))]⟩,
      ⟨some 4, (aC cN), [], [], [], [], []⟩,
      ⟨some 5, (aI f0.err), [], [], [1], [(21, (aI f0.err))], []⟩] ⟨[(0, (aC (cR 2 ((l).map rEntry)))), (1, (aC (cR 2 ((es).map rEntry)))), (6, (aC (.p 0 0 0 0))), (4, (aC cN)), (5, (aI f0.err))], [(0, (.box 47 [(cI f0.err), (cI f0.at_)]))], 1⟩ mixed (by kernel_rfl) ?_ ?_ ?_ ?_
    · exact ⟨.inl ⟨(Wanted.plain rfl), GOp.cast (g_fieldP rfl rfl Try.underlying47 rfl sz27 (by decide)) rfl⟩,
      .inl ⟨(Wanted.plain rfl), GOp.cast (g_loadB rfl rfl rfl Try.underlying27 rfl rfl) rfl⟩,
      .inl ⟨(Wanted.plain rfl), GOp.cast (g_assign rfl rfl) rfl⟩,
      .inl ⟨(Wanted.plain rfl), GOp.cast (g_assign rfl rfl) rfl⟩,
       trivial⟩
    · exact ⟨⟨⟨.inl rfl,  trivial⟩, ⟨.inl rfl,  trivial⟩⟩, ⟨⟨.inr ⟨0, .head _, _, rfl, rfl, rfl⟩,  trivial⟩, ⟨.inl rfl,  trivial⟩⟩, ⟨trivial, trivial⟩, ⟨⟨.inr ⟨1, .head _, _, rfl, rfl, rfl⟩,  trivial⟩, trivial⟩,  trivial⟩
    · exact ⟨⟨.inl rfl, .inl rfl, .inl rfl, .inr ⟨2, _, rfl, rfl, rfl⟩, .inr ⟨3, _, rfl, rfl, rfl⟩,  trivial⟩, ⟨.inl rfl,  trivial⟩⟩
    ·
      refine AL.nil ?_
      refine then_ok ?_
      refine AC.ret ?_
      refine then_ret ?_
      refine retQ_weak (Weak.nil 4 111 2 (by decide) rfl) ?_
      have hX : postB l es = (([] : List Entry), f0.err) := by
        unfold postB; rw [if_pos (by rw [hr0]; omega), hr0]
      rw [hX] at hr; clear hX
      simp only [Prod.mk.injEq] at hr; obtain ⟨rfl, rfl⟩ := hr
      refine retQ_mk (av' := outOf [(.c (.s 0 0 2 0)), (.c (cI f0.err))]) (nb' := [(0, (.arr 111 2 ((([] : List Entry)).map rEntry)))]) (retQ_ret ⟨[(4, (aC (.s 0 0 2 0))), (5, (aI f0.err))], [(0, (.arr 111 2 ((([] : List Entry)).map rEntry)))], 1⟩ [.tmp 4, .tmp 5] [(.c (.s 0 0 2 0)), (.c (cI f0.err))] (Weak.ren (fun k => if k = 0 then 1 else k) (⟨by first | rfl | (simp only [AV.map, GV.map, CV.map, AB.map', id]; done) | (congr 3; omega) | (congr 4; omega) | (simp only [List.length_append, List.length_cons, List.length_nil, List.length_set]; rfl), by first | rfl | (simp only [AV.map, GV.map, CV.map, AB.map', id]; done) | (congr 3; omega) | (congr 4; omega) | (simp only [List.length_append, List.length_cons, List.length_nil, List.length_set]; rfl),  trivial⟩) (⟨by first | rfl | (simp only [AV.map, GV.map, CV.map, AB.map', id]; done) | (congr 3; omega) | (congr 4; omega) | (simp only [List.length_append, List.length_cons, List.length_nil, List.length_set]; rfl),  trivial⟩) rfl) rfl ⟨.tmp rfl, .tmp rfl, trivial⟩ ⟨by first | rfl | (simp only [AV.map, GV.map, CV.map, AB.map', id]; done) | (congr 3; omega) | (congr 4; omega) | (simp only [List.length_append, List.length_cons, List.length_nil, List.length_set]; rfl),  trivial⟩) ?_ ?_
      · first | rfl | (simp [outOf, aC]; done) | (simp [outOf, aC]; omega)
      · first | rfl | (simp; done) | (simp; omega)
  ·
    have hc1' := hc1; try simp only [sumB, Bool.not_eq_true', Bool.not_eq_false', Bool.or_eq_true, Bool.or_eq_false_iff, Bool.and_eq_true, Bool.and_eq_false_imp, decide_eq_true_eq, decide_eq_false_iff_not, Bool.not_not, Bool.not_true, Bool.not_false] at hc1'
    refine AC.skip ?_
    refine then_ok ?_
    refine AC.seq ?_
    refine AC.seq ?_
    refine AC.region ?_
    refine AL.fast 1 rfl ?_
    refine AL.val (Wanted.plain rfl) (g_lenM rfl rfl rfl rfl rfl Try.underlying102) rfl rfl ?_
    refine AL.val (Wanted.plain rfl) (g_binI rfl rfl rfl rfl) rfl rfl ?_
    refine AL.nil ?_
    refine then_ok ?_
    refine AC.cond rfl (fun hc2 => ?_) (fun hc2 => ?_)
    ·
      have hc2' := hc2; try simp only [sumB, Bool.not_eq_true', Bool.not_eq_false', Bool.or_eq_true, Bool.or_eq_false_iff, Bool.and_eq_true, Bool.and_eq_false_imp, decide_eq_true_eq, decide_eq_false_iff_not, Bool.not_not, Bool.not_true, Bool.not_false] at hc2'
      refine AC.seq ?_
      refine AC.region ?_
      refine AL.fast 2 rfl ?_
      refine AL.nil ?_
      refine then_ok ?_
      refine AC.ret ?_
      refine then_ret ?_
      refine retQ_weak (Weak.nil 4 111 2 (by decide) rfl) ?_
      have hX : postB l es = (([] : List Entry), 5) := by
        unfold postB; rw [if_neg (by rw [hr0]; omega), if_pos (by omega)]
      rw [hX] at hr; clear hX
      simp only [Prod.mk.injEq] at hr; obtain ⟨rfl, rfl⟩ := hr
      refine retQ_mk (av' := outOf [(.c (.s 0 0 2 0)), (.c (cI 5))]) (nb' := [(0, (.arr 111 2 ((([] : List Entry)).map rEntry)))]) (retQ_ret ⟨[(4, (aC (.s 0 0 2 0))), (5, (aI 5))], [(0, (.arr 111 2 ((([] : List Entry)).map rEntry)))], 1⟩ [.tmp 4, .tmp 5] [(.c (.s 0 0 2 0)), (.c (cI 5))] (Weak.ren (fun k => if k = 0 then 1 else k) (⟨by first | rfl | (simp only [AV.map, GV.map, CV.map, AB.map', id]; done) | (congr 3; omega) | (congr 4; omega) | (simp only [List.length_append, List.length_cons, List.length_nil, List.length_set]; rfl), by first | rfl | (simp only [AV.map, GV.map, CV.map, AB.map', id]; done) | (congr 3; omega) | (congr 4; omega) | (simp only [List.length_append, List.length_cons, List.length_nil, List.length_set]; rfl),  trivial⟩) (⟨by first | rfl | (simp only [AV.map, GV.map, CV.map, AB.map', id]; done) | (congr 3; omega) | (congr 4; omega) | (simp only [List.length_append, List.length_cons, List.length_nil, List.length_set]; rfl),  trivial⟩) rfl) rfl ⟨.tmp rfl, .tmp rfl, trivial⟩ ⟨by first | rfl | (simp only [AV.map, GV.map, CV.map, AB.map', id]; done) | (congr 3; omega) | (congr 4; omega) | (simp only [List.length_append, List.length_cons, List.length_nil, List.length_set]; rfl),  trivial⟩) ?_ ?_
      · first | rfl | (simp [outOf, aC]; done) | (simp [outOf, aC]; omega)
      · first | rfl | (simp; done) | (simp; omega)
    ·
      have hc2' := hc2; try simp only [sumB, Bool.not_eq_true', Bool.not_eq_false', Bool.or_eq_true, Bool.or_eq_false_iff, Bool.and_eq_true, Bool.and_eq_false_imp, decide_eq_true_eq, decide_eq_false_iff_not, Bool.not_not, Bool.not_true, Bool.not_false] at hc2'
      refine AC.skip ?_
      refine then_ok ?_
      refine AC.seq ?_
      refine AC.region ?_
      refine AL.fast 1 rfl ?_
      refine AL.nil ?_
      refine then_ok ?_
      refine AC.seq ?_
      refine AC.seq ?_
      refine AC.region ?_
      refine AL.fast 1 rfl ?_
      refine AL.val (Wanted.plain rfl) (g_lenM rfl rfl rfl rfl rfl Try.underlying102) rfl rfl ?_
      refine AL.fast 1 rfl ?_
      refine AL.nil ?_
      refine then_ok ?_
      refine AC.block ?_
      refine AC.loop (β := Nat) (fun (q : Nat) => ⟨[(0, (aC (cR 2 ((l).map rEntry)))), (1, (aC (cR 2 ((es).map rEntry)))), (7, (aI (sumE (es.take q)))), (25, (aC (cR 2 ((es).map rEntry)))), (26, (aI (↑es.length : Int))), (27, (aI (↑q : Int)))], [], 0⟩) (fun (q : Nat) => q ≤ es.length ∧ (∀ x ∈ es.take q, ¬ badE x) ∧ -1000000000000 * (q : Int) ≤ sumE (es.take q) ∧ sumE (es.take q) ≤ 1000000000000 * (q : Int)) (fun (q : Nat) => es.length - q) 0 ?_ ?_ ?_
      · (have h2 : sumE (es.take 0) = 0 := rfl); exact ⟨by omega, by intro x hx; simp at hx, by omega⟩
      · exact Weak.ren id (⟨by first | rfl | (simp only [AV.map, GV.map, CV.map, AB.map', id]; done) | (congr 3; omega) | (congr 4; omega) | (simp only [List.length_append, List.length_cons, List.length_nil, List.length_set]; rfl), by first | rfl | (simp only [AV.map, GV.map, CV.map, AB.map', id]; done) | (congr 3; omega) | (congr 4; omega) | (simp only [List.length_append, List.length_cons, List.length_nil, List.length_set]; rfl), by first | rfl | (simp only [AV.map, GV.map, CV.map, AB.map', id]; done) | (congr 3; omega) | (congr 4; omega) | (simp only [List.length_append, List.length_cons, List.length_nil, List.length_set]; rfl), by first | rfl | (simp only [AV.map, GV.map, CV.map, AB.map', id]; done) | (congr 3; omega) | (congr 4; omega) | (simp only [List.length_append, List.length_cons, List.length_nil, List.length_set]; rfl), by first | rfl | (simp only [AV.map, GV.map, CV.map, AB.map', id]; done) | (congr 3; omega) | (congr 4; omega) | (simp only [List.length_append, List.length_cons, List.length_nil, List.length_set]; rfl), by first | rfl | (simp only [AV.map, GV.map, CV.map, AB.map', id]; done) | (congr 3; omega) | (congr 4; omega) | (simp only [List.length_append, List.length_cons, List.length_nil, List.length_set]; rfl),  trivial⟩) (trivial) rfl
      ·
        rintro q ⟨hi0_0, hi0_1, hi0_2⟩
        refine AC.seq ?_
        refine AC.region ?_
        refine AL.val (Wanted.plain rfl) (g_binI rfl rfl rfl rfl) rfl rfl ?_
        refine AL.nil ?_
        refine then_ok ?_
        refine AC.seq ?_
        refine AC.cond rfl (fun hc3 => ?_) (fun hc3 => ?_)
        ·
          have hc3' := hc3; try simp only [sumB, Bool.not_eq_true', Bool.not_eq_false', Bool.or_eq_true, Bool.or_eq_false_iff, Bool.and_eq_true, Bool.and_eq_false_imp, decide_eq_true_eq, decide_eq_false_iff_not, Bool.not_not, Bool.not_true, Bool.not_false] at hc3'
          refine AC.skip ?_
          refine then_ok ?_
          refine AC.seq ?_
          refine AC.block ?_
          refine AC.seq ?_
          refine AC.region ?_
          obtain ⟨x1, hx1⟩ := exget (xs := es) (i := q) (by first | omega | (simp; done) | (simp; omega))
          refine AL.val (Wanted.plain rfl) (g_indexQ (i := q) rfl rfl rfl Try.underlying102 sz111 (by first | omega | (simp; done) | (simp; omega)) (getmap hx1)) rfl rfl ?_
          refine AL.val (Wanted.plain rfl) (g_loadQs rfl rfl Try.underlying111 rfl sz111 rfl rfl) rfl rfl ?_
          refine AL.new (n' := 1) (Wanted.plain rfl) (g_alloc 0 rfl zv111 rfl rfl rfl) rfl rfl rfl ?_
          refine AL.sto (h' := [(0, (.box 111 [(cI x1.account), (cI x1.sum)]))]) (Wanted.plain rfl) (g_storeB rfl rfl rfl rfl rfl sz111 rfl (Nat.le_of_ble_eq_true rfl) rfl) rfl rfl rfl rfl ?_
          refine AL.nil ?_
          refine then_ok ?_
          refine AC.seq ?_
          refine AC.cutB 48 ((((decide (x1.account < 0)) || (decide (x1.account ≥ 58))) || (decide (x1.sum < (-1000000000000)))) || (decide (x1.sum > 1000000000000))) ?_ ?_
          ·
            refine AC.region ?_
            refine AL.val (Wanted.plain rfl) (g_fieldP rfl rfl Try.underlying111 rfl sz3 (by decide)) rfl rfl ?_
            refine AL.val (Wanted.plain rfl) (g_loadB rfl rfl rfl Try.underlying3 rfl rfl) rfl rfl ?_
            refine AL.val (Wanted.plain rfl) (g_binI rfl rfl rfl rfl) rfl rfl ?_
            refine AL.fast 1 rfl ?_
            refine AL.dec (t := 34) rfl (fun hb4 => ?_) (fun hb4 => ?_)
            ·
              have hb4' := hb4; try simp only [sumB, Bool.not_eq_true', Bool.not_eq_false', Bool.or_eq_true, Bool.or_eq_false_iff, Bool.and_eq_true, Bool.and_eq_false_imp, decide_eq_true_eq, decide_eq_false_iff_not, Bool.not_not, Bool.not_true, Bool.not_false] at hb4'
              refine AL.fast 14 rfl ?_
              refine AL.nil ?_
              refine then_ok ?_
              exact Weak.popB 19 rfl rfl (by first | (simp [hb4]; done) | (simp_all; done) | (exfalso; simp_all; done) | (simp_all; omega)) rfl
            ·
              have hb4' := hb4; try simp only [sumB, Bool.not_eq_true', Bool.not_eq_false', Bool.or_eq_true, Bool.or_eq_false_iff, Bool.and_eq_true, Bool.and_eq_false_imp, decide_eq_true_eq, decide_eq_false_iff_not, Bool.not_not, Bool.not_true, Bool.not_false] at hb4'
              refine AL.val (Wanted.yes rfl rfl rfl) (g_fieldP rfl rfl Try.underlying111 rfl sz3 (by decide)) rfl rfl ?_
              refine AL.val (Wanted.yes rfl rfl rfl) (g_loadB rfl rfl rfl Try.underlying3 rfl rfl) rfl rfl ?_
              refine AL.val (Wanted.yes rfl rfl rfl) (g_binI rfl rfl rfl rfl) rfl rfl ?_
              refine AL.fast 2 rfl ?_
              refine AL.dec (t := 39) rfl (fun hb5 => ?_) (fun hb5 => ?_)
              ·
                have hb5' := hb5; try simp only [sumB, Bool.not_eq_true', Bool.not_eq_false', Bool.or_eq_true, Bool.or_eq_false_iff, Bool.and_eq_true, Bool.and_eq_false_imp, decide_eq_true_eq, decide_eq_false_iff_not, Bool.not_not, Bool.not_true, Bool.not_false] at hb5'
                refine AL.fast 9 rfl ?_
                refine AL.nil ?_
                refine then_ok ?_
                exact Weak.popB 20 rfl rfl (by first | (simp [hb4, hb5]; done) | (simp_all; done) | (exfalso; simp_all; done) | (simp_all; omega)) rfl
              ·
                have hb5' := hb5; try simp only [sumB, Bool.not_eq_true', Bool.not_eq_false', Bool.or_eq_true, Bool.or_eq_false_iff, Bool.and_eq_true, Bool.and_eq_false_imp, decide_eq_true_eq, decide_eq_false_iff_not, Bool.not_not, Bool.not_true, Bool.not_false] at hb5'
                refine AL.val (Wanted.yes rfl rfl rfl) (g_fieldP rfl rfl Try.underlying111 rfl sz3 (by decide)) rfl rfl ?_
                refine AL.val (Wanted.yes rfl rfl rfl) (g_loadB rfl rfl rfl Try.underlying3 rfl rfl) rfl rfl ?_
                refine AL.val (Wanted.yes rfl rfl rfl) (g_binI rfl rfl rfl rfl) rfl rfl ?_
                refine AL.fast 2 rfl ?_
                refine AL.dec (t := 44) rfl (fun hb6 => ?_) (fun hb6 => ?_)
                ·
                  have hb6' := hb6; try simp only [sumB, Bool.not_eq_true', Bool.not_eq_false', Bool.or_eq_true, Bool.or_eq_false_iff, Bool.and_eq_true, Bool.and_eq_false_imp, decide_eq_true_eq, decide_eq_false_iff_not, Bool.not_not, Bool.not_true, Bool.not_false] at hb6'
                  refine AL.fast 4 rfl ?_
                  refine AL.nil ?_
                  refine then_ok ?_
                  exact Weak.popB 21 rfl rfl (by first | (simp [hb4, hb5, hb6]; done) | (simp_all; done) | (exfalso; simp_all; done) | (simp_all; omega)) rfl
                ·
                  have hb6' := hb6; try simp only [sumB, Bool.not_eq_true', Bool.not_eq_false', Bool.or_eq_true, Bool.or_eq_false_iff, Bool.and_eq_true, Bool.and_eq_false_imp, decide_eq_true_eq, decide_eq_false_iff_not, Bool.not_not, Bool.not_true, Bool.not_false] at hb6'
                  refine AL.val (Wanted.yes rfl rfl rfl) (g_fieldP rfl rfl Try.underlying111 rfl sz3 (by decide)) rfl rfl ?_
                  refine AL.val (Wanted.yes rfl rfl rfl) (g_loadB rfl rfl rfl Try.underlying3 rfl rfl) rfl rfl ?_
                  refine AL.val (Wanted.yes rfl rfl rfl) (g_binI rfl rfl rfl rfl) rfl rfl ?_
                  refine AL.fast 1 rfl ?_
                  refine AL.nil ?_
                  refine then_ok ?_
                  exact Weak.popB 21 rfl rfl (by first | (simp [hb4, hb5, hb6]; done) | (simp_all; done) | (exfalso; simp_all; done) | (simp_all; omega)) rfl
          ·
            refine AC.cond rfl (fun hc7 => ?_) (fun hc7 => ?_)
            ·
              have hc7' := hc7; try simp only [sumB, Bool.not_eq_true', Bool.not_eq_false', Bool.or_eq_true, Bool.or_eq_false_iff, Bool.and_eq_true, Bool.and_eq_false_imp, decide_eq_true_eq, decide_eq_false_iff_not, Bool.not_not, Bool.not_true, Bool.not_false] at hc7'
              refine AC.seq ?_
              refine AC.region ?_
              refine AL.fast 2 rfl ?_
              refine AL.nil ?_
              refine then_ok ?_
              refine AC.ret ?_
              refine then_ret ?_
              refine block_ret ?_
              refine then_ret ?_
              refine then_ret ?_
              refine block_ret ?_
              refine then_ret ?_
              refine retQ_weak (Weak.nil 4 111 2 (by decide) rfl) ?_
              have hX : postB l es = (([] : List Entry), 3) := by
                unfold postB; rw [if_neg (by rw [hr0]; omega), if_neg (by omega), if_pos ⟨x1, List.mem_of_getElem? hx1, by unfold badE; omega⟩]
              rw [hX] at hr; clear hX
              simp only [Prod.mk.injEq] at hr; obtain ⟨rfl, rfl⟩ := hr
              refine retQ_mk (av' := outOf [(.c (.s 0 0 2 0)), (.c (cI 3))]) (nb' := [(0, (.arr 111 2 ((([] : List Entry)).map rEntry)))]) (retQ_ret ⟨[(4, (aC (.s 0 0 2 0))), (5, (aI 3))], [(0, (.arr 111 2 ((([] : List Entry)).map rEntry)))], 1⟩ [.tmp 4, .tmp 5] [(.c (.s 0 0 2 0)), (.c (cI 3))] (Weak.ren (fun k => if k = 0 then 1 else k) (⟨by first | rfl | (simp only [AV.map, GV.map, CV.map, AB.map', id]; done) | (congr 3; omega) | (congr 4; omega) | (simp only [List.length_append, List.length_cons, List.length_nil, List.length_set]; rfl), by first | rfl | (simp only [AV.map, GV.map, CV.map, AB.map', id]; done) | (congr 3; omega) | (congr 4; omega) | (simp only [List.length_append, List.length_cons, List.length_nil, List.length_set]; rfl),  trivial⟩) (⟨by first | rfl | (simp only [AV.map, GV.map, CV.map, AB.map', id]; done) | (congr 3; omega) | (congr 4; omega) | (simp only [List.length_append, List.length_cons, List.length_nil, List.length_set]; rfl),  trivial⟩) rfl) rfl ⟨.tmp rfl, .tmp rfl, trivial⟩ ⟨by first | rfl | (simp only [AV.map, GV.map, CV.map, AB.map', id]; done) | (congr 3; omega) | (congr 4; omega) | (simp only [List.length_append, List.length_cons, List.length_nil, List.length_set]; rfl),  trivial⟩) ?_ ?_
              · first | rfl | (simp [outOf, aC]; done) | (simp [outOf, aC]; omega)
              · first | rfl | (simp; done) | (simp; omega)
            ·
              have hc7' := hc7; try simp only [sumB, Bool.not_eq_true', Bool.not_eq_false', Bool.or_eq_true, Bool.or_eq_false_iff, Bool.and_eq_true, Bool.and_eq_false_imp, decide_eq_true_eq, decide_eq_false_iff_not, Bool.not_not, Bool.not_true, Bool.not_false] at hc7'
              refine AC.skip ?_
              refine then_ok ?_
              refine AC.region ?_
              refine AL.fast 1 rfl ?_
              refine AL.val (Wanted.plain rfl) (g_fieldP rfl rfl Try.underlying111 rfl sz3 (by decide)) rfl rfl ?_
              refine AL.val (Wanted.plain rfl) (g_loadB rfl rfl rfl Try.underlying3 rfl rfl) rfl rfl ?_
              refine AL.val (Wanted.plain rfl) (g_binI rfl rfl rfl (wrap_ok (by first | omega | (simp; done) | (simp; omega)))) rfl rfl ?_
              refine AL.fast 1 rfl ?_
              refine AL.nil ?_
              refine block_ok ?_
              refine then_ok ?_
              refine AC.region ?_
              refine AL.val (Wanted.plain rfl) (g_binI rfl rfl rfl (wrap_ok (by first | omega | (simp; done) | (simp; omega)))) rfl rfl ?_
              refine AL.fast 1 rfl ?_
              refine AL.nil ?_
              refine then_ok ?_
              refine ⟨q + 1, ⟨by omega, nobad_next hi0_1 hx1 (by unfold badE; omega), by rw [sumE_take hx1]; omega⟩, by first | omega | (simp; done) | (simp; omega), Weak.ren id (⟨by first | rfl | (simp only [AV.map, GV.map, CV.map, AB.map', id]; done) | (congr 3; omega) | (congr 4; omega) | (simp only [List.length_append, List.length_cons, List.length_nil, List.length_set]; rfl) | (rw [sumE_take hx1]; rfl), by first | rfl | (simp only [AV.map, GV.map, CV.map, AB.map', id]; done) | (congr 3; omega) | (congr 4; omega) | (simp only [List.length_append, List.length_cons, List.length_nil, List.length_set]; rfl) | (rw [sumE_take hx1]; rfl), by first | rfl | (simp only [AV.map, GV.map, CV.map, AB.map', id]; done) | (congr 3; omega) | (congr 4; omega) | (simp only [List.length_append, List.length_cons, List.length_nil, List.length_set]; rfl) | (rw [sumE_take hx1]; rfl), by first | rfl | (simp only [AV.map, GV.map, CV.map, AB.map', id]; done) | (congr 3; omega) | (congr 4; omega) | (simp only [List.length_append, List.length_cons, List.length_nil, List.length_set]; rfl) | (rw [sumE_take hx1]; rfl), by first | rfl | (simp only [AV.map, GV.map, CV.map, AB.map', id]; done) | (congr 3; omega) | (congr 4; omega) | (simp only [List.length_append, List.length_cons, List.length_nil, List.length_set]; rfl) | (rw [sumE_take hx1]; rfl), by first | rfl | (simp only [AV.map, GV.map, CV.map, AB.map', id]; done) | (congr 3; omega) | (congr 4; omega) | (simp only [List.length_append, List.length_cons, List.length_nil, List.length_set]; rfl) | (rw [sumE_take hx1]; rfl),  trivial⟩) (trivial) rfl⟩
        ·
          have hc3' := hc3; try simp only [sumB, Bool.not_eq_true', Bool.not_eq_false', Bool.or_eq_true, Bool.or_eq_false_iff, Bool.and_eq_true, Bool.and_eq_false_imp, decide_eq_true_eq, decide_eq_false_iff_not, Bool.not_not, Bool.not_true, Bool.not_false] at hc3'
          refine AC.exit ?_
          refine then_exit ?_
          refine then_exit ?_
          refine block_hit ?_
          refine then_ok ?_
          refine AC.seq ?_
          refine AC.seq ?_
          refine AC.region ?_
          refine AL.fast 1 rfl ?_
          refine AL.val (Wanted.plain rfl) (g_binI rfl rfl rfl rfl) rfl rfl ?_
          refine AL.nil ?_
          refine then_ok ?_
          refine AC.cond rfl (fun hc8 => ?_) (fun hc8 => ?_)
          ·
            have hc8' := hc8; try simp only [sumB, Bool.not_eq_true', Bool.not_eq_false', Bool.or_eq_true, Bool.or_eq_false_iff, Bool.and_eq_true, Bool.and_eq_false_imp, decide_eq_true_eq, decide_eq_false_iff_not, Bool.not_not, Bool.not_true, Bool.not_false] at hc8'
            refine AC.seq ?_
            refine AC.region ?_
            refine AL.fast 2 rfl ?_
            refine AL.nil ?_
            refine then_ok ?_
            refine AC.ret ?_
            refine then_ret ?_
            refine retQ_weak (Weak.nil 4 111 2 (by decide) rfl) ?_
            have hX : postB l es = (([] : List Entry), 8) := by
              (have hs := sum_all (es := es) (q := q) (by omega)); (have hnb := nobad_all hi0_1 (by omega)); unfold postB; rw [if_neg (by rw [hr0]; omega), if_neg (by omega), if_neg (fun ⟨x, hx, hb⟩ => hnb x hx hb), if_pos (by omega)]
            rw [hX] at hr; clear hX
            simp only [Prod.mk.injEq] at hr; obtain ⟨rfl, rfl⟩ := hr
            refine retQ_mk (av' := outOf [(.c (.s 0 0 2 0)), (.c (cI 8))]) (nb' := [(0, (.arr 111 2 ((([] : List Entry)).map rEntry)))]) (retQ_ret ⟨[(4, (aC (.s 0 0 2 0))), (5, (aI 8))], [(0, (.arr 111 2 ((([] : List Entry)).map rEntry)))], 1⟩ [.tmp 4, .tmp 5] [(.c (.s 0 0 2 0)), (.c (cI 8))] (Weak.ren (fun k => if k = 0 then 0 else k) (⟨by first | rfl | (simp only [AV.map, GV.map, CV.map, AB.map', id]; done) | (congr 3; omega) | (congr 4; omega) | (simp only [List.length_append, List.length_cons, List.length_nil, List.length_set]; rfl), by first | rfl | (simp only [AV.map, GV.map, CV.map, AB.map', id]; done) | (congr 3; omega) | (congr 4; omega) | (simp only [List.length_append, List.length_cons, List.length_nil, List.length_set]; rfl),  trivial⟩) (⟨by first | rfl | (simp only [AV.map, GV.map, CV.map, AB.map', id]; done) | (congr 3; omega) | (congr 4; omega) | (simp only [List.length_append, List.length_cons, List.length_nil, List.length_set]; rfl),  trivial⟩) rfl) rfl ⟨.tmp rfl, .tmp rfl, trivial⟩ ⟨by first | rfl | (simp only [AV.map, GV.map, CV.map, AB.map', id]; done) | (congr 3; omega) | (congr 4; omega) | (simp only [List.length_append, List.length_cons, List.length_nil, List.length_set]; rfl),  trivial⟩) ?_ ?_
            · first | rfl | (simp [outOf, aC]; done) | (simp [outOf, aC]; omega)
            · first | rfl | (simp; done) | (simp; omega)
          ·
            have hc8' := hc8; try simp only [sumB, Bool.not_eq_true', Bool.not_eq_false', Bool.or_eq_true, Bool.or_eq_false_iff, Bool.and_eq_true, Bool.and_eq_false_imp, decide_eq_true_eq, decide_eq_false_iff_not, Bool.not_not, Bool.not_true, Bool.not_false] at hc8'
            refine AC.skip ?_
            refine then_ok ?_
            have h0 : (wrongB l).err = 0 := by rw [hr0]; omega
            have hR : Right l := (wrongB_iff.1 h0).1
            have hRl := right_len hR
            have hs := sum_all (es := es) (q := q) (by omega)
            have hnb := nobad_all hi0_1 (by omega)
            refine AC.seq ?_
            refine AC.region ?_
            refine AL.fast 1 rfl ?_
            refine AL.call (n' := 1) (h' := [(0, (.arr 111 2 ((l).map rEntry)))]) (Wanted.plain rfl) (g_call 0 (c_Clone_Entry l (by first | omega | (simp; done) | (simp; omega)) ) en115 rfl rfl ⟨⟨_, rfl, .c (.d _)⟩,  trivial⟩ trivial ⟨(fun _ _ _ _ => trivial),  trivial⟩ rfl rfl rfl rfl) rfl rfl rfl rfl rfl ?_
            refine AL.fast 1 rfl ?_
            refine AL.nil ?_
            refine then_ok ?_
            refine AC.seq ?_
            refine AC.seq ?_
            refine AC.region ?_
            refine AL.fast 1 rfl ?_
            refine AL.val (Wanted.plain rfl) (g_lenM rfl rfl rfl rfl rfl Try.underlying102) rfl rfl ?_
            refine AL.fast 1 rfl ?_
            refine AL.nil ?_
            refine then_ok ?_
            refine AC.block ?_
            refine AC.loop (β := Nat × List Entry) (fun (p : Nat × List Entry) => match p with | (p, m) => ⟨[(0, (aC (cR 2 ((l).map rEntry)))), (1, (aC (cR 2 ((es).map rEntry)))), (7, (aI (sumE (es.take q)))), (25, (aC (cR 2 ((es).map rEntry)))), (26, (aI (↑es.length : Int))), (27, (aI (↑q : Int))), (10, (aC (.s 0 0 2 m.length))), (58, (aC (cR 2 ((es).map rEntry)))), (59, (aI (↑es.length : Int))), (60, (aI (↑p : Int)))], [(0, (.arr 111 2 ((m).map rEntry)))], 1⟩) (fun (p : Nat × List Entry) => match p with | (p, m) => p ≤ es.length ∧ Right m ∧ putAll l es = putAll m (es.drop p)) (fun (p : Nat × List Entry) => match p with | (p, m) => es.length - p) (0, l) ?_ ?_ ?_
            · exact ⟨by omega, hR, rfl⟩
            · exact Weak.ren id (⟨by first | rfl | (simp only [AV.map, GV.map, CV.map, AB.map', id]; done) | (congr 3; omega) | (congr 4; omega) | (simp only [List.length_append, List.length_cons, List.length_nil, List.length_set]; rfl), by first | rfl | (simp only [AV.map, GV.map, CV.map, AB.map', id]; done) | (congr 3; omega) | (congr 4; omega) | (simp only [List.length_append, List.length_cons, List.length_nil, List.length_set]; rfl), by first | rfl | (simp only [AV.map, GV.map, CV.map, AB.map', id]; done) | (congr 3; omega) | (congr 4; omega) | (simp only [List.length_append, List.length_cons, List.length_nil, List.length_set]; rfl), by first | rfl | (simp only [AV.map, GV.map, CV.map, AB.map', id]; done) | (congr 3; omega) | (congr 4; omega) | (simp only [List.length_append, List.length_cons, List.length_nil, List.length_set]; rfl), by first | rfl | (simp only [AV.map, GV.map, CV.map, AB.map', id]; done) | (congr 3; omega) | (congr 4; omega) | (simp only [List.length_append, List.length_cons, List.length_nil, List.length_set]; rfl), by first | rfl | (simp only [AV.map, GV.map, CV.map, AB.map', id]; done) | (congr 3; omega) | (congr 4; omega) | (simp only [List.length_append, List.length_cons, List.length_nil, List.length_set]; rfl), by first | rfl | (simp only [AV.map, GV.map, CV.map, AB.map', id]; done) | (congr 3; omega) | (congr 4; omega) | (simp only [List.length_append, List.length_cons, List.length_nil, List.length_set]; rfl), by first | rfl | (simp only [AV.map, GV.map, CV.map, AB.map', id]; done) | (congr 3; omega) | (congr 4; omega) | (simp only [List.length_append, List.length_cons, List.length_nil, List.length_set]; rfl), by first | rfl | (simp only [AV.map, GV.map, CV.map, AB.map', id]; done) | (congr 3; omega) | (congr 4; omega) | (simp only [List.length_append, List.length_cons, List.length_nil, List.length_set]; rfl), by first | rfl | (simp only [AV.map, GV.map, CV.map, AB.map', id]; done) | (congr 3; omega) | (congr 4; omega) | (simp only [List.length_append, List.length_cons, List.length_nil, List.length_set]; rfl),  trivial⟩) (⟨by first | rfl | (simp only [AV.map, GV.map, CV.map, AB.map', id]; done) | (congr 3; omega) | (congr 4; omega) | (simp only [List.length_append, List.length_cons, List.length_nil, List.length_set]; rfl),  trivial⟩) rfl
            ·
              rintro ⟨p, m⟩ ⟨hi1_0, hi1_1, hi1_2⟩
              refine AC.seq ?_
              refine AC.region ?_
              refine AL.val (Wanted.plain rfl) (g_binI rfl rfl rfl rfl) rfl rfl ?_
              refine AL.nil ?_
              refine then_ok ?_
              refine AC.seq ?_
              refine AC.cond rfl (fun hc9 => ?_) (fun hc9 => ?_)
              ·
                have hc9' := hc9; try simp only [sumB, Bool.not_eq_true', Bool.not_eq_false', Bool.or_eq_true, Bool.or_eq_false_iff, Bool.and_eq_true, Bool.and_eq_false_imp, decide_eq_true_eq, decide_eq_false_iff_not, Bool.not_not, Bool.not_true, Bool.not_false] at hc9'
                refine AC.skip ?_
                refine then_ok ?_
                refine AC.seq ?_
                refine AC.block ?_
                refine AC.seq ?_
                refine AC.region ?_
                obtain ⟨x1, hx1⟩ := exget (xs := es) (i := p) (by first | omega | (simp; done) | (simp; omega))
                have hx1n := hnb x1 (List.mem_of_getElem? hx1)
                have hx1b : 0 ≤ x1.account ∧ x1.account ≤ 57 ∧ -1000000000000 ≤ x1.sum ∧ x1.sum ≤ 1000000000000 := by unfold badE at hx1n; omega
                refine AL.val (Wanted.plain rfl) (g_indexQ (i := p) rfl rfl rfl Try.underlying102 sz111 (by first | omega | (simp; done) | (simp; omega)) (getmap hx1)) rfl rfl ?_
                refine AL.val (Wanted.plain rfl) (g_loadQs rfl rfl Try.underlying111 rfl sz111 rfl rfl) rfl rfl ?_
                refine AL.new (n' := 2) (Wanted.plain rfl) (g_alloc 1 rfl zv111 rfl rfl rfl) rfl rfl rfl ?_
                refine AL.sto (h' := [(1, (.box 111 [(cI x1.account), (cI x1.sum)])), (0, (.arr 111 2 ((m).map rEntry)))]) (Wanted.plain rfl) (g_storeB rfl rfl rfl rfl rfl sz111 rfl (Nat.le_of_ble_eq_true rfl) rfl) rfl rfl rfl rfl ?_
                refine AL.nil ?_
                refine then_ok ?_
                refine AC.seq ?_
                refine AC.region ?_
                refine AL.fast 1 rfl ?_
                refine AL.val (Wanted.plain rfl) (g_loadBs rfl rfl rfl Try.underlying111 rfl sz111 rfl rfl) rfl rfl ?_
                obtain ⟨r1, g1, hr1⟩ : ∃ (r1 : List Entry) (g1 : Bool), putE m x1 = (r1, g1) := ⟨_, _, rfl⟩
                obtain ⟨hp1, hg1⟩ := Prod.mk.inj hr1
                refine AL.callM (n' := 3) (h' := [(2, (.arr 111 2 ((r1).map rEntry))), (1, (.box 111 [(cI x1.account), (cI x1.sum)]))]) (Wanted.plain rfl) (g_callM (fun k => k) (fun k => if k = 0 then 2 else k) (c_put m x1 (by exact (show Right _ by assumption).up) (by (have := right_len (show Right _ by assumption); omega)) (by (intro y hy; have := (show Right _ by assumption).ok y hy; omega)) (by (unfold badE at *; omega)) r1 g1 hr1) en116 rfl rfl ⟨⟨_, rfl, .inl ⟨rfl, rfl⟩⟩, ⟨_, rfl, .inr (.g ⟨.d _, .d _,  trivial⟩)⟩,  trivial⟩ ⟨rfl,  trivial⟩ rfl rfl rfl rfl rfl rfl ⟨trivial, trivial,  trivial⟩ ⟨(fun _ _ _ _ => trivial),  trivial⟩ rfl rfl rfl rfl) rfl rfl rfl rfl rfl rfl ?_
                refine AL.fast 1 rfl ?_
                refine AL.val (Wanted.plain rfl) (g_extract rfl rfl rfl) rfl rfl ?_
                refine AL.val (Wanted.plain rfl) (g_extract rfl rfl rfl) rfl rfl ?_
                refine AL.fast 2 rfl ?_
                refine AL.nil ?_
                refine then_ok ?_
                refine AC.seq ?_
                refine AC.seq ?_
                refine AC.region ?_
                refine AL.fast 1 rfl ?_
                refine AL.val (Wanted.plain rfl) (g_notB rfl rfl) rfl rfl ?_
                refine AL.nil ?_
                refine then_ok ?_
                refine AC.cond rfl (fun hc10 => ?_) (fun hc10 => ?_)
                ·
                  have hc10' := hc10; try simp only [sumB, Bool.not_eq_true', Bool.not_eq_false', Bool.or_eq_true, Bool.or_eq_false_iff, Bool.and_eq_true, Bool.and_eq_false_imp, decide_eq_true_eq, decide_eq_false_iff_not, Bool.not_not, Bool.not_true, Bool.not_false] at hc10'
                  refine AC.seq ?_
                  refine AC.region ?_
                  refine AL.fast 2 rfl ?_
                  refine AL.nil ?_
                  refine then_ok ?_
                  refine AC.ret ?_
                  refine then_ret ?_
                  refine block_ret ?_
                  refine then_ret ?_
                  refine then_ret ?_
                  refine block_ret ?_
                  refine then_ret ?_
                  refine retQ_weak (Weak.nil 4 111 2 (by decide) rfl) ?_
                  have hX : postB l es = (([] : List Entry), 4) := by
                    rw [postB_go h0 (by omega) hnb (by omega), hi1_2, putAll_drop hx1, if_neg (by simp_all)]
                  rw [hX] at hr; clear hX
                  simp only [Prod.mk.injEq] at hr; obtain ⟨rfl, rfl⟩ := hr
                  refine retQ_mk (av' := outOf [(.c (.s 0 0 2 0)), (.c (cI 4))]) (nb' := [(0, (.arr 111 2 ((([] : List Entry)).map rEntry)))]) (retQ_ret ⟨[(4, (aC (.s 0 0 2 0))), (5, (aI 4))], [(0, (.arr 111 2 ((([] : List Entry)).map rEntry)))], 1⟩ [.tmp 4, .tmp 5] [(.c (.s 0 0 2 0)), (.c (cI 4))] (Weak.ren (fun k => if k = 0 then 3 else k) (⟨by first | rfl | (simp only [AV.map, GV.map, CV.map, AB.map', id]; done) | (congr 3; omega) | (congr 4; omega) | (simp only [List.length_append, List.length_cons, List.length_nil, List.length_set]; rfl), by first | rfl | (simp only [AV.map, GV.map, CV.map, AB.map', id]; done) | (congr 3; omega) | (congr 4; omega) | (simp only [List.length_append, List.length_cons, List.length_nil, List.length_set]; rfl),  trivial⟩) (⟨by first | rfl | (simp only [AV.map, GV.map, CV.map, AB.map', id]; done) | (congr 3; omega) | (congr 4; omega) | (simp only [List.length_append, List.length_cons, List.length_nil, List.length_set]; rfl),  trivial⟩) rfl) rfl ⟨.tmp rfl, .tmp rfl, trivial⟩ ⟨by first | rfl | (simp only [AV.map, GV.map, CV.map, AB.map', id]; done) | (congr 3; omega) | (congr 4; omega) | (simp only [List.length_append, List.length_cons, List.length_nil, List.length_set]; rfl),  trivial⟩) ?_ ?_
                  · first | rfl | (simp [outOf, aC]; done) | (simp [outOf, aC]; omega)
                  · first | rfl | (simp; done) | (simp; omega)
                ·
                  have hc10' := hc10; try simp only [sumB, Bool.not_eq_true', Bool.not_eq_false', Bool.or_eq_true, Bool.or_eq_false_iff, Bool.and_eq_true, Bool.and_eq_false_imp, decide_eq_true_eq, decide_eq_false_iff_not, Bool.not_not, Bool.not_true, Bool.not_false] at hc10'
                  refine AC.skip ?_
                  refine then_ok ?_
                  refine AC.region ?_
                  refine AL.fast 2 rfl ?_
                  refine AL.nil ?_
                  refine block_ok ?_
                  refine then_ok ?_
                  refine AC.region ?_
                  refine AL.val (Wanted.plain rfl) (g_binI rfl rfl rfl (wrap_ok (by first | omega | (simp; done) | (simp; omega)))) rfl rfl ?_
                  refine AL.fast 1 rfl ?_
                  refine AL.nil ?_
                  refine then_ok ?_
                  refine ⟨(p + 1, r1), ⟨by omega, by rw [← hp1]; exact setE_right hi1_1 (by omega) (goodE_iff.1 (by rw [hg1]; simp_all)), by rw [hi1_2, putAll_drop hx1, if_pos (by rw [hg1]; simp_all), hp1]⟩, by first | omega | (simp; done) | (simp; omega), Weak.ren (fun k => if k = 0 then 2 else k) (⟨by first | rfl | (simp only [AV.map, GV.map, CV.map, AB.map', id]; done) | (congr 3; omega) | (congr 4; omega) | (simp only [List.length_append, List.length_cons, List.length_nil, List.length_set]; rfl), by first | rfl | (simp only [AV.map, GV.map, CV.map, AB.map', id]; done) | (congr 3; omega) | (congr 4; omega) | (simp only [List.length_append, List.length_cons, List.length_nil, List.length_set]; rfl), by first | rfl | (simp only [AV.map, GV.map, CV.map, AB.map', id]; done) | (congr 3; omega) | (congr 4; omega) | (simp only [List.length_append, List.length_cons, List.length_nil, List.length_set]; rfl), by first | rfl | (simp only [AV.map, GV.map, CV.map, AB.map', id]; done) | (congr 3; omega) | (congr 4; omega) | (simp only [List.length_append, List.length_cons, List.length_nil, List.length_set]; rfl), by first | rfl | (simp only [AV.map, GV.map, CV.map, AB.map', id]; done) | (congr 3; omega) | (congr 4; omega) | (simp only [List.length_append, List.length_cons, List.length_nil, List.length_set]; rfl), by first | rfl | (simp only [AV.map, GV.map, CV.map, AB.map', id]; done) | (congr 3; omega) | (congr 4; omega) | (simp only [List.length_append, List.length_cons, List.length_nil, List.length_set]; rfl), by first | rfl | (simp only [AV.map, GV.map, CV.map, AB.map', id]; done) | (congr 3; omega) | (congr 4; omega) | (simp only [List.length_append, List.length_cons, List.length_nil, List.length_set]; rfl), by first | rfl | (simp only [AV.map, GV.map, CV.map, AB.map', id]; done) | (congr 3; omega) | (congr 4; omega) | (simp only [List.length_append, List.length_cons, List.length_nil, List.length_set]; rfl), by first | rfl | (simp only [AV.map, GV.map, CV.map, AB.map', id]; done) | (congr 3; omega) | (congr 4; omega) | (simp only [List.length_append, List.length_cons, List.length_nil, List.length_set]; rfl), by first | rfl | (simp only [AV.map, GV.map, CV.map, AB.map', id]; done) | (congr 3; omega) | (congr 4; omega) | (simp only [List.length_append, List.length_cons, List.length_nil, List.length_set]; rfl),  trivial⟩) (⟨by first | rfl | (simp only [AV.map, GV.map, CV.map, AB.map', id]; done) | (congr 3; omega) | (congr 4; omega) | (simp only [List.length_append, List.length_cons, List.length_nil, List.length_set]; rfl),  trivial⟩) rfl⟩
              ·
                have hc9' := hc9; try simp only [sumB, Bool.not_eq_true', Bool.not_eq_false', Bool.or_eq_true, Bool.or_eq_false_iff, Bool.and_eq_true, Bool.and_eq_false_imp, decide_eq_true_eq, decide_eq_false_iff_not, Bool.not_not, Bool.not_true, Bool.not_false] at hc9'
                refine AC.exit ?_
                refine then_exit ?_
                refine then_exit ?_
                refine block_hit ?_
                refine then_ok ?_
                refine AC.seq ?_
                refine AC.region ?_
                refine AL.fast 3 rfl ?_
                refine AL.nil ?_
                refine then_ok ?_
                refine AC.ret ?_
                have hX : postB l es = (m, 0) := by
                  rw [postB_go h0 (by omega) hnb (by omega), put_end hi1_2 (by omega)]
                rw [hX] at hr; clear hX
                simp only [Prod.mk.injEq] at hr; obtain ⟨rfl, rfl⟩ := hr
                refine retQ_mk (av' := outOf [(.c (.s 0 0 2 m.length)), (.c (cI 0))]) (nb' := [(0, (.arr 111 2 ((m).map rEntry)))]) (retQ_ret ⟨[(4, (aC (.s 0 0 2 m.length))), (5, (aI 0))], [(0, (.arr 111 2 ((m).map rEntry)))], 1⟩ [.tmp 4, .tmp 5] [(.c (.s 0 0 2 m.length)), (.c (cI 0))] (Weak.ren (fun k => if k = 0 then 0 else k) (⟨by first | rfl | (simp only [AV.map, GV.map, CV.map, AB.map', id]; done) | (congr 3; omega) | (congr 4; omega) | (simp only [List.length_append, List.length_cons, List.length_nil, List.length_set]; rfl), by first | rfl | (simp only [AV.map, GV.map, CV.map, AB.map', id]; done) | (congr 3; omega) | (congr 4; omega) | (simp only [List.length_append, List.length_cons, List.length_nil, List.length_set]; rfl),  trivial⟩) (⟨by first | rfl | (simp only [AV.map, GV.map, CV.map, AB.map', id]; done) | (congr 3; omega) | (congr 4; omega) | (simp only [List.length_append, List.length_cons, List.length_nil, List.length_set]; rfl),  trivial⟩) rfl) rfl ⟨.tmp rfl, .tmp rfl, trivial⟩ ⟨by first | rfl | (simp only [AV.map, GV.map, CV.map, AB.map', id]; done) | (congr 3; omega) | (congr 4; omega) | (simp only [List.length_append, List.length_cons, List.length_nil, List.length_set]; rfl),  trivial⟩) ?_ ?_
                · first | rfl | (simp [outOf, aC]; done) | (simp [outOf, aC]; omega)
                · first | rfl | (simp; done) | (simp; omega)
end Go.Proofs.Ytgmcdlfmifijlaa.Dev
