/- book.Get, payref1.Get, SameBook. -/
import Derived.Test.YtgmcdlfmifijlaaDBook5
set_option linter.unusedVariables false
set_option linter.unusedSimpArgs false
namespace Go.Proofs.Ytgmcdlfmifijlaa.Dev
open Go.RowKit


theorem getE_drop {l : List Entry} {q : Nat} {x : Entry} {a : Int} (h : l[q]? = some x) : getE (l.drop q) a = if x.account = a then x.sum else getE (l.drop (q + 1)) a := by
  obtain ⟨hq, rfl⟩ := List.getElem?_eq_some_iff.1 h
  rw [List.drop_eq_getElem_cons hq]; rfl
theorem getE_over {l : List Entry} {q : Nat} {a : Int} (h : l.length ≤ q) : getE (l.drop q) a = 0 := by
  rw [List.drop_of_length_le h]; rfl

set_option maxRecDepth 100000 in
set_option maxHeartbeats 1000000 in
theorem c_book_Get (l : List Entry) (a : Int) (n : Int) (hr : getE l a = n) : Fn Try.prog 81 [(.c (cR 2 ((l).map rEntry))), (.c (cI a))] (.v (.c (cI n))) [] := by
  refine Fn.mk' 20 [(0, (aC (cR 2 ((l).map rEntry)))), (1, (aI a))] Try.func81 rfl rfl rfl rfl ?_
  intro W0 T0
  refine AC.len1 0 rfl (fun hlen0 => ?_)
  refine AC.seq ?_
  refine AC.region ?_
  refine AL.fast 1 rfl ?_
  refine AL.nil ?_
  refine then_ok ?_
  refine AC.seq ?_
  refine AC.seq ?_
  refine AC.region ?_
  refine AL.fast 1 rfl ?_
  refine AL.val (Wanted.plain rfl) (g_lenM rfl rfl rfl rfl rfl Try.underlying102) rfl rfl ?_
  refine AL.fast 1 rfl ?_
  refine AL.nil ?_
  refine then_ok ?_
  refine AC.block ?_
  refine AC.loop (β := Nat) (fun (q : Nat) => ⟨[(1, (aI a)), (7, (aC (cR 2 ((l).map rEntry)))), (8, (aI (↑l.length : Int))), (9, (aI (↑q : Int)))], [], 0⟩) (fun (q : Nat) => q ≤ l.length ∧ getE l a = getE (l.drop q) a) (fun (q : Nat) => l.length - q) 0 ?_ ?_ ?_
  · exact ⟨by omega, rfl⟩
  · exact Weak.ren id (⟨by first | rfl | (simp only [AV.map, GV.map, CV.map, AB.map', id]; done) | (congr 3; omega) | (congr 4; omega) | (simp only [List.length_append, List.length_cons, List.length_nil, List.length_set]; rfl), by first | rfl | (simp only [AV.map, GV.map, CV.map, AB.map', id]; done) | (congr 3; omega) | (congr 4; omega) | (simp only [List.length_append, List.length_cons, List.length_nil, List.length_set]; rfl), by first | rfl | (simp only [AV.map, GV.map, CV.map, AB.map', id]; done) | (congr 3; omega) | (congr 4; omega) | (simp only [List.length_append, List.length_cons, List.length_nil, List.length_set]; rfl), by first | rfl | (simp only [AV.map, GV.map, CV.map, AB.map', id]; done) | (congr 3; omega) | (congr 4; omega) | (simp only [List.length_append, List.length_cons, List.length_nil, List.length_set]; rfl),  trivial⟩) (trivial) rfl
  ·
    rintro q ⟨hi0_0, hi0_1⟩
    refine AC.seq ?_
    refine AC.region ?_
    refine AL.val (Wanted.plain rfl) (g_binI rfl rfl rfl rfl) rfl rfl ?_
    refine AL.nil ?_
    refine then_ok ?_
    refine AC.seq ?_
    refine AC.cond rfl (fun hc1 => ?_) (fun hc1 => ?_)
    ·
      have hc1' := hc1; try simp only [sumB, Bool.not_eq_true', Bool.not_eq_false', Bool.or_eq_true, Bool.or_eq_false_iff, Bool.and_eq_true, Bool.and_eq_false_imp, decide_eq_true_eq, decide_eq_false_iff_not, Bool.not_not, Bool.not_true, Bool.not_false] at hc1'
      refine AC.skip ?_
      refine then_ok ?_
      refine AC.seq ?_
      refine AC.block ?_
      refine AC.seq ?_
      refine AC.region ?_
      obtain ⟨x1, hx1⟩ := exget (xs := l) (i := q) (by first | omega | (simp; done) | (simp; omega))
      refine AL.val (Wanted.plain rfl) (g_indexQ (i := q) rfl rfl rfl Try.underlying102 sz111 (by first | omega | (simp; done) | (simp; omega)) (getmap hx1)) rfl rfl ?_
      refine AL.val (Wanted.plain rfl) (g_loadQs rfl rfl Try.underlying111 rfl sz111 rfl rfl) rfl rfl ?_
      refine AL.new (n' := 1) (Wanted.plain rfl) (g_alloc 0 rfl zv111 rfl rfl rfl) rfl rfl rfl ?_
      refine AL.sto (h' := [(0, (.box 111 [(cI x1.account), (cI x1.sum)]))]) (Wanted.plain rfl) (g_storeB rfl rfl rfl rfl rfl sz111 rfl (Nat.le_of_ble_eq_true rfl) rfl) rfl rfl rfl rfl ?_
      refine AL.nil ?_
      refine then_ok ?_
      refine AC.seq ?_
      refine AC.region ?_
      refine AL.val (Wanted.plain rfl) (g_fieldP rfl rfl Try.underlying111 rfl sz3 (by decide)) rfl rfl ?_
      refine AL.val (Wanted.plain rfl) (g_loadB rfl rfl rfl Try.underlying3 rfl rfl) rfl rfl ?_
      refine AL.fast 1 rfl ?_
      refine AL.val (Wanted.plain rfl) (g_binI rfl rfl rfl rfl) rfl rfl ?_
      refine AL.nil ?_
      refine then_ok ?_
      refine AC.cond rfl (fun hc2 => ?_) (fun hc2 => ?_)
      ·
        have hc2' := hc2; try simp only [sumB, Bool.not_eq_true', Bool.not_eq_false', Bool.or_eq_true, Bool.or_eq_false_iff, Bool.and_eq_true, Bool.and_eq_false_imp, decide_eq_true_eq, decide_eq_false_iff_not, Bool.not_not, Bool.not_true, Bool.not_false] at hc2'
        refine AC.seq ?_
        refine AC.region ?_
        refine AL.val (Wanted.plain rfl) (g_fieldP rfl rfl Try.underlying111 rfl sz3 (by decide)) rfl rfl ?_
        refine AL.val (Wanted.plain rfl) (g_loadB rfl rfl rfl Try.underlying3 rfl rfl) rfl rfl ?_
        refine AL.fast 1 rfl ?_
        refine AL.nil ?_
        refine then_ok ?_
        refine AC.ret ?_
        refine block_ret ?_
        refine then_ret ?_
        refine then_ret ?_
        refine block_ret ?_
        refine then_ret ?_
        have hX : getE l a = x1.sum := by
          rw [hi0_1, getE_drop hx1, if_pos (by omega)]
        rw [hX] at hr; clear hX
        subst hr
        refine retQ_mk (av' := outOf [(.c (cI x1.sum))]) (nb' := []) (retQ_ret ⟨[(4, (aI x1.sum))], [], 0⟩ [.tmp 4] [(.c (cI x1.sum))] (Weak.ren id (⟨by first | rfl | (simp only [AV.map, GV.map, CV.map, AB.map', id]; done) | (congr 3; omega) | (congr 4; omega) | (simp only [List.length_append, List.length_cons, List.length_nil, List.length_set]; rfl),  trivial⟩) (trivial) rfl) rfl ⟨.tmp rfl, trivial⟩ trivial) ?_ ?_
        · first | rfl | (simp [outOf, aC]; done) | (simp [outOf, aC]; omega)
        · first | rfl | (simp; done) | (simp; omega)
      ·
        have hc2' := hc2; try simp only [sumB, Bool.not_eq_true', Bool.not_eq_false', Bool.or_eq_true, Bool.or_eq_false_iff, Bool.and_eq_true, Bool.and_eq_false_imp, decide_eq_true_eq, decide_eq_false_iff_not, Bool.not_not, Bool.not_true, Bool.not_false] at hc2'
        refine AC.skip ?_
        refine block_ok ?_
        refine then_ok ?_
        refine AC.region ?_
        refine AL.val (Wanted.plain rfl) (g_binI rfl rfl rfl (wrap_ok (by first | omega | (simp; done) | (simp; omega)))) rfl rfl ?_
        refine AL.fast 1 rfl ?_
        refine AL.nil ?_
        refine then_ok ?_
        refine ⟨q + 1, ⟨by omega, by rw [hi0_1, getE_drop hx1, if_neg (by omega)]⟩, by first | omega | (simp; done) | (simp; omega), Weak.ren id (⟨by first | rfl | (simp only [AV.map, GV.map, CV.map, AB.map', id]; done) | (congr 3; omega) | (congr 4; omega) | (simp only [List.length_append, List.length_cons, List.length_nil, List.length_set]; rfl), by first | rfl | (simp only [AV.map, GV.map, CV.map, AB.map', id]; done) | (congr 3; omega) | (congr 4; omega) | (simp only [List.length_append, List.length_cons, List.length_nil, List.length_set]; rfl), by first | rfl | (simp only [AV.map, GV.map, CV.map, AB.map', id]; done) | (congr 3; omega) | (congr 4; omega) | (simp only [List.length_append, List.length_cons, List.length_nil, List.length_set]; rfl), by first | rfl | (simp only [AV.map, GV.map, CV.map, AB.map', id]; done) | (congr 3; omega) | (congr 4; omega) | (simp only [List.length_append, List.length_cons, List.length_nil, List.length_set]; rfl),  trivial⟩) (trivial) rfl⟩
    ·
      have hc1' := hc1; try simp only [sumB, Bool.not_eq_true', Bool.not_eq_false', Bool.or_eq_true, Bool.or_eq_false_iff, Bool.and_eq_true, Bool.and_eq_false_imp, decide_eq_true_eq, decide_eq_false_iff_not, Bool.not_not, Bool.not_true, Bool.not_false] at hc1'
      refine AC.exit ?_
      refine then_exit ?_
      refine then_exit ?_
      refine block_hit ?_
      refine then_ok ?_
      refine AC.seq ?_
      refine AC.region ?_
      refine AL.fast 1 rfl ?_
      refine AL.nil ?_
      refine then_ok ?_
      refine AC.ret ?_
      have hX : getE l a = 0 := by
        rw [hi0_1, getE_over (by omega)]
      rw [hX] at hr; clear hX
      subst hr
      refine retQ_mk (av' := outOf [(.c (cI 0))]) (nb' := []) (retQ_ret ⟨[(4, (aI 0))], [], 0⟩ [.tmp 4] [(.c (cI 0))] (Weak.ren id (⟨by first | rfl | (simp only [AV.map, GV.map, CV.map, AB.map', id]; done) | (congr 3; omega) | (congr 4; omega) | (simp only [List.length_append, List.length_cons, List.length_nil, List.length_set]; rfl),  trivial⟩) (trivial) rfl) rfl ⟨.tmp rfl, trivial⟩ trivial) ?_ ?_
      · first | rfl | (simp [outOf, aC]; done) | (simp [outOf, aC]; omega)
      · first | rfl | (simp; done) | (simp; omega)
set_option maxRecDepth 100000 in
set_option maxHeartbeats 1000000 in
theorem c_ref_Get (l : List Entry) (a : Int) (n : Int) (hr : getE l a = n) : Fn Try.prog 82 [(.c (cR 2 ((l).map rEntry))), (.c (cI a))] (.v (.c (cI n))) [] := by
  refine Fn.mk' 27 [(0, (aC (cR 2 ((l).map rEntry)))), (1, (aI a))] Try.func82 rfl rfl rfl rfl ?_
  intro W0 T0
  refine AC.len1 0 rfl (fun hlen0 => ?_)
  refine AC.seq ?_
  refine AC.region ?_
  refine AL.fast 1 rfl ?_
  refine AL.nil ?_
  refine then_ok ?_
  refine AC.seq ?_
  refine AC.region ?_
  refine AL.fast 1 rfl ?_
  refine AL.nil ?_
  refine then_ok ?_
  refine AC.seq ?_
  refine AC.seq ?_
  refine AC.region ?_
  refine AL.fast 1 rfl ?_
  refine AL.val (Wanted.plain rfl) (g_lenM rfl rfl rfl rfl rfl Try.underlying102) rfl rfl ?_
  refine AL.val (Wanted.plain rfl) (g_binI rfl rfl rfl (wrap_ok (by first | omega | (simp; done) | (simp; omega)))) rfl rfl ?_
  refine AL.fast 1 rfl ?_
  refine AL.nil ?_
  refine then_ok ?_
  refine AC.block ?_
  refine AC.loop (β := Nat) (fun (q : Nat) => ⟨[(0, (aC (cR 2 ((l).map rEntry)))), (1, (aI a)), (4, (aI 0)), (5, (aI (getE (l.drop q) a))), (6, (aI (↑q - 1)))], [], 0⟩) (fun (q : Nat) => q ≤ l.length) (fun (q : Nat) => q) l.length ?_ ?_ ?_
  · exact (by omega)
  · exact Weak.ren id (⟨by first | rfl | (simp only [AV.map, GV.map, CV.map, AB.map', id]; done) | (congr 3; omega) | (congr 4; omega) | (simp only [List.length_append, List.length_cons, List.length_nil, List.length_set]; rfl) | (rw [getE_over (Nat.le_refl _)]; rfl), by first | rfl | (simp only [AV.map, GV.map, CV.map, AB.map', id]; done) | (congr 3; omega) | (congr 4; omega) | (simp only [List.length_append, List.length_cons, List.length_nil, List.length_set]; rfl) | (rw [getE_over (Nat.le_refl _)]; rfl), by first | rfl | (simp only [AV.map, GV.map, CV.map, AB.map', id]; done) | (congr 3; omega) | (congr 4; omega) | (simp only [List.length_append, List.length_cons, List.length_nil, List.length_set]; rfl) | (rw [getE_over (Nat.le_refl _)]; rfl), by first | rfl | (simp only [AV.map, GV.map, CV.map, AB.map', id]; done) | (congr 3; omega) | (congr 4; omega) | (simp only [List.length_append, List.length_cons, List.length_nil, List.length_set]; rfl) | (rw [getE_over (Nat.le_refl _)]; rfl), by first | rfl | (simp only [AV.map, GV.map, CV.map, AB.map', id]; done) | (congr 3; omega) | (congr 4; omega) | (simp only [List.length_append, List.length_cons, List.length_nil, List.length_set]; rfl) | (rw [getE_over (Nat.le_refl _)]; rfl),  trivial⟩) (trivial) rfl
  ·
    rintro q hi0_0
    refine AC.seq ?_
    refine AC.seq ?_
    refine AC.region ?_
    refine AL.fast 1 rfl ?_
    refine AL.val (Wanted.plain rfl) (g_binI rfl rfl rfl rfl) rfl rfl ?_
    refine AL.nil ?_
    refine then_ok ?_
    refine AC.cond rfl (fun hc1 => ?_) (fun hc1 => ?_)
    ·
      have hc1' := hc1; try simp only [sumB, Bool.not_eq_true', Bool.not_eq_false', Bool.or_eq_true, Bool.or_eq_false_iff, Bool.and_eq_true, Bool.and_eq_false_imp, decide_eq_true_eq, decide_eq_false_iff_not, Bool.not_not, Bool.not_true, Bool.not_false] at hc1'
      refine AC.skip ?_
      refine then_ok ?_
      refine AC.seq ?_
      refine AC.block ?_
      refine AC.seq ?_
      refine AC.region ?_
      refine AL.fast 2 rfl ?_
      obtain ⟨x1, hx1⟩ := exget (xs := l) (i := q - 1) (by first | omega | (simp; done) | (simp; omega))
      refine AL.val (Wanted.plain rfl) (g_indexQ (i := q - 1) rfl rfl rfl Try.underlying102 sz111 (by first | omega | (simp; done) | (simp; omega)) (getmap hx1)) rfl rfl ?_
      refine AL.val (Wanted.plain rfl) (g_fieldQ rfl rfl Try.underlying111 rfl sz3 (by decide)) rfl rfl ?_
      refine AL.val (Wanted.plain rfl) (g_loadQ rfl rfl Try.underlying3 rfl rfl) rfl rfl ?_
      refine AL.fast 1 rfl ?_
      refine AL.val (Wanted.plain rfl) (g_binI rfl rfl rfl rfl) rfl rfl ?_
      refine AL.nil ?_
      refine then_ok ?_
      refine AC.cond rfl (fun hc2 => ?_) (fun hc2 => ?_)
      ·
        have hc2' := hc2; try simp only [sumB, Bool.not_eq_true', Bool.not_eq_false', Bool.or_eq_true, Bool.or_eq_false_iff, Bool.and_eq_true, Bool.and_eq_false_imp, decide_eq_true_eq, decide_eq_false_iff_not, Bool.not_not, Bool.not_true, Bool.not_false] at hc2'
        refine AC.region ?_
        refine AL.fast 2 rfl ?_
        refine AL.val (Wanted.plain rfl) (g_indexQ (i := q - 1) rfl rfl rfl Try.underlying102 sz111 (by first | omega | (simp; done) | (simp; omega)) (getmap hx1)) rfl rfl ?_
        refine AL.val (Wanted.plain rfl) (g_fieldQ rfl rfl Try.underlying111 rfl sz3 (by decide)) rfl rfl ?_
        refine AL.val (Wanted.plain rfl) (g_loadQ rfl rfl Try.underlying3 rfl rfl) rfl rfl ?_
        refine AL.fast 1 rfl ?_
        refine AL.nil ?_
        refine block_ok ?_
        refine then_ok ?_
        refine AC.region ?_
        refine AL.fast 1 rfl ?_
        refine AL.val (Wanted.plain rfl) (g_binI rfl rfl rfl (wrap_ok (by first | omega | (simp; done) | (simp; omega)))) rfl rfl ?_
        refine AL.fast 1 rfl ?_
        refine AL.nil ?_
        refine then_ok ?_
        refine ⟨q - 1, by first | omega | trivial, by first | omega | (simp; done) | (simp; omega), Weak.ren id (⟨by first | rfl | (simp only [AV.map, GV.map, CV.map, AB.map', id]; done) | (congr 3; omega) | (congr 4; omega) | (simp only [List.length_append, List.length_cons, List.length_nil, List.length_set]; rfl) | (first | (show some (aI _) = some (aI _); congr 6; omega) | (rw [getE_drop hx1, Nat.sub_add_cancel (by omega), if_pos (by omega)]; rfl) | (rw [getE_drop hx1, Nat.sub_add_cancel (by omega), if_neg (by omega)]; rfl)), by first | rfl | (simp only [AV.map, GV.map, CV.map, AB.map', id]; done) | (congr 3; omega) | (congr 4; omega) | (simp only [List.length_append, List.length_cons, List.length_nil, List.length_set]; rfl) | (first | (show some (aI _) = some (aI _); congr 6; omega) | (rw [getE_drop hx1, Nat.sub_add_cancel (by omega), if_pos (by omega)]; rfl) | (rw [getE_drop hx1, Nat.sub_add_cancel (by omega), if_neg (by omega)]; rfl)), by first | rfl | (simp only [AV.map, GV.map, CV.map, AB.map', id]; done) | (congr 3; omega) | (congr 4; omega) | (simp only [List.length_append, List.length_cons, List.length_nil, List.length_set]; rfl) | (first | (show some (aI _) = some (aI _); congr 6; omega) | (rw [getE_drop hx1, Nat.sub_add_cancel (by omega), if_pos (by omega)]; rfl) | (rw [getE_drop hx1, Nat.sub_add_cancel (by omega), if_neg (by omega)]; rfl)), by first | rfl | (simp only [AV.map, GV.map, CV.map, AB.map', id]; done) | (congr 3; omega) | (congr 4; omega) | (simp only [List.length_append, List.length_cons, List.length_nil, List.length_set]; rfl) | (first | (show some (aI _) = some (aI _); congr 6; omega) | (rw [getE_drop hx1, Nat.sub_add_cancel (by omega), if_pos (by omega)]; rfl) | (rw [getE_drop hx1, Nat.sub_add_cancel (by omega), if_neg (by omega)]; rfl)), by first | rfl | (simp only [AV.map, GV.map, CV.map, AB.map', id]; done) | (congr 3; omega) | (congr 4; omega) | (simp only [List.length_append, List.length_cons, List.length_nil, List.length_set]; rfl) | (first | (show some (aI _) = some (aI _); congr 6; omega) | (rw [getE_drop hx1, Nat.sub_add_cancel (by omega), if_pos (by omega)]; rfl) | (rw [getE_drop hx1, Nat.sub_add_cancel (by omega), if_neg (by omega)]; rfl)),  trivial⟩) (trivial) rfl⟩
      ·
        have hc2' := hc2; try simp only [sumB, Bool.not_eq_true', Bool.not_eq_false', Bool.or_eq_true, Bool.or_eq_false_iff, Bool.and_eq_true, Bool.and_eq_false_imp, decide_eq_true_eq, decide_eq_false_iff_not, Bool.not_not, Bool.not_true, Bool.not_false] at hc2'
        refine AC.skip ?_
        refine block_ok ?_
        refine then_ok ?_
        refine AC.region ?_
        refine AL.fast 1 rfl ?_
        refine AL.val (Wanted.plain rfl) (g_binI rfl rfl rfl (wrap_ok (by first | omega | (simp; done) | (simp; omega)))) rfl rfl ?_
        refine AL.fast 1 rfl ?_
        refine AL.nil ?_
        refine then_ok ?_
        refine ⟨q - 1, by first | omega | trivial, by first | omega | (simp; done) | (simp; omega), Weak.ren id (⟨by first | rfl | (simp only [AV.map, GV.map, CV.map, AB.map', id]; done) | (congr 3; omega) | (congr 4; omega) | (simp only [List.length_append, List.length_cons, List.length_nil, List.length_set]; rfl) | (first | (show some (aI _) = some (aI _); congr 6; omega) | (rw [getE_drop hx1, Nat.sub_add_cancel (by omega), if_pos (by omega)]; rfl) | (rw [getE_drop hx1, Nat.sub_add_cancel (by omega), if_neg (by omega)]; rfl)), by first | rfl | (simp only [AV.map, GV.map, CV.map, AB.map', id]; done) | (congr 3; omega) | (congr 4; omega) | (simp only [List.length_append, List.length_cons, List.length_nil, List.length_set]; rfl) | (first | (show some (aI _) = some (aI _); congr 6; omega) | (rw [getE_drop hx1, Nat.sub_add_cancel (by omega), if_pos (by omega)]; rfl) | (rw [getE_drop hx1, Nat.sub_add_cancel (by omega), if_neg (by omega)]; rfl)), by first | rfl | (simp only [AV.map, GV.map, CV.map, AB.map', id]; done) | (congr 3; omega) | (congr 4; omega) | (simp only [List.length_append, List.length_cons, List.length_nil, List.length_set]; rfl) | (first | (show some (aI _) = some (aI _); congr 6; omega) | (rw [getE_drop hx1, Nat.sub_add_cancel (by omega), if_pos (by omega)]; rfl) | (rw [getE_drop hx1, Nat.sub_add_cancel (by omega), if_neg (by omega)]; rfl)), by first | rfl | (simp only [AV.map, GV.map, CV.map, AB.map', id]; done) | (congr 3; omega) | (congr 4; omega) | (simp only [List.length_append, List.length_cons, List.length_nil, List.length_set]; rfl) | (first | (show some (aI _) = some (aI _); congr 6; omega) | (rw [getE_drop hx1, Nat.sub_add_cancel (by omega), if_pos (by omega)]; rfl) | (rw [getE_drop hx1, Nat.sub_add_cancel (by omega), if_neg (by omega)]; rfl)), by first | rfl | (simp only [AV.map, GV.map, CV.map, AB.map', id]; done) | (congr 3; omega) | (congr 4; omega) | (simp only [List.length_append, List.length_cons, List.length_nil, List.length_set]; rfl) | (first | (show some (aI _) = some (aI _); congr 6; omega) | (rw [getE_drop hx1, Nat.sub_add_cancel (by omega), if_pos (by omega)]; rfl) | (rw [getE_drop hx1, Nat.sub_add_cancel (by omega), if_neg (by omega)]; rfl)),  trivial⟩) (trivial) rfl⟩
    ·
      have hc1' := hc1; try simp only [sumB, Bool.not_eq_true', Bool.not_eq_false', Bool.or_eq_true, Bool.or_eq_false_iff, Bool.and_eq_true, Bool.and_eq_false_imp, decide_eq_true_eq, decide_eq_false_iff_not, Bool.not_not, Bool.not_true, Bool.not_false] at hc1'
      refine AC.exit ?_
      refine then_exit ?_
      refine then_exit ?_
      refine block_hit ?_
      refine then_ok ?_
      refine AC.seq ?_
      refine AC.region ?_
      refine AL.fast 2 rfl ?_
      refine AL.nil ?_
      refine then_ok ?_
      refine AC.ret ?_
      have hX : getE l a = (getE (l.drop q) a) := by
        obtain rfl : q = 0 := by omega
        rfl
      rw [hX] at hr; clear hX
      subst hr
      refine retQ_mk (av' := outOf [(.c (cI (getE (l.drop q) a)))]) (nb' := []) (retQ_ret ⟨[(4, (aI (getE (l.drop q) a)))], [], 0⟩ [.tmp 4] [(.c (cI (getE (l.drop q) a)))] (Weak.ren id (⟨by first | rfl | (simp only [AV.map, GV.map, CV.map, AB.map', id]; done) | (congr 3; omega) | (congr 4; omega) | (simp only [List.length_append, List.length_cons, List.length_nil, List.length_set]; rfl),  trivial⟩) (trivial) rfl) rfl ⟨.tmp rfl, trivial⟩ trivial) ?_ ?_
      · first | rfl | (simp [outOf, aC]; done) | (simp [outOf, aC]; omega)
      · first | rfl | (simp; done) | (simp; omega)
set_option maxRecDepth 100000 in
set_option maxHeartbeats 1000000 in
theorem c_SameBook (a b : List Entry) (r : Bool) (hr : sameList a b = r) : Fn Try.prog 85 [(.c (cR 2 ((a).map rEntry))), (.c (cR 2 ((b).map rEntry)))] (.v (.c (cB r))) [] := by
  refine Fn.mk' 26 [(0, (aC (cR 2 ((a).map rEntry)))), (1, (aC (cR 2 ((b).map rEntry))))] Try.func85 rfl rfl rfl rfl ?_
  intro W0 T0
  refine AC.len1 0 rfl (fun hlen0 => ?_)
  refine AC.len1 1 rfl (fun hlen1 => ?_)
  refine AC.seq ?_
  refine AC.region ?_
  refine AL.fast 1 rfl ?_
  refine AL.nil ?_
  refine then_ok ?_
  refine AC.seq ?_
  refine AC.seq ?_
  refine AC.region ?_
  refine AL.fast 1 rfl ?_
  refine AL.val (Wanted.plain rfl) (g_lenM rfl rfl rfl rfl rfl Try.underlying102) rfl rfl ?_
  refine AL.fast 1 rfl ?_
  refine AL.val (Wanted.plain rfl) (g_lenM rfl rfl rfl rfl rfl Try.underlying102) rfl rfl ?_
  refine AL.val (Wanted.plain rfl) (g_binI rfl rfl rfl rfl) rfl rfl ?_
  refine AL.nil ?_
  refine then_ok ?_
  refine AC.cond rfl (fun hc1 => ?_) (fun hc1 => ?_)
  ·
    have hc1' := hc1; try simp only [sumB, Bool.not_eq_true', Bool.not_eq_false', Bool.or_eq_true, Bool.or_eq_false_iff, Bool.and_eq_true, Bool.and_eq_false_imp, decide_eq_true_eq, decide_eq_false_iff_not, Bool.not_not, Bool.not_true, Bool.not_false] at hc1'
    refine AC.seq ?_
    refine AC.region ?_
    refine AL.fast 1 rfl ?_
    refine AL.nil ?_
    refine then_ok ?_
    refine AC.ret ?_
    refine then_ret ?_
    have hX : sameList a b = false := by
      exact same_no (by omega)
    rw [hX] at hr; clear hX
    subst hr
    refine retQ_mk (av' := outOf [(.c (cB false))]) (nb' := []) (retQ_ret ⟨[(4, (aB false))], [], 0⟩ [.tmp 4] [(.c (cB false))] (Weak.ren id (⟨by first | rfl | (simp only [AV.map, GV.map, CV.map, AB.map', id]; done) | (congr 3; omega) | (congr 4; omega) | (simp only [List.length_append, List.length_cons, List.length_nil, List.length_set]; rfl),  trivial⟩) (trivial) rfl) rfl ⟨.tmp rfl, trivial⟩ trivial) ?_ ?_
    · first | rfl | (simp [outOf, aC]; done) | (simp [outOf, aC]; omega)
    · first | rfl | (simp; done) | (simp; omega)
  ·
    have hc1' := hc1; try simp only [sumB, Bool.not_eq_true', Bool.not_eq_false', Bool.or_eq_true, Bool.or_eq_false_iff, Bool.and_eq_true, Bool.and_eq_false_imp, decide_eq_true_eq, decide_eq_false_iff_not, Bool.not_not, Bool.not_true, Bool.not_false] at hc1'
    refine AC.skip ?_
    refine then_ok ?_
    refine AC.seq ?_
    refine AC.seq ?_
    refine AC.region ?_
    refine AL.fast 1 rfl ?_
    refine AL.val (Wanted.plain rfl) (g_lenM rfl rfl rfl rfl rfl Try.underlying102) rfl rfl ?_
    refine AL.fast 1 rfl ?_
    refine AL.nil ?_
    refine then_ok ?_
    refine AC.block ?_
    refine AC.loop (β := Nat) (fun (q : Nat) => ⟨[(0, (aC (cR 2 ((a).map rEntry)))), (1, (aC (cR 2 ((b).map rEntry)))), (12, (aI (↑a.length : Int))), (13, (aI (↑q : Int)))], [], 0⟩) (fun (q : Nat) => q ≤ a.length ∧ a.take q = b.take q) (fun (q : Nat) => a.length - q) 0 ?_ ?_ ?_
    · exact ⟨by omega, rfl⟩
    · exact Weak.ren id (⟨by first | rfl | (simp only [AV.map, GV.map, CV.map, AB.map', id]; done) | (congr 3; omega) | (congr 4; omega) | (simp only [List.length_append, List.length_cons, List.length_nil, List.length_set]; rfl), by first | rfl | (simp only [AV.map, GV.map, CV.map, AB.map', id]; done) | (congr 3; omega) | (congr 4; omega) | (simp only [List.length_append, List.length_cons, List.length_nil, List.length_set]; rfl), by first | rfl | (simp only [AV.map, GV.map, CV.map, AB.map', id]; done) | (congr 3; omega) | (congr 4; omega) | (simp only [List.length_append, List.length_cons, List.length_nil, List.length_set]; rfl), by first | rfl | (simp only [AV.map, GV.map, CV.map, AB.map', id]; done) | (congr 3; omega) | (congr 4; omega) | (simp only [List.length_append, List.length_cons, List.length_nil, List.length_set]; rfl),  trivial⟩) (trivial) rfl
    ·
      rintro q ⟨hi0_0, hi0_1⟩
      refine AC.seq ?_
      refine AC.region ?_
      refine AL.val (Wanted.plain rfl) (g_binI rfl rfl rfl rfl) rfl rfl ?_
      refine AL.nil ?_
      refine then_ok ?_
      refine AC.seq ?_
      refine AC.cond rfl (fun hc2 => ?_) (fun hc2 => ?_)
      ·
        have hc2' := hc2; try simp only [sumB, Bool.not_eq_true', Bool.not_eq_false', Bool.or_eq_true, Bool.or_eq_false_iff, Bool.and_eq_true, Bool.and_eq_false_imp, decide_eq_true_eq, decide_eq_false_iff_not, Bool.not_not, Bool.not_true, Bool.not_false] at hc2'
        refine AC.skip ?_
        refine then_ok ?_
        refine AC.seq ?_
        refine AC.block ?_
        refine AC.seq ?_
        refine AC.region ?_
        refine AL.fast 2 rfl ?_
        refine AL.nil ?_
        refine then_ok ?_
        refine AC.seq ?_
        obtain ⟨x1, hx1⟩ := exget (xs := a) (i := q) (by first | omega | (simp; done) | (simp; omega))
        obtain ⟨x2, hx2⟩ := exget (xs := b) (i := q) (by first | omega | (simp; done) | (simp; omega))
        refine AC.weak (st' := ⟨[(0, (aC (cR 2 ((a).map rEntry)))), (1, (aC (cR 2 ((b).map rEntry)))), (12, (aI (↑a.length : Int))), (13, (aI (↑q : Int))), (5, (aI (↑q : Int)))], [], 0⟩) (Weak.ren id (⟨by first | rfl | (simp only [AV.map, GV.map, CV.map, AB.map', id]; done) | (congr 3; omega) | (congr 4; omega) | (simp only [List.length_append, List.length_cons, List.length_nil, List.length_set]; rfl), by first | rfl | (simp only [AV.map, GV.map, CV.map, AB.map', id]; done) | (congr 3; omega) | (congr 4; omega) | (simp only [List.length_append, List.length_cons, List.length_nil, List.length_set]; rfl), by first | rfl | (simp only [AV.map, GV.map, CV.map, AB.map', id]; done) | (congr 3; omega) | (congr 4; omega) | (simp only [List.length_append, List.length_cons, List.length_nil, List.length_set]; rfl), by first | rfl | (simp only [AV.map, GV.map, CV.map, AB.map', id]; done) | (congr 3; omega) | (congr 4; omega) | (simp only [List.length_append, List.length_cons, List.length_nil, List.length_set]; rfl), by first | rfl | (simp only [AV.map, GV.map, CV.map, AB.map', id]; done) | (congr 3; omega) | (congr 4; omega) | (simp only [List.length_append, List.length_cons, List.length_nil, List.length_set]; rfl),  trivial⟩) (trivial) rfl) ?_
        refine AC.draw [⟨some 16, (aC (cR 2 ((a).map rEntry))), [], [], [], [(0, (aC (cR 2 ((a).map rEntry))))], []⟩,
      ⟨some 17, (aI (↑q : Int)), [], [], [], [(5, (aI (↑q : Int)))], []⟩,
      ⟨some 18, (aC (.q (rEntry x1) 0)), [], [], [0, 1], [(16, (aC (cR 2 ((a).map rEntry)))), (17, (aI (↑q : Int)))], []⟩,
      ⟨some 19, (aG [(cI x1.account), (cI x1.sum)]), [], [], [2], [(18, (aC (.q (rEntry x1) 0)))], []⟩,
      ⟨some 20, (aC (cR 2 ((b).map rEntry))), [], [], [], [(1, (aC (cR 2 ((b).map rEntry))))], []⟩,
      ⟨some 21, (aI (↑q : Int)), [], [], [], [(5, (aI (↑q : Int)))], []⟩,
      ⟨some 22, (aC (.q (rEntry x2) 0)), [], [], [4, 5], [(20, (aC (cR 2 ((b).map rEntry)))), (21, (aI (↑q : Int)))], []⟩,
      ⟨some 23, (aG [(cI x2.account), (cI x2.sum)]), [], [], [6], [(22, (aC (.q (rEntry x2) 0)))], []⟩,
      ⟨some 24, (aB (!(sameL [.int .i64 x1.account, .int .i64 x1.sum] [.int .i64 x2.account, .int .i64 x2.sum]))), [], [], [3, 7], [(19, (aG [(cI x1.account), (cI x1.sum)])), (23, (aG [(cI x2.account), (cI x2.sum)]))], []⟩] ⟨[(0, (aC (cR 2 ((a).map rEntry)))), (1, (aC (cR 2 ((b).map rEntry)))), (12, (aI (↑a.length : Int))), (13, (aI (↑q : Int))), (5, (aI (↑q : Int))), (24, (aB (!(sameL [.int .i64 x1.account, .int .i64 x1.sum] [.int .i64 x2.account, .int .i64 x2.sum]))))], [], 0⟩ mixed (by kernel_rfl) ?_ ?_ ?_ ?_
        · exact ⟨.inl ⟨(Wanted.plain rfl), GOp.cast (g_move rfl rfl) rfl⟩,
      .inl ⟨(Wanted.plain rfl), GOp.cast (g_move rfl rfl) rfl⟩,
      .inl ⟨(Wanted.plain rfl), GOp.cast (g_indexQ (i := q) rfl rfl rfl Try.underlying102 sz111 (by first | omega | (simp; done) | (simp; omega)) (getmap hx1)) rfl⟩,
      .inl ⟨(Wanted.plain rfl), GOp.cast (g_loadQs rfl rfl Try.underlying111 rfl sz111 rfl rfl) rfl⟩,
      .inl ⟨(Wanted.plain rfl), GOp.cast (g_move rfl rfl) rfl⟩,
      .inl ⟨(Wanted.plain rfl), GOp.cast (g_move rfl rfl) rfl⟩,
      .inl ⟨(Wanted.plain rfl), GOp.cast (g_indexQ (i := q) rfl rfl rfl Try.underlying102 sz111 (by first | omega | (simp; done) | (simp; omega)) (getmap hx2)) rfl⟩,
      .inl ⟨(Wanted.plain rfl), GOp.cast (g_loadQs rfl rfl Try.underlying111 rfl sz111 rfl rfl) rfl⟩,
      .inl ⟨(Wanted.plain rfl), GOp.cast (g_neq (cmp111 _ _ _ _) rfl rfl rfl rfl rfl rfl) rfl⟩,
       trivial⟩
        · exact ⟨⟨⟨.inl rfl,  trivial⟩, trivial⟩, ⟨⟨.inl rfl,  trivial⟩, trivial⟩, ⟨⟨.inr ⟨0, .head _, _, rfl, rfl, rfl⟩, .inr ⟨1, .tail _ (.head _), _, rfl, rfl, rfl⟩,  trivial⟩, trivial⟩, ⟨⟨.inr ⟨2, .head _, _, rfl, rfl, rfl⟩,  trivial⟩, trivial⟩, ⟨⟨.inl rfl,  trivial⟩, trivial⟩, ⟨⟨.inl rfl,  trivial⟩, trivial⟩, ⟨⟨.inr ⟨4, .head _, _, rfl, rfl, rfl⟩, .inr ⟨5, .tail _ (.head _), _, rfl, rfl, rfl⟩,  trivial⟩, trivial⟩, ⟨⟨.inr ⟨6, .head _, _, rfl, rfl, rfl⟩,  trivial⟩, trivial⟩, ⟨⟨.inr ⟨3, .head _, _, rfl, rfl, rfl⟩, .inr ⟨7, .tail _ (.head _), _, rfl, rfl, rfl⟩,  trivial⟩, trivial⟩,  trivial⟩
        · exact ⟨⟨.inl rfl, .inl rfl, .inl rfl, .inl rfl, .inl rfl, .inr ⟨8, _, rfl, rfl, rfl⟩,  trivial⟩, trivial⟩
        ·
          refine AL.nil ?_
          refine then_ok ?_
          refine AC.cond rfl (fun hc3 => ?_) (fun hc3 => ?_)
          ·
            have hc3' := hc3; try simp only [sumB, Bool.not_eq_true', Bool.not_eq_false', Bool.or_eq_true, Bool.or_eq_false_iff, Bool.and_eq_true, Bool.and_eq_false_imp, decide_eq_true_eq, decide_eq_false_iff_not, Bool.not_not, Bool.not_true, Bool.not_false] at hc3'
            refine AC.seq ?_
            refine AC.region ?_
            refine AL.fast 1 rfl ?_
            refine AL.nil ?_
            refine then_ok ?_
            refine AC.ret ?_
            refine block_ret ?_
            refine then_ret ?_
            refine then_ret ?_
            refine block_ret ?_
            refine then_ret ?_
            have hX : sameList a b = false := by
              refine same_no' hx1 hx2 ?_; simp_all [same111]
            rw [hX] at hr; clear hX
            subst hr
            refine retQ_mk (av' := outOf [(.c (cB false))]) (nb' := []) (retQ_ret ⟨[(4, (aB false))], [], 0⟩ [.tmp 4] [(.c (cB false))] (Weak.ren id (⟨by first | rfl | (simp only [AV.map, GV.map, CV.map, AB.map', id]; done) | (congr 3; omega) | (congr 4; omega) | (simp only [List.length_append, List.length_cons, List.length_nil, List.length_set]; rfl),  trivial⟩) (trivial) rfl) rfl ⟨.tmp rfl, trivial⟩ trivial) ?_ ?_
            · first | rfl | (simp [outOf, aC]; done) | (simp [outOf, aC]; omega)
            · first | rfl | (simp; done) | (simp; omega)
          ·
            have hc3' := hc3; try simp only [sumB, Bool.not_eq_true', Bool.not_eq_false', Bool.or_eq_true, Bool.or_eq_false_iff, Bool.and_eq_true, Bool.and_eq_false_imp, decide_eq_true_eq, decide_eq_false_iff_not, Bool.not_not, Bool.not_true, Bool.not_false] at hc3'
            refine AC.skip ?_
            refine block_ok ?_
            refine then_ok ?_
            refine AC.region ?_
            refine AL.val (Wanted.plain rfl) (g_binI rfl rfl rfl (wrap_ok (by first | omega | (simp; done) | (simp; omega)))) rfl rfl ?_
            refine AL.fast 1 rfl ?_
            refine AL.nil ?_
            refine then_ok ?_
            refine ⟨q + 1, ⟨by omega, by rw [take_get hx1, take_get hx2, hi0_1, show x1 = x2 by simp_all [same111]]⟩, by first | omega | (simp; done) | (simp; omega), Weak.ren id (⟨by first | rfl | (simp only [AV.map, GV.map, CV.map, AB.map', id]; done) | (congr 3; omega) | (congr 4; omega) | (simp only [List.length_append, List.length_cons, List.length_nil, List.length_set]; rfl), by first | rfl | (simp only [AV.map, GV.map, CV.map, AB.map', id]; done) | (congr 3; omega) | (congr 4; omega) | (simp only [List.length_append, List.length_cons, List.length_nil, List.length_set]; rfl), by first | rfl | (simp only [AV.map, GV.map, CV.map, AB.map', id]; done) | (congr 3; omega) | (congr 4; omega) | (simp only [List.length_append, List.length_cons, List.length_nil, List.length_set]; rfl), by first | rfl | (simp only [AV.map, GV.map, CV.map, AB.map', id]; done) | (congr 3; omega) | (congr 4; omega) | (simp only [List.length_append, List.length_cons, List.length_nil, List.length_set]; rfl),  trivial⟩) (trivial) rfl⟩
      ·
        have hc2' := hc2; try simp only [sumB, Bool.not_eq_true', Bool.not_eq_false', Bool.or_eq_true, Bool.or_eq_false_iff, Bool.and_eq_true, Bool.and_eq_false_imp, decide_eq_true_eq, decide_eq_false_iff_not, Bool.not_not, Bool.not_true, Bool.not_false] at hc2'
        refine AC.exit ?_
        refine then_exit ?_
        refine then_exit ?_
        refine block_hit ?_
        refine then_ok ?_
        refine AC.seq ?_
        refine AC.region ?_
        refine AL.fast 1 rfl ?_
        refine AL.nil ?_
        refine then_ok ?_
        refine AC.ret ?_
        have hX : sameList a b = true := by
          exact same_yes (q := q) (by omega) (by omega) hi0_1
        rw [hX] at hr; clear hX
        subst hr
        refine retQ_mk (av' := outOf [(.c (cB true))]) (nb' := []) (retQ_ret ⟨[(4, (aB true))], [], 0⟩ [.tmp 4] [(.c (cB true))] (Weak.ren id (⟨by first | rfl | (simp only [AV.map, GV.map, CV.map, AB.map', id]; done) | (congr 3; omega) | (congr 4; omega) | (simp only [List.length_append, List.length_cons, List.length_nil, List.length_set]; rfl),  trivial⟩) (trivial) rfl) rfl ⟨.tmp rfl, trivial⟩ trivial) ?_ ?_
        · first | rfl | (simp [outOf, aC]; done) | (simp [outOf, aC]; omega)
        · first | rfl | (simp; done) | (simp; omega)
end Go.Proofs.Ytgmcdlfmifijlaa.Dev
