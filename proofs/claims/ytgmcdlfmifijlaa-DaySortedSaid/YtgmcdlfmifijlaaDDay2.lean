/- day.Net, payref1.Net. -/
import Derived.Test.YtgmcdlfmifijlaaDDay1
set_option linter.unusedVariables false
set_option linter.unusedSimpArgs false
namespace Go.Proofs.Ytgmcdlfmifijlaa.Dev
open Go.RowKit


theorem mul_kind {x : Record} {s : Int} (h : x.shop = s) (hb : 0 ≤ x.sum ∧ x.sum ≤ 1000000) : binI .mul .i64 x.sum (mlook [(2, 1), (3, 1), (5, (-1)), (7, (-1))] x.kind) = some (.int .i64 (valR x s)) := by
  have h1 : x.sum * mlook [(2, 1), (3, 1), (5, (-1)), (7, (-1))] x.kind = valR x s := by
    unfold valR
    rw [if_pos h]
    by_cases h2 : x.kind = 2
    · rw [h2]; simp [mlook]
    by_cases h3 : x.kind = 3
    · rw [h3]; simp [mlook]
    by_cases h5 : x.kind = 5
    · rw [h5]; simp [mlook]
    by_cases h7 : x.kind = 7
    · rw [h7]; simp [mlook]
    rw [if_neg (by omega), if_neg (by omega)]
    simp [mlook, Ne.symm h2, Ne.symm h3, Ne.symm h5, Ne.symm h7, h2, h3, h5, h7]
  have h2 : -1000000 ≤ valR x s ∧ valR x s ≤ 1000000 := by
    unfold valR; (repeat' split) <;> omega
  show some (Value.int .i64 (IntKind.i64.wrap (x.sum * _))) = _
  rw [h1]
  exact wrap_ok (by omega)
theorem valR_b {x : Record} {s : Int} (hb : 0 ≤ x.sum ∧ x.sum ≤ 1000000) : -1000000 ≤ valR x s ∧ valR x s ≤ 1000000 := by
  unfold valR; (repeat' split) <;> omega
theorem valR_not {x : Record} {s : Int} (h : ¬ x.shop = s) : valR x s = 0 := by unfold valR; rw [if_neg h]

set_option maxRecDepth 100000 in
set_option maxHeartbeats 1000000 in
theorem c_day_Net (l : List Record) (s : Int) (hs : ∀ x ∈ l, 0 ≤ x.sum ∧ x.sum ≤ 1000000) (hl : l.length ≤ 1000000) (n : Int) (hr : netR l s = n) : Fn Try.prog 96 [(.c (cR 4 ((l).map rRecord))), (.c (cI s))] (.v (.c (cI n))) [] := by
  refine Fn.mk' 36 [(0, (aC (cR 4 ((l).map rRecord)))), (1, (aI s))] Try.func96 rfl rfl rfl rfl ?_
  intro W0 T0
  refine AC.len1 0 rfl (fun hlen0 => ?_)
  refine AC.seq ?_
  refine AC.region ?_
  refine AL.fast 1 rfl ?_
  refine AL.nil ?_
  refine then_ok ?_
  refine AC.seq ?_
  refine AC.region ?_
  refine AL.fast 1 rfl ?_
  refine AL.nil ?_
  refine then_ok ?_
  refine AC.seq ?_
  refine AC.seq ?_
  refine AC.region ?_
  refine AL.fast 1 rfl ?_
  refine AL.val (Wanted.plain rfl) (g_lenM rfl rfl rfl rfl rfl Try.underlying114) rfl rfl ?_
  refine AL.fast 1 rfl ?_
  refine AL.nil ?_
  refine then_ok ?_
  refine AC.block ?_
  refine AC.loop (β := Nat × Int) (fun (p : Nat × Int) => match p with | (q, m) => ⟨[(1, (aI s)), (4, (aI 0)), (5, (aI m)), (8, (aC (cR 4 ((l).map rRecord)))), (9, (aI (↑l.length : Int))), (10, (aI (↑q : Int)))], [], 0⟩) (fun (p : Nat × Int) => match p with | (q, m) => q ≤ l.length ∧ m = netR (l.take q) s ∧ -1000000 * (q : Int) ≤ m ∧ m ≤ 1000000 * (q : Int)) (fun (p : Nat × Int) => match p with | (q, m) => l.length - q) (0, 0) ?_ ?_ ?_
  · exact ⟨by omega, rfl, by omega⟩
  · exact Weak.ren id (by refine ⟨?_, ?_, ?_, ?_, ?_, ?_,  trivial⟩ <;> first | rfl | (simp only [AV.map, GV.map, CV.map, AB.map', id]; done) | (congr 3; omega) | (congr 4; omega) | (simp only [List.length_append, List.length_cons, List.length_nil, List.length_set]; rfl)) (trivial) rfl
  ·
    rintro ⟨q, m⟩ ⟨hi0_0, hi0_1, hi0_2⟩
    refine AC.seq ?_
    refine AC.region ?_
    refine AL.val (Wanted.plain rfl) (g_binI rfl rfl rfl rfl) rfl rfl ?_
    refine AL.nil ?_
    refine then_ok ?_
    refine AC.seq ?_
    refine AC.cond rfl (fun hc1 => ?_) (fun hc1 => ?_)
    ·
      have hc1' := hc1; try simp only [sumB, Bool.not_eq_true', Bool.not_eq_false', Bool.or_eq_true, Bool.or_eq_false_iff, Bool.and_eq_true, Bool.and_eq_false_imp, decide_eq_true_eq, decide_eq_false_iff_not, Bool.not_not, Bool.not_true, Bool.not_false] at hc1'
      refine AC.skip ?_
      refine then_ok ?_
      refine AC.seq ?_
      refine AC.block ?_
      refine AC.seq ?_
      refine AC.region ?_
      obtain ⟨x1, hx1⟩ := exget (xs := l) (i := q) (by first | omega | (simp; done) | (simp; omega))
      have hx1b := hs x1 (List.mem_of_getElem? hx1)
      refine AL.val (Wanted.plain rfl) (g_indexQ (i := q) rfl rfl rfl Try.underlying114 sz127 (by first | omega | (simp; done) | (simp; omega)) (getmap hx1)) rfl rfl ?_
      refine AL.val (Wanted.plain rfl) (g_loadQs rfl rfl Try.underlying127 rfl sz127 rfl rfl) rfl rfl ?_
      refine AL.new (n' := 1) (Wanted.plain rfl) (g_alloc 0 rfl zv127 rfl rfl rfl) rfl rfl rfl ?_
      refine AL.sto (h' := [(0, (.box 127 [(cI x1.shop), (cI x1.auth), (cI x1.kind), (cI x1.sum)]))]) (Wanted.plain rfl) (g_storeB rfl rfl rfl rfl rfl sz127 rfl (Nat.le_of_ble_eq_true rfl) rfl) rfl rfl rfl rfl ?_
      refine AL.nil ?_
      refine then_ok ?_
      refine AC.seq ?_
      refine AC.seq ?_
      refine AC.region ?_
      refine AL.val (Wanted.plain rfl) (g_fieldP rfl rfl Try.underlying127 rfl sz3 (by decide)) rfl rfl ?_
      refine AL.val (Wanted.plain rfl) (g_loadB rfl rfl rfl Try.underlying3 rfl rfl) rfl rfl ?_
      refine AL.fast 1 rfl ?_
      refine AL.val (Wanted.plain rfl) (g_binI rfl rfl rfl rfl) rfl rfl ?_
      refine AL.nil ?_
      refine then_ok ?_
      refine AC.cond rfl (fun hc2 => ?_) (fun hc2 => ?_)
      ·
        have hc2' := hc2; try simp only [sumB, Bool.not_eq_true', Bool.not_eq_false', Bool.or_eq_true, Bool.or_eq_false_iff, Bool.and_eq_true, Bool.and_eq_false_imp, decide_eq_true_eq, decide_eq_false_iff_not, Bool.not_not, Bool.not_true, Bool.not_false] at hc2'
        refine AC.exit ?_
        refine then_exit ?_
        refine block_hit ?_
        refine then_ok ?_
        refine AC.region ?_
        refine AL.val (Wanted.plain rfl) (g_binI rfl rfl rfl (wrap_ok (by first | omega | (simp; done) | (simp; omega)))) rfl rfl ?_
        refine AL.fast 1 rfl ?_
        refine AL.nil ?_
        refine then_ok ?_
        refine ⟨(q + 1, m), ⟨by omega, by rw [netR_take hx1, ← hi0_1]; unfold valR; (repeat' split) <;> omega, by omega⟩, by first | omega | (simp; done) | (simp; omega), Weak.ren id (by refine ⟨?_, ?_, ?_, ?_, ?_, ?_,  trivial⟩ <;> first | rfl | (simp only [AV.map, GV.map, CV.map, AB.map', id]; done) | (congr 3; omega) | (congr 4; omega) | (simp only [List.length_append, List.length_cons, List.length_nil, List.length_set]; rfl)) (trivial) rfl⟩
      ·
        have hc2' := hc2; try simp only [sumB, Bool.not_eq_true', Bool.not_eq_false', Bool.or_eq_true, Bool.or_eq_false_iff, Bool.and_eq_true, Bool.and_eq_false_imp, decide_eq_true_eq, decide_eq_false_iff_not, Bool.not_not, Bool.not_true, Bool.not_false] at hc2'
        refine AC.skip ?_
        refine then_ok ?_
        refine AC.seq ?_
        refine AC.region ?_
        refine AL.val (Wanted.plain rfl) (g_fieldP rfl rfl Try.underlying127 rfl sz3 (by decide)) rfl rfl ?_
        refine AL.val (Wanted.plain rfl) (g_loadB rfl rfl rfl Try.underlying3 rfl rfl) rfl rfl ?_
        refine AL.nil ?_
        refine then_ok ?_
        refine AC.block ?_
        refine AC.seq ?_
        refine AC.seq ?_
        refine AC.region ?_
        refine AL.val (Wanted.plain rfl) (g_binI rfl rfl rfl rfl) rfl rfl ?_
        refine AL.fast 1 rfl ?_
        refine AL.nil ?_
        refine then_ok ?_
        refine AC.cond rfl (fun hc3 => ?_) (fun hc3 => ?_)
        ·
          have hc3' := hc3; try simp only [sumB, Bool.not_eq_true', Bool.not_eq_false', Bool.or_eq_true, Bool.or_eq_false_iff, Bool.and_eq_true, Bool.and_eq_false_imp, decide_eq_true_eq, decide_eq_false_iff_not, Bool.not_not, Bool.not_true, Bool.not_false] at hc3'
          refine AC.skip ?_
          refine then_ok ?_
          refine AC.cond rfl (fun _ => ?_) (fun hno => absurd (hc3.symm.trans hno) (by decide))
          refine AC.region ?_
          refine AL.fast 1 rfl ?_
          refine AL.val (Wanted.plain rfl) (g_fieldP rfl rfl Try.underlying127 rfl sz3 (by decide)) rfl rfl ?_
          refine AL.val (Wanted.plain rfl) (g_loadB rfl rfl rfl Try.underlying3 rfl rfl) rfl rfl ?_
          refine AL.val (Wanted.plain rfl) (g_binI rfl rfl rfl (wrap_ok (by first | omega | (simp; done) | (simp; omega)))) rfl rfl ?_
          refine AL.fast 1 rfl ?_
          refine AL.nil ?_
          refine block_ok ?_
          refine block_ok ?_
          refine then_ok ?_
          refine AC.region ?_
          refine AL.val (Wanted.plain rfl) (g_binI rfl rfl rfl (wrap_ok (by first | omega | (simp; done) | (simp; omega)))) rfl rfl ?_
          refine AL.fast 1 rfl ?_
          refine AL.nil ?_
          refine then_ok ?_
          refine ⟨(q + 1, m + x1.sum), ⟨by omega, by rw [netR_take hx1, ← hi0_1]; unfold valR; (repeat' split) <;> omega, by omega⟩, by first | omega | (simp; done) | (simp; omega), Weak.ren id (by refine ⟨?_, ?_, ?_, ?_, ?_, ?_,  trivial⟩ <;> first | rfl | (simp only [AV.map, GV.map, CV.map, AB.map', id]; done) | (congr 3; omega) | (congr 4; omega) | (simp only [List.length_append, List.length_cons, List.length_nil, List.length_set]; rfl)) (trivial) rfl⟩
        ·
          have hc3' := hc3; try simp only [sumB, Bool.not_eq_true', Bool.not_eq_false', Bool.or_eq_true, Bool.or_eq_false_iff, Bool.and_eq_true, Bool.and_eq_false_imp, decide_eq_true_eq, decide_eq_false_iff_not, Bool.not_not, Bool.not_true, Bool.not_false] at hc3'
          refine AC.region ?_
          refine AL.val (Wanted.plain rfl) (g_binI rfl rfl rfl rfl) rfl rfl ?_
          refine AL.fast 1 rfl ?_
          refine AL.nil ?_
          refine then_ok ?_
          refine AC.cond rfl (fun hc5 => ?_) (fun hc5 => ?_)
          ·
            have hc5' := hc5; try simp only [sumB, Bool.not_eq_true', Bool.not_eq_false', Bool.or_eq_true, Bool.or_eq_false_iff, Bool.and_eq_true, Bool.and_eq_false_imp, decide_eq_true_eq, decide_eq_false_iff_not, Bool.not_not, Bool.not_true, Bool.not_false] at hc5'
            refine AC.region ?_
            refine AL.fast 1 rfl ?_
            refine AL.val (Wanted.plain rfl) (g_fieldP rfl rfl Try.underlying127 rfl sz3 (by decide)) rfl rfl ?_
            refine AL.val (Wanted.plain rfl) (g_loadB rfl rfl rfl Try.underlying3 rfl rfl) rfl rfl ?_
            refine AL.val (Wanted.plain rfl) (g_binI rfl rfl rfl (wrap_ok (by first | omega | (simp; done) | (simp; omega)))) rfl rfl ?_
            refine AL.fast 1 rfl ?_
            refine AL.nil ?_
            refine block_ok ?_
            refine block_ok ?_
            refine then_ok ?_
            refine AC.region ?_
            refine AL.val (Wanted.plain rfl) (g_binI rfl rfl rfl (wrap_ok (by first | omega | (simp; done) | (simp; omega)))) rfl rfl ?_
            refine AL.fast 1 rfl ?_
            refine AL.nil ?_
            refine then_ok ?_
            refine ⟨(q + 1, m + x1.sum), ⟨by omega, by rw [netR_take hx1, ← hi0_1]; unfold valR; (repeat' split) <;> omega, by omega⟩, by first | omega | (simp; done) | (simp; omega), Weak.ren id (by refine ⟨?_, ?_, ?_, ?_, ?_, ?_,  trivial⟩ <;> first | rfl | (simp only [AV.map, GV.map, CV.map, AB.map', id]; done) | (congr 3; omega) | (congr 4; omega) | (simp only [List.length_append, List.length_cons, List.length_nil, List.length_set]; rfl)) (trivial) rfl⟩
          ·
            have hc5' := hc5; try simp only [sumB, Bool.not_eq_true', Bool.not_eq_false', Bool.or_eq_true, Bool.or_eq_false_iff, Bool.and_eq_true, Bool.and_eq_false_imp, decide_eq_true_eq, decide_eq_false_iff_not, Bool.not_not, Bool.not_true, Bool.not_false] at hc5'
            refine AC.seq ?_
            refine AC.seq ?_
            refine AC.region ?_
            refine AL.val (Wanted.plain rfl) (g_binI rfl rfl rfl rfl) rfl rfl ?_
            refine AL.fast 1 rfl ?_
            refine AL.nil ?_
            refine then_ok ?_
            refine AC.cond rfl (fun hc6 => ?_) (fun hc6 => ?_)
            ·
              have hc6' := hc6; try simp only [sumB, Bool.not_eq_true', Bool.not_eq_false', Bool.or_eq_true, Bool.or_eq_false_iff, Bool.and_eq_true, Bool.and_eq_false_imp, decide_eq_true_eq, decide_eq_false_iff_not, Bool.not_not, Bool.not_true, Bool.not_false] at hc6'
              refine AC.skip ?_
              refine then_ok ?_
              refine AC.cond rfl (fun _ => ?_) (fun hno => absurd (hc6.symm.trans hno) (by decide))
              refine AC.region ?_
              refine AL.fast 1 rfl ?_
              refine AL.val (Wanted.plain rfl) (g_fieldP rfl rfl Try.underlying127 rfl sz3 (by decide)) rfl rfl ?_
              refine AL.val (Wanted.plain rfl) (g_loadB rfl rfl rfl Try.underlying3 rfl rfl) rfl rfl ?_
              refine AL.val (Wanted.plain rfl) (g_binI rfl rfl rfl (wrap_ok (by first | omega | (simp; done) | (simp; omega)))) rfl rfl ?_
              refine AL.fast 1 rfl ?_
              refine AL.nil ?_
              refine block_ok ?_
              refine block_ok ?_
              refine then_ok ?_
              refine AC.region ?_
              refine AL.val (Wanted.plain rfl) (g_binI rfl rfl rfl (wrap_ok (by first | omega | (simp; done) | (simp; omega)))) rfl rfl ?_
              refine AL.fast 1 rfl ?_
              refine AL.nil ?_
              refine then_ok ?_
              refine ⟨(q + 1, m - x1.sum), ⟨by omega, by rw [netR_take hx1, ← hi0_1]; unfold valR; (repeat' split) <;> omega, by omega⟩, by first | omega | (simp; done) | (simp; omega), Weak.ren id (by refine ⟨?_, ?_, ?_, ?_, ?_, ?_,  trivial⟩ <;> first | rfl | (simp only [AV.map, GV.map, CV.map, AB.map', id]; done) | (congr 3; omega) | (congr 4; omega) | (simp only [List.length_append, List.length_cons, List.length_nil, List.length_set]; rfl)) (trivial) rfl⟩
            ·
              have hc6' := hc6; try simp only [sumB, Bool.not_eq_true', Bool.not_eq_false', Bool.or_eq_true, Bool.or_eq_false_iff, Bool.and_eq_true, Bool.and_eq_false_imp, decide_eq_true_eq, decide_eq_false_iff_not, Bool.not_not, Bool.not_true, Bool.not_false] at hc6'
              refine AC.region ?_
              refine AL.val (Wanted.plain rfl) (g_binI rfl rfl rfl rfl) rfl rfl ?_
              refine AL.fast 1 rfl ?_
              refine AL.nil ?_
              refine then_ok ?_
              refine AC.cond rfl (fun hc8 => ?_) (fun hc8 => ?_)
              ·
                have hc8' := hc8; try simp only [sumB, Bool.not_eq_true', Bool.not_eq_false', Bool.or_eq_true, Bool.or_eq_false_iff, Bool.and_eq_true, Bool.and_eq_false_imp, decide_eq_true_eq, decide_eq_false_iff_not, Bool.not_not, Bool.not_true, Bool.not_false] at hc8'
                refine AC.region ?_
                refine AL.fast 1 rfl ?_
                refine AL.val (Wanted.plain rfl) (g_fieldP rfl rfl Try.underlying127 rfl sz3 (by decide)) rfl rfl ?_
                refine AL.val (Wanted.plain rfl) (g_loadB rfl rfl rfl Try.underlying3 rfl rfl) rfl rfl ?_
                refine AL.val (Wanted.plain rfl) (g_binI rfl rfl rfl (wrap_ok (by first | omega | (simp; done) | (simp; omega)))) rfl rfl ?_
                refine AL.fast 1 rfl ?_
                refine AL.nil ?_
                refine block_ok ?_
                refine block_ok ?_
                refine then_ok ?_
                refine AC.region ?_
                refine AL.val (Wanted.plain rfl) (g_binI rfl rfl rfl (wrap_ok (by first | omega | (simp; done) | (simp; omega)))) rfl rfl ?_
                refine AL.fast 1 rfl ?_
                refine AL.nil ?_
                refine then_ok ?_
                refine ⟨(q + 1, m - x1.sum), ⟨by omega, by rw [netR_take hx1, ← hi0_1]; unfold valR; (repeat' split) <;> omega, by omega⟩, by first | omega | (simp; done) | (simp; omega), Weak.ren id (by refine ⟨?_, ?_, ?_, ?_, ?_, ?_,  trivial⟩ <;> first | rfl | (simp only [AV.map, GV.map, CV.map, AB.map', id]; done) | (congr 3; omega) | (congr 4; omega) | (simp only [List.length_append, List.length_cons, List.length_nil, List.length_set]; rfl)) (trivial) rfl⟩
              ·
                have hc8' := hc8; try simp only [sumB, Bool.not_eq_true', Bool.not_eq_false', Bool.or_eq_true, Bool.or_eq_false_iff, Bool.and_eq_true, Bool.and_eq_false_imp, decide_eq_true_eq, decide_eq_false_iff_not, Bool.not_not, Bool.not_true, Bool.not_false] at hc8'
                refine AC.skip ?_
                refine block_ok ?_
                refine block_ok ?_
                refine then_ok ?_
                refine AC.region ?_
                refine AL.val (Wanted.plain rfl) (g_binI rfl rfl rfl (wrap_ok (by first | omega | (simp; done) | (simp; omega)))) rfl rfl ?_
                refine AL.fast 1 rfl ?_
                refine AL.nil ?_
                refine then_ok ?_
                refine ⟨(q + 1, m), ⟨by omega, by rw [netR_take hx1, ← hi0_1]; unfold valR; (repeat' split) <;> omega, by omega⟩, by first | omega | (simp; done) | (simp; omega), Weak.ren id (by refine ⟨?_, ?_, ?_, ?_, ?_, ?_,  trivial⟩ <;> first | rfl | (simp only [AV.map, GV.map, CV.map, AB.map', id]; done) | (congr 3; omega) | (congr 4; omega) | (simp only [List.length_append, List.length_cons, List.length_nil, List.length_set]; rfl)) (trivial) rfl⟩
    ·
      have hc1' := hc1; try simp only [sumB, Bool.not_eq_true', Bool.not_eq_false', Bool.or_eq_true, Bool.or_eq_false_iff, Bool.and_eq_true, Bool.and_eq_false_imp, decide_eq_true_eq, decide_eq_false_iff_not, Bool.not_not, Bool.not_true, Bool.not_false] at hc1'
      refine AC.exit ?_
      refine then_exit ?_
      refine then_exit ?_
      refine block_hit ?_
      refine then_ok ?_
      refine AC.seq ?_
      refine AC.region ?_
      refine AL.fast 2 rfl ?_
      refine AL.nil ?_
      refine then_ok ?_
      refine AC.ret ?_
      have hX : netR l s = m := by
        rw [hi0_1, netR_all (by omega)]
      rw [hX] at hr; clear hX
      subst hr
      refine retQ_mk (av' := outOf [(.c (cI m))]) (nb' := []) (retQ_ret ⟨[(4, (aI m))], [], 0⟩ [.tmp 4] [(.c (cI m))] (Weak.ren id (⟨by first | rfl | (simp only [AV.map, GV.map, CV.map, AB.map', id]; done) | (congr 3; omega) | (congr 4; omega) | (simp only [List.length_append, List.length_cons, List.length_nil, List.length_set]; rfl), trivial⟩) (trivial) rfl) rfl ⟨.tmp rfl, trivial⟩ trivial) ?_ ?_
      · first | rfl | (simp [outOf, aC]; done) | (simp [outOf, aC]; omega)
      · first | rfl | (simp; done) | (simp; omega)
set_option maxRecDepth 100000 in
set_option maxHeartbeats 1000000 in
theorem c_ref_Net (l : List Record) (s : Int) (hs : ∀ x ∈ l, 0 ≤ x.sum ∧ x.sum ≤ 1000000) (hl : l.length ≤ 1000000) (n : Int) (hr : netR l s = n) : Fn Try.prog 97 [(.c (cR 4 ((l).map rRecord))), (.c (cI s))] (.v (.c (cI n))) [] := by
  refine Fn.mk' 30 [(0, (aC (cR 4 ((l).map rRecord)))), (1, (aI s))] Try.func97 rfl rfl rfl rfl ?_
  intro W0 T0
  refine AC.len1 0 rfl (fun hlen0 => ?_)
  refine AC.seq ?_
  refine AC.region ?_
  refine AL.fast 1 rfl ?_
  refine AL.nil ?_
  refine then_ok ?_
  refine AC.seq ?_
  refine AC.region ?_
  refine AL.fast 1 rfl ?_
  refine AL.nil ?_
  refine then_ok ?_
  refine AC.seq ?_
  refine AC.seq ?_
  refine AC.region ?_
  refine AL.fast 1 rfl ?_
  refine AL.val (Wanted.plain rfl) (g_lenM rfl rfl rfl rfl rfl Try.underlying114) rfl rfl ?_
  refine AL.fast 1 rfl ?_
  refine AL.nil ?_
  refine then_ok ?_
  refine AC.block ?_
  refine AC.loop (β := Nat × Int) (fun (p : Nat × Int) => match p with | (q, m) => ⟨[(1, (aI s)), (4, (aI 0)), (5, (aI m)), (8, (aC (cR 4 ((l).map rRecord)))), (9, (aI (↑l.length : Int))), (10, (aI (↑q : Int)))], [], 0⟩) (fun (p : Nat × Int) => match p with | (q, m) => q ≤ l.length ∧ m = netR (l.take q) s ∧ -1000000 * (q : Int) ≤ m ∧ m ≤ 1000000 * (q : Int)) (fun (p : Nat × Int) => match p with | (q, m) => l.length - q) (0, 0) ?_ ?_ ?_
  · exact ⟨by omega, rfl, by omega⟩
  · exact Weak.ren id (by refine ⟨?_, ?_, ?_, ?_, ?_, ?_,  trivial⟩ <;> first | rfl | (simp only [AV.map, GV.map, CV.map, AB.map', id]; done) | (congr 3; omega) | (congr 4; omega) | (simp only [List.length_append, List.length_cons, List.length_nil, List.length_set]; rfl)) (trivial) rfl
  ·
    rintro ⟨q, m⟩ ⟨hi0_0, hi0_1, hi0_2⟩
    refine AC.seq ?_
    refine AC.region ?_
    refine AL.val (Wanted.plain rfl) (g_binI rfl rfl rfl rfl) rfl rfl ?_
    refine AL.nil ?_
    refine then_ok ?_
    refine AC.seq ?_
    refine AC.cond rfl (fun hc1 => ?_) (fun hc1 => ?_)
    ·
      have hc1' := hc1; try simp only [sumB, Bool.not_eq_true', Bool.not_eq_false', Bool.or_eq_true, Bool.or_eq_false_iff, Bool.and_eq_true, Bool.and_eq_false_imp, decide_eq_true_eq, decide_eq_false_iff_not, Bool.not_not, Bool.not_true, Bool.not_false] at hc1'
      refine AC.skip ?_
      refine then_ok ?_
      refine AC.seq ?_
      refine AC.block ?_
      refine AC.seq ?_
      refine AC.region ?_
      obtain ⟨x1, hx1⟩ := exget (xs := l) (i := q) (by first | omega | (simp; done) | (simp; omega))
      have hx1b := hs x1 (List.mem_of_getElem? hx1)
      have hx1v := valR_b (s := s) hx1b
      refine AL.val (Wanted.plain rfl) (g_indexQ (i := q) rfl rfl rfl Try.underlying114 sz127 (by first | omega | (simp; done) | (simp; omega)) (getmap hx1)) rfl rfl ?_
      refine AL.val (Wanted.plain rfl) (g_loadQs rfl rfl Try.underlying127 rfl sz127 rfl rfl) rfl rfl ?_
      refine AL.new (n' := 1) (Wanted.plain rfl) (g_alloc 0 rfl zv127 rfl rfl rfl) rfl rfl rfl ?_
      refine AL.sto (h' := [(0, (.box 127 [(cI x1.shop), (cI x1.auth), (cI x1.kind), (cI x1.sum)]))]) (Wanted.plain rfl) (g_storeB rfl rfl rfl rfl rfl sz127 rfl (Nat.le_of_ble_eq_true rfl) rfl) rfl rfl rfl rfl ?_
      refine AL.nil ?_
      refine then_ok ?_
      refine AC.seq ?_
      refine AC.region ?_
      refine AL.val (Wanted.plain rfl) (g_fieldP rfl rfl Try.underlying127 rfl sz3 (by decide)) rfl rfl ?_
      refine AL.val (Wanted.plain rfl) (g_loadB rfl rfl rfl Try.underlying3 rfl rfl) rfl rfl ?_
      refine AL.fast 1 rfl ?_
      refine AL.val (Wanted.plain rfl) (g_binI rfl rfl rfl rfl) rfl rfl ?_
      refine AL.nil ?_
      refine then_ok ?_
      refine AC.cond rfl (fun hc2 => ?_) (fun hc2 => ?_)
      ·
        have hc2' := hc2; try simp only [sumB, Bool.not_eq_true', Bool.not_eq_false', Bool.or_eq_true, Bool.or_eq_false_iff, Bool.and_eq_true, Bool.and_eq_false_imp, decide_eq_true_eq, decide_eq_false_iff_not, Bool.not_not, Bool.not_true, Bool.not_false] at hc2'
        refine AC.region ?_
        refine AL.fast 1 rfl ?_
        refine AL.val (Wanted.plain rfl) (g_fieldP rfl rfl Try.underlying127 rfl sz3 (by decide)) rfl rfl ?_
        refine AL.val (Wanted.plain rfl) (g_loadB rfl rfl rfl Try.underlying3 rfl rfl) rfl rfl ?_
        refine AL.new (n' := 2) (Wanted.plain rfl) (g_makeMap 1 rfl) rfl rfl rfl ?_
        refine AL.sto (h' := [(1, (.map (mV [(2, 1)]) 1)), (0, (.box 127 [(cI x1.shop), (cI x1.auth), (cI x1.kind), (cI x1.sum)]))]) (Wanted.plain rfl) (g_insert (ps' := [(2, 1)]) Try.underlying144 Try.underlying3 rfl rfl rfl rfl rfl rfl rfl) rfl rfl rfl rfl ?_
        refine AL.sto (h' := [(1, (.map (mV [(2, 1), (3, 1)]) 2)), (0, (.box 127 [(cI x1.shop), (cI x1.auth), (cI x1.kind), (cI x1.sum)]))]) (Wanted.plain rfl) (g_insert (ps' := [(2, 1), (3, 1)]) Try.underlying144 Try.underlying3 rfl rfl rfl rfl rfl rfl rfl) rfl rfl rfl rfl ?_
        refine AL.sto (h' := [(1, (.map (mV [(2, 1), (3, 1), (5, (-1))]) 3)), (0, (.box 127 [(cI x1.shop), (cI x1.auth), (cI x1.kind), (cI x1.sum)]))]) (Wanted.plain rfl) (g_insert (ps' := [(2, 1), (3, 1), (5, (-1))]) Try.underlying144 Try.underlying3 rfl rfl rfl rfl rfl rfl rfl) rfl rfl rfl rfl ?_
        refine AL.sto (h' := [(1, (.map (mV [(2, 1), (3, 1), (5, (-1)), (7, (-1))]) 4)), (0, (.box 127 [(cI x1.shop), (cI x1.auth), (cI x1.kind), (cI x1.sum)]))]) (Wanted.plain rfl) (g_insert (ps' := [(2, 1), (3, 1), (5, (-1)), (7, (-1))]) Try.underlying144 Try.underlying3 rfl rfl rfl rfl rfl rfl rfl) rfl rfl rfl rfl ?_
        refine AL.fast 1 rfl ?_
        refine AL.val (Wanted.plain rfl) (g_fieldP rfl rfl Try.underlying127 rfl sz3 (by decide)) rfl rfl ?_
        refine AL.val (Wanted.plain rfl) (g_loadB rfl rfl rfl Try.underlying3 rfl rfl) rfl rfl ?_
        refine AL.val (Wanted.plain rfl) (g_lookup (ps := [(2, 1), (3, 1), (5, (-1)), (7, (-1))]) Try.underlying144 Try.underlying3 zv3 rfl rfl rfl rfl) rfl rfl ?_
        refine AL.val (Wanted.plain rfl) (g_binI rfl rfl rfl (mul_kind (by omega) hx1b)) rfl rfl ?_
        refine AL.val (Wanted.plain rfl) (g_binI rfl rfl rfl (wrap_ok (by first | omega | (simp; done) | (simp; omega)))) rfl rfl ?_
        refine AL.fast 1 rfl ?_
        refine AL.nil ?_
        refine block_ok ?_
        refine then_ok ?_
        refine AC.region ?_
        refine AL.val (Wanted.plain rfl) (g_binI rfl rfl rfl (wrap_ok (by first | omega | (simp; done) | (simp; omega)))) rfl rfl ?_
        refine AL.fast 1 rfl ?_
        refine AL.nil ?_
        refine then_ok ?_
        refine ⟨(q + 1, m + (valR x1 s)), ⟨by omega, by rw [netR_take hx1, ← hi0_1]; first | done | rw [valR_not (by omega), Int.add_zero], by omega⟩, by first | omega | (simp; done) | (simp; omega), Weak.ren id (by refine ⟨?_, ?_, ?_, ?_, ?_, ?_,  trivial⟩ <;> first | rfl | (simp only [AV.map, GV.map, CV.map, AB.map', id]; done) | (congr 3; omega) | (congr 4; omega) | (simp only [List.length_append, List.length_cons, List.length_nil, List.length_set]; rfl)) (trivial) rfl⟩
      ·
        have hc2' := hc2; try simp only [sumB, Bool.not_eq_true', Bool.not_eq_false', Bool.or_eq_true, Bool.or_eq_false_iff, Bool.and_eq_true, Bool.and_eq_false_imp, decide_eq_true_eq, decide_eq_false_iff_not, Bool.not_not, Bool.not_true, Bool.not_false] at hc2'
        refine AC.skip ?_
        refine block_ok ?_
        refine then_ok ?_
        refine AC.region ?_
        refine AL.val (Wanted.plain rfl) (g_binI rfl rfl rfl (wrap_ok (by first | omega | (simp; done) | (simp; omega)))) rfl rfl ?_
        refine AL.fast 1 rfl ?_
        refine AL.nil ?_
        refine then_ok ?_
        refine ⟨(q + 1, m), ⟨by omega, by rw [netR_take hx1, ← hi0_1]; first | done | rw [valR_not (by omega), Int.add_zero], by omega⟩, by first | omega | (simp; done) | (simp; omega), Weak.ren id (by refine ⟨?_, ?_, ?_, ?_, ?_, ?_,  trivial⟩ <;> first | rfl | (simp only [AV.map, GV.map, CV.map, AB.map', id]; done) | (congr 3; omega) | (congr 4; omega) | (simp only [List.length_append, List.length_cons, List.length_nil, List.length_set]; rfl)) (trivial) rfl⟩
    ·
      have hc1' := hc1; try simp only [sumB, Bool.not_eq_true', Bool.not_eq_false', Bool.or_eq_true, Bool.or_eq_false_iff, Bool.and_eq_true, Bool.and_eq_false_imp, decide_eq_true_eq, decide_eq_false_iff_not, Bool.not_not, Bool.not_true, Bool.not_false] at hc1'
      refine AC.exit ?_
      refine then_exit ?_
      refine then_exit ?_
      refine block_hit ?_
      refine then_ok ?_
      refine AC.seq ?_
      refine AC.region ?_
      refine AL.fast 2 rfl ?_
      refine AL.nil ?_
      refine then_ok ?_
      refine AC.ret ?_
      have hX : netR l s = m := by
        rw [hi0_1, netR_all (by omega)]
      rw [hX] at hr; clear hX
      subst hr
      refine retQ_mk (av' := outOf [(.c (cI m))]) (nb' := []) (retQ_ret ⟨[(4, (aI m))], [], 0⟩ [.tmp 4] [(.c (cI m))] (Weak.ren id (⟨by first | rfl | (simp only [AV.map, GV.map, CV.map, AB.map', id]; done) | (congr 3; omega) | (congr 4; omega) | (simp only [List.length_append, List.length_cons, List.length_nil, List.length_set]; rfl), trivial⟩) (trivial) rfl) rfl ⟨.tmp rfl, trivial⟩ trivial) ?_ ?_
      · first | rfl | (simp [outOf, aC]; done) | (simp [outOf, aC]; omega)
      · first | rfl | (simp; done) | (simp; omega)
end Go.Proofs.Ytgmcdlfmifijlaa.Dev
