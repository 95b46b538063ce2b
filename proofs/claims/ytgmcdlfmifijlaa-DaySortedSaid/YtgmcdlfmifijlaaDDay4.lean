/- day.put, day.number, slices.IsSortedFunc. -/
import Derived.Test.YtgmcdlfmifijlaaDDay1
set_option linter.unusedVariables false
set_option linter.unusedSimpArgs false
namespace Go.Proofs.Ytgmcdlfmifijlaa.Dev
open Go.RowKit

set_option maxRecDepth 100000 in
set_option maxHeartbeats 1000000 in
theorem c_day_put (b : List Int) (N : Nat) (n : Int) (z : Nat) (hN : N = b.length) (hz : z ≤ 8) (hl : b.length + z ≤ 1000000) (r : List Int) (hr : b ++ beR n z = r) : FnE Try.prog 117 [(.c (.s 0 0 1 N)), (.c (cI n)), (.c (cI (↑z : Int)))] [(0, (.arr 5 1 ((b).map rU8)))] [] (.v (.c (.s 0 0 1 r.length))) [(0, (.arr 5 1 ((r).map rU8)))] := by
  refine FnE.mk 23 [(0, (aC (.s 0 0 1 N))), (1, (aI n)), (2, (aI (↑z : Int)))] 1 Try.func117 rfl rfl rfl rfl rfl rfl rfl rfl rfl ?_
  intro W0 F0 T0 pg
  refine AC.lenS 0 rfl (fun hlen0 => ?_)
  refine AC.seq ?_
  refine AC.region ?_
  refine AL.fast 1 rfl ?_
  refine AL.nil ?_
  refine then_ok ?_
  refine AC.seq ?_
  refine AC.seq ?_
  refine AC.region ?_
  refine AL.fast 1 rfl ?_
  refine AL.val (Wanted.plain rfl) (g_binI rfl rfl rfl (wrap_ok (by first | omega | (simp; done) | (simp; omega)))) rfl rfl ?_
  refine AL.fast 1 rfl ?_
  refine AL.nil ?_
  refine then_ok ?_
  refine AC.block ?_
  refine AC.loop (β := Nat × List Int) (fun (p : Nat × List Int) => match p with | (k, m) => ⟨[(0, (aC (.s 0 0 1 m.length))), (1, (aI n)), (6, (aC cN)), (7, (aI ((↑k : Int) - 1)))], [(0, (.arr 5 1 ((m).map rU8)))], 1⟩) (fun (p : Nat × List Int) => match p with | (k, m) => k ≤ z ∧ m ++ beR n k = b ++ beR n z ∧ m.length + k = b.length + z) (fun (p : Nat × List Int) => match p with | (k, m) => k) (z, b) ?_ ?_ ?_
  · exact ⟨by omega, rfl, rfl⟩
  · exact Weak.ren id (by refine ⟨?_, ?_, ?_, ?_,  trivial⟩ <;> first | rfl | (simp only [AV.map, GV.map, CV.map, AB.map', id]; done) | (congr 3; omega) | (congr 4; omega) | (simp only [List.length_append, List.length_cons, List.length_nil, List.length_set]; rfl) | (first | exact look_i rfl (by omega) | exact look_s rfl (by omega))) (⟨by first | rfl | (simp only [AV.map, GV.map, CV.map, AB.map', id]; done) | (congr 3; omega) | (congr 4; omega) | (simp only [List.length_append, List.length_cons, List.length_nil, List.length_set]; rfl), trivial⟩) rfl
  ·
    rintro ⟨k, m⟩ ⟨hi0_0, hi0_1, hi0_2⟩
    refine AC.seq ?_
    refine AC.seq ?_
    refine AC.region ?_
    refine AL.fast 1 rfl ?_
    refine AL.val (Wanted.plain rfl) (g_binI rfl rfl rfl rfl) rfl rfl ?_
    refine AL.nil ?_
    refine then_ok ?_
    refine AC.cond rfl (fun hc1 => ?_) (fun hc1 => ?_)
    ·
      have hc1' := hc1; try simp only [sumB, Bool.not_eq_true', Bool.not_eq_false', Bool.or_eq_true, Bool.or_eq_false_iff, Bool.and_eq_true, Bool.and_eq_false_imp, decide_eq_true_eq, decide_eq_false_iff_not, Bool.not_not, Bool.not_true, Bool.not_false] at hc1'
      refine AC.skip ?_
      refine then_ok ?_
      refine AC.seq ?_
      refine AC.block ?_
      refine AC.region ?_
      refine AL.fast 3 rfl ?_
      refine AL.val (Wanted.plain rfl) (g_binI rfl rfl rfl (wrap_ok (by first | omega | (simp; done) | (simp; omega)))) rfl rfl ?_
      refine AL.val (Wanted.plain rfl) (g_shrV rfl rfl rfl (by first | omega | (simp; done) | (simp; omega)) rfl (shr8 (k := k) (by omega) rfl)) rfl rfl ?_
      refine AL.val (Wanted.plain rfl) (g_convI rfl rfl (by rw [Try.underlying3]; rfl) Try.underlying5 conv_m8) rfl rfl ?_
      refine AL.new (n' := 2) (Wanted.plain rfl) (g_lit (ys := [(0, (.c (.d (.v (.int .u8 ((n / 256 ^ (k - 1)) % 256))))))]) (rows := ([(n / 256 ^ (k - 1)) % 256]).map rU8) 1 sl115 rfl (by decide) ⟨⟨rfl, rfl⟩,  trivial⟩ rfl rfl rfl rfl) rfl rfl rfl ?_
      refine AL.eat (n' := 3) (h' := [(2, (.arr 5 1 ((m ++ ([(n / 256 ^ (k - 1)) % 256])).map rU8))), (1, (.arr 5 1 (([(n / 256 ^ (k - 1)) % 256]).map rU8)))]) (Wanted.plain rfl) (g_append (m := 1) (N := m.length + 1) (k2 := 2) (ys := ([(n / 256 ^ (k - 1)) % 256]).map rU8) sl115 rfl rfl rfl rfl rfl rfl (by first | omega | (simp; done) | (simp; omega)) rfl (.s rfl (by first | omega | (simp; done) | (simp; omega))) (by first | omega | (simp; done) | (simp; omega)) (by first | omega | (simp; done) | (simp; omega)) appmap (by decide) (by first | omega | (simp; done) | (simp; omega)) (by first | omega | (simp; done) | (simp; omega))) rfl rfl rfl rfl rfl ?_
      refine AL.fast 1 rfl ?_
      refine AL.nil ?_
      refine block_ok ?_
      refine then_ok ?_
      refine AC.region ?_
      refine AL.fast 1 rfl ?_
      refine AL.val (Wanted.plain rfl) (g_binI rfl rfl rfl (wrap_ok (by first | omega | (simp; done) | (simp; omega)))) rfl rfl ?_
      refine AL.fast 1 rfl ?_
      refine AL.nil ?_
      refine then_ok ?_
      refine ⟨(k - 1, m ++ ([(n / 256 ^ (k - 1)) % 256])), ⟨by omega, by rw [← hi0_1, beR_step (k := k) (by omega), List.append_assoc]; rfl, by simp only [List.length_append, List.length_cons, List.length_nil]; omega⟩, by first | omega | (simp; done) | (simp; omega), Weak.ren (fun k => if k = 0 then 2 else k) (by refine ⟨?_, ?_, ?_, ?_,  trivial⟩ <;> first | rfl | (simp only [AV.map, GV.map, CV.map, AB.map', id]; done) | (congr 3; omega) | (congr 4; omega) | (simp only [List.length_append, List.length_cons, List.length_nil, List.length_set]; rfl) | (first | exact look_i rfl (by omega) | exact look_s rfl (by simp only [List.length_append, List.length_cons, List.length_nil]; omega))) (⟨by first | rfl | (simp only [AV.map, GV.map, CV.map, AB.map', id]; done) | (congr 3; omega) | (congr 4; omega) | (simp only [List.length_append, List.length_cons, List.length_nil, List.length_set]; rfl), trivial⟩) rfl⟩
    ·
      have hc1' := hc1; try simp only [sumB, Bool.not_eq_true', Bool.not_eq_false', Bool.or_eq_true, Bool.or_eq_false_iff, Bool.and_eq_true, Bool.and_eq_false_imp, decide_eq_true_eq, decide_eq_false_iff_not, Bool.not_not, Bool.not_true, Bool.not_false] at hc1'
      refine AC.exit ?_
      refine then_exit ?_
      refine then_exit ?_
      refine block_hit ?_
      refine then_ok ?_
      refine AC.seq ?_
      refine AC.region ?_
      refine AL.fast 2 rfl ?_
      refine AL.nil ?_
      refine then_ok ?_
      refine AC.ret ?_
      have hX : b ++ beR n z = m := by
        (obtain rfl : k = 0 := by omega); rw [← hi0_1]; simp [beR]
      rw [hX] at hr; clear hX
      subst hr
      refine retQ_mk (av' := outOf [(.c (.s 0 0 1 m.length))]) (nb' := [(0, (.arr 5 1 ((m).map rU8)))]) (retQ_ret ⟨[(6, (aC (.s 0 0 1 m.length)))], [(0, (.arr 5 1 ((m).map rU8)))], 1⟩ [.tmp 6] [(.c (.s 0 0 1 m.length))] (Weak.ren (fun k => if k = 0 then 0 else k) (⟨by first | rfl | (simp only [AV.map, GV.map, CV.map, AB.map', id]; done) | (congr 3; omega) | (congr 4; omega) | (simp only [List.length_append, List.length_cons, List.length_nil, List.length_set]; rfl), trivial⟩) (⟨by first | rfl | (simp only [AV.map, GV.map, CV.map, AB.map', id]; done) | (congr 3; omega) | (congr 4; omega) | (simp only [List.length_append, List.length_cons, List.length_nil, List.length_set]; rfl), trivial⟩) rfl) rfl ⟨.tmp rfl, trivial⟩ ⟨by first | rfl | (simp only [AV.map, GV.map, CV.map, AB.map', id]; done) | (congr 3; omega) | (congr 4; omega) | (simp only [List.length_append, List.length_cons, List.length_nil, List.length_set]; rfl), trivial⟩) ?_ ?_
      · first | rfl | (simp [outOf, aC]; done) | (simp [outOf, aC]; omega)
      · first | rfl | (simp; done) | (simp; omega)
set_option maxRecDepth 100000 in
set_option maxHeartbeats 1000000 in
theorem c_number (l : List Int) (hb : ∀ c ∈ l, 0 ≤ c ∧ c ≤ 255) (hl : l.length ≤ 4) (n : Int) (hr : numB l = n) : Fn Try.prog 122 [(.c (cR 1 ((l).map rU8)))] (.v (.c (cI n))) [] := by
  refine Fn.mk' 19 [(0, (aC (cR 1 ((l).map rU8))))] Try.func122 rfl rfl rfl rfl ?_
  intro W0 T0
  refine AC.len1 0 rfl (fun hlen0 => ?_)
  refine AC.seq ?_
  refine AC.region ?_
  refine AL.fast 1 rfl ?_
  refine AL.nil ?_
  refine then_ok ?_
  refine AC.seq ?_
  refine AC.region ?_
  refine AL.fast 1 rfl ?_
  refine AL.nil ?_
  refine then_ok ?_
  refine AC.seq ?_
  refine AC.seq ?_
  refine AC.region ?_
  refine AL.fast 1 rfl ?_
  refine AL.val (Wanted.plain rfl) (g_lenM rfl rfl rfl rfl rfl Try.underlying115) rfl rfl ?_
  refine AL.fast 1 rfl ?_
  refine AL.nil ?_
  refine then_ok ?_
  refine AC.block ?_
  refine AC.loop (β := Nat × Int) (fun (p : Nat × Int) => match p with | (q, m) => ⟨[(2, (aI 0)), (3, (aI m)), (6, (aC (cR 1 ((l).map rU8)))), (7, (aI (↑l.length : Int))), (8, (aI (↑q : Int)))], [], 0⟩) (fun (p : Nat × Int) => match p with | (q, m) => q ≤ l.length ∧ m = numB (l.take q) ∧ 0 ≤ m ∧ (q = 0 → m = 0) ∧ (q = 1 → m ≤ 255) ∧ (q = 2 → m ≤ 65535) ∧ (q = 3 → m ≤ 16777215) ∧ (q = 4 → m ≤ 4294967295)) (fun (p : Nat × Int) => match p with | (q, m) => l.length - q) (0, 0) ?_ ?_ ?_
  · exact ⟨by omega, rfl, by omega⟩
  · exact Weak.ren id (by refine ⟨?_, ?_, ?_, ?_, ?_,  trivial⟩ <;> first | rfl | (simp only [AV.map, GV.map, CV.map, AB.map', id]; done) | (congr 3; omega) | (congr 4; omega) | (simp only [List.length_append, List.length_cons, List.length_nil, List.length_set]; rfl)) (trivial) rfl
  ·
    rintro ⟨q, m⟩ ⟨hi0_0, hi0_1, hi0_2⟩
    refine AC.seq ?_
    refine AC.region ?_
    refine AL.val (Wanted.plain rfl) (g_binI rfl rfl rfl rfl) rfl rfl ?_
    refine AL.nil ?_
    refine then_ok ?_
    refine AC.seq ?_
    refine AC.cond rfl (fun hc1 => ?_) (fun hc1 => ?_)
    ·
      have hc1' := hc1; try simp only [sumB, Bool.not_eq_true', Bool.not_eq_false', Bool.or_eq_true, Bool.or_eq_false_iff, Bool.and_eq_true, Bool.and_eq_false_imp, decide_eq_true_eq, decide_eq_false_iff_not, Bool.not_not, Bool.not_true, Bool.not_false] at hc1'
      refine AC.skip ?_
      refine then_ok ?_
      refine AC.seq ?_
      refine AC.block ?_
      refine AC.seq ?_
      refine AC.region ?_
      obtain ⟨x1, hx1⟩ := exget (xs := l) (i := q) (by first | omega | (simp; done) | (simp; omega))
      have hx1b := hb x1 (List.mem_of_getElem? hx1)
      refine AL.val (Wanted.plain rfl) (g_indexQ (i := q) rfl rfl rfl Try.underlying115 sz5 (by first | omega | (simp; done) | (simp; omega)) (getmap hx1)) rfl rfl ?_
      refine AL.val (Wanted.plain rfl) (g_loadQ rfl rfl Try.underlying5 rfl rfl) rfl rfl ?_
      refine AL.fast 1 rfl ?_
      refine AL.nil ?_
      refine then_ok ?_
      refine AC.region ?_
      refine AL.fast 1 rfl ?_
      refine AL.val (Wanted.plain rfl) (g_shl8 rfl rfl rfl (wrap_ok (by first | omega | (simp; done) | (simp; omega)))) rfl rfl ?_
      refine AL.fast 1 rfl ?_
      refine AL.val (Wanted.plain rfl) (g_convI rfl rfl (by rw [Try.underlying5]; rfl) Try.underlying3 (conv_i64 (by first | omega | (simp; done) | (simp; omega)))) rfl rfl ?_
      refine AL.val (Wanted.plain rfl) (g_or8 (n := m) rfl rfl rfl rfl (by first | omega | (simp; done) | (simp; omega)) (by first | omega | (simp; done) | (simp; omega)) rfl) rfl rfl ?_
      refine AL.fast 1 rfl ?_
      refine AL.nil ?_
      refine block_ok ?_
      refine then_ok ?_
      refine AC.region ?_
      refine AL.val (Wanted.plain rfl) (g_binI rfl rfl rfl (wrap_ok (by first | omega | (simp; done) | (simp; omega)))) rfl rfl ?_
      refine AL.fast 1 rfl ?_
      refine AL.nil ?_
      refine then_ok ?_
      refine ⟨(q + 1, (m * 256) + (x1 : Int)), ⟨by omega, by rw [numB_take hx1, ← hi0_1], by omega⟩, by first | omega | (simp; done) | (simp; omega), Weak.ren id (by refine ⟨?_, ?_, ?_, ?_, ?_,  trivial⟩ <;> first | rfl | (simp only [AV.map, GV.map, CV.map, AB.map', id]; done) | (congr 3; omega) | (congr 4; omega) | (simp only [List.length_append, List.length_cons, List.length_nil, List.length_set]; rfl)) (trivial) rfl⟩
    ·
      have hc1' := hc1; try simp only [sumB, Bool.not_eq_true', Bool.not_eq_false', Bool.or_eq_true, Bool.or_eq_false_iff, Bool.and_eq_true, Bool.and_eq_false_imp, decide_eq_true_eq, decide_eq_false_iff_not, Bool.not_not, Bool.not_true, Bool.not_false] at hc1'
      refine AC.exit ?_
      refine then_exit ?_
      refine then_exit ?_
      refine block_hit ?_
      refine then_ok ?_
      refine AC.seq ?_
      refine AC.region ?_
      refine AL.fast 2 rfl ?_
      refine AL.nil ?_
      refine then_ok ?_
      refine AC.ret ?_
      have hX : numB l = m := by
        rw [hi0_1, List.take_of_length_le (by omega)]
      rw [hX] at hr; clear hX
      subst hr
      refine retQ_mk (av' := outOf [(.c (cI m))]) (nb' := []) (retQ_ret ⟨[(2, (aI m))], [], 0⟩ [.tmp 2] [(.c (cI m))] (Weak.ren id (⟨by first | rfl | (simp only [AV.map, GV.map, CV.map, AB.map', id]; done) | (congr 3; omega) | (congr 4; omega) | (simp only [List.length_append, List.length_cons, List.length_nil, List.length_set]; rfl), trivial⟩) (trivial) rfl) rfl ⟨.tmp rfl, trivial⟩ trivial) ?_ ?_
      · first | rfl | (simp [outOf, aC]; done) | (simp [outOf, aC]; omega)
      · first | rfl | (simp; done) | (simp; omega)
set_option maxRecDepth 100000 in
set_option maxHeartbeats 1000000 in
theorem c_IsSorted (l : List Record) (fn : FuncId) (caps : List (List D)) (hp : ∀ x y : Record, Fn Try.prog fn ([.g [cI x.shop, cI x.auth, cI x.kind, cI x.sum], .g [cI y.shop, cI y.auth, cI y.kind, cI y.sum]] ++ caps.map fun r => GV.c (.q r 0)) (aI (ordR x y)) []) (hen : Enters Try.prog fn) (r : Bool) (hr : srtB l = r) : Fn Try.prog 123 [(.c (cR 4 ((l).map rRecord))), (.c (.d (.f fn caps)))] (.v (.c (cB r))) [] := by
  refine Fn.mk' 25 [(0, (aC (cR 4 ((l).map rRecord)))), (1, (aC (.d (.f fn caps))))] Try.func123 rfl rfl rfl rfl ?_
  intro W0 T0
  refine AC.len1 0 rfl (fun hlen0 => ?_)
  refine AC.seq ?_
  refine AC.region ?_
  refine AL.fast 1 rfl ?_
  refine AL.nil ?_
  refine then_ok ?_
  refine AC.seq ?_
  refine AC.seq ?_
  refine AC.region ?_
  refine AL.fast 1 rfl ?_
  refine AL.val (Wanted.plain rfl) (g_lenM rfl rfl rfl rfl rfl Try.underlying114) rfl rfl ?_
  refine AL.val (Wanted.plain rfl) (g_binI rfl rfl rfl (wrap_ok (by first | omega | (simp; done) | (simp; omega)))) rfl rfl ?_
  refine AL.fast 1 rfl ?_
  refine AL.nil ?_
  refine then_ok ?_
  refine AC.block ?_
  refine AC.loop (β := Nat) (fun (q : Nat) => ⟨[(0, (aC (cR 4 ((l).map rRecord)))), (1, (aC (.d (.f fn caps)))), (5, (aI ((↑q : Int) - 1)))], [], 0⟩) (fun (q : Nat) => q ≤ l.length ∧ (∀ i, q ≤ i → 1 ≤ i → ∀ x y, l[i]? = some x → l[i - 1]? = some y → leR y x)) (fun (q : Nat) => q) l.length ?_ ?_ ?_
  · exact ⟨by omega, fun i hi h1 x y hx hy => by have := (List.getElem?_eq_some_iff.1 hx).1; omega⟩
  · exact Weak.ren id (by refine ⟨?_, ?_, ?_,  trivial⟩ <;> first | rfl | (simp only [AV.map, GV.map, CV.map, AB.map', id]; done) | (congr 3; omega) | (congr 4; omega) | (simp only [List.length_append, List.length_cons, List.length_nil, List.length_set]; rfl) | (exact look_i rfl (by omega))) (trivial) rfl
  ·
    rintro q ⟨hi0_0, hi0_1⟩
    refine AC.seq ?_
    refine AC.seq ?_
    refine AC.region ?_
    refine AL.fast 1 rfl ?_
    refine AL.val (Wanted.plain rfl) (g_binI rfl rfl rfl rfl) rfl rfl ?_
    refine AL.nil ?_
    refine then_ok ?_
    refine AC.cond rfl (fun hc1 => ?_) (fun hc1 => ?_)
    ·
      have hc1' := hc1; try simp only [sumB, Bool.not_eq_true', Bool.not_eq_false', Bool.or_eq_true, Bool.or_eq_false_iff, Bool.and_eq_true, Bool.and_eq_false_imp, decide_eq_true_eq, decide_eq_false_iff_not, Bool.not_not, Bool.not_true, Bool.not_false] at hc1'
      refine AC.skip ?_
      refine then_ok ?_
      refine AC.seq ?_
      refine AC.block ?_
      refine AC.seq ?_
      obtain ⟨x1, hx1⟩ := exget (xs := l) (i := (q) - 1) (by first | omega | (simp; done) | (simp; omega))
      obtain ⟨x2, hx2⟩ := exget (xs := l) (i := ((q) - 1) - 1) (by first | omega | (simp; done) | (simp; omega))
      refine AC.weak (st' := ⟨[(0, (aC (cR 4 ((l).map rRecord)))), (1, (aC (.d (.f fn caps)))), (5, (aI ((↑q : Int) - 1)))], [], 0⟩) (Weak.ren id (by refine ⟨?_, ?_, ?_,  trivial⟩ <;> first | rfl | (simp only [AV.map, GV.map, CV.map, AB.map', id]; done) | (congr 3; omega) | (congr 4; omega) | (simp only [List.length_append, List.length_cons, List.length_nil, List.length_set]; rfl)) (trivial) rfl) ?_
      refine AC.draw [⟨some 13, (aC (.d (.f fn caps))), [], [], [], [(1, (aC (.d (.f fn caps))))], []⟩,
      ⟨some 14, (aC (cR 4 ((l).map rRecord))), [], [], [], [(0, (aC (cR 4 ((l).map rRecord))))], []⟩,
      ⟨some 15, (aI ((↑q : Int) - 1)), [], [], [], [(5, (aI ((↑q : Int) - 1)))], []⟩,
      ⟨some 16, (aC (.q (rRecord x1) 0)), [], [], [1, 2], [(14, (aC (cR 4 ((l).map rRecord)))), (15, (aI ((↑q : Int) - 1)))], []⟩,
      ⟨some 17, (aG [(cI x1.shop), (cI x1.auth), (cI x1.kind), (cI x1.sum)]), [], [], [3], [(16, (aC (.q (rRecord x1) 0)))], []⟩,
      ⟨some 18, (aC (cR 4 ((l).map rRecord))), [], [], [], [(0, (aC (cR 4 ((l).map rRecord))))], []⟩,
      ⟨some 19, (aI ((↑q : Int) - 1)), [], [], [], [(5, (aI ((↑q : Int) - 1)))], []⟩,
      ⟨some 20, (aI (((↑q : Int) - 1) - 1)), [], [], [6], [(19, (aI ((↑q : Int) - 1)))], []⟩,
      ⟨some 21, (aC (.q (rRecord x2) 0)), [], [], [5, 7], [(18, (aC (cR 4 ((l).map rRecord)))), (20, (aI (((↑q : Int) - 1) - 1)))], []⟩,
      ⟨some 22, (aG [(cI x2.shop), (cI x2.auth), (cI x2.kind), (cI x2.sum)]), [], [], [8], [(21, (aC (.q (rRecord x2) 0)))], []⟩,
      ⟨some 23, (aI (ordR x1 x2)), [], [], [0, 4, 9], [(13, (aC (.d (.f fn caps)))), (17, (aG [(cI x1.shop), (cI x1.auth), (cI x1.kind), (cI x1.sum)])), (22, (aG [(cI x2.shop), (cI x2.auth), (cI x2.kind), (cI x2.sum)]))], []⟩,
      ⟨some 24, (aB (decide ((ordR x1 x2) < 0))), [], [], [10], [(23, (aI (ordR x1 x2)))], []⟩] ⟨[(0, (aC (cR 4 ((l).map rRecord)))), (1, (aC (.d (.f fn caps)))), (5, (aI ((↑q : Int) - 1))), (24, (aB (decide ((ordR x1 x2) < 0))))], [], 0⟩ mixed (by kernel_rfl) ?_ ?_ ?_ ?_
      · exact ⟨.inl ⟨(Wanted.plain rfl), GOp.cast (g_move rfl rfl) rfl⟩,
      .inl ⟨(Wanted.plain rfl), GOp.cast (g_move rfl rfl) rfl⟩,
      .inl ⟨(Wanted.plain rfl), GOp.cast (g_move rfl rfl) rfl⟩,
      .inl ⟨(Wanted.plain rfl), GOp.cast (g_indexQ (i := (q) - 1) rfl rfl rfl Try.underlying114 sz127 (by first | omega | (simp; done) | (simp; omega)) (getmap hx1)) rfl⟩,
      .inl ⟨(Wanted.plain rfl), GOp.cast (g_loadQs rfl rfl Try.underlying127 rfl sz127 rfl rfl) rfl⟩,
      .inl ⟨(Wanted.plain rfl), GOp.cast (g_move rfl rfl) rfl⟩,
      .inl ⟨(Wanted.plain rfl), GOp.cast (g_move rfl rfl) rfl⟩,
      .inl ⟨(Wanted.plain rfl), GOp.cast (g_binI rfl rfl rfl (wrap_ok (by first | omega | (simp; done) | (simp; omega)))) rfl⟩,
      .inl ⟨(Wanted.plain rfl), GOp.cast (g_indexQ (i := ((q) - 1) - 1) rfl rfl rfl Try.underlying114 sz127 (by first | omega | (simp; done) | (simp; omega)) (getmap hx2)) rfl⟩,
      .inl ⟨(Wanted.plain rfl), GOp.cast (g_loadQs rfl rfl Try.underlying127 rfl sz127 rfl rfl) rfl⟩,
      .inl ⟨(Wanted.plain rfl), GOp.cast (g_callF (ins := [(.g [(cI x1.shop), (cI x1.auth), (cI x1.kind), (cI x1.sum)]), (.g [(cI x2.shop), (cI x2.auth), (cI x2.kind), (cI x2.sum)])]) 0 (hp x1 x2) hen rfl rfl rfl ⟨⟨_, rfl, .g ⟨.d _, .d _, .d _, .d _,  trivial⟩⟩, ⟨_, rfl, .g ⟨.d _, .d _, .d _, .d _,  trivial⟩⟩,  trivial⟩ trivial trivial rfl rfl rfl rfl) rfl⟩,
      .inl ⟨(Wanted.plain rfl), GOp.cast (g_binI rfl rfl rfl rfl) rfl⟩,
       trivial⟩
      · exact ⟨⟨⟨.inl rfl,  trivial⟩, trivial⟩, ⟨⟨.inl rfl,  trivial⟩, trivial⟩, ⟨⟨.inl rfl,  trivial⟩, trivial⟩, ⟨⟨.inr ⟨1, .head _, _, rfl, rfl, rfl⟩, .inr ⟨2, .tail _ (.head _), _, rfl, rfl, rfl⟩,  trivial⟩, trivial⟩, ⟨⟨.inr ⟨3, .head _, _, rfl, rfl, rfl⟩,  trivial⟩, trivial⟩, ⟨⟨.inl rfl,  trivial⟩, trivial⟩, ⟨⟨.inl rfl,  trivial⟩, trivial⟩, ⟨⟨.inr ⟨6, .head _, _, rfl, rfl, rfl⟩,  trivial⟩, trivial⟩, ⟨⟨.inr ⟨5, .head _, _, rfl, rfl, rfl⟩, .inr ⟨7, .tail _ (.head _), _, rfl, rfl, rfl⟩,  trivial⟩, trivial⟩, ⟨⟨.inr ⟨8, .head _, _, rfl, rfl, rfl⟩,  trivial⟩, trivial⟩, ⟨⟨.inr ⟨0, .head _, _, rfl, rfl, rfl⟩, .inr ⟨4, .tail _ (.head _), _, rfl, rfl, rfl⟩, .inr ⟨9, .tail _ (.tail _ (.head _)), _, rfl, rfl, rfl⟩,  trivial⟩, trivial⟩, ⟨⟨.inr ⟨10, .head _, _, rfl, rfl, rfl⟩,  trivial⟩, trivial⟩,  trivial⟩
      · exact ⟨⟨.inl rfl, .inl rfl, .inl rfl, .inr ⟨11, _, rfl, rfl, rfl⟩,  trivial⟩, trivial⟩
      ·
        refine AL.nil ?_
        refine then_ok ?_
        refine AC.cond rfl (fun hc2 => ?_) (fun hc2 => ?_)
        ·
          have hc2' := hc2; try simp only [sumB, Bool.not_eq_true', Bool.not_eq_false', Bool.or_eq_true, Bool.or_eq_false_iff, Bool.and_eq_true, Bool.and_eq_false_imp, decide_eq_true_eq, decide_eq_false_iff_not, Bool.not_not, Bool.not_true, Bool.not_false] at hc2'
          refine AC.seq ?_
          refine AC.region ?_
          refine AL.fast 1 rfl ?_
          refine AL.nil ?_
          refine then_ok ?_
          refine AC.ret ?_
          refine block_ret ?_
          refine then_ret ?_
          refine then_ret ?_
          refine block_ret ?_
          refine then_ret ?_
          have hX : srtB l = false := by
            exact srtB_no (q := q - 1) (by omega) hx1 hx2 (ordR_lt.1 (by assumption))
          rw [hX] at hr; clear hX
          subst hr
          refine retQ_mk (av' := outOf [(.c (cB false))]) (nb' := []) (retQ_ret ⟨[(4, (aB false))], [], 0⟩ [.tmp 4] [(.c (cB false))] (Weak.ren id (⟨by first | rfl | (simp only [AV.map, GV.map, CV.map, AB.map', id]; done) | (congr 3; omega) | (congr 4; omega) | (simp only [List.length_append, List.length_cons, List.length_nil, List.length_set]; rfl), trivial⟩) (trivial) rfl) rfl ⟨.tmp rfl, trivial⟩ trivial) ?_ ?_
          · first | rfl | (simp [outOf, aC]; done) | (simp [outOf, aC]; omega)
          · first | rfl | (simp; done) | (simp; omega)
        ·
          have hc2' := hc2; try simp only [sumB, Bool.not_eq_true', Bool.not_eq_false', Bool.or_eq_true, Bool.or_eq_false_iff, Bool.and_eq_true, Bool.and_eq_false_imp, decide_eq_true_eq, decide_eq_false_iff_not, Bool.not_not, Bool.not_true, Bool.not_false] at hc2'
          refine AC.skip ?_
          refine block_ok ?_
          refine then_ok ?_
          refine AC.region ?_
          refine AL.fast 1 rfl ?_
          refine AL.val (Wanted.plain rfl) (g_binI rfl rfl rfl (wrap_ok (by first | omega | (simp; done) | (simp; omega)))) rfl rfl ?_
          refine AL.fast 1 rfl ?_
          refine AL.nil ?_
          refine then_ok ?_
          refine ⟨q - 1, ⟨by omega, fun i hi h1 x y hx hy => by
            by_cases hiq : i = q - 1
            · subst hiq
              rw [hx1] at hx; rw [hx2] at hy; injection hx with hx; injection hy with hy; subst hx hy
              exact ltR_f.1 (ordR_ge (by assumption))
            · exact hi0_1 i (by omega) h1 x y hx hy⟩, by first | omega | (simp; done) | (simp; omega), Weak.ren id (by refine ⟨?_, ?_, ?_,  trivial⟩ <;> first | rfl | (simp only [AV.map, GV.map, CV.map, AB.map', id]; done) | (congr 3; omega) | (congr 4; omega) | (simp only [List.length_append, List.length_cons, List.length_nil, List.length_set]; rfl) | (exact look_i rfl (by omega))) (trivial) rfl⟩
    ·
      have hc1' := hc1; try simp only [sumB, Bool.not_eq_true', Bool.not_eq_false', Bool.or_eq_true, Bool.or_eq_false_iff, Bool.and_eq_true, Bool.and_eq_false_imp, decide_eq_true_eq, decide_eq_false_iff_not, Bool.not_not, Bool.not_true, Bool.not_false] at hc1'
      refine AC.exit ?_
      refine then_exit ?_
      refine then_exit ?_
      refine block_hit ?_
      refine then_ok ?_
      refine AC.seq ?_
      refine AC.region ?_
      refine AL.fast 1 rfl ?_
      refine AL.nil ?_
      refine then_ok ?_
      refine AC.ret ?_
      have hX : srtB l = true := by
        exact srtB_yes (q := q) (by omega) hi0_1
      rw [hX] at hr; clear hX
      subst hr
      refine retQ_mk (av' := outOf [(.c (cB true))]) (nb' := []) (retQ_ret ⟨[(4, (aB true))], [], 0⟩ [.tmp 4] [(.c (cB true))] (Weak.ren id (⟨by first | rfl | (simp only [AV.map, GV.map, CV.map, AB.map', id]; done) | (congr 3; omega) | (congr 4; omega) | (simp only [List.length_append, List.length_cons, List.length_nil, List.length_set]; rfl), trivial⟩) (trivial) rfl) rfl ⟨.tmp rfl, trivial⟩ trivial) ?_ ?_
      · first | rfl | (simp [outOf, aC]; done) | (simp [outOf, aC]; omega)
      · first | rfl | (simp; done) | (simp; omega)
end Go.Proofs.Ytgmcdlfmifijlaa.Dev
