/- slices.IndexFunc, slices.DeleteFunc. -/
import Derived.Test.YtgmcdlfmifijlaaDCom
import Derived.Test.YtgmcdlfmifijlaaDPlDel
set_option linter.unusedVariables false
set_option linter.unusedSimpArgs false
namespace Go.Proofs.Ytgmcdlfmifijlaa.Dev
open Go.RowKit

set_option maxRecDepth 100000 in
set_option maxHeartbeats 1000000 in
theorem c_Index_Transfer (l : List Transfer) (fn : FuncId) (caps : List (List D)) (pr : Transfer → Bool) (hp : ∀ x : Transfer, Fn Try.prog fn ([.g [cI x.number, cI x.kind, cI x.auth, cI x.sum]] ++ caps.map fun r => GV.c (.q r 0)) (aB (pr x)) []) (hen : Enters Try.prog fn) (r : Int) (hr : idxF pr l = r) : Fn Try.prog 125 [(.c (cR 4 ((l).map rTransfer))), (.c (.d (.f fn caps)))] (.v (.c (cI r))) [] := by
  refine Fn.mk' 19 [(0, (aC (cR 4 ((l).map rTransfer)))), (1, (aC (.d (.f fn caps))))] Try.func125 rfl rfl rfl rfl ?_
  intro W0 T0
  refine AC.len1 0 rfl (fun hlen0 => ?_)
  refine AC.seq ?_
  refine AC.region ?_
  refine AL.fast 1 rfl ?_
  refine AL.nil ?_
  refine then_ok ?_
  refine AC.seq ?_
  refine AC.seq ?_
  refine AC.region ?_
  refine AL.fast 1 rfl ?_
  refine AL.val (Wanted.plain rfl) (g_lenM rfl rfl rfl rfl rfl Try.underlying56) rfl rfl ?_
  refine AL.fast 1 rfl ?_
  refine AL.nil ?_
  refine then_ok ?_
  refine AC.block ?_
  refine AC.loop (β := Nat) (fun (q : Nat) => ⟨[(0, (aC (cR 4 ((l).map rTransfer)))), (1, (aC (.d (.f fn caps)))), (7, (aI (↑l.length : Int))), (8, (aI (↑q : Int)))], [], 0⟩) (fun (q : Nat) => q ≤ l.length ∧ (l.take q).all (fun y => !pr y) = true) (fun (q : Nat) => l.length - q) 0 ?_ ?_ ?_
  · exact ⟨by omega, by simp⟩
  · exact Weak.ren id (⟨by first | rfl | (simp only [AV.map, GV.map, CV.map, AB.map', id]; done) | (congr 3; omega) | (congr 4; omega) | (simp only [List.length_append, List.length_cons, List.length_nil, List.length_set]; rfl), by first | rfl | (simp only [AV.map, GV.map, CV.map, AB.map', id]; done) | (congr 3; omega) | (congr 4; omega) | (simp only [List.length_append, List.length_cons, List.length_nil, List.length_set]; rfl), by first | rfl | (simp only [AV.map, GV.map, CV.map, AB.map', id]; done) | (congr 3; omega) | (congr 4; omega) | (simp only [List.length_append, List.length_cons, List.length_nil, List.length_set]; rfl), by first | rfl | (simp only [AV.map, GV.map, CV.map, AB.map', id]; done) | (congr 3; omega) | (congr 4; omega) | (simp only [List.length_append, List.length_cons, List.length_nil, List.length_set]; rfl),  trivial⟩) (trivial) rfl
  ·
    rintro q ⟨hi0_0, hi0_1⟩
    refine AC.seq ?_
    refine AC.region ?_
    refine AL.val (Wanted.plain rfl) (g_binI rfl rfl rfl rfl) rfl rfl ?_
    refine AL.nil ?_
    refine then_ok ?_
    refine AC.seq ?_
    refine AC.cond rfl (fun hc1 => ?_) (fun hc1 => ?_)
    ·
      have hc1' := hc1; try simp only [sumB, Bool.not_eq_true', Bool.not_eq_false', Bool.or_eq_true, Bool.or_eq_false_iff, Bool.and_eq_true, Bool.and_eq_false_imp, decide_eq_true_eq, decide_eq_false_iff_not, Bool.not_not, Bool.not_true, Bool.not_false] at hc1'
      refine AC.skip ?_
      refine then_ok ?_
      refine AC.seq ?_
      refine AC.block ?_
      refine AC.seq ?_
      refine AC.region ?_
      refine AL.fast 2 rfl ?_
      refine AL.nil ?_
      refine then_ok ?_
      refine AC.seq ?_
      refine AC.region ?_
      refine AL.fast 3 rfl ?_
      obtain ⟨x1, hx1⟩ := exget (xs := l) (i := q) (by first | omega | (simp; done) | (simp; omega))
      refine AL.val (Wanted.plain rfl) (g_indexQ (i := q) rfl rfl rfl Try.underlying56 sz60 (by first | omega | (simp; done) | (simp; omega)) (getmap hx1)) rfl rfl ?_
      refine AL.val (Wanted.plain rfl) (g_loadQs rfl rfl Try.underlying60 rfl sz60 rfl rfl) rfl rfl ?_
      refine AL.val (Wanted.plain rfl) (g_callF 0 (hp x1) hen rfl rfl rfl ⟨⟨_, rfl, .g ⟨.d _, .d _, .d _, .d _,  trivial⟩⟩, trivial⟩ trivial trivial rfl rfl rfl rfl) rfl rfl ?_
      refine AL.nil ?_
      refine then_ok ?_
      refine AC.cond rfl (fun hc2 => ?_) (fun hc2 => ?_)
      ·
        have hc2' := hc2; try simp only [sumB, Bool.not_eq_true', Bool.not_eq_false', Bool.or_eq_true, Bool.or_eq_false_iff, Bool.and_eq_true, Bool.and_eq_false_imp, decide_eq_true_eq, decide_eq_false_iff_not, Bool.not_not, Bool.not_true, Bool.not_false] at hc2'
        refine AC.seq ?_
        refine AC.region ?_
        refine AL.fast 2 rfl ?_
        refine AL.nil ?_
        refine then_ok ?_
        refine AC.ret ?_
        refine block_ret ?_
        refine then_ret ?_
        refine then_ret ?_
        refine block_ret ?_
        refine then_ret ?_
        have hX : idxF pr l = (↑q : Int) := by
          exact idx_found hi0_1 hx1 hc2
        rw [hX] at hr; clear hX
        subst hr
        refine retQ_mk (av' := outOf [(.c (cI (↑q : Int)))]) (nb' := []) (retQ_ret ⟨[(4, (aI (↑q : Int)))], [], 0⟩ [.tmp 4] [(.c (cI (↑q : Int)))] (Weak.ren id (⟨by first | rfl | (simp only [AV.map, GV.map, CV.map, AB.map', id]; done) | (congr 3; omega) | (congr 4; omega) | (simp only [List.length_append, List.length_cons, List.length_nil, List.length_set]; rfl),  trivial⟩) (trivial) rfl) rfl ⟨.tmp rfl, trivial⟩ trivial) ?_ ?_
        · first | rfl | (simp [outOf, aC]; done) | (simp [outOf, aC]; omega)
        · first | rfl | (simp; done) | (simp; omega)
      ·
        have hc2' := hc2; try simp only [sumB, Bool.not_eq_true', Bool.not_eq_false', Bool.or_eq_true, Bool.or_eq_false_iff, Bool.and_eq_true, Bool.and_eq_false_imp, decide_eq_true_eq, decide_eq_false_iff_not, Bool.not_not, Bool.not_true, Bool.not_false] at hc2'
        refine AC.skip ?_
        refine block_ok ?_
        refine then_ok ?_
        refine AC.region ?_
        refine AL.val (Wanted.plain rfl) (g_binI rfl rfl rfl (wrap_ok (by first | omega | (simp; done) | (simp; omega)))) rfl rfl ?_
        refine AL.fast 1 rfl ?_
        refine AL.nil ?_
        refine then_ok ?_
        refine ⟨q + 1, ⟨by omega, all_keep hi0_1 hx1 hc2⟩, by first | omega | (simp; done) | (simp; omega), Weak.ren id (⟨by first | rfl | (simp only [AV.map, GV.map, CV.map, AB.map', id]; done) | (congr 3; omega) | (congr 4; omega) | (simp only [List.length_append, List.length_cons, List.length_nil, List.length_set]; rfl), by first | rfl | (simp only [AV.map, GV.map, CV.map, AB.map', id]; done) | (congr 3; omega) | (congr 4; omega) | (simp only [List.length_append, List.length_cons, List.length_nil, List.length_set]; rfl), by first | rfl | (simp only [AV.map, GV.map, CV.map, AB.map', id]; done) | (congr 3; omega) | (congr 4; omega) | (simp only [List.length_append, List.length_cons, List.length_nil, List.length_set]; rfl), by first | rfl | (simp only [AV.map, GV.map, CV.map, AB.map', id]; done) | (congr 3; omega) | (congr 4; omega) | (simp only [List.length_append, List.length_cons, List.length_nil, List.length_set]; rfl),  trivial⟩) (trivial) rfl⟩
    ·
      have hc1' := hc1; try simp only [sumB, Bool.not_eq_true', Bool.not_eq_false', Bool.or_eq_true, Bool.or_eq_false_iff, Bool.and_eq_true, Bool.and_eq_false_imp, decide_eq_true_eq, decide_eq_false_iff_not, Bool.not_not, Bool.not_true, Bool.not_false] at hc1'
      refine AC.exit ?_
      refine then_exit ?_
      refine then_exit ?_
      refine block_hit ?_
      refine then_ok ?_
      refine AC.seq ?_
      refine AC.region ?_
      refine AL.fast 1 rfl ?_
      refine AL.nil ?_
      refine then_ok ?_
      refine AC.ret ?_
      have hX : idxF pr l = (-1) := by
        exact idx_none (by rw [← List.take_of_length_le (l := l) (i := q) (by omega)]; exact hi0_1)
      rw [hX] at hr; clear hX
      subst hr
      refine retQ_mk (av' := outOf [(.c (cI (-1)))]) (nb' := []) (retQ_ret ⟨[(4, (aI (-1)))], [], 0⟩ [.tmp 4] [(.c (cI (-1)))] (Weak.ren id (⟨by first | rfl | (simp only [AV.map, GV.map, CV.map, AB.map', id]; done) | (congr 3; omega) | (congr 4; omega) | (simp only [List.length_append, List.length_cons, List.length_nil, List.length_set]; rfl),  trivial⟩) (trivial) rfl) rfl ⟨.tmp rfl, trivial⟩ trivial) ?_ ?_
      · first | rfl | (simp [outOf, aC]; done) | (simp [outOf, aC]; omega)
      · first | rfl | (simp; done) | (simp; omega)
set_option maxRecDepth 100000 in
set_option maxHeartbeats 1000000 in
theorem c_Delete_Transfer (l : List Transfer) (fn : FuncId) (caps : List (List D)) (pr : Transfer → Bool) (hp : ∀ x : Transfer, Fn Try.prog fn ([.g [cI x.number, cI x.kind, cI x.auth, cI x.sum]] ++ caps.map fun r => GV.c (.q r 0)) (aB (pr x)) []) (hen : Enters Try.prog fn) (r : List Transfer) (hr : keepL pr l = r) : FnE Try.prog 109 [(.c (.s 0 0 4 l.length)), (.c (.d (.f fn caps)))] [(0, (.arr 60 4 ((l).map rTransfer)))] [] (.v (.c (.s 0 0 4 r.length))) [(0, (.arr 60 4 ((r).map rTransfer)))] := by
  refine FnE.mk 42 [(0, (aC (.s 0 0 4 l.length))), (1, (aC (.d (.f fn caps))))] 1 Try.func109 rfl rfl rfl rfl rfl rfl rfl rfl rfl ?_
  intro W0 F0 T0 pg
  refine AC.lenS 0 rfl (fun hlen0 => ?_)
  have hic := idx_cases pr l
  have hib : idxF pr l ≤ l.length ∧ -1 ≤ idxF pr l := by rcases hic with ⟨h, _⟩ | ⟨i, h, h1, _⟩ <;> omega
  refine AC.seq ?_
  refine AC.region ?_
  refine AL.fast 1 rfl ?_
  refine AL.nil ?_
  refine then_ok ?_
  refine AC.seq ?_
  refine AC.region ?_
  refine AL.fast 2 rfl ?_
  obtain ⟨r0, hr0⟩ : ∃ (r0 : Int), idxF pr l = r0 := ⟨_, rfl⟩
  refine AL.call (n' := 1) (h' := [(0, (.arr 60 4 ((l).map rTransfer)))]) (Wanted.plain rfl) (g_callE 1 [0] (c_Index_Transfer l fn caps pr hp hen  r0 hr0) en125 rfl rfl ⟨⟨_, rfl, .c (.s rfl (by decide) (by first | omega | (simp; done) | (simp; omega)))⟩, ⟨_, rfl, .c (.d _)⟩,  trivial⟩ rfl trivial rfl rfl rfl rfl) rfl rfl rfl rfl rfl ?_
  refine AL.fast 1 rfl ?_
  refine AL.nil ?_
  refine then_ok ?_
  refine AC.seq ?_
  refine AC.seq ?_
  refine AC.region ?_
  refine AL.fast 1 rfl ?_
  refine AL.val (Wanted.plain rfl) (g_binI rfl rfl rfl rfl) rfl rfl ?_
  refine AL.nil ?_
  refine then_ok ?_
  refine AC.cond rfl (fun hc1 => ?_) (fun hc1 => ?_)
  ·
    have hc1' := hc1; try simp only [sumB, Bool.not_eq_true', Bool.not_eq_false', Bool.or_eq_true, Bool.or_eq_false_iff, Bool.and_eq_true, Bool.and_eq_false_imp, decide_eq_true_eq, decide_eq_false_iff_not, Bool.not_not, Bool.not_true, Bool.not_false] at hc1'
    refine AC.seq ?_
    refine AC.region ?_
    refine AL.fast 2 rfl ?_
    refine AL.nil ?_
    refine then_ok ?_
    refine AC.ret ?_
    refine then_ret ?_
    have hX : keepL pr l = l := by
      rcases hic with ⟨_, h⟩ | ⟨i0, h, _⟩
      · exact h
      · exfalso; omega
    rw [hX] at hr; clear hX
    subst hr
    refine retQ_mk (av' := outOf [(.c (.s 0 0 4 l.length))]) (nb' := [(0, (.arr 60 4 ((l).map rTransfer)))]) (retQ_ret ⟨[(4, (aC (.s 0 0 4 l.length)))], [(0, (.arr 60 4 ((l).map rTransfer)))], 1⟩ [.tmp 4] [(.c (.s 0 0 4 l.length))] (Weak.ren (fun k => if k = 0 then 0 else k) (⟨by first | rfl | (simp only [AV.map, GV.map, CV.map, AB.map', id]; done) | (congr 3; omega) | (congr 4; omega) | (simp only [List.length_append, List.length_cons, List.length_nil, List.length_set]; rfl),  trivial⟩) (⟨by first | rfl | (simp only [AV.map, GV.map, CV.map, AB.map', id]; done) | (congr 3; omega) | (congr 4; omega) | (simp only [List.length_append, List.length_cons, List.length_nil, List.length_set]; rfl),  trivial⟩) rfl) rfl ⟨.tmp rfl, trivial⟩ ⟨by first | rfl | (simp only [AV.map, GV.map, CV.map, AB.map', id]; done) | (congr 3; omega) | (congr 4; omega) | (simp only [List.length_append, List.length_cons, List.length_nil, List.length_set]; rfl),  trivial⟩) ?_ ?_
    · first | rfl | (simp [outOf, aC]; done) | (simp [outOf, aC]; omega)
    · first | rfl | (simp; done) | (simp; omega)
  ·
    have hc1' := hc1; try simp only [sumB, Bool.not_eq_true', Bool.not_eq_false', Bool.or_eq_true, Bool.or_eq_false_iff, Bool.and_eq_true, Bool.and_eq_false_imp, decide_eq_true_eq, decide_eq_false_iff_not, Bool.not_not, Bool.not_true, Bool.not_false] at hc1'
    refine AC.skip ?_
    refine then_ok ?_
    refine AC.seq ?_
    refine AC.seq ?_
    refine AC.region ?_
    refine AL.fast 1 rfl ?_
    refine AL.val (Wanted.plain rfl) (g_binI rfl rfl rfl (wrap_ok (by first | omega | (simp; done) | (simp; omega)))) rfl rfl ?_
    refine AL.fast 1 rfl ?_
    refine AL.nil ?_
    refine then_ok ?_
    refine AC.block ?_
    obtain ⟨i0, hi0, hil, x0, hx0, hp0, hk0⟩ : ∃ i : Nat, idxF pr l = i ∧ i < l.length ∧ ∃ x, l[i]? = some x ∧ pr x = true ∧ keepL pr (l.take i) = l.take i := by
      rcases hic with ⟨h, _⟩ | h
      · exfalso; omega
      · exact h
    obtain rfl : r0 = (i0 : Int) := by omega
    refine AC.loop (β := Nat × Nat × List Transfer) (fun (p : Nat × Nat × List Transfer) => match p with | (j, i, c) => ⟨[(0, (aC (.s 0 0 4 l.length))), (1, (aC (.d (.f fn caps)))), (4, (aC cN)), (5, (aI (↑i : Int))), (6, (aI (↑j : Int)))], [(0, (.arr 60 4 ((c).map rTransfer)))], 1⟩) (fun (p : Nat × Nat × List Transfer) => match p with | (j, i, c) => Del pr l c i j) (fun (p : Nat × Nat × List Transfer) => match p with | (j, i, c) => l.length - j) (i0 + 1, i0, l) ?_ ?_ ?_
    · exact Del.start hx0 hp0 hk0
    · exact Weak.ren id (⟨by first | rfl | (simp only [AV.map, GV.map, CV.map, AB.map', id]; done) | (congr 3; omega) | (congr 4; omega) | (simp only [List.length_append, List.length_cons, List.length_nil, List.length_set]; rfl), by first | rfl | (simp only [AV.map, GV.map, CV.map, AB.map', id]; done) | (congr 3; omega) | (congr 4; omega) | (simp only [List.length_append, List.length_cons, List.length_nil, List.length_set]; rfl), by first | rfl | (simp only [AV.map, GV.map, CV.map, AB.map', id]; done) | (congr 3; omega) | (congr 4; omega) | (simp only [List.length_append, List.length_cons, List.length_nil, List.length_set]; rfl), by first | rfl | (simp only [AV.map, GV.map, CV.map, AB.map', id]; done) | (congr 3; omega) | (congr 4; omega) | (simp only [List.length_append, List.length_cons, List.length_nil, List.length_set]; rfl), by first | rfl | (simp only [AV.map, GV.map, CV.map, AB.map', id]; done) | (congr 3; omega) | (congr 4; omega) | (simp only [List.length_append, List.length_cons, List.length_nil, List.length_set]; rfl),  trivial⟩) (⟨by first | rfl | (simp only [AV.map, GV.map, CV.map, AB.map', id]; done) | (congr 3; omega) | (congr 4; omega) | (simp only [List.length_append, List.length_cons, List.length_nil, List.length_set]; rfl),  trivial⟩) rfl
    ·
      rintro ⟨j, i, c⟩ hd
      have hdl := hd.len; have hdi := hd.ij; have hdj := hd.jl
      refine AC.seq ?_
      refine AC.seq ?_
      refine AC.region ?_
      refine AL.fast 2 rfl ?_
      refine AL.val (Wanted.plain rfl) (g_lenS rfl rfl rfl rfl rfl Try.underlying56) rfl rfl ?_
      refine AL.val (Wanted.plain rfl) (g_binI rfl rfl rfl rfl) rfl rfl ?_
      refine AL.nil ?_
      refine then_ok ?_
      refine AC.cond rfl (fun hc2 => ?_) (fun hc2 => ?_)
      ·
        have hc2' := hc2; try simp only [sumB, Bool.not_eq_true', Bool.not_eq_false', Bool.or_eq_true, Bool.or_eq_false_iff, Bool.and_eq_true, Bool.and_eq_false_imp, decide_eq_true_eq, decide_eq_false_iff_not, Bool.not_not, Bool.not_true, Bool.not_false] at hc2'
        refine AC.skip ?_
        refine then_ok ?_
        refine AC.seq ?_
        refine AC.block ?_
        refine AC.seq ?_
        refine AC.region ?_
        refine AL.fast 2 rfl ?_
        refine AL.val (Wanted.plain rfl) (g_indexP0 (i := j) rfl rfl rfl Try.underlying56 sz60 (by first | omega | (simp; done) | (simp; omega)) (by first | omega | (simp; done) | (simp; omega))) rfl rfl ?_
        obtain ⟨x1, hx1⟩ := exget (xs := c) (i := j) (by first | omega | (simp; done) | (simp; omega))
        refine AL.val (Wanted.plain rfl) (g_loadAs rfl rfl rfl Try.underlying60 rfl sz60 (getmap hx1) rfl) rfl rfl ?_
        refine AL.new (n' := 2) (Wanted.plain rfl) (g_alloc 1 rfl zv60 rfl rfl rfl) rfl rfl rfl ?_
        refine AL.sto (h' := [(1, (.box 60 [(cI x1.number), (cI x1.kind), (cI x1.auth), (cI x1.sum)])), (0, (.arr 60 4 ((c).map rTransfer)))]) (Wanted.plain rfl) (g_storeB rfl rfl rfl rfl rfl sz60 rfl (Nat.le_of_ble_eq_true rfl) rfl) rfl rfl rfl rfl ?_
        refine AL.nil ?_
        refine then_ok ?_
        refine AC.seq ?_
        refine AC.region ?_
        refine AL.fast 1 rfl ?_
        refine AL.val (Wanted.plain rfl) (g_loadBs rfl rfl rfl Try.underlying60 rfl sz60 rfl rfl) rfl rfl ?_
        refine AL.val (Wanted.plain rfl) (g_callF 2 (hp x1) hen rfl rfl rfl ⟨⟨_, rfl, .g ⟨.d _, .d _, .d _, .d _,  trivial⟩⟩, trivial⟩ trivial trivial rfl rfl rfl rfl) rfl rfl ?_
        refine AL.val (Wanted.plain rfl) (g_notB rfl rfl) rfl rfl ?_
        refine AL.nil ?_
        refine then_ok ?_
        refine AC.cond rfl (fun hc3 => ?_) (fun hc3 => ?_)
        ·
          have hc3' := hc3; try simp only [sumB, Bool.not_eq_true', Bool.not_eq_false', Bool.or_eq_true, Bool.or_eq_false_iff, Bool.and_eq_true, Bool.and_eq_false_imp, decide_eq_true_eq, decide_eq_false_iff_not, Bool.not_not, Bool.not_true, Bool.not_false] at hc3'
          refine AC.seq ?_
          refine AC.region ?_
          refine AL.fast 2 rfl ?_
          refine AL.val (Wanted.plain rfl) (g_loadBs rfl rfl rfl Try.underlying60 rfl sz60 rfl rfl) rfl rfl ?_
          refine AL.val (Wanted.plain rfl) (g_indexP0 (i := i) rfl rfl rfl Try.underlying56 sz60 (by first | omega | (simp; done) | (simp; omega)) (by first | omega | (simp; done) | (simp; omega))) rfl rfl ?_
          obtain ⟨x2, hx2⟩ := exget (xs := c) (i := i) (by first | omega | (simp; done) | (simp; omega))
          refine AL.sto (h' := [(1, (.box 60 [(cI x1.number), (cI x1.kind), (cI x1.auth), (cI x1.sum)])), (0, (.arr 60 4 (((c).set i x1).map rTransfer)))]) (Wanted.plain rfl) (g_storeA (ds := [(dI x1.number), (dI x1.kind), (dI x1.auth), (dI x1.sum)]) rfl rfl rfl rfl rfl sz60 rfl (Nat.le_of_ble_eq_true rfl) (getmap hx2) rfl (setmap (x' := x1) rfl)) rfl rfl rfl rfl ?_
          refine AL.nil ?_
          refine then_ok ?_
          refine AC.region ?_
          refine AL.fast 1 rfl ?_
          refine AL.val (Wanted.plain rfl) (g_binI rfl rfl rfl (wrap_ok (by first | omega | (simp; done) | (simp; omega)))) rfl rfl ?_
          refine AL.fast 1 rfl ?_
          refine AL.nil ?_
          refine block_ok ?_
          refine then_ok ?_
          refine AC.region ?_
          refine AL.fast 1 rfl ?_
          refine AL.val (Wanted.plain rfl) (g_binI rfl rfl rfl (wrap_ok (by first | omega | (simp; done) | (simp; omega)))) rfl rfl ?_
          refine AL.fast 1 rfl ?_
          refine AL.nil ?_
          refine then_ok ?_
          refine ⟨(j + 1, (i) + 1, (c).set i x1), hd.keep hx1 (by simpa using hc3), by first | omega | (simp; done) | (simp; omega), Weak.ren id (⟨by first | rfl | (simp only [AV.map, GV.map, CV.map, AB.map', id]; done) | (congr 3; omega) | (congr 4; omega) | (simp only [List.length_append, List.length_cons, List.length_nil, List.length_set]; rfl), by first | rfl | (simp only [AV.map, GV.map, CV.map, AB.map', id]; done) | (congr 3; omega) | (congr 4; omega) | (simp only [List.length_append, List.length_cons, List.length_nil, List.length_set]; rfl), by first | rfl | (simp only [AV.map, GV.map, CV.map, AB.map', id]; done) | (congr 3; omega) | (congr 4; omega) | (simp only [List.length_append, List.length_cons, List.length_nil, List.length_set]; rfl), by first | rfl | (simp only [AV.map, GV.map, CV.map, AB.map', id]; done) | (congr 3; omega) | (congr 4; omega) | (simp only [List.length_append, List.length_cons, List.length_nil, List.length_set]; rfl), by first | rfl | (simp only [AV.map, GV.map, CV.map, AB.map', id]; done) | (congr 3; omega) | (congr 4; omega) | (simp only [List.length_append, List.length_cons, List.length_nil, List.length_set]; rfl),  trivial⟩) (⟨by first | rfl | (simp only [AV.map, GV.map, CV.map, AB.map', id]; done) | (congr 3; omega) | (congr 4; omega) | (simp only [List.length_append, List.length_cons, List.length_nil, List.length_set]; rfl),  trivial⟩) rfl⟩
        ·
          have hc3' := hc3; try simp only [sumB, Bool.not_eq_true', Bool.not_eq_false', Bool.or_eq_true, Bool.or_eq_false_iff, Bool.and_eq_true, Bool.and_eq_false_imp, decide_eq_true_eq, decide_eq_false_iff_not, Bool.not_not, Bool.not_true, Bool.not_false] at hc3'
          refine AC.skip ?_
          refine block_ok ?_
          refine then_ok ?_
          refine AC.region ?_
          refine AL.fast 1 rfl ?_
          refine AL.val (Wanted.plain rfl) (g_binI rfl rfl rfl (wrap_ok (by first | omega | (simp; done) | (simp; omega)))) rfl rfl ?_
          refine AL.fast 1 rfl ?_
          refine AL.nil ?_
          refine then_ok ?_
          refine ⟨(j + 1, i, c), hd.skip hx1 (by simpa using hc3), by first | omega | (simp; done) | (simp; omega), Weak.ren id (⟨by first | rfl | (simp only [AV.map, GV.map, CV.map, AB.map', id]; done) | (congr 3; omega) | (congr 4; omega) | (simp only [List.length_append, List.length_cons, List.length_nil, List.length_set]; rfl), by first | rfl | (simp only [AV.map, GV.map, CV.map, AB.map', id]; done) | (congr 3; omega) | (congr 4; omega) | (simp only [List.length_append, List.length_cons, List.length_nil, List.length_set]; rfl), by first | rfl | (simp only [AV.map, GV.map, CV.map, AB.map', id]; done) | (congr 3; omega) | (congr 4; omega) | (simp only [List.length_append, List.length_cons, List.length_nil, List.length_set]; rfl), by first | rfl | (simp only [AV.map, GV.map, CV.map, AB.map', id]; done) | (congr 3; omega) | (congr 4; omega) | (simp only [List.length_append, List.length_cons, List.length_nil, List.length_set]; rfl), by first | rfl | (simp only [AV.map, GV.map, CV.map, AB.map', id]; done) | (congr 3; omega) | (congr 4; omega) | (simp only [List.length_append, List.length_cons, List.length_nil, List.length_set]; rfl),  trivial⟩) (⟨by first | rfl | (simp only [AV.map, GV.map, CV.map, AB.map', id]; done) | (congr 3; omega) | (congr 4; omega) | (simp only [List.length_append, List.length_cons, List.length_nil, List.length_set]; rfl),  trivial⟩) rfl⟩
      ·
        have hc2' := hc2; try simp only [sumB, Bool.not_eq_true', Bool.not_eq_false', Bool.or_eq_true, Bool.or_eq_false_iff, Bool.and_eq_true, Bool.and_eq_false_imp, decide_eq_true_eq, decide_eq_false_iff_not, Bool.not_not, Bool.not_true, Bool.not_false] at hc2'
        refine AC.exit ?_
        refine then_exit ?_
        refine then_exit ?_
        refine block_hit ?_
        refine then_ok ?_
        refine AC.seq ?_
        refine AC.region ?_
        refine AL.fast 2 rfl ?_
        refine AL.val (Wanted.plain rfl) (g_sliceP (l := i) (h := l.length) rfl Try.underlying56 sz60 rfl (.inr ⟨_, rfl, rfl⟩) (.inl ⟨rfl, rfl⟩) (by first | omega | (simp; done) | (simp; omega)) (by first | omega | (simp; done) | (simp; omega)) (by first | omega | (simp; done) | (simp; omega)) rfl) rfl rfl ?_
        refine AL.sto (h' := [(0, (.arr 60 4 ((c.take i).map rTransfer)))]) (Wanted.plain rfl) (g_clear (rows' := (c.take i).map rTransfer) sl56 zv60 rfl rfl rfl rfl rfl rfl rfl rfl rfl (by simp [List.map_take])) rfl rfl rfl rfl ?_
        refine AL.nil ?_
        refine then_ok ?_
        refine AC.seq ?_
        refine AC.region ?_
        refine AL.fast 2 rfl ?_
        refine AL.val (Wanted.plain rfl) (g_sliceP (l := 0) (h := i) rfl Try.underlying56 sz60 rfl (.inl ⟨rfl, rfl⟩) (.inr ⟨_, rfl, rfl⟩) (by first | omega | (simp; done) | (simp; omega)) (by first | omega | (simp; done) | (simp; omega)) (by first | omega | (simp; done) | (simp; omega)) rfl) rfl rfl ?_
        refine AL.fast 1 rfl ?_
        refine AL.nil ?_
        refine then_ok ?_
        refine AC.ret ?_
        have hX : keepL pr l = (c.take i) := by
          have hdone := hd.done (by omega)
          rw [← hdone]
        rw [hX] at hr; clear hX
        subst hr
        refine retQ_mk (av' := outOf [(.c (.s 0 0 4 i))]) (nb' := [(0, (.arr 60 4 ((c.take i).map rTransfer)))]) (retQ_ret ⟨[(4, (aC (.s 0 0 4 i)))], [(0, (.arr 60 4 ((c.take i).map rTransfer)))], 1⟩ [.tmp 4] [(.c (.s 0 0 4 i))] (Weak.ren (fun k => if k = 0 then 0 else k) (⟨by first | rfl | (simp only [AV.map, GV.map, CV.map, AB.map', id]; done) | (congr 3; omega) | (congr 4; omega) | (simp only [List.length_append, List.length_cons, List.length_nil, List.length_set]; rfl),  trivial⟩) (⟨by first | rfl | (simp only [AV.map, GV.map, CV.map, AB.map', id]; done) | (congr 3; omega) | (congr 4; omega) | (simp only [List.length_append, List.length_cons, List.length_nil, List.length_set]; rfl),  trivial⟩) rfl) rfl ⟨.tmp rfl, trivial⟩ ⟨by first | rfl | (simp only [AV.map, GV.map, CV.map, AB.map', id]; done) | (congr 3; omega) | (congr 4; omega) | (simp only [List.length_append, List.length_cons, List.length_nil, List.length_set]; rfl),  trivial⟩) ?_ ?_
        · first | rfl | (simp [outOf, aC]; done) | (simp [outOf, aC]; omega)
        · first | rfl | (simp; done) | (simp; omega)
end Go.Proofs.Ytgmcdlfmifijlaa.Dev
