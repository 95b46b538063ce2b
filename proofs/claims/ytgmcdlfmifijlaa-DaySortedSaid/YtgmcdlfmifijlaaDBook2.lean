/- slices.Delete. -/
import Derived.Test.YtgmcdlfmifijlaaDBook1
set_option linter.unusedVariables false
set_option linter.unusedSimpArgs false
namespace Go.Proofs.Ytgmcdlfmifijlaa.Dev
open Go.RowKit


def delL {α : Type} (l : List α) (i j : Nat) : List α := l.take i ++ l.drop j
theorem delL_made {α : Type} {l : List α} {i j n m : Nat} (hi : i ≤ j) (hj : j ≤ l.length) (hn : n = l.length - j) (hm : m = i + n) : ((l.take i ++ (l.drop j).take n ++ l.drop m).take m) = delL l i j := by
  subst hn hm
  have h1 : (l.take i).length = i := by rw [List.length_take]; omega
  rw [List.take_of_length_le (l := l.drop j) (by rw [List.length_drop]; omega), List.take_append_of_le_length (by rw [List.length_append, h1, List.length_drop]; omega), List.take_of_length_le (by rw [List.length_append, h1, List.length_drop]; omega)]
  rfl

set_option maxRecDepth 100000 in
set_option maxHeartbeats 1000000 in
theorem c_Delete_Entry (l : List Entry) (i j : Nat) (hi : i < j) (hj : j ≤ l.length) (r : List Entry) (hr : delL l i j = r) : FnE Try.prog 130 [(.c (.s 0 0 2 l.length)), (.c (cI (↑i : Int))), (.c (cI (↑j : Int)))] [(0, (.arr 111 2 ((l).map rEntry)))] [] (.v (.c (.s 0 0 2 r.length))) [(0, (.arr 111 2 ((r).map rEntry)))] := by
  refine FnE.mk 33 [(0, (aC (.s 0 0 2 l.length))), (1, (aI (↑i : Int))), (2, (aI (↑j : Int)))] 1 Try.func130 rfl rfl rfl rfl rfl rfl rfl rfl rfl ?_
  intro W0 F0 T0 pg
  refine AC.lenS 0 rfl (fun hlen0 => ?_)
  refine AC.seq ?_
  refine AC.region ?_
  refine AL.fast 1 rfl ?_
  refine AL.nil ?_
  refine then_ok ?_
  refine AC.seq ?_
  refine AC.region ?_
  refine AL.fast 4 rfl ?_
  refine AL.val (Wanted.plain rfl) (g_lenS rfl rfl rfl rfl rfl Try.underlying102) rfl rfl ?_
  refine AL.val (Wanted.plain rfl) (g_sliceA (l := i) (h := j) rfl Try.underlying102 sz111 rfl (.inr ⟨_, rfl, rfl⟩) (.inr ⟨_, rfl, rfl⟩) (.inr ⟨_, l.length, rfl, rfl, by first | omega | (simp; done) | (simp; omega), by first | omega | (simp; done) | (simp; omega)⟩) (by first | omega | (simp; done) | (simp; omega)) (by first | omega | (simp; done) | (simp; omega))) rfl rfl ?_
  refine AL.nil ?_
  refine then_ok ?_
  refine AC.seq ?_
  refine AC.seq ?_
  refine AC.region ?_
  refine AL.fast 2 rfl ?_
  refine AL.val (Wanted.plain rfl) (g_binI rfl rfl rfl rfl) rfl rfl ?_
  refine AL.nil ?_
  refine then_ok ?_
  refine AC.cond rfl (fun hc1 => ?_) (fun hc1 => ?_)
  ·
    have hc1' := hc1; try simp only [sumB, Bool.not_eq_true', Bool.not_eq_false', Bool.or_eq_true, Bool.or_eq_false_iff, Bool.and_eq_true, Bool.and_eq_false_imp, decide_eq_true_eq, decide_eq_false_iff_not, Bool.not_not, Bool.not_true, Bool.not_false] at hc1'
    refine AC.seq ?_
    refine AC.region ?_
    refine AL.fast 2 rfl ?_
    refine AL.nil ?_
    refine then_ok ?_
    refine AC.ret ?_
    refine then_ret ?_
    have hX : delL l i j = l := by
      exfalso; omega
    rw [hX] at hr; clear hX
    subst hr
    refine retQ_mk (av' := outOf [(.c (.s 0 0 2 l.length))]) (nb' := [(0, (.arr 111 2 ((l).map rEntry)))]) (retQ_ret ⟨[(6, (aC (.s 0 0 2 l.length)))], [(0, (.arr 111 2 ((l).map rEntry)))], 1⟩ [.tmp 6] [(.c (.s 0 0 2 l.length))] (Weak.ren (fun k => if k = 0 then 0 else k) (⟨by first | rfl | (simp only [AV.map, GV.map, CV.map, AB.map', id]; done) | (congr 3; omega) | (congr 4; omega) | (simp only [List.length_append, List.length_cons, List.length_nil, List.length_set]; rfl),  trivial⟩) (⟨by first | rfl | (simp only [AV.map, GV.map, CV.map, AB.map', id]; done) | (congr 3; omega) | (congr 4; omega) | (simp only [List.length_append, List.length_cons, List.length_nil, List.length_set]; rfl),  trivial⟩) rfl) rfl ⟨.tmp rfl, trivial⟩ ⟨by first | rfl | (simp only [AV.map, GV.map, CV.map, AB.map', id]; done) | (congr 3; omega) | (congr 4; omega) | (simp only [List.length_append, List.length_cons, List.length_nil, List.length_set]; rfl),  trivial⟩) ?_ ?_
    · first | rfl | (simp [outOf, aC]; done) | (simp [outOf, aC]; omega)
    · first | rfl | (simp; done) | (simp; omega)
  ·
    have hc1' := hc1; try simp only [sumB, Bool.not_eq_true', Bool.not_eq_false', Bool.or_eq_true, Bool.or_eq_false_iff, Bool.and_eq_true, Bool.and_eq_false_imp, decide_eq_true_eq, decide_eq_false_iff_not, Bool.not_not, Bool.not_true, Bool.not_false] at hc1'
    refine AC.skip ?_
    refine then_ok ?_
    refine AC.seq ?_
    refine AC.region ?_
    refine AL.fast 1 rfl ?_
    refine AL.val (Wanted.plain rfl) (g_lenS rfl rfl rfl rfl rfl Try.underlying102) rfl rfl ?_
    refine AL.fast 1 rfl ?_
    refine AL.nil ?_
    refine then_ok ?_
    refine AC.capS 0 rfl (by first | omega | (simp; done) | (simp; omega)) (fun cap1 hcap1 hmcap1 => ?_)
    refine AC.seq ?_
    refine AC.weak (st' := ⟨[(0, (aC (.sx 0 0 2 l.length cap1 true))), (1, (aI (↑i : Int))), (2, (aI (↑j : Int))), (7, (aI (↑l.length : Int)))], [(0, (.arr 111 2 ((l).map rEntry)))], 1⟩) (Weak.ren id (⟨by first | rfl | (simp only [AV.map, GV.map, CV.map, AB.map', id]; done) | (congr 3; omega) | (congr 4; omega) | (simp only [List.length_append, List.length_cons, List.length_nil, List.length_set]; rfl), by first | rfl | (simp only [AV.map, GV.map, CV.map, AB.map', id]; done) | (congr 3; omega) | (congr 4; omega) | (simp only [List.length_append, List.length_cons, List.length_nil, List.length_set]; rfl), by first | rfl | (simp only [AV.map, GV.map, CV.map, AB.map', id]; done) | (congr 3; omega) | (congr 4; omega) | (simp only [List.length_append, List.length_cons, List.length_nil, List.length_set]; rfl), by first | rfl | (simp only [AV.map, GV.map, CV.map, AB.map', id]; done) | (congr 3; omega) | (congr 4; omega) | (simp only [List.length_append, List.length_cons, List.length_nil, List.length_set]; rfl),  trivial⟩) (⟨by first | rfl | (simp only [AV.map, GV.map, CV.map, AB.map', id]; done) | (congr 3; omega) | (congr 4; omega) | (simp only [List.length_append, List.length_cons, List.length_nil, List.length_set]; rfl),  trivial⟩) rfl) ?_
    refine AC.drawW [⟨some 20, (aC (.sx 0 0 2 l.length cap1 true)), [], [], [], [(0, (aC (.sx 0 0 2 l.length cap1 true)))], []⟩,
      ⟨some 21, (aI (↑i : Int)), [], [], [], [(1, (aI (↑i : Int)))], []⟩,
      ⟨some 22, (aC (.sx 0 0 2 i cap1 true)), [], [], [1, 0], [(20, (aC (.sx 0 0 2 l.length cap1 true))), (21, (aI (↑i : Int)))], [(0, (.arr 111 2 ((l).map rEntry)))]⟩,
      ⟨some 23, (aC (.sx 0 0 2 l.length cap1 true)), [], [], [], [(0, (aC (.sx 0 0 2 l.length cap1 true)))], []⟩,
      ⟨some 24, (aI (↑j : Int)), [], [], [], [(2, (aI (↑j : Int)))], []⟩,
      ⟨some 25, (aC (.sx 0 j 2 (l.length - j) (cap1 - j) true)), [], [], [4, 3], [(23, (aC (.sx 0 0 2 l.length cap1 true))), (24, (aI (↑j : Int)))], [(0, (.arr 111 2 ((l).map rEntry)))]⟩,
      ⟨some 26, (aC (.sx 0 0 2 (i + (l.length - j)) cap1 true)), [(0, (.arr 111 2 (((l).take i ++ (((l).drop j).take (l.length - j)) ++ (l).drop (i + (l.length - j))).map rEntry)))], [0], [5, 2], [(22, (aC (.sx 0 0 2 i cap1 true))), (25, (aC (.sx 0 j 2 (l.length - j) (cap1 - j) true)))], [(0, (.arr 111 2 ((l).map rEntry)))]⟩,
      ⟨some 0, (aC (.sx 0 0 2 (i + (l.length - j)) cap1 true)), [], [], [6], [(26, (aC (.sx 0 0 2 (i + (l.length - j)) cap1 true)))], []⟩] ⟨[(0, (aC (.sx 0 0 2 (i + (l.length - j)) cap1 true))), (7, (aI (↑l.length : Int)))], [(0, (.arr 111 2 (((l).take i ++ (((l).drop j).take (l.length - j)) ++ (l).drop (i + (l.length - j))).map rEntry)))], 1⟩ [7, 6, 5, 4, 3, 2, 1, 0] mixed (by kernel_rfl) ?_ ?_ ?_ ?_
    · exact ⟨.inl ⟨(Wanted.plain rfl), GOp.cast (g_move rfl rfl) rfl⟩,
      .inl ⟨(Wanted.plain rfl), GOp.cast (g_move rfl rfl) rfl⟩,
      .inl ⟨(Wanted.plain rfl), GOp.cast (g_sliceX (l := 0) (h := i) (m := cap1) (n' := i) (c' := cap1) (E' := true) rfl Try.underlying102 sz111 rfl (.inl ⟨rfl, rfl⟩) (.inr ⟨_, rfl, rfl⟩) (.inl ⟨rfl, rfl⟩) (by first | omega | (simp; done) | (simp; omega)) (by first | omega | (simp; done) | (simp; omega)) (by first | omega | (simp; done) | (simp; omega)) (by first | omega | (simp; done) | (simp; omega)) (by first | omega | (simp; done) | (simp; omega)) (by simp)) rfl⟩,
      .inl ⟨(Wanted.plain rfl), GOp.cast (g_move rfl rfl) rfl⟩,
      .inl ⟨(Wanted.plain rfl), GOp.cast (g_move rfl rfl) rfl⟩,
      .inl ⟨(Wanted.plain rfl), GOp.cast (GOp.cast (g_sliceX (l := j) (h := l.length) (m := cap1) (n' := l.length - j) (c' := cap1 - j) (E' := true) rfl Try.underlying102 sz111 rfl (.inr ⟨_, rfl, rfl⟩) (.inl ⟨rfl, rfl, rfl⟩) (.inl ⟨rfl, rfl⟩) (by first | omega | (simp; done) | (simp; omega)) (by first | omega | (simp; done) | (simp; omega)) (by first | omega | (simp; done) | (simp; omega)) (by first | omega | (simp; done) | (simp; omega)) (by first | omega | (simp; done) | (simp; omega)) (by simp)) (show _ = (aC (.sx 0 j 2 (l.length - j) (cap1 - j) true)) by first | rfl | (simp only [Nat.zero_add, Nat.add_zero]; rfl))) rfl⟩,
      .inl ⟨(Wanted.plain rfl), GOp.cast (g_appIn (m := l.length - j) (N := i + (l.length - j)) (ys := (((l).drop j).take (l.length - j)).map rEntry) (rows' := ((l).take i ++ (((l).drop j).take (l.length - j)) ++ (l).drop (i + (l.length - j))).map rEntry) sl102 rfl rfl rfl rfl rfl rfl rfl (.x rfl (by first | omega | (simp; done) | (simp; omega)) (by first | omega | (simp; done) | (simp; omega)) (by simp [List.map_take, List.map_drop])) (by first | exact .inr ⟨_, _, _, _, rfl⟩ | (left; omega)) (by first | omega | (simp; done) | (simp; omega)) (by first | omega | (simp; done) | (simp; omega)) (by first | omega | (simp; done) | (simp; omega)) (by first | omega | (simp; done) | (simp; omega)) (by simp [List.map_take, List.map_drop])) rfl⟩,
      .inl ⟨(Wanted.plain rfl), GOp.cast (g_assign rfl rfl) rfl⟩,
       trivial⟩
    · exact ⟨⟨⟨rfl,  trivial⟩, trivial⟩, ⟨⟨rfl,  trivial⟩, trivial⟩, ⟨⟨⟨_, rfl, rfl, rfl⟩, ⟨_, rfl, rfl, rfl⟩,  trivial⟩, ⟨rfl,  trivial⟩⟩, ⟨⟨rfl,  trivial⟩, trivial⟩, ⟨⟨rfl,  trivial⟩, trivial⟩, ⟨⟨⟨_, rfl, rfl, rfl⟩, ⟨_, rfl, rfl, rfl⟩,  trivial⟩, ⟨rfl,  trivial⟩⟩, ⟨⟨⟨_, rfl, rfl, rfl⟩, ⟨_, rfl, rfl, rfl⟩,  trivial⟩, ⟨rfl,  trivial⟩⟩, ⟨⟨⟨_, rfl, rfl, rfl⟩,  trivial⟩, trivial⟩,  trivial⟩
    · exact ⟨⟨⟨_, rfl, rfl, rfl⟩, rfl,  trivial⟩, ⟨⟨_, rfl, .head _⟩,  trivial⟩⟩
    ·
      refine then_ok ?_
      refine AC.seq ?_
      refine AC.region ?_
      refine AL.fast 2 rfl ?_
      refine AL.val (Wanted.plain rfl) (g_lenX Try.underlying102 rfl rfl rfl rfl rfl) rfl rfl ?_
      refine AL.fast 1 rfl ?_
      refine AL.val (Wanted.plain rfl) (GOp.cast (g_sliceX (l := i + (l.length - j)) (h := l.length) (m := cap1) (n' := l.length - (i + (l.length - j))) (c' := cap1 - (i + (l.length - j))) (E' := true) rfl Try.underlying102 sz111 rfl (.inr ⟨_, rfl, (evI rfl (by first | omega | (simp; done) | (simp; omega)))⟩) (.inr ⟨_, rfl, rfl⟩) (.inl ⟨rfl, rfl⟩) (by first | omega | (simp; done) | (simp; omega)) (by first | omega | (simp; done) | (simp; omega)) (by first | omega | (simp; done) | (simp; omega)) (by first | omega | (simp; done) | (simp; omega)) (by first | omega | (simp; done) | (simp; omega)) (by simp)) (show _ = (aC (.sx 0 (i + (l.length - j)) 2 (l.length - (i + (l.length - j))) (cap1 - (i + (l.length - j))) true)) by first | rfl | (simp only [Nat.zero_add, Nat.add_zero]; rfl))) rfl rfl ?_
      refine AL.weak (Weak.x2s 31 rfl (by first | omega | (simp; done) | (simp; omega))) ?_
      refine AL.sto (h' := [(0, (.arr 111 2 ((((l).take i ++ (((l).drop j).take (l.length - j)) ++ (l).drop (i + (l.length - j))).take (i + (l.length - j))).map rEntry)))]) (Wanted.plain rfl) (g_clear (rows' := (((l).take i ++ (((l).drop j).take (l.length - j)) ++ (l).drop (i + (l.length - j))).take (i + (l.length - j))).map rEntry) sl102 zv111 rfl rfl rfl rfl rfl rfl rfl rfl rfl (by simp [List.map_take])) rfl rfl rfl rfl ?_
      refine AL.nil ?_
      refine then_ok ?_
      refine AC.seq ?_
      refine AC.region ?_
      refine AL.fast 2 rfl ?_
      refine AL.nil ?_
      refine then_ok ?_
      refine AC.ret ?_
      refine retQ_weak (Weak.x2s 6 rfl (by first | omega | (simp; done) | (simp; omega))) ?_
      have hX : delL l i j = (((l).take i ++ (((l).drop j).take (l.length - j)) ++ (l).drop (i + (l.length - j))).take (i + (l.length - j))) := by
        exact (delL_made (by omega) hj rfl rfl).symm
      rw [hX] at hr; clear hX
      subst hr
      refine retQ_mk (av' := outOf [(.c (.s 0 0 2 (i + (l.length - j))))]) (nb' := [(0, (.arr 111 2 ((((l).take i ++ (((l).drop j).take (l.length - j)) ++ (l).drop (i + (l.length - j))).take (i + (l.length - j))).map rEntry)))]) (retQ_ret ⟨[(6, (aC (.s 0 0 2 (i + (l.length - j)))))], [(0, (.arr 111 2 ((((l).take i ++ (((l).drop j).take (l.length - j)) ++ (l).drop (i + (l.length - j))).take (i + (l.length - j))).map rEntry)))], 1⟩ [.tmp 6] [(.c (.s 0 0 2 (i + (l.length - j))))] (Weak.ren (fun k => if k = 0 then 0 else k) (⟨by first | rfl | (simp only [AV.map, GV.map, CV.map, AB.map', id]; done) | (congr 3; omega) | (congr 4; omega) | (simp only [List.length_append, List.length_cons, List.length_nil, List.length_set]; rfl),  trivial⟩) (⟨by first | rfl | (simp only [AV.map, GV.map, CV.map, AB.map', id]; done) | (congr 3; omega) | (congr 4; omega) | (simp only [List.length_append, List.length_cons, List.length_nil, List.length_set]; rfl),  trivial⟩) rfl) rfl ⟨.tmp rfl, trivial⟩ ⟨by first | rfl | (simp only [AV.map, GV.map, CV.map, AB.map', id]; done) | (congr 3; omega) | (congr 4; omega) | (simp only [List.length_append, List.length_cons, List.length_nil, List.length_set]; rfl),  trivial⟩) ?_ ?_
      · first | rfl | (simp [outOf, aC]; done) | (simp [outOf, aC]; omega)
      · first | rfl | (simp; done) | (simp; omega)
end Go.Proofs.Ytgmcdlfmifijlaa.Dev
