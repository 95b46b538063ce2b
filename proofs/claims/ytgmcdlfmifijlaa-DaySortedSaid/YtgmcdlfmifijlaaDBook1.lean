/- slices.Insert. -/
import Derived.Test.YtgmcdlfmifijlaaDTy
import Derived.Test.YtgmcdlfmifijlaaDSh18
set_option linter.unusedVariables false
set_option linter.unusedSimpArgs false
namespace Go.Proofs.Ytgmcdlfmifijlaa.Dev
open Go.RowKit


def insL {α : Type} (l : List α) (i : Nat) (x : α) : List α := l.take i ++ [x] ++ l.drop i
theorem insL_len {α : Type} {l : List α} {i : Nat} {x : α} (h : i ≤ l.length) : (insL l i x).length = l.length + 1 := by
  simp [insL]; omega
theorem insL_end {α : Type} {l : List α} {x : α} : insL l l.length x = l ++ [x] := by simp [insL]
/-- the two copies of an insertion where there is room -/
theorem insL_room {α : Type} {l : List α} {i n : Nat} {x : α} (hi : i < l.length) (hn : n = l.length - i) : ((l.take (i + 1) ++ (l.drop i).take n).take i ++ [x] ++ (l.take (i + 1) ++ (l.drop i).take n).drop (i + 1)) = insL l i x := by
  subst hn
  have h1 : (l.take (i + 1)).length = i + 1 := by rw [List.length_take]; omega
  rw [List.take_append_of_le_length (by omega), List.take_take, Nat.min_eq_left (by omega), List.drop_append, List.drop_of_length_le (by omega), h1, Nat.sub_self, List.drop_zero, List.nil_append, List.take_of_length_le (l := l.drop i) (by rw [List.length_drop]; omega)]
  rfl
/-- those where there isn't -/
theorem insL_grow {α : Type} {l : List α} {i m n : Nat} {x z : α} (hi : i < l.length) (hm : m = l.length + 1 - i) (hn : n = l.length - i) :
    (((l.take i ++ List.replicate m z).take i ++ [x] ++ (l.take i ++ List.replicate m z).drop (i + 1)).take (i + 1) ++ (l.drop i).take n) = insL l i x := by
  subst hm hn
  have h1 : (l.take i).length = i := by rw [List.length_take]; omega
  rw [List.take_append_of_le_length (l₁ := l.take i) (by omega), List.take_take, Nat.min_self, List.take_append_of_le_length (by rw [List.length_append, h1]; simp), List.take_of_length_le (l := l.take i ++ [x]) (by rw [List.length_append, h1]; simp), List.take_of_length_le (l := l.drop i) (by rw [List.length_drop]; omega)]
  rfl

set_option maxRecDepth 100000 in
set_option maxHeartbeats 1000000 in
theorem c_Insert_Entry (l : List Entry) (i : Nat) (x : Entry) (hi : i ≤ l.length) (hl : (l.length + 1) * 16 ≤ 140737488355328) (r : List Entry) (hr : insL l i x = r) : FnE Try.prog 129 [(.c (.s 0 0 2 l.length)), (.c (cI (↑i : Int))), (.c (.s 1 0 2 1))] [(1, (.arr 111 2 (([x]).map rEntry))), (0, (.arr 111 2 ((l).map rEntry)))] [] (.v (.c (.s 0 0 2 r.length))) [(0, (.arr 111 2 ((r).map rEntry)))] := by
  refine FnE.mk 95 [(0, (aC (.s 0 0 2 l.length))), (1, (aI (↑i : Int))), (2, (aC (.s 1 0 2 1)))] 2 Try.func129 rfl rfl rfl rfl rfl rfl rfl rfl rfl ?_
  intro W0 F0 T0 pg
  refine AC.lenS 0 rfl (fun hlen0 => ?_)
  refine AC.lenS 2 rfl (fun hlen2 => ?_)
  refine AC.seq ?_
  refine AC.region ?_
  refine AL.fast 1 rfl ?_
  refine AL.nil ?_
  refine then_ok ?_
  refine AC.seq ?_
  refine AC.region ?_
  refine AL.fast 2 rfl ?_
  refine AL.val (Wanted.plain rfl) (g_sliceA (l := i) (h := l.length) rfl Try.underlying102 sz111 rfl (.inr ⟨_, rfl, rfl⟩) (.inl ⟨rfl, rfl, rfl⟩) (.inl rfl) (by first | omega | (simp; done) | (simp; omega)) (by first | omega | (simp; done) | (simp; omega))) rfl rfl ?_
  refine AL.nil ?_
  refine then_ok ?_
  refine AC.seq ?_
  refine AC.region ?_
  refine AL.fast 1 rfl ?_
  refine AL.val (Wanted.plain rfl) (g_lenS rfl rfl rfl rfl rfl Try.underlying102) rfl rfl ?_
  refine AL.fast 1 rfl ?_
  refine AL.nil ?_
  refine then_ok ?_
  refine AC.seq ?_
  refine AC.seq ?_
  refine AC.region ?_
  refine AL.fast 1 rfl ?_
  refine AL.val (Wanted.plain rfl) (g_binI rfl rfl rfl (show _ = some (Value.bool false) from rfl)) rfl rfl ?_
  refine AL.nil ?_
  refine then_ok ?_
  refine AC.cond rfl (fun hno => by cases hno) (fun _ => ?_)
  refine AC.skip ?_
  refine then_ok ?_
  refine AC.seq ?_
  refine AC.region ?_
  refine AL.fast 1 rfl ?_
  refine AL.val (Wanted.plain rfl) (g_lenS rfl rfl rfl rfl rfl Try.underlying102) rfl rfl ?_
  refine AL.fast 1 rfl ?_
  refine AL.nil ?_
  refine then_ok ?_
  refine AC.seq ?_
  refine AC.seq ?_
  refine AC.region ?_
  refine AL.fast 2 rfl ?_
  refine AL.val (Wanted.plain rfl) (g_binI rfl rfl rfl rfl) rfl rfl ?_
  refine AL.nil ?_
  refine then_ok ?_
  refine AC.cond rfl (fun hc2 => ?_) (fun hc2 => ?_)
  ·
    have hc2' := hc2; try simp only [sumB, Bool.not_eq_true', Bool.not_eq_false', Bool.or_eq_true, Bool.or_eq_false_iff, Bool.and_eq_true, Bool.and_eq_false_imp, decide_eq_true_eq, decide_eq_false_iff_not, Bool.not_not, Bool.not_true, Bool.not_false] at hc2'
    refine AC.seq ?_
    refine AC.region ?_
    refine AL.fast 2 rfl ?_
    refine AL.eat (n' := 3) (h' := [(2, (.arr 111 2 ((l ++ ([x])).map rEntry))), (1, (.arr 111 2 (([x]).map rEntry)))]) (Wanted.plain rfl) (g_append (m := 1) (N := l.length + 1) (k2 := 2) (ys := ([x]).map rEntry) sl102 rfl rfl rfl rfl rfl rfl (by first | omega | (simp; done) | (simp; omega)) rfl (.s rfl (by first | omega | (simp; done) | (simp; omega))) (by first | omega | (simp; done) | (simp; omega)) (by first | omega | (simp; done) | (simp; omega)) appmap (by decide) (by first | omega | (simp; done) | (simp; omega)) (by first | omega | (simp; done) | (simp; omega))) rfl rfl rfl rfl rfl ?_
    refine AL.fast 1 rfl ?_
    refine AL.nil ?_
    refine then_ok ?_
    refine AC.ret ?_
    refine then_ret ?_
    have hX : insL l i x = (l ++ ([x])) := by
      obtain rfl : i = l.length := by omega
      exact insL_end
    rw [hX] at hr; clear hX
    subst hr
    refine retQ_mk (av' := outOf [(.c (.s 0 0 2 (l.length + 1)))]) (nb' := [(0, (.arr 111 2 ((l ++ ([x])).map rEntry)))]) (retQ_ret ⟨[(6, (aC (.s 0 0 2 (l.length + 1))))], [(0, (.arr 111 2 ((l ++ ([x])).map rEntry)))], 1⟩ [.tmp 6] [(.c (.s 0 0 2 (l.length + 1)))] (Weak.ren (fun k => if k = 0 then 2 else k) (⟨by first | rfl | (simp only [AV.map, GV.map, CV.map, AB.map', id]; done) | (congr 3; omega) | (congr 4; omega) | (simp only [List.length_append, List.length_cons, List.length_nil, List.length_set]; rfl),  trivial⟩) (⟨by first | rfl | (simp only [AV.map, GV.map, CV.map, AB.map', id]; done) | (congr 3; omega) | (congr 4; omega) | (simp only [List.length_append, List.length_cons, List.length_nil, List.length_set]; rfl),  trivial⟩) rfl) rfl ⟨.tmp rfl, trivial⟩ ⟨by first | rfl | (simp only [AV.map, GV.map, CV.map, AB.map', id]; done) | (congr 3; omega) | (congr 4; omega) | (simp only [List.length_append, List.length_cons, List.length_nil, List.length_set]; rfl),  trivial⟩) ?_ ?_
    · first | rfl | (simp [outOf, aC]; done) | (simp [outOf, aC]; omega)
    · first | rfl | (simp; done) | (simp; omega)
  ·
    have hc2' := hc2; try simp only [sumB, Bool.not_eq_true', Bool.not_eq_false', Bool.or_eq_true, Bool.or_eq_false_iff, Bool.and_eq_true, Bool.and_eq_false_imp, decide_eq_true_eq, decide_eq_false_iff_not, Bool.not_not, Bool.not_true, Bool.not_false] at hc2'
    refine AC.skip ?_
    refine then_ok ?_
    refine AC.seq ?_
    refine AC.capS 0 rfl (by first | omega | (simp; done) | (simp; omega)) (fun cap1 hcap1 hmcap1 => ?_)
    refine AC.seq ?_
    refine AC.region ?_
    refine AL.fast 2 rfl ?_
    refine AL.val (Wanted.plain rfl) (g_binI rfl rfl rfl (wrap_ok (by first | omega | (simp; done) | (simp; omega)))) rfl rfl ?_
    refine AL.fast 1 rfl ?_
    refine AL.val (Wanted.plain rfl) (g_capX Try.underlying102 rfl rfl rfl rfl rfl) rfl rfl ?_
    refine AL.val (Wanted.plain rfl) (g_binI rfl rfl rfl rfl) rfl rfl ?_
    refine AL.nil ?_
    refine then_ok ?_
    refine AC.cond rfl (fun hc3 => ?_) (fun hc3 => ?_)
    ·
      have hc3' := hc3; try simp only [sumB, Bool.not_eq_true', Bool.not_eq_false', Bool.or_eq_true, Bool.or_eq_false_iff, Bool.and_eq_true, Bool.and_eq_false_imp, decide_eq_true_eq, decide_eq_false_iff_not, Bool.not_not, Bool.not_true, Bool.not_false] at hc3'
      refine AC.seq ?_
      refine AC.region ?_
      refine AL.fast 2 rfl ?_
      refine AL.val (Wanted.plain rfl) (g_sliceX (l := 0) (h := i) (m := cap1) (n' := i) (c' := cap1) (E' := true) rfl Try.underlying102 sz111 rfl (.inl ⟨rfl, rfl⟩) (.inr ⟨_, rfl, rfl⟩) (.inl ⟨rfl, rfl⟩) (by first | omega | (simp; done) | (simp; omega)) (by first | omega | (simp; done) | (simp; omega)) (by first | omega | (simp; done) | (simp; omega)) (by first | omega | (simp; done) | (simp; omega)) (by first | omega | (simp; done) | (simp; omega)) (by simp)) rfl rfl ?_
      refine AL.fast 2 rfl ?_
      refine AL.val (Wanted.plain rfl) (g_binI rfl rfl rfl (wrap_ok (by first | omega | (simp; done) | (simp; omega)))) rfl rfl ?_
      refine AL.fast 1 rfl ?_
      refine AL.val (Wanted.plain rfl) (g_binI rfl rfl rfl (wrap_ok (by first | omega | (simp; done) | (simp; omega)))) rfl rfl ?_
      refine AL.new (n' := 3) (Wanted.plain rfl) (g_app0 (m := ((l.length) + 1) - (i)) (N := l.length + 1) (rows' := ((l).take i ++ List.replicate (((l.length) + 1) - (i)) (⟨0, 0⟩ : Entry)).map rEntry) 2 sl102 zv111 rfl rfl Try.underlying3 rfl rfl rfl rfl rfl rfl (evI rfl (by first | omega | (simp; done) | (simp; omega))) (by first | omega | (simp; done) | (simp; omega)) (by first | omega | (simp; done) | (simp; omega)) (by first | omega | (simp; done) | (simp; omega)) (by first | omega | (simp; done) | (simp; omega)) (by first | omega | (simp; done) | (simp; omega)) (by first | omega | (simp; done) | (simp; omega)) (by rw [List.map_append, List.map_take, List.map_replicate]; rfl)) rfl rfl rfl ?_
      refine AL.fast 1 rfl ?_
      refine AL.nil ?_
      refine then_ok ?_
      refine AC.capS 9 rfl (by first | omega | (simp; done) | (simp; omega)) (fun cap2 hcap2 hmcap2 => ?_)
      refine AC.seq ?_
      refine AC.region ?_
      refine AL.fast 2 rfl ?_
      refine AL.val (Wanted.plain rfl) (GOp.cast (g_sliceX (l := i) (h := l.length + 1) (m := cap2) (n' := (l.length + 1) - i) (c' := cap2 - i) (E' := true) rfl Try.underlying102 sz111 rfl (.inr ⟨_, rfl, rfl⟩) (.inl ⟨rfl, rfl, rfl⟩) (.inl ⟨rfl, rfl⟩) (by first | omega | (simp; done) | (simp; omega)) (by first | omega | (simp; done) | (simp; omega)) (by first | omega | (simp; done) | (simp; omega)) (by first | omega | (simp; done) | (simp; omega)) (by first | omega | (simp; done) | (simp; omega)) (by simp)) (show _ = (aC (.sx 2 i 2 ((l.length + 1) - i) (cap2 - i) true)) by first | rfl | (simp only [Nat.zero_add, Nat.add_zero]; rfl))) rfl rfl ?_
      refine AL.fast 1 rfl ?_
      refine AL.callM (n' := 3) (h' := [(2, (.arr 111 2 (((l.take i ++ List.replicate (l.length + 1 - i) (⟨0, 0⟩ : Entry)).take i ++ [x] ++ (l.take i ++ List.replicate (l.length + 1 - i) (⟨0, 0⟩ : Entry)).drop (i + 1)).map rEntry))), (1, (.arr 111 2 (([x]).map rEntry))), (0, (.arr 111 2 ((l).map rEntry)))]) (Wanted.plain rfl) (g_copyX (m := 1) (len := 1) (ys := (([x]).take 1).map rEntry) (rows' := ((l.take i ++ List.replicate (l.length + 1 - i) (⟨0, 0⟩ : Entry)).take i ++ [x] ++ (l.take i ++ List.replicate (l.length + 1 - i) (⟨0, 0⟩ : Entry)).drop (i + 1)).map rEntry) sl102 rfl rfl rfl rfl rfl rfl rfl (.s rfl (by first | omega | (simp; done) | (simp; omega)) (by first | omega | (simp; done) | (simp; omega)) (by simp [List.map_take, List.map_drop])) (by first | omega | (simp; done) | (simp; omega)) (by first | omega | (simp; done) | (simp; omega)) (by first | omega | (simp; done) | (simp; omega)) (by simp [List.map_take, List.map_drop])) rfl rfl rfl rfl rfl rfl ?_
      refine AL.nil ?_
      refine then_ok ?_
      refine AC.seq ?_
      refine AC.weak (st' := ⟨[(9, (aC (.sx 2 0 2 (l.length + 1) cap2 true))), (0, (aC (.sx 0 0 2 l.length cap1 true))), (1, (aI (↑i : Int))), (2, (aC (.s 1 0 2 1))), (7, (aI 1)), (8, (aI (↑l.length : Int)))], [(2, (.arr 111 2 (((l.take i ++ List.replicate (l.length + 1 - i) (⟨0, 0⟩ : Entry)).take i ++ [x] ++ (l.take i ++ List.replicate (l.length + 1 - i) (⟨0, 0⟩ : Entry)).drop (i + 1)).map rEntry))), (1, (.arr 111 2 (([x]).map rEntry))), (0, (.arr 111 2 ((l).map rEntry)))], 3⟩) (Weak.ren id (⟨by first | rfl | (simp only [AV.map, GV.map, CV.map, AB.map', id]; done) | (congr 3; omega) | (congr 4; omega) | (simp only [List.length_append, List.length_cons, List.length_nil, List.length_set]; rfl), by first | rfl | (simp only [AV.map, GV.map, CV.map, AB.map', id]; done) | (congr 3; omega) | (congr 4; omega) | (simp only [List.length_append, List.length_cons, List.length_nil, List.length_set]; rfl), by first | rfl | (simp only [AV.map, GV.map, CV.map, AB.map', id]; done) | (congr 3; omega) | (congr 4; omega) | (simp only [List.length_append, List.length_cons, List.length_nil, List.length_set]; rfl), by first | rfl | (simp only [AV.map, GV.map, CV.map, AB.map', id]; done) | (congr 3; omega) | (congr 4; omega) | (simp only [List.length_append, List.length_cons, List.length_nil, List.length_set]; rfl), by first | rfl | (simp only [AV.map, GV.map, CV.map, AB.map', id]; done) | (congr 3; omega) | (congr 4; omega) | (simp only [List.length_append, List.length_cons, List.length_nil, List.length_set]; rfl), by first | rfl | (simp only [AV.map, GV.map, CV.map, AB.map', id]; done) | (congr 3; omega) | (congr 4; omega) | (simp only [List.length_append, List.length_cons, List.length_nil, List.length_set]; rfl),  trivial⟩) (⟨by first | rfl | (simp only [AV.map, GV.map, CV.map, AB.map', id]; done) | (congr 3; omega) | (congr 4; omega) | (simp only [List.length_append, List.length_cons, List.length_nil, List.length_set]; rfl), by first | rfl | (simp only [AV.map, GV.map, CV.map, AB.map', id]; done) | (congr 3; omega) | (congr 4; omega) | (simp only [List.length_append, List.length_cons, List.length_nil, List.length_set]; rfl), by first | rfl | (simp only [AV.map, GV.map, CV.map, AB.map', id]; done) | (congr 3; omega) | (congr 4; omega) | (simp only [List.length_append, List.length_cons, List.length_nil, List.length_set]; rfl),  trivial⟩) rfl) ?_
      refine AC.drawW [⟨some 46, (aC (.sx 2 0 2 (l.length + 1) cap2 true)), [], [], [], [(9, (aC (.sx 2 0 2 (l.length + 1) cap2 true)))], []⟩,
      ⟨some 47, (aI (↑i : Int)), [], [], [], [(1, (aI (↑i : Int)))], []⟩,
      ⟨some 48, (aI 1), [], [], [], [(7, (aI 1))], []⟩,
      ⟨some 49, (aI ((↑i : Int) + 1)), [], [], [2, 1], [(47, (aI (↑i : Int))), (48, (aI 1))], []⟩,
      ⟨some 50, (aC (.sx 2 ((i) + 1) 2 ((l.length + 1) - ((i) + 1)) (cap2 - ((i) + 1)) true)), [], [], [3, 0], [(46, (aC (.sx 2 0 2 (l.length + 1) cap2 true))), (49, (aI ((↑i : Int) + 1)))], [(2, (.arr 111 2 (((l.take i ++ List.replicate (l.length + 1 - i) (⟨0, 0⟩ : Entry)).take i ++ [x] ++ (l.take i ++ List.replicate (l.length + 1 - i) (⟨0, 0⟩ : Entry)).drop (i + 1)).map rEntry)))]⟩,
      ⟨some 51, (aC (.sx 0 0 2 l.length cap1 true)), [], [], [], [(0, (aC (.sx 0 0 2 l.length cap1 true)))], []⟩,
      ⟨some 52, (aI (↑i : Int)), [], [], [], [(1, (aI (↑i : Int)))], []⟩,
      ⟨some 53, (aC (.sx 0 i 2 (l.length - i) (cap1 - i) true)), [], [], [6, 5], [(51, (aC (.sx 0 0 2 l.length cap1 true))), (52, (aI (↑i : Int)))], [(0, (.arr 111 2 ((l).map rEntry)))]⟩,
      ⟨some 54, (aI (↑(l.length - i) : Int)), [(2, (.arr 111 2 ((((l.take i ++ List.replicate (l.length + 1 - i) (⟨0, 0⟩ : Entry)).take i ++ [x] ++ (l.take i ++ List.replicate (l.length + 1 - i) (⟨0, 0⟩ : Entry)).drop (i + 1)).take (i + 1) ++ (l.drop i).take (l.length - i)).map rEntry)))], [2], [7, 4], [(50, (aC (.sx 2 ((i) + 1) 2 ((l.length + 1) - ((i) + 1)) (cap2 - ((i) + 1)) true))), (53, (aC (.sx 0 i 2 (l.length - i) (cap1 - i) true)))], [(0, (.arr 111 2 ((l).map rEntry))), (2, (.arr 111 2 (((l.take i ++ List.replicate (l.length + 1 - i) (⟨0, 0⟩ : Entry)).take i ++ [x] ++ (l.take i ++ List.replicate (l.length + 1 - i) (⟨0, 0⟩ : Entry)).drop (i + 1)).map rEntry)))]⟩] ⟨[(9, (aC (.sx 2 0 2 (l.length + 1) cap2 true))), (0, (aC (.sx 0 0 2 l.length cap1 true))), (1, (aI (↑i : Int))), (2, (aC (.s 1 0 2 1))), (7, (aI 1)), (8, (aI (↑l.length : Int)))], [(2, (.arr 111 2 ((((l.take i ++ List.replicate (l.length + 1 - i) (⟨0, 0⟩ : Entry)).take i ++ [x] ++ (l.take i ++ List.replicate (l.length + 1 - i) (⟨0, 0⟩ : Entry)).drop (i + 1)).take (i + 1) ++ (l.drop i).take (l.length - i)).map rEntry))), (1, (.arr 111 2 (([x]).map rEntry))), (0, (.arr 111 2 ((l).map rEntry)))], 3⟩ [8, 7, 6, 5, 4, 3, 2, 1, 0] mixed (by kernel_rfl) ?_ ?_ ?_ ?_
      · exact ⟨.inl ⟨(Wanted.plain rfl), GOp.cast (g_move rfl rfl) rfl⟩,
      .inl ⟨(Wanted.plain rfl), GOp.cast (g_move rfl rfl) rfl⟩,
      .inl ⟨(Wanted.plain rfl), GOp.cast (g_move rfl rfl) rfl⟩,
      .inl ⟨(Wanted.plain rfl), GOp.cast (g_binI rfl rfl rfl (wrap_ok (by first | omega | (simp; done) | (simp; omega)))) rfl⟩,
      .inl ⟨(Wanted.plain rfl), GOp.cast (GOp.cast (g_sliceX (l := (i) + 1) (h := l.length + 1) (m := cap2) (n' := (l.length + 1) - ((i) + 1)) (c' := cap2 - ((i) + 1)) (E' := true) rfl Try.underlying102 sz111 rfl (.inr ⟨_, rfl, (evI rfl (by first | omega | (simp; done) | (simp; omega)))⟩) (.inl ⟨rfl, rfl, rfl⟩) (.inl ⟨rfl, rfl⟩) (by first | omega | (simp; done) | (simp; omega)) (by first | omega | (simp; done) | (simp; omega)) (by first | omega | (simp; done) | (simp; omega)) (by first | omega | (simp; done) | (simp; omega)) (by first | omega | (simp; done) | (simp; omega)) (by simp)) (show _ = (aC (.sx 2 ((i) + 1) 2 ((l.length + 1) - ((i) + 1)) (cap2 - ((i) + 1)) true)) by first | rfl | (simp only [Nat.zero_add, Nat.add_zero]; rfl))) rfl⟩,
      .inl ⟨(Wanted.plain rfl), GOp.cast (g_move rfl rfl) rfl⟩,
      .inl ⟨(Wanted.plain rfl), GOp.cast (g_move rfl rfl) rfl⟩,
      .inl ⟨(Wanted.plain rfl), GOp.cast (GOp.cast (g_sliceX (l := i) (h := l.length) (m := cap1) (n' := l.length - i) (c' := cap1 - i) (E' := true) rfl Try.underlying102 sz111 rfl (.inr ⟨_, rfl, rfl⟩) (.inl ⟨rfl, rfl, rfl⟩) (.inl ⟨rfl, rfl⟩) (by first | omega | (simp; done) | (simp; omega)) (by first | omega | (simp; done) | (simp; omega)) (by first | omega | (simp; done) | (simp; omega)) (by first | omega | (simp; done) | (simp; omega)) (by first | omega | (simp; done) | (simp; omega)) (by simp)) (show _ = (aC (.sx 0 i 2 (l.length - i) (cap1 - i) true)) by first | rfl | (simp only [Nat.zero_add, Nat.add_zero]; rfl))) rfl⟩,
      .inl ⟨(Wanted.plain rfl), GOp.cast (g_copyX (m := l.length - i) (len := l.length - i) (ys := (((l).drop i).take (l.length - i)).map rEntry) (rows' := (((l.take i ++ List.replicate (l.length + 1 - i) (⟨0, 0⟩ : Entry)).take i ++ [x] ++ (l.take i ++ List.replicate (l.length + 1 - i) (⟨0, 0⟩ : Entry)).drop (i + 1)).take (i + 1) ++ (l.drop i).take (l.length - i)).map rEntry) sl102 rfl rfl rfl rfl rfl rfl rfl (.x rfl (by first | omega | (simp; done) | (simp; omega)) (by first | omega | (simp; done) | (simp; omega)) (by simp [List.map_take, List.map_drop])) (by first | omega | (simp; done) | (simp; omega)) (by first | omega | (simp; done) | (simp; omega)) (by first | omega | (simp; done) | (simp; omega)) (by rw [List.drop_of_length_le (i := i + 1 + (l.length - i)) (by simp only [List.length_append, List.length_take, List.length_drop, List.length_map, List.length_replicate, List.length_cons, List.length_nil]; omega), List.append_nil]; simp [List.map_take, List.map_drop])) rfl⟩,
       trivial⟩
      · exact ⟨⟨⟨rfl,  trivial⟩, trivial⟩, ⟨⟨rfl,  trivial⟩, trivial⟩, ⟨⟨rfl,  trivial⟩, trivial⟩, ⟨⟨⟨_, rfl, rfl, rfl⟩, ⟨_, rfl, rfl, rfl⟩,  trivial⟩, trivial⟩, ⟨⟨⟨_, rfl, rfl, rfl⟩, ⟨_, rfl, rfl, rfl⟩,  trivial⟩, ⟨rfl,  trivial⟩⟩, ⟨⟨rfl,  trivial⟩, trivial⟩, ⟨⟨rfl,  trivial⟩, trivial⟩, ⟨⟨⟨_, rfl, rfl, rfl⟩, ⟨_, rfl, rfl, rfl⟩,  trivial⟩, ⟨rfl,  trivial⟩⟩, ⟨⟨⟨_, rfl, rfl, rfl⟩, ⟨_, rfl, rfl, rfl⟩,  trivial⟩, ⟨rfl, rfl,  trivial⟩⟩,  trivial⟩
      · exact ⟨⟨rfl, rfl, rfl, rfl, rfl, rfl,  trivial⟩, ⟨⟨_, rfl, .head _⟩, rfl, rfl,  trivial⟩⟩
      ·
        refine then_ok ?_
        refine AC.seq ?_
        refine AC.region ?_
        refine AL.fast 2 rfl ?_
        refine AL.nil ?_
        refine then_ok ?_
        refine AC.ret ?_
        refine then_ret ?_
        refine retQ_weak (Weak.x2s 6 rfl (by first | omega | (simp; done) | (simp; omega))) ?_
        have hX : insL l i x = (((l.take i ++ List.replicate (l.length + 1 - i) (⟨0, 0⟩ : Entry)).take i ++ [x] ++ (l.take i ++ List.replicate (l.length + 1 - i) (⟨0, 0⟩ : Entry)).drop (i + 1)).take (i + 1) ++ (l.drop i).take (l.length - i)) := by
          exact (insL_grow (by omega) rfl rfl).symm
        rw [hX] at hr; clear hX
        subst hr
        refine retQ_mk (av' := outOf [(.c (.s 0 0 2 (l.length + 1)))]) (nb' := [(0, (.arr 111 2 ((((l.take i ++ List.replicate (l.length + 1 - i) (⟨0, 0⟩ : Entry)).take i ++ [x] ++ (l.take i ++ List.replicate (l.length + 1 - i) (⟨0, 0⟩ : Entry)).drop (i + 1)).take (i + 1) ++ (l.drop i).take (l.length - i)).map rEntry)))]) (retQ_ret ⟨[(6, (aC (.s 0 0 2 (l.length + 1))))], [(0, (.arr 111 2 ((((l.take i ++ List.replicate (l.length + 1 - i) (⟨0, 0⟩ : Entry)).take i ++ [x] ++ (l.take i ++ List.replicate (l.length + 1 - i) (⟨0, 0⟩ : Entry)).drop (i + 1)).take (i + 1) ++ (l.drop i).take (l.length - i)).map rEntry)))], 1⟩ [.tmp 6] [(.c (.s 0 0 2 (l.length + 1)))] (Weak.ren (fun k => if k = 0 then 2 else k) (⟨by first | rfl | (simp only [AV.map, GV.map, CV.map, AB.map', id]; done) | (congr 3; omega) | (congr 4; omega) | (simp only [List.length_append, List.length_cons, List.length_nil, List.length_set]; rfl),  trivial⟩) (⟨by first | rfl | (simp only [AV.map, GV.map, CV.map, AB.map', id]; done) | (congr 3; omega) | (congr 4; omega) | (simp only [List.length_append, List.length_cons, List.length_nil, List.length_set]; rfl),  trivial⟩) rfl) rfl ⟨.tmp rfl, trivial⟩ ⟨by first | rfl | (simp only [AV.map, GV.map, CV.map, AB.map', id]; done) | (congr 3; omega) | (congr 4; omega) | (simp only [List.length_append, List.length_cons, List.length_nil, List.length_set]; rfl),  trivial⟩) ?_ ?_
        · first | rfl | (simp [outOf, aC]; done) | (simp [outOf, aC]; omega)
        · first | rfl | (simp; done) | (simp; omega)
    ·
      have hc3' := hc3; try simp only [sumB, Bool.not_eq_true', Bool.not_eq_false', Bool.or_eq_true, Bool.or_eq_false_iff, Bool.and_eq_true, Bool.and_eq_false_imp, decide_eq_true_eq, decide_eq_false_iff_not, Bool.not_not, Bool.not_true, Bool.not_false] at hc3'
      refine AC.skip ?_
      refine then_ok ?_
      refine AC.seq ?_
      refine AC.region ?_
      refine AL.fast 3 rfl ?_
      refine AL.val (Wanted.plain rfl) (g_binI rfl rfl rfl (wrap_ok (by first | omega | (simp; done) | (simp; omega)))) rfl rfl ?_
      refine AL.val (Wanted.plain rfl) (g_sliceX (l := 0) (h := (l.length) + 1) (m := cap1) (n' := (l.length) + 1) (c' := cap1) (E' := true) rfl Try.underlying102 sz111 rfl (.inl ⟨rfl, rfl⟩) (.inr ⟨_, rfl, (evI rfl (by first | omega | (simp; done) | (simp; omega)))⟩) (.inl ⟨rfl, rfl⟩) (by first | omega | (simp; done) | (simp; omega)) (by first | omega | (simp; done) | (simp; omega)) (by first | omega | (simp; done) | (simp; omega)) (by first | omega | (simp; done) | (simp; omega)) (by first | omega | (simp; done) | (simp; omega)) (by simp)) rfl rfl ?_
      refine AL.fast 1 rfl ?_
      refine AL.nil ?_
      refine then_ok ?_
      refine AC.seq ?_
      refine AC.seq ?_
      refine AC.region ?_
      refine AL.fast 4 rfl ?_
      refine AL.val (Wanted.plain rfl) (g_binI rfl rfl rfl (wrap_ok (by first | omega | (simp; done) | (simp; omega)))) rfl rfl ?_
      refine AL.val (Wanted.plain rfl) (GOp.cast (g_sliceX (l := (i) + 1) (h := (l.length) + 1) (m := cap1) (n' := ((l.length) + 1) - ((i) + 1)) (c' := cap1 - ((i) + 1)) (E' := true) rfl Try.underlying102 sz111 rfl (.inr ⟨_, rfl, (evI rfl (by first | omega | (simp; done) | (simp; omega)))⟩) (.inl ⟨rfl, rfl, rfl⟩) (.inl ⟨rfl, rfl⟩) (by first | omega | (simp; done) | (simp; omega)) (by first | omega | (simp; done) | (simp; omega)) (by first | omega | (simp; done) | (simp; omega)) (by first | omega | (simp; done) | (simp; omega)) (by first | omega | (simp; done) | (simp; omega)) (by simp)) (show _ = (aC (.sx 0 ((i) + 1) 2 (((l.length) + 1) - ((i) + 1)) (cap1 - ((i) + 1)) true)) by first | rfl | (simp only [Nat.zero_add, Nat.add_zero]; rfl))) rfl rfl ?_
      refine AL.val (Wanted.plain rfl) (g_overlaps (fn := Try.f135) (tr := 4) sl102 Try.func135 (by kernel_rfl) (by kernel_rfl) (by kernel_rfl) (by kernel_rfl) rfl rfl rfl rfl (by first | omega | (simp; done) | (simp; omega)) rfl (by first | omega | (simp; done) | (simp; omega)) rfl rfl (by decide)) rfl rfl ?_
      refine AL.val (Wanted.plain rfl) (g_notB rfl rfl) rfl rfl ?_
      refine AL.nil ?_
      refine then_ok ?_
      refine AC.cond rfl (fun _ => ?_) (fun hno => by cases hno)
      refine AC.seq ?_
      refine AC.weak (st' := ⟨[(0, (aC (.sx 0 0 2 ((l.length) + 1) cap1 true))), (1, (aI (↑i : Int))), (2, (aC (.s 1 0 2 1))), (7, (aI 1)), (8, (aI (↑l.length : Int)))], [(1, (.arr 111 2 (([x]).map rEntry))), (0, (.arr 111 2 ((l).map rEntry)))], 2⟩) (Weak.ren id (⟨by first | rfl | (simp only [AV.map, GV.map, CV.map, AB.map', id]; done) | (congr 3; omega) | (congr 4; omega) | (simp only [List.length_append, List.length_cons, List.length_nil, List.length_set]; rfl), by first | rfl | (simp only [AV.map, GV.map, CV.map, AB.map', id]; done) | (congr 3; omega) | (congr 4; omega) | (simp only [List.length_append, List.length_cons, List.length_nil, List.length_set]; rfl), by first | rfl | (simp only [AV.map, GV.map, CV.map, AB.map', id]; done) | (congr 3; omega) | (congr 4; omega) | (simp only [List.length_append, List.length_cons, List.length_nil, List.length_set]; rfl), by first | rfl | (simp only [AV.map, GV.map, CV.map, AB.map', id]; done) | (congr 3; omega) | (congr 4; omega) | (simp only [List.length_append, List.length_cons, List.length_nil, List.length_set]; rfl), by first | rfl | (simp only [AV.map, GV.map, CV.map, AB.map', id]; done) | (congr 3; omega) | (congr 4; omega) | (simp only [List.length_append, List.length_cons, List.length_nil, List.length_set]; rfl),  trivial⟩) (⟨by first | rfl | (simp only [AV.map, GV.map, CV.map, AB.map', id]; done) | (congr 3; omega) | (congr 4; omega) | (simp only [List.length_append, List.length_cons, List.length_nil, List.length_set]; rfl), by first | rfl | (simp only [AV.map, GV.map, CV.map, AB.map', id]; done) | (congr 3; omega) | (congr 4; omega) | (simp only [List.length_append, List.length_cons, List.length_nil, List.length_set]; rfl),  trivial⟩) rfl) ?_
      refine AC.drawW [⟨some 69, (aC (.sx 0 0 2 ((l.length) + 1) cap1 true)), [], [], [], [(0, (aC (.sx 0 0 2 ((l.length) + 1) cap1 true)))], []⟩,
      ⟨some 70, (aI (↑i : Int)), [], [], [], [(1, (aI (↑i : Int)))], []⟩,
      ⟨some 71, (aI 1), [], [], [], [(7, (aI 1))], []⟩,
      ⟨some 72, (aI ((↑i : Int) + 1)), [], [], [2, 1], [(70, (aI (↑i : Int))), (71, (aI 1))], []⟩,
      ⟨some 73, (aC (.sx 0 ((i) + 1) 2 (((l.length) + 1) - ((i) + 1)) (cap1 - ((i) + 1)) true)), [], [], [3, 0], [(69, (aC (.sx 0 0 2 ((l.length) + 1) cap1 true))), (72, (aI ((↑i : Int) + 1)))], [(0, (.arr 111 2 ((l).map rEntry)))]⟩,
      ⟨some 74, (aC (.sx 0 0 2 ((l.length) + 1) cap1 true)), [], [], [], [(0, (aC (.sx 0 0 2 ((l.length) + 1) cap1 true)))], []⟩,
      ⟨some 75, (aI (↑i : Int)), [], [], [], [(1, (aI (↑i : Int)))], []⟩,
      ⟨some 76, (aC (.sx 0 i 2 (((l.length) + 1) - i) (cap1 - i) true)), [], [], [6, 5], [(74, (aC (.sx 0 0 2 ((l.length) + 1) cap1 true))), (75, (aI (↑i : Int)))], [(0, (.arr 111 2 ((l).map rEntry)))]⟩,
      ⟨some 77, (aI (↑(l.length - i) : Int)), [(0, (.arr 111 2 ((l.take (i + 1) ++ (l.drop i).take (l.length - i)).map rEntry)))], [0], [7, 4], [(73, (aC (.sx 0 ((i) + 1) 2 (((l.length) + 1) - ((i) + 1)) (cap1 - ((i) + 1)) true))), (76, (aC (.sx 0 i 2 (((l.length) + 1) - i) (cap1 - i) true)))], [(0, (.arr 111 2 ((l).map rEntry)))]⟩] ⟨[(0, (aC (.sx 0 0 2 ((l.length) + 1) cap1 true))), (1, (aI (↑i : Int))), (2, (aC (.s 1 0 2 1))), (7, (aI 1)), (8, (aI (↑l.length : Int)))], [(0, (.arr 111 2 ((l.take (i + 1) ++ (l.drop i).take (l.length - i)).map rEntry))), (1, (.arr 111 2 (([x]).map rEntry)))], 2⟩ [8, 7, 6, 5, 4, 3, 2, 1, 0] mixed (by kernel_rfl) ?_ ?_ ?_ ?_
      · exact ⟨.inl ⟨(Wanted.plain rfl), GOp.cast (g_move rfl rfl) rfl⟩,
      .inl ⟨(Wanted.plain rfl), GOp.cast (g_move rfl rfl) rfl⟩,
      .inl ⟨(Wanted.plain rfl), GOp.cast (g_move rfl rfl) rfl⟩,
      .inl ⟨(Wanted.plain rfl), GOp.cast (g_binI rfl rfl rfl (wrap_ok (by first | omega | (simp; done) | (simp; omega)))) rfl⟩,
      .inl ⟨(Wanted.plain rfl), GOp.cast (GOp.cast (g_sliceX (l := (i) + 1) (h := (l.length) + 1) (m := cap1) (n' := ((l.length) + 1) - ((i) + 1)) (c' := cap1 - ((i) + 1)) (E' := true) rfl Try.underlying102 sz111 rfl (.inr ⟨_, rfl, (evI rfl (by first | omega | (simp; done) | (simp; omega)))⟩) (.inl ⟨rfl, rfl, rfl⟩) (.inl ⟨rfl, rfl⟩) (by first | omega | (simp; done) | (simp; omega)) (by first | omega | (simp; done) | (simp; omega)) (by first | omega | (simp; done) | (simp; omega)) (by first | omega | (simp; done) | (simp; omega)) (by first | omega | (simp; done) | (simp; omega)) (by simp)) (show _ = (aC (.sx 0 ((i) + 1) 2 (((l.length) + 1) - ((i) + 1)) (cap1 - ((i) + 1)) true)) by first | rfl | (simp only [Nat.zero_add, Nat.add_zero]; rfl))) rfl⟩,
      .inl ⟨(Wanted.plain rfl), GOp.cast (g_move rfl rfl) rfl⟩,
      .inl ⟨(Wanted.plain rfl), GOp.cast (g_move rfl rfl) rfl⟩,
      .inl ⟨(Wanted.plain rfl), GOp.cast (GOp.cast (g_sliceX (l := i) (h := (l.length) + 1) (m := cap1) (n' := ((l.length) + 1) - i) (c' := cap1 - i) (E' := true) rfl Try.underlying102 sz111 rfl (.inr ⟨_, rfl, rfl⟩) (.inl ⟨rfl, rfl, rfl⟩) (.inl ⟨rfl, rfl⟩) (by first | omega | (simp; done) | (simp; omega)) (by first | omega | (simp; done) | (simp; omega)) (by first | omega | (simp; done) | (simp; omega)) (by first | omega | (simp; done) | (simp; omega)) (by first | omega | (simp; done) | (simp; omega)) (by simp)) (show _ = (aC (.sx 0 i 2 (((l.length) + 1) - i) (cap1 - i) true)) by first | rfl | (simp only [Nat.zero_add, Nat.add_zero]; rfl))) rfl⟩,
      .inl ⟨(Wanted.plain rfl), GOp.cast (g_copyX (m := l.length - i) (len := ((l.length) + 1) - i) (ys := (((l).drop i).take (l.length - i)).map rEntry) (rows' := (l.take (i + 1) ++ (l.drop i).take (l.length - i)).map rEntry) sl102 rfl rfl rfl rfl rfl rfl rfl (.x rfl (by first | omega | (simp; done) | (simp; omega)) (by first | omega | (simp; done) | (simp; omega)) (by simp [List.map_take, List.map_drop])) (by first | omega | (simp; done) | (simp; omega)) (by first | omega | (simp; done) | (simp; omega)) (by first | omega | (simp; done) | (simp; omega)) (by rw [List.drop_of_length_le (i := i + 1 + (l.length - i)) (by simp only [List.length_append, List.length_take, List.length_drop, List.length_map, List.length_replicate, List.length_cons, List.length_nil]; omega), List.append_nil]; simp [List.map_take, List.map_drop])) rfl⟩,
       trivial⟩
      · exact ⟨⟨⟨rfl,  trivial⟩, trivial⟩, ⟨⟨rfl,  trivial⟩, trivial⟩, ⟨⟨rfl,  trivial⟩, trivial⟩, ⟨⟨⟨_, rfl, rfl, rfl⟩, ⟨_, rfl, rfl, rfl⟩,  trivial⟩, trivial⟩, ⟨⟨⟨_, rfl, rfl, rfl⟩, ⟨_, rfl, rfl, rfl⟩,  trivial⟩, ⟨rfl,  trivial⟩⟩, ⟨⟨rfl,  trivial⟩, trivial⟩, ⟨⟨rfl,  trivial⟩, trivial⟩, ⟨⟨⟨_, rfl, rfl, rfl⟩, ⟨_, rfl, rfl, rfl⟩,  trivial⟩, ⟨rfl,  trivial⟩⟩, ⟨⟨⟨_, rfl, rfl, rfl⟩, ⟨_, rfl, rfl, rfl⟩,  trivial⟩, ⟨rfl,  trivial⟩⟩,  trivial⟩
      · exact ⟨⟨rfl, rfl, rfl, rfl, rfl,  trivial⟩, ⟨⟨_, rfl, .head _⟩, rfl,  trivial⟩⟩
      ·
        refine then_ok ?_
        refine AC.seq ?_
        refine AC.region ?_
        refine AL.fast 2 rfl ?_
        refine AL.val (Wanted.plain rfl) (GOp.cast (g_sliceX (l := i) (h := (l.length) + 1) (m := cap1) (n' := ((l.length) + 1) - i) (c' := cap1 - i) (E' := true) rfl Try.underlying102 sz111 rfl (.inr ⟨_, rfl, rfl⟩) (.inl ⟨rfl, rfl, rfl⟩) (.inl ⟨rfl, rfl⟩) (by first | omega | (simp; done) | (simp; omega)) (by first | omega | (simp; done) | (simp; omega)) (by first | omega | (simp; done) | (simp; omega)) (by first | omega | (simp; done) | (simp; omega)) (by first | omega | (simp; done) | (simp; omega)) (by simp)) (show _ = (aC (.sx 0 i 2 (((l.length) + 1) - i) (cap1 - i) true)) by first | rfl | (simp only [Nat.zero_add, Nat.add_zero]; rfl))) rfl rfl ?_
        refine AL.fast 1 rfl ?_
        refine AL.callM (n' := 2) (h' := [(0, (.arr 111 2 (((l.take (i + 1) ++ (l.drop i).take (l.length - i)).take i ++ [x] ++ (l.take (i + 1) ++ (l.drop i).take (l.length - i)).drop (i + 1)).map rEntry))), (1, (.arr 111 2 (([x]).map rEntry)))]) (Wanted.plain rfl) (g_copyX (m := 1) (len := 1) (ys := (([x]).take 1).map rEntry) (rows' := ((l.take (i + 1) ++ (l.drop i).take (l.length - i)).take i ++ [x] ++ (l.take (i + 1) ++ (l.drop i).take (l.length - i)).drop (i + 1)).map rEntry) sl102 rfl rfl rfl rfl rfl rfl rfl (.s rfl (by first | omega | (simp; done) | (simp; omega)) (by first | omega | (simp; done) | (simp; omega)) (by simp [List.map_take, List.map_drop])) (by first | omega | (simp; done) | (simp; omega)) (by first | omega | (simp; done) | (simp; omega)) (by first | omega | (simp; done) | (simp; omega)) (by simp [List.map_take, List.map_drop])) rfl rfl rfl rfl rfl rfl ?_
        refine AL.nil ?_
        refine then_ok ?_
        refine AC.seq ?_
        refine AC.region ?_
        refine AL.fast 2 rfl ?_
        refine AL.nil ?_
        refine then_ok ?_
        refine AC.ret ?_
        refine then_ret ?_
        refine retQ_weak (Weak.x2s 6 rfl (by first | omega | (simp; done) | (simp; omega))) ?_
        have hX : insL l i x = ((l.take (i + 1) ++ (l.drop i).take (l.length - i)).take i ++ [x] ++ (l.take (i + 1) ++ (l.drop i).take (l.length - i)).drop (i + 1)) := by
          exact (insL_room (by omega) rfl).symm
        rw [hX] at hr; clear hX
        subst hr
        refine retQ_mk (av' := outOf [(.c (.s 0 0 2 ((l.length) + 1)))]) (nb' := [(0, (.arr 111 2 (((l.take (i + 1) ++ (l.drop i).take (l.length - i)).take i ++ [x] ++ (l.take (i + 1) ++ (l.drop i).take (l.length - i)).drop (i + 1)).map rEntry)))]) (retQ_ret ⟨[(6, (aC (.s 0 0 2 ((l.length) + 1))))], [(0, (.arr 111 2 (((l.take (i + 1) ++ (l.drop i).take (l.length - i)).take i ++ [x] ++ (l.take (i + 1) ++ (l.drop i).take (l.length - i)).drop (i + 1)).map rEntry)))], 1⟩ [.tmp 6] [(.c (.s 0 0 2 ((l.length) + 1)))] (Weak.ren (fun k => if k = 0 then 0 else k) (⟨by first | rfl | (simp only [AV.map, GV.map, CV.map, AB.map', id]; done) | (congr 3; omega) | (congr 4; omega) | (simp only [List.length_append, List.length_cons, List.length_nil, List.length_set]; rfl),  trivial⟩) (⟨by first | rfl | (simp only [AV.map, GV.map, CV.map, AB.map', id]; done) | (congr 3; omega) | (congr 4; omega) | (simp only [List.length_append, List.length_cons, List.length_nil, List.length_set]; rfl),  trivial⟩) rfl) rfl ⟨.tmp rfl, trivial⟩ ⟨by first | rfl | (simp only [AV.map, GV.map, CV.map, AB.map', id]; done) | (congr 3; omega) | (congr 4; omega) | (simp only [List.length_append, List.length_cons, List.length_nil, List.length_set]; rfl),  trivial⟩) ?_ ?_
        · first | rfl | (simp [outOf, aC]; done) | (simp [outOf, aC]; omega)
        · first | rfl | (simp; done) | (simp; omega)
end Go.Proofs.Ytgmcdlfmifijlaa.Dev
