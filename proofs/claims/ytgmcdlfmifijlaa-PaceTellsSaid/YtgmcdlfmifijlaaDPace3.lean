/- pace.Recent, payref1.Recent. -/
import Derived.Test.YtgmcdlfmifijlaaDPace2
import Derived.Test.YtgmcdlfmifijlaaDDel1
import Derived.Test.YtgmcdlfmifijlaaDPlPace
import Derived.Test.YtgmcdlfmifijlaaDOpn
set_option linter.unusedVariables false
set_option linter.unusedSimpArgs false
namespace Go.Proofs.Ytgmcdlfmifijlaa.Dev
open Go.RowKit

theorem c_pace_WrongN (p : Pace) (e : Int) (hr : wrongP p = e) : Fn Try.prog 38 [(.g [cI p.ticks, cI p.count, cI p.sum])] (.v (.c (cI e))) [] := hr ▸ c_pace_Wrong p.ticks p.count p.sum
theorem c_ref_WrongPaceN (p : Pace) (e : Int) (hr : wrongP p = e) : Fn Try.prog 39 [(.g [cI p.ticks, cI p.count, cI p.sum])] (.v (.c (cI e))) [] := hr ▸ c_ref_WrongPace p.ticks p.count p.sum
theorem c_pace_UsesN (l : List Use) (f : Fault) (hr : usesF l = f) : Fn Try.prog 40 [.c (cR 2 (l.map rUse))] (.v (.g [cI f.err, cI f.at_])) [] := hr ▸ c_pace_Uses l
theorem c_ref_WrongUsesN (l : List Use) (f : Fault) (hr : usesF l = f) : Fn Try.prog 41 [.c (cR 2 (l.map rUse))] (.v (.g [cI f.err, cI f.at_])) [] := hr ▸ c_ref_WrongUses l

set_option maxRecDepth 100000 in
set_option maxHeartbeats 1000000 in
theorem c_Recent1 (x : Use) (t : Int) (p : Pace) (hb : -9223372036854775808 ≤ t - p.ticks ∧ t - p.ticks ≤ 9223372036854775807) : Fn Try.prog 106 [(.g [(cI x.time), (cI x.sum)]), (.c (.q ([dI t]) 0)), (.c (.q ([dI p.ticks, dI p.count, dI p.sum]) 0))] (aB (old p t x)) [] := by
  refine Fn.mk' 12 [(0, (aG [(cI x.time), (cI x.sum)])), (1, (aC (.q ([dI t]) 0))), (2, (aC (.q ([dI p.ticks, dI p.count, dI p.sum]) 0)))] Try.func106 rfl rfl rfl rfl ?_
  intro W0 T0
  refine AC.seq ?_
  refine AC.region ?_
  refine AL.new (n' := 1) (Wanted.plain rfl) (g_boxS 0 rfl rfl) rfl rfl rfl ?_
  refine AL.fast 1 rfl ?_
  refine AL.nil ?_
  refine then_ok ?_
  refine AC.seq ?_
  refine AC.region ?_
  refine AL.val (Wanted.plain rfl) (g_fieldP rfl rfl Try.underlying44 rfl sz3 (by decide)) rfl rfl ?_
  refine AL.val (Wanted.plain rfl) (g_loadB rfl rfl rfl Try.underlying3 rfl rfl) rfl rfl ?_
  refine AL.val (Wanted.plain rfl) (g_loadQ rfl rfl Try.underlying3 rfl rfl) rfl rfl ?_
  refine AL.val (Wanted.plain rfl) (g_fieldQ rfl rfl Try.underlying41 rfl sz3 (by decide)) rfl rfl ?_
  refine AL.val (Wanted.plain rfl) (g_loadQ rfl rfl Try.underlying3 rfl rfl) rfl rfl ?_
  refine AL.val (Wanted.plain rfl) (g_binI rfl rfl rfl (wrap_ok (by first | omega | (simp; done) | (simp; omega)))) rfl rfl ?_
  refine AL.val (Wanted.plain rfl) (g_binI rfl rfl rfl rfl) rfl rfl ?_
  refine AL.fast 1 rfl ?_
  refine AL.nil ?_
  refine then_ok ?_
  refine AC.ret ?_
  refine retQ_mk (av' := outOf [(.c (cB (decide (x.time ≤ (t - p.ticks)))))]) (nb' := []) (retQ_ret ⟨[(4, (aB (decide (x.time ≤ (t - p.ticks)))))], [], 0⟩ [.tmp 4] [(.c (cB (decide (x.time ≤ (t - p.ticks)))))] (Weak.ren id (⟨by first | rfl | (simp only [AV.map, GV.map, CV.map, AB.map', id]; done) | (congr 3; omega) | (congr 4; omega) | (simp only [List.length_append, List.length_cons, List.length_nil, List.length_set]; rfl),  trivial⟩) (trivial) rfl) rfl ⟨.tmp rfl, trivial⟩ trivial) ?_ ?_
  · first | rfl | (simp [outOf, aC]; done) | (simp [outOf, aC]; omega)
  · rfl
set_option maxRecDepth 100000 in
set_option maxHeartbeats 1000000 in
theorem c_pace_Recent (p : Pace) (l : List Use) (t : Int) (hb : -9223372036854775808 ≤ t - p.ticks ∧ t - p.ticks ≤ 9223372036854775807) (hl : l.length * 16 ≤ 140737488355328) (r : List Use) (hr : recentP p l t = r) : Fn Try.prog 43 [(.g [(cI p.ticks), (cI p.count), (cI p.sum)]), (.c (cR 2 ((l).map rUse))), (.c (cI t))] (.v (.c (.s 0 0 2 r.length))) [(0, (.arr 44 2 ((r).map rUse)))] := by
  refine Fn.mk' 11 [(0, (aG [(cI p.ticks), (cI p.count), (cI p.sum)])), (1, (aC (cR 2 ((l).map rUse)))), (2, (aI t))] Try.func43 rfl rfl rfl rfl ?_
  intro W0 T0
  refine AC.len1 1 rfl (fun hlen1 => ?_)
  refine AC.seq ?_
  refine AC.region ?_
  refine AL.new (n' := 1) (Wanted.plain rfl) (g_boxS 0 rfl rfl) rfl rfl rfl ?_
  refine AL.new (n' := 2) (Wanted.plain rfl) (g_box1 1 rfl rfl rfl) rfl rfl rfl ?_
  refine AL.fast 1 rfl ?_
  refine AL.nil ?_
  refine then_ok ?_
  refine AC.seq ?_
  refine AC.region ?_
  refine AL.fast 1 rfl ?_
  refine AL.call (n' := 3) (h' := [(2, (.arr 44 2 ((l).map rUse))), (1, (.box 3 [(cI t)])), (0, (.box 41 [(cI p.ticks), (cI p.count), (cI p.sum)]))]) (Wanted.plain rfl) (g_call 2 (c_Clone_Use l (by first | omega | (simp; done) | (simp; omega)) ) en105 rfl rfl ⟨⟨_, rfl, .c (.d _)⟩,  trivial⟩ trivial ⟨(fun _ _ _ _ => trivial),  trivial⟩ rfl rfl rfl rfl) rfl rfl rfl rfl rfl ?_
  refine AL.val (Wanted.plain rfl) (g_func (ks := [1, 0]) rfl ⟨rfl, rfl, trivial⟩) rfl rfl ?_
  obtain ⟨r0, hr0⟩ : ∃ (r0 : List Use), keepL (old p t) l = r0 := ⟨_, rfl⟩
  refine AL.callM (n' := 4) (h' := [(3, (.arr 44 2 ((r0).map rUse))), (1, (.box 3 [(cI t)])), (0, (.box 41 [(cI p.ticks), (cI p.count), (cI p.sum)]))]) (Wanted.plain rfl) (g_callME (fun k => if k = 0 then 2 else k) (fun k => if k = 0 then 3 else k) [0, 1] (c_Delete_Use l 106 ([[(dI t)], [(dI p.ticks), (dI p.count), (dI p.sum)]]) (old p t) (fun x => c_Recent1 x t p hb) en106  r0 hr0) en104 rfl rfl ⟨⟨_, rfl, .inl ⟨rfl, rfl⟩⟩, ⟨_, rfl, .inr (.c (.fn ⟨⟨by decide, _, rfl⟩, ⟨by decide, _, rfl⟩,  trivial⟩))⟩,  trivial⟩ ⟨rfl,  trivial⟩ rfl rfl rfl rfl rfl rfl rfl rfl trivial ⟨(isv_rUse _),  trivial⟩ rfl rfl rfl rfl) rfl rfl rfl rfl rfl rfl ?_
  refine AL.fast 1 rfl ?_
  refine AL.nil ?_
  refine then_ok ?_
  refine AC.ret ?_
  have hX : recentP p l t = r0 := by
    assumption
  rw [hX] at hr; clear hX
  subst hr
  refine retQ_mk (av' := outOf [(.c (.s 0 0 2 r0.length))]) (nb' := [(0, (.arr 44 2 ((r0).map rUse)))]) (retQ_ret ⟨[(6, (aC (.s 0 0 2 r0.length)))], [(0, (.arr 44 2 ((r0).map rUse)))], 1⟩ [.tmp 6] [(.c (.s 0 0 2 r0.length))] (Weak.ren (fun k => if k = 0 then 3 else k) (⟨by first | rfl | (simp only [AV.map, GV.map, CV.map, AB.map', id]; done) | (congr 3; omega) | (congr 4; omega) | (simp only [List.length_append, List.length_cons, List.length_nil, List.length_set]; rfl),  trivial⟩) (⟨by first | rfl | (simp only [AV.map, GV.map, CV.map, AB.map', id]; done) | (congr 3; omega) | (congr 4; omega) | (simp only [List.length_append, List.length_cons, List.length_nil, List.length_set]; rfl),  trivial⟩) rfl) rfl ⟨.tmp rfl, trivial⟩ ⟨by first | rfl | (simp only [AV.map, GV.map, CV.map, AB.map', id]; done) | (congr 3; omega) | (congr 4; omega) | (simp only [List.length_append, List.length_cons, List.length_nil, List.length_set]; rfl),  trivial⟩) ?_ ?_
  · first | rfl | (simp [outOf, aC]; done) | (simp [outOf, aC]; omega)
  · first | rfl | (simp; done) | (simp; omega)
set_option maxRecDepth 100000 in
set_option maxHeartbeats 1000000 in
theorem c_ref_Recent (p : Pace) (l : List Use) (t : Int) (hb : -9223372036854775808 ≤ t - p.ticks ∧ t - p.ticks ≤ 9223372036854775807) (hl : l.length * 16 ≤ 140737488355328) (r : List Use) (hr : recentP p l t = r) : Fn Try.prog 44 [(.g [(cI p.ticks), (cI p.count), (cI p.sum)]), (.c (cR 2 ((l).map rUse))), (.c (cI t))] (.v (.c (.s 0 0 2 r.length))) [(0, (.arr 44 2 ((r).map rUse)))] := by
  refine Fn.mk' 29 [(0, (aG [(cI p.ticks), (cI p.count), (cI p.sum)])), (1, (aC (cR 2 ((l).map rUse)))), (2, (aI t))] Try.func44 rfl rfl rfl rfl ?_
  intro W0 T0
  refine AC.len1 1 rfl (fun hlen1 => ?_)
  obtain ⟨hb1, hb2⟩ := hb
  refine AC.seq ?_
  refine AC.region ?_
  refine AL.new (n' := 1) (Wanted.plain rfl) (g_boxS 0 rfl rfl) rfl rfl rfl ?_
  refine AL.fast 1 rfl ?_
  refine AL.nil ?_
  refine then_ok ?_
  refine AC.seq ?_
  refine AC.region ?_
  refine AL.fast 1 rfl ?_
  refine AL.nil ?_
  refine then_ok ?_
  refine AC.seq ?_
  refine AC.seq ?_
  refine AC.region ?_
  refine AL.fast 1 rfl ?_
  refine AL.val (Wanted.plain rfl) (g_lenM rfl rfl rfl rfl rfl Try.underlying42) rfl rfl ?_
  refine AL.fast 1 rfl ?_
  refine AL.nil ?_
  refine then_ok ?_
  refine AC.block ?_
  refine AC.weak (Weak.nil 7 44 2 (by decide) rfl) ?_
  refine AC.loop (β := Nat) (fun (q : Nat) => ⟨[(2, (aI t)), (3, (aC (.p 0 0 0 0))), (6, (aC cN)), (7, (aC (.s 1 0 2 ((keepL (old p t) (l.take q)).length)))), (10, (aC (cR 2 ((l).map rUse)))), (11, (aI (↑l.length : Int))), (12, (aI (↑q : Int)))], [(1, (.arr 44 2 ((keepL (old p t) (l.take q)).map rUse))), (0, (.box 41 [(cI p.ticks), (cI p.count), (cI p.sum)]))], 2⟩) (fun (q : Nat) => q ≤ l.length) (fun (q : Nat) => l.length - q) 0 ?_ ?_ ?_
  · exact (by omega)
  · exact Weak.ren id (⟨by first | rfl | (simp only [AV.map, GV.map, CV.map, AB.map', id]; done) | (congr 3; omega) | (congr 4; omega) | (simp only [List.length_append, List.length_cons, List.length_nil, List.length_set]; rfl), by first | rfl | (simp only [AV.map, GV.map, CV.map, AB.map', id]; done) | (congr 3; omega) | (congr 4; omega) | (simp only [List.length_append, List.length_cons, List.length_nil, List.length_set]; rfl), by first | rfl | (simp only [AV.map, GV.map, CV.map, AB.map', id]; done) | (congr 3; omega) | (congr 4; omega) | (simp only [List.length_append, List.length_cons, List.length_nil, List.length_set]; rfl), by first | rfl | (simp only [AV.map, GV.map, CV.map, AB.map', id]; done) | (congr 3; omega) | (congr 4; omega) | (simp only [List.length_append, List.length_cons, List.length_nil, List.length_set]; rfl), by first | rfl | (simp only [AV.map, GV.map, CV.map, AB.map', id]; done) | (congr 3; omega) | (congr 4; omega) | (simp only [List.length_append, List.length_cons, List.length_nil, List.length_set]; rfl), by first | rfl | (simp only [AV.map, GV.map, CV.map, AB.map', id]; done) | (congr 3; omega) | (congr 4; omega) | (simp only [List.length_append, List.length_cons, List.length_nil, List.length_set]; rfl), by first | rfl | (simp only [AV.map, GV.map, CV.map, AB.map', id]; done) | (congr 3; omega) | (congr 4; omega) | (simp only [List.length_append, List.length_cons, List.length_nil, List.length_set]; rfl),  trivial⟩) (⟨by first | rfl | (simp only [AV.map, GV.map, CV.map, AB.map', id]; done) | (congr 3; omega) | (congr 4; omega) | (simp only [List.length_append, List.length_cons, List.length_nil, List.length_set]; rfl), by first | rfl | (simp only [AV.map, GV.map, CV.map, AB.map', id]; done) | (congr 3; omega) | (congr 4; omega) | (simp only [List.length_append, List.length_cons, List.length_nil, List.length_set]; rfl),  trivial⟩) rfl
  ·
    rintro q hi0_0
    have hkl := keepL_len (old p t) (l.take q)
    have htl : (l.take q).length ≤ q := List.length_take_le _ _
    refine AC.seq ?_
    refine AC.region ?_
    refine AL.val (Wanted.plain rfl) (g_binI rfl rfl rfl rfl) rfl rfl ?_
    refine AL.nil ?_
    refine then_ok ?_
    refine AC.seq ?_
    refine AC.cond rfl (fun hc1 => ?_) (fun hc1 => ?_)
    ·
      have hc1' := hc1; try simp only [sumB, Bool.not_eq_true', Bool.not_eq_false', Bool.or_eq_true, Bool.or_eq_false_iff, Bool.and_eq_true, Bool.and_eq_false_imp, decide_eq_true_eq, decide_eq_false_iff_not, Bool.not_not, Bool.not_true, Bool.not_false] at hc1'
      refine AC.skip ?_
      refine then_ok ?_
      refine AC.seq ?_
      refine AC.block ?_
      refine AC.seq ?_
      refine AC.region ?_
      obtain ⟨x1, hx1⟩ := exget (xs := l) (i := q) (by first | omega | (simp; done) | (simp; omega))
      refine AL.val (Wanted.plain rfl) (g_indexQ (i := q) rfl rfl rfl Try.underlying42 sz44 (by first | omega | (simp; done) | (simp; omega)) (getmap hx1)) rfl rfl ?_
      refine AL.val (Wanted.plain rfl) (g_loadQs rfl rfl Try.underlying44 rfl sz44 rfl rfl) rfl rfl ?_
      refine AL.new (n' := 3) (Wanted.plain rfl) (g_alloc 2 rfl zv44 rfl rfl rfl) rfl rfl rfl ?_
      refine AL.sto (h' := [(2, (.box 44 [(cI x1.time), (cI x1.sum)])), (1, (.arr 44 2 ((keepL (old p t) (l.take q)).map rUse))), (0, (.box 41 [(cI p.ticks), (cI p.count), (cI p.sum)]))]) (Wanted.plain rfl) (g_storeB rfl rfl rfl rfl rfl sz44 rfl (Nat.le_of_ble_eq_true rfl) rfl) rfl rfl rfl rfl ?_
      refine AL.nil ?_
      refine then_ok ?_
      refine AC.seq ?_
      refine AC.region ?_
      refine AL.val (Wanted.plain rfl) (g_fieldP rfl rfl Try.underlying44 rfl sz3 (by decide)) rfl rfl ?_
      refine AL.val (Wanted.plain rfl) (g_loadB rfl rfl rfl Try.underlying3 rfl rfl) rfl rfl ?_
      refine AL.fast 1 rfl ?_
      refine AL.val (Wanted.plain rfl) (g_fieldP rfl rfl Try.underlying41 rfl sz3 (by decide)) rfl rfl ?_
      refine AL.val (Wanted.plain rfl) (g_loadB rfl rfl rfl Try.underlying3 rfl rfl) rfl rfl ?_
      refine AL.val (Wanted.plain rfl) (g_binI rfl rfl rfl (wrap_ok (by first | omega | (simp; done) | (simp; omega)))) rfl rfl ?_
      refine AL.val (Wanted.plain rfl) (g_binI rfl rfl rfl rfl) rfl rfl ?_
      refine AL.nil ?_
      refine then_ok ?_
      refine AC.cond rfl (fun hc2 => ?_) (fun hc2 => ?_)
      ·
        have hc2' := hc2; try simp only [sumB, Bool.not_eq_true', Bool.not_eq_false', Bool.or_eq_true, Bool.or_eq_false_iff, Bool.and_eq_true, Bool.and_eq_false_imp, decide_eq_true_eq, decide_eq_false_iff_not, Bool.not_not, Bool.not_true, Bool.not_false] at hc2'
        refine AC.region ?_
        refine AL.fast 1 rfl ?_
        refine AL.val (Wanted.plain rfl) (g_loadBs rfl rfl rfl Try.underlying44 rfl sz44 rfl rfl) rfl rfl ?_
        refine AL.new (n' := 4) (Wanted.plain rfl) (g_lit (ys := [(0, (.g [(cI x1.time), (cI x1.sum)]))]) (rows := ([x1]).map rUse) 3 sl42 rfl (by decide) ⟨⟨rfl, rfl⟩,  trivial⟩ rfl rfl rfl rfl) rfl rfl rfl ?_
        refine AL.eat (n' := 5) (h' := [(4, (.arr 44 2 (((keepL (old p t) (l.take q)) ++ ([x1])).map rUse))), (3, (.arr 44 2 (([x1]).map rUse))), (2, (.box 44 [(cI x1.time), (cI x1.sum)])), (0, (.box 41 [(cI p.ticks), (cI p.count), (cI p.sum)]))]) (Wanted.plain rfl) (g_append (m := 1) (N := ((keepL (old p t) (l.take q)).length) + 1) (k2 := 4) (ys := ([x1]).map rUse) sl42 rfl rfl rfl rfl rfl rfl (by first | omega | (simp; done) | (simp; omega)) rfl (.s rfl (by first | omega | (simp; done) | (simp; omega))) (by first | omega | (simp; done) | (simp; omega)) (by first | omega | (simp; done) | (simp; omega)) appmap (by decide) (by first | omega | (simp; done) | (simp; omega)) (by first | omega | (simp; done) | (simp; omega))) rfl rfl rfl rfl rfl ?_
        refine AL.fast 1 rfl ?_
        refine AL.nil ?_
        refine block_ok ?_
        refine then_ok ?_
        refine AC.region ?_
        refine AL.val (Wanted.plain rfl) (g_binI rfl rfl rfl (wrap_ok (by first | omega | (simp; done) | (simp; omega)))) rfl rfl ?_
        refine AL.fast 1 rfl ?_
        refine AL.nil ?_
        refine then_ok ?_
        refine ⟨q + 1, by first | omega | trivial, by first | omega | (simp; done) | (simp; omega), Weak.ren (fun k => if k = 1 then 4 else k) (⟨by first | rfl | (simp only [AV.map, GV.map, CV.map, AB.map', id]; done) | (congr 3; omega) | (congr 4; omega) | (simp only [List.length_append, List.length_cons, List.length_nil, List.length_set]; rfl) | (first | (rw [keepL_take hx1, show old p t x1 = false by (simp only [old, decide_eq_false_iff_not]; omega), List.length_append]; rfl) | (rw [keepL_take hx1, show old p t x1 = true by (simp only [old, decide_eq_true_eq]; omega), List.length_append]; rfl)), by first | rfl | (simp only [AV.map, GV.map, CV.map, AB.map', id]; done) | (congr 3; omega) | (congr 4; omega) | (simp only [List.length_append, List.length_cons, List.length_nil, List.length_set]; rfl) | (first | (rw [keepL_take hx1, show old p t x1 = false by (simp only [old, decide_eq_false_iff_not]; omega), List.length_append]; rfl) | (rw [keepL_take hx1, show old p t x1 = true by (simp only [old, decide_eq_true_eq]; omega), List.length_append]; rfl)), by first | rfl | (simp only [AV.map, GV.map, CV.map, AB.map', id]; done) | (congr 3; omega) | (congr 4; omega) | (simp only [List.length_append, List.length_cons, List.length_nil, List.length_set]; rfl) | (first | (rw [keepL_take hx1, show old p t x1 = false by (simp only [old, decide_eq_false_iff_not]; omega), List.length_append]; rfl) | (rw [keepL_take hx1, show old p t x1 = true by (simp only [old, decide_eq_true_eq]; omega), List.length_append]; rfl)), by first | rfl | (simp only [AV.map, GV.map, CV.map, AB.map', id]; done) | (congr 3; omega) | (congr 4; omega) | (simp only [List.length_append, List.length_cons, List.length_nil, List.length_set]; rfl) | (first | (rw [keepL_take hx1, show old p t x1 = false by (simp only [old, decide_eq_false_iff_not]; omega), List.length_append]; rfl) | (rw [keepL_take hx1, show old p t x1 = true by (simp only [old, decide_eq_true_eq]; omega), List.length_append]; rfl)), by first | rfl | (simp only [AV.map, GV.map, CV.map, AB.map', id]; done) | (congr 3; omega) | (congr 4; omega) | (simp only [List.length_append, List.length_cons, List.length_nil, List.length_set]; rfl) | (first | (rw [keepL_take hx1, show old p t x1 = false by (simp only [old, decide_eq_false_iff_not]; omega), List.length_append]; rfl) | (rw [keepL_take hx1, show old p t x1 = true by (simp only [old, decide_eq_true_eq]; omega), List.length_append]; rfl)), by first | rfl | (simp only [AV.map, GV.map, CV.map, AB.map', id]; done) | (congr 3; omega) | (congr 4; omega) | (simp only [List.length_append, List.length_cons, List.length_nil, List.length_set]; rfl) | (first | (rw [keepL_take hx1, show old p t x1 = false by (simp only [old, decide_eq_false_iff_not]; omega), List.length_append]; rfl) | (rw [keepL_take hx1, show old p t x1 = true by (simp only [old, decide_eq_true_eq]; omega), List.length_append]; rfl)), by first | rfl | (simp only [AV.map, GV.map, CV.map, AB.map', id]; done) | (congr 3; omega) | (congr 4; omega) | (simp only [List.length_append, List.length_cons, List.length_nil, List.length_set]; rfl) | (first | (rw [keepL_take hx1, show old p t x1 = false by (simp only [old, decide_eq_false_iff_not]; omega), List.length_append]; rfl) | (rw [keepL_take hx1, show old p t x1 = true by (simp only [old, decide_eq_true_eq]; omega), List.length_append]; rfl)),  trivial⟩) (⟨by first | rfl | (simp only [AV.map, GV.map, CV.map, AB.map', id]; done) | (congr 3; omega) | (congr 4; omega) | (simp only [List.length_append, List.length_cons, List.length_nil, List.length_set]; rfl) | (first | (rw [keepL_take hx1, show old p t x1 = false by (simp only [old, decide_eq_false_iff_not]; omega)]; rfl) | (rw [keepL_take hx1, show old p t x1 = true by (simp only [old, decide_eq_true_eq]; omega), if_pos rfl, List.append_nil]; rfl)), by first | rfl | (simp only [AV.map, GV.map, CV.map, AB.map', id]; done) | (congr 3; omega) | (congr 4; omega) | (simp only [List.length_append, List.length_cons, List.length_nil, List.length_set]; rfl) | (first | (rw [keepL_take hx1, show old p t x1 = false by (simp only [old, decide_eq_false_iff_not]; omega)]; rfl) | (rw [keepL_take hx1, show old p t x1 = true by (simp only [old, decide_eq_true_eq]; omega), if_pos rfl, List.append_nil]; rfl)),  trivial⟩) rfl⟩
      ·
        have hc2' := hc2; try simp only [sumB, Bool.not_eq_true', Bool.not_eq_false', Bool.or_eq_true, Bool.or_eq_false_iff, Bool.and_eq_true, Bool.and_eq_false_imp, decide_eq_true_eq, decide_eq_false_iff_not, Bool.not_not, Bool.not_true, Bool.not_false] at hc2'
        refine AC.skip ?_
        refine block_ok ?_
        refine then_ok ?_
        refine AC.region ?_
        refine AL.val (Wanted.plain rfl) (g_binI rfl rfl rfl (wrap_ok (by first | omega | (simp; done) | (simp; omega)))) rfl rfl ?_
        refine AL.fast 1 rfl ?_
        refine AL.nil ?_
        refine then_ok ?_
        refine ⟨q + 1, by first | omega | trivial, by first | omega | (simp; done) | (simp; omega), Weak.ren id (⟨by first | rfl | (simp only [AV.map, GV.map, CV.map, AB.map', id]; done) | (congr 3; omega) | (congr 4; omega) | (simp only [List.length_append, List.length_cons, List.length_nil, List.length_set]; rfl) | (first | (rw [keepL_take hx1, show old p t x1 = false by (simp only [old, decide_eq_false_iff_not]; omega), List.length_append]; rfl) | (rw [keepL_take hx1, show old p t x1 = true by (simp only [old, decide_eq_true_eq]; omega), List.length_append]; rfl)), by first | rfl | (simp only [AV.map, GV.map, CV.map, AB.map', id]; done) | (congr 3; omega) | (congr 4; omega) | (simp only [List.length_append, List.length_cons, List.length_nil, List.length_set]; rfl) | (first | (rw [keepL_take hx1, show old p t x1 = false by (simp only [old, decide_eq_false_iff_not]; omega), List.length_append]; rfl) | (rw [keepL_take hx1, show old p t x1 = true by (simp only [old, decide_eq_true_eq]; omega), List.length_append]; rfl)), by first | rfl | (simp only [AV.map, GV.map, CV.map, AB.map', id]; done) | (congr 3; omega) | (congr 4; omega) | (simp only [List.length_append, List.length_cons, List.length_nil, List.length_set]; rfl) | (first | (rw [keepL_take hx1, show old p t x1 = false by (simp only [old, decide_eq_false_iff_not]; omega), List.length_append]; rfl) | (rw [keepL_take hx1, show old p t x1 = true by (simp only [old, decide_eq_true_eq]; omega), List.length_append]; rfl)), by first | rfl | (simp only [AV.map, GV.map, CV.map, AB.map', id]; done) | (congr 3; omega) | (congr 4; omega) | (simp only [List.length_append, List.length_cons, List.length_nil, List.length_set]; rfl) | (first | (rw [keepL_take hx1, show old p t x1 = false by (simp only [old, decide_eq_false_iff_not]; omega), List.length_append]; rfl) | (rw [keepL_take hx1, show old p t x1 = true by (simp only [old, decide_eq_true_eq]; omega), List.length_append]; rfl)), by first | rfl | (simp only [AV.map, GV.map, CV.map, AB.map', id]; done) | (congr 3; omega) | (congr 4; omega) | (simp only [List.length_append, List.length_cons, List.length_nil, List.length_set]; rfl) | (first | (rw [keepL_take hx1, show old p t x1 = false by (simp only [old, decide_eq_false_iff_not]; omega), List.length_append]; rfl) | (rw [keepL_take hx1, show old p t x1 = true by (simp only [old, decide_eq_true_eq]; omega), List.length_append]; rfl)), by first | rfl | (simp only [AV.map, GV.map, CV.map, AB.map', id]; done) | (congr 3; omega) | (congr 4; omega) | (simp only [List.length_append, List.length_cons, List.length_nil, List.length_set]; rfl) | (first | (rw [keepL_take hx1, show old p t x1 = false by (simp only [old, decide_eq_false_iff_not]; omega), List.length_append]; rfl) | (rw [keepL_take hx1, show old p t x1 = true by (simp only [old, decide_eq_true_eq]; omega), List.length_append]; rfl)), by first | rfl | (simp only [AV.map, GV.map, CV.map, AB.map', id]; done) | (congr 3; omega) | (congr 4; omega) | (simp only [List.length_append, List.length_cons, List.length_nil, List.length_set]; rfl) | (first | (rw [keepL_take hx1, show old p t x1 = false by (simp only [old, decide_eq_false_iff_not]; omega), List.length_append]; rfl) | (rw [keepL_take hx1, show old p t x1 = true by (simp only [old, decide_eq_true_eq]; omega), List.length_append]; rfl)),  trivial⟩) (⟨by first | rfl | (simp only [AV.map, GV.map, CV.map, AB.map', id]; done) | (congr 3; omega) | (congr 4; omega) | (simp only [List.length_append, List.length_cons, List.length_nil, List.length_set]; rfl) | (first | (rw [keepL_take hx1, show old p t x1 = false by (simp only [old, decide_eq_false_iff_not]; omega)]; rfl) | (rw [keepL_take hx1, show old p t x1 = true by (simp only [old, decide_eq_true_eq]; omega), if_pos rfl, List.append_nil]; rfl)), by first | rfl | (simp only [AV.map, GV.map, CV.map, AB.map', id]; done) | (congr 3; omega) | (congr 4; omega) | (simp only [List.length_append, List.length_cons, List.length_nil, List.length_set]; rfl) | (first | (rw [keepL_take hx1, show old p t x1 = false by (simp only [old, decide_eq_false_iff_not]; omega)]; rfl) | (rw [keepL_take hx1, show old p t x1 = true by (simp only [old, decide_eq_true_eq]; omega), if_pos rfl, List.append_nil]; rfl)),  trivial⟩) rfl⟩
    ·
      have hc1' := hc1; try simp only [sumB, Bool.not_eq_true', Bool.not_eq_false', Bool.or_eq_true, Bool.or_eq_false_iff, Bool.and_eq_true, Bool.and_eq_false_imp, decide_eq_true_eq, decide_eq_false_iff_not, Bool.not_not, Bool.not_true, Bool.not_false] at hc1'
      refine AC.exit ?_
      refine then_exit ?_
      refine then_exit ?_
      refine block_hit ?_
      refine then_ok ?_
      refine AC.seq ?_
      refine AC.region ?_
      refine AL.fast 2 rfl ?_
      refine AL.nil ?_
      refine then_ok ?_
      refine AC.ret ?_
      have hX : recentP p l t = (keepL (old p t) (l.take q)) := by
        rw [List.take_of_length_le (by omega)]; rfl
      rw [hX] at hr; clear hX
      subst hr
      refine retQ_mk (av' := outOf [(.c (.s 0 0 2 ((keepL (old p t) (l.take q)).length)))]) (nb' := [(0, (.arr 44 2 ((keepL (old p t) (l.take q)).map rUse)))]) (retQ_ret ⟨[(6, (aC (.s 0 0 2 ((keepL (old p t) (l.take q)).length))))], [(0, (.arr 44 2 ((keepL (old p t) (l.take q)).map rUse)))], 1⟩ [.tmp 6] [(.c (.s 0 0 2 ((keepL (old p t) (l.take q)).length)))] (Weak.ren (fun k => if k = 0 then 1 else k) (⟨by first | rfl | (simp only [AV.map, GV.map, CV.map, AB.map', id]; done) | (congr 3; omega) | (congr 4; omega) | (simp only [List.length_append, List.length_cons, List.length_nil, List.length_set]; rfl),  trivial⟩) (⟨by first | rfl | (simp only [AV.map, GV.map, CV.map, AB.map', id]; done) | (congr 3; omega) | (congr 4; omega) | (simp only [List.length_append, List.length_cons, List.length_nil, List.length_set]; rfl),  trivial⟩) rfl) rfl ⟨.tmp rfl, trivial⟩ ⟨by first | rfl | (simp only [AV.map, GV.map, CV.map, AB.map', id]; done) | (congr 3; omega) | (congr 4; omega) | (simp only [List.length_append, List.length_cons, List.length_nil, List.length_set]; rfl),  trivial⟩) ?_ ?_
      · first | rfl | (simp [outOf, aC]; done) | (simp [outOf, aC]; omega)
      · first | rfl | (simp; done) | (simp; omega)
end Go.Proofs.Ytgmcdlfmifijlaa.Dev
