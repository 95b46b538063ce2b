/- cmp.Or, day.order. -/
import Derived.Test.YtgmcdlfmifijlaaDBook3
import Derived.Test.YtgmcdlfmifijlaaDSh21
import Derived.Test.YtgmcdlfmifijlaaDPlSorts
import Derived.Test.YtgmcdlfmifijlaaDCom
set_option linter.unusedVariables false
set_option linter.unusedSimpArgs false
namespace Go.Proofs.Ytgmcdlfmifijlaa.Dev
open Go.RowKit


def firstNZ : List Int → Int
  | [] => 0
  | x :: l => if x = 0 then firstNZ l else x
def ordR (a b : Record) : Int := firstNZ [cmpI a.shop b.shop, cmpI a.auth b.auth]
theorem firstNZ_z {l : List Int} {i : Nat} {x : Int} (hx : l[i]? = some x) (h : x = 0) : firstNZ (l.drop i) = firstNZ (l.drop (i + 1)) := by
  obtain ⟨hi, rfl⟩ := List.getElem?_eq_some_iff.1 hx
  rw [List.drop_eq_getElem_cons hi, firstNZ, if_pos h]
theorem firstNZ_n {l : List Int} {i : Nat} {x : Int} (hx : l[i]? = some x) (h : ¬ x = 0) : firstNZ (l.drop i) = x := by
  obtain ⟨hi, rfl⟩ := List.getElem?_eq_some_iff.1 hx
  rw [List.drop_eq_getElem_cons hi, firstNZ, if_neg h]
theorem ordR_lt {a b : Record} : ordR a b < 0 ↔ ltR a b = true := by
  rw [ltR_t]
  have h1 := cmpI_neg (a := a.shop) (b := b.shop)
  have h2 := cmpI_zero (a := a.shop) (b := b.shop)
  have h3 := cmpI_neg (a := a.auth) (b := b.auth)
  have h4 := cmpI_zero (a := a.auth) (b := b.auth)
  unfold ordR firstNZ firstNZ firstNZ
  split
  · split <;> omega
  · omega
theorem ordR_ge {a b : Record} (h : ¬ ordR a b < 0) : ltR a b = false := by
  cases hb : ltR a b with
  | false => rfl
  | true => exact absurd (ordR_lt.2 hb) h
theorem look_i {l : List (Nat × AV)} {t : Nat} {x y : Int} {ρ : Nat → Nat} (h : look l t = some (aI x)) (e : x = y) : look l t = some (AV.map ρ (aI y)) := by subst e; exact h

set_option maxRecDepth 100000 in
set_option maxHeartbeats 1000000 in
theorem c_Or (l : List Int) (r : Int) (hr : firstNZ l = r) : Fn Try.prog 132 [(.c (cR 1 ((l).map rI)))] (.v (.c (cI r))) [] := by
  refine Fn.mk' 18 [(0, (aC (cR 1 ((l).map rI))))] Try.func132 rfl rfl rfl rfl ?_
  intro W0 T0
  refine AC.len1 0 rfl (fun hlen0 => ?_)
  refine AC.seq ?_
  refine AC.region ?_
  refine AL.fast 1 rfl ?_
  refine AL.nil ?_
  refine then_ok ?_
  refine AC.seq ?_
  refine AC.region ?_
  refine AL.fast 1 rfl ?_
  refine AL.nil ?_
  refine then_ok ?_
  refine AC.seq ?_
  refine AC.seq ?_
  refine AC.region ?_
  refine AL.fast 1 rfl ?_
  refine AL.val (Wanted.plain rfl) (g_lenM rfl rfl rfl rfl rfl Try.underlying24) rfl rfl ?_
  refine AL.fast 1 rfl ?_
  refine AL.nil ?_
  refine then_ok ?_
  refine AC.block ?_
  refine AC.loop (β := Nat) (fun (i : Nat) => ⟨[(3, (aI 0)), (6, (aC (cR 1 ((l).map rI)))), (7, (aI (↑l.length : Int))), (8, (aI (↑i : Int)))], [], 0⟩) (fun (i : Nat) => i ≤ l.length ∧ firstNZ (l.drop i) = firstNZ l) (fun (i : Nat) => l.length - i) 0 ?_ ?_ ?_
  · exact ⟨by omega, rfl⟩
  · exact Weak.ren id (by refine ⟨?_, ?_, ?_, ?_,  trivial⟩ <;> first | rfl | (simp only [AV.map, GV.map, CV.map, AB.map', id]; done) | (congr 3; omega) | (congr 4; omega) | (simp only [List.length_append, List.length_cons, List.length_nil, List.length_set]; rfl)) (trivial) rfl
  ·
    rintro i ⟨hi0_0, hi0_1⟩
    refine AC.seq ?_
    refine AC.region ?_
    refine AL.val (Wanted.plain rfl) (g_binI rfl rfl rfl rfl) rfl rfl ?_
    refine AL.nil ?_
    refine then_ok ?_
    refine AC.seq ?_
    refine AC.cond rfl (fun hc1 => ?_) (fun hc1 => ?_)
    ·
      have hc1' := hc1; try simp only [sumB, Bool.not_eq_true', Bool.not_eq_false', Bool.or_eq_true, Bool.or_eq_false_iff, Bool.and_eq_true, Bool.and_eq_false_imp, decide_eq_true_eq, decide_eq_false_iff_not, Bool.not_not, Bool.not_true, Bool.not_false] at hc1'
      refine AC.skip ?_
      refine then_ok ?_
      refine AC.seq ?_
      refine AC.block ?_
      refine AC.seq ?_
      refine AC.region ?_
      obtain ⟨x1, hx1⟩ := exget (xs := l) (i := i) (by first | omega | (simp; done) | (simp; omega))
      refine AL.val (Wanted.plain rfl) (g_indexQ (i := i) rfl rfl rfl Try.underlying24 sz3 (by first | omega | (simp; done) | (simp; omega)) (getmap hx1)) rfl rfl ?_
      refine AL.val (Wanted.plain rfl) (g_loadQ rfl rfl Try.underlying3 rfl rfl) rfl rfl ?_
      refine AL.fast 1 rfl ?_
      refine AL.nil ?_
      refine then_ok ?_
      refine AC.seq ?_
      refine AC.region ?_
      refine AL.fast 2 rfl ?_
      refine AL.val (Wanted.plain rfl) (g_binI rfl rfl rfl rfl) rfl rfl ?_
      refine AL.nil ?_
      refine then_ok ?_
      refine AC.cond rfl (fun hc2 => ?_) (fun hc2 => ?_)
      ·
        have hc2' := hc2; try simp only [sumB, Bool.not_eq_true', Bool.not_eq_false', Bool.or_eq_true, Bool.or_eq_false_iff, Bool.and_eq_true, Bool.and_eq_false_imp, decide_eq_true_eq, decide_eq_false_iff_not, Bool.not_not, Bool.not_true, Bool.not_false] at hc2'
        refine AC.seq ?_
        refine AC.region ?_
        refine AL.fast 2 rfl ?_
        refine AL.nil ?_
        refine then_ok ?_
        refine AC.ret ?_
        refine block_ret ?_
        refine then_ret ?_
        refine then_ret ?_
        refine block_ret ?_
        refine then_ret ?_
        have hX : firstNZ l = x1 := by
          rw [← hi0_1]; first | exact firstNZ_n hx1 (by omega) | (rw [List.drop_of_length_le (by omega)]; rfl)
        rw [hX] at hr; clear hX
        subst hr
        refine retQ_mk (av' := outOf [(.c (cI x1))]) (nb' := []) (retQ_ret ⟨[(2, (aI x1))], [], 0⟩ [.tmp 2] [(.c (cI x1))] (Weak.ren id (⟨by first | rfl | (simp only [AV.map, GV.map, CV.map, AB.map', id]; done) | (congr 3; omega) | (congr 4; omega) | (simp only [List.length_append, List.length_cons, List.length_nil, List.length_set]; rfl), trivial⟩) (trivial) rfl) rfl ⟨.tmp rfl, trivial⟩ trivial) ?_ ?_
        · first | rfl | (simp [outOf, aC]; done) | (simp [outOf, aC]; omega)
        · first | rfl | (simp; done) | (simp; omega)
      ·
        have hc2' := hc2; try simp only [sumB, Bool.not_eq_true', Bool.not_eq_false', Bool.or_eq_true, Bool.or_eq_false_iff, Bool.and_eq_true, Bool.and_eq_false_imp, decide_eq_true_eq, decide_eq_false_iff_not, Bool.not_not, Bool.not_true, Bool.not_false] at hc2'
        refine AC.skip ?_
        refine block_ok ?_
        refine then_ok ?_
        refine AC.region ?_
        refine AL.val (Wanted.plain rfl) (g_binI rfl rfl rfl (wrap_ok (by first | omega | (simp; done) | (simp; omega)))) rfl rfl ?_
        refine AL.fast 1 rfl ?_
        refine AL.nil ?_
        refine then_ok ?_
        refine ⟨i + 1, ⟨by omega, by rw [← firstNZ_z hx1 (by omega)]; exact hi0_1⟩, by first | omega | (simp; done) | (simp; omega), Weak.ren id (by refine ⟨?_, ?_, ?_, ?_,  trivial⟩ <;> first | rfl | (simp only [AV.map, GV.map, CV.map, AB.map', id]; done) | (congr 3; omega) | (congr 4; omega) | (simp only [List.length_append, List.length_cons, List.length_nil, List.length_set]; rfl)) (trivial) rfl⟩
    ·
      have hc1' := hc1; try simp only [sumB, Bool.not_eq_true', Bool.not_eq_false', Bool.or_eq_true, Bool.or_eq_false_iff, Bool.and_eq_true, Bool.and_eq_false_imp, decide_eq_true_eq, decide_eq_false_iff_not, Bool.not_not, Bool.not_true, Bool.not_false] at hc1'
      refine AC.exit ?_
      refine then_exit ?_
      refine then_exit ?_
      refine block_hit ?_
      refine then_ok ?_
      refine AC.seq ?_
      refine AC.region ?_
      refine AL.fast 2 rfl ?_
      refine AL.nil ?_
      refine then_ok ?_
      refine AC.ret ?_
      have hX : firstNZ l = 0 := by
        rw [← hi0_1]; first | exact firstNZ_n hx1 (by omega) | (rw [List.drop_of_length_le (by omega)]; rfl)
      rw [hX] at hr; clear hX
      subst hr
      refine retQ_mk (av' := outOf [(.c (cI 0))]) (nb' := []) (retQ_ret ⟨[(2, (aI 0))], [], 0⟩ [.tmp 2] [(.c (cI 0))] (Weak.ren id (⟨by first | rfl | (simp only [AV.map, GV.map, CV.map, AB.map', id]; done) | (congr 3; omega) | (congr 4; omega) | (simp only [List.length_append, List.length_cons, List.length_nil, List.length_set]; rfl), trivial⟩) (trivial) rfl) rfl ⟨.tmp rfl, trivial⟩ trivial) ?_ ?_
      · first | rfl | (simp [outOf, aC]; done) | (simp [outOf, aC]; omega)
      · first | rfl | (simp; done) | (simp; omega)
set_option maxRecDepth 100000 in
set_option maxHeartbeats 1000000 in
theorem c_order (x y : Record) : Fn Try.prog 120 [(.g [(cI x.shop), (cI x.auth), (cI x.kind), (cI x.sum)]), (.g [(cI y.shop), (cI y.auth), (cI y.kind), (cI y.sum)])] (aI (ordR x y)) [] := by
  refine Fn.mk' 17 [(0, (aG [(cI x.shop), (cI x.auth), (cI x.kind), (cI x.sum)])), (1, (aG [(cI y.shop), (cI y.auth), (cI y.kind), (cI y.sum)]))] Try.func120 rfl rfl rfl rfl ?_
  intro W0 T0
  refine AC.seq ?_
  refine AC.region ?_
  refine AL.new (n' := 1) (Wanted.plain rfl) (g_boxS 0 rfl rfl) rfl rfl rfl ?_
  refine AL.new (n' := 2) (Wanted.plain rfl) (g_boxS 1 rfl rfl) rfl rfl rfl ?_
  refine AL.fast 1 rfl ?_
  refine AL.nil ?_
  refine then_ok ?_
  refine AC.seq ?_
  have hr0 : cmpI x.shop y.shop = cmpI x.shop y.shop := rfl
  have hr1 : cmpI x.auth y.auth = cmpI x.auth y.auth := rfl
  have hr2 : firstNZ ([cmpI x.shop y.shop, cmpI x.auth y.auth]) = firstNZ ([cmpI x.shop y.shop, cmpI x.auth y.auth]) := rfl
  refine AC.weak (st' := ⟨[(2, (aC (.p 0 0 0 0))), (3, (aC (.p 1 0 0 0)))], [(1, (.box 127 [(cI y.shop), (cI y.auth), (cI y.kind), (cI y.sum)])), (0, (.box 127 [(cI x.shop), (cI x.auth), (cI x.kind), (cI x.sum)]))], 2⟩) (Weak.ren id (by refine ⟨?_, ?_,  trivial⟩ <;> first | rfl | (simp only [AV.map, GV.map, CV.map, AB.map', id]; done) | (congr 3; omega) | (congr 4; omega) | (simp only [List.length_append, List.length_cons, List.length_nil, List.length_set]; rfl)) (by refine ⟨?_, ?_,  trivial⟩ <;> first | rfl | (simp only [AV.map, GV.map, CV.map, AB.map', id]; done) | (congr 3; omega) | (congr 4; omega) | (simp only [List.length_append, List.length_cons, List.length_nil, List.length_set]; rfl)) rfl) ?_
  refine AC.draw [⟨some 5, (aC (.p 0 0 0 0)), [], [], [], [(2, (aC (.p 0 0 0 0)))], [(0, (.box 127 [(cI x.shop), (cI x.auth), (cI x.kind), (cI x.sum)]))]⟩,
      ⟨some 6, (aI x.shop), [], [], [0], [(5, (aC (.p 0 0 0 0)))], [(0, (.box 127 [(cI x.shop), (cI x.auth), (cI x.kind), (cI x.sum)]))]⟩,
      ⟨some 7, (aC (.p 1 0 0 0)), [], [], [], [(3, (aC (.p 1 0 0 0)))], [(1, (.box 127 [(cI y.shop), (cI y.auth), (cI y.kind), (cI y.sum)]))]⟩,
      ⟨some 8, (aI y.shop), [], [], [2], [(7, (aC (.p 1 0 0 0)))], [(1, (.box 127 [(cI y.shop), (cI y.auth), (cI y.kind), (cI y.sum)]))]⟩,
      ⟨some 9, (aI (cmpI x.shop y.shop)), [], [], [1, 3], [(6, (aI x.shop)), (8, (aI y.shop))], []⟩,
      ⟨some 10, (aC (.p 0 0 0 1)), [], [], [], [(2, (aC (.p 0 0 0 0)))], [(0, (.box 127 [(cI x.shop), (cI x.auth), (cI x.kind), (cI x.sum)]))]⟩,
      ⟨some 11, (aI x.auth), [], [], [5], [(10, (aC (.p 0 0 0 1)))], [(0, (.box 127 [(cI x.shop), (cI x.auth), (cI x.kind), (cI x.sum)]))]⟩,
      ⟨some 12, (aC (.p 1 0 0 1)), [], [], [], [(3, (aC (.p 1 0 0 0)))], [(1, (.box 127 [(cI y.shop), (cI y.auth), (cI y.kind), (cI y.sum)]))]⟩,
      ⟨some 13, (aI y.auth), [], [], [7], [(12, (aC (.p 1 0 0 1)))], [(1, (.box 127 [(cI y.shop), (cI y.auth), (cI y.kind), (cI y.sum)]))]⟩,
      ⟨some 14, (aI (cmpI x.auth y.auth)), [], [], [6, 8], [(11, (aI x.auth)), (13, (aI y.auth))], []⟩,
      ⟨some 15, (aC (.s 2 0 1 2)), [(2, (.arr 3 1 (([cmpI x.shop y.shop, cmpI x.auth y.auth]).map rI)))], [], [4, 9], [(9, (aI (cmpI x.shop y.shop))), (14, (aI (cmpI x.auth y.auth)))], []⟩,
      ⟨some 16, (aI (firstNZ ([cmpI x.shop y.shop, cmpI x.auth y.auth]))), [], [], [10], [(15, (aC (.s 2 0 1 2)))], [(2, (.arr 3 1 (([cmpI x.shop y.shop, cmpI x.auth y.auth]).map rI)))]⟩,
      ⟨some 4, (aI (firstNZ ([cmpI x.shop y.shop, cmpI x.auth y.auth]))), [], [], [11], [(16, (aI (firstNZ ([cmpI x.shop y.shop, cmpI x.auth y.auth]))))], []⟩] ⟨[(2, (aC (.p 0 0 0 0))), (3, (aC (.p 1 0 0 0))), (4, (aI (firstNZ ([cmpI x.shop y.shop, cmpI x.auth y.auth]))))], [(1, (.box 127 [(cI y.shop), (cI y.auth), (cI y.kind), (cI y.sum)])), (0, (.box 127 [(cI x.shop), (cI x.auth), (cI x.kind), (cI x.sum)]))], 3⟩ mixed (by kernel_rfl) ?_ ?_ ?_ ?_
  · exact ⟨.inl ⟨(Wanted.plain rfl), GOp.cast (g_fieldP rfl rfl Try.underlying127 rfl sz3 (by decide)) rfl⟩,
      .inl ⟨(Wanted.plain rfl), GOp.cast (g_loadB rfl rfl rfl Try.underlying3 rfl rfl) rfl⟩,
      .inl ⟨(Wanted.plain rfl), GOp.cast (g_fieldP rfl rfl Try.underlying127 rfl sz3 (by decide)) rfl⟩,
      .inl ⟨(Wanted.plain rfl), GOp.cast (g_loadB rfl rfl rfl Try.underlying3 rfl rfl) rfl⟩,
      .inl ⟨(Wanted.plain rfl), GOp.cast (g_call 2 (c_Compare x.shop y.shop  (cmpI x.shop y.shop) hr0) en128 rfl rfl ⟨⟨_, rfl, .c (.d _)⟩, ⟨_, rfl, .c (.d _)⟩,  trivial⟩ trivial trivial rfl rfl rfl rfl) rfl⟩,
      .inl ⟨(Wanted.plain rfl), GOp.cast (g_fieldP rfl rfl Try.underlying127 rfl sz3 (by decide)) rfl⟩,
      .inl ⟨(Wanted.plain rfl), GOp.cast (g_loadB rfl rfl rfl Try.underlying3 rfl rfl) rfl⟩,
      .inl ⟨(Wanted.plain rfl), GOp.cast (g_fieldP rfl rfl Try.underlying127 rfl sz3 (by decide)) rfl⟩,
      .inl ⟨(Wanted.plain rfl), GOp.cast (g_loadB rfl rfl rfl Try.underlying3 rfl rfl) rfl⟩,
      .inl ⟨(Wanted.plain rfl), GOp.cast (g_call 2 (c_Compare x.auth y.auth  (cmpI x.auth y.auth) hr1) en128 rfl rfl ⟨⟨_, rfl, .c (.d _)⟩, ⟨_, rfl, .c (.d _)⟩,  trivial⟩ trivial trivial rfl rfl rfl rfl) rfl⟩,
      .inl ⟨(Wanted.plain rfl), GOp.cast (g_lit (ys := [(0, (.c (cI (cmpI x.shop y.shop)))), (1, (.c (cI (cmpI x.auth y.auth))))]) (rows := ([cmpI x.shop y.shop, cmpI x.auth y.auth]).map rI) 2 sl24 rfl (by decide) ⟨⟨rfl, rfl⟩, ⟨rfl, rfl⟩,  trivial⟩ rfl rfl rfl rfl) rfl⟩,
      .inl ⟨(Wanted.plain rfl), GOp.cast (g_callE 3 [2] (c_Or ([cmpI x.shop y.shop, cmpI x.auth y.auth])  (firstNZ ([cmpI x.shop y.shop, cmpI x.auth y.auth])) hr2) en132 rfl rfl ⟨⟨_, rfl, .c (.s rfl (by decide) (by first | omega | (simp; done) | (simp; omega)))⟩,  trivial⟩ rfl trivial rfl rfl rfl rfl) rfl⟩,
      .inl ⟨(Wanted.plain rfl), GOp.cast (g_assign rfl rfl) rfl⟩,
       trivial⟩
  · exact ⟨⟨⟨.inl rfl,  trivial⟩, ⟨.inl rfl,  trivial⟩⟩, ⟨⟨.inr ⟨0, .head _, _, rfl, rfl, rfl⟩,  trivial⟩, ⟨.inl rfl,  trivial⟩⟩, ⟨⟨.inl rfl,  trivial⟩, ⟨.inl rfl,  trivial⟩⟩, ⟨⟨.inr ⟨2, .head _, _, rfl, rfl, rfl⟩,  trivial⟩, ⟨.inl rfl,  trivial⟩⟩, ⟨⟨.inr ⟨1, .head _, _, rfl, rfl, rfl⟩, .inr ⟨3, .tail _ (.head _), _, rfl, rfl, rfl⟩,  trivial⟩, trivial⟩, ⟨⟨.inl rfl,  trivial⟩, ⟨.inl rfl,  trivial⟩⟩, ⟨⟨.inr ⟨5, .head _, _, rfl, rfl, rfl⟩,  trivial⟩, ⟨.inl rfl,  trivial⟩⟩, ⟨⟨.inl rfl,  trivial⟩, ⟨.inl rfl,  trivial⟩⟩, ⟨⟨.inr ⟨7, .head _, _, rfl, rfl, rfl⟩,  trivial⟩, ⟨.inl rfl,  trivial⟩⟩, ⟨⟨.inr ⟨6, .head _, _, rfl, rfl, rfl⟩, .inr ⟨8, .tail _ (.head _), _, rfl, rfl, rfl⟩,  trivial⟩, trivial⟩, ⟨⟨.inr ⟨4, .head _, _, rfl, rfl, rfl⟩, .inr ⟨9, .tail _ (.head _), _, rfl, rfl, rfl⟩,  trivial⟩, trivial⟩, ⟨⟨.inr ⟨10, .head _, _, rfl, rfl, rfl⟩,  trivial⟩, ⟨.inr ⟨10, .head _, _, rfl, .head _⟩,  trivial⟩⟩, ⟨⟨.inr ⟨11, .head _, _, rfl, rfl, rfl⟩,  trivial⟩, trivial⟩,  trivial⟩
  · exact ⟨⟨.inl rfl, .inl rfl, .inr ⟨12, _, rfl, rfl, rfl⟩,  trivial⟩, ⟨.inl rfl, .inl rfl,  trivial⟩⟩
  ·
    refine AL.nil ?_
    refine then_ok ?_
    refine AC.ret ?_
    refine retQ_mk (av' := outOf [(.c (cI (firstNZ ([cmpI x.shop y.shop, cmpI x.auth y.auth]))))]) (nb' := []) (retQ_ret ⟨[(4, (aI (firstNZ ([cmpI x.shop y.shop, cmpI x.auth y.auth]))))], [], 0⟩ [.tmp 4] [(.c (cI (firstNZ ([cmpI x.shop y.shop, cmpI x.auth y.auth]))))] (Weak.ren id (⟨by first | rfl | (simp only [AV.map, GV.map, CV.map, AB.map', id]; done) | (congr 3; omega) | (congr 4; omega) | (simp only [List.length_append, List.length_cons, List.length_nil, List.length_set]; rfl), trivial⟩) (trivial) rfl) rfl ⟨.tmp rfl, trivial⟩ trivial) ?_ ?_
    · first | rfl | (simp [outOf, aC]; done) | (simp [outOf, aC]; omega)
    · rfl
end Go.Proofs.Ytgmcdlfmifijlaa.Dev
namespace Go.Proofs.Ytgmcdlfmifijlaa.Dev
open Go.RowKit

set_option maxRecDepth 100000 in
set_option maxHeartbeats 1000000 in
theorem c_swapRange (d : List Record) (N a b n : Nat) (fn : FuncId) (caps : List (List D)) (hp : ∀ x y : Record, Fn Try.prog fn ([.g [cI x.shop, cI x.auth, cI x.kind, cI x.sum], .g [cI y.shop, cI y.auth, cI y.kind, cI y.sum]] ++ caps.map fun r => GV.c (.q r 0)) (aI (ordR x y)) []) (hen : Enters Try.prog fn) (hl : d.length * 32 ≤ 140737488355328) (hN : N = d.length) (h0_ : a + n ≤ d.length) (h1_ : b + n ≤ d.length) (r : List Record) (hr : swapR a b n d = r) : FnE Try.prog 142 [(.c (.s 0 0 4 N)), (.c (cI (↑a : Int))), (.c (cI (↑b : Int))), (.c (cI (↑n : Int))), (.c (.d (.f fn caps)))] [(0, (.arr 127 4 ((d).map rRecord)))] [0] (.t []) [(0, (.arr 127 4 ((r).map rRecord)))] := by
  refine FnE.mk 38 [(0, (aC (.s 0 0 4 N))), (1, (aI (↑a : Int))), (2, (aI (↑b : Int))), (3, (aI (↑n : Int))), (4, (aC (.d (.f fn caps))))] 1 Try.func142 rfl rfl rfl rfl rfl rfl rfl rfl rfl ?_
  intro W0 F0 T0 pg
  refine AC.lenS 0 rfl (fun hlen0 => ?_)
  refine AC.seq ?_
  refine AC.region ?_
  refine AL.fast 1 rfl ?_
  refine AL.nil ?_
  refine then_ok ?_
  refine AC.block ?_
  refine AC.loop (β := Nat × List Record) (fun (p : Nat × List Record) => match p with | (i, d1) => ⟨[(0, (aC (.s 0 0 4 N))), (1, (aI (↑a : Int))), (2, (aI (↑b : Int))), (3, (aI (↑n : Int))), (10, (aI (↑i : Int)))], [(0, (.arr 127 4 ((d1).map rRecord)))], 1⟩) (fun (p : Nat × List Record) => match p with | (i, d1) => i ≤ n ∧ d1 = swapR a b i d ∧ d1.length = d.length) (fun (p : Nat × List Record) => match p with | (i, d1) => n - i) (0, d) ?_ ?_ ?_
  · exact ⟨by omega, rfl, rfl⟩
  · exact Weak.ren id (by refine ⟨?_, ?_, ?_, ?_, ?_,  trivial⟩ <;> first | rfl | (simp only [AV.map, GV.map, CV.map, AB.map', id]; done) | (congr 3; omega) | (congr 4; omega) | (simp only [List.length_append, List.length_cons, List.length_nil, List.length_set]; rfl) | (exact look_i rfl (by omega))) (⟨by first | rfl | (simp only [AV.map, GV.map, CV.map, AB.map', id]; done) | (congr 3; omega) | (congr 4; omega) | (simp only [List.length_append, List.length_cons, List.length_nil, List.length_set]; rfl), trivial⟩) rfl
  ·
    rintro ⟨i, d1⟩ ⟨hi0_0, hi0_1, hi0_2⟩
    refine AC.seq ?_
    refine AC.seq ?_
    refine AC.region ?_
    refine AL.fast 2 rfl ?_
    refine AL.val (Wanted.plain rfl) (g_binI rfl rfl rfl rfl) rfl rfl ?_
    refine AL.nil ?_
    refine then_ok ?_
    refine AC.cond rfl (fun hc1 => ?_) (fun hc1 => ?_)
    ·
      have hc1' := hc1; try simp only [sumB, Bool.not_eq_true', Bool.not_eq_false', Bool.or_eq_true, Bool.or_eq_false_iff, Bool.and_eq_true, Bool.and_eq_false_imp, decide_eq_true_eq, decide_eq_false_iff_not, Bool.not_not, Bool.not_true, Bool.not_false] at hc1'
      refine AC.skip ?_
      refine then_ok ?_
      refine AC.seq ?_
      refine AC.block ?_
      obtain ⟨x1, hx1⟩ := exget (xs := d1) (i := (b) + (i)) (by first | omega | (simp; done) | (simp; omega))
      obtain ⟨x2, hx2⟩ := exget (xs := d1) (i := (a) + (i)) (by first | omega | (simp; done) | (simp; omega))
      obtain ⟨x3, hx3⟩ := exget (xs := ((d1).set ((a) + (i)) x1)) (i := (b) + (i)) (by first | omega | (simp; done) | (simp; omega))
      refine AC.weak (st' := ⟨[(0, (aC (.s 0 0 4 N))), (1, (aI (↑a : Int))), (2, (aI (↑b : Int))), (3, (aI (↑n : Int))), (10, (aI (↑i : Int)))], [(0, (.arr 127 4 ((d1).map rRecord)))], 1⟩) (Weak.ren id (by refine ⟨?_, ?_, ?_, ?_, ?_,  trivial⟩ <;> first | rfl | (simp only [AV.map, GV.map, CV.map, AB.map', id]; done) | (congr 3; omega) | (congr 4; omega) | (simp only [List.length_append, List.length_cons, List.length_nil, List.length_set]; rfl)) (⟨by first | rfl | (simp only [AV.map, GV.map, CV.map, AB.map', id]; done) | (congr 3; omega) | (congr 4; omega) | (simp only [List.length_append, List.length_cons, List.length_nil, List.length_set]; rfl), trivial⟩) rfl) ?_
      refine AC.drawW [⟨some 16, (aC (.s 0 0 4 N)), [], [], [], [(0, (aC (.s 0 0 4 N)))], []⟩,
      ⟨some 17, (aI (↑a : Int)), [], [], [], [(1, (aI (↑a : Int)))], []⟩,
      ⟨some 18, (aI (↑i : Int)), [], [], [], [(10, (aI (↑i : Int)))], []⟩,
      ⟨some 19, (aI ((↑a : Int) + (↑i : Int))), [], [], [2, 1], [(17, (aI (↑a : Int))), (18, (aI (↑i : Int)))], []⟩,
      ⟨some 20, (aC (.s 0 0 4 N)), [], [], [], [(0, (aC (.s 0 0 4 N)))], []⟩,
      ⟨some 21, (aI (↑b : Int)), [], [], [], [(2, (aI (↑b : Int)))], []⟩,
      ⟨some 22, (aI (↑i : Int)), [], [], [], [(10, (aI (↑i : Int)))], []⟩,
      ⟨some 23, (aI ((↑b : Int) + (↑i : Int))), [], [], [6, 5], [(21, (aI (↑b : Int))), (22, (aI (↑i : Int)))], []⟩,
      ⟨some 24, (aC (.s 0 0 4 N)), [], [], [], [(0, (aC (.s 0 0 4 N)))], []⟩,
      ⟨some 25, (aI (↑b : Int)), [], [], [], [(2, (aI (↑b : Int)))], []⟩,
      ⟨some 26, (aI (↑i : Int)), [], [], [], [(10, (aI (↑i : Int)))], []⟩,
      ⟨some 27, (aI ((↑b : Int) + (↑i : Int))), [], [], [10, 9], [(25, (aI (↑b : Int))), (26, (aI (↑i : Int)))], []⟩,
      ⟨some 28, (aC (.p 0 ((b) + (i)) 4 0)), [], [], [11, 8], [(24, (aC (.s 0 0 4 N))), (27, (aI ((↑b : Int) + (↑i : Int))))], [(0, (.arr 127 4 ((d1).map rRecord)))]⟩,
      ⟨some 29, (aG [(cI x1.shop), (cI x1.auth), (cI x1.kind), (cI x1.sum)]), [], [], [12], [(28, (aC (.p 0 ((b) + (i)) 4 0)))], [(0, (.arr 127 4 ((d1).map rRecord)))]⟩,
      ⟨some 30, (aC (.s 0 0 4 N)), [], [], [], [(0, (aC (.s 0 0 4 N)))], []⟩,
      ⟨some 31, (aI (↑a : Int)), [], [], [], [(1, (aI (↑a : Int)))], []⟩,
      ⟨some 32, (aI (↑i : Int)), [], [], [], [(10, (aI (↑i : Int)))], []⟩,
      ⟨some 33, (aI ((↑a : Int) + (↑i : Int))), [], [], [16, 15], [(31, (aI (↑a : Int))), (32, (aI (↑i : Int)))], []⟩,
      ⟨some 34, (aC (.p 0 ((a) + (i)) 4 0)), [], [], [17, 14], [(30, (aC (.s 0 0 4 N))), (33, (aI ((↑a : Int) + (↑i : Int))))], [(0, (.arr 127 4 ((d1).map rRecord)))]⟩,
      ⟨some 35, (aG [(cI x2.shop), (cI x2.auth), (cI x2.kind), (cI x2.sum)]), [], [], [18], [(34, (aC (.p 0 ((a) + (i)) 4 0)))], [(0, (.arr 127 4 ((d1).map rRecord)))]⟩,
      ⟨some 36, (aC (.p 0 ((a) + (i)) 4 0)), [], [], [3, 0], [(16, (aC (.s 0 0 4 N))), (19, (aI ((↑a : Int) + (↑i : Int))))], [(0, (.arr 127 4 ((d1).map rRecord)))]⟩,
      ⟨none, (.v (.c .any)), [(0, (.arr 127 4 (((d1).set ((a) + (i)) x1).map rRecord)))], [0], [20, 13], [(36, (aC (.p 0 ((a) + (i)) 4 0))), (29, (aG [(cI x1.shop), (cI x1.auth), (cI x1.kind), (cI x1.sum)]))], [(0, (.arr 127 4 ((d1).map rRecord)))]⟩,
      ⟨some 37, (aC (.p 0 ((b) + (i)) 4 0)), [], [], [21, 7, 4], [(20, (aC (.s 0 0 4 N))), (23, (aI ((↑b : Int) + (↑i : Int))))], [(0, (.arr 127 4 (((d1).set ((a) + (i)) x1).map rRecord)))]⟩,
      ⟨none, (.v (.c .any)), [(0, (.arr 127 4 ((((d1).set ((a) + (i)) x1).set ((b) + (i)) x2).map rRecord)))], [0], [22, 21, 19], [(37, (aC (.p 0 ((b) + (i)) 4 0))), (35, (aG [(cI x2.shop), (cI x2.auth), (cI x2.kind), (cI x2.sum)]))], [(0, (.arr 127 4 (((d1).set ((a) + (i)) x1).map rRecord)))]⟩] ⟨[(0, (aC (.s 0 0 4 N))), (1, (aI (↑a : Int))), (2, (aI (↑b : Int))), (3, (aI (↑n : Int))), (10, (aI (↑i : Int)))], [(0, (.arr 127 4 ((((d1).set ((a) + (i)) x1).set ((b) + (i)) x2).map rRecord)))], 1⟩ [23, 22, 21, 20, 19, 18, 17, 16, 15, 14, 13, 12, 11, 10, 9, 8, 7, 6, 5, 4, 3, 2, 1, 0] mixed (by kernel_rfl) ?_ ?_ ?_ ?_
      · exact ⟨.inl ⟨(Wanted.plain rfl), GOp.cast (g_move rfl rfl) rfl⟩,
      .inl ⟨(Wanted.plain rfl), GOp.cast (g_move rfl rfl) rfl⟩,
      .inl ⟨(Wanted.plain rfl), GOp.cast (g_move rfl rfl) rfl⟩,
      .inl ⟨(Wanted.plain rfl), GOp.cast (g_binI rfl rfl rfl (wrap_ok (by first | omega | (simp; done) | (simp; omega)))) rfl⟩,
      .inl ⟨(Wanted.plain rfl), GOp.cast (g_move rfl rfl) rfl⟩,
      .inl ⟨(Wanted.plain rfl), GOp.cast (g_move rfl rfl) rfl⟩,
      .inl ⟨(Wanted.plain rfl), GOp.cast (g_move rfl rfl) rfl⟩,
      .inl ⟨(Wanted.plain rfl), GOp.cast (g_binI rfl rfl rfl (wrap_ok (by first | omega | (simp; done) | (simp; omega)))) rfl⟩,
      .inl ⟨(Wanted.plain rfl), GOp.cast (g_move rfl rfl) rfl⟩,
      .inl ⟨(Wanted.plain rfl), GOp.cast (g_move rfl rfl) rfl⟩,
      .inl ⟨(Wanted.plain rfl), GOp.cast (g_move rfl rfl) rfl⟩,
      .inl ⟨(Wanted.plain rfl), GOp.cast (g_binI rfl rfl rfl (wrap_ok (by first | omega | (simp; done) | (simp; omega)))) rfl⟩,
      .inl ⟨(Wanted.plain rfl), GOp.cast (g_indexP0 (i := (b) + (i)) rfl rfl rfl Try.underlying114 sz127 (by first | omega | (simp; done) | (simp; omega)) (by first | omega | (simp; done) | (simp; omega))) rfl⟩,
      .inl ⟨(Wanted.plain rfl), GOp.cast (g_loadAs rfl rfl rfl Try.underlying127 rfl sz127 (getmap hx1) rfl) rfl⟩,
      .inl ⟨(Wanted.plain rfl), GOp.cast (g_move rfl rfl) rfl⟩,
      .inl ⟨(Wanted.plain rfl), GOp.cast (g_move rfl rfl) rfl⟩,
      .inl ⟨(Wanted.plain rfl), GOp.cast (g_move rfl rfl) rfl⟩,
      .inl ⟨(Wanted.plain rfl), GOp.cast (g_binI rfl rfl rfl (wrap_ok (by first | omega | (simp; done) | (simp; omega)))) rfl⟩,
      .inl ⟨(Wanted.plain rfl), GOp.cast (g_indexP0 (i := (a) + (i)) rfl rfl rfl Try.underlying114 sz127 (by first | omega | (simp; done) | (simp; omega)) (by first | omega | (simp; done) | (simp; omega))) rfl⟩,
      .inl ⟨(Wanted.plain rfl), GOp.cast (g_loadAs rfl rfl rfl Try.underlying127 rfl sz127 (getmap hx2) rfl) rfl⟩,
      .inl ⟨(Wanted.plain rfl), GOp.cast (g_indexP0 (i := (a) + (i)) rfl rfl rfl Try.underlying114 sz127 (by first | omega | (simp; done) | (simp; omega)) (by first | omega | (simp; done) | (simp; omega))) rfl⟩,
      .inl ⟨(Wanted.plain rfl), GOp.cast (g_storeA (ds := [(dI x1.shop), (dI x1.auth), (dI x1.kind), (dI x1.sum)]) rfl rfl rfl rfl rfl sz127 rfl (Nat.le_of_ble_eq_true rfl) (getmap hx2) rfl (setmap (x' := x1) rfl)) rfl⟩,
      .inl ⟨(Wanted.plain rfl), GOp.cast (g_indexP0 (i := (b) + (i)) rfl rfl rfl Try.underlying114 sz127 (by first | omega | (simp; done) | (simp; omega)) (by first | omega | (simp; done) | (simp; omega))) rfl⟩,
      .inl ⟨(Wanted.plain rfl), GOp.cast (g_storeA (ds := [(dI x2.shop), (dI x2.auth), (dI x2.kind), (dI x2.sum)]) rfl rfl rfl rfl rfl sz127 rfl (Nat.le_of_ble_eq_true rfl) (getmap hx3) rfl (setmap (x' := x2) rfl)) rfl⟩,
       trivial⟩
      · exact ⟨⟨⟨rfl,  trivial⟩, trivial⟩, ⟨⟨rfl,  trivial⟩, trivial⟩, ⟨⟨rfl,  trivial⟩, trivial⟩, ⟨⟨⟨_, rfl, rfl, rfl⟩, ⟨_, rfl, rfl, rfl⟩,  trivial⟩, trivial⟩, ⟨⟨rfl,  trivial⟩, trivial⟩, ⟨⟨rfl,  trivial⟩, trivial⟩, ⟨⟨rfl,  trivial⟩, trivial⟩, ⟨⟨⟨_, rfl, rfl, rfl⟩, ⟨_, rfl, rfl, rfl⟩,  trivial⟩, trivial⟩, ⟨⟨rfl,  trivial⟩, trivial⟩, ⟨⟨rfl,  trivial⟩, trivial⟩, ⟨⟨rfl,  trivial⟩, trivial⟩, ⟨⟨⟨_, rfl, rfl, rfl⟩, ⟨_, rfl, rfl, rfl⟩,  trivial⟩, trivial⟩, ⟨⟨⟨_, rfl, rfl, rfl⟩, ⟨_, rfl, rfl, rfl⟩,  trivial⟩, ⟨rfl,  trivial⟩⟩, ⟨⟨⟨_, rfl, rfl, rfl⟩,  trivial⟩, ⟨rfl,  trivial⟩⟩, ⟨⟨rfl,  trivial⟩, trivial⟩, ⟨⟨rfl,  trivial⟩, trivial⟩, ⟨⟨rfl,  trivial⟩, trivial⟩, ⟨⟨⟨_, rfl, rfl, rfl⟩, ⟨_, rfl, rfl, rfl⟩,  trivial⟩, trivial⟩, ⟨⟨⟨_, rfl, rfl, rfl⟩, ⟨_, rfl, rfl, rfl⟩,  trivial⟩, ⟨rfl,  trivial⟩⟩, ⟨⟨⟨_, rfl, rfl, rfl⟩,  trivial⟩, ⟨rfl,  trivial⟩⟩, ⟨⟨⟨_, rfl, rfl, rfl⟩, ⟨_, rfl, rfl, rfl⟩,  trivial⟩, ⟨rfl,  trivial⟩⟩, ⟨⟨⟨_, rfl, rfl, rfl⟩, ⟨_, rfl, rfl, rfl⟩,  trivial⟩, ⟨rfl,  trivial⟩⟩, ⟨⟨⟨_, rfl, rfl, rfl⟩, ⟨_, rfl, rfl, rfl⟩,  trivial⟩, ⟨⟨_, rfl, .head _⟩,  trivial⟩⟩, ⟨⟨⟨_, rfl, rfl, rfl⟩, ⟨_, rfl, rfl, rfl⟩,  trivial⟩, ⟨⟨_, rfl, .head _⟩,  trivial⟩⟩,  trivial⟩
      · exact ⟨⟨rfl, rfl, rfl, rfl, rfl,  trivial⟩, ⟨⟨_, rfl, .head _⟩,  trivial⟩⟩
      ·
        refine block_ok ?_
        refine then_ok ?_
        refine AC.region ?_
        refine AL.fast 1 rfl ?_
        refine AL.val (Wanted.plain rfl) (g_binI rfl rfl rfl (wrap_ok (by first | omega | (simp; done) | (simp; omega)))) rfl rfl ?_
        refine AL.fast 1 rfl ?_
        refine AL.nil ?_
        refine then_ok ?_
        refine ⟨(i + 1, ((d1).set ((a) + (i)) x1).set ((b) + (i)) x2), ⟨by omega, by rw [swapR, ← hi0_1]; exact (swap2_eq hx2 hx1).symm, by simp only [List.length_set]; exact hi0_2⟩, by first | omega | (simp; done) | (simp; omega), Weak.ren id (by refine ⟨?_, ?_, ?_, ?_, ?_,  trivial⟩ <;> first | rfl | (simp only [AV.map, GV.map, CV.map, AB.map', id]; done) | (congr 3; omega) | (congr 4; omega) | (simp only [List.length_append, List.length_cons, List.length_nil, List.length_set]; rfl) | (exact look_i rfl (by omega))) (⟨by first | rfl | (simp only [AV.map, GV.map, CV.map, AB.map', id]; done) | (congr 3; omega) | (congr 4; omega) | (simp only [List.length_append, List.length_cons, List.length_nil, List.length_set]; rfl), trivial⟩) rfl⟩
    ·
      have hc1' := hc1; try simp only [sumB, Bool.not_eq_true', Bool.not_eq_false', Bool.or_eq_true, Bool.or_eq_false_iff, Bool.and_eq_true, Bool.and_eq_false_imp, decide_eq_true_eq, decide_eq_false_iff_not, Bool.not_not, Bool.not_true, Bool.not_false] at hc1'
      refine AC.exit ?_
      refine then_exit ?_
      refine then_exit ?_
      refine block_hit ?_
      have hX : swapR a b n d = d1 := by
        have : i = n := by omega
        subst this; exact hi0_1.symm
      rw [hX] at hr; clear hX
      subst hr
      refine retQ_mk (av' := outOf []) (nb' := [(0, (.arr 127 4 ((d1).map rRecord)))]) (retQ_end ⟨[], [(0, (.arr 127 4 ((d1).map rRecord)))], 1⟩ [] [] (Weak.ren (fun k => if k = 0 then 0 else k) (trivial) (⟨by first | rfl | (simp only [AV.map, GV.map, CV.map, AB.map', id]; done) | (congr 3; omega) | (congr 4; omega) | (simp only [List.length_append, List.length_cons, List.length_nil, List.length_set]; rfl), trivial⟩) rfl) rfl trivial ⟨by first | rfl | (simp only [AV.map, GV.map, CV.map, AB.map', id]; done) | (congr 3; omega) | (congr 4; omega) | (simp only [List.length_append, List.length_cons, List.length_nil, List.length_set]; rfl), trivial⟩) ?_ ?_
      · first | rfl | (simp [outOf, aC]; done) | (simp [outOf, aC]; omega)
      · first | rfl | (simp; done) | (simp; omega)
theorem c_swapRangeI (ai bi ni : Int) (d : List Record) (N a b n : Nat) (fn : FuncId) (caps : List (List D)) (hp : ∀ x y : Record, Fn Try.prog fn ([.g [cI x.shop, cI x.auth, cI x.kind, cI x.sum], .g [cI y.shop, cI y.auth, cI y.kind, cI y.sum]] ++ caps.map fun r => GV.c (.q r 0)) (aI (ordR x y)) []) (hen : Enters Try.prog fn) (ea_ : ai = (↑a : Int)) (eb_ : bi = (↑b : Int)) (en_ : ni = (↑n : Int)) (hl : d.length * 32 ≤ 140737488355328) (hN : N = d.length) (h0_ : a + n ≤ d.length) (h1_ : b + n ≤ d.length) (r : List Record) (hr : swapR a b n d = r) : FnE Try.prog 142 [(.c (.s 0 0 4 N)), (.c (cI ai)), (.c (cI bi)), (.c (cI ni)), (.c (.d (.f fn caps)))] [(0, (.arr 127 4 ((d).map rRecord)))] [0] (.t []) [(0, (.arr 127 4 ((r).map rRecord)))] := by
  subst ea_ eb_ en_
  exact c_swapRange d N a b n fn caps hp hen hl hN h0_ h1_ r hr
end Go.Proofs.Ytgmcdlfmifijlaa.Dev
namespace Go.Proofs.Ytgmcdlfmifijlaa.Dev
open Go.RowKit

set_option maxRecDepth 100000 in
set_option maxHeartbeats 1000000 in
theorem c_rotate (d : List Record) (N a m b : Nat) (fn : FuncId) (caps : List (List D)) (hp : ∀ x y : Record, Fn Try.prog fn ([.g [cI x.shop, cI x.auth, cI x.kind, cI x.sum], .g [cI y.shop, cI y.auth, cI y.kind, cI y.sum]] ++ caps.map fun r => GV.c (.q r 0)) (aI (ordR x y)) []) (hen : Enters Try.prog fn) (hl : d.length * 32 ≤ 140737488355328) (hN : N = d.length) (h0_ : a < m) (h1_ : m < b) (h2_ : b ≤ d.length) (r : List Record) (hr : rot m (m - a) (b - m) d = r) : FnE Try.prog 140 [(.c (.s 0 0 4 N)), (.c (cI (↑a : Int))), (.c (cI (↑m : Int))), (.c (cI (↑b : Int))), (.c (.d (.f fn caps)))] [(0, (.arr 127 4 ((d).map rRecord)))] [0] (.t []) [(0, (.arr 127 4 ((r).map rRecord)))] := by
  refine FnE.mk 58 [(0, (aC (.s 0 0 4 N))), (1, (aI (↑a : Int))), (2, (aI (↑m : Int))), (3, (aI (↑b : Int))), (4, (aC (.d (.f fn caps))))] 1 Try.func140 rfl rfl rfl rfl rfl rfl rfl rfl rfl ?_
  intro W0 F0 T0 pg
  refine AC.lenS 0 rfl (fun hlen0 => ?_)
  refine AC.seq ?_
  refine AC.region ?_
  refine AL.fast 2 rfl ?_
  refine AL.val (Wanted.plain rfl) (g_binI rfl rfl rfl (wrap_ok (by first | omega | (simp; done) | (simp; omega)))) rfl rfl ?_
  refine AL.fast 1 rfl ?_
  refine AL.nil ?_
  refine then_ok ?_
  refine AC.seq ?_
  refine AC.region ?_
  refine AL.fast 2 rfl ?_
  refine AL.val (Wanted.plain rfl) (g_binI rfl rfl rfl (wrap_ok (by first | omega | (simp; done) | (simp; omega)))) rfl rfl ?_
  refine AL.fast 1 rfl ?_
  refine AL.nil ?_
  refine then_ok ?_
  refine AC.seq ?_
  refine AC.block ?_
  refine AC.loop (β := Nat × Nat × List Record) (fun (p : Nat × Nat × List Record) => match p with | (i, j, d1) => ⟨[(0, (aC (.s 0 0 4 N))), (2, (aI (↑m : Int))), (4, (aC (.d (.f fn caps)))), (10, (aI (↑i : Int))), (11, (aI (↑j : Int)))], [(0, (.arr 127 4 ((d1).map rRecord)))], 1⟩) (fun (p : Nat × Nat × List Record) => match p with | (i, j, d1) => 0 < i ∧ 0 < j ∧ i + a ≤ m ∧ m + j ≤ b ∧ rot m i j d1 = rot m (m - a) (b - m) d ∧ d1.length = d.length) (fun (p : Nat × Nat × List Record) => match p with | (i, j, d1) => i + j) (m - a, b - m, d) ?_ ?_ ?_
  · exact ⟨by omega, by omega, by omega, by omega, rfl, rfl⟩
  · exact Weak.ren id (by refine ⟨?_, ?_, ?_, ?_, ?_,  trivial⟩ <;> first | rfl | (simp only [AV.map, GV.map, CV.map, AB.map', id]; done) | (congr 3; omega) | (congr 4; omega) | (simp only [List.length_append, List.length_cons, List.length_nil, List.length_set]; rfl) | (exact look_i rfl (by omega))) (⟨by first | rfl | (simp only [AV.map, GV.map, CV.map, AB.map', id]; done) | (congr 3; omega) | (congr 4; omega) | (simp only [List.length_append, List.length_cons, List.length_nil, List.length_set]; rfl), trivial⟩) rfl
  ·
    rintro ⟨i, j, d1⟩ ⟨hi0_0, hi0_1, hi0_2, hi0_3, hi0_4, hi0_5⟩
    refine AC.seq ?_
    refine AC.seq ?_
    refine AC.region ?_
    refine AL.fast 2 rfl ?_
    refine AL.val (Wanted.plain rfl) (g_binI rfl rfl rfl rfl) rfl rfl ?_
    refine AL.nil ?_
    refine then_ok ?_
    refine AC.cond rfl (fun hc1 => ?_) (fun hc1 => ?_)
    ·
      have hc1' := hc1; try simp only [sumB, Bool.not_eq_true', Bool.not_eq_false', Bool.or_eq_true, Bool.or_eq_false_iff, Bool.and_eq_true, Bool.and_eq_false_imp, decide_eq_true_eq, decide_eq_false_iff_not, Bool.not_not, Bool.not_true, Bool.not_false] at hc1'
      refine AC.skip ?_
      refine then_ok ?_
      refine AC.block ?_
      refine AC.seq ?_
      refine AC.region ?_
      refine AL.fast 2 rfl ?_
      refine AL.val (Wanted.plain rfl) (g_binI rfl rfl rfl rfl) rfl rfl ?_
      refine AL.nil ?_
      refine then_ok ?_
      refine AC.cond rfl (fun hc2 => ?_) (fun hc2 => ?_)
      ·
        have hc2' := hc2; try simp only [sumB, Bool.not_eq_true', Bool.not_eq_false', Bool.or_eq_true, Bool.or_eq_false_iff, Bool.and_eq_true, Bool.and_eq_false_imp, decide_eq_true_eq, decide_eq_false_iff_not, Bool.not_not, Bool.not_true, Bool.not_false] at hc2'
        refine AC.seq ?_
        refine AC.region ?_
        refine AL.fast 3 rfl ?_
        refine AL.val (Wanted.plain rfl) (g_binI rfl rfl rfl (wrap_ok (by first | omega | (simp; done) | (simp; omega)))) rfl rfl ?_
        refine AL.fast 3 rfl ?_
        obtain ⟨r0, hr0⟩ : ∃ (r0 : List Record), swapR ((m) - (i)) m j d1 = r0 := ⟨_, rfl⟩
        have hlr0 : r0.length = d1.length := by rw [← hr0]; exact swapR_len _ _ _ _
        refine AL.callM (n' := 1) (h' := [(0, (.arr 127 4 ((r0).map rRecord)))]) (Wanted.plain rfl) (g_callMA (fun k => k) (fun k => k) (c_swapRangeI ((↑m : Int) - (↑i : Int)) (↑m : Int) (↑j : Int) d1 N ((m) - (i)) m j fn caps hp hen (by first | omega | (simp; done) | (simp; omega)) (by first | omega | (simp; done) | (simp; omega)) (by first | omega | (simp; done) | (simp; omega)) (by first | omega | (simp; done) | (simp; omega)) (by first | omega | (simp; done) | (simp; omega)) (by first | omega | (simp; done) | (simp; omega)) (by first | omega | (simp; done) | (simp; omega)) r0 hr0) en142 rfl rfl ⟨⟨_, rfl, .inl ⟨rfl, rfl⟩⟩, ⟨_, rfl, .inr (.c (.d _))⟩, ⟨_, rfl, .inr (.c (.d _))⟩, ⟨_, rfl, .inr (.c (.d _))⟩, ⟨_, rfl, .inr (.c (.d _))⟩,  trivial⟩ ⟨rfl,  trivial⟩ rfl rfl ⟨.inr ⟨_, _, _, rfl, by first | (simp; omega) | (simp only [List.length_map]; omega)⟩,  trivial⟩ rfl rfl rfl trivial ⟨(fun _ _ _ _ => trivial),  trivial⟩ rfl rfl rfl rfl) rfl rfl rfl rfl rfl rfl ?_
        refine AL.nil ?_
        refine then_ok ?_
        refine AC.region ?_
        refine AL.fast 2 rfl ?_
        refine AL.val (Wanted.plain rfl) (g_binI rfl rfl rfl (wrap_ok (by first | omega | (simp; done) | (simp; omega)))) rfl rfl ?_
        refine AL.fast 1 rfl ?_
        refine AL.nil ?_
        refine block_ok ?_
        refine then_ok ?_
        refine ⟨((i) - (j), j, r0), ⟨by omega, by omega, by omega, by omega, by rw [← hr0, ← rot_gt (by omega) (by omega)]; exact hi0_4, by omega⟩, by first | omega | (simp; done) | (simp; omega), Weak.ren id (by refine ⟨?_, ?_, ?_, ?_, ?_,  trivial⟩ <;> first | rfl | (simp only [AV.map, GV.map, CV.map, AB.map', id]; done) | (congr 3; omega) | (congr 4; omega) | (simp only [List.length_append, List.length_cons, List.length_nil, List.length_set]; rfl) | (exact look_i rfl (by omega))) (⟨by first | rfl | (simp only [AV.map, GV.map, CV.map, AB.map', id]; done) | (congr 3; omega) | (congr 4; omega) | (simp only [List.length_append, List.length_cons, List.length_nil, List.length_set]; rfl), trivial⟩) rfl⟩
      ·
        have hc2' := hc2; try simp only [sumB, Bool.not_eq_true', Bool.not_eq_false', Bool.or_eq_true, Bool.or_eq_false_iff, Bool.and_eq_true, Bool.and_eq_false_imp, decide_eq_true_eq, decide_eq_false_iff_not, Bool.not_not, Bool.not_true, Bool.not_false] at hc2'
        refine AC.seq ?_
        refine AC.region ?_
        refine AL.fast 3 rfl ?_
        refine AL.val (Wanted.plain rfl) (g_binI rfl rfl rfl (wrap_ok (by first | omega | (simp; done) | (simp; omega)))) rfl rfl ?_
        refine AL.fast 2 rfl ?_
        refine AL.val (Wanted.plain rfl) (g_binI rfl rfl rfl (wrap_ok (by first | omega | (simp; done) | (simp; omega)))) rfl rfl ?_
        refine AL.fast 1 rfl ?_
        refine AL.val (Wanted.plain rfl) (g_binI rfl rfl rfl (wrap_ok (by first | omega | (simp; done) | (simp; omega)))) rfl rfl ?_
        refine AL.fast 2 rfl ?_
        obtain ⟨r1, hr1⟩ : ∃ (r1 : List Record), swapR ((m) - (i)) (((m) + (j)) - (i)) i d1 = r1 := ⟨_, rfl⟩
        have hlr1 : r1.length = d1.length := by rw [← hr1]; exact swapR_len _ _ _ _
        refine AL.callM (n' := 1) (h' := [(0, (.arr 127 4 ((r1).map rRecord)))]) (Wanted.plain rfl) (g_callMA (fun k => k) (fun k => k) (c_swapRangeI ((↑m : Int) - (↑i : Int)) (((↑m : Int) + (↑j : Int)) - (↑i : Int)) (↑i : Int) d1 N ((m) - (i)) (((m) + (j)) - (i)) i fn caps hp hen (by first | omega | (simp; done) | (simp; omega)) (by first | omega | (simp; done) | (simp; omega)) (by first | omega | (simp; done) | (simp; omega)) (by first | omega | (simp; done) | (simp; omega)) (by first | omega | (simp; done) | (simp; omega)) (by first | omega | (simp; done) | (simp; omega)) (by first | omega | (simp; done) | (simp; omega)) r1 hr1) en142 rfl rfl ⟨⟨_, rfl, .inl ⟨rfl, rfl⟩⟩, ⟨_, rfl, .inr (.c (.d _))⟩, ⟨_, rfl, .inr (.c (.d _))⟩, ⟨_, rfl, .inr (.c (.d _))⟩, ⟨_, rfl, .inr (.c (.d _))⟩,  trivial⟩ ⟨rfl,  trivial⟩ rfl rfl ⟨.inr ⟨_, _, _, rfl, by first | (simp; omega) | (simp only [List.length_map]; omega)⟩,  trivial⟩ rfl rfl rfl trivial ⟨(fun _ _ _ _ => trivial),  trivial⟩ rfl rfl rfl rfl) rfl rfl rfl rfl rfl rfl ?_
        refine AL.nil ?_
        refine then_ok ?_
        refine AC.region ?_
        refine AL.fast 2 rfl ?_
        refine AL.val (Wanted.plain rfl) (g_binI rfl rfl rfl (wrap_ok (by first | omega | (simp; done) | (simp; omega)))) rfl rfl ?_
        refine AL.fast 1 rfl ?_
        refine AL.nil ?_
        refine block_ok ?_
        refine then_ok ?_
        refine ⟨(i, (j) - (i), r1), ⟨by omega, by omega, by omega, by omega, by rw [← hr1, ← rot_lt (by omega) (by omega)]; exact hi0_4, by omega⟩, by first | omega | (simp; done) | (simp; omega), Weak.ren id (by refine ⟨?_, ?_, ?_, ?_, ?_,  trivial⟩ <;> first | rfl | (simp only [AV.map, GV.map, CV.map, AB.map', id]; done) | (congr 3; omega) | (congr 4; omega) | (simp only [List.length_append, List.length_cons, List.length_nil, List.length_set]; rfl) | (exact look_i rfl (by omega))) (⟨by first | rfl | (simp only [AV.map, GV.map, CV.map, AB.map', id]; done) | (congr 3; omega) | (congr 4; omega) | (simp only [List.length_append, List.length_cons, List.length_nil, List.length_set]; rfl), trivial⟩) rfl⟩
    ·
      have hc1' := hc1; try simp only [sumB, Bool.not_eq_true', Bool.not_eq_false', Bool.or_eq_true, Bool.or_eq_false_iff, Bool.and_eq_true, Bool.and_eq_false_imp, decide_eq_true_eq, decide_eq_false_iff_not, Bool.not_not, Bool.not_true, Bool.not_false] at hc1'
      refine AC.exit ?_
      refine then_exit ?_
      refine then_exit ?_
      refine block_hit ?_
      refine then_ok ?_
      refine AC.region ?_
      refine AL.fast 3 rfl ?_
      refine AL.val (Wanted.plain rfl) (g_binI rfl rfl rfl (wrap_ok (by first | omega | (simp; done) | (simp; omega)))) rfl rfl ?_
      refine AL.fast 3 rfl ?_
      obtain ⟨r2, hr2⟩ : ∃ (r2 : List Record), swapR ((m) - (i)) m i d1 = r2 := ⟨_, rfl⟩
      have hlr2 : r2.length = d1.length := by rw [← hr2]; exact swapR_len _ _ _ _
      refine AL.callM (n' := 1) (h' := [(0, (.arr 127 4 ((r2).map rRecord)))]) (Wanted.plain rfl) (g_callMA (fun k => k) (fun k => k) (c_swapRangeI ((↑m : Int) - (↑i : Int)) (↑m : Int) (↑i : Int) d1 N ((m) - (i)) m i fn caps hp hen (by first | omega | (simp; done) | (simp; omega)) (by first | omega | (simp; done) | (simp; omega)) (by first | omega | (simp; done) | (simp; omega)) (by first | omega | (simp; done) | (simp; omega)) (by first | omega | (simp; done) | (simp; omega)) (by first | omega | (simp; done) | (simp; omega)) (by first | omega | (simp; done) | (simp; omega)) r2 hr2) en142 rfl rfl ⟨⟨_, rfl, .inl ⟨rfl, rfl⟩⟩, ⟨_, rfl, .inr (.c (.d _))⟩, ⟨_, rfl, .inr (.c (.d _))⟩, ⟨_, rfl, .inr (.c (.d _))⟩, ⟨_, rfl, .inr (.c (.d _))⟩,  trivial⟩ ⟨rfl,  trivial⟩ rfl rfl ⟨.inr ⟨_, _, _, rfl, by first | (simp; omega) | (simp only [List.length_map]; omega)⟩,  trivial⟩ rfl rfl rfl trivial ⟨(fun _ _ _ _ => trivial),  trivial⟩ rfl rfl rfl rfl) rfl rfl rfl rfl rfl rfl ?_
      refine AL.nil ?_
      have hX : rot m (m - a) (b - m) d = r2 := by
        have hij : i = j := by omega
        subst hij; rw [← hi0_4, rot_eq (by omega)]; exact hr2
      rw [hX] at hr; clear hX
      subst hr
      refine retQ_mk (av' := outOf []) (nb' := [(0, (.arr 127 4 ((r2).map rRecord)))]) (retQ_end ⟨[], [(0, (.arr 127 4 ((r2).map rRecord)))], 1⟩ [] [] (Weak.ren (fun k => if k = 0 then 0 else k) (trivial) (⟨by first | rfl | (simp only [AV.map, GV.map, CV.map, AB.map', id]; done) | (congr 3; omega) | (congr 4; omega) | (simp only [List.length_append, List.length_cons, List.length_nil, List.length_set]; rfl), trivial⟩) rfl) rfl trivial ⟨by first | rfl | (simp only [AV.map, GV.map, CV.map, AB.map', id]; done) | (congr 3; omega) | (congr 4; omega) | (simp only [List.length_append, List.length_cons, List.length_nil, List.length_set]; rfl), trivial⟩) ?_ ?_
      · first | rfl | (simp [outOf, aC]; done) | (simp [outOf, aC]; omega)
      · first | rfl | (simp; done) | (simp; omega)
theorem c_rotateI (ai mi bi : Int) (d : List Record) (N a m b : Nat) (fn : FuncId) (caps : List (List D)) (hp : ∀ x y : Record, Fn Try.prog fn ([.g [cI x.shop, cI x.auth, cI x.kind, cI x.sum], .g [cI y.shop, cI y.auth, cI y.kind, cI y.sum]] ++ caps.map fun r => GV.c (.q r 0)) (aI (ordR x y)) []) (hen : Enters Try.prog fn) (ea_ : ai = (↑a : Int)) (em_ : mi = (↑m : Int)) (eb_ : bi = (↑b : Int)) (hl : d.length * 32 ≤ 140737488355328) (hN : N = d.length) (h0_ : a < m) (h1_ : m < b) (h2_ : b ≤ d.length) (r : List Record) (hr : rot m (m - a) (b - m) d = r) : FnE Try.prog 140 [(.c (.s 0 0 4 N)), (.c (cI ai)), (.c (cI mi)), (.c (cI bi)), (.c (.d (.f fn caps)))] [(0, (.arr 127 4 ((d).map rRecord)))] [0] (.t []) [(0, (.arr 127 4 ((r).map rRecord)))] := by
  subst ea_ em_ eb_
  exact c_rotate d N a m b fn caps hp hen hl hN h0_ h1_ h2_ r hr
end Go.Proofs.Ytgmcdlfmifijlaa.Dev
namespace Go.Proofs.Ytgmcdlfmifijlaa.Dev
open Go.RowKit

set_option maxRecDepth 100000 in
set_option maxHeartbeats 1000000 in
theorem c_insertion (d : List Record) (N a b : Nat) (fn : FuncId) (caps : List (List D)) (hp : ∀ x y : Record, Fn Try.prog fn ([.g [cI x.shop, cI x.auth, cI x.kind, cI x.sum], .g [cI y.shop, cI y.auth, cI y.kind, cI y.sum]] ++ caps.map fun r => GV.c (.q r 0)) (aI (ordR x y)) []) (hen : Enters Try.prog fn) (hl : d.length * 32 ≤ 140737488355328) (hN : N = d.length) (h0_ : a ≤ b) (h1_ : b ≤ d.length) (r : List Record) (hr : insS a (b - (a + 1)) d = r) : FnE Try.prog 137 [(.c (.s 0 0 4 N)), (.c (cI (↑a : Int))), (.c (cI (↑b : Int))), (.c (.d (.f fn caps)))] [(0, (.arr 127 4 ((d).map rRecord)))] [0] (.t []) [(0, (.arr 127 4 ((r).map rRecord)))] := by
  refine FnE.mk 53 [(0, (aC (.s 0 0 4 N))), (1, (aI (↑a : Int))), (2, (aI (↑b : Int))), (3, (aC (.d (.f fn caps))))] 1 Try.func137 rfl rfl rfl rfl rfl rfl rfl rfl rfl ?_
  intro W0 F0 T0 pg
  refine AC.lenS 0 rfl (fun hlen0 => ?_)
  refine AC.seq ?_
  refine AC.region ?_
  refine AL.fast 1 rfl ?_
  refine AL.val (Wanted.plain rfl) (g_binI rfl rfl rfl (wrap_ok (by first | omega | (simp; done) | (simp; omega)))) rfl rfl ?_
  refine AL.fast 1 rfl ?_
  refine AL.nil ?_
  refine then_ok ?_
  refine AC.block ?_
  refine AC.loop (β := Nat × List Record) (fun (p : Nat × List Record) => match p with | (i, d1) => ⟨[(0, (aC (.s 0 0 4 N))), (1, (aI (↑a : Int))), (2, (aI (↑b : Int))), (3, (aC (.d (.f fn caps)))), (8, (aI (↑i : Int)))], [(0, (.arr 127 4 ((d1).map rRecord)))], 1⟩) (fun (p : Nat × List Record) => match p with | (i, d1) => a + 1 ≤ i ∧ (i ≤ b ∨ i = a + 1) ∧ d1 = insS a (i - (a + 1)) d ∧ d1.length = d.length) (fun (p : Nat × List Record) => match p with | (i, d1) => b - i) (a + 1, d) ?_ ?_ ?_
  · exact ⟨by omega, by omega, by rw [Nat.sub_self]; rfl, rfl⟩
  · exact Weak.ren id (by refine ⟨?_, ?_, ?_, ?_, ?_,  trivial⟩ <;> first | rfl | (simp only [AV.map, GV.map, CV.map, AB.map', id]; done) | (congr 3; omega) | (congr 4; omega) | (simp only [List.length_append, List.length_cons, List.length_nil, List.length_set]; rfl) | (exact look_i rfl (by omega))) (⟨by first | rfl | (simp only [AV.map, GV.map, CV.map, AB.map', id]; done) | (congr 3; omega) | (congr 4; omega) | (simp only [List.length_append, List.length_cons, List.length_nil, List.length_set]; rfl), trivial⟩) rfl
  ·
    rintro ⟨i, d1⟩ ⟨hi0_0, hi0_1, hi0_2, hi0_3⟩
    refine AC.seq ?_
    refine AC.seq ?_
    refine AC.region ?_
    refine AL.fast 2 rfl ?_
    refine AL.val (Wanted.plain rfl) (g_binI rfl rfl rfl rfl) rfl rfl ?_
    refine AL.nil ?_
    refine then_ok ?_
    refine AC.cond rfl (fun hc1 => ?_) (fun hc1 => ?_)
    ·
      have hc1' := hc1; try simp only [sumB, Bool.not_eq_true', Bool.not_eq_false', Bool.or_eq_true, Bool.or_eq_false_iff, Bool.and_eq_true, Bool.and_eq_false_imp, decide_eq_true_eq, decide_eq_false_iff_not, Bool.not_not, Bool.not_true, Bool.not_false] at hc1'
      refine AC.skip ?_
      refine then_ok ?_
      refine AC.seq ?_
      refine AC.block ?_
      refine AC.seq ?_
      refine AC.region ?_
      refine AL.fast 2 rfl ?_
      refine AL.nil ?_
      refine then_ok ?_
      refine AC.block ?_
      refine AC.loop (β := Nat × List Record) (fun (p : Nat × List Record) => match p with | (j, d2) => ⟨[(0, (aC (.s 0 0 4 N))), (1, (aI (↑a : Int))), (2, (aI (↑b : Int))), (3, (aC (.d (.f fn caps)))), (8, (aI (↑i : Int))), (9, (aI (↑j : Int)))], [(0, (.arr 127 4 ((d2).map rRecord)))], 1⟩) (fun (p : Nat × List Record) => match p with | (j, d2) => a ≤ j ∧ j ≤ i ∧ insJ a j d2 = insJ a i d1 ∧ d2.length = d.length) (fun (p : Nat × List Record) => match p with | (j, d2) => j) (i, d1) ?_ ?_ ?_
      · exact ⟨by omega, by omega, rfl, by omega⟩
      · exact Weak.ren id (by refine ⟨?_, ?_, ?_, ?_, ?_, ?_,  trivial⟩ <;> first | rfl | (simp only [AV.map, GV.map, CV.map, AB.map', id]; done) | (congr 3; omega) | (congr 4; omega) | (simp only [List.length_append, List.length_cons, List.length_nil, List.length_set]; rfl) | (exact look_i rfl (by omega))) (⟨by first | rfl | (simp only [AV.map, GV.map, CV.map, AB.map', id]; done) | (congr 3; omega) | (congr 4; omega) | (simp only [List.length_append, List.length_cons, List.length_nil, List.length_set]; rfl), trivial⟩) rfl
      ·
        rintro ⟨j, d2⟩ ⟨hi1_0, hi1_1, hi1_2, hi1_3⟩
        refine AC.seq ?_
        refine AC.seq ?_
        rcases Bool.eq_false_or_eq_true (decide ((↑j : Int) > (↑a : Int))) with hb2 | hb2
        ·
          have hb2' := hb2; try simp only [sumB, Bool.not_eq_true', Bool.not_eq_false', Bool.or_eq_true, Bool.or_eq_false_iff, Bool.and_eq_true, Bool.and_eq_false_imp, decide_eq_true_eq, decide_eq_false_iff_not, Bool.not_not, Bool.not_true, Bool.not_false] at hb2'
          obtain ⟨x1, hx1⟩ := exget (xs := d2) (i := j) (by first | omega | (simp; done) | (simp; omega))
          obtain ⟨x2, hx2⟩ := exget (xs := d2) (i := (j) - 1) (by first | omega | (simp; done) | (simp; omega))
          refine AC.weak (st' := ⟨[(0, (aC (.s 0 0 4 N))), (1, (aI (↑a : Int))), (2, (aI (↑b : Int))), (3, (aC (.d (.f fn caps)))), (8, (aI (↑i : Int))), (9, (aI (↑j : Int)))], [(0, (.arr 127 4 ((d2).map rRecord)))], 1⟩) (Weak.ren id (by refine ⟨?_, ?_, ?_, ?_, ?_, ?_,  trivial⟩ <;> first | rfl | (simp only [AV.map, GV.map, CV.map, AB.map', id]; done) | (congr 3; omega) | (congr 4; omega) | (simp only [List.length_append, List.length_cons, List.length_nil, List.length_set]; rfl)) (⟨by first | rfl | (simp only [AV.map, GV.map, CV.map, AB.map', id]; done) | (congr 3; omega) | (congr 4; omega) | (simp only [List.length_append, List.length_cons, List.length_nil, List.length_set]; rfl), trivial⟩) rfl) ?_
          refine AC.draw [⟨some 18, (aI (↑j : Int)), [], [], [], [(9, (aI (↑j : Int)))], []⟩,
      ⟨some 19, (aI (↑a : Int)), [], [], [], [(1, (aI (↑a : Int)))], []⟩,
      ⟨some 20, (aB true), [], [], [0, 1], [(18, (aI (↑j : Int))), (19, (aI (↑a : Int)))], []⟩,
      ⟨some 21, (aB true), [], [], [2], [(20, (aB true))], []⟩,
      ⟨some 22, (aC (.d (.f fn caps))), [], [], [3], [(3, (aC (.d (.f fn caps)))), (21, (aB true))], []⟩,
      ⟨some 23, (aC (.s 0 0 4 N)), [], [], [3], [(0, (aC (.s 0 0 4 N))), (21, (aB true))], [(0, (.arr 127 4 ((d2).map rRecord)))]⟩,
      ⟨some 24, (aI (↑j : Int)), [], [], [3], [(9, (aI (↑j : Int))), (21, (aB true))], []⟩,
      ⟨some 25, (aC (.p 0 j 4 0)), [], [], [3, 5, 6], [(23, (aC (.s 0 0 4 N))), (24, (aI (↑j : Int))), (21, (aB true))], [(0, (.arr 127 4 ((d2).map rRecord)))]⟩,
      ⟨some 26, (aG [(cI x1.shop), (cI x1.auth), (cI x1.kind), (cI x1.sum)]), [], [], [3, 7], [(25, (aC (.p 0 j 4 0))), (21, (aB true))], [(0, (.arr 127 4 ((d2).map rRecord)))]⟩,
      ⟨some 27, (aC (.s 0 0 4 N)), [], [], [3], [(0, (aC (.s 0 0 4 N))), (21, (aB true))], [(0, (.arr 127 4 ((d2).map rRecord)))]⟩,
      ⟨some 28, (aI (↑j : Int)), [], [], [3], [(9, (aI (↑j : Int))), (21, (aB true))], []⟩,
      ⟨some 29, (aI ((↑j : Int) - 1)), [], [], [3, 10], [(28, (aI (↑j : Int))), (21, (aB true))], []⟩,
      ⟨some 30, (aC (.p 0 ((j) - 1) 4 0)), [], [], [3, 9, 11], [(27, (aC (.s 0 0 4 N))), (29, (aI ((↑j : Int) - 1))), (21, (aB true))], [(0, (.arr 127 4 ((d2).map rRecord)))]⟩,
      ⟨some 31, (aG [(cI x2.shop), (cI x2.auth), (cI x2.kind), (cI x2.sum)]), [], [], [3, 12], [(30, (aC (.p 0 ((j) - 1) 4 0))), (21, (aB true))], [(0, (.arr 127 4 ((d2).map rRecord)))]⟩,
      ⟨some 32, (aI (ordR x1 x2)), [], [], [3, 4, 8, 13], [(22, (aC (.d (.f fn caps)))), (26, (aG [(cI x1.shop), (cI x1.auth), (cI x1.kind), (cI x1.sum)])), (31, (aG [(cI x2.shop), (cI x2.auth), (cI x2.kind), (cI x2.sum)])), (21, (aB true))], []⟩,
      ⟨some 33, (aB (decide ((ordR x1 x2) < 0))), [], [], [3, 14], [(32, (aI (ordR x1 x2))), (21, (aB true))], []⟩,
      ⟨some 34, (aB (decide ((ordR x1 x2) < 0))), [], [], [3, 15], [(21, (aB true)), (33, (aB (decide ((ordR x1 x2) < 0))))], []⟩] ⟨[(0, (aC (.s 0 0 4 N))), (1, (aI (↑a : Int))), (2, (aI (↑b : Int))), (3, (aC (.d (.f fn caps)))), (8, (aI (↑i : Int))), (9, (aI (↑j : Int))), (34, (aB (decide ((ordR x1 x2) < 0))))], [(0, (.arr 127 4 ((d2).map rRecord)))], 1⟩ mixed (by kernel_rfl) ?_ ?_ ?_ ?_
          · exact ⟨.inl ⟨(Wanted.plain rfl), GOp.cast (g_move rfl rfl) rfl⟩,
      .inl ⟨(Wanted.plain rfl), GOp.cast (g_move rfl rfl) rfl⟩,
      .inl ⟨(Wanted.plain rfl), GOp.cast (g_binI rfl rfl rfl (congrArg (fun b => some (Value.bool b)) hb2)) rfl⟩,
      .inl ⟨(Wanted.plain rfl), GOp.cast (g_move rfl rfl) rfl⟩,
      .inl ⟨(Wanted.yes rfl rfl rfl), GOp.cast (g_move rfl rfl) rfl⟩,
      .inl ⟨(Wanted.yes rfl rfl rfl), GOp.cast (g_move rfl rfl) rfl⟩,
      .inl ⟨(Wanted.yes rfl rfl rfl), GOp.cast (g_move rfl rfl) rfl⟩,
      .inl ⟨(Wanted.yes rfl rfl rfl), GOp.cast (g_indexP0 (i := j) rfl rfl rfl Try.underlying114 sz127 (by first | omega | (simp; done) | (simp; omega)) (by first | omega | (simp; done) | (simp; omega))) rfl⟩,
      .inl ⟨(Wanted.yes rfl rfl rfl), GOp.cast (g_loadAs rfl rfl rfl Try.underlying127 rfl sz127 (getmap hx1) rfl) rfl⟩,
      .inl ⟨(Wanted.yes rfl rfl rfl), GOp.cast (g_move rfl rfl) rfl⟩,
      .inl ⟨(Wanted.yes rfl rfl rfl), GOp.cast (g_move rfl rfl) rfl⟩,
      .inl ⟨(Wanted.yes rfl rfl rfl), GOp.cast (g_binI rfl rfl rfl (wrap_ok (by first | omega | (simp; done) | (simp; omega)))) rfl⟩,
      .inl ⟨(Wanted.yes rfl rfl rfl), GOp.cast (g_indexP0 (i := (j) - 1) rfl rfl rfl Try.underlying114 sz127 (by first | omega | (simp; done) | (simp; omega)) (by first | omega | (simp; done) | (simp; omega))) rfl⟩,
      .inl ⟨(Wanted.yes rfl rfl rfl), GOp.cast (g_loadAs rfl rfl rfl Try.underlying127 rfl sz127 (getmap hx2) rfl) rfl⟩,
      .inl ⟨(Wanted.yes rfl rfl rfl), GOp.cast (g_callF (ins := [(.g [(cI x1.shop), (cI x1.auth), (cI x1.kind), (cI x1.sum)]), (.g [(cI x2.shop), (cI x2.auth), (cI x2.kind), (cI x2.sum)])]) 1 (hp x1 x2) hen rfl rfl rfl ⟨⟨_, rfl, .g ⟨.d _, .d _, .d _, .d _,  trivial⟩⟩, ⟨_, rfl, .g ⟨.d _, .d _, .d _, .d _,  trivial⟩⟩,  trivial⟩ trivial trivial rfl rfl rfl rfl) rfl⟩,
      .inl ⟨(Wanted.yes rfl rfl rfl), GOp.cast (g_binI rfl rfl rfl rfl) rfl⟩,
      .inl ⟨(Wanted.plain rfl), GOp.cast (g_pick rfl rfl rfl) rfl⟩,
       trivial⟩
          · exact ⟨⟨⟨.inl rfl,  trivial⟩, trivial⟩, ⟨⟨.inl rfl,  trivial⟩, trivial⟩, ⟨⟨.inr ⟨0, .head _, _, rfl, rfl, rfl⟩, .inr ⟨1, .tail _ (.head _), _, rfl, rfl, rfl⟩,  trivial⟩, trivial⟩, ⟨⟨.inr ⟨2, .head _, _, rfl, rfl, rfl⟩,  trivial⟩, trivial⟩, ⟨⟨.inl rfl, .inr ⟨3, .head _, _, rfl, rfl, rfl⟩,  trivial⟩, trivial⟩, ⟨⟨.inl rfl, .inr ⟨3, .head _, _, rfl, rfl, rfl⟩,  trivial⟩, ⟨.inl rfl,  trivial⟩⟩, ⟨⟨.inl rfl, .inr ⟨3, .head _, _, rfl, rfl, rfl⟩,  trivial⟩, trivial⟩, ⟨⟨.inr ⟨5, .tail _ (.head _), _, rfl, rfl, rfl⟩, .inr ⟨6, .tail _ (.tail _ (.head _)), _, rfl, rfl, rfl⟩, .inr ⟨3, .head _, _, rfl, rfl, rfl⟩,  trivial⟩, ⟨.inl rfl,  trivial⟩⟩, ⟨⟨.inr ⟨7, .tail _ (.head _), _, rfl, rfl, rfl⟩, .inr ⟨3, .head _, _, rfl, rfl, rfl⟩,  trivial⟩, ⟨.inl rfl,  trivial⟩⟩, ⟨⟨.inl rfl, .inr ⟨3, .head _, _, rfl, rfl, rfl⟩,  trivial⟩, ⟨.inl rfl,  trivial⟩⟩, ⟨⟨.inl rfl, .inr ⟨3, .head _, _, rfl, rfl, rfl⟩,  trivial⟩, trivial⟩, ⟨⟨.inr ⟨10, .tail _ (.head _), _, rfl, rfl, rfl⟩, .inr ⟨3, .head _, _, rfl, rfl, rfl⟩,  trivial⟩, trivial⟩, ⟨⟨.inr ⟨9, .tail _ (.head _), _, rfl, rfl, rfl⟩, .inr ⟨11, .tail _ (.tail _ (.head _)), _, rfl, rfl, rfl⟩, .inr ⟨3, .head _, _, rfl, rfl, rfl⟩,  trivial⟩, ⟨.inl rfl,  trivial⟩⟩, ⟨⟨.inr ⟨12, .tail _ (.head _), _, rfl, rfl, rfl⟩, .inr ⟨3, .head _, _, rfl, rfl, rfl⟩,  trivial⟩, ⟨.inl rfl,  trivial⟩⟩, ⟨⟨.inr ⟨4, .tail _ (.head _), _, rfl, rfl, rfl⟩, .inr ⟨8, .tail _ (.tail _ (.head _)), _, rfl, rfl, rfl⟩, .inr ⟨13, .tail _ (.tail _ (.tail _ (.head _))), _, rfl, rfl, rfl⟩, .inr ⟨3, .head _, _, rfl, rfl, rfl⟩,  trivial⟩, trivial⟩, ⟨⟨.inr ⟨14, .tail _ (.head _), _, rfl, rfl, rfl⟩, .inr ⟨3, .head _, _, rfl, rfl, rfl⟩,  trivial⟩, trivial⟩, ⟨⟨.inr ⟨3, .head _, _, rfl, rfl, rfl⟩, .inr ⟨15, .tail _ (.head _), _, rfl, rfl, rfl⟩,  trivial⟩, trivial⟩,  trivial⟩
          · exact ⟨⟨.inl rfl, .inl rfl, .inl rfl, .inl rfl, .inl rfl, .inl rfl, .inr ⟨16, _, rfl, rfl, rfl⟩,  trivial⟩, ⟨.inl rfl,  trivial⟩⟩
          ·
            refine AL.nil ?_
            refine then_ok ?_
            refine AC.cond rfl (fun hc3 => ?_) (fun hc3 => ?_)
            ·
              have hc3' := hc3; try simp only [sumB, Bool.not_eq_true', Bool.not_eq_false', Bool.or_eq_true, Bool.or_eq_false_iff, Bool.and_eq_true, Bool.and_eq_false_imp, decide_eq_true_eq, decide_eq_false_iff_not, Bool.not_not, Bool.not_true, Bool.not_false] at hc3'
              refine AC.skip ?_
              refine then_ok ?_
              refine AC.seq ?_
              refine AC.block ?_
              obtain ⟨x3, hx3⟩ := exget (xs := ((d2).set j x2)) (i := (j) - 1) (by first | omega | (simp; done) | (simp; omega))
              refine AC.weak (st' := ⟨[(0, (aC (.s 0 0 4 N))), (1, (aI (↑a : Int))), (2, (aI (↑b : Int))), (3, (aC (.d (.f fn caps)))), (8, (aI (↑i : Int))), (9, (aI (↑j : Int)))], [(0, (.arr 127 4 ((d2).map rRecord)))], 1⟩) (Weak.ren id (by refine ⟨?_, ?_, ?_, ?_, ?_, ?_,  trivial⟩ <;> first | rfl | (simp only [AV.map, GV.map, CV.map, AB.map', id]; done) | (congr 3; omega) | (congr 4; omega) | (simp only [List.length_append, List.length_cons, List.length_nil, List.length_set]; rfl)) (⟨by first | rfl | (simp only [AV.map, GV.map, CV.map, AB.map', id]; done) | (congr 3; omega) | (congr 4; omega) | (simp only [List.length_append, List.length_cons, List.length_nil, List.length_set]; rfl), trivial⟩) rfl) ?_
              refine AC.drawW [⟨some 37, (aC (.s 0 0 4 N)), [], [], [], [(0, (aC (.s 0 0 4 N)))], []⟩,
      ⟨some 38, (aI (↑j : Int)), [], [], [], [(9, (aI (↑j : Int)))], []⟩,
      ⟨some 39, (aC (.s 0 0 4 N)), [], [], [], [(0, (aC (.s 0 0 4 N)))], []⟩,
      ⟨some 40, (aI (↑j : Int)), [], [], [], [(9, (aI (↑j : Int)))], []⟩,
      ⟨some 41, (aI ((↑j : Int) - 1)), [], [], [3], [(40, (aI (↑j : Int)))], []⟩,
      ⟨some 42, (aC (.s 0 0 4 N)), [], [], [], [(0, (aC (.s 0 0 4 N)))], []⟩,
      ⟨some 43, (aI (↑j : Int)), [], [], [], [(9, (aI (↑j : Int)))], []⟩,
      ⟨some 44, (aI ((↑j : Int) - 1)), [], [], [6], [(43, (aI (↑j : Int)))], []⟩,
      ⟨some 45, (aC (.p 0 ((j) - 1) 4 0)), [], [], [7, 5], [(42, (aC (.s 0 0 4 N))), (44, (aI ((↑j : Int) - 1)))], [(0, (.arr 127 4 ((d2).map rRecord)))]⟩,
      ⟨some 46, (aG [(cI x2.shop), (cI x2.auth), (cI x2.kind), (cI x2.sum)]), [], [], [8], [(45, (aC (.p 0 ((j) - 1) 4 0)))], [(0, (.arr 127 4 ((d2).map rRecord)))]⟩,
      ⟨some 47, (aC (.s 0 0 4 N)), [], [], [], [(0, (aC (.s 0 0 4 N)))], []⟩,
      ⟨some 48, (aI (↑j : Int)), [], [], [], [(9, (aI (↑j : Int)))], []⟩,
      ⟨some 49, (aC (.p 0 j 4 0)), [], [], [11, 10], [(47, (aC (.s 0 0 4 N))), (48, (aI (↑j : Int)))], [(0, (.arr 127 4 ((d2).map rRecord)))]⟩,
      ⟨some 50, (aG [(cI x1.shop), (cI x1.auth), (cI x1.kind), (cI x1.sum)]), [], [], [12], [(49, (aC (.p 0 j 4 0)))], [(0, (.arr 127 4 ((d2).map rRecord)))]⟩,
      ⟨some 51, (aC (.p 0 j 4 0)), [], [], [1, 0], [(37, (aC (.s 0 0 4 N))), (38, (aI (↑j : Int)))], [(0, (.arr 127 4 ((d2).map rRecord)))]⟩,
      ⟨none, (.v (.c .any)), [(0, (.arr 127 4 (((d2).set j x2).map rRecord)))], [0], [14, 9], [(51, (aC (.p 0 j 4 0))), (46, (aG [(cI x2.shop), (cI x2.auth), (cI x2.kind), (cI x2.sum)]))], [(0, (.arr 127 4 ((d2).map rRecord)))]⟩,
      ⟨some 52, (aC (.p 0 ((j) - 1) 4 0)), [], [], [15, 4, 2], [(39, (aC (.s 0 0 4 N))), (41, (aI ((↑j : Int) - 1)))], [(0, (.arr 127 4 (((d2).set j x2).map rRecord)))]⟩,
      ⟨none, (.v (.c .any)), [(0, (.arr 127 4 ((((d2).set j x2).set ((j) - 1) x1).map rRecord)))], [0], [16, 15, 13], [(52, (aC (.p 0 ((j) - 1) 4 0))), (50, (aG [(cI x1.shop), (cI x1.auth), (cI x1.kind), (cI x1.sum)]))], [(0, (.arr 127 4 (((d2).set j x2).map rRecord)))]⟩] ⟨[(0, (aC (.s 0 0 4 N))), (1, (aI (↑a : Int))), (2, (aI (↑b : Int))), (3, (aC (.d (.f fn caps)))), (8, (aI (↑i : Int))), (9, (aI (↑j : Int)))], [(0, (.arr 127 4 ((((d2).set j x2).set ((j) - 1) x1).map rRecord)))], 1⟩ [17, 16, 15, 14, 13, 12, 11, 10, 9, 8, 7, 6, 5, 4, 3, 2, 1, 0] mixed (by kernel_rfl) ?_ ?_ ?_ ?_
              · exact ⟨.inl ⟨(Wanted.plain rfl), GOp.cast (g_move rfl rfl) rfl⟩,
      .inl ⟨(Wanted.plain rfl), GOp.cast (g_move rfl rfl) rfl⟩,
      .inl ⟨(Wanted.plain rfl), GOp.cast (g_move rfl rfl) rfl⟩,
      .inl ⟨(Wanted.plain rfl), GOp.cast (g_move rfl rfl) rfl⟩,
      .inl ⟨(Wanted.plain rfl), GOp.cast (g_binI rfl rfl rfl (wrap_ok (by first | omega | (simp; done) | (simp; omega)))) rfl⟩,
      .inl ⟨(Wanted.plain rfl), GOp.cast (g_move rfl rfl) rfl⟩,
      .inl ⟨(Wanted.plain rfl), GOp.cast (g_move rfl rfl) rfl⟩,
      .inl ⟨(Wanted.plain rfl), GOp.cast (g_binI rfl rfl rfl (wrap_ok (by first | omega | (simp; done) | (simp; omega)))) rfl⟩,
      .inl ⟨(Wanted.plain rfl), GOp.cast (g_indexP0 (i := (j) - 1) rfl rfl rfl Try.underlying114 sz127 (by first | omega | (simp; done) | (simp; omega)) (by first | omega | (simp; done) | (simp; omega))) rfl⟩,
      .inl ⟨(Wanted.plain rfl), GOp.cast (g_loadAs rfl rfl rfl Try.underlying127 rfl sz127 (getmap hx2) rfl) rfl⟩,
      .inl ⟨(Wanted.plain rfl), GOp.cast (g_move rfl rfl) rfl⟩,
      .inl ⟨(Wanted.plain rfl), GOp.cast (g_move rfl rfl) rfl⟩,
      .inl ⟨(Wanted.plain rfl), GOp.cast (g_indexP0 (i := j) rfl rfl rfl Try.underlying114 sz127 (by first | omega | (simp; done) | (simp; omega)) (by first | omega | (simp; done) | (simp; omega))) rfl⟩,
      .inl ⟨(Wanted.plain rfl), GOp.cast (g_loadAs rfl rfl rfl Try.underlying127 rfl sz127 (getmap hx1) rfl) rfl⟩,
      .inl ⟨(Wanted.plain rfl), GOp.cast (g_indexP0 (i := j) rfl rfl rfl Try.underlying114 sz127 (by first | omega | (simp; done) | (simp; omega)) (by first | omega | (simp; done) | (simp; omega))) rfl⟩,
      .inl ⟨(Wanted.plain rfl), GOp.cast (g_storeA (ds := [(dI x2.shop), (dI x2.auth), (dI x2.kind), (dI x2.sum)]) rfl rfl rfl rfl rfl sz127 rfl (Nat.le_of_ble_eq_true rfl) (getmap hx1) rfl (setmap (x' := x2) rfl)) rfl⟩,
      .inl ⟨(Wanted.plain rfl), GOp.cast (g_indexP0 (i := (j) - 1) rfl rfl rfl Try.underlying114 sz127 (by first | omega | (simp; done) | (simp; omega)) (by first | omega | (simp; done) | (simp; omega))) rfl⟩,
      .inl ⟨(Wanted.plain rfl), GOp.cast (g_storeA (ds := [(dI x1.shop), (dI x1.auth), (dI x1.kind), (dI x1.sum)]) rfl rfl rfl rfl rfl sz127 rfl (Nat.le_of_ble_eq_true rfl) (getmap hx3) rfl (setmap (x' := x1) rfl)) rfl⟩,
       trivial⟩
              · exact ⟨⟨⟨rfl,  trivial⟩, trivial⟩, ⟨⟨rfl,  trivial⟩, trivial⟩, ⟨⟨rfl,  trivial⟩, trivial⟩, ⟨⟨rfl,  trivial⟩, trivial⟩, ⟨⟨⟨_, rfl, rfl, rfl⟩,  trivial⟩, trivial⟩, ⟨⟨rfl,  trivial⟩, trivial⟩, ⟨⟨rfl,  trivial⟩, trivial⟩, ⟨⟨⟨_, rfl, rfl, rfl⟩,  trivial⟩, trivial⟩, ⟨⟨⟨_, rfl, rfl, rfl⟩, ⟨_, rfl, rfl, rfl⟩,  trivial⟩, ⟨rfl,  trivial⟩⟩, ⟨⟨⟨_, rfl, rfl, rfl⟩,  trivial⟩, ⟨rfl,  trivial⟩⟩, ⟨⟨rfl,  trivial⟩, trivial⟩, ⟨⟨rfl,  trivial⟩, trivial⟩, ⟨⟨⟨_, rfl, rfl, rfl⟩, ⟨_, rfl, rfl, rfl⟩,  trivial⟩, ⟨rfl,  trivial⟩⟩, ⟨⟨⟨_, rfl, rfl, rfl⟩,  trivial⟩, ⟨rfl,  trivial⟩⟩, ⟨⟨⟨_, rfl, rfl, rfl⟩, ⟨_, rfl, rfl, rfl⟩,  trivial⟩, ⟨rfl,  trivial⟩⟩, ⟨⟨⟨_, rfl, rfl, rfl⟩, ⟨_, rfl, rfl, rfl⟩,  trivial⟩, ⟨rfl,  trivial⟩⟩, ⟨⟨⟨_, rfl, rfl, rfl⟩, ⟨_, rfl, rfl, rfl⟩,  trivial⟩, ⟨⟨_, rfl, .head _⟩,  trivial⟩⟩, ⟨⟨⟨_, rfl, rfl, rfl⟩, ⟨_, rfl, rfl, rfl⟩,  trivial⟩, ⟨⟨_, rfl, .head _⟩,  trivial⟩⟩,  trivial⟩
              · exact ⟨⟨rfl, rfl, rfl, rfl, rfl, rfl,  trivial⟩, ⟨⟨_, rfl, .head _⟩,  trivial⟩⟩
              ·
                refine block_ok ?_
                refine then_ok ?_
                refine AC.region ?_
                refine AL.fast 1 rfl ?_
                refine AL.val (Wanted.plain rfl) (g_binI rfl rfl rfl (wrap_ok (by first | omega | (simp; done) | (simp; omega)))) rfl rfl ?_
                refine AL.fast 1 rfl ?_
                refine AL.nil ?_
                refine then_ok ?_
                refine ⟨(j - 1, ((d2).set j x2).set ((j) - 1) x1), ⟨by omega, by omega, by rw [← hi1_2, insJ_go (by omega) hx1 hx2 (ordR_lt.1 (by assumption)), swap2_eq hx1 hx2], by simp only [List.length_set]; exact hi1_3⟩, by first | omega | (simp; done) | (simp; omega), Weak.ren id (by refine ⟨?_, ?_, ?_, ?_, ?_, ?_,  trivial⟩ <;> first | rfl | (simp only [AV.map, GV.map, CV.map, AB.map', id]; done) | (congr 3; omega) | (congr 4; omega) | (simp only [List.length_append, List.length_cons, List.length_nil, List.length_set]; rfl) | (exact look_i rfl (by omega))) (⟨by first | rfl | (simp only [AV.map, GV.map, CV.map, AB.map', id]; done) | (congr 3; omega) | (congr 4; omega) | (simp only [List.length_append, List.length_cons, List.length_nil, List.length_set]; rfl), trivial⟩) rfl⟩
            ·
              have hc3' := hc3; try simp only [sumB, Bool.not_eq_true', Bool.not_eq_false', Bool.or_eq_true, Bool.or_eq_false_iff, Bool.and_eq_true, Bool.and_eq_false_imp, decide_eq_true_eq, decide_eq_false_iff_not, Bool.not_not, Bool.not_true, Bool.not_false] at hc3'
              refine AC.exit ?_
              refine then_exit ?_
              refine then_exit ?_
              refine block_hit ?_
              refine block_ok ?_
              refine then_ok ?_
              refine AC.region ?_
              refine AL.fast 1 rfl ?_
              refine AL.val (Wanted.plain rfl) (g_binI rfl rfl rfl (wrap_ok (by first | omega | (simp; done) | (simp; omega)))) rfl rfl ?_
              refine AL.fast 1 rfl ?_
              refine AL.nil ?_
              refine then_ok ?_
              refine ⟨(i + 1, d2), ⟨by omega, by omega, by rw [insS_step hi0_0, ← hi0_2, ← hi1_2]; first | exact (insJ_end (by omega)).symm | exact (insJ_stop hx1 hx2 (ordR_ge (by assumption))).symm, by omega⟩, by first | omega | (simp; done) | (simp; omega), Weak.ren id (by refine ⟨?_, ?_, ?_, ?_, ?_,  trivial⟩ <;> first | rfl | (simp only [AV.map, GV.map, CV.map, AB.map', id]; done) | (congr 3; omega) | (congr 4; omega) | (simp only [List.length_append, List.length_cons, List.length_nil, List.length_set]; rfl) | (exact look_i rfl (by omega))) (⟨by first | rfl | (simp only [AV.map, GV.map, CV.map, AB.map', id]; done) | (congr 3; omega) | (congr 4; omega) | (simp only [List.length_append, List.length_cons, List.length_nil, List.length_set]; rfl), trivial⟩) rfl⟩
        ·
          have hb2' := hb2; try simp only [sumB, Bool.not_eq_true', Bool.not_eq_false', Bool.or_eq_true, Bool.or_eq_false_iff, Bool.and_eq_true, Bool.and_eq_false_imp, decide_eq_true_eq, decide_eq_false_iff_not, Bool.not_not, Bool.not_true, Bool.not_false] at hb2'
          refine AC.weak (st' := ⟨[(0, (aC (.s 0 0 4 N))), (1, (aI (↑a : Int))), (2, (aI (↑b : Int))), (3, (aC (.d (.f fn caps)))), (8, (aI (↑i : Int))), (9, (aI (↑j : Int)))], [(0, (.arr 127 4 ((d2).map rRecord)))], 1⟩) (Weak.ren id (by refine ⟨?_, ?_, ?_, ?_, ?_, ?_,  trivial⟩ <;> first | rfl | (simp only [AV.map, GV.map, CV.map, AB.map', id]; done) | (congr 3; omega) | (congr 4; omega) | (simp only [List.length_append, List.length_cons, List.length_nil, List.length_set]; rfl)) (⟨by first | rfl | (simp only [AV.map, GV.map, CV.map, AB.map', id]; done) | (congr 3; omega) | (congr 4; omega) | (simp only [List.length_append, List.length_cons, List.length_nil, List.length_set]; rfl), trivial⟩) rfl) ?_
          refine AC.draw [⟨some 18, (aI (↑j : Int)), [], [], [], [(9, (aI (↑j : Int)))], []⟩,
      ⟨some 19, (aI (↑a : Int)), [], [], [], [(1, (aI (↑a : Int)))], []⟩,
      ⟨some 20, (aB false), [], [], [0, 1], [(18, (aI (↑j : Int))), (19, (aI (↑a : Int)))], []⟩,
      ⟨some 21, (aB false), [], [], [2], [(20, (aB false))], []⟩,
      ⟨some 22, (.t []), [], [], [3], [(3, (aC (.d (.f fn caps)))), (21, (aB false))], []⟩,
      ⟨some 23, (.t []), [], [], [3], [(0, (aC (.s 0 0 4 N))), (21, (aB false))], []⟩,
      ⟨some 24, (.t []), [], [], [3], [(9, (aI (↑j : Int))), (21, (aB false))], []⟩,
      ⟨some 25, (.t []), [], [], [3, 5, 6], [(23, (.t [])), (24, (.t [])), (21, (aB false))], []⟩,
      ⟨some 26, (.t []), [], [], [3, 7], [(25, (.t [])), (21, (aB false))], []⟩,
      ⟨some 27, (.t []), [], [], [3], [(0, (aC (.s 0 0 4 N))), (21, (aB false))], []⟩,
      ⟨some 28, (.t []), [], [], [3], [(9, (aI (↑j : Int))), (21, (aB false))], []⟩,
      ⟨some 29, (.t []), [], [], [3, 10], [(28, (.t [])), (21, (aB false))], []⟩,
      ⟨some 30, (.t []), [], [], [3, 9, 11], [(27, (.t [])), (29, (.t [])), (21, (aB false))], []⟩,
      ⟨some 31, (.t []), [], [], [3, 12], [(30, (.t [])), (21, (aB false))], []⟩,
      ⟨some 32, (.t []), [], [], [3, 4, 8, 13], [(22, (.t [])), (26, (.t [])), (31, (.t [])), (21, (aB false))], []⟩,
      ⟨some 33, (.t []), [], [], [3, 14], [(32, (.t [])), (21, (aB false))], []⟩,
      ⟨some 34, (aB false), [], [], [3, 15], [(21, (aB false)), (33, (.t []))], []⟩] ⟨[(0, (aC (.s 0 0 4 N))), (1, (aI (↑a : Int))), (2, (aI (↑b : Int))), (3, (aC (.d (.f fn caps)))), (8, (aI (↑i : Int))), (9, (aI (↑j : Int))), (34, (aB false))], [(0, (.arr 127 4 ((d2).map rRecord)))], 1⟩ mixed (by kernel_rfl) ?_ ?_ ?_ ?_
          · exact ⟨.inl ⟨(Wanted.plain rfl), GOp.cast (g_move rfl rfl) rfl⟩,
      .inl ⟨(Wanted.plain rfl), GOp.cast (g_move rfl rfl) rfl⟩,
      .inl ⟨(Wanted.plain rfl), GOp.cast (g_binI rfl rfl rfl (congrArg (fun b => some (Value.bool b)) hb2)) rfl⟩,
      .inl ⟨(Wanted.plain rfl), GOp.cast (g_move rfl rfl) rfl⟩,
      .inr ⟨(Unwanted.no rfl rfl rfl), rfl, rfl, rfl⟩,
      .inr ⟨(Unwanted.no rfl rfl rfl), rfl, rfl, rfl⟩,
      .inr ⟨(Unwanted.no rfl rfl rfl), rfl, rfl, rfl⟩,
      .inr ⟨(Unwanted.no rfl rfl rfl), rfl, rfl, rfl⟩,
      .inr ⟨(Unwanted.no rfl rfl rfl), rfl, rfl, rfl⟩,
      .inr ⟨(Unwanted.no rfl rfl rfl), rfl, rfl, rfl⟩,
      .inr ⟨(Unwanted.no rfl rfl rfl), rfl, rfl, rfl⟩,
      .inr ⟨(Unwanted.no rfl rfl rfl), rfl, rfl, rfl⟩,
      .inr ⟨(Unwanted.no rfl rfl rfl), rfl, rfl, rfl⟩,
      .inr ⟨(Unwanted.no rfl rfl rfl), rfl, rfl, rfl⟩,
      .inr ⟨(Unwanted.no rfl rfl rfl), rfl, rfl, rfl⟩,
      .inr ⟨(Unwanted.no rfl rfl rfl), rfl, rfl, rfl⟩,
      .inl ⟨(Wanted.plain rfl), GOp.cast (g_pick rfl rfl rfl) rfl⟩,
       trivial⟩
          · exact ⟨⟨⟨.inl rfl,  trivial⟩, trivial⟩, ⟨⟨.inl rfl,  trivial⟩, trivial⟩, ⟨⟨.inr ⟨0, .head _, _, rfl, rfl, rfl⟩, .inr ⟨1, .tail _ (.head _), _, rfl, rfl, rfl⟩,  trivial⟩, trivial⟩, ⟨⟨.inr ⟨2, .head _, _, rfl, rfl, rfl⟩,  trivial⟩, trivial⟩, ⟨⟨.inl rfl, .inr ⟨3, .head _, _, rfl, rfl, rfl⟩,  trivial⟩, trivial⟩, ⟨⟨.inl rfl, .inr ⟨3, .head _, _, rfl, rfl, rfl⟩,  trivial⟩, trivial⟩, ⟨⟨.inl rfl, .inr ⟨3, .head _, _, rfl, rfl, rfl⟩,  trivial⟩, trivial⟩, ⟨⟨.inr ⟨5, .tail _ (.head _), _, rfl, rfl, rfl⟩, .inr ⟨6, .tail _ (.tail _ (.head _)), _, rfl, rfl, rfl⟩, .inr ⟨3, .head _, _, rfl, rfl, rfl⟩,  trivial⟩, trivial⟩, ⟨⟨.inr ⟨7, .tail _ (.head _), _, rfl, rfl, rfl⟩, .inr ⟨3, .head _, _, rfl, rfl, rfl⟩,  trivial⟩, trivial⟩, ⟨⟨.inl rfl, .inr ⟨3, .head _, _, rfl, rfl, rfl⟩,  trivial⟩, trivial⟩, ⟨⟨.inl rfl, .inr ⟨3, .head _, _, rfl, rfl, rfl⟩,  trivial⟩, trivial⟩, ⟨⟨.inr ⟨10, .tail _ (.head _), _, rfl, rfl, rfl⟩, .inr ⟨3, .head _, _, rfl, rfl, rfl⟩,  trivial⟩, trivial⟩, ⟨⟨.inr ⟨9, .tail _ (.head _), _, rfl, rfl, rfl⟩, .inr ⟨11, .tail _ (.tail _ (.head _)), _, rfl, rfl, rfl⟩, .inr ⟨3, .head _, _, rfl, rfl, rfl⟩,  trivial⟩, trivial⟩, ⟨⟨.inr ⟨12, .tail _ (.head _), _, rfl, rfl, rfl⟩, .inr ⟨3, .head _, _, rfl, rfl, rfl⟩,  trivial⟩, trivial⟩, ⟨⟨.inr ⟨4, .tail _ (.head _), _, rfl, rfl, rfl⟩, .inr ⟨8, .tail _ (.tail _ (.head _)), _, rfl, rfl, rfl⟩, .inr ⟨13, .tail _ (.tail _ (.tail _ (.head _))), _, rfl, rfl, rfl⟩, .inr ⟨3, .head _, _, rfl, rfl, rfl⟩,  trivial⟩, trivial⟩, ⟨⟨.inr ⟨14, .tail _ (.head _), _, rfl, rfl, rfl⟩, .inr ⟨3, .head _, _, rfl, rfl, rfl⟩,  trivial⟩, trivial⟩, ⟨⟨.inr ⟨3, .head _, _, rfl, rfl, rfl⟩, .inr ⟨15, .tail _ (.head _), _, rfl, rfl, rfl⟩,  trivial⟩, trivial⟩,  trivial⟩
          · exact ⟨⟨.inl rfl, .inl rfl, .inl rfl, .inl rfl, .inl rfl, .inl rfl, .inr ⟨16, _, rfl, rfl, rfl⟩,  trivial⟩, ⟨.inl rfl,  trivial⟩⟩
          ·
            refine AL.nil ?_
            refine then_ok ?_
            refine AC.cond rfl (fun hno => by cases hno) (fun _ => ?_)
            refine AC.exit ?_
            refine then_exit ?_
            refine then_exit ?_
            refine block_hit ?_
            refine block_ok ?_
            refine then_ok ?_
            refine AC.region ?_
            refine AL.fast 1 rfl ?_
            refine AL.val (Wanted.plain rfl) (g_binI rfl rfl rfl (wrap_ok (by first | omega | (simp; done) | (simp; omega)))) rfl rfl ?_
            refine AL.fast 1 rfl ?_
            refine AL.nil ?_
            refine then_ok ?_
            refine ⟨(i + 1, d2), ⟨by omega, by omega, by rw [insS_step hi0_0, ← hi0_2, ← hi1_2]; first | exact (insJ_end (by omega)).symm | exact (insJ_stop hx1 hx2 (ordR_ge (by assumption))).symm, by omega⟩, by first | omega | (simp; done) | (simp; omega), Weak.ren id (by refine ⟨?_, ?_, ?_, ?_, ?_,  trivial⟩ <;> first | rfl | (simp only [AV.map, GV.map, CV.map, AB.map', id]; done) | (congr 3; omega) | (congr 4; omega) | (simp only [List.length_append, List.length_cons, List.length_nil, List.length_set]; rfl) | (exact look_i rfl (by omega))) (⟨by first | rfl | (simp only [AV.map, GV.map, CV.map, AB.map', id]; done) | (congr 3; omega) | (congr 4; omega) | (simp only [List.length_append, List.length_cons, List.length_nil, List.length_set]; rfl), trivial⟩) rfl⟩
    ·
      have hc1' := hc1; try simp only [sumB, Bool.not_eq_true', Bool.not_eq_false', Bool.or_eq_true, Bool.or_eq_false_iff, Bool.and_eq_true, Bool.and_eq_false_imp, decide_eq_true_eq, decide_eq_false_iff_not, Bool.not_not, Bool.not_true, Bool.not_false] at hc1'
      refine AC.exit ?_
      refine then_exit ?_
      refine then_exit ?_
      refine block_hit ?_
      have hX : insS a (b - (a + 1)) d = d1 := by
        rw [hi0_2]; congr 1; omega
      rw [hX] at hr; clear hX
      subst hr
      refine retQ_mk (av' := outOf []) (nb' := [(0, (.arr 127 4 ((d1).map rRecord)))]) (retQ_end ⟨[], [(0, (.arr 127 4 ((d1).map rRecord)))], 1⟩ [] [] (Weak.ren (fun k => if k = 0 then 0 else k) (trivial) (⟨by first | rfl | (simp only [AV.map, GV.map, CV.map, AB.map', id]; done) | (congr 3; omega) | (congr 4; omega) | (simp only [List.length_append, List.length_cons, List.length_nil, List.length_set]; rfl), trivial⟩) rfl) rfl trivial ⟨by first | rfl | (simp only [AV.map, GV.map, CV.map, AB.map', id]; done) | (congr 3; omega) | (congr 4; omega) | (simp only [List.length_append, List.length_cons, List.length_nil, List.length_set]; rfl), trivial⟩) ?_ ?_
      · first | rfl | (simp [outOf, aC]; done) | (simp [outOf, aC]; omega)
      · first | rfl | (simp; done) | (simp; omega)
theorem c_insertionI (ai bi : Int) (d : List Record) (N a b : Nat) (fn : FuncId) (caps : List (List D)) (hp : ∀ x y : Record, Fn Try.prog fn ([.g [cI x.shop, cI x.auth, cI x.kind, cI x.sum], .g [cI y.shop, cI y.auth, cI y.kind, cI y.sum]] ++ caps.map fun r => GV.c (.q r 0)) (aI (ordR x y)) []) (hen : Enters Try.prog fn) (ea_ : ai = (↑a : Int)) (eb_ : bi = (↑b : Int)) (hl : d.length * 32 ≤ 140737488355328) (hN : N = d.length) (h0_ : a ≤ b) (h1_ : b ≤ d.length) (r : List Record) (hr : insS a (b - (a + 1)) d = r) : FnE Try.prog 137 [(.c (.s 0 0 4 N)), (.c (cI ai)), (.c (cI bi)), (.c (.d (.f fn caps)))] [(0, (.arr 127 4 ((d).map rRecord)))] [0] (.t []) [(0, (.arr 127 4 ((r).map rRecord)))] := by
  subst ea_ eb_
  exact c_insertion d N a b fn caps hp hen hl hN h0_ h1_ r hr
end Go.Proofs.Ytgmcdlfmifijlaa.Dev
namespace Go.Proofs.Ytgmcdlfmifijlaa.Dev
open Go.RowKit

set_option maxRecDepth 100000 in
set_option maxHeartbeats 4000000 in
theorem c_sym_step (f : Nat) (ih : ∀ (ai mi bi : Int) (d : List Record) (N a m b : Nat) (fn : FuncId) (caps : List (List D)) (hp : ∀ x y : Record, Fn Try.prog fn ([.g [cI x.shop, cI x.auth, cI x.kind, cI x.sum], .g [cI y.shop, cI y.auth, cI y.kind, cI y.sum]] ++ caps.map fun r => GV.c (.q r 0)) (aI (ordR x y)) []) (hen : Enters Try.prog fn) (ea_ : ai = (↑a : Int)) (em_ : mi = (↑m : Int)) (eb_ : bi = (↑b : Int)) (hl : d.length * 32 ≤ 140737488355328) (hN : N = d.length) (h0_ : a < m) (h1_ : m < b) (h2_ : b ≤ d.length) (h3_ : b - a ≤ f) (r : List Record) (hr : symM f a m b d = r), FnE Try.prog 138 [(.c (.s 0 0 4 N)), (.c (cI ai)), (.c (cI mi)), (.c (cI bi)), (.c (.d (.f fn caps)))] [(0, (.arr 127 4 ((d).map rRecord)))] [0] (.t []) [(0, (.arr 127 4 ((r).map rRecord)))]) (d : List Record) (N a m b : Nat) (fn : FuncId) (caps : List (List D)) (hp : ∀ x y : Record, Fn Try.prog fn ([.g [cI x.shop, cI x.auth, cI x.kind, cI x.sum], .g [cI y.shop, cI y.auth, cI y.kind, cI y.sum]] ++ caps.map fun r => GV.c (.q r 0)) (aI (ordR x y)) []) (hen : Enters Try.prog fn) (hl : d.length * 32 ≤ 140737488355328) (hN : N = d.length) (h0_ : a < m) (h1_ : m < b) (h2_ : b ≤ d.length) (h3_ : b - a ≤ f + 1) (r : List Record) (hr : symM (f + 1) a m b d = r) : FnE Try.prog 138 [(.c (.s 0 0 4 N)), (.c (cI (↑a : Int))), (.c (cI (↑m : Int))), (.c (cI (↑b : Int))), (.c (.d (.f fn caps)))] [(0, (.arr 127 4 ((d).map rRecord)))] [0] (.t []) [(0, (.arr 127 4 ((r).map rRecord)))] := by
  refine FnE.mk 220 [(0, (aC (.s 0 0 4 N))), (1, (aI (↑a : Int))), (2, (aI (↑m : Int))), (3, (aI (↑b : Int))), (4, (aC (.d (.f fn caps))))] 1 Try.func138 rfl rfl rfl rfl rfl rfl rfl rfl rfl ?_
  intro W0 F0 T0 pg
  refine AC.lenS 0 rfl (fun hlen0 => ?_)
  refine AC.seq ?_
  refine AC.seq ?_
  refine AC.region ?_
  refine AL.fast 2 rfl ?_
  refine AL.val (Wanted.plain rfl) (g_binI rfl rfl rfl (wrap_ok (by first | omega | (simp; done) | (simp; omega)))) rfl rfl ?_
  refine AL.val (Wanted.plain rfl) (g_binI rfl rfl rfl rfl) rfl rfl ?_
  refine AL.nil ?_
  refine then_ok ?_
  refine AC.cond rfl (fun hc1 => ?_) (fun hc1 => ?_)
  ·
    have hc1' := hc1; try simp only [sumB, Bool.not_eq_true', Bool.not_eq_false', Bool.or_eq_true, Bool.or_eq_false_iff, Bool.and_eq_true, Bool.and_eq_false_imp, decide_eq_true_eq, decide_eq_false_iff_not, Bool.not_not, Bool.not_true, Bool.not_false] at hc1'
    refine AC.seq ?_
    refine AC.region ?_
    refine AL.fast 2 rfl ?_
    refine AL.nil ?_
    refine then_ok ?_
    refine AC.seq ?_
    refine AC.region ?_
    refine AL.fast 2 rfl ?_
    refine AL.nil ?_
    refine then_ok ?_
    refine AC.seq ?_
    refine AC.block ?_
    refine AC.loop (β := Nat × Nat) (fun (p : Nat × Nat) => match p with | (i, j) => ⟨[(0, (aC (.s 0 0 4 N))), (1, (aI (↑a : Int))), (2, (aI (↑m : Int))), (3, (aI (↑b : Int))), (4, (aC (.d (.f fn caps)))), (10, (aI (↑i : Int))), (11, (aI (↑j : Int)))], [(0, (.arr 127 4 ((d).map rRecord)))], 1⟩) (fun (p : Nat × Nat) => match p with | (i, j) => m ≤ i ∧ i ≤ j ∧ j ≤ b ∧ bsr (fun h => ltAt d h a) i j = bsr (fun h => ltAt d h a) m b) (fun (p : Nat × Nat) => match p with | (i, j) => j - i) (m, b) ?_ ?_ ?_
    · exact ⟨by omega, by omega, by omega, rfl⟩
    · exact Weak.ren id (by refine ⟨?_, ?_, ?_, ?_, ?_, ?_, ?_,  trivial⟩ <;> first | rfl | (simp only [AV.map, GV.map, CV.map, AB.map', id]; done) | (congr 3; omega) | (congr 4; omega) | (simp only [List.length_append, List.length_cons, List.length_nil, List.length_set]; rfl) | (exact look_i rfl (by omega))) (⟨by first | rfl | (simp only [AV.map, GV.map, CV.map, AB.map', id]; done) | (congr 3; omega) | (congr 4; omega) | (simp only [List.length_append, List.length_cons, List.length_nil, List.length_set]; rfl), trivial⟩) rfl
    ·
      rintro ⟨i, j⟩ ⟨hi0_0, hi0_1, hi0_2, hi0_3⟩
      refine AC.seq ?_
      refine AC.seq ?_
      refine AC.region ?_
      refine AL.fast 2 rfl ?_
      refine AL.val (Wanted.plain rfl) (g_binI rfl rfl rfl rfl) rfl rfl ?_
      refine AL.nil ?_
      refine then_ok ?_
      refine AC.cond rfl (fun hc2 => ?_) (fun hc2 => ?_)
      ·
        have hc2' := hc2; try simp only [sumB, Bool.not_eq_true', Bool.not_eq_false', Bool.or_eq_true, Bool.or_eq_false_iff, Bool.and_eq_true, Bool.and_eq_false_imp, decide_eq_true_eq, decide_eq_false_iff_not, Bool.not_not, Bool.not_true, Bool.not_false] at hc2'
        refine AC.skip ?_
        refine then_ok ?_
        refine AC.block ?_
        refine AC.seq ?_
        refine AC.region ?_
        refine AL.fast 2 rfl ?_
        refine AL.val (Wanted.plain rfl) (g_binI rfl rfl rfl (wrap_ok (by first | omega | (simp; done) | (simp; omega)))) rfl rfl ?_
        refine AL.val (Wanted.plain rfl) (g_convI rfl rfl (by rw [Try.underlying3]; rfl) Try.underlying168 (conv_u64 (by first | omega | (simp; done) | (simp; omega)))) rfl rfl ?_
        refine AL.val (Wanted.plain rfl) (g_shr1 (r := (↑(((i) + (j)) / 2) : Int)) rfl rfl rfl (by omega)) rfl rfl ?_
        refine AL.val (Wanted.plain rfl) (g_convI rfl rfl (by rw [Try.underlying168]; rfl) Try.underlying3 (conv_i64 (by first | omega | (simp; done) | (simp; omega)))) rfl rfl ?_
        refine AL.fast 1 rfl ?_
        refine AL.nil ?_
        refine then_ok ?_
        obtain ⟨h, hh⟩ : ∃ z : Nat, z = (i + j) / 2 := ⟨_, rfl⟩
        refine AC.weak (st' := ⟨[(0, (aC (.s 0 0 4 N))), (1, (aI (↑a : Int))), (2, (aI (↑m : Int))), (3, (aI (↑b : Int))), (4, (aC (.d (.f fn caps)))), (10, (aI (↑i : Int))), (11, (aI (↑j : Int))), (31, (aI (↑i : Int))), (32, (aI (↑j : Int))), (33, (aB (decide ((↑i : Int) < (↑j : Int))))), (34, (aI (↑i : Int))), (35, (aI (↑j : Int))), (36, (aI ((↑i : Int) + (↑j : Int)))), (37, (aC (.d (.v (.int .u64 ((↑i : Int) + (↑j : Int))))))), (38, (aC (.d (.v (.int .u64 (↑(((i) + (j)) / 2) : Int)))))), (39, (aI (↑(((i) + (j)) / 2) : Int))), (12, (aI (↑h : Int)))], [(0, (.arr 127 4 ((d).map rRecord)))], 1⟩) (Weak.ren id (by refine ⟨?_, ?_, ?_, ?_, ?_, ?_, ?_, ?_, ?_, ?_, ?_, ?_, ?_, ?_, ?_, ?_, ?_,  trivial⟩ <;> first | rfl | (simp only [AV.map, GV.map, CV.map, AB.map', id]; done) | (congr 3; omega) | (congr 4; omega) | (simp only [List.length_append, List.length_cons, List.length_nil, List.length_set]; rfl) | (exact look_i rfl (by omega))) (⟨by first | rfl | (simp only [AV.map, GV.map, CV.map, AB.map', id]; done) | (congr 3; omega) | (congr 4; omega) | (simp only [List.length_append, List.length_cons, List.length_nil, List.length_set]; rfl), trivial⟩) rfl) ?_
        refine AC.seq ?_
        obtain ⟨x1, hx1⟩ := exget (xs := d) (i := h) (by first | omega | (simp; done) | (simp; omega))
        obtain ⟨x2, hx2⟩ := exget (xs := d) (i := a) (by first | omega | (simp; done) | (simp; omega))
        refine AC.weak (st' := ⟨[(0, (aC (.s 0 0 4 N))), (1, (aI (↑a : Int))), (2, (aI (↑m : Int))), (3, (aI (↑b : Int))), (4, (aC (.d (.f fn caps)))), (10, (aI (↑i : Int))), (11, (aI (↑j : Int))), (12, (aI (↑h : Int)))], [(0, (.arr 127 4 ((d).map rRecord)))], 1⟩) (Weak.ren id (by refine ⟨?_, ?_, ?_, ?_, ?_, ?_, ?_, ?_,  trivial⟩ <;> first | rfl | (simp only [AV.map, GV.map, CV.map, AB.map', id]; done) | (congr 3; omega) | (congr 4; omega) | (simp only [List.length_append, List.length_cons, List.length_nil, List.length_set]; rfl)) (⟨by first | rfl | (simp only [AV.map, GV.map, CV.map, AB.map', id]; done) | (congr 3; omega) | (congr 4; omega) | (simp only [List.length_append, List.length_cons, List.length_nil, List.length_set]; rfl), trivial⟩) rfl) ?_
        refine AC.draw [⟨some 40, (aC (.d (.f fn caps))), [], [], [], [(4, (aC (.d (.f fn caps))))], []⟩,
      ⟨some 41, (aC (.s 0 0 4 N)), [], [], [], [(0, (aC (.s 0 0 4 N)))], [(0, (.arr 127 4 ((d).map rRecord)))]⟩,
      ⟨some 42, (aI (↑h : Int)), [], [], [], [(12, (aI (↑h : Int)))], []⟩,
      ⟨some 43, (aC (.p 0 h 4 0)), [], [], [1, 2], [(41, (aC (.s 0 0 4 N))), (42, (aI (↑h : Int)))], [(0, (.arr 127 4 ((d).map rRecord)))]⟩,
      ⟨some 44, (aG [(cI x1.shop), (cI x1.auth), (cI x1.kind), (cI x1.sum)]), [], [], [3], [(43, (aC (.p 0 h 4 0)))], [(0, (.arr 127 4 ((d).map rRecord)))]⟩,
      ⟨some 45, (aC (.s 0 0 4 N)), [], [], [], [(0, (aC (.s 0 0 4 N)))], [(0, (.arr 127 4 ((d).map rRecord)))]⟩,
      ⟨some 46, (aI (↑a : Int)), [], [], [], [(1, (aI (↑a : Int)))], []⟩,
      ⟨some 47, (aC (.p 0 a 4 0)), [], [], [5, 6], [(45, (aC (.s 0 0 4 N))), (46, (aI (↑a : Int)))], [(0, (.arr 127 4 ((d).map rRecord)))]⟩,
      ⟨some 48, (aG [(cI x2.shop), (cI x2.auth), (cI x2.kind), (cI x2.sum)]), [], [], [7], [(47, (aC (.p 0 a 4 0)))], [(0, (.arr 127 4 ((d).map rRecord)))]⟩,
      ⟨some 49, (aI (ordR x1 x2)), [], [], [0, 4, 8], [(40, (aC (.d (.f fn caps)))), (44, (aG [(cI x1.shop), (cI x1.auth), (cI x1.kind), (cI x1.sum)])), (48, (aG [(cI x2.shop), (cI x2.auth), (cI x2.kind), (cI x2.sum)]))], []⟩,
      ⟨some 50, (aB (decide ((ordR x1 x2) < 0))), [], [], [9], [(49, (aI (ordR x1 x2)))], []⟩] ⟨[(0, (aC (.s 0 0 4 N))), (1, (aI (↑a : Int))), (2, (aI (↑m : Int))), (3, (aI (↑b : Int))), (4, (aC (.d (.f fn caps)))), (10, (aI (↑i : Int))), (11, (aI (↑j : Int))), (12, (aI (↑h : Int))), (50, (aB (decide ((ordR x1 x2) < 0))))], [(0, (.arr 127 4 ((d).map rRecord)))], 1⟩ mixed (by kernel_rfl) ?_ ?_ ?_ ?_
        · exact ⟨.inl ⟨(Wanted.plain rfl), GOp.cast (g_move rfl rfl) rfl⟩,
      .inl ⟨(Wanted.plain rfl), GOp.cast (g_move rfl rfl) rfl⟩,
      .inl ⟨(Wanted.plain rfl), GOp.cast (g_move rfl rfl) rfl⟩,
      .inl ⟨(Wanted.plain rfl), GOp.cast (g_indexP0 (i := h) rfl rfl rfl Try.underlying114 sz127 (by first | omega | (simp; done) | (simp; omega)) (by first | omega | (simp; done) | (simp; omega))) rfl⟩,
      .inl ⟨(Wanted.plain rfl), GOp.cast (g_loadAs rfl rfl rfl Try.underlying127 rfl sz127 (getmap hx1) rfl) rfl⟩,
      .inl ⟨(Wanted.plain rfl), GOp.cast (g_move rfl rfl) rfl⟩,
      .inl ⟨(Wanted.plain rfl), GOp.cast (g_move rfl rfl) rfl⟩,
      .inl ⟨(Wanted.plain rfl), GOp.cast (g_indexP0 (i := a) rfl rfl rfl Try.underlying114 sz127 (by first | omega | (simp; done) | (simp; omega)) (by first | omega | (simp; done) | (simp; omega))) rfl⟩,
      .inl ⟨(Wanted.plain rfl), GOp.cast (g_loadAs rfl rfl rfl Try.underlying127 rfl sz127 (getmap hx2) rfl) rfl⟩,
      .inl ⟨(Wanted.plain rfl), GOp.cast (g_callF (ins := [(.g [(cI x1.shop), (cI x1.auth), (cI x1.kind), (cI x1.sum)]), (.g [(cI x2.shop), (cI x2.auth), (cI x2.kind), (cI x2.sum)])]) 1 (hp x1 x2) hen rfl rfl rfl ⟨⟨_, rfl, .g ⟨.d _, .d _, .d _, .d _,  trivial⟩⟩, ⟨_, rfl, .g ⟨.d _, .d _, .d _, .d _,  trivial⟩⟩,  trivial⟩ trivial trivial rfl rfl rfl rfl) rfl⟩,
      .inl ⟨(Wanted.plain rfl), GOp.cast (g_binI rfl rfl rfl rfl) rfl⟩,
       trivial⟩
        · exact ⟨⟨⟨.inl rfl,  trivial⟩, trivial⟩, ⟨⟨.inl rfl,  trivial⟩, ⟨.inl rfl,  trivial⟩⟩, ⟨⟨.inl rfl,  trivial⟩, trivial⟩, ⟨⟨.inr ⟨1, .head _, _, rfl, rfl, rfl⟩, .inr ⟨2, .tail _ (.head _), _, rfl, rfl, rfl⟩,  trivial⟩, ⟨.inl rfl,  trivial⟩⟩, ⟨⟨.inr ⟨3, .head _, _, rfl, rfl, rfl⟩,  trivial⟩, ⟨.inl rfl,  trivial⟩⟩, ⟨⟨.inl rfl,  trivial⟩, ⟨.inl rfl,  trivial⟩⟩, ⟨⟨.inl rfl,  trivial⟩, trivial⟩, ⟨⟨.inr ⟨5, .head _, _, rfl, rfl, rfl⟩, .inr ⟨6, .tail _ (.head _), _, rfl, rfl, rfl⟩,  trivial⟩, ⟨.inl rfl,  trivial⟩⟩, ⟨⟨.inr ⟨7, .head _, _, rfl, rfl, rfl⟩,  trivial⟩, ⟨.inl rfl,  trivial⟩⟩, ⟨⟨.inr ⟨0, .head _, _, rfl, rfl, rfl⟩, .inr ⟨4, .tail _ (.head _), _, rfl, rfl, rfl⟩, .inr ⟨8, .tail _ (.tail _ (.head _)), _, rfl, rfl, rfl⟩,  trivial⟩, trivial⟩, ⟨⟨.inr ⟨9, .head _, _, rfl, rfl, rfl⟩,  trivial⟩, trivial⟩,  trivial⟩
        · exact ⟨⟨.inl rfl, .inl rfl, .inl rfl, .inl rfl, .inl rfl, .inl rfl, .inl rfl, .inl rfl, .inr ⟨10, _, rfl, rfl, rfl⟩,  trivial⟩, ⟨.inl rfl,  trivial⟩⟩
        ·
          refine AL.nil ?_
          refine then_ok ?_
          refine AC.cond rfl (fun hc3 => ?_) (fun hc3 => ?_)
          ·
            have hc3' := hc3; try simp only [sumB, Bool.not_eq_true', Bool.not_eq_false', Bool.or_eq_true, Bool.or_eq_false_iff, Bool.and_eq_true, Bool.and_eq_false_imp, decide_eq_true_eq, decide_eq_false_iff_not, Bool.not_not, Bool.not_true, Bool.not_false] at hc3'
            refine AC.region ?_
            refine AL.fast 1 rfl ?_
            refine AL.val (Wanted.plain rfl) (g_binI rfl rfl rfl (wrap_ok (by first | omega | (simp; done) | (simp; omega)))) rfl rfl ?_
            refine AL.fast 1 rfl ?_
            refine AL.nil ?_
            refine block_ok ?_
            refine then_ok ?_
            refine ⟨(h + 1, j), ⟨by omega, by omega, by omega, bsr_st hi0_3 (by omega) hh (by show ltAt _ _ _ = true; rw [ltAt_eq hx1 hx2, ordR_lt.1 (by assumption)])⟩, by first | omega | (simp; done) | (simp; omega), Weak.ren id (by refine ⟨?_, ?_, ?_, ?_, ?_, ?_, ?_,  trivial⟩ <;> first | rfl | (simp only [AV.map, GV.map, CV.map, AB.map', id]; done) | (congr 3; omega) | (congr 4; omega) | (simp only [List.length_append, List.length_cons, List.length_nil, List.length_set]; rfl) | (exact look_i rfl (by omega))) (⟨by first | rfl | (simp only [AV.map, GV.map, CV.map, AB.map', id]; done) | (congr 3; omega) | (congr 4; omega) | (simp only [List.length_append, List.length_cons, List.length_nil, List.length_set]; rfl), trivial⟩) rfl⟩
          ·
            have hc3' := hc3; try simp only [sumB, Bool.not_eq_true', Bool.not_eq_false', Bool.or_eq_true, Bool.or_eq_false_iff, Bool.and_eq_true, Bool.and_eq_false_imp, decide_eq_true_eq, decide_eq_false_iff_not, Bool.not_not, Bool.not_true, Bool.not_false] at hc3'
            refine AC.region ?_
            refine AL.fast 2 rfl ?_
            refine AL.nil ?_
            refine block_ok ?_
            refine then_ok ?_
            refine ⟨(i, h), ⟨by omega, by omega, by omega, bsr_sf hi0_3 (by omega) hh (by show ltAt _ _ _ = false; rw [ltAt_eq hx1 hx2, ordR_ge (by assumption)])⟩, by first | omega | (simp; done) | (simp; omega), Weak.ren id (by refine ⟨?_, ?_, ?_, ?_, ?_, ?_, ?_,  trivial⟩ <;> first | rfl | (simp only [AV.map, GV.map, CV.map, AB.map', id]; done) | (congr 3; omega) | (congr 4; omega) | (simp only [List.length_append, List.length_cons, List.length_nil, List.length_set]; rfl) | (exact look_i rfl (by omega))) (⟨by first | rfl | (simp only [AV.map, GV.map, CV.map, AB.map', id]; done) | (congr 3; omega) | (congr 4; omega) | (simp only [List.length_append, List.length_cons, List.length_nil, List.length_set]; rfl), trivial⟩) rfl⟩
      ·
        have hc2' := hc2; try simp only [sumB, Bool.not_eq_true', Bool.not_eq_false', Bool.or_eq_true, Bool.or_eq_false_iff, Bool.and_eq_true, Bool.and_eq_false_imp, decide_eq_true_eq, decide_eq_false_iff_not, Bool.not_not, Bool.not_true, Bool.not_false] at hc2'
        refine AC.exit ?_
        refine then_exit ?_
        refine then_exit ?_
        refine block_hit ?_
        refine then_ok ?_
        refine AC.seq ?_
        refine AC.seq ?_
        refine AC.region ?_
        refine AL.fast 2 rfl ?_
        refine AL.nil ?_
        refine then_ok ?_
        refine AC.block ?_
        refine AC.loop (β := Nat × List Record) (fun (p : Nat × List Record) => match p with | (k, d1) => ⟨[(0, (aC (.s 0 0 4 N))), (1, (aI (↑a : Int))), (2, (aI (↑m : Int))), (3, (aI (↑b : Int))), (4, (aC (.d (.f fn caps)))), (10, (aI (↑i : Int))), (11, (aI (↑j : Int))), (13, (aI (↑k : Int)))], [(0, (.arr 127 4 ((d1).map rRecord)))], 1⟩) (fun (p : Nat × List Record) => match p with | (k, d1) => a ≤ k ∧ k + 1 ≤ i ∧ d1 = mvR a (k - a) d ∧ d1.length = d.length) (fun (p : Nat × List Record) => match p with | (k, d1) => i - k) (a, d) ?_ ?_ ?_
        · exact ⟨by omega, by omega, by rw [Nat.sub_self]; rfl, rfl⟩
        · exact Weak.ren id (by refine ⟨?_, ?_, ?_, ?_, ?_, ?_, ?_, ?_,  trivial⟩ <;> first | rfl | (simp only [AV.map, GV.map, CV.map, AB.map', id]; done) | (congr 3; omega) | (congr 4; omega) | (simp only [List.length_append, List.length_cons, List.length_nil, List.length_set]; rfl) | (exact look_i rfl (by omega))) (⟨by first | rfl | (simp only [AV.map, GV.map, CV.map, AB.map', id]; done) | (congr 3; omega) | (congr 4; omega) | (simp only [List.length_append, List.length_cons, List.length_nil, List.length_set]; rfl), trivial⟩) rfl
        ·
          rintro ⟨k, d1⟩ ⟨hi1_0, hi1_1, hi1_2, hi1_3⟩
          refine AC.seq ?_
          refine AC.seq ?_
          refine AC.region ?_
          refine AL.fast 2 rfl ?_
          refine AL.val (Wanted.plain rfl) (g_binI rfl rfl rfl (wrap_ok (by first | omega | (simp; done) | (simp; omega)))) rfl rfl ?_
          refine AL.val (Wanted.plain rfl) (g_binI rfl rfl rfl rfl) rfl rfl ?_
          refine AL.nil ?_
          refine then_ok ?_
          refine AC.cond rfl (fun hc4 => ?_) (fun hc4 => ?_)
          ·
            have hc4' := hc4; try simp only [sumB, Bool.not_eq_true', Bool.not_eq_false', Bool.or_eq_true, Bool.or_eq_false_iff, Bool.and_eq_true, Bool.and_eq_false_imp, decide_eq_true_eq, decide_eq_false_iff_not, Bool.not_not, Bool.not_true, Bool.not_false] at hc4'
            refine AC.skip ?_
            refine then_ok ?_
            refine AC.seq ?_
            refine AC.block ?_
            obtain ⟨x1, hx1⟩ := exget (xs := d1) (i := (k) + 1) (by first | omega | (simp; done) | (simp; omega))
            obtain ⟨x2, hx2⟩ := exget (xs := d1) (i := k) (by first | omega | (simp; done) | (simp; omega))
            obtain ⟨x3, hx3⟩ := exget (xs := ((d1).set k x1)) (i := (k) + 1) (by first | omega | (simp; done) | (simp; omega))
            refine AC.weak (st' := ⟨[(0, (aC (.s 0 0 4 N))), (1, (aI (↑a : Int))), (2, (aI (↑m : Int))), (3, (aI (↑b : Int))), (4, (aC (.d (.f fn caps)))), (10, (aI (↑i : Int))), (11, (aI (↑j : Int))), (13, (aI (↑k : Int)))], [(0, (.arr 127 4 ((d1).map rRecord)))], 1⟩) (Weak.ren id (by refine ⟨?_, ?_, ?_, ?_, ?_, ?_, ?_, ?_,  trivial⟩ <;> first | rfl | (simp only [AV.map, GV.map, CV.map, AB.map', id]; done) | (congr 3; omega) | (congr 4; omega) | (simp only [List.length_append, List.length_cons, List.length_nil, List.length_set]; rfl)) (⟨by first | rfl | (simp only [AV.map, GV.map, CV.map, AB.map', id]; done) | (congr 3; omega) | (congr 4; omega) | (simp only [List.length_append, List.length_cons, List.length_nil, List.length_set]; rfl), trivial⟩) rfl) ?_
            refine AC.drawW [⟨some 61, (aC (.s 0 0 4 N)), [], [], [], [(0, (aC (.s 0 0 4 N)))], []⟩,
      ⟨some 62, (aI (↑k : Int)), [], [], [], [(13, (aI (↑k : Int)))], []⟩,
      ⟨some 63, (aC (.s 0 0 4 N)), [], [], [], [(0, (aC (.s 0 0 4 N)))], []⟩,
      ⟨some 64, (aI (↑k : Int)), [], [], [], [(13, (aI (↑k : Int)))], []⟩,
      ⟨some 65, (aI ((↑k : Int) + 1)), [], [], [3], [(64, (aI (↑k : Int)))], []⟩,
      ⟨some 66, (aC (.s 0 0 4 N)), [], [], [], [(0, (aC (.s 0 0 4 N)))], []⟩,
      ⟨some 67, (aI (↑k : Int)), [], [], [], [(13, (aI (↑k : Int)))], []⟩,
      ⟨some 68, (aI ((↑k : Int) + 1)), [], [], [6], [(67, (aI (↑k : Int)))], []⟩,
      ⟨some 69, (aC (.p 0 ((k) + 1) 4 0)), [], [], [7, 5], [(66, (aC (.s 0 0 4 N))), (68, (aI ((↑k : Int) + 1)))], [(0, (.arr 127 4 ((d1).map rRecord)))]⟩,
      ⟨some 70, (aG [(cI x1.shop), (cI x1.auth), (cI x1.kind), (cI x1.sum)]), [], [], [8], [(69, (aC (.p 0 ((k) + 1) 4 0)))], [(0, (.arr 127 4 ((d1).map rRecord)))]⟩,
      ⟨some 71, (aC (.s 0 0 4 N)), [], [], [], [(0, (aC (.s 0 0 4 N)))], []⟩,
      ⟨some 72, (aI (↑k : Int)), [], [], [], [(13, (aI (↑k : Int)))], []⟩,
      ⟨some 73, (aC (.p 0 k 4 0)), [], [], [11, 10], [(71, (aC (.s 0 0 4 N))), (72, (aI (↑k : Int)))], [(0, (.arr 127 4 ((d1).map rRecord)))]⟩,
      ⟨some 74, (aG [(cI x2.shop), (cI x2.auth), (cI x2.kind), (cI x2.sum)]), [], [], [12], [(73, (aC (.p 0 k 4 0)))], [(0, (.arr 127 4 ((d1).map rRecord)))]⟩,
      ⟨some 75, (aC (.p 0 k 4 0)), [], [], [1, 0], [(61, (aC (.s 0 0 4 N))), (62, (aI (↑k : Int)))], [(0, (.arr 127 4 ((d1).map rRecord)))]⟩,
      ⟨none, (.v (.c .any)), [(0, (.arr 127 4 (((d1).set k x1).map rRecord)))], [0], [14, 9], [(75, (aC (.p 0 k 4 0))), (70, (aG [(cI x1.shop), (cI x1.auth), (cI x1.kind), (cI x1.sum)]))], [(0, (.arr 127 4 ((d1).map rRecord)))]⟩,
      ⟨some 76, (aC (.p 0 ((k) + 1) 4 0)), [], [], [15, 4, 2], [(63, (aC (.s 0 0 4 N))), (65, (aI ((↑k : Int) + 1)))], [(0, (.arr 127 4 (((d1).set k x1).map rRecord)))]⟩,
      ⟨none, (.v (.c .any)), [(0, (.arr 127 4 ((((d1).set k x1).set ((k) + 1) x2).map rRecord)))], [0], [16, 15, 13], [(76, (aC (.p 0 ((k) + 1) 4 0))), (74, (aG [(cI x2.shop), (cI x2.auth), (cI x2.kind), (cI x2.sum)]))], [(0, (.arr 127 4 (((d1).set k x1).map rRecord)))]⟩] ⟨[(0, (aC (.s 0 0 4 N))), (1, (aI (↑a : Int))), (2, (aI (↑m : Int))), (3, (aI (↑b : Int))), (4, (aC (.d (.f fn caps)))), (10, (aI (↑i : Int))), (11, (aI (↑j : Int))), (13, (aI (↑k : Int)))], [(0, (.arr 127 4 ((((d1).set k x1).set ((k) + 1) x2).map rRecord)))], 1⟩ [17, 16, 15, 14, 13, 12, 11, 10, 9, 8, 7, 6, 5, 4, 3, 2, 1, 0] mixed (by kernel_rfl) ?_ ?_ ?_ ?_
            · exact ⟨.inl ⟨(Wanted.plain rfl), GOp.cast (g_move rfl rfl) rfl⟩,
      .inl ⟨(Wanted.plain rfl), GOp.cast (g_move rfl rfl) rfl⟩,
      .inl ⟨(Wanted.plain rfl), GOp.cast (g_move rfl rfl) rfl⟩,
      .inl ⟨(Wanted.plain rfl), GOp.cast (g_move rfl rfl) rfl⟩,
      .inl ⟨(Wanted.plain rfl), GOp.cast (g_binI rfl rfl rfl (wrap_ok (by first | omega | (simp; done) | (simp; omega)))) rfl⟩,
      .inl ⟨(Wanted.plain rfl), GOp.cast (g_move rfl rfl) rfl⟩,
      .inl ⟨(Wanted.plain rfl), GOp.cast (g_move rfl rfl) rfl⟩,
      .inl ⟨(Wanted.plain rfl), GOp.cast (g_binI rfl rfl rfl (wrap_ok (by first | omega | (simp; done) | (simp; omega)))) rfl⟩,
      .inl ⟨(Wanted.plain rfl), GOp.cast (g_indexP0 (i := (k) + 1) rfl rfl rfl Try.underlying114 sz127 (by first | omega | (simp; done) | (simp; omega)) (by first | omega | (simp; done) | (simp; omega))) rfl⟩,
      .inl ⟨(Wanted.plain rfl), GOp.cast (g_loadAs rfl rfl rfl Try.underlying127 rfl sz127 (getmap hx1) rfl) rfl⟩,
      .inl ⟨(Wanted.plain rfl), GOp.cast (g_move rfl rfl) rfl⟩,
      .inl ⟨(Wanted.plain rfl), GOp.cast (g_move rfl rfl) rfl⟩,
      .inl ⟨(Wanted.plain rfl), GOp.cast (g_indexP0 (i := k) rfl rfl rfl Try.underlying114 sz127 (by first | omega | (simp; done) | (simp; omega)) (by first | omega | (simp; done) | (simp; omega))) rfl⟩,
      .inl ⟨(Wanted.plain rfl), GOp.cast (g_loadAs rfl rfl rfl Try.underlying127 rfl sz127 (getmap hx2) rfl) rfl⟩,
      .inl ⟨(Wanted.plain rfl), GOp.cast (g_indexP0 (i := k) rfl rfl rfl Try.underlying114 sz127 (by first | omega | (simp; done) | (simp; omega)) (by first | omega | (simp; done) | (simp; omega))) rfl⟩,
      .inl ⟨(Wanted.plain rfl), GOp.cast (g_storeA (ds := [(dI x1.shop), (dI x1.auth), (dI x1.kind), (dI x1.sum)]) rfl rfl rfl rfl rfl sz127 rfl (Nat.le_of_ble_eq_true rfl) (getmap hx2) rfl (setmap (x' := x1) rfl)) rfl⟩,
      .inl ⟨(Wanted.plain rfl), GOp.cast (g_indexP0 (i := (k) + 1) rfl rfl rfl Try.underlying114 sz127 (by first | omega | (simp; done) | (simp; omega)) (by first | omega | (simp; done) | (simp; omega))) rfl⟩,
      .inl ⟨(Wanted.plain rfl), GOp.cast (g_storeA (ds := [(dI x2.shop), (dI x2.auth), (dI x2.kind), (dI x2.sum)]) rfl rfl rfl rfl rfl sz127 rfl (Nat.le_of_ble_eq_true rfl) (getmap hx3) rfl (setmap (x' := x2) rfl)) rfl⟩,
       trivial⟩
            · exact ⟨⟨⟨rfl,  trivial⟩, trivial⟩, ⟨⟨rfl,  trivial⟩, trivial⟩, ⟨⟨rfl,  trivial⟩, trivial⟩, ⟨⟨rfl,  trivial⟩, trivial⟩, ⟨⟨⟨_, rfl, rfl, rfl⟩,  trivial⟩, trivial⟩, ⟨⟨rfl,  trivial⟩, trivial⟩, ⟨⟨rfl,  trivial⟩, trivial⟩, ⟨⟨⟨_, rfl, rfl, rfl⟩,  trivial⟩, trivial⟩, ⟨⟨⟨_, rfl, rfl, rfl⟩, ⟨_, rfl, rfl, rfl⟩,  trivial⟩, ⟨rfl,  trivial⟩⟩, ⟨⟨⟨_, rfl, rfl, rfl⟩,  trivial⟩, ⟨rfl,  trivial⟩⟩, ⟨⟨rfl,  trivial⟩, trivial⟩, ⟨⟨rfl,  trivial⟩, trivial⟩, ⟨⟨⟨_, rfl, rfl, rfl⟩, ⟨_, rfl, rfl, rfl⟩,  trivial⟩, ⟨rfl,  trivial⟩⟩, ⟨⟨⟨_, rfl, rfl, rfl⟩,  trivial⟩, ⟨rfl,  trivial⟩⟩, ⟨⟨⟨_, rfl, rfl, rfl⟩, ⟨_, rfl, rfl, rfl⟩,  trivial⟩, ⟨rfl,  trivial⟩⟩, ⟨⟨⟨_, rfl, rfl, rfl⟩, ⟨_, rfl, rfl, rfl⟩,  trivial⟩, ⟨rfl,  trivial⟩⟩, ⟨⟨⟨_, rfl, rfl, rfl⟩, ⟨_, rfl, rfl, rfl⟩,  trivial⟩, ⟨⟨_, rfl, .head _⟩,  trivial⟩⟩, ⟨⟨⟨_, rfl, rfl, rfl⟩, ⟨_, rfl, rfl, rfl⟩,  trivial⟩, ⟨⟨_, rfl, .head _⟩,  trivial⟩⟩,  trivial⟩
            · exact ⟨⟨rfl, rfl, rfl, rfl, rfl, rfl, rfl, rfl,  trivial⟩, ⟨⟨_, rfl, .head _⟩,  trivial⟩⟩
            ·
              refine block_ok ?_
              refine then_ok ?_
              refine AC.region ?_
              refine AL.fast 1 rfl ?_
              refine AL.val (Wanted.plain rfl) (g_binI rfl rfl rfl (wrap_ok (by first | omega | (simp; done) | (simp; omega)))) rfl rfl ?_
              refine AL.fast 1 rfl ?_
              refine AL.nil ?_
              refine then_ok ?_
              refine ⟨(k + 1, ((d1).set k x1).set ((k) + 1) x2), ⟨by omega, by omega, by rw [mvR_step hi1_0, ← hi1_2]; exact (swap2_eq hx2 hx1).symm, by simp only [List.length_set]; exact hi1_3⟩, by first | omega | (simp; done) | (simp; omega), Weak.ren id (by refine ⟨?_, ?_, ?_, ?_, ?_, ?_, ?_, ?_,  trivial⟩ <;> first | rfl | (simp only [AV.map, GV.map, CV.map, AB.map', id]; done) | (congr 3; omega) | (congr 4; omega) | (simp only [List.length_append, List.length_cons, List.length_nil, List.length_set]; rfl) | (exact look_i rfl (by omega))) (⟨by first | rfl | (simp only [AV.map, GV.map, CV.map, AB.map', id]; done) | (congr 3; omega) | (congr 4; omega) | (simp only [List.length_append, List.length_cons, List.length_nil, List.length_set]; rfl), trivial⟩) rfl⟩
          ·
            have hc4' := hc4; try simp only [sumB, Bool.not_eq_true', Bool.not_eq_false', Bool.or_eq_true, Bool.or_eq_false_iff, Bool.and_eq_true, Bool.and_eq_false_imp, decide_eq_true_eq, decide_eq_false_iff_not, Bool.not_not, Bool.not_true, Bool.not_false] at hc4'
            refine AC.exit ?_
            refine then_exit ?_
            refine then_exit ?_
            refine block_hit ?_
            refine then_ok ?_
            refine AC.ret ?_
            refine then_ret ?_
            have hX : symM (f + 1) a m b d = d1 := by
              rw [symM.eq_2, if_pos (by omega), ← hi0_3, bsr_end (by omega), hi1_2]
              exact congrArg (fun z => mvR a z d) (by omega)
            rw [hX] at hr; clear hX
            subst hr
            refine retQ_mk (av' := outOf []) (nb' := [(0, (.arr 127 4 ((d1).map rRecord)))]) (retQ_ret ⟨[], [(0, (.arr 127 4 ((d1).map rRecord)))], 1⟩ [] [] (Weak.ren (fun k => if k = 0 then 0 else k) (trivial) (⟨by first | rfl | (simp only [AV.map, GV.map, CV.map, AB.map', id]; done) | (congr 3; omega) | (congr 4; omega) | (simp only [List.length_append, List.length_cons, List.length_nil, List.length_set]; rfl), trivial⟩) rfl) rfl trivial ⟨by first | rfl | (simp only [AV.map, GV.map, CV.map, AB.map', id]; done) | (congr 3; omega) | (congr 4; omega) | (simp only [List.length_append, List.length_cons, List.length_nil, List.length_set]; rfl), trivial⟩) ?_ ?_
            · first | rfl | (simp [outOf, aC]; done) | (simp [outOf, aC]; omega)
            · first | rfl | (simp; done) | (simp; omega)
  ·
    have hc1' := hc1; try simp only [sumB, Bool.not_eq_true', Bool.not_eq_false', Bool.or_eq_true, Bool.or_eq_false_iff, Bool.and_eq_true, Bool.and_eq_false_imp, decide_eq_true_eq, decide_eq_false_iff_not, Bool.not_not, Bool.not_true, Bool.not_false] at hc1'
    refine AC.skip ?_
    refine then_ok ?_
    refine AC.seq ?_
    refine AC.seq ?_
    refine AC.region ?_
    refine AL.fast 2 rfl ?_
    refine AL.val (Wanted.plain rfl) (g_binI rfl rfl rfl (wrap_ok (by first | omega | (simp; done) | (simp; omega)))) rfl rfl ?_
    refine AL.val (Wanted.plain rfl) (g_binI rfl rfl rfl rfl) rfl rfl ?_
    refine AL.nil ?_
    refine then_ok ?_
    refine AC.cond rfl (fun hc5 => ?_) (fun hc5 => ?_)
    ·
      have hc5' := hc5; try simp only [sumB, Bool.not_eq_true', Bool.not_eq_false', Bool.or_eq_true, Bool.or_eq_false_iff, Bool.and_eq_true, Bool.and_eq_false_imp, decide_eq_true_eq, decide_eq_false_iff_not, Bool.not_not, Bool.not_true, Bool.not_false] at hc5'
      refine AC.seq ?_
      refine AC.region ?_
      refine AL.fast 2 rfl ?_
      refine AL.nil ?_
      refine then_ok ?_
      refine AC.seq ?_
      refine AC.region ?_
      refine AL.fast 2 rfl ?_
      refine AL.nil ?_
      refine then_ok ?_
      refine AC.seq ?_
      refine AC.block ?_
      refine AC.loop (β := Nat × Nat) (fun (p : Nat × Nat) => match p with | (i2, j2) => ⟨[(0, (aC (.s 0 0 4 N))), (1, (aI (↑a : Int))), (2, (aI (↑m : Int))), (3, (aI (↑b : Int))), (4, (aC (.d (.f fn caps)))), (14, (aI (↑i2 : Int))), (15, (aI (↑j2 : Int)))], [(0, (.arr 127 4 ((d).map rRecord)))], 1⟩) (fun (p : Nat × Nat) => match p with | (i2, j2) => a ≤ i2 ∧ i2 ≤ j2 ∧ j2 ≤ m ∧ bsr (fun h => !ltAt d m h) i2 j2 = bsr (fun h => !ltAt d m h) a m) (fun (p : Nat × Nat) => match p with | (i2, j2) => j2 - i2) (a, m) ?_ ?_ ?_
      · exact ⟨by omega, by omega, by omega, rfl⟩
      · exact Weak.ren id (by refine ⟨?_, ?_, ?_, ?_, ?_, ?_, ?_,  trivial⟩ <;> first | rfl | (simp only [AV.map, GV.map, CV.map, AB.map', id]; done) | (congr 3; omega) | (congr 4; omega) | (simp only [List.length_append, List.length_cons, List.length_nil, List.length_set]; rfl) | (exact look_i rfl (by omega))) (⟨by first | rfl | (simp only [AV.map, GV.map, CV.map, AB.map', id]; done) | (congr 3; omega) | (congr 4; omega) | (simp only [List.length_append, List.length_cons, List.length_nil, List.length_set]; rfl), trivial⟩) rfl
      ·
        rintro ⟨i2, j2⟩ ⟨hi2_0, hi2_1, hi2_2, hi2_3⟩
        refine AC.seq ?_
        refine AC.seq ?_
        refine AC.region ?_
        refine AL.fast 2 rfl ?_
        refine AL.val (Wanted.plain rfl) (g_binI rfl rfl rfl rfl) rfl rfl ?_
        refine AL.nil ?_
        refine then_ok ?_
        refine AC.cond rfl (fun hc6 => ?_) (fun hc6 => ?_)
        ·
          have hc6' := hc6; try simp only [sumB, Bool.not_eq_true', Bool.not_eq_false', Bool.or_eq_true, Bool.or_eq_false_iff, Bool.and_eq_true, Bool.and_eq_false_imp, decide_eq_true_eq, decide_eq_false_iff_not, Bool.not_not, Bool.not_true, Bool.not_false] at hc6'
          refine AC.skip ?_
          refine then_ok ?_
          refine AC.block ?_
          refine AC.seq ?_
          refine AC.region ?_
          refine AL.fast 2 rfl ?_
          refine AL.val (Wanted.plain rfl) (g_binI rfl rfl rfl (wrap_ok (by first | omega | (simp; done) | (simp; omega)))) rfl rfl ?_
          refine AL.val (Wanted.plain rfl) (g_convI rfl rfl (by rw [Try.underlying3]; rfl) Try.underlying168 (conv_u64 (by first | omega | (simp; done) | (simp; omega)))) rfl rfl ?_
          refine AL.val (Wanted.plain rfl) (g_shr1 (r := (↑(((i2) + (j2)) / 2) : Int)) rfl rfl rfl (by omega)) rfl rfl ?_
          refine AL.val (Wanted.plain rfl) (g_convI rfl rfl (by rw [Try.underlying168]; rfl) Try.underlying3 (conv_i64 (by first | omega | (simp; done) | (simp; omega)))) rfl rfl ?_
          refine AL.fast 1 rfl ?_
          refine AL.nil ?_
          refine then_ok ?_
          obtain ⟨h2, hh2⟩ : ∃ z : Nat, z = (i2 + j2) / 2 := ⟨_, rfl⟩
          refine AC.weak (st' := ⟨[(0, (aC (.s 0 0 4 N))), (1, (aI (↑a : Int))), (2, (aI (↑m : Int))), (3, (aI (↑b : Int))), (4, (aC (.d (.f fn caps)))), (14, (aI (↑i2 : Int))), (15, (aI (↑j2 : Int))), (83, (aI (↑i2 : Int))), (84, (aI (↑j2 : Int))), (85, (aB (decide ((↑i2 : Int) < (↑j2 : Int))))), (86, (aI (↑i2 : Int))), (87, (aI (↑j2 : Int))), (88, (aI ((↑i2 : Int) + (↑j2 : Int)))), (89, (aC (.d (.v (.int .u64 ((↑i2 : Int) + (↑j2 : Int))))))), (90, (aC (.d (.v (.int .u64 (↑(((i2) + (j2)) / 2) : Int)))))), (91, (aI (↑(((i2) + (j2)) / 2) : Int))), (16, (aI (↑h2 : Int)))], [(0, (.arr 127 4 ((d).map rRecord)))], 1⟩) (Weak.ren id (by refine ⟨?_, ?_, ?_, ?_, ?_, ?_, ?_, ?_, ?_, ?_, ?_, ?_, ?_, ?_, ?_, ?_, ?_,  trivial⟩ <;> first | rfl | (simp only [AV.map, GV.map, CV.map, AB.map', id]; done) | (congr 3; omega) | (congr 4; omega) | (simp only [List.length_append, List.length_cons, List.length_nil, List.length_set]; rfl) | (exact look_i rfl (by omega))) (⟨by first | rfl | (simp only [AV.map, GV.map, CV.map, AB.map', id]; done) | (congr 3; omega) | (congr 4; omega) | (simp only [List.length_append, List.length_cons, List.length_nil, List.length_set]; rfl), trivial⟩) rfl) ?_
          refine AC.seq ?_
          obtain ⟨x1, hx1⟩ := exget (xs := d) (i := m) (by first | omega | (simp; done) | (simp; omega))
          obtain ⟨x2, hx2⟩ := exget (xs := d) (i := h2) (by first | omega | (simp; done) | (simp; omega))
          refine AC.weak (st' := ⟨[(0, (aC (.s 0 0 4 N))), (1, (aI (↑a : Int))), (2, (aI (↑m : Int))), (3, (aI (↑b : Int))), (4, (aC (.d (.f fn caps)))), (14, (aI (↑i2 : Int))), (15, (aI (↑j2 : Int))), (16, (aI (↑h2 : Int)))], [(0, (.arr 127 4 ((d).map rRecord)))], 1⟩) (Weak.ren id (by refine ⟨?_, ?_, ?_, ?_, ?_, ?_, ?_, ?_,  trivial⟩ <;> first | rfl | (simp only [AV.map, GV.map, CV.map, AB.map', id]; done) | (congr 3; omega) | (congr 4; omega) | (simp only [List.length_append, List.length_cons, List.length_nil, List.length_set]; rfl)) (⟨by first | rfl | (simp only [AV.map, GV.map, CV.map, AB.map', id]; done) | (congr 3; omega) | (congr 4; omega) | (simp only [List.length_append, List.length_cons, List.length_nil, List.length_set]; rfl), trivial⟩) rfl) ?_
          refine AC.draw [⟨some 92, (aC (.d (.f fn caps))), [], [], [], [(4, (aC (.d (.f fn caps))))], []⟩,
      ⟨some 93, (aC (.s 0 0 4 N)), [], [], [], [(0, (aC (.s 0 0 4 N)))], [(0, (.arr 127 4 ((d).map rRecord)))]⟩,
      ⟨some 94, (aI (↑m : Int)), [], [], [], [(2, (aI (↑m : Int)))], []⟩,
      ⟨some 95, (aC (.p 0 m 4 0)), [], [], [1, 2], [(93, (aC (.s 0 0 4 N))), (94, (aI (↑m : Int)))], [(0, (.arr 127 4 ((d).map rRecord)))]⟩,
      ⟨some 96, (aG [(cI x1.shop), (cI x1.auth), (cI x1.kind), (cI x1.sum)]), [], [], [3], [(95, (aC (.p 0 m 4 0)))], [(0, (.arr 127 4 ((d).map rRecord)))]⟩,
      ⟨some 97, (aC (.s 0 0 4 N)), [], [], [], [(0, (aC (.s 0 0 4 N)))], [(0, (.arr 127 4 ((d).map rRecord)))]⟩,
      ⟨some 98, (aI (↑h2 : Int)), [], [], [], [(16, (aI (↑h2 : Int)))], []⟩,
      ⟨some 99, (aC (.p 0 h2 4 0)), [], [], [5, 6], [(97, (aC (.s 0 0 4 N))), (98, (aI (↑h2 : Int)))], [(0, (.arr 127 4 ((d).map rRecord)))]⟩,
      ⟨some 100, (aG [(cI x2.shop), (cI x2.auth), (cI x2.kind), (cI x2.sum)]), [], [], [7], [(99, (aC (.p 0 h2 4 0)))], [(0, (.arr 127 4 ((d).map rRecord)))]⟩,
      ⟨some 101, (aI (ordR x1 x2)), [], [], [0, 4, 8], [(92, (aC (.d (.f fn caps)))), (96, (aG [(cI x1.shop), (cI x1.auth), (cI x1.kind), (cI x1.sum)])), (100, (aG [(cI x2.shop), (cI x2.auth), (cI x2.kind), (cI x2.sum)]))], []⟩,
      ⟨some 102, (aB (decide ((ordR x1 x2) < 0))), [], [], [9], [(101, (aI (ordR x1 x2)))], []⟩,
      ⟨some 103, (aB (!(decide ((ordR x1 x2) < 0)))), [], [], [10], [(102, (aB (decide ((ordR x1 x2) < 0))))], []⟩] ⟨[(0, (aC (.s 0 0 4 N))), (1, (aI (↑a : Int))), (2, (aI (↑m : Int))), (3, (aI (↑b : Int))), (4, (aC (.d (.f fn caps)))), (14, (aI (↑i2 : Int))), (15, (aI (↑j2 : Int))), (16, (aI (↑h2 : Int))), (103, (aB (!(decide ((ordR x1 x2) < 0)))))], [(0, (.arr 127 4 ((d).map rRecord)))], 1⟩ mixed (by kernel_rfl) ?_ ?_ ?_ ?_
          · exact ⟨.inl ⟨(Wanted.plain rfl), GOp.cast (g_move rfl rfl) rfl⟩,
      .inl ⟨(Wanted.plain rfl), GOp.cast (g_move rfl rfl) rfl⟩,
      .inl ⟨(Wanted.plain rfl), GOp.cast (g_move rfl rfl) rfl⟩,
      .inl ⟨(Wanted.plain rfl), GOp.cast (g_indexP0 (i := m) rfl rfl rfl Try.underlying114 sz127 (by first | omega | (simp; done) | (simp; omega)) (by first | omega | (simp; done) | (simp; omega))) rfl⟩,
      .inl ⟨(Wanted.plain rfl), GOp.cast (g_loadAs rfl rfl rfl Try.underlying127 rfl sz127 (getmap hx1) rfl) rfl⟩,
      .inl ⟨(Wanted.plain rfl), GOp.cast (g_move rfl rfl) rfl⟩,
      .inl ⟨(Wanted.plain rfl), GOp.cast (g_move rfl rfl) rfl⟩,
      .inl ⟨(Wanted.plain rfl), GOp.cast (g_indexP0 (i := h2) rfl rfl rfl Try.underlying114 sz127 (by first | omega | (simp; done) | (simp; omega)) (by first | omega | (simp; done) | (simp; omega))) rfl⟩,
      .inl ⟨(Wanted.plain rfl), GOp.cast (g_loadAs rfl rfl rfl Try.underlying127 rfl sz127 (getmap hx2) rfl) rfl⟩,
      .inl ⟨(Wanted.plain rfl), GOp.cast (g_callF (ins := [(.g [(cI x1.shop), (cI x1.auth), (cI x1.kind), (cI x1.sum)]), (.g [(cI x2.shop), (cI x2.auth), (cI x2.kind), (cI x2.sum)])]) 1 (hp x1 x2) hen rfl rfl rfl ⟨⟨_, rfl, .g ⟨.d _, .d _, .d _, .d _,  trivial⟩⟩, ⟨_, rfl, .g ⟨.d _, .d _, .d _, .d _,  trivial⟩⟩,  trivial⟩ trivial trivial rfl rfl rfl rfl) rfl⟩,
      .inl ⟨(Wanted.plain rfl), GOp.cast (g_binI rfl rfl rfl rfl) rfl⟩,
      .inl ⟨(Wanted.plain rfl), GOp.cast (g_notB rfl rfl) rfl⟩,
       trivial⟩
          · exact ⟨⟨⟨.inl rfl,  trivial⟩, trivial⟩, ⟨⟨.inl rfl,  trivial⟩, ⟨.inl rfl,  trivial⟩⟩, ⟨⟨.inl rfl,  trivial⟩, trivial⟩, ⟨⟨.inr ⟨1, .head _, _, rfl, rfl, rfl⟩, .inr ⟨2, .tail _ (.head _), _, rfl, rfl, rfl⟩,  trivial⟩, ⟨.inl rfl,  trivial⟩⟩, ⟨⟨.inr ⟨3, .head _, _, rfl, rfl, rfl⟩,  trivial⟩, ⟨.inl rfl,  trivial⟩⟩, ⟨⟨.inl rfl,  trivial⟩, ⟨.inl rfl,  trivial⟩⟩, ⟨⟨.inl rfl,  trivial⟩, trivial⟩, ⟨⟨.inr ⟨5, .head _, _, rfl, rfl, rfl⟩, .inr ⟨6, .tail _ (.head _), _, rfl, rfl, rfl⟩,  trivial⟩, ⟨.inl rfl,  trivial⟩⟩, ⟨⟨.inr ⟨7, .head _, _, rfl, rfl, rfl⟩,  trivial⟩, ⟨.inl rfl,  trivial⟩⟩, ⟨⟨.inr ⟨0, .head _, _, rfl, rfl, rfl⟩, .inr ⟨4, .tail _ (.head _), _, rfl, rfl, rfl⟩, .inr ⟨8, .tail _ (.tail _ (.head _)), _, rfl, rfl, rfl⟩,  trivial⟩, trivial⟩, ⟨⟨.inr ⟨9, .head _, _, rfl, rfl, rfl⟩,  trivial⟩, trivial⟩, ⟨⟨.inr ⟨10, .head _, _, rfl, rfl, rfl⟩,  trivial⟩, trivial⟩,  trivial⟩
          · exact ⟨⟨.inl rfl, .inl rfl, .inl rfl, .inl rfl, .inl rfl, .inl rfl, .inl rfl, .inl rfl, .inr ⟨11, _, rfl, rfl, rfl⟩,  trivial⟩, ⟨.inl rfl,  trivial⟩⟩
          ·
            refine AL.nil ?_
            refine then_ok ?_
            refine AC.cond rfl (fun hc7 => ?_) (fun hc7 => ?_)
            ·
              have hc7' := hc7; try simp only [sumB, Bool.not_eq_true', Bool.not_eq_false', Bool.or_eq_true, Bool.or_eq_false_iff, Bool.and_eq_true, Bool.and_eq_false_imp, decide_eq_true_eq, decide_eq_false_iff_not, Bool.not_not, Bool.not_true, Bool.not_false] at hc7'
              refine AC.region ?_
              refine AL.fast 1 rfl ?_
              refine AL.val (Wanted.plain rfl) (g_binI rfl rfl rfl (wrap_ok (by first | omega | (simp; done) | (simp; omega)))) rfl rfl ?_
              refine AL.fast 1 rfl ?_
              refine AL.nil ?_
              refine block_ok ?_
              refine then_ok ?_
              refine ⟨(h2 + 1, j2), ⟨by omega, by omega, by omega, bsr_st hi2_3 (by omega) hh2 (by show (!ltAt _ _ _) = true; rw [ltAt_eq hx1 hx2, ordR_ge (by assumption)]; rfl)⟩, by first | omega | (simp; done) | (simp; omega), Weak.ren id (by refine ⟨?_, ?_, ?_, ?_, ?_, ?_, ?_,  trivial⟩ <;> first | rfl | (simp only [AV.map, GV.map, CV.map, AB.map', id]; done) | (congr 3; omega) | (congr 4; omega) | (simp only [List.length_append, List.length_cons, List.length_nil, List.length_set]; rfl) | (exact look_i rfl (by omega))) (⟨by first | rfl | (simp only [AV.map, GV.map, CV.map, AB.map', id]; done) | (congr 3; omega) | (congr 4; omega) | (simp only [List.length_append, List.length_cons, List.length_nil, List.length_set]; rfl), trivial⟩) rfl⟩
            ·
              have hc7' := hc7; try simp only [sumB, Bool.not_eq_true', Bool.not_eq_false', Bool.or_eq_true, Bool.or_eq_false_iff, Bool.and_eq_true, Bool.and_eq_false_imp, decide_eq_true_eq, decide_eq_false_iff_not, Bool.not_not, Bool.not_true, Bool.not_false] at hc7'
              refine AC.region ?_
              refine AL.fast 2 rfl ?_
              refine AL.nil ?_
              refine block_ok ?_
              refine then_ok ?_
              refine ⟨(i2, h2), ⟨by omega, by omega, by omega, bsr_sf hi2_3 (by omega) hh2 (by show (!ltAt _ _ _) = false; rw [ltAt_eq hx1 hx2, ordR_lt.1 (by assumption)]; rfl)⟩, by first | omega | (simp; done) | (simp; omega), Weak.ren id (by refine ⟨?_, ?_, ?_, ?_, ?_, ?_, ?_,  trivial⟩ <;> first | rfl | (simp only [AV.map, GV.map, CV.map, AB.map', id]; done) | (congr 3; omega) | (congr 4; omega) | (simp only [List.length_append, List.length_cons, List.length_nil, List.length_set]; rfl) | (exact look_i rfl (by omega))) (⟨by first | rfl | (simp only [AV.map, GV.map, CV.map, AB.map', id]; done) | (congr 3; omega) | (congr 4; omega) | (simp only [List.length_append, List.length_cons, List.length_nil, List.length_set]; rfl), trivial⟩) rfl⟩
        ·
          have hc6' := hc6; try simp only [sumB, Bool.not_eq_true', Bool.not_eq_false', Bool.or_eq_true, Bool.or_eq_false_iff, Bool.and_eq_true, Bool.and_eq_false_imp, decide_eq_true_eq, decide_eq_false_iff_not, Bool.not_not, Bool.not_true, Bool.not_false] at hc6'
          refine AC.exit ?_
          refine then_exit ?_
          refine then_exit ?_
          refine block_hit ?_
          refine then_ok ?_
          refine AC.seq ?_
          refine AC.seq ?_
          refine AC.region ?_
          refine AL.fast 2 rfl ?_
          refine AL.nil ?_
          refine then_ok ?_
          refine AC.block ?_
          refine AC.loop (β := Nat × List Record) (fun (p : Nat × List Record) => match p with | (k, d1) => ⟨[(0, (aC (.s 0 0 4 N))), (1, (aI (↑a : Int))), (2, (aI (↑m : Int))), (3, (aI (↑b : Int))), (4, (aC (.d (.f fn caps)))), (14, (aI (↑i2 : Int))), (15, (aI (↑j2 : Int))), (17, (aI (↑k : Int)))], [(0, (.arr 127 4 ((d1).map rRecord)))], 1⟩) (fun (p : Nat × List Record) => match p with | (k, d1) => i2 ≤ k ∧ k ≤ m ∧ d1 = mvL m (m - k) d ∧ d1.length = d.length) (fun (p : Nat × List Record) => match p with | (k, d1) => k) (m, d) ?_ ?_ ?_
          · exact ⟨by omega, by omega, by rw [Nat.sub_self]; rfl, rfl⟩
          · exact Weak.ren id (by refine ⟨?_, ?_, ?_, ?_, ?_, ?_, ?_, ?_,  trivial⟩ <;> first | rfl | (simp only [AV.map, GV.map, CV.map, AB.map', id]; done) | (congr 3; omega) | (congr 4; omega) | (simp only [List.length_append, List.length_cons, List.length_nil, List.length_set]; rfl) | (exact look_i rfl (by omega))) (⟨by first | rfl | (simp only [AV.map, GV.map, CV.map, AB.map', id]; done) | (congr 3; omega) | (congr 4; omega) | (simp only [List.length_append, List.length_cons, List.length_nil, List.length_set]; rfl), trivial⟩) rfl
          ·
            rintro ⟨k, d1⟩ ⟨hi3_0, hi3_1, hi3_2, hi3_3⟩
            refine AC.seq ?_
            refine AC.seq ?_
            refine AC.region ?_
            refine AL.fast 2 rfl ?_
            refine AL.val (Wanted.plain rfl) (g_binI rfl rfl rfl rfl) rfl rfl ?_
            refine AL.nil ?_
            refine then_ok ?_
            refine AC.cond rfl (fun hc8 => ?_) (fun hc8 => ?_)
            ·
              have hc8' := hc8; try simp only [sumB, Bool.not_eq_true', Bool.not_eq_false', Bool.or_eq_true, Bool.or_eq_false_iff, Bool.and_eq_true, Bool.and_eq_false_imp, decide_eq_true_eq, decide_eq_false_iff_not, Bool.not_not, Bool.not_true, Bool.not_false] at hc8'
              refine AC.skip ?_
              refine then_ok ?_
              refine AC.seq ?_
              refine AC.block ?_
              obtain ⟨x1, hx1⟩ := exget (xs := d1) (i := (k) - 1) (by first | omega | (simp; done) | (simp; omega))
              obtain ⟨x2, hx2⟩ := exget (xs := d1) (i := k) (by first | omega | (simp; done) | (simp; omega))
              obtain ⟨x3, hx3⟩ := exget (xs := ((d1).set k x1)) (i := (k) - 1) (by first | omega | (simp; done) | (simp; omega))
              refine AC.weak (st' := ⟨[(0, (aC (.s 0 0 4 N))), (1, (aI (↑a : Int))), (2, (aI (↑m : Int))), (3, (aI (↑b : Int))), (4, (aC (.d (.f fn caps)))), (14, (aI (↑i2 : Int))), (15, (aI (↑j2 : Int))), (17, (aI (↑k : Int)))], [(0, (.arr 127 4 ((d1).map rRecord)))], 1⟩) (Weak.ren id (by refine ⟨?_, ?_, ?_, ?_, ?_, ?_, ?_, ?_,  trivial⟩ <;> first | rfl | (simp only [AV.map, GV.map, CV.map, AB.map', id]; done) | (congr 3; omega) | (congr 4; omega) | (simp only [List.length_append, List.length_cons, List.length_nil, List.length_set]; rfl)) (⟨by first | rfl | (simp only [AV.map, GV.map, CV.map, AB.map', id]; done) | (congr 3; omega) | (congr 4; omega) | (simp only [List.length_append, List.length_cons, List.length_nil, List.length_set]; rfl), trivial⟩) rfl) ?_
              refine AC.drawW [⟨some 113, (aC (.s 0 0 4 N)), [], [], [], [(0, (aC (.s 0 0 4 N)))], []⟩,
      ⟨some 114, (aI (↑k : Int)), [], [], [], [(17, (aI (↑k : Int)))], []⟩,
      ⟨some 115, (aC (.s 0 0 4 N)), [], [], [], [(0, (aC (.s 0 0 4 N)))], []⟩,
      ⟨some 116, (aI (↑k : Int)), [], [], [], [(17, (aI (↑k : Int)))], []⟩,
      ⟨some 117, (aI ((↑k : Int) - 1)), [], [], [3], [(116, (aI (↑k : Int)))], []⟩,
      ⟨some 118, (aC (.s 0 0 4 N)), [], [], [], [(0, (aC (.s 0 0 4 N)))], []⟩,
      ⟨some 119, (aI (↑k : Int)), [], [], [], [(17, (aI (↑k : Int)))], []⟩,
      ⟨some 120, (aI ((↑k : Int) - 1)), [], [], [6], [(119, (aI (↑k : Int)))], []⟩,
      ⟨some 121, (aC (.p 0 ((k) - 1) 4 0)), [], [], [7, 5], [(118, (aC (.s 0 0 4 N))), (120, (aI ((↑k : Int) - 1)))], [(0, (.arr 127 4 ((d1).map rRecord)))]⟩,
      ⟨some 122, (aG [(cI x1.shop), (cI x1.auth), (cI x1.kind), (cI x1.sum)]), [], [], [8], [(121, (aC (.p 0 ((k) - 1) 4 0)))], [(0, (.arr 127 4 ((d1).map rRecord)))]⟩,
      ⟨some 123, (aC (.s 0 0 4 N)), [], [], [], [(0, (aC (.s 0 0 4 N)))], []⟩,
      ⟨some 124, (aI (↑k : Int)), [], [], [], [(17, (aI (↑k : Int)))], []⟩,
      ⟨some 125, (aC (.p 0 k 4 0)), [], [], [11, 10], [(123, (aC (.s 0 0 4 N))), (124, (aI (↑k : Int)))], [(0, (.arr 127 4 ((d1).map rRecord)))]⟩,
      ⟨some 126, (aG [(cI x2.shop), (cI x2.auth), (cI x2.kind), (cI x2.sum)]), [], [], [12], [(125, (aC (.p 0 k 4 0)))], [(0, (.arr 127 4 ((d1).map rRecord)))]⟩,
      ⟨some 127, (aC (.p 0 k 4 0)), [], [], [1, 0], [(113, (aC (.s 0 0 4 N))), (114, (aI (↑k : Int)))], [(0, (.arr 127 4 ((d1).map rRecord)))]⟩,
      ⟨none, (.v (.c .any)), [(0, (.arr 127 4 (((d1).set k x1).map rRecord)))], [0], [14, 9], [(127, (aC (.p 0 k 4 0))), (122, (aG [(cI x1.shop), (cI x1.auth), (cI x1.kind), (cI x1.sum)]))], [(0, (.arr 127 4 ((d1).map rRecord)))]⟩,
      ⟨some 128, (aC (.p 0 ((k) - 1) 4 0)), [], [], [15, 4, 2], [(115, (aC (.s 0 0 4 N))), (117, (aI ((↑k : Int) - 1)))], [(0, (.arr 127 4 (((d1).set k x1).map rRecord)))]⟩,
      ⟨none, (.v (.c .any)), [(0, (.arr 127 4 ((((d1).set k x1).set ((k) - 1) x2).map rRecord)))], [0], [16, 15, 13], [(128, (aC (.p 0 ((k) - 1) 4 0))), (126, (aG [(cI x2.shop), (cI x2.auth), (cI x2.kind), (cI x2.sum)]))], [(0, (.arr 127 4 (((d1).set k x1).map rRecord)))]⟩] ⟨[(0, (aC (.s 0 0 4 N))), (1, (aI (↑a : Int))), (2, (aI (↑m : Int))), (3, (aI (↑b : Int))), (4, (aC (.d (.f fn caps)))), (14, (aI (↑i2 : Int))), (15, (aI (↑j2 : Int))), (17, (aI (↑k : Int)))], [(0, (.arr 127 4 ((((d1).set k x1).set ((k) - 1) x2).map rRecord)))], 1⟩ [17, 16, 15, 14, 13, 12, 11, 10, 9, 8, 7, 6, 5, 4, 3, 2, 1, 0] mixed (by kernel_rfl) ?_ ?_ ?_ ?_
              · exact ⟨.inl ⟨(Wanted.plain rfl), GOp.cast (g_move rfl rfl) rfl⟩,
      .inl ⟨(Wanted.plain rfl), GOp.cast (g_move rfl rfl) rfl⟩,
      .inl ⟨(Wanted.plain rfl), GOp.cast (g_move rfl rfl) rfl⟩,
      .inl ⟨(Wanted.plain rfl), GOp.cast (g_move rfl rfl) rfl⟩,
      .inl ⟨(Wanted.plain rfl), GOp.cast (g_binI rfl rfl rfl (wrap_ok (by first | omega | (simp; done) | (simp; omega)))) rfl⟩,
      .inl ⟨(Wanted.plain rfl), GOp.cast (g_move rfl rfl) rfl⟩,
      .inl ⟨(Wanted.plain rfl), GOp.cast (g_move rfl rfl) rfl⟩,
      .inl ⟨(Wanted.plain rfl), GOp.cast (g_binI rfl rfl rfl (wrap_ok (by first | omega | (simp; done) | (simp; omega)))) rfl⟩,
      .inl ⟨(Wanted.plain rfl), GOp.cast (g_indexP0 (i := (k) - 1) rfl rfl rfl Try.underlying114 sz127 (by first | omega | (simp; done) | (simp; omega)) (by first | omega | (simp; done) | (simp; omega))) rfl⟩,
      .inl ⟨(Wanted.plain rfl), GOp.cast (g_loadAs rfl rfl rfl Try.underlying127 rfl sz127 (getmap hx1) rfl) rfl⟩,
      .inl ⟨(Wanted.plain rfl), GOp.cast (g_move rfl rfl) rfl⟩,
      .inl ⟨(Wanted.plain rfl), GOp.cast (g_move rfl rfl) rfl⟩,
      .inl ⟨(Wanted.plain rfl), GOp.cast (g_indexP0 (i := k) rfl rfl rfl Try.underlying114 sz127 (by first | omega | (simp; done) | (simp; omega)) (by first | omega | (simp; done) | (simp; omega))) rfl⟩,
      .inl ⟨(Wanted.plain rfl), GOp.cast (g_loadAs rfl rfl rfl Try.underlying127 rfl sz127 (getmap hx2) rfl) rfl⟩,
      .inl ⟨(Wanted.plain rfl), GOp.cast (g_indexP0 (i := k) rfl rfl rfl Try.underlying114 sz127 (by first | omega | (simp; done) | (simp; omega)) (by first | omega | (simp; done) | (simp; omega))) rfl⟩,
      .inl ⟨(Wanted.plain rfl), GOp.cast (g_storeA (ds := [(dI x1.shop), (dI x1.auth), (dI x1.kind), (dI x1.sum)]) rfl rfl rfl rfl rfl sz127 rfl (Nat.le_of_ble_eq_true rfl) (getmap hx2) rfl (setmap (x' := x1) rfl)) rfl⟩,
      .inl ⟨(Wanted.plain rfl), GOp.cast (g_indexP0 (i := (k) - 1) rfl rfl rfl Try.underlying114 sz127 (by first | omega | (simp; done) | (simp; omega)) (by first | omega | (simp; done) | (simp; omega))) rfl⟩,
      .inl ⟨(Wanted.plain rfl), GOp.cast (g_storeA (ds := [(dI x2.shop), (dI x2.auth), (dI x2.kind), (dI x2.sum)]) rfl rfl rfl rfl rfl sz127 rfl (Nat.le_of_ble_eq_true rfl) (getmap hx3) rfl (setmap (x' := x2) rfl)) rfl⟩,
       trivial⟩
              · exact ⟨⟨⟨rfl,  trivial⟩, trivial⟩, ⟨⟨rfl,  trivial⟩, trivial⟩, ⟨⟨rfl,  trivial⟩, trivial⟩, ⟨⟨rfl,  trivial⟩, trivial⟩, ⟨⟨⟨_, rfl, rfl, rfl⟩,  trivial⟩, trivial⟩, ⟨⟨rfl,  trivial⟩, trivial⟩, ⟨⟨rfl,  trivial⟩, trivial⟩, ⟨⟨⟨_, rfl, rfl, rfl⟩,  trivial⟩, trivial⟩, ⟨⟨⟨_, rfl, rfl, rfl⟩, ⟨_, rfl, rfl, rfl⟩,  trivial⟩, ⟨rfl,  trivial⟩⟩, ⟨⟨⟨_, rfl, rfl, rfl⟩,  trivial⟩, ⟨rfl,  trivial⟩⟩, ⟨⟨rfl,  trivial⟩, trivial⟩, ⟨⟨rfl,  trivial⟩, trivial⟩, ⟨⟨⟨_, rfl, rfl, rfl⟩, ⟨_, rfl, rfl, rfl⟩,  trivial⟩, ⟨rfl,  trivial⟩⟩, ⟨⟨⟨_, rfl, rfl, rfl⟩,  trivial⟩, ⟨rfl,  trivial⟩⟩, ⟨⟨⟨_, rfl, rfl, rfl⟩, ⟨_, rfl, rfl, rfl⟩,  trivial⟩, ⟨rfl,  trivial⟩⟩, ⟨⟨⟨_, rfl, rfl, rfl⟩, ⟨_, rfl, rfl, rfl⟩,  trivial⟩, ⟨rfl,  trivial⟩⟩, ⟨⟨⟨_, rfl, rfl, rfl⟩, ⟨_, rfl, rfl, rfl⟩,  trivial⟩, ⟨⟨_, rfl, .head _⟩,  trivial⟩⟩, ⟨⟨⟨_, rfl, rfl, rfl⟩, ⟨_, rfl, rfl, rfl⟩,  trivial⟩, ⟨⟨_, rfl, .head _⟩,  trivial⟩⟩,  trivial⟩
              · exact ⟨⟨rfl, rfl, rfl, rfl, rfl, rfl, rfl, rfl,  trivial⟩, ⟨⟨_, rfl, .head _⟩,  trivial⟩⟩
              ·
                refine block_ok ?_
                refine then_ok ?_
                refine AC.region ?_
                refine AL.fast 1 rfl ?_
                refine AL.val (Wanted.plain rfl) (g_binI rfl rfl rfl (wrap_ok (by first | omega | (simp; done) | (simp; omega)))) rfl rfl ?_
                refine AL.fast 1 rfl ?_
                refine AL.nil ?_
                refine then_ok ?_
                refine ⟨(k - 1, ((d1).set k x1).set ((k) - 1) x2), ⟨by omega, by omega, by rw [mvL_step hi3_1 (by omega), ← hi3_2]; exact (swap2_eq hx2 hx1).symm, by simp only [List.length_set]; exact hi3_3⟩, by first | omega | (simp; done) | (simp; omega), Weak.ren id (by refine ⟨?_, ?_, ?_, ?_, ?_, ?_, ?_, ?_,  trivial⟩ <;> first | rfl | (simp only [AV.map, GV.map, CV.map, AB.map', id]; done) | (congr 3; omega) | (congr 4; omega) | (simp only [List.length_append, List.length_cons, List.length_nil, List.length_set]; rfl) | (exact look_i rfl (by omega))) (⟨by first | rfl | (simp only [AV.map, GV.map, CV.map, AB.map', id]; done) | (congr 3; omega) | (congr 4; omega) | (simp only [List.length_append, List.length_cons, List.length_nil, List.length_set]; rfl), trivial⟩) rfl⟩
            ·
              have hc8' := hc8; try simp only [sumB, Bool.not_eq_true', Bool.not_eq_false', Bool.or_eq_true, Bool.or_eq_false_iff, Bool.and_eq_true, Bool.and_eq_false_imp, decide_eq_true_eq, decide_eq_false_iff_not, Bool.not_not, Bool.not_true, Bool.not_false] at hc8'
              refine AC.exit ?_
              refine then_exit ?_
              refine then_exit ?_
              refine block_hit ?_
              refine then_ok ?_
              refine AC.ret ?_
              refine then_ret ?_
              have hX : symM (f + 1) a m b d = d1 := by
                rw [symM.eq_2, if_neg (by omega), if_pos (by omega), ← hi2_3, bsr_end (by omega), hi3_2]
                exact congrArg (fun z => mvL m z d) (by omega)
              rw [hX] at hr; clear hX
              subst hr
              refine retQ_mk (av' := outOf []) (nb' := [(0, (.arr 127 4 ((d1).map rRecord)))]) (retQ_ret ⟨[], [(0, (.arr 127 4 ((d1).map rRecord)))], 1⟩ [] [] (Weak.ren (fun k => if k = 0 then 0 else k) (trivial) (⟨by first | rfl | (simp only [AV.map, GV.map, CV.map, AB.map', id]; done) | (congr 3; omega) | (congr 4; omega) | (simp only [List.length_append, List.length_cons, List.length_nil, List.length_set]; rfl), trivial⟩) rfl) rfl trivial ⟨by first | rfl | (simp only [AV.map, GV.map, CV.map, AB.map', id]; done) | (congr 3; omega) | (congr 4; omega) | (simp only [List.length_append, List.length_cons, List.length_nil, List.length_set]; rfl), trivial⟩) ?_ ?_
              · first | rfl | (simp [outOf, aC]; done) | (simp [outOf, aC]; omega)
              · first | rfl | (simp; done) | (simp; omega)
    ·
      have hc5' := hc5; try simp only [sumB, Bool.not_eq_true', Bool.not_eq_false', Bool.or_eq_true, Bool.or_eq_false_iff, Bool.and_eq_true, Bool.and_eq_false_imp, decide_eq_true_eq, decide_eq_false_iff_not, Bool.not_not, Bool.not_true, Bool.not_false] at hc5'
      refine AC.skip ?_
      refine then_ok ?_
      refine AC.seq ?_
      refine AC.region ?_
      refine AL.fast 2 rfl ?_
      refine AL.val (Wanted.plain rfl) (g_binI rfl rfl rfl (wrap_ok (by first | omega | (simp; done) | (simp; omega)))) rfl rfl ?_
      refine AL.val (Wanted.plain rfl) (g_convI rfl rfl (by rw [Try.underlying3]; rfl) Try.underlying168 (conv_u64 (by first | omega | (simp; done) | (simp; omega)))) rfl rfl ?_
      refine AL.val (Wanted.plain rfl) (g_shr1 (r := (↑(((a) + (b)) / 2) : Int)) rfl rfl rfl (by omega)) rfl rfl ?_
      refine AL.val (Wanted.plain rfl) (g_convI rfl rfl (by rw [Try.underlying168]; rfl) Try.underlying3 (conv_i64 (by first | omega | (simp; done) | (simp; omega)))) rfl rfl ?_
      refine AL.fast 1 rfl ?_
      refine AL.nil ?_
      refine then_ok ?_
      obtain ⟨mid, hmid⟩ : ∃ z : Nat, z = (a + b) / 2 := ⟨_, rfl⟩
      refine AC.weak (st' := ⟨[(0, (aC (.s 0 0 4 N))), (1, (aI (↑a : Int))), (2, (aI (↑m : Int))), (3, (aI (↑b : Int))), (4, (aC (.d (.f fn caps)))), (25, (aI (↑m : Int))), (26, (aI (↑a : Int))), (27, (aI ((↑m : Int) - (↑a : Int)))), (28, (aB (decide (((↑m : Int) - (↑a : Int)) = 1)))), (77, (aI (↑b : Int))), (78, (aI (↑m : Int))), (79, (aI ((↑b : Int) - (↑m : Int)))), (80, (aB (decide (((↑b : Int) - (↑m : Int)) = 1)))), (129, (aI (↑a : Int))), (130, (aI (↑b : Int))), (131, (aI ((↑a : Int) + (↑b : Int)))), (132, (aC (.d (.v (.int .u64 ((↑a : Int) + (↑b : Int))))))), (133, (aC (.d (.v (.int .u64 (↑(((a) + (b)) / 2) : Int)))))), (134, (aI (↑(((a) + (b)) / 2) : Int))), (18, (aI (↑mid : Int)))], [(0, (.arr 127 4 ((d).map rRecord)))], 1⟩) (Weak.ren id (by refine ⟨?_, ?_, ?_, ?_, ?_, ?_, ?_, ?_, ?_, ?_, ?_, ?_, ?_, ?_, ?_, ?_, ?_, ?_, ?_, ?_,  trivial⟩ <;> first | rfl | (simp only [AV.map, GV.map, CV.map, AB.map', id]; done) | (congr 3; omega) | (congr 4; omega) | (simp only [List.length_append, List.length_cons, List.length_nil, List.length_set]; rfl) | (exact look_i rfl (by omega))) (⟨by first | rfl | (simp only [AV.map, GV.map, CV.map, AB.map', id]; done) | (congr 3; omega) | (congr 4; omega) | (simp only [List.length_append, List.length_cons, List.length_nil, List.length_set]; rfl), trivial⟩) rfl) ?_
      refine AC.seq ?_
      refine AC.region ?_
      refine AL.fast 2 rfl ?_
      refine AL.val (Wanted.plain rfl) (g_binI rfl rfl rfl (wrap_ok (by first | omega | (simp; done) | (simp; omega)))) rfl rfl ?_
      refine AL.fast 1 rfl ?_
      refine AL.nil ?_
      refine then_ok ?_
      refine AC.seq ?_
      refine AC.region ?_
      refine AL.fast 2 rfl ?_
      refine AL.nil ?_
      refine then_ok ?_
      refine AC.seq ?_
      refine AC.seq ?_
      refine AC.region ?_
      refine AL.fast 2 rfl ?_
      refine AL.val (Wanted.plain rfl) (g_binI rfl rfl rfl rfl) rfl rfl ?_
      refine AL.nil ?_
      refine then_ok ?_
      refine AC.cond rfl (fun hc9 => ?_) (fun hc9 => ?_)
      ·
        have hc9' := hc9; try simp only [sumB, Bool.not_eq_true', Bool.not_eq_false', Bool.or_eq_true, Bool.or_eq_false_iff, Bool.and_eq_true, Bool.and_eq_false_imp, decide_eq_true_eq, decide_eq_false_iff_not, Bool.not_not, Bool.not_true, Bool.not_false] at hc9'
        refine AC.seq ?_
        refine AC.region ?_
        refine AL.fast 2 rfl ?_
        refine AL.val (Wanted.plain rfl) (g_binI rfl rfl rfl (wrap_ok (by first | omega | (simp; done) | (simp; omega)))) rfl rfl ?_
        refine AL.fast 1 rfl ?_
        refine AL.nil ?_
        refine then_ok ?_
        refine AC.region ?_
        refine AL.fast 2 rfl ?_
        refine AL.nil ?_
        refine then_ok ?_
        refine AC.seq ?_
        refine AC.region ?_
        refine AL.fast 1 rfl ?_
        refine AL.val (Wanted.plain rfl) (g_binI rfl rfl rfl (wrap_ok (by first | omega | (simp; done) | (simp; omega)))) rfl rfl ?_
        refine AL.fast 1 rfl ?_
        refine AL.nil ?_
        refine then_ok ?_
        refine AC.seq ?_
        refine AC.block ?_
        refine AC.loop (β := Nat × Nat) (fun (p : Nat × Nat) => match p with | (s, u1) => ⟨[(0, (aC (.s 0 0 4 N))), (1, (aI (↑a : Int))), (2, (aI (↑m : Int))), (3, (aI (↑b : Int))), (4, (aC (.d (.f fn caps)))), (18, (aI (↑mid : Int))), (19, (aI ((↑mid : Int) + (↑m : Int)))), (20, (aI (↑s : Int))), (21, (aI (↑u1 : Int))), (22, (aI (((↑mid : Int) + (↑m : Int)) - 1)))], [(0, (.arr 127 4 ((d).map rRecord)))], 1⟩) (fun (p : Nat × Nat) => match p with | (s, u1) => ((mid) + (m)) - (b) ≤ s ∧ s ≤ u1 ∧ u1 ≤ mid ∧ bsr (fun c => !ltAt d (mid + m - 1 - c) c) s u1 = bsr (fun c => !ltAt d (mid + m - 1 - c) c) (((mid) + (m)) - (b)) mid) (fun (p : Nat × Nat) => match p with | (s, u1) => u1 - s) (((mid) + (m)) - (b), mid) ?_ ?_ ?_
        · exact ⟨by omega, by omega, by omega, rfl⟩
        · exact Weak.ren id (by refine ⟨?_, ?_, ?_, ?_, ?_, ?_, ?_, ?_, ?_, ?_,  trivial⟩ <;> first | rfl | (simp only [AV.map, GV.map, CV.map, AB.map', id]; done) | (congr 3; omega) | (congr 4; omega) | (simp only [List.length_append, List.length_cons, List.length_nil, List.length_set]; rfl) | (exact look_i rfl (by omega))) (⟨by first | rfl | (simp only [AV.map, GV.map, CV.map, AB.map', id]; done) | (congr 3; omega) | (congr 4; omega) | (simp only [List.length_append, List.length_cons, List.length_nil, List.length_set]; rfl), trivial⟩) rfl
        ·
          rintro ⟨s, u1⟩ ⟨hi4_0, hi4_1, hi4_2, hi4_3⟩
          refine AC.seq ?_
          refine AC.seq ?_
          refine AC.region ?_
          refine AL.fast 2 rfl ?_
          refine AL.val (Wanted.plain rfl) (g_binI rfl rfl rfl rfl) rfl rfl ?_
          refine AL.nil ?_
          refine then_ok ?_
          refine AC.cond rfl (fun hc10 => ?_) (fun hc10 => ?_)
          ·
            have hc10' := hc10; try simp only [sumB, Bool.not_eq_true', Bool.not_eq_false', Bool.or_eq_true, Bool.or_eq_false_iff, Bool.and_eq_true, Bool.and_eq_false_imp, decide_eq_true_eq, decide_eq_false_iff_not, Bool.not_not, Bool.not_true, Bool.not_false] at hc10'
            refine AC.skip ?_
            refine then_ok ?_
            refine AC.block ?_
            refine AC.seq ?_
            refine AC.region ?_
            refine AL.fast 2 rfl ?_
            refine AL.val (Wanted.plain rfl) (g_binI rfl rfl rfl (wrap_ok (by first | omega | (simp; done) | (simp; omega)))) rfl rfl ?_
            refine AL.val (Wanted.plain rfl) (g_convI rfl rfl (by rw [Try.underlying3]; rfl) Try.underlying168 (conv_u64 (by first | omega | (simp; done) | (simp; omega)))) rfl rfl ?_
            refine AL.val (Wanted.plain rfl) (g_shr1 (r := (↑(((s) + (u1)) / 2) : Int)) rfl rfl rfl (by omega)) rfl rfl ?_
            refine AL.val (Wanted.plain rfl) (g_convI rfl rfl (by rw [Try.underlying168]; rfl) Try.underlying3 (conv_i64 (by first | omega | (simp; done) | (simp; omega)))) rfl rfl ?_
            refine AL.fast 1 rfl ?_
            refine AL.nil ?_
            refine then_ok ?_
            obtain ⟨c, hc⟩ : ∃ z : Nat, z = (s + u1) / 2 := ⟨_, rfl⟩
            refine AC.weak (st' := ⟨[(0, (aC (.s 0 0 4 N))), (1, (aI (↑a : Int))), (2, (aI (↑m : Int))), (3, (aI (↑b : Int))), (4, (aC (.d (.f fn caps)))), (18, (aI (↑mid : Int))), (19, (aI ((↑mid : Int) + (↑m : Int)))), (20, (aI (↑s : Int))), (21, (aI (↑u1 : Int))), (22, (aI (((↑mid : Int) + (↑m : Int)) - 1))), (149, (aI (↑s : Int))), (150, (aI (↑u1 : Int))), (151, (aB (decide ((↑s : Int) < (↑u1 : Int))))), (152, (aI (↑s : Int))), (153, (aI (↑u1 : Int))), (154, (aI ((↑s : Int) + (↑u1 : Int)))), (155, (aC (.d (.v (.int .u64 ((↑s : Int) + (↑u1 : Int))))))), (156, (aC (.d (.v (.int .u64 (↑(((s) + (u1)) / 2) : Int)))))), (157, (aI (↑(((s) + (u1)) / 2) : Int))), (23, (aI (↑c : Int)))], [(0, (.arr 127 4 ((d).map rRecord)))], 1⟩) (Weak.ren id (by refine ⟨?_, ?_, ?_, ?_, ?_, ?_, ?_, ?_, ?_, ?_, ?_, ?_, ?_, ?_, ?_, ?_, ?_, ?_, ?_, ?_,  trivial⟩ <;> first | rfl | (simp only [AV.map, GV.map, CV.map, AB.map', id]; done) | (congr 3; omega) | (congr 4; omega) | (simp only [List.length_append, List.length_cons, List.length_nil, List.length_set]; rfl) | (exact look_i rfl (by omega))) (⟨by first | rfl | (simp only [AV.map, GV.map, CV.map, AB.map', id]; done) | (congr 3; omega) | (congr 4; omega) | (simp only [List.length_append, List.length_cons, List.length_nil, List.length_set]; rfl), trivial⟩) rfl) ?_
            refine AC.seq ?_
            obtain ⟨x1, hx1⟩ := exget (xs := d) (i := (((mid) + (m)) - 1) - (c)) (by first | omega | (simp; done) | (simp; omega))
            obtain ⟨x2, hx2⟩ := exget (xs := d) (i := c) (by first | omega | (simp; done) | (simp; omega))
            refine AC.weak (st' := ⟨[(0, (aC (.s 0 0 4 N))), (1, (aI (↑a : Int))), (2, (aI (↑m : Int))), (3, (aI (↑b : Int))), (4, (aC (.d (.f fn caps)))), (18, (aI (↑mid : Int))), (19, (aI ((↑mid : Int) + (↑m : Int)))), (20, (aI (↑s : Int))), (21, (aI (↑u1 : Int))), (22, (aI (((↑mid : Int) + (↑m : Int)) - 1))), (23, (aI (↑c : Int)))], [(0, (.arr 127 4 ((d).map rRecord)))], 1⟩) (Weak.ren id (by refine ⟨?_, ?_, ?_, ?_, ?_, ?_, ?_, ?_, ?_, ?_, ?_,  trivial⟩ <;> first | rfl | (simp only [AV.map, GV.map, CV.map, AB.map', id]; done) | (congr 3; omega) | (congr 4; omega) | (simp only [List.length_append, List.length_cons, List.length_nil, List.length_set]; rfl)) (⟨by first | rfl | (simp only [AV.map, GV.map, CV.map, AB.map', id]; done) | (congr 3; omega) | (congr 4; omega) | (simp only [List.length_append, List.length_cons, List.length_nil, List.length_set]; rfl), trivial⟩) rfl) ?_
            refine AC.draw [⟨some 158, (aC (.d (.f fn caps))), [], [], [], [(4, (aC (.d (.f fn caps))))], []⟩,
      ⟨some 159, (aC (.s 0 0 4 N)), [], [], [], [(0, (aC (.s 0 0 4 N)))], [(0, (.arr 127 4 ((d).map rRecord)))]⟩,
      ⟨some 160, (aI (((↑mid : Int) + (↑m : Int)) - 1)), [], [], [], [(22, (aI (((↑mid : Int) + (↑m : Int)) - 1)))], []⟩,
      ⟨some 161, (aI (↑c : Int)), [], [], [], [(23, (aI (↑c : Int)))], []⟩,
      ⟨some 162, (aI ((((↑mid : Int) + (↑m : Int)) - 1) - (↑c : Int))), [], [], [2, 3], [(160, (aI (((↑mid : Int) + (↑m : Int)) - 1))), (161, (aI (↑c : Int)))], []⟩,
      ⟨some 163, (aC (.p 0 ((((mid) + (m)) - 1) - (c)) 4 0)), [], [], [1, 4], [(159, (aC (.s 0 0 4 N))), (162, (aI ((((↑mid : Int) + (↑m : Int)) - 1) - (↑c : Int))))], [(0, (.arr 127 4 ((d).map rRecord)))]⟩,
      ⟨some 164, (aG [(cI x1.shop), (cI x1.auth), (cI x1.kind), (cI x1.sum)]), [], [], [5], [(163, (aC (.p 0 ((((mid) + (m)) - 1) - (c)) 4 0)))], [(0, (.arr 127 4 ((d).map rRecord)))]⟩,
      ⟨some 165, (aC (.s 0 0 4 N)), [], [], [], [(0, (aC (.s 0 0 4 N)))], [(0, (.arr 127 4 ((d).map rRecord)))]⟩,
      ⟨some 166, (aI (↑c : Int)), [], [], [], [(23, (aI (↑c : Int)))], []⟩,
      ⟨some 167, (aC (.p 0 c 4 0)), [], [], [7, 8], [(165, (aC (.s 0 0 4 N))), (166, (aI (↑c : Int)))], [(0, (.arr 127 4 ((d).map rRecord)))]⟩,
      ⟨some 168, (aG [(cI x2.shop), (cI x2.auth), (cI x2.kind), (cI x2.sum)]), [], [], [9], [(167, (aC (.p 0 c 4 0)))], [(0, (.arr 127 4 ((d).map rRecord)))]⟩,
      ⟨some 169, (aI (ordR x1 x2)), [], [], [0, 6, 10], [(158, (aC (.d (.f fn caps)))), (164, (aG [(cI x1.shop), (cI x1.auth), (cI x1.kind), (cI x1.sum)])), (168, (aG [(cI x2.shop), (cI x2.auth), (cI x2.kind), (cI x2.sum)]))], []⟩,
      ⟨some 170, (aB (decide ((ordR x1 x2) < 0))), [], [], [11], [(169, (aI (ordR x1 x2)))], []⟩,
      ⟨some 171, (aB (!(decide ((ordR x1 x2) < 0)))), [], [], [12], [(170, (aB (decide ((ordR x1 x2) < 0))))], []⟩] ⟨[(0, (aC (.s 0 0 4 N))), (1, (aI (↑a : Int))), (2, (aI (↑m : Int))), (3, (aI (↑b : Int))), (4, (aC (.d (.f fn caps)))), (18, (aI (↑mid : Int))), (19, (aI ((↑mid : Int) + (↑m : Int)))), (20, (aI (↑s : Int))), (21, (aI (↑u1 : Int))), (22, (aI (((↑mid : Int) + (↑m : Int)) - 1))), (23, (aI (↑c : Int))), (171, (aB (!(decide ((ordR x1 x2) < 0)))))], [(0, (.arr 127 4 ((d).map rRecord)))], 1⟩ mixed (by kernel_rfl) ?_ ?_ ?_ ?_
            · exact ⟨.inl ⟨(Wanted.plain rfl), GOp.cast (g_move rfl rfl) rfl⟩,
      .inl ⟨(Wanted.plain rfl), GOp.cast (g_move rfl rfl) rfl⟩,
      .inl ⟨(Wanted.plain rfl), GOp.cast (g_move rfl rfl) rfl⟩,
      .inl ⟨(Wanted.plain rfl), GOp.cast (g_move rfl rfl) rfl⟩,
      .inl ⟨(Wanted.plain rfl), GOp.cast (g_binI rfl rfl rfl (wrap_ok (by first | omega | (simp; done) | (simp; omega)))) rfl⟩,
      .inl ⟨(Wanted.plain rfl), GOp.cast (g_indexP0 (i := (((mid) + (m)) - 1) - (c)) rfl rfl rfl Try.underlying114 sz127 (by first | omega | (simp; done) | (simp; omega)) (by first | omega | (simp; done) | (simp; omega))) rfl⟩,
      .inl ⟨(Wanted.plain rfl), GOp.cast (g_loadAs rfl rfl rfl Try.underlying127 rfl sz127 (getmap hx1) rfl) rfl⟩,
      .inl ⟨(Wanted.plain rfl), GOp.cast (g_move rfl rfl) rfl⟩,
      .inl ⟨(Wanted.plain rfl), GOp.cast (g_move rfl rfl) rfl⟩,
      .inl ⟨(Wanted.plain rfl), GOp.cast (g_indexP0 (i := c) rfl rfl rfl Try.underlying114 sz127 (by first | omega | (simp; done) | (simp; omega)) (by first | omega | (simp; done) | (simp; omega))) rfl⟩,
      .inl ⟨(Wanted.plain rfl), GOp.cast (g_loadAs rfl rfl rfl Try.underlying127 rfl sz127 (getmap hx2) rfl) rfl⟩,
      .inl ⟨(Wanted.plain rfl), GOp.cast (g_callF (ins := [(.g [(cI x1.shop), (cI x1.auth), (cI x1.kind), (cI x1.sum)]), (.g [(cI x2.shop), (cI x2.auth), (cI x2.kind), (cI x2.sum)])]) 1 (hp x1 x2) hen rfl rfl rfl ⟨⟨_, rfl, .g ⟨.d _, .d _, .d _, .d _,  trivial⟩⟩, ⟨_, rfl, .g ⟨.d _, .d _, .d _, .d _,  trivial⟩⟩,  trivial⟩ trivial trivial rfl rfl rfl rfl) rfl⟩,
      .inl ⟨(Wanted.plain rfl), GOp.cast (g_binI rfl rfl rfl rfl) rfl⟩,
      .inl ⟨(Wanted.plain rfl), GOp.cast (g_notB rfl rfl) rfl⟩,
       trivial⟩
            · exact ⟨⟨⟨.inl rfl,  trivial⟩, trivial⟩, ⟨⟨.inl rfl,  trivial⟩, ⟨.inl rfl,  trivial⟩⟩, ⟨⟨.inl rfl,  trivial⟩, trivial⟩, ⟨⟨.inl rfl,  trivial⟩, trivial⟩, ⟨⟨.inr ⟨2, .head _, _, rfl, rfl, rfl⟩, .inr ⟨3, .tail _ (.head _), _, rfl, rfl, rfl⟩,  trivial⟩, trivial⟩, ⟨⟨.inr ⟨1, .head _, _, rfl, rfl, rfl⟩, .inr ⟨4, .tail _ (.head _), _, rfl, rfl, rfl⟩,  trivial⟩, ⟨.inl rfl,  trivial⟩⟩, ⟨⟨.inr ⟨5, .head _, _, rfl, rfl, rfl⟩,  trivial⟩, ⟨.inl rfl,  trivial⟩⟩, ⟨⟨.inl rfl,  trivial⟩, ⟨.inl rfl,  trivial⟩⟩, ⟨⟨.inl rfl,  trivial⟩, trivial⟩, ⟨⟨.inr ⟨7, .head _, _, rfl, rfl, rfl⟩, .inr ⟨8, .tail _ (.head _), _, rfl, rfl, rfl⟩,  trivial⟩, ⟨.inl rfl,  trivial⟩⟩, ⟨⟨.inr ⟨9, .head _, _, rfl, rfl, rfl⟩,  trivial⟩, ⟨.inl rfl,  trivial⟩⟩, ⟨⟨.inr ⟨0, .head _, _, rfl, rfl, rfl⟩, .inr ⟨6, .tail _ (.head _), _, rfl, rfl, rfl⟩, .inr ⟨10, .tail _ (.tail _ (.head _)), _, rfl, rfl, rfl⟩,  trivial⟩, trivial⟩, ⟨⟨.inr ⟨11, .head _, _, rfl, rfl, rfl⟩,  trivial⟩, trivial⟩, ⟨⟨.inr ⟨12, .head _, _, rfl, rfl, rfl⟩,  trivial⟩, trivial⟩,  trivial⟩
            · exact ⟨⟨.inl rfl, .inl rfl, .inl rfl, .inl rfl, .inl rfl, .inl rfl, .inl rfl, .inl rfl, .inl rfl, .inl rfl, .inl rfl, .inr ⟨13, _, rfl, rfl, rfl⟩,  trivial⟩, ⟨.inl rfl,  trivial⟩⟩
            ·
              refine AL.nil ?_
              refine then_ok ?_
              refine AC.cond rfl (fun hc11 => ?_) (fun hc11 => ?_)
              ·
                have hc11' := hc11; try simp only [sumB, Bool.not_eq_true', Bool.not_eq_false', Bool.or_eq_true, Bool.or_eq_false_iff, Bool.and_eq_true, Bool.and_eq_false_imp, decide_eq_true_eq, decide_eq_false_iff_not, Bool.not_not, Bool.not_true, Bool.not_false] at hc11'
                refine AC.region ?_
                refine AL.fast 1 rfl ?_
                refine AL.val (Wanted.plain rfl) (g_binI rfl rfl rfl (wrap_ok (by first | omega | (simp; done) | (simp; omega)))) rfl rfl ?_
                refine AL.fast 1 rfl ?_
                refine AL.nil ?_
                refine block_ok ?_
                refine then_ok ?_
                refine ⟨(c + 1, u1), ⟨by omega, by omega, by omega, bsr_st hi4_3 (by omega) hc (by show (!ltAt _ _ _) = true; rw [ltAt_eq hx1 hx2, ordR_ge (by assumption)]; rfl)⟩, by first | omega | (simp; done) | (simp; omega), Weak.ren id (by refine ⟨?_, ?_, ?_, ?_, ?_, ?_, ?_, ?_, ?_, ?_,  trivial⟩ <;> first | rfl | (simp only [AV.map, GV.map, CV.map, AB.map', id]; done) | (congr 3; omega) | (congr 4; omega) | (simp only [List.length_append, List.length_cons, List.length_nil, List.length_set]; rfl) | (exact look_i rfl (by omega))) (⟨by first | rfl | (simp only [AV.map, GV.map, CV.map, AB.map', id]; done) | (congr 3; omega) | (congr 4; omega) | (simp only [List.length_append, List.length_cons, List.length_nil, List.length_set]; rfl), trivial⟩) rfl⟩
              ·
                have hc11' := hc11; try simp only [sumB, Bool.not_eq_true', Bool.not_eq_false', Bool.or_eq_true, Bool.or_eq_false_iff, Bool.and_eq_true, Bool.and_eq_false_imp, decide_eq_true_eq, decide_eq_false_iff_not, Bool.not_not, Bool.not_true, Bool.not_false] at hc11'
                refine AC.region ?_
                refine AL.fast 2 rfl ?_
                refine AL.nil ?_
                refine block_ok ?_
                refine then_ok ?_
                refine ⟨(s, c), ⟨by omega, by omega, by omega, bsr_sf hi4_3 (by omega) hc (by show (!ltAt _ _ _) = false; rw [ltAt_eq hx1 hx2, ordR_lt.1 (by assumption)]; rfl)⟩, by first | omega | (simp; done) | (simp; omega), Weak.ren id (by refine ⟨?_, ?_, ?_, ?_, ?_, ?_, ?_, ?_, ?_, ?_,  trivial⟩ <;> first | rfl | (simp only [AV.map, GV.map, CV.map, AB.map', id]; done) | (congr 3; omega) | (congr 4; omega) | (simp only [List.length_append, List.length_cons, List.length_nil, List.length_set]; rfl) | (exact look_i rfl (by omega))) (⟨by first | rfl | (simp only [AV.map, GV.map, CV.map, AB.map', id]; done) | (congr 3; omega) | (congr 4; omega) | (simp only [List.length_append, List.length_cons, List.length_nil, List.length_set]; rfl), trivial⟩) rfl⟩
          ·
            have hc10' := hc10; try simp only [sumB, Bool.not_eq_true', Bool.not_eq_false', Bool.or_eq_true, Bool.or_eq_false_iff, Bool.and_eq_true, Bool.and_eq_false_imp, decide_eq_true_eq, decide_eq_false_iff_not, Bool.not_not, Bool.not_true, Bool.not_false] at hc10'
            refine AC.exit ?_
            refine then_exit ?_
            refine then_exit ?_
            refine block_hit ?_
            refine then_ok ?_
            refine AC.seq ?_
            refine AC.region ?_
            refine AL.fast 2 rfl ?_
            refine AL.val (Wanted.plain rfl) (g_binI rfl rfl rfl (wrap_ok (by first | omega | (simp; done) | (simp; omega)))) rfl rfl ?_
            refine AL.fast 1 rfl ?_
            refine AL.nil ?_
            refine then_ok ?_
            refine AC.seq ?_
            obtain ⟨e, he⟩ : ∃ z : Nat, z = mid + m - s := ⟨_, rfl⟩
            refine AC.weak (st' := ⟨[(0, (aC (.s 0 0 4 N))), (1, (aI (↑a : Int))), (2, (aI (↑m : Int))), (3, (aI (↑b : Int))), (4, (aC (.d (.f fn caps)))), (18, (aI (↑mid : Int))), (19, (aI ((↑mid : Int) + (↑m : Int)))), (20, (aI (↑s : Int))), (21, (aI (↑u1 : Int))), (22, (aI (((↑mid : Int) + (↑m : Int)) - 1))), (149, (aI (↑s : Int))), (150, (aI (↑u1 : Int))), (151, (aB (decide ((↑s : Int) < (↑u1 : Int))))), (175, (aI ((↑mid : Int) + (↑m : Int)))), (176, (aI (↑s : Int))), (177, (aI (((↑mid : Int) + (↑m : Int)) - (↑s : Int)))), (24, (aI (↑e : Int)))], [(0, (.arr 127 4 ((d).map rRecord)))], 1⟩) (Weak.ren id (by refine ⟨?_, ?_, ?_, ?_, ?_, ?_, ?_, ?_, ?_, ?_, ?_, ?_, ?_, ?_, ?_, ?_, ?_,  trivial⟩ <;> first | rfl | (simp only [AV.map, GV.map, CV.map, AB.map', id]; done) | (congr 3; omega) | (congr 4; omega) | (simp only [List.length_append, List.length_cons, List.length_nil, List.length_set]; rfl) | (exact look_i rfl (by omega))) (⟨by first | rfl | (simp only [AV.map, GV.map, CV.map, AB.map', id]; done) | (congr 3; omega) | (congr 4; omega) | (simp only [List.length_append, List.length_cons, List.length_nil, List.length_set]; rfl), trivial⟩) rfl) ?_
            refine AC.cutB 185 ((decide ((↑s : Int) < (↑m : Int))) && (decide ((↑m : Int) < (↑e : Int)))) ?_ ?_
            ·
              refine AC.region ?_
              refine AL.fast 2 rfl ?_
              refine AL.val (Wanted.plain rfl) (g_binI rfl rfl rfl rfl) rfl rfl ?_
              refine AL.fast 1 rfl ?_
              refine AL.dec (t := 181) rfl (fun hb12 => ?_) (fun hb12 => ?_)
              ·
                have hb12' := hb12; try simp only [sumB, Bool.not_eq_true', Bool.not_eq_false', Bool.or_eq_true, Bool.or_eq_false_iff, Bool.and_eq_true, Bool.and_eq_false_imp, decide_eq_true_eq, decide_eq_false_iff_not, Bool.not_not, Bool.not_true, Bool.not_false] at hb12'
                refine AL.fast 2 rfl ?_
                refine AL.val (Wanted.yes rfl rfl rfl) (g_binI rfl rfl rfl rfl) rfl rfl ?_
                refine AL.fast 1 rfl ?_
                refine AL.nil ?_
                refine then_ok ?_
                exact Weak.popB 9 rfl rfl (by first | (simp [hb12]; done) | (simp_all; done) | (exfalso; simp_all; done) | (simp_all; omega)) rfl
              ·
                have hb12' := hb12; try simp only [sumB, Bool.not_eq_true', Bool.not_eq_false', Bool.or_eq_true, Bool.or_eq_false_iff, Bool.and_eq_true, Bool.and_eq_false_imp, decide_eq_true_eq, decide_eq_false_iff_not, Bool.not_not, Bool.not_true, Bool.not_false] at hb12'
                refine AL.fast 4 rfl ?_
                refine AL.nil ?_
                refine then_ok ?_
                exact Weak.popB 9 rfl rfl (by first | (simp [hb12]; done) | (simp_all; done) | (exfalso; simp_all; done) | (simp_all; omega)) rfl
            ·
              refine AC.cond rfl (fun hc13 => ?_) (fun hc13 => ?_)
              ·
                have hc13' := hc13; try simp only [sumB, Bool.not_eq_true', Bool.not_eq_false', Bool.or_eq_true, Bool.or_eq_false_iff, Bool.and_eq_true, Bool.and_eq_false_imp, decide_eq_true_eq, decide_eq_false_iff_not, Bool.not_not, Bool.not_true, Bool.not_false] at hc13'
                refine AC.region ?_
                refine AL.fast 5 rfl ?_
                obtain ⟨r0, hr0⟩ : ∃ (r0 : List Record), rot m (m - s) (e - m) d = r0 := ⟨_, rfl⟩
                have hlr0 : r0.length = d.length := by rw [← hr0]; exact rot_len _ _ _ _ _ (Nat.le_refl _)
                refine AL.callM (n' := 1) (h' := [(0, (.arr 127 4 ((r0).map rRecord)))]) (Wanted.plain rfl) (g_callMA (fun k => k) (fun k => k) (c_rotateI (↑s : Int) (↑m : Int) (↑e : Int) d N s m e fn caps hp hen (by first | omega | (simp; done) | (simp; omega)) (by first | omega | (simp; done) | (simp; omega)) (by first | omega | (simp; done) | (simp; omega)) (by first | omega | (simp; done) | (simp; omega)) (by first | omega | (simp; done) | (simp; omega)) (by first | omega | (simp; done) | (simp; omega)) (by first | omega | (simp; done) | (simp; omega)) (by first | omega | (simp; done) | (simp; omega)) r0 hr0) en140 rfl rfl ⟨⟨_, rfl, .inl ⟨rfl, rfl⟩⟩, ⟨_, rfl, .inr (.c (.d _))⟩, ⟨_, rfl, .inr (.c (.d _))⟩, ⟨_, rfl, .inr (.c (.d _))⟩, ⟨_, rfl, .inr (.c (.d _))⟩,  trivial⟩ ⟨rfl,  trivial⟩ rfl rfl ⟨.inr ⟨_, _, _, rfl, by first | (simp; omega) | (simp only [List.length_map]; omega)⟩,  trivial⟩ rfl rfl rfl trivial ⟨(fun _ _ _ _ => trivial),  trivial⟩ rfl rfl rfl rfl) rfl rfl rfl rfl rfl rfl ?_
                refine AL.nil ?_
                refine then_ok ?_
                refine AC.seq ?_
                refine AC.cutB 199 ((decide ((↑a : Int) < (↑s : Int))) && (decide ((↑s : Int) < (↑mid : Int)))) ?_ ?_
                ·
                  refine AC.region ?_
                  refine AL.fast 2 rfl ?_
                  refine AL.val (Wanted.plain rfl) (g_binI rfl rfl rfl rfl) rfl rfl ?_
                  refine AL.fast 1 rfl ?_
                  refine AL.dec (t := 195) rfl (fun hb14 => ?_) (fun hb14 => ?_)
                  ·
                    have hb14' := hb14; try simp only [sumB, Bool.not_eq_true', Bool.not_eq_false', Bool.or_eq_true, Bool.or_eq_false_iff, Bool.and_eq_true, Bool.and_eq_false_imp, decide_eq_true_eq, decide_eq_false_iff_not, Bool.not_not, Bool.not_true, Bool.not_false] at hb14'
                    refine AL.fast 2 rfl ?_
                    refine AL.val (Wanted.yes rfl rfl rfl) (g_binI rfl rfl rfl rfl) rfl rfl ?_
                    refine AL.fast 1 rfl ?_
                    refine AL.nil ?_
                    refine then_ok ?_
                    exact Weak.popB 9 rfl rfl (by first | (simp [hb14]; done) | (simp_all; done) | (exfalso; simp_all; done) | (simp_all; omega)) rfl
                  ·
                    have hb14' := hb14; try simp only [sumB, Bool.not_eq_true', Bool.not_eq_false', Bool.or_eq_true, Bool.or_eq_false_iff, Bool.and_eq_true, Bool.and_eq_false_imp, decide_eq_true_eq, decide_eq_false_iff_not, Bool.not_not, Bool.not_true, Bool.not_false] at hb14'
                    refine AL.fast 4 rfl ?_
                    refine AL.nil ?_
                    refine then_ok ?_
                    exact Weak.popB 9 rfl rfl (by first | (simp [hb14]; done) | (simp_all; done) | (exfalso; simp_all; done) | (simp_all; omega)) rfl
                ·
                  refine AC.cond rfl (fun hc15 => ?_) (fun hc15 => ?_)
                  ·
                    have hc15' := hc15; try simp only [sumB, Bool.not_eq_true', Bool.not_eq_false', Bool.or_eq_true, Bool.or_eq_false_iff, Bool.and_eq_true, Bool.and_eq_false_imp, decide_eq_true_eq, decide_eq_false_iff_not, Bool.not_not, Bool.not_true, Bool.not_false] at hc15'
                    refine AC.region ?_
                    refine AL.fast 5 rfl ?_
                    obtain ⟨r1, hr1⟩ : ∃ (r1 : List Record), symM f a s mid r0 = r1 := ⟨_, rfl⟩
                    have hlr1 : r1.length = r0.length := by rw [← hr1]; exact symM_len _ _ _ _ _
                    refine AL.callM (n' := 1) (h' := [(0, (.arr 127 4 ((r1).map rRecord)))]) (Wanted.plain rfl) (g_callMA (fun k => k) (fun k => k) (ih (↑a : Int) (↑s : Int) (↑mid : Int) r0 N a s mid fn caps hp hen (by first | omega | (simp; done) | (simp; omega)) (by first | omega | (simp; done) | (simp; omega)) (by first | omega | (simp; done) | (simp; omega)) (by first | omega | (simp; done) | (simp; omega)) (by first | omega | (simp; done) | (simp; omega)) (by first | omega | (simp; done) | (simp; omega)) (by first | omega | (simp; done) | (simp; omega)) (by first | omega | (simp; done) | (simp; omega)) (by first | omega | (simp; done) | (simp; omega)) r1 hr1) en138 rfl rfl ⟨⟨_, rfl, .inl ⟨rfl, rfl⟩⟩, ⟨_, rfl, .inr (.c (.d _))⟩, ⟨_, rfl, .inr (.c (.d _))⟩, ⟨_, rfl, .inr (.c (.d _))⟩, ⟨_, rfl, .inr (.c (.d _))⟩,  trivial⟩ ⟨rfl,  trivial⟩ rfl rfl ⟨.inr ⟨_, _, _, rfl, by first | (simp; omega) | (simp only [List.length_map]; omega)⟩,  trivial⟩ rfl rfl rfl trivial ⟨(fun _ _ _ _ => trivial),  trivial⟩ rfl rfl rfl rfl) rfl rfl rfl rfl rfl rfl ?_
                    refine AL.nil ?_
                    refine then_ok ?_
                    refine AC.cutB 213 ((decide ((↑mid : Int) < (↑e : Int))) && (decide ((↑e : Int) < (↑b : Int)))) ?_ ?_
                    ·
                      refine AC.region ?_
                      refine AL.fast 2 rfl ?_
                      refine AL.val (Wanted.plain rfl) (g_binI rfl rfl rfl rfl) rfl rfl ?_
                      refine AL.fast 1 rfl ?_
                      refine AL.dec (t := 209) rfl (fun hb16 => ?_) (fun hb16 => ?_)
                      ·
                        have hb16' := hb16; try simp only [sumB, Bool.not_eq_true', Bool.not_eq_false', Bool.or_eq_true, Bool.or_eq_false_iff, Bool.and_eq_true, Bool.and_eq_false_imp, decide_eq_true_eq, decide_eq_false_iff_not, Bool.not_not, Bool.not_true, Bool.not_false] at hb16'
                        refine AL.fast 2 rfl ?_
                        refine AL.val (Wanted.yes rfl rfl rfl) (g_binI rfl rfl rfl rfl) rfl rfl ?_
                        refine AL.fast 1 rfl ?_
                        refine AL.nil ?_
                        refine then_ok ?_
                        exact Weak.popB 9 rfl rfl (by first | (simp [hb16]; done) | (simp_all; done) | (exfalso; simp_all; done) | (simp_all; omega)) rfl
                      ·
                        have hb16' := hb16; try simp only [sumB, Bool.not_eq_true', Bool.not_eq_false', Bool.or_eq_true, Bool.or_eq_false_iff, Bool.and_eq_true, Bool.and_eq_false_imp, decide_eq_true_eq, decide_eq_false_iff_not, Bool.not_not, Bool.not_true, Bool.not_false] at hb16'
                        refine AL.fast 4 rfl ?_
                        refine AL.nil ?_
                        refine then_ok ?_
                        exact Weak.popB 9 rfl rfl (by first | (simp [hb16]; done) | (simp_all; done) | (exfalso; simp_all; done) | (simp_all; omega)) rfl
                    ·
                      refine AC.cond rfl (fun hc17 => ?_) (fun hc17 => ?_)
                      ·
                        have hc17' := hc17; try simp only [sumB, Bool.not_eq_true', Bool.not_eq_false', Bool.or_eq_true, Bool.or_eq_false_iff, Bool.and_eq_true, Bool.and_eq_false_imp, decide_eq_true_eq, decide_eq_false_iff_not, Bool.not_not, Bool.not_true, Bool.not_false] at hc17'
                        refine AC.region ?_
                        refine AL.fast 5 rfl ?_
                        obtain ⟨r2, hr2⟩ : ∃ (r2 : List Record), symM f mid e b r1 = r2 := ⟨_, rfl⟩
                        have hlr2 : r2.length = r1.length := by rw [← hr2]; exact symM_len _ _ _ _ _
                        refine AL.callM (n' := 1) (h' := [(0, (.arr 127 4 ((r2).map rRecord)))]) (Wanted.plain rfl) (g_callMA (fun k => k) (fun k => k) (ih (↑mid : Int) (↑e : Int) (↑b : Int) r1 N mid e b fn caps hp hen (by first | omega | (simp; done) | (simp; omega)) (by first | omega | (simp; done) | (simp; omega)) (by first | omega | (simp; done) | (simp; omega)) (by first | omega | (simp; done) | (simp; omega)) (by first | omega | (simp; done) | (simp; omega)) (by first | omega | (simp; done) | (simp; omega)) (by first | omega | (simp; done) | (simp; omega)) (by first | omega | (simp; done) | (simp; omega)) (by first | omega | (simp; done) | (simp; omega)) r2 hr2) en138 rfl rfl ⟨⟨_, rfl, .inl ⟨rfl, rfl⟩⟩, ⟨_, rfl, .inr (.c (.d _))⟩, ⟨_, rfl, .inr (.c (.d _))⟩, ⟨_, rfl, .inr (.c (.d _))⟩, ⟨_, rfl, .inr (.c (.d _))⟩,  trivial⟩ ⟨rfl,  trivial⟩ rfl rfl ⟨.inr ⟨_, _, _, rfl, by first | (simp; omega) | (simp only [List.length_map]; omega)⟩,  trivial⟩ rfl rfl rfl trivial ⟨(fun _ _ _ _ => trivial),  trivial⟩ rfl rfl rfl rfl) rfl rfl rfl rfl rfl rfl ?_
                        refine AL.nil ?_
                        have hX : symM (f + 1) a m b d = r2 := by
                          exact symM_halves (mid := mid) (s := s) (e := e) (d1 := r0) (d2 := r1) (by omega) (by omega) hmid (by unfold symStart; rw [← hmid, ← bsr_end (p := (fun c => !ltAt d (mid + m - 1 - c) c)) (i := s) (j := u1) (by omega), hi4_3]; first | exact if_pos (by omega) | exact if_neg (by omega)) he.symm (by unfold symRot; rw [if_pos (by omega)]; exact hr0) (by rw [if_pos (by omega)]; exact hr1) (by rw [if_pos (by omega)]; exact hr2)
                        rw [hX] at hr; clear hX
                        subst hr
                        refine retQ_mk (av' := outOf []) (nb' := [(0, (.arr 127 4 ((r2).map rRecord)))]) (retQ_end ⟨[], [(0, (.arr 127 4 ((r2).map rRecord)))], 1⟩ [] [] (Weak.ren (fun k => if k = 0 then 0 else k) (trivial) (⟨by first | rfl | (simp only [AV.map, GV.map, CV.map, AB.map', id]; done) | (congr 3; omega) | (congr 4; omega) | (simp only [List.length_append, List.length_cons, List.length_nil, List.length_set]; rfl), trivial⟩) rfl) rfl trivial ⟨by first | rfl | (simp only [AV.map, GV.map, CV.map, AB.map', id]; done) | (congr 3; omega) | (congr 4; omega) | (simp only [List.length_append, List.length_cons, List.length_nil, List.length_set]; rfl), trivial⟩) ?_ ?_
                        · first | rfl | (simp [outOf, aC]; done) | (simp [outOf, aC]; omega)
                        · first | rfl | (simp; done) | (simp; omega)
                      ·
                        have hc17' := hc17; try simp only [sumB, Bool.not_eq_true', Bool.not_eq_false', Bool.or_eq_true, Bool.or_eq_false_iff, Bool.and_eq_true, Bool.and_eq_false_imp, decide_eq_true_eq, decide_eq_false_iff_not, Bool.not_not, Bool.not_true, Bool.not_false] at hc17'
                        refine AC.skip ?_
                        have hX : symM (f + 1) a m b d = r1 := by
                          exact symM_halves (mid := mid) (s := s) (e := e) (d1 := r0) (d2 := r1) (by omega) (by omega) hmid (by unfold symStart; rw [← hmid, ← bsr_end (p := (fun c => !ltAt d (mid + m - 1 - c) c)) (i := s) (j := u1) (by omega), hi4_3]; first | exact if_pos (by omega) | exact if_neg (by omega)) he.symm (by unfold symRot; rw [if_pos (by omega)]; exact hr0) (by rw [if_pos (by omega)]; exact hr1) (by rw [if_neg (by omega)])
                        rw [hX] at hr; clear hX
                        subst hr
                        refine retQ_mk (av' := outOf []) (nb' := [(0, (.arr 127 4 ((r1).map rRecord)))]) (retQ_end ⟨[], [(0, (.arr 127 4 ((r1).map rRecord)))], 1⟩ [] [] (Weak.ren (fun k => if k = 0 then 0 else k) (trivial) (⟨by first | rfl | (simp only [AV.map, GV.map, CV.map, AB.map', id]; done) | (congr 3; omega) | (congr 4; omega) | (simp only [List.length_append, List.length_cons, List.length_nil, List.length_set]; rfl), trivial⟩) rfl) rfl trivial ⟨by first | rfl | (simp only [AV.map, GV.map, CV.map, AB.map', id]; done) | (congr 3; omega) | (congr 4; omega) | (simp only [List.length_append, List.length_cons, List.length_nil, List.length_set]; rfl), trivial⟩) ?_ ?_
                        · first | rfl | (simp [outOf, aC]; done) | (simp [outOf, aC]; omega)
                        · first | rfl | (simp; done) | (simp; omega)
                  ·
                    have hc15' := hc15; try simp only [sumB, Bool.not_eq_true', Bool.not_eq_false', Bool.or_eq_true, Bool.or_eq_false_iff, Bool.and_eq_true, Bool.and_eq_false_imp, decide_eq_true_eq, decide_eq_false_iff_not, Bool.not_not, Bool.not_true, Bool.not_false] at hc15'
                    refine AC.skip ?_
                    refine then_ok ?_
                    refine AC.cutB 213 ((decide ((↑mid : Int) < (↑e : Int))) && (decide ((↑e : Int) < (↑b : Int)))) ?_ ?_
                    ·
                      refine AC.region ?_
                      refine AL.fast 2 rfl ?_
                      refine AL.val (Wanted.plain rfl) (g_binI rfl rfl rfl rfl) rfl rfl ?_
                      refine AL.fast 1 rfl ?_
                      refine AL.dec (t := 209) rfl (fun hb18 => ?_) (fun hb18 => ?_)
                      ·
                        have hb18' := hb18; try simp only [sumB, Bool.not_eq_true', Bool.not_eq_false', Bool.or_eq_true, Bool.or_eq_false_iff, Bool.and_eq_true, Bool.and_eq_false_imp, decide_eq_true_eq, decide_eq_false_iff_not, Bool.not_not, Bool.not_true, Bool.not_false] at hb18'
                        refine AL.fast 2 rfl ?_
                        refine AL.val (Wanted.yes rfl rfl rfl) (g_binI rfl rfl rfl rfl) rfl rfl ?_
                        refine AL.fast 1 rfl ?_
                        refine AL.nil ?_
                        refine then_ok ?_
                        exact Weak.popB 9 rfl rfl (by first | (simp [hb18]; done) | (simp_all; done) | (exfalso; simp_all; done) | (simp_all; omega)) rfl
                      ·
                        have hb18' := hb18; try simp only [sumB, Bool.not_eq_true', Bool.not_eq_false', Bool.or_eq_true, Bool.or_eq_false_iff, Bool.and_eq_true, Bool.and_eq_false_imp, decide_eq_true_eq, decide_eq_false_iff_not, Bool.not_not, Bool.not_true, Bool.not_false] at hb18'
                        refine AL.fast 4 rfl ?_
                        refine AL.nil ?_
                        refine then_ok ?_
                        exact Weak.popB 9 rfl rfl (by first | (simp [hb18]; done) | (simp_all; done) | (exfalso; simp_all; done) | (simp_all; omega)) rfl
                    ·
                      refine AC.cond rfl (fun hc19 => ?_) (fun hc19 => ?_)
                      ·
                        have hc19' := hc19; try simp only [sumB, Bool.not_eq_true', Bool.not_eq_false', Bool.or_eq_true, Bool.or_eq_false_iff, Bool.and_eq_true, Bool.and_eq_false_imp, decide_eq_true_eq, decide_eq_false_iff_not, Bool.not_not, Bool.not_true, Bool.not_false] at hc19'
                        refine AC.region ?_
                        refine AL.fast 5 rfl ?_
                        obtain ⟨r3, hr3⟩ : ∃ (r3 : List Record), symM f mid e b r0 = r3 := ⟨_, rfl⟩
                        have hlr3 : r3.length = r0.length := by rw [← hr3]; exact symM_len _ _ _ _ _
                        refine AL.callM (n' := 1) (h' := [(0, (.arr 127 4 ((r3).map rRecord)))]) (Wanted.plain rfl) (g_callMA (fun k => k) (fun k => k) (ih (↑mid : Int) (↑e : Int) (↑b : Int) r0 N mid e b fn caps hp hen (by first | omega | (simp; done) | (simp; omega)) (by first | omega | (simp; done) | (simp; omega)) (by first | omega | (simp; done) | (simp; omega)) (by first | omega | (simp; done) | (simp; omega)) (by first | omega | (simp; done) | (simp; omega)) (by first | omega | (simp; done) | (simp; omega)) (by first | omega | (simp; done) | (simp; omega)) (by first | omega | (simp; done) | (simp; omega)) (by first | omega | (simp; done) | (simp; omega)) r3 hr3) en138 rfl rfl ⟨⟨_, rfl, .inl ⟨rfl, rfl⟩⟩, ⟨_, rfl, .inr (.c (.d _))⟩, ⟨_, rfl, .inr (.c (.d _))⟩, ⟨_, rfl, .inr (.c (.d _))⟩, ⟨_, rfl, .inr (.c (.d _))⟩,  trivial⟩ ⟨rfl,  trivial⟩ rfl rfl ⟨.inr ⟨_, _, _, rfl, by first | (simp; omega) | (simp only [List.length_map]; omega)⟩,  trivial⟩ rfl rfl rfl trivial ⟨(fun _ _ _ _ => trivial),  trivial⟩ rfl rfl rfl rfl) rfl rfl rfl rfl rfl rfl ?_
                        refine AL.nil ?_
                        have hX : symM (f + 1) a m b d = r3 := by
                          exact symM_halves (mid := mid) (s := s) (e := e) (d1 := r0) (d2 := r0) (by omega) (by omega) hmid (by unfold symStart; rw [← hmid, ← bsr_end (p := (fun c => !ltAt d (mid + m - 1 - c) c)) (i := s) (j := u1) (by omega), hi4_3]; first | exact if_pos (by omega) | exact if_neg (by omega)) he.symm (by unfold symRot; rw [if_pos (by omega)]; exact hr0) (by rw [if_neg (by omega)]) (by rw [if_pos (by omega)]; exact hr3)
                        rw [hX] at hr; clear hX
                        subst hr
                        refine retQ_mk (av' := outOf []) (nb' := [(0, (.arr 127 4 ((r3).map rRecord)))]) (retQ_end ⟨[], [(0, (.arr 127 4 ((r3).map rRecord)))], 1⟩ [] [] (Weak.ren (fun k => if k = 0 then 0 else k) (trivial) (⟨by first | rfl | (simp only [AV.map, GV.map, CV.map, AB.map', id]; done) | (congr 3; omega) | (congr 4; omega) | (simp only [List.length_append, List.length_cons, List.length_nil, List.length_set]; rfl), trivial⟩) rfl) rfl trivial ⟨by first | rfl | (simp only [AV.map, GV.map, CV.map, AB.map', id]; done) | (congr 3; omega) | (congr 4; omega) | (simp only [List.length_append, List.length_cons, List.length_nil, List.length_set]; rfl), trivial⟩) ?_ ?_
                        · first | rfl | (simp [outOf, aC]; done) | (simp [outOf, aC]; omega)
                        · first | rfl | (simp; done) | (simp; omega)
                      ·
                        have hc19' := hc19; try simp only [sumB, Bool.not_eq_true', Bool.not_eq_false', Bool.or_eq_true, Bool.or_eq_false_iff, Bool.and_eq_true, Bool.and_eq_false_imp, decide_eq_true_eq, decide_eq_false_iff_not, Bool.not_not, Bool.not_true, Bool.not_false] at hc19'
                        refine AC.skip ?_
                        have hX : symM (f + 1) a m b d = r0 := by
                          exact symM_halves (mid := mid) (s := s) (e := e) (d1 := r0) (d2 := r0) (by omega) (by omega) hmid (by unfold symStart; rw [← hmid, ← bsr_end (p := (fun c => !ltAt d (mid + m - 1 - c) c)) (i := s) (j := u1) (by omega), hi4_3]; first | exact if_pos (by omega) | exact if_neg (by omega)) he.symm (by unfold symRot; rw [if_pos (by omega)]; exact hr0) (by rw [if_neg (by omega)]) (by rw [if_neg (by omega)])
                        rw [hX] at hr; clear hX
                        subst hr
                        refine retQ_mk (av' := outOf []) (nb' := [(0, (.arr 127 4 ((r0).map rRecord)))]) (retQ_end ⟨[], [(0, (.arr 127 4 ((r0).map rRecord)))], 1⟩ [] [] (Weak.ren (fun k => if k = 0 then 0 else k) (trivial) (⟨by first | rfl | (simp only [AV.map, GV.map, CV.map, AB.map', id]; done) | (congr 3; omega) | (congr 4; omega) | (simp only [List.length_append, List.length_cons, List.length_nil, List.length_set]; rfl), trivial⟩) rfl) rfl trivial ⟨by first | rfl | (simp only [AV.map, GV.map, CV.map, AB.map', id]; done) | (congr 3; omega) | (congr 4; omega) | (simp only [List.length_append, List.length_cons, List.length_nil, List.length_set]; rfl), trivial⟩) ?_ ?_
                        · first | rfl | (simp [outOf, aC]; done) | (simp [outOf, aC]; omega)
                        · first | rfl | (simp; done) | (simp; omega)
              ·
                have hc13' := hc13; try simp only [sumB, Bool.not_eq_true', Bool.not_eq_false', Bool.or_eq_true, Bool.or_eq_false_iff, Bool.and_eq_true, Bool.and_eq_false_imp, decide_eq_true_eq, decide_eq_false_iff_not, Bool.not_not, Bool.not_true, Bool.not_false] at hc13'
                refine AC.skip ?_
                refine then_ok ?_
                refine AC.seq ?_
                refine AC.cutB 199 ((decide ((↑a : Int) < (↑s : Int))) && (decide ((↑s : Int) < (↑mid : Int)))) ?_ ?_
                ·
                  refine AC.region ?_
                  refine AL.fast 2 rfl ?_
                  refine AL.val (Wanted.plain rfl) (g_binI rfl rfl rfl rfl) rfl rfl ?_
                  refine AL.fast 1 rfl ?_
                  refine AL.dec (t := 195) rfl (fun hb20 => ?_) (fun hb20 => ?_)
                  ·
                    have hb20' := hb20; try simp only [sumB, Bool.not_eq_true', Bool.not_eq_false', Bool.or_eq_true, Bool.or_eq_false_iff, Bool.and_eq_true, Bool.and_eq_false_imp, decide_eq_true_eq, decide_eq_false_iff_not, Bool.not_not, Bool.not_true, Bool.not_false] at hb20'
                    refine AL.fast 2 rfl ?_
                    refine AL.val (Wanted.yes rfl rfl rfl) (g_binI rfl rfl rfl rfl) rfl rfl ?_
                    refine AL.fast 1 rfl ?_
                    refine AL.nil ?_
                    refine then_ok ?_
                    exact Weak.popB 9 rfl rfl (by first | (simp [hb20]; done) | (simp_all; done) | (exfalso; simp_all; done) | (simp_all; omega)) rfl
                  ·
                    have hb20' := hb20; try simp only [sumB, Bool.not_eq_true', Bool.not_eq_false', Bool.or_eq_true, Bool.or_eq_false_iff, Bool.and_eq_true, Bool.and_eq_false_imp, decide_eq_true_eq, decide_eq_false_iff_not, Bool.not_not, Bool.not_true, Bool.not_false] at hb20'
                    refine AL.fast 4 rfl ?_
                    refine AL.nil ?_
                    refine then_ok ?_
                    exact Weak.popB 9 rfl rfl (by first | (simp [hb20]; done) | (simp_all; done) | (exfalso; simp_all; done) | (simp_all; omega)) rfl
                ·
                  refine AC.cond rfl (fun hc21 => ?_) (fun hc21 => ?_)
                  ·
                    have hc21' := hc21; try simp only [sumB, Bool.not_eq_true', Bool.not_eq_false', Bool.or_eq_true, Bool.or_eq_false_iff, Bool.and_eq_true, Bool.and_eq_false_imp, decide_eq_true_eq, decide_eq_false_iff_not, Bool.not_not, Bool.not_true, Bool.not_false] at hc21'
                    refine AC.region ?_
                    refine AL.fast 5 rfl ?_
                    obtain ⟨r4, hr4⟩ : ∃ (r4 : List Record), symM f a s mid d = r4 := ⟨_, rfl⟩
                    have hlr4 : r4.length = d.length := by rw [← hr4]; exact symM_len _ _ _ _ _
                    refine AL.callM (n' := 1) (h' := [(0, (.arr 127 4 ((r4).map rRecord)))]) (Wanted.plain rfl) (g_callMA (fun k => k) (fun k => k) (ih (↑a : Int) (↑s : Int) (↑mid : Int) d N a s mid fn caps hp hen (by first | omega | (simp; done) | (simp; omega)) (by first | omega | (simp; done) | (simp; omega)) (by first | omega | (simp; done) | (simp; omega)) (by first | omega | (simp; done) | (simp; omega)) (by first | omega | (simp; done) | (simp; omega)) (by first | omega | (simp; done) | (simp; omega)) (by first | omega | (simp; done) | (simp; omega)) (by first | omega | (simp; done) | (simp; omega)) (by first | omega | (simp; done) | (simp; omega)) r4 hr4) en138 rfl rfl ⟨⟨_, rfl, .inl ⟨rfl, rfl⟩⟩, ⟨_, rfl, .inr (.c (.d _))⟩, ⟨_, rfl, .inr (.c (.d _))⟩, ⟨_, rfl, .inr (.c (.d _))⟩, ⟨_, rfl, .inr (.c (.d _))⟩,  trivial⟩ ⟨rfl,  trivial⟩ rfl rfl ⟨.inr ⟨_, _, _, rfl, by first | (simp; omega) | (simp only [List.length_map]; omega)⟩,  trivial⟩ rfl rfl rfl trivial ⟨(fun _ _ _ _ => trivial),  trivial⟩ rfl rfl rfl rfl) rfl rfl rfl rfl rfl rfl ?_
                    refine AL.nil ?_
                    refine then_ok ?_
                    refine AC.cutB 213 ((decide ((↑mid : Int) < (↑e : Int))) && (decide ((↑e : Int) < (↑b : Int)))) ?_ ?_
                    ·
                      refine AC.region ?_
                      refine AL.fast 2 rfl ?_
                      refine AL.val (Wanted.plain rfl) (g_binI rfl rfl rfl rfl) rfl rfl ?_
                      refine AL.fast 1 rfl ?_
                      refine AL.dec (t := 209) rfl (fun hb22 => ?_) (fun hb22 => ?_)
                      ·
                        have hb22' := hb22; try simp only [sumB, Bool.not_eq_true', Bool.not_eq_false', Bool.or_eq_true, Bool.or_eq_false_iff, Bool.and_eq_true, Bool.and_eq_false_imp, decide_eq_true_eq, decide_eq_false_iff_not, Bool.not_not, Bool.not_true, Bool.not_false] at hb22'
                        refine AL.fast 2 rfl ?_
                        refine AL.val (Wanted.yes rfl rfl rfl) (g_binI rfl rfl rfl rfl) rfl rfl ?_
                        refine AL.fast 1 rfl ?_
                        refine AL.nil ?_
                        refine then_ok ?_
                        exact Weak.popB 9 rfl rfl (by first | (simp [hb22]; done) | (simp_all; done) | (exfalso; simp_all; done) | (simp_all; omega)) rfl
                      ·
                        have hb22' := hb22; try simp only [sumB, Bool.not_eq_true', Bool.not_eq_false', Bool.or_eq_true, Bool.or_eq_false_iff, Bool.and_eq_true, Bool.and_eq_false_imp, decide_eq_true_eq, decide_eq_false_iff_not, Bool.not_not, Bool.not_true, Bool.not_false] at hb22'
                        refine AL.fast 4 rfl ?_
                        refine AL.nil ?_
                        refine then_ok ?_
                        exact Weak.popB 9 rfl rfl (by first | (simp [hb22]; done) | (simp_all; done) | (exfalso; simp_all; done) | (simp_all; omega)) rfl
                    ·
                      refine AC.cond rfl (fun hc23 => ?_) (fun hc23 => ?_)
                      ·
                        have hc23' := hc23; try simp only [sumB, Bool.not_eq_true', Bool.not_eq_false', Bool.or_eq_true, Bool.or_eq_false_iff, Bool.and_eq_true, Bool.and_eq_false_imp, decide_eq_true_eq, decide_eq_false_iff_not, Bool.not_not, Bool.not_true, Bool.not_false] at hc23'
                        refine AC.region ?_
                        refine AL.fast 5 rfl ?_
                        obtain ⟨r5, hr5⟩ : ∃ (r5 : List Record), symM f mid e b r4 = r5 := ⟨_, rfl⟩
                        have hlr5 : r5.length = r4.length := by rw [← hr5]; exact symM_len _ _ _ _ _
                        refine AL.callM (n' := 1) (h' := [(0, (.arr 127 4 ((r5).map rRecord)))]) (Wanted.plain rfl) (g_callMA (fun k => k) (fun k => k) (ih (↑mid : Int) (↑e : Int) (↑b : Int) r4 N mid e b fn caps hp hen (by first | omega | (simp; done) | (simp; omega)) (by first | omega | (simp; done) | (simp; omega)) (by first | omega | (simp; done) | (simp; omega)) (by first | omega | (simp; done) | (simp; omega)) (by first | omega | (simp; done) | (simp; omega)) (by first | omega | (simp; done) | (simp; omega)) (by first | omega | (simp; done) | (simp; omega)) (by first | omega | (simp; done) | (simp; omega)) (by first | omega | (simp; done) | (simp; omega)) r5 hr5) en138 rfl rfl ⟨⟨_, rfl, .inl ⟨rfl, rfl⟩⟩, ⟨_, rfl, .inr (.c (.d _))⟩, ⟨_, rfl, .inr (.c (.d _))⟩, ⟨_, rfl, .inr (.c (.d _))⟩, ⟨_, rfl, .inr (.c (.d _))⟩,  trivial⟩ ⟨rfl,  trivial⟩ rfl rfl ⟨.inr ⟨_, _, _, rfl, by first | (simp; omega) | (simp only [List.length_map]; omega)⟩,  trivial⟩ rfl rfl rfl trivial ⟨(fun _ _ _ _ => trivial),  trivial⟩ rfl rfl rfl rfl) rfl rfl rfl rfl rfl rfl ?_
                        refine AL.nil ?_
                        have hX : symM (f + 1) a m b d = r5 := by
                          exact symM_halves (mid := mid) (s := s) (e := e) (d1 := d) (d2 := r4) (by omega) (by omega) hmid (by unfold symStart; rw [← hmid, ← bsr_end (p := (fun c => !ltAt d (mid + m - 1 - c) c)) (i := s) (j := u1) (by omega), hi4_3]; first | exact if_pos (by omega) | exact if_neg (by omega)) he.symm (by unfold symRot; rw [if_neg (by omega)]) (by rw [if_pos (by omega)]; exact hr4) (by rw [if_pos (by omega)]; exact hr5)
                        rw [hX] at hr; clear hX
                        subst hr
                        refine retQ_mk (av' := outOf []) (nb' := [(0, (.arr 127 4 ((r5).map rRecord)))]) (retQ_end ⟨[], [(0, (.arr 127 4 ((r5).map rRecord)))], 1⟩ [] [] (Weak.ren (fun k => if k = 0 then 0 else k) (trivial) (⟨by first | rfl | (simp only [AV.map, GV.map, CV.map, AB.map', id]; done) | (congr 3; omega) | (congr 4; omega) | (simp only [List.length_append, List.length_cons, List.length_nil, List.length_set]; rfl), trivial⟩) rfl) rfl trivial ⟨by first | rfl | (simp only [AV.map, GV.map, CV.map, AB.map', id]; done) | (congr 3; omega) | (congr 4; omega) | (simp only [List.length_append, List.length_cons, List.length_nil, List.length_set]; rfl), trivial⟩) ?_ ?_
                        · first | rfl | (simp [outOf, aC]; done) | (simp [outOf, aC]; omega)
                        · first | rfl | (simp; done) | (simp; omega)
                      ·
                        have hc23' := hc23; try simp only [sumB, Bool.not_eq_true', Bool.not_eq_false', Bool.or_eq_true, Bool.or_eq_false_iff, Bool.and_eq_true, Bool.and_eq_false_imp, decide_eq_true_eq, decide_eq_false_iff_not, Bool.not_not, Bool.not_true, Bool.not_false] at hc23'
                        refine AC.skip ?_
                        have hX : symM (f + 1) a m b d = r4 := by
                          exact symM_halves (mid := mid) (s := s) (e := e) (d1 := d) (d2 := r4) (by omega) (by omega) hmid (by unfold symStart; rw [← hmid, ← bsr_end (p := (fun c => !ltAt d (mid + m - 1 - c) c)) (i := s) (j := u1) (by omega), hi4_3]; first | exact if_pos (by omega) | exact if_neg (by omega)) he.symm (by unfold symRot; rw [if_neg (by omega)]) (by rw [if_pos (by omega)]; exact hr4) (by rw [if_neg (by omega)])
                        rw [hX] at hr; clear hX
                        subst hr
                        refine retQ_mk (av' := outOf []) (nb' := [(0, (.arr 127 4 ((r4).map rRecord)))]) (retQ_end ⟨[], [(0, (.arr 127 4 ((r4).map rRecord)))], 1⟩ [] [] (Weak.ren (fun k => if k = 0 then 0 else k) (trivial) (⟨by first | rfl | (simp only [AV.map, GV.map, CV.map, AB.map', id]; done) | (congr 3; omega) | (congr 4; omega) | (simp only [List.length_append, List.length_cons, List.length_nil, List.length_set]; rfl), trivial⟩) rfl) rfl trivial ⟨by first | rfl | (simp only [AV.map, GV.map, CV.map, AB.map', id]; done) | (congr 3; omega) | (congr 4; omega) | (simp only [List.length_append, List.length_cons, List.length_nil, List.length_set]; rfl), trivial⟩) ?_ ?_
                        · first | rfl | (simp [outOf, aC]; done) | (simp [outOf, aC]; omega)
                        · first | rfl | (simp; done) | (simp; omega)
                  ·
                    have hc21' := hc21; try simp only [sumB, Bool.not_eq_true', Bool.not_eq_false', Bool.or_eq_true, Bool.or_eq_false_iff, Bool.and_eq_true, Bool.and_eq_false_imp, decide_eq_true_eq, decide_eq_false_iff_not, Bool.not_not, Bool.not_true, Bool.not_false] at hc21'
                    refine AC.skip ?_
                    refine then_ok ?_
                    refine AC.cutB 213 ((decide ((↑mid : Int) < (↑e : Int))) && (decide ((↑e : Int) < (↑b : Int)))) ?_ ?_
                    ·
                      refine AC.region ?_
                      refine AL.fast 2 rfl ?_
                      refine AL.val (Wanted.plain rfl) (g_binI rfl rfl rfl rfl) rfl rfl ?_
                      refine AL.fast 1 rfl ?_
                      refine AL.dec (t := 209) rfl (fun hb24 => ?_) (fun hb24 => ?_)
                      ·
                        have hb24' := hb24; try simp only [sumB, Bool.not_eq_true', Bool.not_eq_false', Bool.or_eq_true, Bool.or_eq_false_iff, Bool.and_eq_true, Bool.and_eq_false_imp, decide_eq_true_eq, decide_eq_false_iff_not, Bool.not_not, Bool.not_true, Bool.not_false] at hb24'
                        refine AL.fast 2 rfl ?_
                        refine AL.val (Wanted.yes rfl rfl rfl) (g_binI rfl rfl rfl rfl) rfl rfl ?_
                        refine AL.fast 1 rfl ?_
                        refine AL.nil ?_
                        refine then_ok ?_
                        exact Weak.popB 9 rfl rfl (by first | (simp [hb24]; done) | (simp_all; done) | (exfalso; simp_all; done) | (simp_all; omega)) rfl
                      ·
                        have hb24' := hb24; try simp only [sumB, Bool.not_eq_true', Bool.not_eq_false', Bool.or_eq_true, Bool.or_eq_false_iff, Bool.and_eq_true, Bool.and_eq_false_imp, decide_eq_true_eq, decide_eq_false_iff_not, Bool.not_not, Bool.not_true, Bool.not_false] at hb24'
                        refine AL.fast 4 rfl ?_
                        refine AL.nil ?_
                        refine then_ok ?_
                        exact Weak.popB 9 rfl rfl (by first | (simp [hb24]; done) | (simp_all; done) | (exfalso; simp_all; done) | (simp_all; omega)) rfl
                    ·
                      refine AC.cond rfl (fun hc25 => ?_) (fun hc25 => ?_)
                      ·
                        have hc25' := hc25; try simp only [sumB, Bool.not_eq_true', Bool.not_eq_false', Bool.or_eq_true, Bool.or_eq_false_iff, Bool.and_eq_true, Bool.and_eq_false_imp, decide_eq_true_eq, decide_eq_false_iff_not, Bool.not_not, Bool.not_true, Bool.not_false] at hc25'
                        refine AC.region ?_
                        refine AL.fast 5 rfl ?_
                        obtain ⟨r6, hr6⟩ : ∃ (r6 : List Record), symM f mid e b d = r6 := ⟨_, rfl⟩
                        have hlr6 : r6.length = d.length := by rw [← hr6]; exact symM_len _ _ _ _ _
                        refine AL.callM (n' := 1) (h' := [(0, (.arr 127 4 ((r6).map rRecord)))]) (Wanted.plain rfl) (g_callMA (fun k => k) (fun k => k) (ih (↑mid : Int) (↑e : Int) (↑b : Int) d N mid e b fn caps hp hen (by first | omega | (simp; done) | (simp; omega)) (by first | omega | (simp; done) | (simp; omega)) (by first | omega | (simp; done) | (simp; omega)) (by first | omega | (simp; done) | (simp; omega)) (by first | omega | (simp; done) | (simp; omega)) (by first | omega | (simp; done) | (simp; omega)) (by first | omega | (simp; done) | (simp; omega)) (by first | omega | (simp; done) | (simp; omega)) (by first | omega | (simp; done) | (simp; omega)) r6 hr6) en138 rfl rfl ⟨⟨_, rfl, .inl ⟨rfl, rfl⟩⟩, ⟨_, rfl, .inr (.c (.d _))⟩, ⟨_, rfl, .inr (.c (.d _))⟩, ⟨_, rfl, .inr (.c (.d _))⟩, ⟨_, rfl, .inr (.c (.d _))⟩,  trivial⟩ ⟨rfl,  trivial⟩ rfl rfl ⟨.inr ⟨_, _, _, rfl, by first | (simp; omega) | (simp only [List.length_map]; omega)⟩,  trivial⟩ rfl rfl rfl trivial ⟨(fun _ _ _ _ => trivial),  trivial⟩ rfl rfl rfl rfl) rfl rfl rfl rfl rfl rfl ?_
                        refine AL.nil ?_
                        have hX : symM (f + 1) a m b d = r6 := by
                          exact symM_halves (mid := mid) (s := s) (e := e) (d1 := d) (d2 := d) (by omega) (by omega) hmid (by unfold symStart; rw [← hmid, ← bsr_end (p := (fun c => !ltAt d (mid + m - 1 - c) c)) (i := s) (j := u1) (by omega), hi4_3]; first | exact if_pos (by omega) | exact if_neg (by omega)) he.symm (by unfold symRot; rw [if_neg (by omega)]) (by rw [if_neg (by omega)]) (by rw [if_pos (by omega)]; exact hr6)
                        rw [hX] at hr; clear hX
                        subst hr
                        refine retQ_mk (av' := outOf []) (nb' := [(0, (.arr 127 4 ((r6).map rRecord)))]) (retQ_end ⟨[], [(0, (.arr 127 4 ((r6).map rRecord)))], 1⟩ [] [] (Weak.ren (fun k => if k = 0 then 0 else k) (trivial) (⟨by first | rfl | (simp only [AV.map, GV.map, CV.map, AB.map', id]; done) | (congr 3; omega) | (congr 4; omega) | (simp only [List.length_append, List.length_cons, List.length_nil, List.length_set]; rfl), trivial⟩) rfl) rfl trivial ⟨by first | rfl | (simp only [AV.map, GV.map, CV.map, AB.map', id]; done) | (congr 3; omega) | (congr 4; omega) | (simp only [List.length_append, List.length_cons, List.length_nil, List.length_set]; rfl), trivial⟩) ?_ ?_
                        · first | rfl | (simp [outOf, aC]; done) | (simp [outOf, aC]; omega)
                        · first | rfl | (simp; done) | (simp; omega)
                      ·
                        have hc25' := hc25; try simp only [sumB, Bool.not_eq_true', Bool.not_eq_false', Bool.or_eq_true, Bool.or_eq_false_iff, Bool.and_eq_true, Bool.and_eq_false_imp, decide_eq_true_eq, decide_eq_false_iff_not, Bool.not_not, Bool.not_true, Bool.not_false] at hc25'
                        refine AC.skip ?_
                        have hX : symM (f + 1) a m b d = d := by
                          exact symM_halves (mid := mid) (s := s) (e := e) (d1 := d) (d2 := d) (by omega) (by omega) hmid (by unfold symStart; rw [← hmid, ← bsr_end (p := (fun c => !ltAt d (mid + m - 1 - c) c)) (i := s) (j := u1) (by omega), hi4_3]; first | exact if_pos (by omega) | exact if_neg (by omega)) he.symm (by unfold symRot; rw [if_neg (by omega)]) (by rw [if_neg (by omega)]) (by rw [if_neg (by omega)])
                        rw [hX] at hr; clear hX
                        subst hr
                        refine retQ_mk (av' := outOf []) (nb' := [(0, (.arr 127 4 ((d).map rRecord)))]) (retQ_end ⟨[], [(0, (.arr 127 4 ((d).map rRecord)))], 1⟩ [] [] (Weak.ren (fun k => if k = 0 then 0 else k) (trivial) (⟨by first | rfl | (simp only [AV.map, GV.map, CV.map, AB.map', id]; done) | (congr 3; omega) | (congr 4; omega) | (simp only [List.length_append, List.length_cons, List.length_nil, List.length_set]; rfl), trivial⟩) rfl) rfl trivial ⟨by first | rfl | (simp only [AV.map, GV.map, CV.map, AB.map', id]; done) | (congr 3; omega) | (congr 4; omega) | (simp only [List.length_append, List.length_cons, List.length_nil, List.length_set]; rfl), trivial⟩) ?_ ?_
                        · first | rfl | (simp [outOf, aC]; done) | (simp [outOf, aC]; omega)
                        · first | rfl | (simp; done) | (simp; omega)
      ·
        have hc9' := hc9; try simp only [sumB, Bool.not_eq_true', Bool.not_eq_false', Bool.or_eq_true, Bool.or_eq_false_iff, Bool.and_eq_true, Bool.and_eq_false_imp, decide_eq_true_eq, decide_eq_false_iff_not, Bool.not_not, Bool.not_true, Bool.not_false] at hc9'
        refine AC.seq ?_
        refine AC.region ?_
        refine AL.fast 2 rfl ?_
        refine AL.nil ?_
        refine then_ok ?_
        refine AC.region ?_
        refine AL.fast 2 rfl ?_
        refine AL.nil ?_
        refine then_ok ?_
        refine AC.seq ?_
        refine AC.region ?_
        refine AL.fast 1 rfl ?_
        refine AL.val (Wanted.plain rfl) (g_binI rfl rfl rfl (wrap_ok (by first | omega | (simp; done) | (simp; omega)))) rfl rfl ?_
        refine AL.fast 1 rfl ?_
        refine AL.nil ?_
        refine then_ok ?_
        refine AC.seq ?_
        refine AC.block ?_
        refine AC.loop (β := Nat × Nat) (fun (p : Nat × Nat) => match p with | (s, u1) => ⟨[(0, (aC (.s 0 0 4 N))), (1, (aI (↑a : Int))), (2, (aI (↑m : Int))), (3, (aI (↑b : Int))), (4, (aC (.d (.f fn caps)))), (18, (aI (↑mid : Int))), (19, (aI ((↑mid : Int) + (↑m : Int)))), (20, (aI (↑s : Int))), (21, (aI (↑u1 : Int))), (22, (aI (((↑mid : Int) + (↑m : Int)) - 1)))], [(0, (.arr 127 4 ((d).map rRecord)))], 1⟩) (fun (p : Nat × Nat) => match p with | (s, u1) => a ≤ s ∧ s ≤ u1 ∧ u1 ≤ m ∧ bsr (fun c => !ltAt d (mid + m - 1 - c) c) s u1 = bsr (fun c => !ltAt d (mid + m - 1 - c) c) a m) (fun (p : Nat × Nat) => match p with | (s, u1) => u1 - s) (a, m) ?_ ?_ ?_
        · exact ⟨by omega, by omega, by omega, rfl⟩
        · exact Weak.ren id (by refine ⟨?_, ?_, ?_, ?_, ?_, ?_, ?_, ?_, ?_, ?_,  trivial⟩ <;> first | rfl | (simp only [AV.map, GV.map, CV.map, AB.map', id]; done) | (congr 3; omega) | (congr 4; omega) | (simp only [List.length_append, List.length_cons, List.length_nil, List.length_set]; rfl) | (exact look_i rfl (by omega))) (⟨by first | rfl | (simp only [AV.map, GV.map, CV.map, AB.map', id]; done) | (congr 3; omega) | (congr 4; omega) | (simp only [List.length_append, List.length_cons, List.length_nil, List.length_set]; rfl), trivial⟩) rfl
        ·
          rintro ⟨s, u1⟩ ⟨hi4_0, hi4_1, hi4_2, hi4_3⟩
          refine AC.seq ?_
          refine AC.seq ?_
          refine AC.region ?_
          refine AL.fast 2 rfl ?_
          refine AL.val (Wanted.plain rfl) (g_binI rfl rfl rfl rfl) rfl rfl ?_
          refine AL.nil ?_
          refine then_ok ?_
          refine AC.cond rfl (fun hc26 => ?_) (fun hc26 => ?_)
          ·
            have hc26' := hc26; try simp only [sumB, Bool.not_eq_true', Bool.not_eq_false', Bool.or_eq_true, Bool.or_eq_false_iff, Bool.and_eq_true, Bool.and_eq_false_imp, decide_eq_true_eq, decide_eq_false_iff_not, Bool.not_not, Bool.not_true, Bool.not_false] at hc26'
            refine AC.skip ?_
            refine then_ok ?_
            refine AC.block ?_
            refine AC.seq ?_
            refine AC.region ?_
            refine AL.fast 2 rfl ?_
            refine AL.val (Wanted.plain rfl) (g_binI rfl rfl rfl (wrap_ok (by first | omega | (simp; done) | (simp; omega)))) rfl rfl ?_
            refine AL.val (Wanted.plain rfl) (g_convI rfl rfl (by rw [Try.underlying3]; rfl) Try.underlying168 (conv_u64 (by first | omega | (simp; done) | (simp; omega)))) rfl rfl ?_
            refine AL.val (Wanted.plain rfl) (g_shr1 (r := (↑(((s) + (u1)) / 2) : Int)) rfl rfl rfl (by omega)) rfl rfl ?_
            refine AL.val (Wanted.plain rfl) (g_convI rfl rfl (by rw [Try.underlying168]; rfl) Try.underlying3 (conv_i64 (by first | omega | (simp; done) | (simp; omega)))) rfl rfl ?_
            refine AL.fast 1 rfl ?_
            refine AL.nil ?_
            refine then_ok ?_
            obtain ⟨c, hc⟩ : ∃ z : Nat, z = (s + u1) / 2 := ⟨_, rfl⟩
            refine AC.weak (st' := ⟨[(0, (aC (.s 0 0 4 N))), (1, (aI (↑a : Int))), (2, (aI (↑m : Int))), (3, (aI (↑b : Int))), (4, (aC (.d (.f fn caps)))), (18, (aI (↑mid : Int))), (19, (aI ((↑mid : Int) + (↑m : Int)))), (20, (aI (↑s : Int))), (21, (aI (↑u1 : Int))), (22, (aI (((↑mid : Int) + (↑m : Int)) - 1))), (149, (aI (↑s : Int))), (150, (aI (↑u1 : Int))), (151, (aB (decide ((↑s : Int) < (↑u1 : Int))))), (152, (aI (↑s : Int))), (153, (aI (↑u1 : Int))), (154, (aI ((↑s : Int) + (↑u1 : Int)))), (155, (aC (.d (.v (.int .u64 ((↑s : Int) + (↑u1 : Int))))))), (156, (aC (.d (.v (.int .u64 (↑(((s) + (u1)) / 2) : Int)))))), (157, (aI (↑(((s) + (u1)) / 2) : Int))), (23, (aI (↑c : Int)))], [(0, (.arr 127 4 ((d).map rRecord)))], 1⟩) (Weak.ren id (by refine ⟨?_, ?_, ?_, ?_, ?_, ?_, ?_, ?_, ?_, ?_, ?_, ?_, ?_, ?_, ?_, ?_, ?_, ?_, ?_, ?_,  trivial⟩ <;> first | rfl | (simp only [AV.map, GV.map, CV.map, AB.map', id]; done) | (congr 3; omega) | (congr 4; omega) | (simp only [List.length_append, List.length_cons, List.length_nil, List.length_set]; rfl) | (exact look_i rfl (by omega))) (⟨by first | rfl | (simp only [AV.map, GV.map, CV.map, AB.map', id]; done) | (congr 3; omega) | (congr 4; omega) | (simp only [List.length_append, List.length_cons, List.length_nil, List.length_set]; rfl), trivial⟩) rfl) ?_
            refine AC.seq ?_
            obtain ⟨x1, hx1⟩ := exget (xs := d) (i := (((mid) + (m)) - 1) - (c)) (by first | omega | (simp; done) | (simp; omega))
            obtain ⟨x2, hx2⟩ := exget (xs := d) (i := c) (by first | omega | (simp; done) | (simp; omega))
            refine AC.weak (st' := ⟨[(0, (aC (.s 0 0 4 N))), (1, (aI (↑a : Int))), (2, (aI (↑m : Int))), (3, (aI (↑b : Int))), (4, (aC (.d (.f fn caps)))), (18, (aI (↑mid : Int))), (19, (aI ((↑mid : Int) + (↑m : Int)))), (20, (aI (↑s : Int))), (21, (aI (↑u1 : Int))), (22, (aI (((↑mid : Int) + (↑m : Int)) - 1))), (23, (aI (↑c : Int)))], [(0, (.arr 127 4 ((d).map rRecord)))], 1⟩) (Weak.ren id (by refine ⟨?_, ?_, ?_, ?_, ?_, ?_, ?_, ?_, ?_, ?_, ?_,  trivial⟩ <;> first | rfl | (simp only [AV.map, GV.map, CV.map, AB.map', id]; done) | (congr 3; omega) | (congr 4; omega) | (simp only [List.length_append, List.length_cons, List.length_nil, List.length_set]; rfl)) (⟨by first | rfl | (simp only [AV.map, GV.map, CV.map, AB.map', id]; done) | (congr 3; omega) | (congr 4; omega) | (simp only [List.length_append, List.length_cons, List.length_nil, List.length_set]; rfl), trivial⟩) rfl) ?_
            refine AC.draw [⟨some 158, (aC (.d (.f fn caps))), [], [], [], [(4, (aC (.d (.f fn caps))))], []⟩,
      ⟨some 159, (aC (.s 0 0 4 N)), [], [], [], [(0, (aC (.s 0 0 4 N)))], [(0, (.arr 127 4 ((d).map rRecord)))]⟩,
      ⟨some 160, (aI (((↑mid : Int) + (↑m : Int)) - 1)), [], [], [], [(22, (aI (((↑mid : Int) + (↑m : Int)) - 1)))], []⟩,
      ⟨some 161, (aI (↑c : Int)), [], [], [], [(23, (aI (↑c : Int)))], []⟩,
      ⟨some 162, (aI ((((↑mid : Int) + (↑m : Int)) - 1) - (↑c : Int))), [], [], [2, 3], [(160, (aI (((↑mid : Int) + (↑m : Int)) - 1))), (161, (aI (↑c : Int)))], []⟩,
      ⟨some 163, (aC (.p 0 ((((mid) + (m)) - 1) - (c)) 4 0)), [], [], [1, 4], [(159, (aC (.s 0 0 4 N))), (162, (aI ((((↑mid : Int) + (↑m : Int)) - 1) - (↑c : Int))))], [(0, (.arr 127 4 ((d).map rRecord)))]⟩,
      ⟨some 164, (aG [(cI x1.shop), (cI x1.auth), (cI x1.kind), (cI x1.sum)]), [], [], [5], [(163, (aC (.p 0 ((((mid) + (m)) - 1) - (c)) 4 0)))], [(0, (.arr 127 4 ((d).map rRecord)))]⟩,
      ⟨some 165, (aC (.s 0 0 4 N)), [], [], [], [(0, (aC (.s 0 0 4 N)))], [(0, (.arr 127 4 ((d).map rRecord)))]⟩,
      ⟨some 166, (aI (↑c : Int)), [], [], [], [(23, (aI (↑c : Int)))], []⟩,
      ⟨some 167, (aC (.p 0 c 4 0)), [], [], [7, 8], [(165, (aC (.s 0 0 4 N))), (166, (aI (↑c : Int)))], [(0, (.arr 127 4 ((d).map rRecord)))]⟩,
      ⟨some 168, (aG [(cI x2.shop), (cI x2.auth), (cI x2.kind), (cI x2.sum)]), [], [], [9], [(167, (aC (.p 0 c 4 0)))], [(0, (.arr 127 4 ((d).map rRecord)))]⟩,
      ⟨some 169, (aI (ordR x1 x2)), [], [], [0, 6, 10], [(158, (aC (.d (.f fn caps)))), (164, (aG [(cI x1.shop), (cI x1.auth), (cI x1.kind), (cI x1.sum)])), (168, (aG [(cI x2.shop), (cI x2.auth), (cI x2.kind), (cI x2.sum)]))], []⟩,
      ⟨some 170, (aB (decide ((ordR x1 x2) < 0))), [], [], [11], [(169, (aI (ordR x1 x2)))], []⟩,
      ⟨some 171, (aB (!(decide ((ordR x1 x2) < 0)))), [], [], [12], [(170, (aB (decide ((ordR x1 x2) < 0))))], []⟩] ⟨[(0, (aC (.s 0 0 4 N))), (1, (aI (↑a : Int))), (2, (aI (↑m : Int))), (3, (aI (↑b : Int))), (4, (aC (.d (.f fn caps)))), (18, (aI (↑mid : Int))), (19, (aI ((↑mid : Int) + (↑m : Int)))), (20, (aI (↑s : Int))), (21, (aI (↑u1 : Int))), (22, (aI (((↑mid : Int) + (↑m : Int)) - 1))), (23, (aI (↑c : Int))), (171, (aB (!(decide ((ordR x1 x2) < 0)))))], [(0, (.arr 127 4 ((d).map rRecord)))], 1⟩ mixed (by kernel_rfl) ?_ ?_ ?_ ?_
            · exact ⟨.inl ⟨(Wanted.plain rfl), GOp.cast (g_move rfl rfl) rfl⟩,
      .inl ⟨(Wanted.plain rfl), GOp.cast (g_move rfl rfl) rfl⟩,
      .inl ⟨(Wanted.plain rfl), GOp.cast (g_move rfl rfl) rfl⟩,
      .inl ⟨(Wanted.plain rfl), GOp.cast (g_move rfl rfl) rfl⟩,
      .inl ⟨(Wanted.plain rfl), GOp.cast (g_binI rfl rfl rfl (wrap_ok (by first | omega | (simp; done) | (simp; omega)))) rfl⟩,
      .inl ⟨(Wanted.plain rfl), GOp.cast (g_indexP0 (i := (((mid) + (m)) - 1) - (c)) rfl rfl rfl Try.underlying114 sz127 (by first | omega | (simp; done) | (simp; omega)) (by first | omega | (simp; done) | (simp; omega))) rfl⟩,
      .inl ⟨(Wanted.plain rfl), GOp.cast (g_loadAs rfl rfl rfl Try.underlying127 rfl sz127 (getmap hx1) rfl) rfl⟩,
      .inl ⟨(Wanted.plain rfl), GOp.cast (g_move rfl rfl) rfl⟩,
      .inl ⟨(Wanted.plain rfl), GOp.cast (g_move rfl rfl) rfl⟩,
      .inl ⟨(Wanted.plain rfl), GOp.cast (g_indexP0 (i := c) rfl rfl rfl Try.underlying114 sz127 (by first | omega | (simp; done) | (simp; omega)) (by first | omega | (simp; done) | (simp; omega))) rfl⟩,
      .inl ⟨(Wanted.plain rfl), GOp.cast (g_loadAs rfl rfl rfl Try.underlying127 rfl sz127 (getmap hx2) rfl) rfl⟩,
      .inl ⟨(Wanted.plain rfl), GOp.cast (g_callF (ins := [(.g [(cI x1.shop), (cI x1.auth), (cI x1.kind), (cI x1.sum)]), (.g [(cI x2.shop), (cI x2.auth), (cI x2.kind), (cI x2.sum)])]) 1 (hp x1 x2) hen rfl rfl rfl ⟨⟨_, rfl, .g ⟨.d _, .d _, .d _, .d _,  trivial⟩⟩, ⟨_, rfl, .g ⟨.d _, .d _, .d _, .d _,  trivial⟩⟩,  trivial⟩ trivial trivial rfl rfl rfl rfl) rfl⟩,
      .inl ⟨(Wanted.plain rfl), GOp.cast (g_binI rfl rfl rfl rfl) rfl⟩,
      .inl ⟨(Wanted.plain rfl), GOp.cast (g_notB rfl rfl) rfl⟩,
       trivial⟩
            · exact ⟨⟨⟨.inl rfl,  trivial⟩, trivial⟩, ⟨⟨.inl rfl,  trivial⟩, ⟨.inl rfl,  trivial⟩⟩, ⟨⟨.inl rfl,  trivial⟩, trivial⟩, ⟨⟨.inl rfl,  trivial⟩, trivial⟩, ⟨⟨.inr ⟨2, .head _, _, rfl, rfl, rfl⟩, .inr ⟨3, .tail _ (.head _), _, rfl, rfl, rfl⟩,  trivial⟩, trivial⟩, ⟨⟨.inr ⟨1, .head _, _, rfl, rfl, rfl⟩, .inr ⟨4, .tail _ (.head _), _, rfl, rfl, rfl⟩,  trivial⟩, ⟨.inl rfl,  trivial⟩⟩, ⟨⟨.inr ⟨5, .head _, _, rfl, rfl, rfl⟩,  trivial⟩, ⟨.inl rfl,  trivial⟩⟩, ⟨⟨.inl rfl,  trivial⟩, ⟨.inl rfl,  trivial⟩⟩, ⟨⟨.inl rfl,  trivial⟩, trivial⟩, ⟨⟨.inr ⟨7, .head _, _, rfl, rfl, rfl⟩, .inr ⟨8, .tail _ (.head _), _, rfl, rfl, rfl⟩,  trivial⟩, ⟨.inl rfl,  trivial⟩⟩, ⟨⟨.inr ⟨9, .head _, _, rfl, rfl, rfl⟩,  trivial⟩, ⟨.inl rfl,  trivial⟩⟩, ⟨⟨.inr ⟨0, .head _, _, rfl, rfl, rfl⟩, .inr ⟨6, .tail _ (.head _), _, rfl, rfl, rfl⟩, .inr ⟨10, .tail _ (.tail _ (.head _)), _, rfl, rfl, rfl⟩,  trivial⟩, trivial⟩, ⟨⟨.inr ⟨11, .head _, _, rfl, rfl, rfl⟩,  trivial⟩, trivial⟩, ⟨⟨.inr ⟨12, .head _, _, rfl, rfl, rfl⟩,  trivial⟩, trivial⟩,  trivial⟩
            · exact ⟨⟨.inl rfl, .inl rfl, .inl rfl, .inl rfl, .inl rfl, .inl rfl, .inl rfl, .inl rfl, .inl rfl, .inl rfl, .inl rfl, .inr ⟨13, _, rfl, rfl, rfl⟩,  trivial⟩, ⟨.inl rfl,  trivial⟩⟩
            ·
              refine AL.nil ?_
              refine then_ok ?_
              refine AC.cond rfl (fun hc27 => ?_) (fun hc27 => ?_)
              ·
                have hc27' := hc27; try simp only [sumB, Bool.not_eq_true', Bool.not_eq_false', Bool.or_eq_true, Bool.or_eq_false_iff, Bool.and_eq_true, Bool.and_eq_false_imp, decide_eq_true_eq, decide_eq_false_iff_not, Bool.not_not, Bool.not_true, Bool.not_false] at hc27'
                refine AC.region ?_
                refine AL.fast 1 rfl ?_
                refine AL.val (Wanted.plain rfl) (g_binI rfl rfl rfl (wrap_ok (by first | omega | (simp; done) | (simp; omega)))) rfl rfl ?_
                refine AL.fast 1 rfl ?_
                refine AL.nil ?_
                refine block_ok ?_
                refine then_ok ?_
                refine ⟨(c + 1, u1), ⟨by omega, by omega, by omega, bsr_st hi4_3 (by omega) hc (by show (!ltAt _ _ _) = true; rw [ltAt_eq hx1 hx2, ordR_ge (by assumption)]; rfl)⟩, by first | omega | (simp; done) | (simp; omega), Weak.ren id (by refine ⟨?_, ?_, ?_, ?_, ?_, ?_, ?_, ?_, ?_, ?_,  trivial⟩ <;> first | rfl | (simp only [AV.map, GV.map, CV.map, AB.map', id]; done) | (congr 3; omega) | (congr 4; omega) | (simp only [List.length_append, List.length_cons, List.length_nil, List.length_set]; rfl) | (exact look_i rfl (by omega))) (⟨by first | rfl | (simp only [AV.map, GV.map, CV.map, AB.map', id]; done) | (congr 3; omega) | (congr 4; omega) | (simp only [List.length_append, List.length_cons, List.length_nil, List.length_set]; rfl), trivial⟩) rfl⟩
              ·
                have hc27' := hc27; try simp only [sumB, Bool.not_eq_true', Bool.not_eq_false', Bool.or_eq_true, Bool.or_eq_false_iff, Bool.and_eq_true, Bool.and_eq_false_imp, decide_eq_true_eq, decide_eq_false_iff_not, Bool.not_not, Bool.not_true, Bool.not_false] at hc27'
                refine AC.region ?_
                refine AL.fast 2 rfl ?_
                refine AL.nil ?_
                refine block_ok ?_
                refine then_ok ?_
                refine ⟨(s, c), ⟨by omega, by omega, by omega, bsr_sf hi4_3 (by omega) hc (by show (!ltAt _ _ _) = false; rw [ltAt_eq hx1 hx2, ordR_lt.1 (by assumption)]; rfl)⟩, by first | omega | (simp; done) | (simp; omega), Weak.ren id (by refine ⟨?_, ?_, ?_, ?_, ?_, ?_, ?_, ?_, ?_, ?_,  trivial⟩ <;> first | rfl | (simp only [AV.map, GV.map, CV.map, AB.map', id]; done) | (congr 3; omega) | (congr 4; omega) | (simp only [List.length_append, List.length_cons, List.length_nil, List.length_set]; rfl) | (exact look_i rfl (by omega))) (⟨by first | rfl | (simp only [AV.map, GV.map, CV.map, AB.map', id]; done) | (congr 3; omega) | (congr 4; omega) | (simp only [List.length_append, List.length_cons, List.length_nil, List.length_set]; rfl), trivial⟩) rfl⟩
          ·
            have hc26' := hc26; try simp only [sumB, Bool.not_eq_true', Bool.not_eq_false', Bool.or_eq_true, Bool.or_eq_false_iff, Bool.and_eq_true, Bool.and_eq_false_imp, decide_eq_true_eq, decide_eq_false_iff_not, Bool.not_not, Bool.not_true, Bool.not_false] at hc26'
            refine AC.exit ?_
            refine then_exit ?_
            refine then_exit ?_
            refine block_hit ?_
            refine then_ok ?_
            refine AC.seq ?_
            refine AC.region ?_
            refine AL.fast 2 rfl ?_
            refine AL.val (Wanted.plain rfl) (g_binI rfl rfl rfl (wrap_ok (by first | omega | (simp; done) | (simp; omega)))) rfl rfl ?_
            refine AL.fast 1 rfl ?_
            refine AL.nil ?_
            refine then_ok ?_
            refine AC.seq ?_
            obtain ⟨e, he⟩ : ∃ z : Nat, z = mid + m - s := ⟨_, rfl⟩
            refine AC.weak (st' := ⟨[(0, (aC (.s 0 0 4 N))), (1, (aI (↑a : Int))), (2, (aI (↑m : Int))), (3, (aI (↑b : Int))), (4, (aC (.d (.f fn caps)))), (18, (aI (↑mid : Int))), (19, (aI ((↑mid : Int) + (↑m : Int)))), (20, (aI (↑s : Int))), (21, (aI (↑u1 : Int))), (22, (aI (((↑mid : Int) + (↑m : Int)) - 1))), (149, (aI (↑s : Int))), (150, (aI (↑u1 : Int))), (151, (aB (decide ((↑s : Int) < (↑u1 : Int))))), (175, (aI ((↑mid : Int) + (↑m : Int)))), (176, (aI (↑s : Int))), (177, (aI (((↑mid : Int) + (↑m : Int)) - (↑s : Int)))), (24, (aI (↑e : Int)))], [(0, (.arr 127 4 ((d).map rRecord)))], 1⟩) (Weak.ren id (by refine ⟨?_, ?_, ?_, ?_, ?_, ?_, ?_, ?_, ?_, ?_, ?_, ?_, ?_, ?_, ?_, ?_, ?_,  trivial⟩ <;> first | rfl | (simp only [AV.map, GV.map, CV.map, AB.map', id]; done) | (congr 3; omega) | (congr 4; omega) | (simp only [List.length_append, List.length_cons, List.length_nil, List.length_set]; rfl) | (exact look_i rfl (by omega))) (⟨by first | rfl | (simp only [AV.map, GV.map, CV.map, AB.map', id]; done) | (congr 3; omega) | (congr 4; omega) | (simp only [List.length_append, List.length_cons, List.length_nil, List.length_set]; rfl), trivial⟩) rfl) ?_
            refine AC.cutB 185 ((decide ((↑s : Int) < (↑m : Int))) && (decide ((↑m : Int) < (↑e : Int)))) ?_ ?_
            ·
              refine AC.region ?_
              refine AL.fast 2 rfl ?_
              refine AL.val (Wanted.plain rfl) (g_binI rfl rfl rfl rfl) rfl rfl ?_
              refine AL.fast 1 rfl ?_
              refine AL.dec (t := 181) rfl (fun hb28 => ?_) (fun hb28 => ?_)
              ·
                have hb28' := hb28; try simp only [sumB, Bool.not_eq_true', Bool.not_eq_false', Bool.or_eq_true, Bool.or_eq_false_iff, Bool.and_eq_true, Bool.and_eq_false_imp, decide_eq_true_eq, decide_eq_false_iff_not, Bool.not_not, Bool.not_true, Bool.not_false] at hb28'
                refine AL.fast 2 rfl ?_
                refine AL.val (Wanted.yes rfl rfl rfl) (g_binI rfl rfl rfl rfl) rfl rfl ?_
                refine AL.fast 1 rfl ?_
                refine AL.nil ?_
                refine then_ok ?_
                exact Weak.popB 9 rfl rfl (by first | (simp [hb28]; done) | (simp_all; done) | (exfalso; simp_all; done) | (simp_all; omega)) rfl
              ·
                have hb28' := hb28; try simp only [sumB, Bool.not_eq_true', Bool.not_eq_false', Bool.or_eq_true, Bool.or_eq_false_iff, Bool.and_eq_true, Bool.and_eq_false_imp, decide_eq_true_eq, decide_eq_false_iff_not, Bool.not_not, Bool.not_true, Bool.not_false] at hb28'
                refine AL.fast 4 rfl ?_
                refine AL.nil ?_
                refine then_ok ?_
                exact Weak.popB 9 rfl rfl (by first | (simp [hb28]; done) | (simp_all; done) | (exfalso; simp_all; done) | (simp_all; omega)) rfl
            ·
              refine AC.cond rfl (fun hc29 => ?_) (fun hc29 => ?_)
              ·
                have hc29' := hc29; try simp only [sumB, Bool.not_eq_true', Bool.not_eq_false', Bool.or_eq_true, Bool.or_eq_false_iff, Bool.and_eq_true, Bool.and_eq_false_imp, decide_eq_true_eq, decide_eq_false_iff_not, Bool.not_not, Bool.not_true, Bool.not_false] at hc29'
                refine AC.region ?_
                refine AL.fast 5 rfl ?_
                obtain ⟨r7, hr7⟩ : ∃ (r7 : List Record), rot m (m - s) (e - m) d = r7 := ⟨_, rfl⟩
                have hlr7 : r7.length = d.length := by rw [← hr7]; exact rot_len _ _ _ _ _ (Nat.le_refl _)
                refine AL.callM (n' := 1) (h' := [(0, (.arr 127 4 ((r7).map rRecord)))]) (Wanted.plain rfl) (g_callMA (fun k => k) (fun k => k) (c_rotateI (↑s : Int) (↑m : Int) (↑e : Int) d N s m e fn caps hp hen (by first | omega | (simp; done) | (simp; omega)) (by first | omega | (simp; done) | (simp; omega)) (by first | omega | (simp; done) | (simp; omega)) (by first | omega | (simp; done) | (simp; omega)) (by first | omega | (simp; done) | (simp; omega)) (by first | omega | (simp; done) | (simp; omega)) (by first | omega | (simp; done) | (simp; omega)) (by first | omega | (simp; done) | (simp; omega)) r7 hr7) en140 rfl rfl ⟨⟨_, rfl, .inl ⟨rfl, rfl⟩⟩, ⟨_, rfl, .inr (.c (.d _))⟩, ⟨_, rfl, .inr (.c (.d _))⟩, ⟨_, rfl, .inr (.c (.d _))⟩, ⟨_, rfl, .inr (.c (.d _))⟩,  trivial⟩ ⟨rfl,  trivial⟩ rfl rfl ⟨.inr ⟨_, _, _, rfl, by first | (simp; omega) | (simp only [List.length_map]; omega)⟩,  trivial⟩ rfl rfl rfl trivial ⟨(fun _ _ _ _ => trivial),  trivial⟩ rfl rfl rfl rfl) rfl rfl rfl rfl rfl rfl ?_
                refine AL.nil ?_
                refine then_ok ?_
                refine AC.seq ?_
                refine AC.cutB 199 ((decide ((↑a : Int) < (↑s : Int))) && (decide ((↑s : Int) < (↑mid : Int)))) ?_ ?_
                ·
                  refine AC.region ?_
                  refine AL.fast 2 rfl ?_
                  refine AL.val (Wanted.plain rfl) (g_binI rfl rfl rfl rfl) rfl rfl ?_
                  refine AL.fast 1 rfl ?_
                  refine AL.dec (t := 195) rfl (fun hb30 => ?_) (fun hb30 => ?_)
                  ·
                    have hb30' := hb30; try simp only [sumB, Bool.not_eq_true', Bool.not_eq_false', Bool.or_eq_true, Bool.or_eq_false_iff, Bool.and_eq_true, Bool.and_eq_false_imp, decide_eq_true_eq, decide_eq_false_iff_not, Bool.not_not, Bool.not_true, Bool.not_false] at hb30'
                    refine AL.fast 2 rfl ?_
                    refine AL.val (Wanted.yes rfl rfl rfl) (g_binI rfl rfl rfl rfl) rfl rfl ?_
                    refine AL.fast 1 rfl ?_
                    refine AL.nil ?_
                    refine then_ok ?_
                    exact Weak.popB 9 rfl rfl (by first | (simp [hb30]; done) | (simp_all; done) | (exfalso; simp_all; done) | (simp_all; omega)) rfl
                  ·
                    have hb30' := hb30; try simp only [sumB, Bool.not_eq_true', Bool.not_eq_false', Bool.or_eq_true, Bool.or_eq_false_iff, Bool.and_eq_true, Bool.and_eq_false_imp, decide_eq_true_eq, decide_eq_false_iff_not, Bool.not_not, Bool.not_true, Bool.not_false] at hb30'
                    refine AL.fast 4 rfl ?_
                    refine AL.nil ?_
                    refine then_ok ?_
                    exact Weak.popB 9 rfl rfl (by first | (simp [hb30]; done) | (simp_all; done) | (exfalso; simp_all; done) | (simp_all; omega)) rfl
                ·
                  refine AC.cond rfl (fun hc31 => ?_) (fun hc31 => ?_)
                  ·
                    have hc31' := hc31; try simp only [sumB, Bool.not_eq_true', Bool.not_eq_false', Bool.or_eq_true, Bool.or_eq_false_iff, Bool.and_eq_true, Bool.and_eq_false_imp, decide_eq_true_eq, decide_eq_false_iff_not, Bool.not_not, Bool.not_true, Bool.not_false] at hc31'
                    refine AC.region ?_
                    refine AL.fast 5 rfl ?_
                    obtain ⟨r8, hr8⟩ : ∃ (r8 : List Record), symM f a s mid r7 = r8 := ⟨_, rfl⟩
                    have hlr8 : r8.length = r7.length := by rw [← hr8]; exact symM_len _ _ _ _ _
                    refine AL.callM (n' := 1) (h' := [(0, (.arr 127 4 ((r8).map rRecord)))]) (Wanted.plain rfl) (g_callMA (fun k => k) (fun k => k) (ih (↑a : Int) (↑s : Int) (↑mid : Int) r7 N a s mid fn caps hp hen (by first | omega | (simp; done) | (simp; omega)) (by first | omega | (simp; done) | (simp; omega)) (by first | omega | (simp; done) | (simp; omega)) (by first | omega | (simp; done) | (simp; omega)) (by first | omega | (simp; done) | (simp; omega)) (by first | omega | (simp; done) | (simp; omega)) (by first | omega | (simp; done) | (simp; omega)) (by first | omega | (simp; done) | (simp; omega)) (by first | omega | (simp; done) | (simp; omega)) r8 hr8) en138 rfl rfl ⟨⟨_, rfl, .inl ⟨rfl, rfl⟩⟩, ⟨_, rfl, .inr (.c (.d _))⟩, ⟨_, rfl, .inr (.c (.d _))⟩, ⟨_, rfl, .inr (.c (.d _))⟩, ⟨_, rfl, .inr (.c (.d _))⟩,  trivial⟩ ⟨rfl,  trivial⟩ rfl rfl ⟨.inr ⟨_, _, _, rfl, by first | (simp; omega) | (simp only [List.length_map]; omega)⟩,  trivial⟩ rfl rfl rfl trivial ⟨(fun _ _ _ _ => trivial),  trivial⟩ rfl rfl rfl rfl) rfl rfl rfl rfl rfl rfl ?_
                    refine AL.nil ?_
                    refine then_ok ?_
                    refine AC.cutB 213 ((decide ((↑mid : Int) < (↑e : Int))) && (decide ((↑e : Int) < (↑b : Int)))) ?_ ?_
                    ·
                      refine AC.region ?_
                      refine AL.fast 2 rfl ?_
                      refine AL.val (Wanted.plain rfl) (g_binI rfl rfl rfl rfl) rfl rfl ?_
                      refine AL.fast 1 rfl ?_
                      refine AL.dec (t := 209) rfl (fun hb32 => ?_) (fun hb32 => ?_)
                      ·
                        have hb32' := hb32; try simp only [sumB, Bool.not_eq_true', Bool.not_eq_false', Bool.or_eq_true, Bool.or_eq_false_iff, Bool.and_eq_true, Bool.and_eq_false_imp, decide_eq_true_eq, decide_eq_false_iff_not, Bool.not_not, Bool.not_true, Bool.not_false] at hb32'
                        refine AL.fast 2 rfl ?_
                        refine AL.val (Wanted.yes rfl rfl rfl) (g_binI rfl rfl rfl rfl) rfl rfl ?_
                        refine AL.fast 1 rfl ?_
                        refine AL.nil ?_
                        refine then_ok ?_
                        exact Weak.popB 9 rfl rfl (by first | (simp [hb32]; done) | (simp_all; done) | (exfalso; simp_all; done) | (simp_all; omega)) rfl
                      ·
                        have hb32' := hb32; try simp only [sumB, Bool.not_eq_true', Bool.not_eq_false', Bool.or_eq_true, Bool.or_eq_false_iff, Bool.and_eq_true, Bool.and_eq_false_imp, decide_eq_true_eq, decide_eq_false_iff_not, Bool.not_not, Bool.not_true, Bool.not_false] at hb32'
                        refine AL.fast 4 rfl ?_
                        refine AL.nil ?_
                        refine then_ok ?_
                        exact Weak.popB 9 rfl rfl (by first | (simp [hb32]; done) | (simp_all; done) | (exfalso; simp_all; done) | (simp_all; omega)) rfl
                    ·
                      refine AC.cond rfl (fun hc33 => ?_) (fun hc33 => ?_)
                      ·
                        have hc33' := hc33; try simp only [sumB, Bool.not_eq_true', Bool.not_eq_false', Bool.or_eq_true, Bool.or_eq_false_iff, Bool.and_eq_true, Bool.and_eq_false_imp, decide_eq_true_eq, decide_eq_false_iff_not, Bool.not_not, Bool.not_true, Bool.not_false] at hc33'
                        refine AC.region ?_
                        refine AL.fast 5 rfl ?_
                        obtain ⟨r9, hr9⟩ : ∃ (r9 : List Record), symM f mid e b r8 = r9 := ⟨_, rfl⟩
                        have hlr9 : r9.length = r8.length := by rw [← hr9]; exact symM_len _ _ _ _ _
                        refine AL.callM (n' := 1) (h' := [(0, (.arr 127 4 ((r9).map rRecord)))]) (Wanted.plain rfl) (g_callMA (fun k => k) (fun k => k) (ih (↑mid : Int) (↑e : Int) (↑b : Int) r8 N mid e b fn caps hp hen (by first | omega | (simp; done) | (simp; omega)) (by first | omega | (simp; done) | (simp; omega)) (by first | omega | (simp; done) | (simp; omega)) (by first | omega | (simp; done) | (simp; omega)) (by first | omega | (simp; done) | (simp; omega)) (by first | omega | (simp; done) | (simp; omega)) (by first | omega | (simp; done) | (simp; omega)) (by first | omega | (simp; done) | (simp; omega)) (by first | omega | (simp; done) | (simp; omega)) r9 hr9) en138 rfl rfl ⟨⟨_, rfl, .inl ⟨rfl, rfl⟩⟩, ⟨_, rfl, .inr (.c (.d _))⟩, ⟨_, rfl, .inr (.c (.d _))⟩, ⟨_, rfl, .inr (.c (.d _))⟩, ⟨_, rfl, .inr (.c (.d _))⟩,  trivial⟩ ⟨rfl,  trivial⟩ rfl rfl ⟨.inr ⟨_, _, _, rfl, by first | (simp; omega) | (simp only [List.length_map]; omega)⟩,  trivial⟩ rfl rfl rfl trivial ⟨(fun _ _ _ _ => trivial),  trivial⟩ rfl rfl rfl rfl) rfl rfl rfl rfl rfl rfl ?_
                        refine AL.nil ?_
                        have hX : symM (f + 1) a m b d = r9 := by
                          exact symM_halves (mid := mid) (s := s) (e := e) (d1 := r7) (d2 := r8) (by omega) (by omega) hmid (by unfold symStart; rw [← hmid, ← bsr_end (p := (fun c => !ltAt d (mid + m - 1 - c) c)) (i := s) (j := u1) (by omega), hi4_3]; first | exact if_pos (by omega) | exact if_neg (by omega)) he.symm (by unfold symRot; rw [if_pos (by omega)]; exact hr7) (by rw [if_pos (by omega)]; exact hr8) (by rw [if_pos (by omega)]; exact hr9)
                        rw [hX] at hr; clear hX
                        subst hr
                        refine retQ_mk (av' := outOf []) (nb' := [(0, (.arr 127 4 ((r9).map rRecord)))]) (retQ_end ⟨[], [(0, (.arr 127 4 ((r9).map rRecord)))], 1⟩ [] [] (Weak.ren (fun k => if k = 0 then 0 else k) (trivial) (⟨by first | rfl | (simp only [AV.map, GV.map, CV.map, AB.map', id]; done) | (congr 3; omega) | (congr 4; omega) | (simp only [List.length_append, List.length_cons, List.length_nil, List.length_set]; rfl), trivial⟩) rfl) rfl trivial ⟨by first | rfl | (simp only [AV.map, GV.map, CV.map, AB.map', id]; done) | (congr 3; omega) | (congr 4; omega) | (simp only [List.length_append, List.length_cons, List.length_nil, List.length_set]; rfl), trivial⟩) ?_ ?_
                        · first | rfl | (simp [outOf, aC]; done) | (simp [outOf, aC]; omega)
                        · first | rfl | (simp; done) | (simp; omega)
                      ·
                        have hc33' := hc33; try simp only [sumB, Bool.not_eq_true', Bool.not_eq_false', Bool.or_eq_true, Bool.or_eq_false_iff, Bool.and_eq_true, Bool.and_eq_false_imp, decide_eq_true_eq, decide_eq_false_iff_not, Bool.not_not, Bool.not_true, Bool.not_false] at hc33'
                        refine AC.skip ?_
                        have hX : symM (f + 1) a m b d = r8 := by
                          exact symM_halves (mid := mid) (s := s) (e := e) (d1 := r7) (d2 := r8) (by omega) (by omega) hmid (by unfold symStart; rw [← hmid, ← bsr_end (p := (fun c => !ltAt d (mid + m - 1 - c) c)) (i := s) (j := u1) (by omega), hi4_3]; first | exact if_pos (by omega) | exact if_neg (by omega)) he.symm (by unfold symRot; rw [if_pos (by omega)]; exact hr7) (by rw [if_pos (by omega)]; exact hr8) (by rw [if_neg (by omega)])
                        rw [hX] at hr; clear hX
                        subst hr
                        refine retQ_mk (av' := outOf []) (nb' := [(0, (.arr 127 4 ((r8).map rRecord)))]) (retQ_end ⟨[], [(0, (.arr 127 4 ((r8).map rRecord)))], 1⟩ [] [] (Weak.ren (fun k => if k = 0 then 0 else k) (trivial) (⟨by first | rfl | (simp only [AV.map, GV.map, CV.map, AB.map', id]; done) | (congr 3; omega) | (congr 4; omega) | (simp only [List.length_append, List.length_cons, List.length_nil, List.length_set]; rfl), trivial⟩) rfl) rfl trivial ⟨by first | rfl | (simp only [AV.map, GV.map, CV.map, AB.map', id]; done) | (congr 3; omega) | (congr 4; omega) | (simp only [List.length_append, List.length_cons, List.length_nil, List.length_set]; rfl), trivial⟩) ?_ ?_
                        · first | rfl | (simp [outOf, aC]; done) | (simp [outOf, aC]; omega)
                        · first | rfl | (simp; done) | (simp; omega)
                  ·
                    have hc31' := hc31; try simp only [sumB, Bool.not_eq_true', Bool.not_eq_false', Bool.or_eq_true, Bool.or_eq_false_iff, Bool.and_eq_true, Bool.and_eq_false_imp, decide_eq_true_eq, decide_eq_false_iff_not, Bool.not_not, Bool.not_true, Bool.not_false] at hc31'
                    refine AC.skip ?_
                    refine then_ok ?_
                    refine AC.cutB 213 ((decide ((↑mid : Int) < (↑e : Int))) && (decide ((↑e : Int) < (↑b : Int)))) ?_ ?_
                    ·
                      refine AC.region ?_
                      refine AL.fast 2 rfl ?_
                      refine AL.val (Wanted.plain rfl) (g_binI rfl rfl rfl rfl) rfl rfl ?_
                      refine AL.fast 1 rfl ?_
                      refine AL.dec (t := 209) rfl (fun hb34 => ?_) (fun hb34 => ?_)
                      ·
                        have hb34' := hb34; try simp only [sumB, Bool.not_eq_true', Bool.not_eq_false', Bool.or_eq_true, Bool.or_eq_false_iff, Bool.and_eq_true, Bool.and_eq_false_imp, decide_eq_true_eq, decide_eq_false_iff_not, Bool.not_not, Bool.not_true, Bool.not_false] at hb34'
                        refine AL.fast 2 rfl ?_
                        refine AL.val (Wanted.yes rfl rfl rfl) (g_binI rfl rfl rfl rfl) rfl rfl ?_
                        refine AL.fast 1 rfl ?_
                        refine AL.nil ?_
                        refine then_ok ?_
                        exact Weak.popB 9 rfl rfl (by first | (simp [hb34]; done) | (simp_all; done) | (exfalso; simp_all; done) | (simp_all; omega)) rfl
                      ·
                        have hb34' := hb34; try simp only [sumB, Bool.not_eq_true', Bool.not_eq_false', Bool.or_eq_true, Bool.or_eq_false_iff, Bool.and_eq_true, Bool.and_eq_false_imp, decide_eq_true_eq, decide_eq_false_iff_not, Bool.not_not, Bool.not_true, Bool.not_false] at hb34'
                        refine AL.fast 4 rfl ?_
                        refine AL.nil ?_
                        refine then_ok ?_
                        exact Weak.popB 9 rfl rfl (by first | (simp [hb34]; done) | (simp_all; done) | (exfalso; simp_all; done) | (simp_all; omega)) rfl
                    ·
                      refine AC.cond rfl (fun hc35 => ?_) (fun hc35 => ?_)
                      ·
                        have hc35' := hc35; try simp only [sumB, Bool.not_eq_true', Bool.not_eq_false', Bool.or_eq_true, Bool.or_eq_false_iff, Bool.and_eq_true, Bool.and_eq_false_imp, decide_eq_true_eq, decide_eq_false_iff_not, Bool.not_not, Bool.not_true, Bool.not_false] at hc35'
                        refine AC.region ?_
                        refine AL.fast 5 rfl ?_
                        obtain ⟨r10, hr10⟩ : ∃ (r10 : List Record), symM f mid e b r7 = r10 := ⟨_, rfl⟩
                        have hlr10 : r10.length = r7.length := by rw [← hr10]; exact symM_len _ _ _ _ _
                        refine AL.callM (n' := 1) (h' := [(0, (.arr 127 4 ((r10).map rRecord)))]) (Wanted.plain rfl) (g_callMA (fun k => k) (fun k => k) (ih (↑mid : Int) (↑e : Int) (↑b : Int) r7 N mid e b fn caps hp hen (by first | omega | (simp; done) | (simp; omega)) (by first | omega | (simp; done) | (simp; omega)) (by first | omega | (simp; done) | (simp; omega)) (by first | omega | (simp; done) | (simp; omega)) (by first | omega | (simp; done) | (simp; omega)) (by first | omega | (simp; done) | (simp; omega)) (by first | omega | (simp; done) | (simp; omega)) (by first | omega | (simp; done) | (simp; omega)) (by first | omega | (simp; done) | (simp; omega)) r10 hr10) en138 rfl rfl ⟨⟨_, rfl, .inl ⟨rfl, rfl⟩⟩, ⟨_, rfl, .inr (.c (.d _))⟩, ⟨_, rfl, .inr (.c (.d _))⟩, ⟨_, rfl, .inr (.c (.d _))⟩, ⟨_, rfl, .inr (.c (.d _))⟩,  trivial⟩ ⟨rfl,  trivial⟩ rfl rfl ⟨.inr ⟨_, _, _, rfl, by first | (simp; omega) | (simp only [List.length_map]; omega)⟩,  trivial⟩ rfl rfl rfl trivial ⟨(fun _ _ _ _ => trivial),  trivial⟩ rfl rfl rfl rfl) rfl rfl rfl rfl rfl rfl ?_
                        refine AL.nil ?_
                        have hX : symM (f + 1) a m b d = r10 := by
                          exact symM_halves (mid := mid) (s := s) (e := e) (d1 := r7) (d2 := r7) (by omega) (by omega) hmid (by unfold symStart; rw [← hmid, ← bsr_end (p := (fun c => !ltAt d (mid + m - 1 - c) c)) (i := s) (j := u1) (by omega), hi4_3]; first | exact if_pos (by omega) | exact if_neg (by omega)) he.symm (by unfold symRot; rw [if_pos (by omega)]; exact hr7) (by rw [if_neg (by omega)]) (by rw [if_pos (by omega)]; exact hr10)
                        rw [hX] at hr; clear hX
                        subst hr
                        refine retQ_mk (av' := outOf []) (nb' := [(0, (.arr 127 4 ((r10).map rRecord)))]) (retQ_end ⟨[], [(0, (.arr 127 4 ((r10).map rRecord)))], 1⟩ [] [] (Weak.ren (fun k => if k = 0 then 0 else k) (trivial) (⟨by first | rfl | (simp only [AV.map, GV.map, CV.map, AB.map', id]; done) | (congr 3; omega) | (congr 4; omega) | (simp only [List.length_append, List.length_cons, List.length_nil, List.length_set]; rfl), trivial⟩) rfl) rfl trivial ⟨by first | rfl | (simp only [AV.map, GV.map, CV.map, AB.map', id]; done) | (congr 3; omega) | (congr 4; omega) | (simp only [List.length_append, List.length_cons, List.length_nil, List.length_set]; rfl), trivial⟩) ?_ ?_
                        · first | rfl | (simp [outOf, aC]; done) | (simp [outOf, aC]; omega)
                        · first | rfl | (simp; done) | (simp; omega)
                      ·
                        have hc35' := hc35; try simp only [sumB, Bool.not_eq_true', Bool.not_eq_false', Bool.or_eq_true, Bool.or_eq_false_iff, Bool.and_eq_true, Bool.and_eq_false_imp, decide_eq_true_eq, decide_eq_false_iff_not, Bool.not_not, Bool.not_true, Bool.not_false] at hc35'
                        refine AC.skip ?_
                        have hX : symM (f + 1) a m b d = r7 := by
                          exact symM_halves (mid := mid) (s := s) (e := e) (d1 := r7) (d2 := r7) (by omega) (by omega) hmid (by unfold symStart; rw [← hmid, ← bsr_end (p := (fun c => !ltAt d (mid + m - 1 - c) c)) (i := s) (j := u1) (by omega), hi4_3]; first | exact if_pos (by omega) | exact if_neg (by omega)) he.symm (by unfold symRot; rw [if_pos (by omega)]; exact hr7) (by rw [if_neg (by omega)]) (by rw [if_neg (by omega)])
                        rw [hX] at hr; clear hX
                        subst hr
                        refine retQ_mk (av' := outOf []) (nb' := [(0, (.arr 127 4 ((r7).map rRecord)))]) (retQ_end ⟨[], [(0, (.arr 127 4 ((r7).map rRecord)))], 1⟩ [] [] (Weak.ren (fun k => if k = 0 then 0 else k) (trivial) (⟨by first | rfl | (simp only [AV.map, GV.map, CV.map, AB.map', id]; done) | (congr 3; omega) | (congr 4; omega) | (simp only [List.length_append, List.length_cons, List.length_nil, List.length_set]; rfl), trivial⟩) rfl) rfl trivial ⟨by first | rfl | (simp only [AV.map, GV.map, CV.map, AB.map', id]; done) | (congr 3; omega) | (congr 4; omega) | (simp only [List.length_append, List.length_cons, List.length_nil, List.length_set]; rfl), trivial⟩) ?_ ?_
                        · first | rfl | (simp [outOf, aC]; done) | (simp [outOf, aC]; omega)
                        · first | rfl | (simp; done) | (simp; omega)
              ·
                have hc29' := hc29; try simp only [sumB, Bool.not_eq_true', Bool.not_eq_false', Bool.or_eq_true, Bool.or_eq_false_iff, Bool.and_eq_true, Bool.and_eq_false_imp, decide_eq_true_eq, decide_eq_false_iff_not, Bool.not_not, Bool.not_true, Bool.not_false] at hc29'
                refine AC.skip ?_
                refine then_ok ?_
                refine AC.seq ?_
                refine AC.cutB 199 ((decide ((↑a : Int) < (↑s : Int))) && (decide ((↑s : Int) < (↑mid : Int)))) ?_ ?_
                ·
                  refine AC.region ?_
                  refine AL.fast 2 rfl ?_
                  refine AL.val (Wanted.plain rfl) (g_binI rfl rfl rfl rfl) rfl rfl ?_
                  refine AL.fast 1 rfl ?_
                  refine AL.dec (t := 195) rfl (fun hb36 => ?_) (fun hb36 => ?_)
                  ·
                    have hb36' := hb36; try simp only [sumB, Bool.not_eq_true', Bool.not_eq_false', Bool.or_eq_true, Bool.or_eq_false_iff, Bool.and_eq_true, Bool.and_eq_false_imp, decide_eq_true_eq, decide_eq_false_iff_not, Bool.not_not, Bool.not_true, Bool.not_false] at hb36'
                    refine AL.fast 2 rfl ?_
                    refine AL.val (Wanted.yes rfl rfl rfl) (g_binI rfl rfl rfl rfl) rfl rfl ?_
                    refine AL.fast 1 rfl ?_
                    refine AL.nil ?_
                    refine then_ok ?_
                    exact Weak.popB 9 rfl rfl (by first | (simp [hb36]; done) | (simp_all; done) | (exfalso; simp_all; done) | (simp_all; omega)) rfl
                  ·
                    have hb36' := hb36; try simp only [sumB, Bool.not_eq_true', Bool.not_eq_false', Bool.or_eq_true, Bool.or_eq_false_iff, Bool.and_eq_true, Bool.and_eq_false_imp, decide_eq_true_eq, decide_eq_false_iff_not, Bool.not_not, Bool.not_true, Bool.not_false] at hb36'
                    refine AL.fast 4 rfl ?_
                    refine AL.nil ?_
                    refine then_ok ?_
                    exact Weak.popB 9 rfl rfl (by first | (simp [hb36]; done) | (simp_all; done) | (exfalso; simp_all; done) | (simp_all; omega)) rfl
                ·
                  refine AC.cond rfl (fun hc37 => ?_) (fun hc37 => ?_)
                  ·
                    have hc37' := hc37; try simp only [sumB, Bool.not_eq_true', Bool.not_eq_false', Bool.or_eq_true, Bool.or_eq_false_iff, Bool.and_eq_true, Bool.and_eq_false_imp, decide_eq_true_eq, decide_eq_false_iff_not, Bool.not_not, Bool.not_true, Bool.not_false] at hc37'
                    refine AC.region ?_
                    refine AL.fast 5 rfl ?_
                    obtain ⟨r11, hr11⟩ : ∃ (r11 : List Record), symM f a s mid d = r11 := ⟨_, rfl⟩
                    have hlr11 : r11.length = d.length := by rw [← hr11]; exact symM_len _ _ _ _ _
                    refine AL.callM (n' := 1) (h' := [(0, (.arr 127 4 ((r11).map rRecord)))]) (Wanted.plain rfl) (g_callMA (fun k => k) (fun k => k) (ih (↑a : Int) (↑s : Int) (↑mid : Int) d N a s mid fn caps hp hen (by first | omega | (simp; done) | (simp; omega)) (by first | omega | (simp; done) | (simp; omega)) (by first | omega | (simp; done) | (simp; omega)) (by first | omega | (simp; done) | (simp; omega)) (by first | omega | (simp; done) | (simp; omega)) (by first | omega | (simp; done) | (simp; omega)) (by first | omega | (simp; done) | (simp; omega)) (by first | omega | (simp; done) | (simp; omega)) (by first | omega | (simp; done) | (simp; omega)) r11 hr11) en138 rfl rfl ⟨⟨_, rfl, .inl ⟨rfl, rfl⟩⟩, ⟨_, rfl, .inr (.c (.d _))⟩, ⟨_, rfl, .inr (.c (.d _))⟩, ⟨_, rfl, .inr (.c (.d _))⟩, ⟨_, rfl, .inr (.c (.d _))⟩,  trivial⟩ ⟨rfl,  trivial⟩ rfl rfl ⟨.inr ⟨_, _, _, rfl, by first | (simp; omega) | (simp only [List.length_map]; omega)⟩,  trivial⟩ rfl rfl rfl trivial ⟨(fun _ _ _ _ => trivial),  trivial⟩ rfl rfl rfl rfl) rfl rfl rfl rfl rfl rfl ?_
                    refine AL.nil ?_
                    refine then_ok ?_
                    refine AC.cutB 213 ((decide ((↑mid : Int) < (↑e : Int))) && (decide ((↑e : Int) < (↑b : Int)))) ?_ ?_
                    ·
                      refine AC.region ?_
                      refine AL.fast 2 rfl ?_
                      refine AL.val (Wanted.plain rfl) (g_binI rfl rfl rfl rfl) rfl rfl ?_
                      refine AL.fast 1 rfl ?_
                      refine AL.dec (t := 209) rfl (fun hb38 => ?_) (fun hb38 => ?_)
                      ·
                        have hb38' := hb38; try simp only [sumB, Bool.not_eq_true', Bool.not_eq_false', Bool.or_eq_true, Bool.or_eq_false_iff, Bool.and_eq_true, Bool.and_eq_false_imp, decide_eq_true_eq, decide_eq_false_iff_not, Bool.not_not, Bool.not_true, Bool.not_false] at hb38'
                        refine AL.fast 2 rfl ?_
                        refine AL.val (Wanted.yes rfl rfl rfl) (g_binI rfl rfl rfl rfl) rfl rfl ?_
                        refine AL.fast 1 rfl ?_
                        refine AL.nil ?_
                        refine then_ok ?_
                        exact Weak.popB 9 rfl rfl (by first | (simp [hb38]; done) | (simp_all; done) | (exfalso; simp_all; done) | (simp_all; omega)) rfl
                      ·
                        have hb38' := hb38; try simp only [sumB, Bool.not_eq_true', Bool.not_eq_false', Bool.or_eq_true, Bool.or_eq_false_iff, Bool.and_eq_true, Bool.and_eq_false_imp, decide_eq_true_eq, decide_eq_false_iff_not, Bool.not_not, Bool.not_true, Bool.not_false] at hb38'
                        refine AL.fast 4 rfl ?_
                        refine AL.nil ?_
                        refine then_ok ?_
                        exact Weak.popB 9 rfl rfl (by first | (simp [hb38]; done) | (simp_all; done) | (exfalso; simp_all; done) | (simp_all; omega)) rfl
                    ·
                      refine AC.cond rfl (fun hc39 => ?_) (fun hc39 => ?_)
                      ·
                        have hc39' := hc39; try simp only [sumB, Bool.not_eq_true', Bool.not_eq_false', Bool.or_eq_true, Bool.or_eq_false_iff, Bool.and_eq_true, Bool.and_eq_false_imp, decide_eq_true_eq, decide_eq_false_iff_not, Bool.not_not, Bool.not_true, Bool.not_false] at hc39'
                        refine AC.region ?_
                        refine AL.fast 5 rfl ?_
                        obtain ⟨r12, hr12⟩ : ∃ (r12 : List Record), symM f mid e b r11 = r12 := ⟨_, rfl⟩
                        have hlr12 : r12.length = r11.length := by rw [← hr12]; exact symM_len _ _ _ _ _
                        refine AL.callM (n' := 1) (h' := [(0, (.arr 127 4 ((r12).map rRecord)))]) (Wanted.plain rfl) (g_callMA (fun k => k) (fun k => k) (ih (↑mid : Int) (↑e : Int) (↑b : Int) r11 N mid e b fn caps hp hen (by first | omega | (simp; done) | (simp; omega)) (by first | omega | (simp; done) | (simp; omega)) (by first | omega | (simp; done) | (simp; omega)) (by first | omega | (simp; done) | (simp; omega)) (by first | omega | (simp; done) | (simp; omega)) (by first | omega | (simp; done) | (simp; omega)) (by first | omega | (simp; done) | (simp; omega)) (by first | omega | (simp; done) | (simp; omega)) (by first | omega | (simp; done) | (simp; omega)) r12 hr12) en138 rfl rfl ⟨⟨_, rfl, .inl ⟨rfl, rfl⟩⟩, ⟨_, rfl, .inr (.c (.d _))⟩, ⟨_, rfl, .inr (.c (.d _))⟩, ⟨_, rfl, .inr (.c (.d _))⟩, ⟨_, rfl, .inr (.c (.d _))⟩,  trivial⟩ ⟨rfl,  trivial⟩ rfl rfl ⟨.inr ⟨_, _, _, rfl, by first | (simp; omega) | (simp only [List.length_map]; omega)⟩,  trivial⟩ rfl rfl rfl trivial ⟨(fun _ _ _ _ => trivial),  trivial⟩ rfl rfl rfl rfl) rfl rfl rfl rfl rfl rfl ?_
                        refine AL.nil ?_
                        have hX : symM (f + 1) a m b d = r12 := by
                          exact symM_halves (mid := mid) (s := s) (e := e) (d1 := d) (d2 := r11) (by omega) (by omega) hmid (by unfold symStart; rw [← hmid, ← bsr_end (p := (fun c => !ltAt d (mid + m - 1 - c) c)) (i := s) (j := u1) (by omega), hi4_3]; first | exact if_pos (by omega) | exact if_neg (by omega)) he.symm (by unfold symRot; rw [if_neg (by omega)]) (by rw [if_pos (by omega)]; exact hr11) (by rw [if_pos (by omega)]; exact hr12)
                        rw [hX] at hr; clear hX
                        subst hr
                        refine retQ_mk (av' := outOf []) (nb' := [(0, (.arr 127 4 ((r12).map rRecord)))]) (retQ_end ⟨[], [(0, (.arr 127 4 ((r12).map rRecord)))], 1⟩ [] [] (Weak.ren (fun k => if k = 0 then 0 else k) (trivial) (⟨by first | rfl | (simp only [AV.map, GV.map, CV.map, AB.map', id]; done) | (congr 3; omega) | (congr 4; omega) | (simp only [List.length_append, List.length_cons, List.length_nil, List.length_set]; rfl), trivial⟩) rfl) rfl trivial ⟨by first | rfl | (simp only [AV.map, GV.map, CV.map, AB.map', id]; done) | (congr 3; omega) | (congr 4; omega) | (simp only [List.length_append, List.length_cons, List.length_nil, List.length_set]; rfl), trivial⟩) ?_ ?_
                        · first | rfl | (simp [outOf, aC]; done) | (simp [outOf, aC]; omega)
                        · first | rfl | (simp; done) | (simp; omega)
                      ·
                        have hc39' := hc39; try simp only [sumB, Bool.not_eq_true', Bool.not_eq_false', Bool.or_eq_true, Bool.or_eq_false_iff, Bool.and_eq_true, Bool.and_eq_false_imp, decide_eq_true_eq, decide_eq_false_iff_not, Bool.not_not, Bool.not_true, Bool.not_false] at hc39'
                        refine AC.skip ?_
                        have hX : symM (f + 1) a m b d = r11 := by
                          exact symM_halves (mid := mid) (s := s) (e := e) (d1 := d) (d2 := r11) (by omega) (by omega) hmid (by unfold symStart; rw [← hmid, ← bsr_end (p := (fun c => !ltAt d (mid + m - 1 - c) c)) (i := s) (j := u1) (by omega), hi4_3]; first | exact if_pos (by omega) | exact if_neg (by omega)) he.symm (by unfold symRot; rw [if_neg (by omega)]) (by rw [if_pos (by omega)]; exact hr11) (by rw [if_neg (by omega)])
                        rw [hX] at hr; clear hX
                        subst hr
                        refine retQ_mk (av' := outOf []) (nb' := [(0, (.arr 127 4 ((r11).map rRecord)))]) (retQ_end ⟨[], [(0, (.arr 127 4 ((r11).map rRecord)))], 1⟩ [] [] (Weak.ren (fun k => if k = 0 then 0 else k) (trivial) (⟨by first | rfl | (simp only [AV.map, GV.map, CV.map, AB.map', id]; done) | (congr 3; omega) | (congr 4; omega) | (simp only [List.length_append, List.length_cons, List.length_nil, List.length_set]; rfl), trivial⟩) rfl) rfl trivial ⟨by first | rfl | (simp only [AV.map, GV.map, CV.map, AB.map', id]; done) | (congr 3; omega) | (congr 4; omega) | (simp only [List.length_append, List.length_cons, List.length_nil, List.length_set]; rfl), trivial⟩) ?_ ?_
                        · first | rfl | (simp [outOf, aC]; done) | (simp [outOf, aC]; omega)
                        · first | rfl | (simp; done) | (simp; omega)
                  ·
                    have hc37' := hc37; try simp only [sumB, Bool.not_eq_true', Bool.not_eq_false', Bool.or_eq_true, Bool.or_eq_false_iff, Bool.and_eq_true, Bool.and_eq_false_imp, decide_eq_true_eq, decide_eq_false_iff_not, Bool.not_not, Bool.not_true, Bool.not_false] at hc37'
                    refine AC.skip ?_
                    refine then_ok ?_
                    refine AC.cutB 213 ((decide ((↑mid : Int) < (↑e : Int))) && (decide ((↑e : Int) < (↑b : Int)))) ?_ ?_
                    ·
                      refine AC.region ?_
                      refine AL.fast 2 rfl ?_
                      refine AL.val (Wanted.plain rfl) (g_binI rfl rfl rfl rfl) rfl rfl ?_
                      refine AL.fast 1 rfl ?_
                      refine AL.dec (t := 209) rfl (fun hb40 => ?_) (fun hb40 => ?_)
                      ·
                        have hb40' := hb40; try simp only [sumB, Bool.not_eq_true', Bool.not_eq_false', Bool.or_eq_true, Bool.or_eq_false_iff, Bool.and_eq_true, Bool.and_eq_false_imp, decide_eq_true_eq, decide_eq_false_iff_not, Bool.not_not, Bool.not_true, Bool.not_false] at hb40'
                        refine AL.fast 2 rfl ?_
                        refine AL.val (Wanted.yes rfl rfl rfl) (g_binI rfl rfl rfl rfl) rfl rfl ?_
                        refine AL.fast 1 rfl ?_
                        refine AL.nil ?_
                        refine then_ok ?_
                        exact Weak.popB 9 rfl rfl (by first | (simp [hb40]; done) | (simp_all; done) | (exfalso; simp_all; done) | (simp_all; omega)) rfl
                      ·
                        have hb40' := hb40; try simp only [sumB, Bool.not_eq_true', Bool.not_eq_false', Bool.or_eq_true, Bool.or_eq_false_iff, Bool.and_eq_true, Bool.and_eq_false_imp, decide_eq_true_eq, decide_eq_false_iff_not, Bool.not_not, Bool.not_true, Bool.not_false] at hb40'
                        refine AL.fast 4 rfl ?_
                        refine AL.nil ?_
                        refine then_ok ?_
                        exact Weak.popB 9 rfl rfl (by first | (simp [hb40]; done) | (simp_all; done) | (exfalso; simp_all; done) | (simp_all; omega)) rfl
                    ·
                      refine AC.cond rfl (fun hc41 => ?_) (fun hc41 => ?_)
                      ·
                        have hc41' := hc41; try simp only [sumB, Bool.not_eq_true', Bool.not_eq_false', Bool.or_eq_true, Bool.or_eq_false_iff, Bool.and_eq_true, Bool.and_eq_false_imp, decide_eq_true_eq, decide_eq_false_iff_not, Bool.not_not, Bool.not_true, Bool.not_false] at hc41'
                        refine AC.region ?_
                        refine AL.fast 5 rfl ?_
                        obtain ⟨r13, hr13⟩ : ∃ (r13 : List Record), symM f mid e b d = r13 := ⟨_, rfl⟩
                        have hlr13 : r13.length = d.length := by rw [← hr13]; exact symM_len _ _ _ _ _
                        refine AL.callM (n' := 1) (h' := [(0, (.arr 127 4 ((r13).map rRecord)))]) (Wanted.plain rfl) (g_callMA (fun k => k) (fun k => k) (ih (↑mid : Int) (↑e : Int) (↑b : Int) d N mid e b fn caps hp hen (by first | omega | (simp; done) | (simp; omega)) (by first | omega | (simp; done) | (simp; omega)) (by first | omega | (simp; done) | (simp; omega)) (by first | omega | (simp; done) | (simp; omega)) (by first | omega | (simp; done) | (simp; omega)) (by first | omega | (simp; done) | (simp; omega)) (by first | omega | (simp; done) | (simp; omega)) (by first | omega | (simp; done) | (simp; omega)) (by first | omega | (simp; done) | (simp; omega)) r13 hr13) en138 rfl rfl ⟨⟨_, rfl, .inl ⟨rfl, rfl⟩⟩, ⟨_, rfl, .inr (.c (.d _))⟩, ⟨_, rfl, .inr (.c (.d _))⟩, ⟨_, rfl, .inr (.c (.d _))⟩, ⟨_, rfl, .inr (.c (.d _))⟩,  trivial⟩ ⟨rfl,  trivial⟩ rfl rfl ⟨.inr ⟨_, _, _, rfl, by first | (simp; omega) | (simp only [List.length_map]; omega)⟩,  trivial⟩ rfl rfl rfl trivial ⟨(fun _ _ _ _ => trivial),  trivial⟩ rfl rfl rfl rfl) rfl rfl rfl rfl rfl rfl ?_
                        refine AL.nil ?_
                        have hX : symM (f + 1) a m b d = r13 := by
                          exact symM_halves (mid := mid) (s := s) (e := e) (d1 := d) (d2 := d) (by omega) (by omega) hmid (by unfold symStart; rw [← hmid, ← bsr_end (p := (fun c => !ltAt d (mid + m - 1 - c) c)) (i := s) (j := u1) (by omega), hi4_3]; first | exact if_pos (by omega) | exact if_neg (by omega)) he.symm (by unfold symRot; rw [if_neg (by omega)]) (by rw [if_neg (by omega)]) (by rw [if_pos (by omega)]; exact hr13)
                        rw [hX] at hr; clear hX
                        subst hr
                        refine retQ_mk (av' := outOf []) (nb' := [(0, (.arr 127 4 ((r13).map rRecord)))]) (retQ_end ⟨[], [(0, (.arr 127 4 ((r13).map rRecord)))], 1⟩ [] [] (Weak.ren (fun k => if k = 0 then 0 else k) (trivial) (⟨by first | rfl | (simp only [AV.map, GV.map, CV.map, AB.map', id]; done) | (congr 3; omega) | (congr 4; omega) | (simp only [List.length_append, List.length_cons, List.length_nil, List.length_set]; rfl), trivial⟩) rfl) rfl trivial ⟨by first | rfl | (simp only [AV.map, GV.map, CV.map, AB.map', id]; done) | (congr 3; omega) | (congr 4; omega) | (simp only [List.length_append, List.length_cons, List.length_nil, List.length_set]; rfl), trivial⟩) ?_ ?_
                        · first | rfl | (simp [outOf, aC]; done) | (simp [outOf, aC]; omega)
                        · first | rfl | (simp; done) | (simp; omega)
                      ·
                        have hc41' := hc41; try simp only [sumB, Bool.not_eq_true', Bool.not_eq_false', Bool.or_eq_true, Bool.or_eq_false_iff, Bool.and_eq_true, Bool.and_eq_false_imp, decide_eq_true_eq, decide_eq_false_iff_not, Bool.not_not, Bool.not_true, Bool.not_false] at hc41'
                        refine AC.skip ?_
                        have hX : symM (f + 1) a m b d = d := by
                          exact symM_halves (mid := mid) (s := s) (e := e) (d1 := d) (d2 := d) (by omega) (by omega) hmid (by unfold symStart; rw [← hmid, ← bsr_end (p := (fun c => !ltAt d (mid + m - 1 - c) c)) (i := s) (j := u1) (by omega), hi4_3]; first | exact if_pos (by omega) | exact if_neg (by omega)) he.symm (by unfold symRot; rw [if_neg (by omega)]) (by rw [if_neg (by omega)]) (by rw [if_neg (by omega)])
                        rw [hX] at hr; clear hX
                        subst hr
                        refine retQ_mk (av' := outOf []) (nb' := [(0, (.arr 127 4 ((d).map rRecord)))]) (retQ_end ⟨[], [(0, (.arr 127 4 ((d).map rRecord)))], 1⟩ [] [] (Weak.ren (fun k => if k = 0 then 0 else k) (trivial) (⟨by first | rfl | (simp only [AV.map, GV.map, CV.map, AB.map', id]; done) | (congr 3; omega) | (congr 4; omega) | (simp only [List.length_append, List.length_cons, List.length_nil, List.length_set]; rfl), trivial⟩) rfl) rfl trivial ⟨by first | rfl | (simp only [AV.map, GV.map, CV.map, AB.map', id]; done) | (congr 3; omega) | (congr 4; omega) | (simp only [List.length_append, List.length_cons, List.length_nil, List.length_set]; rfl), trivial⟩) ?_ ?_
                        · first | rfl | (simp [outOf, aC]; done) | (simp [outOf, aC]; omega)
                        · first | rfl | (simp; done) | (simp; omega)
theorem c_symI_all : ∀ (f : Nat) (ai mi bi : Int) (d : List Record) (N a m b : Nat) (fn : FuncId) (caps : List (List D)) (hp : ∀ x y : Record, Fn Try.prog fn ([.g [cI x.shop, cI x.auth, cI x.kind, cI x.sum], .g [cI y.shop, cI y.auth, cI y.kind, cI y.sum]] ++ caps.map fun r => GV.c (.q r 0)) (aI (ordR x y)) []) (hen : Enters Try.prog fn) (ea_ : ai = (↑a : Int)) (em_ : mi = (↑m : Int)) (eb_ : bi = (↑b : Int)) (hl : d.length * 32 ≤ 140737488355328) (hN : N = d.length) (h0_ : a < m) (h1_ : m < b) (h2_ : b ≤ d.length) (h3_ : b - a ≤ f) (r : List Record) (hr : symM f a m b d = r), FnE Try.prog 138 [(.c (.s 0 0 4 N)), (.c (cI ai)), (.c (cI mi)), (.c (cI bi)), (.c (.d (.f fn caps)))] [(0, (.arr 127 4 ((d).map rRecord)))] [0] (.t []) [(0, (.arr 127 4 ((r).map rRecord)))] := by
  intro f
  induction f with
  | zero => intro ai mi bi d N a m b fn caps hp hen ea_ em_ eb_ hl hN h0_ h1_ h2_ h3_; exfalso; omega
  | succ f ih =>
    intro ai mi bi d N a m b fn caps hp hen ea_ em_ eb_ hl hN h0_ h1_ h2_ h3_ r hr
    subst ea_ em_ eb_
    exact c_sym_step f ih d N a m b fn caps hp hen hl hN h0_ h1_ h2_ h3_ r hr
theorem c_symI (ai mi bi : Int) (d : List Record) (N a m b : Nat) (fn : FuncId) (caps : List (List D)) (hp : ∀ x y : Record, Fn Try.prog fn ([.g [cI x.shop, cI x.auth, cI x.kind, cI x.sum], .g [cI y.shop, cI y.auth, cI y.kind, cI y.sum]] ++ caps.map fun r => GV.c (.q r 0)) (aI (ordR x y)) []) (hen : Enters Try.prog fn) (ea_ : ai = (↑a : Int)) (em_ : mi = (↑m : Int)) (eb_ : bi = (↑b : Int)) (hl : d.length * 32 ≤ 140737488355328) (hN : N = d.length) (h0_ : a < m) (h1_ : m < b) (h2_ : b ≤ d.length) (r : List Record) (hr : symM (b - a) a m b d = r) : FnE Try.prog 138 [(.c (.s 0 0 4 N)), (.c (cI ai)), (.c (cI mi)), (.c (cI bi)), (.c (.d (.f fn caps)))] [(0, (.arr 127 4 ((d).map rRecord)))] [0] (.t []) [(0, (.arr 127 4 ((r).map rRecord)))] := c_symI_all (b - a) ai mi bi d N a m b fn caps hp hen ea_ em_ eb_ hl hN h0_ h1_ h2_ (Nat.le_refl _) r hr
end Go.Proofs.Ytgmcdlfmifijlaa.Dev
namespace Go.Proofs.Ytgmcdlfmifijlaa.Dev
open Go.RowKit

set_option maxRecDepth 100000 in
set_option maxHeartbeats 4000000 in
theorem c_stable (d : List Record) (N n : Nat) (fn : FuncId) (caps : List (List D)) (hp : ∀ x y : Record, Fn Try.prog fn ([.g [cI x.shop, cI x.auth, cI x.kind, cI x.sum], .g [cI y.shop, cI y.auth, cI y.kind, cI y.sum]] ++ caps.map fun r => GV.c (.q r 0)) (aI (ordR x y)) []) (hen : Enters Try.prog fn) (hl : d.length * 32 ≤ 140737488355328) (hN : N = d.length) (h0_ : n = d.length) (h1_ : 0 < d.length) (r : List Record) (hr : sortR d = r) : FnE Try.prog 131 [(.c (.s 0 0 4 N)), (.c (cI (↑n : Int))), (.c (.d (.f fn caps)))] [(0, (.arr 127 4 ((d).map rRecord)))] [0] (.t []) [(0, (.arr 127 4 ((r).map rRecord)))] := by
  refine FnE.mk 63 [(0, (aC (.s 0 0 4 N))), (1, (aI (↑n : Int))), (2, (aC (.d (.f fn caps))))] 1 Try.func131 rfl rfl rfl rfl rfl rfl rfl rfl rfl ?_
  intro W0 F0 T0 pg
  refine AC.lenS 0 rfl (fun hlen0 => ?_)
  refine AC.seq ?_
  refine AC.region ?_
  refine AL.fast 1 rfl ?_
  refine AL.nil ?_
  refine then_ok ?_
  refine AC.seq ?_
  refine AC.region ?_
  refine AL.fast 3 rfl ?_
  refine AL.nil ?_
  refine then_ok ?_
  refine AC.seq ?_
  refine AC.block ?_
  refine AC.loop (β := Nat × Nat × List Record) (fun (p : Nat × Nat × List Record) => match p with | (a, b, d1) => ⟨[(0, (aC (.s 0 0 4 N))), (1, (aI (↑n : Int))), (2, (aC (.d (.f fn caps)))), (6, (aI 20)), (7, (aI (↑a : Int))), (8, (aI (↑b : Int)))], [(0, (.arr 127 4 ((d1).map rRecord)))], 1⟩) (fun (p : Nat × Nat × List Record) => match p with | (a, b, d1) => b = a + 20 ∧ a ≤ n ∧ Done 20 a d1 ∧ Same d d1 ∧ d1.length = d.length) (fun (p : Nat × Nat × List Record) => match p with | (a, b, d1) => n + 20 - b) (0, 20, d) ?_ ?_ ?_
  · exact ⟨by omega, by omega, done_start (by omega), Same.refl _, rfl⟩
  · exact Weak.ren id (by refine ⟨?_, ?_, ?_, ?_, ?_, ?_,  trivial⟩ <;> first | rfl | (simp only [AV.map, GV.map, CV.map, AB.map', id]; done) | (congr 3; omega) | (congr 4; omega) | (simp only [List.length_append, List.length_cons, List.length_nil, List.length_set]; rfl) | (exact look_i rfl (by omega))) (⟨by first | rfl | (simp only [AV.map, GV.map, CV.map, AB.map', id]; done) | (congr 3; omega) | (congr 4; omega) | (simp only [List.length_append, List.length_cons, List.length_nil, List.length_set]; rfl), trivial⟩) rfl
  ·
    rintro ⟨a, b, d1⟩ ⟨hi0_0, hi0_1, hi0_2, hi0_3, hi0_4⟩
    refine AC.seq ?_
    refine AC.seq ?_
    refine AC.region ?_
    refine AL.fast 2 rfl ?_
    refine AL.val (Wanted.plain rfl) (g_binI rfl rfl rfl rfl) rfl rfl ?_
    refine AL.nil ?_
    refine then_ok ?_
    refine AC.cond rfl (fun hc1 => ?_) (fun hc1 => ?_)
    ·
      have hc1' := hc1; try simp only [sumB, Bool.not_eq_true', Bool.not_eq_false', Bool.or_eq_true, Bool.or_eq_false_iff, Bool.and_eq_true, Bool.and_eq_false_imp, decide_eq_true_eq, decide_eq_false_iff_not, Bool.not_not, Bool.not_true, Bool.not_false] at hc1'
      refine AC.skip ?_
      refine then_ok ?_
      refine AC.block ?_
      refine AC.seq ?_
      refine AC.region ?_
      refine AL.fast 4 rfl ?_
      obtain ⟨r0, hr0⟩ : ∃ (r0 : List Record), insS a (b - (a + 1)) d1 = r0 := ⟨_, rfl⟩
      have hlr0 : r0.length = d1.length := by rw [← hr0]; exact insS_len _ _ _
      have hp0 : Part d1 r0 a b := by rw [← hr0]; exact insS_part (by omega) (by omega)
      refine AL.callM (n' := 1) (h' := [(0, (.arr 127 4 ((r0).map rRecord)))]) (Wanted.plain rfl) (g_callMA (fun k => k) (fun k => k) (c_insertionI (↑a : Int) (↑b : Int) d1 N a b fn caps hp hen (by first | omega | (simp; done) | (simp; omega)) (by first | omega | (simp; done) | (simp; omega)) (by first | omega | (simp; done) | (simp; omega)) (by first | omega | (simp; done) | (simp; omega)) (by first | omega | (simp; done) | (simp; omega)) (by first | omega | (simp; done) | (simp; omega)) r0 hr0) en137 rfl rfl ⟨⟨_, rfl, .inl ⟨rfl, rfl⟩⟩, ⟨_, rfl, .inr (.c (.d _))⟩, ⟨_, rfl, .inr (.c (.d _))⟩, ⟨_, rfl, .inr (.c (.d _))⟩,  trivial⟩ ⟨rfl,  trivial⟩ rfl rfl ⟨.inr ⟨_, _, _, rfl, by first | (simp; omega) | (simp only [List.length_map]; omega)⟩,  trivial⟩ rfl rfl rfl trivial ⟨(fun _ _ _ _ => trivial),  trivial⟩ rfl rfl rfl rfl) rfl rfl rfl rfl rfl rfl ?_
      refine AL.nil ?_
      refine then_ok ?_
      refine AC.seq ?_
      refine AC.region ?_
      refine AL.fast 2 rfl ?_
      refine AL.nil ?_
      refine then_ok ?_
      refine AC.region ?_
      refine AL.fast 2 rfl ?_
      refine AL.val (Wanted.plain rfl) (g_binI rfl rfl rfl (wrap_ok (by first | omega | (simp; done) | (simp; omega)))) rfl rfl ?_
      refine AL.fast 1 rfl ?_
      refine AL.nil ?_
      refine block_ok ?_
      refine then_ok ?_
      refine ⟨(b, b + 20, r0), ⟨by omega, by omega, by rw [hi0_0] at hp0 ⊢; exact done_next (by omega) hi0_2 hp0, hi0_3.trans hp0.m, by omega⟩, by first | omega | (simp; done) | (simp; omega), Weak.ren id (by refine ⟨?_, ?_, ?_, ?_, ?_, ?_,  trivial⟩ <;> first | rfl | (simp only [AV.map, GV.map, CV.map, AB.map', id]; done) | (congr 3; omega) | (congr 4; omega) | (simp only [List.length_append, List.length_cons, List.length_nil, List.length_set]; rfl) | (exact look_i rfl (by omega))) (⟨by first | rfl | (simp only [AV.map, GV.map, CV.map, AB.map', id]; done) | (congr 3; omega) | (congr 4; omega) | (simp only [List.length_append, List.length_cons, List.length_nil, List.length_set]; rfl), trivial⟩) rfl⟩
    ·
      have hc1' := hc1; try simp only [sumB, Bool.not_eq_true', Bool.not_eq_false', Bool.or_eq_true, Bool.or_eq_false_iff, Bool.and_eq_true, Bool.and_eq_false_imp, decide_eq_true_eq, decide_eq_false_iff_not, Bool.not_not, Bool.not_true, Bool.not_false] at hc1'
      refine AC.exit ?_
      refine then_exit ?_
      refine then_exit ?_
      refine block_hit ?_
      refine then_ok ?_
      refine AC.seq ?_
      refine AC.region ?_
      refine AL.fast 4 rfl ?_
      obtain ⟨r1, hr1⟩ : ∃ (r1 : List Record), insS a (n - (a + 1)) d1 = r1 := ⟨_, rfl⟩
      have hlr1 : r1.length = d1.length := by rw [← hr1]; exact insS_len _ _ _
      have hp1 : Part d1 r1 a n := by rw [← hr1]; exact insS_part (by omega) (by omega)
      refine AL.callM (n' := 1) (h' := [(0, (.arr 127 4 ((r1).map rRecord)))]) (Wanted.plain rfl) (g_callMA (fun k => k) (fun k => k) (c_insertionI (↑a : Int) (↑n : Int) d1 N a n fn caps hp hen (by first | omega | (simp; done) | (simp; omega)) (by first | omega | (simp; done) | (simp; omega)) (by first | omega | (simp; done) | (simp; omega)) (by first | omega | (simp; done) | (simp; omega)) (by first | omega | (simp; done) | (simp; omega)) (by first | omega | (simp; done) | (simp; omega)) r1 hr1) en137 rfl rfl ⟨⟨_, rfl, .inl ⟨rfl, rfl⟩⟩, ⟨_, rfl, .inr (.c (.d _))⟩, ⟨_, rfl, .inr (.c (.d _))⟩, ⟨_, rfl, .inr (.c (.d _))⟩,  trivial⟩ ⟨rfl,  trivial⟩ rfl rfl ⟨.inr ⟨_, _, _, rfl, by first | (simp; omega) | (simp only [List.length_map]; omega)⟩,  trivial⟩ rfl rfl rfl trivial ⟨(fun _ _ _ _ => trivial),  trivial⟩ rfl rfl rfl rfl) rfl rfl rfl rfl rfl rfl ?_
      refine AL.nil ?_
      refine then_ok ?_
      refine AC.block ?_
      refine AC.loop (β := Nat × List Record) (fun (p : Nat × List Record) => match p with | (s, d2) => ⟨[(0, (aC (.s 0 0 4 N))), (1, (aI (↑n : Int))), (2, (aC (.d (.f fn caps)))), (6, (aI (↑s : Int)))], [(0, (.arr 127 4 ((d2).map rRecord)))], 1⟩) (fun (p : Nat × List Record) => match p with | (s, d2) => 20 ≤ s ∧ Runs s d2 ∧ Same d d2 ∧ d2.length = d.length) (fun (p : Nat × List Record) => match p with | (s, d2) => n - s) (20, r1) ?_ ?_ ?_
      · exact ⟨by omega, done_end (by omega) hi0_2 (by omega) (by rw [show r1.length = n by omega]; exact hp1) (by omega), hi0_3.trans hp1.m, by omega⟩
      · exact Weak.ren id (by refine ⟨?_, ?_, ?_, ?_,  trivial⟩ <;> first | rfl | (simp only [AV.map, GV.map, CV.map, AB.map', id]; done) | (congr 3; omega) | (congr 4; omega) | (simp only [List.length_append, List.length_cons, List.length_nil, List.length_set]; rfl) | (exact look_i rfl (by omega))) (⟨by first | rfl | (simp only [AV.map, GV.map, CV.map, AB.map', id]; done) | (congr 3; omega) | (congr 4; omega) | (simp only [List.length_append, List.length_cons, List.length_nil, List.length_set]; rfl), trivial⟩) rfl
      ·
        rintro ⟨s, d2⟩ ⟨hi1_0, hi1_1, hi1_2, hi1_3⟩
        refine AC.seq ?_
        refine AC.seq ?_
        refine AC.region ?_
        refine AL.fast 2 rfl ?_
        refine AL.val (Wanted.plain rfl) (g_binI rfl rfl rfl rfl) rfl rfl ?_
        refine AL.nil ?_
        refine then_ok ?_
        refine AC.cond rfl (fun hc2 => ?_) (fun hc2 => ?_)
        ·
          have hc2' := hc2; try simp only [sumB, Bool.not_eq_true', Bool.not_eq_false', Bool.or_eq_true, Bool.or_eq_false_iff, Bool.and_eq_true, Bool.and_eq_false_imp, decide_eq_true_eq, decide_eq_false_iff_not, Bool.not_not, Bool.not_true, Bool.not_false] at hc2'
          refine AC.skip ?_
          refine then_ok ?_
          refine AC.block ?_
          refine AC.seq ?_
          refine AC.region ?_
          refine AL.fast 1 rfl ?_
          refine AL.val (Wanted.plain rfl) (g_binI rfl rfl rfl (wrap_ok (by first | omega | (simp; done) | (simp; omega)))) rfl rfl ?_
          refine AL.fast 2 rfl ?_
          refine AL.nil ?_
          refine then_ok ?_
          refine AC.seq ?_
          refine AC.block ?_
          refine AC.loop (β := Nat × Nat × List Record) (fun (p : Nat × Nat × List Record) => match p with | (a2, b2, d3) => ⟨[(0, (aC (.s 0 0 4 N))), (1, (aI (↑n : Int))), (2, (aC (.d (.f fn caps)))), (6, (aI (↑s : Int))), (7, (aI (↑a2 : Int))), (8, (aI (↑b2 : Int)))], [(0, (.arr 127 4 ((d3).map rRecord)))], 1⟩) (fun (p : Nat × Nat × List Record) => match p with | (a2, b2, d3) => b2 = a2 + 2 * s ∧ a2 ≤ n ∧ Half s a2 d3 ∧ Same d d3 ∧ d3.length = d.length) (fun (p : Nat × Nat × List Record) => match p with | (a2, b2, d3) => n + 2 * s - b2) (0, 2 * s, d2) ?_ ?_ ?_
          · exact ⟨by omega, by omega, half_start (by omega) hi1_1, hi1_2, hi1_3⟩
          · exact Weak.ren id (by refine ⟨?_, ?_, ?_, ?_, ?_, ?_,  trivial⟩ <;> first | rfl | (simp only [AV.map, GV.map, CV.map, AB.map', id]; done) | (congr 3; omega) | (congr 4; omega) | (simp only [List.length_append, List.length_cons, List.length_nil, List.length_set]; rfl) | (exact look_i rfl (by omega))) (⟨by first | rfl | (simp only [AV.map, GV.map, CV.map, AB.map', id]; done) | (congr 3; omega) | (congr 4; omega) | (simp only [List.length_append, List.length_cons, List.length_nil, List.length_set]; rfl), trivial⟩) rfl
          ·
            rintro ⟨a2, b2, d3⟩ ⟨hi2_0, hi2_1, hi2_2, hi2_3, hi2_4⟩
            refine AC.seq ?_
            refine AC.seq ?_
            refine AC.region ?_
            refine AL.fast 2 rfl ?_
            refine AL.val (Wanted.plain rfl) (g_binI rfl rfl rfl rfl) rfl rfl ?_
            refine AL.nil ?_
            refine then_ok ?_
            refine AC.cond rfl (fun hc3 => ?_) (fun hc3 => ?_)
            ·
              have hc3' := hc3; try simp only [sumB, Bool.not_eq_true', Bool.not_eq_false', Bool.or_eq_true, Bool.or_eq_false_iff, Bool.and_eq_true, Bool.and_eq_false_imp, decide_eq_true_eq, decide_eq_false_iff_not, Bool.not_not, Bool.not_true, Bool.not_false] at hc3'
              refine AC.skip ?_
              refine then_ok ?_
              refine AC.block ?_
              refine AC.seq ?_
              refine AC.region ?_
              refine AL.fast 4 rfl ?_
              refine AL.val (Wanted.plain rfl) (g_binI rfl rfl rfl (wrap_ok (by first | omega | (simp; done) | (simp; omega)))) rfl rfl ?_
              refine AL.fast 2 rfl ?_
              obtain ⟨r2, hr2⟩ : ∃ (r2 : List Record), symM (b2 - a2) a2 ((a2) + (s)) b2 d3 = r2 := ⟨_, rfl⟩
              have hlr2 : r2.length = d3.length := by rw [← hr2]; exact symM_len _ _ _ _ _
              have hp2 : Part d3 r2 a2 b2 := by rw [← hr2]; exact sym_half (by omega) hi2_2 (by omega) (by omega) (by omega)
              refine AL.callM (n' := 1) (h' := [(0, (.arr 127 4 ((r2).map rRecord)))]) (Wanted.plain rfl) (g_callMA (fun k => k) (fun k => k) (c_symI (↑a2 : Int) ((↑a2 : Int) + (↑s : Int)) (↑b2 : Int) d3 N a2 ((a2) + (s)) b2 fn caps hp hen (by first | omega | (simp; done) | (simp; omega)) (by first | omega | (simp; done) | (simp; omega)) (by first | omega | (simp; done) | (simp; omega)) (by first | omega | (simp; done) | (simp; omega)) (by first | omega | (simp; done) | (simp; omega)) (by first | omega | (simp; done) | (simp; omega)) (by first | omega | (simp; done) | (simp; omega)) (by first | omega | (simp; done) | (simp; omega)) r2 hr2) en138 rfl rfl ⟨⟨_, rfl, .inl ⟨rfl, rfl⟩⟩, ⟨_, rfl, .inr (.c (.d _))⟩, ⟨_, rfl, .inr (.c (.d _))⟩, ⟨_, rfl, .inr (.c (.d _))⟩, ⟨_, rfl, .inr (.c (.d _))⟩,  trivial⟩ ⟨rfl,  trivial⟩ rfl rfl ⟨.inr ⟨_, _, _, rfl, by first | (simp; omega) | (simp only [List.length_map]; omega)⟩,  trivial⟩ rfl rfl rfl trivial ⟨(fun _ _ _ _ => trivial),  trivial⟩ rfl rfl rfl rfl) rfl rfl rfl rfl rfl rfl ?_
              refine AL.nil ?_
              refine then_ok ?_
              refine AC.seq ?_
              refine AC.region ?_
              refine AL.fast 2 rfl ?_
              refine AL.nil ?_
              refine then_ok ?_
              refine AC.region ?_
              refine AL.fast 2 rfl ?_
              refine AL.val (Wanted.plain rfl) (g_binI rfl rfl rfl (wrap_ok (by first | omega | (simp; done) | (simp; omega)))) rfl rfl ?_
              refine AL.val (Wanted.plain rfl) (g_binI rfl rfl rfl (wrap_ok (by first | omega | (simp; done) | (simp; omega)))) rfl rfl ?_
              refine AL.fast 1 rfl ?_
              refine AL.nil ?_
              refine block_ok ?_
              refine then_ok ?_
              refine ⟨(b2, b2 + 2 * s, r2), ⟨by omega, by omega, by rw [hi2_0] at hp2 ⊢; exact half_next (by omega) hi2_2 hp2, hi2_3.trans hp2.m, by omega⟩, by first | omega | (simp; done) | (simp; omega), Weak.ren id (by refine ⟨?_, ?_, ?_, ?_, ?_, ?_,  trivial⟩ <;> first | rfl | (simp only [AV.map, GV.map, CV.map, AB.map', id]; done) | (congr 3; omega) | (congr 4; omega) | (simp only [List.length_append, List.length_cons, List.length_nil, List.length_set]; rfl) | (exact look_i rfl (by omega))) (⟨by first | rfl | (simp only [AV.map, GV.map, CV.map, AB.map', id]; done) | (congr 3; omega) | (congr 4; omega) | (simp only [List.length_append, List.length_cons, List.length_nil, List.length_set]; rfl), trivial⟩) rfl⟩
            ·
              have hc3' := hc3; try simp only [sumB, Bool.not_eq_true', Bool.not_eq_false', Bool.or_eq_true, Bool.or_eq_false_iff, Bool.and_eq_true, Bool.and_eq_false_imp, decide_eq_true_eq, decide_eq_false_iff_not, Bool.not_not, Bool.not_true, Bool.not_false] at hc3'
              refine AC.exit ?_
              refine then_exit ?_
              refine then_exit ?_
              refine block_hit ?_
              refine then_ok ?_
              refine AC.seq ?_
              refine AC.seq ?_
              refine AC.region ?_
              refine AL.fast 2 rfl ?_
              refine AL.val (Wanted.plain rfl) (g_binI rfl rfl rfl (wrap_ok (by first | omega | (simp; done) | (simp; omega)))) rfl rfl ?_
              refine AL.fast 1 rfl ?_
              refine AL.nil ?_
              refine then_ok ?_
              refine AC.seq ?_
              refine AC.region ?_
              refine AL.fast 2 rfl ?_
              refine AL.val (Wanted.plain rfl) (g_binI rfl rfl rfl rfl) rfl rfl ?_
              refine AL.nil ?_
              refine then_ok ?_
              refine AC.cond rfl (fun hc4 => ?_) (fun hc4 => ?_)
              ·
                have hc4' := hc4; try simp only [sumB, Bool.not_eq_true', Bool.not_eq_false', Bool.or_eq_true, Bool.or_eq_false_iff, Bool.and_eq_true, Bool.and_eq_false_imp, decide_eq_true_eq, decide_eq_false_iff_not, Bool.not_not, Bool.not_true, Bool.not_false] at hc4'
                refine AC.region ?_
                refine AL.fast 5 rfl ?_
                obtain ⟨r3, hr3⟩ : ∃ (r3 : List Record), symM (n - a2) a2 ((a2) + (s)) n d3 = r3 := ⟨_, rfl⟩
                have hlr3 : r3.length = d3.length := by rw [← hr3]; exact symM_len _ _ _ _ _
                have hp3 : Part d3 r3 a2 n := by rw [← hr3]; exact sym_half (by omega) hi2_2 (by omega) (by omega) (by omega)
                refine AL.callM (n' := 1) (h' := [(0, (.arr 127 4 ((r3).map rRecord)))]) (Wanted.plain rfl) (g_callMA (fun k => k) (fun k => k) (c_symI (↑a2 : Int) ((↑a2 : Int) + (↑s : Int)) (↑n : Int) d3 N a2 ((a2) + (s)) n fn caps hp hen (by first | omega | (simp; done) | (simp; omega)) (by first | omega | (simp; done) | (simp; omega)) (by first | omega | (simp; done) | (simp; omega)) (by first | omega | (simp; done) | (simp; omega)) (by first | omega | (simp; done) | (simp; omega)) (by first | omega | (simp; done) | (simp; omega)) (by first | omega | (simp; done) | (simp; omega)) (by first | omega | (simp; done) | (simp; omega)) r3 hr3) en138 rfl rfl ⟨⟨_, rfl, .inl ⟨rfl, rfl⟩⟩, ⟨_, rfl, .inr (.c (.d _))⟩, ⟨_, rfl, .inr (.c (.d _))⟩, ⟨_, rfl, .inr (.c (.d _))⟩, ⟨_, rfl, .inr (.c (.d _))⟩,  trivial⟩ ⟨rfl,  trivial⟩ rfl rfl ⟨.inr ⟨_, _, _, rfl, by first | (simp; omega) | (simp only [List.length_map]; omega)⟩,  trivial⟩ rfl rfl rfl trivial ⟨(fun _ _ _ _ => trivial),  trivial⟩ rfl rfl rfl rfl) rfl rfl rfl rfl rfl rfl ?_
                refine AL.nil ?_
                refine then_ok ?_
                refine AC.region ?_
                refine AL.fast 1 rfl ?_
                refine AL.val (Wanted.plain rfl) (g_binI rfl rfl rfl (wrap_ok (by first | omega | (simp; done) | (simp; omega)))) rfl rfl ?_
                refine AL.fast 1 rfl ?_
                refine AL.nil ?_
                refine block_ok ?_
                refine then_ok ?_
                refine ⟨(s * 2, r3), ⟨by omega, half_end (by omega) hi2_2 (by omega) (by rw [show r3.length = n by omega]; exact hp3) (by omega), hi2_3.trans hp3.m, by omega⟩, by first | omega | (simp; done) | (simp; omega), Weak.ren id (by refine ⟨?_, ?_, ?_, ?_,  trivial⟩ <;> first | rfl | (simp only [AV.map, GV.map, CV.map, AB.map', id]; done) | (congr 3; omega) | (congr 4; omega) | (simp only [List.length_append, List.length_cons, List.length_nil, List.length_set]; rfl) | (exact look_i rfl (by omega))) (⟨by first | rfl | (simp only [AV.map, GV.map, CV.map, AB.map', id]; done) | (congr 3; omega) | (congr 4; omega) | (simp only [List.length_append, List.length_cons, List.length_nil, List.length_set]; rfl), trivial⟩) rfl⟩
              ·
                have hc4' := hc4; try simp only [sumB, Bool.not_eq_true', Bool.not_eq_false', Bool.or_eq_true, Bool.or_eq_false_iff, Bool.and_eq_true, Bool.and_eq_false_imp, decide_eq_true_eq, decide_eq_false_iff_not, Bool.not_not, Bool.not_true, Bool.not_false] at hc4'
                refine AC.skip ?_
                refine then_ok ?_
                refine AC.region ?_
                refine AL.fast 1 rfl ?_
                refine AL.val (Wanted.plain rfl) (g_binI rfl rfl rfl (wrap_ok (by first | omega | (simp; done) | (simp; omega)))) rfl rfl ?_
                refine AL.fast 1 rfl ?_
                refine AL.nil ?_
                refine block_ok ?_
                refine then_ok ?_
                refine ⟨(s * 2, d3), ⟨by omega, half_end' (by omega) hi2_2 (by omega), hi2_3, by omega⟩, by first | omega | (simp; done) | (simp; omega), Weak.ren id (by refine ⟨?_, ?_, ?_, ?_,  trivial⟩ <;> first | rfl | (simp only [AV.map, GV.map, CV.map, AB.map', id]; done) | (congr 3; omega) | (congr 4; omega) | (simp only [List.length_append, List.length_cons, List.length_nil, List.length_set]; rfl) | (exact look_i rfl (by omega))) (⟨by first | rfl | (simp only [AV.map, GV.map, CV.map, AB.map', id]; done) | (congr 3; omega) | (congr 4; omega) | (simp only [List.length_append, List.length_cons, List.length_nil, List.length_set]; rfl), trivial⟩) rfl⟩
        ·
          have hc2' := hc2; try simp only [sumB, Bool.not_eq_true', Bool.not_eq_false', Bool.or_eq_true, Bool.or_eq_false_iff, Bool.and_eq_true, Bool.and_eq_false_imp, decide_eq_true_eq, decide_eq_false_iff_not, Bool.not_not, Bool.not_true, Bool.not_false] at hc2'
          refine AC.exit ?_
          refine then_exit ?_
          refine then_exit ?_
          refine block_hit ?_
          have hX : sortR d = d2 := by
            exact sortR_uniq (runs_all hi1_1 (by omega)) hi1_2
          rw [hX] at hr; clear hX
          subst hr
          refine retQ_mk (av' := outOf []) (nb' := [(0, (.arr 127 4 ((d2).map rRecord)))]) (retQ_end ⟨[], [(0, (.arr 127 4 ((d2).map rRecord)))], 1⟩ [] [] (Weak.ren (fun k => if k = 0 then 0 else k) (trivial) (⟨by first | rfl | (simp only [AV.map, GV.map, CV.map, AB.map', id]; done) | (congr 3; omega) | (congr 4; omega) | (simp only [List.length_append, List.length_cons, List.length_nil, List.length_set]; rfl), trivial⟩) rfl) rfl trivial ⟨by first | rfl | (simp only [AV.map, GV.map, CV.map, AB.map', id]; done) | (congr 3; omega) | (congr 4; omega) | (simp only [List.length_append, List.length_cons, List.length_nil, List.length_set]; rfl), trivial⟩) ?_ ?_
          · first | rfl | (simp [outOf, aC]; done) | (simp [outOf, aC]; omega)
          · first | rfl | (simp; done) | (simp; omega)
theorem c_stableI (ni : Int) (d : List Record) (N n : Nat) (fn : FuncId) (caps : List (List D)) (hp : ∀ x y : Record, Fn Try.prog fn ([.g [cI x.shop, cI x.auth, cI x.kind, cI x.sum], .g [cI y.shop, cI y.auth, cI y.kind, cI y.sum]] ++ caps.map fun r => GV.c (.q r 0)) (aI (ordR x y)) []) (hen : Enters Try.prog fn) (en_ : ni = (↑n : Int)) (hl : d.length * 32 ≤ 140737488355328) (hN : N = d.length) (h0_ : n = d.length) (h1_ : 0 < d.length) (r : List Record) (hr : sortR d = r) : FnE Try.prog 131 [(.c (.s 0 0 4 N)), (.c (cI ni)), (.c (.d (.f fn caps)))] [(0, (.arr 127 4 ((d).map rRecord)))] [0] (.t []) [(0, (.arr 127 4 ((r).map rRecord)))] := by
  subst en_
  exact c_stable d N n fn caps hp hen hl hN h0_ h1_ r hr
end Go.Proofs.Ytgmcdlfmifijlaa.Dev
namespace Go.Proofs.Ytgmcdlfmifijlaa.Dev
open Go.RowKit

set_option maxRecDepth 100000 in
set_option maxHeartbeats 1000000 in
theorem c_insertion0 (d : List Record) (a b : Int) (fn : FuncId) (caps : List (List D)) (hp : ∀ x y : Record, Fn Try.prog fn ([.g [cI x.shop, cI x.auth, cI x.kind, cI x.sum], .g [cI y.shop, cI y.auth, cI y.kind, cI y.sum]] ++ caps.map fun r => GV.c (.q r 0)) (aI (ordR x y)) []) (hen : Enters Try.prog fn) (h1 : b ≤ a + 1) (h2 : 0 ≤ a ∧ a ≤ 9223372036854775806) : Fn Try.prog 137 [(.c (cR 4 ((d).map rRecord))), (.c (cI a)), (.c (cI b)), (.c (.d (.f fn caps)))] (.t []) [] := by
  refine Fn.mk' 53 [(0, (aC (cR 4 ((d).map rRecord)))), (1, (aI a)), (2, (aI b)), (3, (aC (.d (.f fn caps))))] Try.func137 rfl rfl rfl rfl ?_
  intro W0 T0
  refine AC.len1 0 rfl (fun hlen0 => ?_)
  refine AC.seq ?_
  refine AC.region ?_
  refine AL.fast 1 rfl ?_
  refine AL.val (Wanted.plain rfl) (g_binI rfl rfl rfl (wrap_ok (by first | omega | (simp; done) | (simp; omega)))) rfl rfl ?_
  refine AL.fast 1 rfl ?_
  refine AL.nil ?_
  refine then_ok ?_
  refine AC.block ?_
  refine AC.loop (β := Nat) (fun (z : Nat) => ⟨[(0, (aC (cR 4 ((d).map rRecord)))), (1, (aI a)), (2, (aI b)), (3, (aC (.d (.f fn caps)))), (8, (aI (a + 1)))], [], 0⟩) (fun (z : Nat) => True) (fun (z : Nat) => 0) 0 ?_ ?_ ?_
  · trivial
  · exact Weak.ren id (by refine ⟨?_, ?_, ?_, ?_, ?_,  trivial⟩ <;> first | rfl | (simp only [AV.map, GV.map, CV.map, AB.map', id]; done) | (congr 3; omega) | (congr 4; omega) | (simp only [List.length_append, List.length_cons, List.length_nil, List.length_set]; rfl)) (trivial) rfl
  ·
    rintro z _
    refine AC.seq ?_
    refine AC.seq ?_
    refine AC.region ?_
    refine AL.fast 2 rfl ?_
    refine AL.val (Wanted.plain rfl) (g_binI rfl rfl rfl rfl) rfl rfl ?_
    refine AL.nil ?_
    refine then_ok ?_
    refine AC.cond rfl (fun hc1 => ?_) (fun hc1 => ?_)
    ·
      have hc1' := hc1; try simp only [sumB, Bool.not_eq_true', Bool.not_eq_false', Bool.or_eq_true, Bool.or_eq_false_iff, Bool.and_eq_true, Bool.and_eq_false_imp, decide_eq_true_eq, decide_eq_false_iff_not, Bool.not_not, Bool.not_true, Bool.not_false] at hc1'
      exfalso; omega
    ·
      have hc1' := hc1; try simp only [sumB, Bool.not_eq_true', Bool.not_eq_false', Bool.or_eq_true, Bool.or_eq_false_iff, Bool.and_eq_true, Bool.and_eq_false_imp, decide_eq_true_eq, decide_eq_false_iff_not, Bool.not_not, Bool.not_true, Bool.not_false] at hc1'
      refine AC.exit ?_
      refine then_exit ?_
      refine then_exit ?_
      refine block_hit ?_
      refine retQ_mk (av' := outOf []) (nb' := []) (retQ_end ⟨[], [], 0⟩ [] [] (Weak.ren id (trivial) (trivial) rfl) rfl trivial trivial) ?_ ?_
      · first | rfl | (simp [outOf, aC]; done) | (simp [outOf, aC]; omega)
      · rfl
set_option maxRecDepth 100000 in
set_option maxHeartbeats 1000000 in
theorem c_stable0 (d : List Record) (n : Int) (fn : FuncId) (caps : List (List D)) (hp : ∀ x y : Record, Fn Try.prog fn ([.g [cI x.shop, cI x.auth, cI x.kind, cI x.sum], .g [cI y.shop, cI y.auth, cI y.kind, cI y.sum]] ++ caps.map fun r => GV.c (.q r 0)) (aI (ordR x y)) []) (hen : Enters Try.prog fn) (h : n = 0) : Fn Try.prog 131 [(.c (cR 4 ((d).map rRecord))), (.c (cI n)), (.c (.d (.f fn caps)))] (.t []) [] := by
  refine Fn.mk' 63 [(0, (aC (cR 4 ((d).map rRecord)))), (1, (aI n)), (2, (aC (.d (.f fn caps))))] Try.func131 rfl rfl rfl rfl ?_
  intro W0 T0
  refine AC.len1 0 rfl (fun hlen0 => ?_)
  refine AC.seq ?_
  refine AC.region ?_
  refine AL.fast 1 rfl ?_
  refine AL.nil ?_
  refine then_ok ?_
  refine AC.seq ?_
  refine AC.region ?_
  refine AL.fast 3 rfl ?_
  refine AL.nil ?_
  refine then_ok ?_
  refine AC.seq ?_
  refine AC.block ?_
  refine AC.loop (β := Nat) (fun (z : Nat) => ⟨[(0, (aC (cR 4 ((d).map rRecord)))), (1, (aI n)), (2, (aC (.d (.f fn caps)))), (6, (aI 20)), (7, (aI 0)), (8, (aI 20))], [], 0⟩) (fun (z : Nat) => True) (fun (z : Nat) => 0) 0 ?_ ?_ ?_
  · trivial
  · exact Weak.ren id (by refine ⟨?_, ?_, ?_, ?_, ?_, ?_,  trivial⟩ <;> first | rfl | (simp only [AV.map, GV.map, CV.map, AB.map', id]; done) | (congr 3; omega) | (congr 4; omega) | (simp only [List.length_append, List.length_cons, List.length_nil, List.length_set]; rfl)) (trivial) rfl
  ·
    rintro z _
    refine AC.seq ?_
    refine AC.seq ?_
    refine AC.region ?_
    refine AL.fast 2 rfl ?_
    refine AL.val (Wanted.plain rfl) (g_binI rfl rfl rfl rfl) rfl rfl ?_
    refine AL.nil ?_
    refine then_ok ?_
    refine AC.cond rfl (fun hc1 => ?_) (fun hc1 => ?_)
    ·
      have hc1' := hc1; try simp only [sumB, Bool.not_eq_true', Bool.not_eq_false', Bool.or_eq_true, Bool.or_eq_false_iff, Bool.and_eq_true, Bool.and_eq_false_imp, decide_eq_true_eq, decide_eq_false_iff_not, Bool.not_not, Bool.not_true, Bool.not_false] at hc1'
      exfalso; omega
    ·
      have hc1' := hc1; try simp only [sumB, Bool.not_eq_true', Bool.not_eq_false', Bool.or_eq_true, Bool.or_eq_false_iff, Bool.and_eq_true, Bool.and_eq_false_imp, decide_eq_true_eq, decide_eq_false_iff_not, Bool.not_not, Bool.not_true, Bool.not_false] at hc1'
      refine AC.exit ?_
      refine then_exit ?_
      refine then_exit ?_
      refine block_hit ?_
      refine then_ok ?_
      refine AC.seq ?_
      refine AC.region ?_
      refine AL.fast 4 rfl ?_
      refine AL.call (n' := 0) (h' := []) (Wanted.plain rfl) (g_call 0 (c_insertion0 d 0 n fn caps hp hen (by first | omega | (simp; done) | (simp; omega)) (by first | omega | (simp; done) | (simp; omega)) ) en137 rfl rfl ⟨⟨_, rfl, .c (.d _)⟩, ⟨_, rfl, .c (.d _)⟩, ⟨_, rfl, .c (.d _)⟩, ⟨_, rfl, .c (.d _)⟩,  trivial⟩ trivial trivial rfl rfl rfl rfl) rfl rfl rfl rfl rfl ?_
      refine AL.nil ?_
      refine then_ok ?_
      refine AC.block ?_
      refine AC.loop (β := Nat) (fun (z : Nat) => ⟨[(0, (aC (cR 4 ((d).map rRecord)))), (1, (aI n)), (2, (aC (.d (.f fn caps)))), (6, (aI 20))], [], 0⟩) (fun (z : Nat) => True) (fun (z : Nat) => 0) 0 ?_ ?_ ?_
      · trivial
      · exact Weak.ren id (by refine ⟨?_, ?_, ?_, ?_,  trivial⟩ <;> first | rfl | (simp only [AV.map, GV.map, CV.map, AB.map', id]; done) | (congr 3; omega) | (congr 4; omega) | (simp only [List.length_append, List.length_cons, List.length_nil, List.length_set]; rfl)) (trivial) rfl
      ·
        rintro z _
        refine AC.seq ?_
        refine AC.seq ?_
        refine AC.region ?_
        refine AL.fast 2 rfl ?_
        refine AL.val (Wanted.plain rfl) (g_binI rfl rfl rfl rfl) rfl rfl ?_
        refine AL.nil ?_
        refine then_ok ?_
        refine AC.cond rfl (fun hc2 => ?_) (fun hc2 => ?_)
        ·
          have hc2' := hc2; try simp only [sumB, Bool.not_eq_true', Bool.not_eq_false', Bool.or_eq_true, Bool.or_eq_false_iff, Bool.and_eq_true, Bool.and_eq_false_imp, decide_eq_true_eq, decide_eq_false_iff_not, Bool.not_not, Bool.not_true, Bool.not_false] at hc2'
          exfalso; omega
        ·
          have hc2' := hc2; try simp only [sumB, Bool.not_eq_true', Bool.not_eq_false', Bool.or_eq_true, Bool.or_eq_false_iff, Bool.and_eq_true, Bool.and_eq_false_imp, decide_eq_true_eq, decide_eq_false_iff_not, Bool.not_not, Bool.not_true, Bool.not_false] at hc2'
          refine AC.exit ?_
          refine then_exit ?_
          refine then_exit ?_
          refine block_hit ?_
          refine retQ_mk (av' := outOf []) (nb' := []) (retQ_end ⟨[], [], 0⟩ [] [] (Weak.ren id (trivial) (trivial) rfl) rfl trivial trivial) ?_ ?_
          · first | rfl | (simp [outOf, aC]; done) | (simp [outOf, aC]; omega)
          · rfl
set_option maxRecDepth 100000 in
set_option maxHeartbeats 1000000 in
theorem c_SortStable0 (d : List Record) (fn : FuncId) (caps : List (List D)) (hp : ∀ x y : Record, Fn Try.prog fn ([.g [cI x.shop, cI x.auth, cI x.kind, cI x.sum], .g [cI y.shop, cI y.auth, cI y.kind, cI y.sum]] ++ caps.map fun r => GV.c (.q r 0)) (aI (ordR x y)) []) (hen : Enters Try.prog fn) (h : d.length = 0) : Fn Try.prog 119 [(.c (cR 4 ((d).map rRecord))), (.c (.d (.f fn caps)))] (.t []) [] := by
  refine Fn.mk' 9 [(0, (aC (cR 4 ((d).map rRecord)))), (1, (aC (.d (.f fn caps))))] Try.func119 rfl rfl rfl rfl ?_
  intro W0 T0
  refine AC.len1 0 rfl (fun hlen0 => ?_)
  refine AC.region ?_
  refine AL.fast 2 rfl ?_
  refine AL.val (Wanted.plain rfl) (g_lenM rfl rfl rfl rfl rfl Try.underlying114) rfl rfl ?_
  refine AL.fast 1 rfl ?_
  refine AL.call (n' := 0) (h' := []) (Wanted.plain rfl) (g_call 0 (c_stable0 d (↑d.length : Int) fn caps hp hen (by first | omega | (simp; done) | (simp; omega)) ) en131 rfl rfl ⟨⟨_, rfl, .c (.d _)⟩, ⟨_, rfl, .c (.d _)⟩, ⟨_, rfl, .c (.d _)⟩,  trivial⟩ trivial trivial rfl rfl rfl rfl) rfl rfl rfl rfl rfl ?_
  refine AL.nil ?_
  refine retQ_mk (av' := outOf []) (nb' := []) (retQ_end ⟨[], [], 0⟩ [] [] (Weak.ren id (trivial) (trivial) rfl) rfl trivial trivial) ?_ ?_
  · first | rfl | (simp [outOf, aC]; done) | (simp [outOf, aC]; omega)
  · rfl
set_option maxRecDepth 100000 in
set_option maxHeartbeats 1000000 in
theorem c_SortStable (d : List Record) (N : Nat) (fn : FuncId) (caps : List (List D)) (hp : ∀ x y : Record, Fn Try.prog fn ([.g [cI x.shop, cI x.auth, cI x.kind, cI x.sum], .g [cI y.shop, cI y.auth, cI y.kind, cI y.sum]] ++ caps.map fun r => GV.c (.q r 0)) (aI (ordR x y)) []) (hen : Enters Try.prog fn) (hl : d.length * 32 ≤ 140737488355328) (hN : N = d.length) (h0_ : 0 < d.length) (r : List Record) (hr : sortR d = r) : FnE Try.prog 119 [(.c (.s 0 0 4 N)), (.c (.d (.f fn caps)))] [(0, (.arr 127 4 ((d).map rRecord)))] [0] (.t []) [(0, (.arr 127 4 ((r).map rRecord)))] := by
  refine FnE.mk 9 [(0, (aC (.s 0 0 4 N))), (1, (aC (.d (.f fn caps))))] 1 Try.func119 rfl rfl rfl rfl rfl rfl rfl rfl rfl ?_
  intro W0 F0 T0 pg
  refine AC.lenS 0 rfl (fun hlen0 => ?_)
  refine AC.region ?_
  refine AL.fast 2 rfl ?_
  refine AL.val (Wanted.plain rfl) (g_lenS rfl rfl rfl rfl rfl Try.underlying114) rfl rfl ?_
  refine AL.fast 1 rfl ?_
  obtain ⟨r0, hr0⟩ : ∃ (r0 : List Record), sortR d = r0 := ⟨_, rfl⟩
  refine AL.callM (n' := 1) (h' := [(0, (.arr 127 4 ((r0).map rRecord)))]) (Wanted.plain rfl) (g_callMA (fun k => k) (fun k => k) (c_stableI (↑N : Int) d N N fn caps hp hen (by first | omega | (simp; done) | (simp; omega)) (by first | omega | (simp; done) | (simp; omega)) (by first | omega | (simp; done) | (simp; omega)) (by first | omega | (simp; done) | (simp; omega)) (by first | omega | (simp; done) | (simp; omega)) r0 hr0) en131 rfl rfl ⟨⟨_, rfl, .inl ⟨rfl, rfl⟩⟩, ⟨_, rfl, .inr (.c (.d _))⟩, ⟨_, rfl, .inr (.c (.d _))⟩,  trivial⟩ ⟨rfl,  trivial⟩ rfl rfl ⟨.inr ⟨_, _, _, rfl, by first | (simp; omega) | (simp only [List.length_map]; omega)⟩,  trivial⟩ rfl rfl rfl trivial ⟨(fun _ _ _ _ => trivial),  trivial⟩ rfl rfl rfl rfl) rfl rfl rfl rfl rfl rfl ?_
  refine AL.nil ?_
  have hX : sortR d = r0 := by
    exact hr0
  rw [hX] at hr; clear hX
  subst hr
  refine retQ_mk (av' := outOf []) (nb' := [(0, (.arr 127 4 ((r0).map rRecord)))]) (retQ_end ⟨[], [(0, (.arr 127 4 ((r0).map rRecord)))], 1⟩ [] [] (Weak.ren (fun k => if k = 0 then 0 else k) (trivial) (⟨by first | rfl | (simp only [AV.map, GV.map, CV.map, AB.map', id]; done) | (congr 3; omega) | (congr 4; omega) | (simp only [List.length_append, List.length_cons, List.length_nil, List.length_set]; rfl), trivial⟩) rfl) rfl trivial ⟨by first | rfl | (simp only [AV.map, GV.map, CV.map, AB.map', id]; done) | (congr 3; omega) | (congr 4; omega) | (simp only [List.length_append, List.length_cons, List.length_nil, List.length_set]; rfl), trivial⟩) ?_ ?_
  · first | rfl | (simp [outOf, aC]; done) | (simp [outOf, aC]; omega)
  · first | rfl | (simp; done) | (simp; omega)
set_option maxRecDepth 100000 in
set_option maxHeartbeats 1000000 in
theorem c_Sorted (l : List Record) (hl : l.length * 32 ≤ 140737488355328) (r : List Record) (hr : sortR l = r) : Fn Try.prog 94 [(.c (cR 4 ((l).map rRecord)))] (.v (.c (.s 0 0 4 r.length))) [(0, (.arr 127 4 ((r).map rRecord)))] := by
  refine Fn.mk' 9 [(0, (aC (cR 4 ((l).map rRecord))))] Try.func94 rfl rfl rfl rfl ?_
  intro W0 T0
  refine AC.len1 0 rfl (fun hlen0 => ?_)
  refine AC.seq ?_
  refine AC.region ?_
  refine AL.fast 1 rfl ?_
  refine AL.nil ?_
  refine then_ok ?_
  refine AC.seq ?_
  refine AC.region ?_
  refine AL.fast 1 rfl ?_
  refine AL.call (n' := 1) (h' := [(0, (.arr 127 4 ((l).map rRecord)))]) (Wanted.plain rfl) (g_call 0 (c_Clone_Record l (by first | omega | (simp; done) | (simp; omega)) ) en118 rfl rfl ⟨⟨_, rfl, .c (.d _)⟩,  trivial⟩ trivial ⟨(fun _ _ _ _ => trivial),  trivial⟩ rfl rfl rfl rfl) rfl rfl rfl rfl rfl ?_
  refine AL.fast 1 rfl ?_
  refine AL.nil ?_
  refine then_ok ?_
  rcases (show l.length = 0 ∨ 0 < l.length from by omega) with hs1 | hs1
  ·
    refine AC.seq ?_
    refine AC.region ?_
    refine AL.fast 1 rfl ?_
    refine AL.call (n' := 1) (h' := [(0, (.arr 127 4 ((l).map rRecord)))]) (Wanted.plain rfl) (g_callE 1 [0] (c_SortStable0 l 120 ([]) (fun x y => c_order x y) en120 (by first | omega | (simp; done) | (simp; omega)) ) en119 rfl rfl ⟨⟨_, rfl, .c (.s rfl (by decide) (by first | omega | (simp; done) | (simp; omega)))⟩, ⟨_, rfl, .c (.fn trivial)⟩,  trivial⟩ trivial trivial rfl rfl rfl rfl) rfl rfl rfl rfl rfl ?_
    refine AL.nil ?_
    refine then_ok ?_
    refine AC.seq ?_
    refine AC.region ?_
    refine AL.fast 2 rfl ?_
    refine AL.nil ?_
    refine then_ok ?_
    refine AC.ret ?_
    have hX : sortR l = l := by
      exact sortR_nil (by assumption)
    rw [hX] at hr; clear hX
    subst hr
    refine retQ_mk (av' := outOf [(.c (.s 0 0 4 l.length))]) (nb' := [(0, (.arr 127 4 ((l).map rRecord)))]) (retQ_ret ⟨[(2, (aC (.s 0 0 4 l.length)))], [(0, (.arr 127 4 ((l).map rRecord)))], 1⟩ [.tmp 2] [(.c (.s 0 0 4 l.length))] (Weak.ren (fun k => if k = 0 then 0 else k) (⟨by first | rfl | (simp only [AV.map, GV.map, CV.map, AB.map', id]; done) | (congr 3; omega) | (congr 4; omega) | (simp only [List.length_append, List.length_cons, List.length_nil, List.length_set]; rfl), trivial⟩) (⟨by first | rfl | (simp only [AV.map, GV.map, CV.map, AB.map', id]; done) | (congr 3; omega) | (congr 4; omega) | (simp only [List.length_append, List.length_cons, List.length_nil, List.length_set]; rfl), trivial⟩) rfl) rfl ⟨.tmp rfl, trivial⟩ ⟨by first | rfl | (simp only [AV.map, GV.map, CV.map, AB.map', id]; done) | (congr 3; omega) | (congr 4; omega) | (simp only [List.length_append, List.length_cons, List.length_nil, List.length_set]; rfl), trivial⟩) ?_ ?_
    · first | rfl | (simp [outOf, aC]; done) | (simp [outOf, aC]; omega)
    · first | rfl | (simp; done) | (simp; omega)
  ·
    refine AC.seq ?_
    refine AC.region ?_
    refine AL.fast 1 rfl ?_
    obtain ⟨r0, hr0⟩ : ∃ (r0 : List Record), sortR l = r0 := ⟨_, rfl⟩
    have hlr0 : r0.length = l.length := by rw [← hr0]; exact sortR_len _
    refine AL.callM (n' := 1) (h' := [(0, (.arr 127 4 ((r0).map rRecord)))]) (Wanted.plain rfl) (g_callMA (fun k => k) (fun k => k) (c_SortStable l l.length 120 ([]) (fun x y => c_order x y) en120 (by first | omega | (simp; done) | (simp; omega)) (by first | omega | (simp; done) | (simp; omega)) (by first | omega | (simp; done) | (simp; omega)) r0 hr0) en119 rfl rfl ⟨⟨_, rfl, .inl ⟨rfl, rfl⟩⟩, ⟨_, rfl, .inr (.c (.fn trivial))⟩,  trivial⟩ ⟨rfl,  trivial⟩ rfl rfl ⟨.inr ⟨_, _, _, rfl, by first | (simp; omega) | (simp only [List.length_map]; omega)⟩,  trivial⟩ rfl rfl rfl trivial ⟨(fun _ _ _ _ => trivial),  trivial⟩ rfl rfl rfl rfl) rfl rfl rfl rfl rfl rfl ?_
    refine AL.nil ?_
    refine then_ok ?_
    refine AC.seq ?_
    refine AC.region ?_
    refine AL.fast 2 rfl ?_
    refine AL.nil ?_
    refine then_ok ?_
    refine AC.ret ?_
    have hX : sortR l = r0 := by
      exact hr0
    rw [hX] at hr; clear hX
    subst hr
    refine retQ_mk (av' := outOf [(.c (.s 0 0 4 l.length))]) (nb' := [(0, (.arr 127 4 ((r0).map rRecord)))]) (retQ_ret ⟨[(2, (aC (.s 0 0 4 l.length)))], [(0, (.arr 127 4 ((r0).map rRecord)))], 1⟩ [.tmp 2] [(.c (.s 0 0 4 l.length))] (Weak.ren (fun k => if k = 0 then 0 else k) (⟨by first | rfl | (simp only [AV.map, GV.map, CV.map, AB.map', id]; done) | (congr 3; omega) | (congr 4; omega) | (simp only [List.length_append, List.length_cons, List.length_nil, List.length_set]; rfl), trivial⟩) (⟨by first | rfl | (simp only [AV.map, GV.map, CV.map, AB.map', id]; done) | (congr 3; omega) | (congr 4; omega) | (simp only [List.length_append, List.length_cons, List.length_nil, List.length_set]; rfl), trivial⟩) rfl) rfl ⟨.tmp rfl, trivial⟩ ⟨by first | rfl | (simp only [AV.map, GV.map, CV.map, AB.map', id]; done) | (congr 3; omega) | (congr 4; omega) | (simp only [List.length_append, List.length_cons, List.length_nil, List.length_set]; rfl), trivial⟩) ?_ ?_
    · first | rfl | (simp [outOf, aC]; done) | (simp [outOf, aC]; omega)
    · first | rfl | (simp; done) | (simp; omega)
end Go.Proofs.Ytgmcdlfmifijlaa.Dev
