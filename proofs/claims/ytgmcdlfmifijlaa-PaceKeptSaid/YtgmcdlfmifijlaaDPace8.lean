/- PaceKept. -/
import Derived.Test.YtgmcdlfmifijlaaDPace7
set_option linter.unusedVariables false
set_option linter.unusedSimpArgs false
namespace Go.Proofs.Ytgmcdlfmifijlaa.Dev
open Go.RowKit

set_option maxRecDepth 100000 in
set_option maxHeartbeats 1000000 in
theorem c_PaceKept (pc : Pace) (l : List Use) : Fn Try.prog 7 [(.g [(cI pc.ticks), (cI pc.count), (cI pc.sum)]), (.c (cR 2 ((l).map rUse)))] (aB true) [] := by
  refine Fn.mk' 93 [(0, (aG [(cI pc.ticks), (cI pc.count), (cI pc.sum)])), (1, (aC (cR 2 ((l).map rUse))))] Try.func7 rfl rfl rfl rfl ?_
  intro W0 T0
  refine AC.len1 1 rfl (fun hlen1 => ?_)
  have hrp := @rightP pc
  refine AC.seq ?_
  refine AC.region ?_
  refine AL.new (n' := 1) (Wanted.plain rfl) (g_boxS 0 rfl rfl) rfl rfl rfl ?_
  refine AL.fast 1 rfl ?_
  refine AL.nil ?_
  refine then_ok ?_
  refine AC.seq ?_
  refine AC.seq ?_
  refine AC.region ?_
  refine AL.call (n' := 1) (h' := [(0, (.box 41 [(cI pc.ticks), (cI pc.count), (cI pc.sum)]))]) (Wanted.plain rfl) (g_call 1 (c_pace_alive   ) en47 rfl rfl trivial trivial trivial rfl rfl rfl rfl) rfl rfl rfl rfl rfl ?_
  refine AL.val (Wanted.plain rfl) (g_notB rfl rfl) rfl rfl ?_
  refine AL.nil ?_
  refine then_ok ?_
  refine AC.cond rfl (fun hno => by cases hno) (fun _ => ?_)
  refine AC.skip ?_
  refine then_ok ?_
  refine AC.seq ?_
  obtain ⟨e0, hr0⟩ : ∃ (e0 : Int), wrongP pc = e0 := ⟨_, rfl⟩
  refine AC.cutB 25 ((decide (¬ e0 = 0)) || (decide ((↑l.length : Int) > 100))) ?_ ?_
  ·
    refine AC.region ?_
    refine AL.val (Wanted.plain rfl) (g_loadBs rfl rfl rfl Try.underlying41 rfl sz41 rfl rfl) rfl rfl ?_
    refine AL.call (n' := 1) (h' := [(0, (.box 41 [(cI pc.ticks), (cI pc.count), (cI pc.sum)]))]) (Wanted.plain rfl) (g_call 1 (c_pace_WrongN pc  e0 hr0) en38 rfl rfl ⟨⟨_, rfl, .g ⟨.d _, .d _, .d _,  trivial⟩⟩,  trivial⟩ trivial trivial rfl rfl rfl rfl) rfl rfl rfl rfl rfl ?_
    refine AL.val (Wanted.plain rfl) (g_binI rfl rfl rfl rfl) rfl rfl ?_
    refine AL.fast 1 rfl ?_
    refine AL.dec (t := 21) rfl (fun hb2 => ?_) (fun hb2 => ?_)
    ·
      have hb2' := hb2; try simp only [sumB, Bool.not_eq_true', Bool.not_eq_false', Bool.or_eq_true, Bool.or_eq_false_iff, Bool.and_eq_true, Bool.and_eq_false_imp, decide_eq_true_eq, decide_eq_false_iff_not, Bool.not_not, Bool.not_true, Bool.not_false] at hb2'
      refine AL.fast 4 rfl ?_
      refine AL.nil ?_
      refine then_ok ?_
      exact Weak.popB 9 rfl rfl (by first | (simp [hb2]; done) | (simp_all; done) | (exfalso; simp_all; done) | (simp_all; omega)) rfl
    ·
      have hb2' := hb2; try simp only [sumB, Bool.not_eq_true', Bool.not_eq_false', Bool.or_eq_true, Bool.or_eq_false_iff, Bool.and_eq_true, Bool.and_eq_false_imp, decide_eq_true_eq, decide_eq_false_iff_not, Bool.not_not, Bool.not_true, Bool.not_false] at hb2'
      refine AL.fast 1 rfl ?_
      refine AL.val (Wanted.yes rfl rfl rfl) (g_lenM rfl rfl rfl rfl rfl Try.underlying42) rfl rfl ?_
      refine AL.val (Wanted.yes rfl rfl rfl) (g_binI rfl rfl rfl rfl) rfl rfl ?_
      refine AL.fast 1 rfl ?_
      refine AL.nil ?_
      refine then_ok ?_
      exact Weak.popB 9 rfl rfl (by first | (simp [hb2]; done) | (simp_all; done) | (exfalso; simp_all; done) | (simp_all; omega)) rfl
  ·
    refine AC.cond rfl (fun hc3 => ?_) (fun hc3 => ?_)
    ·
      have hc3' := hc3; try simp only [sumB, Bool.not_eq_true', Bool.not_eq_false', Bool.or_eq_true, Bool.or_eq_false_iff, Bool.and_eq_true, Bool.and_eq_false_imp, decide_eq_true_eq, decide_eq_false_iff_not, Bool.not_not, Bool.not_true, Bool.not_false] at hc3'
      refine AC.seq ?_
      refine AC.region ?_
      refine AL.fast 1 rfl ?_
      refine AL.nil ?_
      refine then_ok ?_
      refine AC.ret ?_
      refine then_ret ?_
      refine retQ_mk (av' := outOf [(.c (cB true))]) (nb' := []) (retQ_ret ⟨[(4, (aB true))], [], 0⟩ [.tmp 4] [(.c (cB true))] (Weak.ren id (⟨by first | rfl | (simp only [AV.map, GV.map, CV.map, AB.map', id]; done) | (congr 3; omega) | (congr 4; omega) | (simp only [List.length_append, List.length_cons, List.length_nil, List.length_set]; rfl),  trivial⟩) (trivial) rfl) rfl ⟨.tmp rfl, trivial⟩ trivial) ?_ ?_
      · rfl
      · rfl
    ·
      have hc3' := hc3; try simp only [sumB, Bool.not_eq_true', Bool.not_eq_false', Bool.or_eq_true, Bool.or_eq_false_iff, Bool.and_eq_true, Bool.and_eq_false_imp, decide_eq_true_eq, decide_eq_false_iff_not, Bool.not_not, Bool.not_true, Bool.not_false] at hc3'
      refine AC.skip ?_
      refine then_ok ?_
      refine AC.seq ?_
      refine AC.region ?_
      refine AL.fast 2 rfl ?_
      refine AL.nil ?_
      refine then_ok ?_
      refine AC.seq ?_
      refine AC.seq ?_
      refine AC.region ?_
      refine AL.fast 1 rfl ?_
      refine AL.val (Wanted.plain rfl) (g_lenM rfl rfl rfl rfl rfl Try.underlying42) rfl rfl ?_
      refine AL.fast 1 rfl ?_
      refine AL.nil ?_
      refine then_ok ?_
      refine AC.block ?_
      refine AC.weak (Weak.nil 5 44 2 (by decide) rfl) ?_
      refine AC.weak (Weak.nil 6 44 2 (by decide) rfl) ?_
      refine AC.loop (β := Nat × List Use × List Use) (fun (p : Nat × List Use × List Use) => match p with | (q, kp, al) => ⟨[(2, (aC (.p 0 0 0 0))), (5, (aC (.s 1 0 2 kp.length))), (6, (aC (.s 2 0 2 al.length))), (26, (aC (cR 2 ((l).map rUse)))), (27, (aI (↑l.length : Int))), (28, (aI (↑q : Int)))], [(2, (.arr 44 2 ((al).map rUse))), (1, (.arr 44 2 ((kp).map rUse))), (0, (.box 41 [(cI pc.ticks), (cI pc.count), (cI pc.sum)]))], 3⟩) (fun (p : Nat × List Use × List Use) => match p with | (q, kp, al) => q ≤ l.length ∧ Kept pc al kp ∧ al.length ≤ q) (fun (p : Nat × List Use × List Use) => match p with | (q, kp, al) => l.length - q) (0, [], []) ?_ ?_ ?_
      · exact ⟨by omega, Kept.nil pc, by simp⟩
      · exact Weak.ren id (⟨by first | rfl | (simp only [AV.map, GV.map, CV.map, AB.map', id]; done) | (congr 3; omega) | (congr 4; omega) | (simp only [List.length_append, List.length_cons, List.length_nil, List.length_set]; rfl), by first | rfl | (simp only [AV.map, GV.map, CV.map, AB.map', id]; done) | (congr 3; omega) | (congr 4; omega) | (simp only [List.length_append, List.length_cons, List.length_nil, List.length_set]; rfl), by first | rfl | (simp only [AV.map, GV.map, CV.map, AB.map', id]; done) | (congr 3; omega) | (congr 4; omega) | (simp only [List.length_append, List.length_cons, List.length_nil, List.length_set]; rfl), by first | rfl | (simp only [AV.map, GV.map, CV.map, AB.map', id]; done) | (congr 3; omega) | (congr 4; omega) | (simp only [List.length_append, List.length_cons, List.length_nil, List.length_set]; rfl), by first | rfl | (simp only [AV.map, GV.map, CV.map, AB.map', id]; done) | (congr 3; omega) | (congr 4; omega) | (simp only [List.length_append, List.length_cons, List.length_nil, List.length_set]; rfl), by first | rfl | (simp only [AV.map, GV.map, CV.map, AB.map', id]; done) | (congr 3; omega) | (congr 4; omega) | (simp only [List.length_append, List.length_cons, List.length_nil, List.length_set]; rfl),  trivial⟩) (⟨by first | rfl | (simp only [AV.map, GV.map, CV.map, AB.map', id]; done) | (congr 3; omega) | (congr 4; omega) | (simp only [List.length_append, List.length_cons, List.length_nil, List.length_set]; rfl), by first | rfl | (simp only [AV.map, GV.map, CV.map, AB.map', id]; done) | (congr 3; omega) | (congr 4; omega) | (simp only [List.length_append, List.length_cons, List.length_nil, List.length_set]; rfl), by first | rfl | (simp only [AV.map, GV.map, CV.map, AB.map', id]; done) | (congr 3; omega) | (congr 4; omega) | (simp only [List.length_append, List.length_cons, List.length_nil, List.length_set]; rfl),  trivial⟩) rfl
      ·
        rintro ⟨q, kp, al⟩ ⟨hi0_0, hi0_1, hi0_2⟩
        refine AC.seq ?_
        refine AC.region ?_
        refine AL.val (Wanted.plain rfl) (g_binI rfl rfl rfl rfl) rfl rfl ?_
        refine AL.nil ?_
        refine then_ok ?_
        refine AC.seq ?_
        refine AC.cond rfl (fun hc4 => ?_) (fun hc4 => ?_)
        ·
          have hc4' := hc4; try simp only [sumB, Bool.not_eq_true', Bool.not_eq_false', Bool.or_eq_true, Bool.or_eq_false_iff, Bool.and_eq_true, Bool.and_eq_false_imp, decide_eq_true_eq, decide_eq_false_iff_not, Bool.not_not, Bool.not_true, Bool.not_false] at hc4'
          refine AC.skip ?_
          refine then_ok ?_
          refine AC.seq ?_
          refine AC.block ?_
          refine AC.seq ?_
          refine AC.region ?_
          obtain ⟨x1, hx1⟩ := exget (xs := l) (i := q) (by first | omega | (simp; done) | (simp; omega))
          refine AL.val (Wanted.plain rfl) (g_indexQ (i := q) rfl rfl rfl Try.underlying42 sz44 (by first | omega | (simp; done) | (simp; omega)) (getmap hx1)) rfl rfl ?_
          refine AL.val (Wanted.plain rfl) (g_loadQs rfl rfl Try.underlying44 rfl sz44 rfl rfl) rfl rfl ?_
          refine AL.new (n' := 4) (Wanted.plain rfl) (g_alloc 3 rfl zv44 rfl rfl rfl) rfl rfl rfl ?_
          refine AL.sto (h' := [(3, (.box 44 [(cI x1.time), (cI x1.sum)])), (2, (.arr 44 2 ((al).map rUse))), (1, (.arr 44 2 ((kp).map rUse))), (0, (.box 41 [(cI pc.ticks), (cI pc.count), (cI pc.sum)]))]) (Wanted.plain rfl) (g_storeB rfl rfl rfl rfl rfl sz44 rfl (Nat.le_of_ble_eq_true rfl) rfl) rfl rfl rfl rfl ?_
          refine AL.nil ?_
          refine then_ok ?_
          refine AC.seq ?_
          refine AC.region ?_
          refine AL.val (Wanted.plain rfl) (g_loadBs rfl rfl rfl Try.underlying41 rfl sz41 rfl rfl) rfl rfl ?_
          refine AL.fast 1 rfl ?_
          refine AL.val (Wanted.plain rfl) (g_loadBs rfl rfl rfl Try.underlying44 rfl sz44 rfl rfl) rfl rfl ?_
          obtain ⟨r1, e1, hr1⟩ : ∃ (r1 : List Use) (e1 : Int), addUse pc kp x1 = (r1, e1) := ⟨_, _, rfl⟩
          refine AL.call (n' := 5) (h' := [(4, (.arr 44 2 ((r1).map rUse))), (3, (.box 44 [(cI x1.time), (cI x1.sum)])), (2, (.arr 44 2 ((al).map rUse))), (1, (.arr 44 2 ((kp).map rUse))), (0, (.box 41 [(cI pc.ticks), (cI pc.count), (cI pc.sum)]))]) (Wanted.plain rfl) (g_callE 4 [1] (c_pace_Add pc kp x1  r1 e1 hr1) en45 rfl rfl ⟨⟨_, rfl, .g ⟨.d _, .d _, .d _,  trivial⟩⟩, ⟨_, rfl, .c (.s rfl (by decide) (by first | omega | (simp; done) | (simp; omega)))⟩, ⟨_, rfl, .g ⟨.d _, .d _,  trivial⟩⟩,  trivial⟩ ⟨trivial, rfl,  trivial⟩ ⟨(isv_rUse _),  trivial⟩ rfl rfl rfl rfl) rfl rfl rfl rfl rfl ?_
          refine AL.fast 1 rfl ?_
          refine AL.val (Wanted.plain rfl) (g_extract rfl rfl rfl) rfl rfl ?_
          refine AL.val (Wanted.plain rfl) (g_extract rfl rfl rfl) rfl rfl ?_
          refine AL.fast 2 rfl ?_
          refine AL.nil ?_
          refine then_ok ?_
          refine AC.seq ?_
          refine AC.seq ?_
          refine AC.region ?_
          refine AL.fast 1 rfl ?_
          refine AL.val (Wanted.plain rfl) (g_binI rfl rfl rfl rfl) rfl rfl ?_
          refine AL.nil ?_
          refine then_ok ?_
          refine AC.cond rfl (fun hc5 => ?_) (fun hc5 => ?_)
          ·
            have hc5' := hc5; try simp only [sumB, Bool.not_eq_true', Bool.not_eq_false', Bool.or_eq_true, Bool.or_eq_false_iff, Bool.and_eq_true, Bool.and_eq_false_imp, decide_eq_true_eq, decide_eq_false_iff_not, Bool.not_not, Bool.not_true, Bool.not_false] at hc5'
            refine AC.seq ?_
            refine AC.seq ?_
            refine AC.region ?_
            refine AL.fast 1 rfl ?_
            refine AL.val (Wanted.plain rfl) (g_lenS rfl rfl rfl rfl rfl Try.underlying42) rfl rfl ?_
            refine AL.val (Wanted.plain rfl) (g_binI rfl rfl rfl rfl) rfl rfl ?_
            refine AL.nil ?_
            refine then_ok ?_
            refine AC.cond rfl (fun hc6 => ?_) (fun hc6 => ?_)
            ·
              have hc6' := hc6; try simp only [sumB, Bool.not_eq_true', Bool.not_eq_false', Bool.or_eq_true, Bool.or_eq_false_iff, Bool.and_eq_true, Bool.and_eq_false_imp, decide_eq_true_eq, decide_eq_false_iff_not, Bool.not_not, Bool.not_true, Bool.not_false] at hc6'
              refine AC.seq ?_
              refine AC.region ?_
              refine AL.fast 1 rfl ?_
              refine AL.nil ?_
              refine then_ok ?_
              refine AC.ret ?_
              refine then_ret ?_
              refine then_ret ?_
              refine block_ret ?_
              refine then_ret ?_
              refine then_ret ?_
              refine block_ret ?_
              refine then_ret ?_
              refine retQ_mk (av' := outOf [(.c (cB false))]) (nb' := []) (retQ_ret ⟨[(4, (aB false))], [], 0⟩ [.tmp 4] [(.c (cB false))] (Weak.ren id (⟨by first | rfl | (simp only [AV.map, GV.map, CV.map, AB.map', id]; done) | (congr 3; omega) | (congr 4; omega) | (simp only [List.length_append, List.length_cons, List.length_nil, List.length_set]; rfl),  trivial⟩) (trivial) rfl) rfl ⟨.tmp rfl, trivial⟩ trivial) ?_ ?_
              · exact congrArg aB (show (false) = true by (exfalso; have hb := add_bad hr1 (by omega); subst hb; simp at hc6))
              · rfl
            ·
              have hc6' := hc6; try simp only [sumB, Bool.not_eq_true', Bool.not_eq_false', Bool.or_eq_true, Bool.or_eq_false_iff, Bool.and_eq_true, Bool.and_eq_false_imp, decide_eq_true_eq, decide_eq_false_iff_not, Bool.not_not, Bool.not_true, Bool.not_false] at hc6'
              refine AC.skip ?_
              refine then_ok ?_
              refine AC.exit ?_
              refine then_exit ?_
              refine block_hit ?_
              refine then_ok ?_
              refine AC.region ?_
              refine AL.val (Wanted.plain rfl) (g_binI rfl rfl rfl (wrap_ok (by first | omega | (simp; done) | (simp; omega)))) rfl rfl ?_
              refine AL.fast 1 rfl ?_
              refine AL.nil ?_
              refine then_ok ?_
              refine ⟨(q + 1, kp, al), ⟨by omega, hi0_1, by omega⟩, by first | omega | (simp; done) | (simp; omega), Weak.ren id (⟨by first | rfl | (simp only [AV.map, GV.map, CV.map, AB.map', id]; done) | (congr 3; omega) | (congr 4; omega) | (simp only [List.length_append, List.length_cons, List.length_nil, List.length_set]; rfl), by first | rfl | (simp only [AV.map, GV.map, CV.map, AB.map', id]; done) | (congr 3; omega) | (congr 4; omega) | (simp only [List.length_append, List.length_cons, List.length_nil, List.length_set]; rfl), by first | rfl | (simp only [AV.map, GV.map, CV.map, AB.map', id]; done) | (congr 3; omega) | (congr 4; omega) | (simp only [List.length_append, List.length_cons, List.length_nil, List.length_set]; rfl), by first | rfl | (simp only [AV.map, GV.map, CV.map, AB.map', id]; done) | (congr 3; omega) | (congr 4; omega) | (simp only [List.length_append, List.length_cons, List.length_nil, List.length_set]; rfl), by first | rfl | (simp only [AV.map, GV.map, CV.map, AB.map', id]; done) | (congr 3; omega) | (congr 4; omega) | (simp only [List.length_append, List.length_cons, List.length_nil, List.length_set]; rfl), by first | rfl | (simp only [AV.map, GV.map, CV.map, AB.map', id]; done) | (congr 3; omega) | (congr 4; omega) | (simp only [List.length_append, List.length_cons, List.length_nil, List.length_set]; rfl),  trivial⟩) (⟨by first | rfl | (simp only [AV.map, GV.map, CV.map, AB.map', id]; done) | (congr 3; omega) | (congr 4; omega) | (simp only [List.length_append, List.length_cons, List.length_nil, List.length_set]; rfl), by first | rfl | (simp only [AV.map, GV.map, CV.map, AB.map', id]; done) | (congr 3; omega) | (congr 4; omega) | (simp only [List.length_append, List.length_cons, List.length_nil, List.length_set]; rfl), by first | rfl | (simp only [AV.map, GV.map, CV.map, AB.map', id]; done) | (congr 3; omega) | (congr 4; omega) | (simp only [List.length_append, List.length_cons, List.length_nil, List.length_set]; rfl),  trivial⟩) rfl⟩
          ·
            have hc5' := hc5; try simp only [sumB, Bool.not_eq_true', Bool.not_eq_false', Bool.or_eq_true, Bool.or_eq_false_iff, Bool.and_eq_true, Bool.and_eq_false_imp, decide_eq_true_eq, decide_eq_false_iff_not, Bool.not_not, Bool.not_true, Bool.not_false] at hc5'
            refine AC.skip ?_
            refine then_ok ?_
            refine AC.region ?_
            refine AL.fast 2 rfl ?_
            refine AL.val (Wanted.plain rfl) (g_loadBs rfl rfl rfl Try.underlying44 rfl sz44 rfl rfl) rfl rfl ?_
            refine AL.new (n' := 6) (Wanted.plain rfl) (g_lit (ys := [(0, (.g [(cI x1.time), (cI x1.sum)]))]) (rows := ([x1]).map rUse) 5 sl42 rfl (by decide) ⟨⟨rfl, rfl⟩,  trivial⟩ rfl rfl rfl rfl) rfl rfl rfl ?_
            refine AL.eat (n' := 7) (h' := [(6, (.arr 44 2 ((al ++ ([x1])).map rUse))), (5, (.arr 44 2 (([x1]).map rUse))), (4, (.arr 44 2 ((r1).map rUse))), (3, (.box 44 [(cI x1.time), (cI x1.sum)])), (1, (.arr 44 2 ((kp).map rUse))), (0, (.box 41 [(cI pc.ticks), (cI pc.count), (cI pc.sum)]))]) (Wanted.plain rfl) (g_append (m := 1) (N := al.length + 1) (k2 := 6) (ys := ([x1]).map rUse) sl42 rfl rfl rfl rfl rfl rfl (by first | omega | (simp; done) | (simp; omega)) rfl (.s rfl (by first | omega | (simp; done) | (simp; omega))) (by first | omega | (simp; done) | (simp; omega)) (by first | omega | (simp; done) | (simp; omega)) appmap (by decide) (by first | omega | (simp; done) | (simp; omega)) (by first | omega | (simp; done) | (simp; omega))) rfl rfl rfl rfl rfl ?_
            refine AL.fast 2 rfl ?_
            refine AL.nil ?_
            refine block_ok ?_
            refine then_ok ?_
            refine AC.region ?_
            refine AL.val (Wanted.plain rfl) (g_binI rfl rfl rfl (wrap_ok (by first | omega | (simp; done) | (simp; omega)))) rfl rfl ?_
            refine AL.fast 1 rfl ?_
            refine AL.nil ?_
            refine then_ok ?_
            refine ⟨(q + 1, r1, al ++ ([x1])), ⟨by omega, hi0_1.add (by rw [hr1]; congr 1; omega), by simp; omega⟩, by first | omega | (simp; done) | (simp; omega), Weak.ren (fun k => if k = 2 then 6 else if k = 1 then 4 else k) (⟨by first | rfl | (simp only [AV.map, GV.map, CV.map, AB.map', id]; done) | (congr 3; omega) | (congr 4; omega) | (simp only [List.length_append, List.length_cons, List.length_nil, List.length_set]; rfl), by first | rfl | (simp only [AV.map, GV.map, CV.map, AB.map', id]; done) | (congr 3; omega) | (congr 4; omega) | (simp only [List.length_append, List.length_cons, List.length_nil, List.length_set]; rfl), by first | rfl | (simp only [AV.map, GV.map, CV.map, AB.map', id]; done) | (congr 3; omega) | (congr 4; omega) | (simp only [List.length_append, List.length_cons, List.length_nil, List.length_set]; rfl), by first | rfl | (simp only [AV.map, GV.map, CV.map, AB.map', id]; done) | (congr 3; omega) | (congr 4; omega) | (simp only [List.length_append, List.length_cons, List.length_nil, List.length_set]; rfl), by first | rfl | (simp only [AV.map, GV.map, CV.map, AB.map', id]; done) | (congr 3; omega) | (congr 4; omega) | (simp only [List.length_append, List.length_cons, List.length_nil, List.length_set]; rfl), by first | rfl | (simp only [AV.map, GV.map, CV.map, AB.map', id]; done) | (congr 3; omega) | (congr 4; omega) | (simp only [List.length_append, List.length_cons, List.length_nil, List.length_set]; rfl),  trivial⟩) (⟨by first | rfl | (simp only [AV.map, GV.map, CV.map, AB.map', id]; done) | (congr 3; omega) | (congr 4; omega) | (simp only [List.length_append, List.length_cons, List.length_nil, List.length_set]; rfl), by first | rfl | (simp only [AV.map, GV.map, CV.map, AB.map', id]; done) | (congr 3; omega) | (congr 4; omega) | (simp only [List.length_append, List.length_cons, List.length_nil, List.length_set]; rfl), by first | rfl | (simp only [AV.map, GV.map, CV.map, AB.map', id]; done) | (congr 3; omega) | (congr 4; omega) | (simp only [List.length_append, List.length_cons, List.length_nil, List.length_set]; rfl),  trivial⟩) rfl⟩
        ·
          have hc4' := hc4; try simp only [sumB, Bool.not_eq_true', Bool.not_eq_false', Bool.or_eq_true, Bool.or_eq_false_iff, Bool.and_eq_true, Bool.and_eq_false_imp, decide_eq_true_eq, decide_eq_false_iff_not, Bool.not_not, Bool.not_true, Bool.not_false] at hc4'
          refine AC.exit ?_
          refine then_exit ?_
          refine then_exit ?_
          refine block_hit ?_
          refine then_ok ?_
          refine AC.seq ?_
          refine AC.seq ?_
          refine AC.region ?_
          refine AL.fast 1 rfl ?_
          refine AL.val (Wanted.plain rfl) (g_lenS rfl rfl rfl rfl rfl Try.underlying42) rfl rfl ?_
          refine AL.fast 1 rfl ?_
          refine AL.nil ?_
          refine then_ok ?_
          refine AC.block ?_
          refine AC.loop (β := Nat) (fun (i : Nat) => ⟨[(2, (aC (.p 0 0 0 0))), (5, (aC (.s 1 0 2 kp.length))), (6, (aC (.s 2 0 2 al.length))), (26, (aC (cR 2 ((l).map rUse)))), (27, (aI (↑l.length : Int))), (28, (aI (↑q : Int))), (51, (aI (↑al.length : Int))), (52, (aI (↑i : Int)))], [(2, (.arr 44 2 ((al).map rUse))), (1, (.arr 44 2 ((kp).map rUse))), (0, (.box 41 [(cI pc.ticks), (cI pc.count), (cI pc.sum)]))], 3⟩) (fun (i : Nat) => i ≤ al.length) (fun (i : Nat) => al.length - i) 0 ?_ ?_ ?_
          · exact (by omega)
          · exact Weak.ren id (⟨by first | rfl | (simp only [AV.map, GV.map, CV.map, AB.map', id]; done) | (congr 3; omega) | (congr 4; omega) | (simp only [List.length_append, List.length_cons, List.length_nil, List.length_set]; rfl), by first | rfl | (simp only [AV.map, GV.map, CV.map, AB.map', id]; done) | (congr 3; omega) | (congr 4; omega) | (simp only [List.length_append, List.length_cons, List.length_nil, List.length_set]; rfl), by first | rfl | (simp only [AV.map, GV.map, CV.map, AB.map', id]; done) | (congr 3; omega) | (congr 4; omega) | (simp only [List.length_append, List.length_cons, List.length_nil, List.length_set]; rfl), by first | rfl | (simp only [AV.map, GV.map, CV.map, AB.map', id]; done) | (congr 3; omega) | (congr 4; omega) | (simp only [List.length_append, List.length_cons, List.length_nil, List.length_set]; rfl), by first | rfl | (simp only [AV.map, GV.map, CV.map, AB.map', id]; done) | (congr 3; omega) | (congr 4; omega) | (simp only [List.length_append, List.length_cons, List.length_nil, List.length_set]; rfl), by first | rfl | (simp only [AV.map, GV.map, CV.map, AB.map', id]; done) | (congr 3; omega) | (congr 4; omega) | (simp only [List.length_append, List.length_cons, List.length_nil, List.length_set]; rfl), by first | rfl | (simp only [AV.map, GV.map, CV.map, AB.map', id]; done) | (congr 3; omega) | (congr 4; omega) | (simp only [List.length_append, List.length_cons, List.length_nil, List.length_set]; rfl), by first | rfl | (simp only [AV.map, GV.map, CV.map, AB.map', id]; done) | (congr 3; omega) | (congr 4; omega) | (simp only [List.length_append, List.length_cons, List.length_nil, List.length_set]; rfl),  trivial⟩) (⟨by first | rfl | (simp only [AV.map, GV.map, CV.map, AB.map', id]; done) | (congr 3; omega) | (congr 4; omega) | (simp only [List.length_append, List.length_cons, List.length_nil, List.length_set]; rfl), by first | rfl | (simp only [AV.map, GV.map, CV.map, AB.map', id]; done) | (congr 3; omega) | (congr 4; omega) | (simp only [List.length_append, List.length_cons, List.length_nil, List.length_set]; rfl), by first | rfl | (simp only [AV.map, GV.map, CV.map, AB.map', id]; done) | (congr 3; omega) | (congr 4; omega) | (simp only [List.length_append, List.length_cons, List.length_nil, List.length_set]; rfl),  trivial⟩) rfl
          ·
            rintro i hi1_0
            have hal : al.length ≤ 100 := by omega
            refine AC.seq ?_
            refine AC.region ?_
            refine AL.val (Wanted.plain rfl) (g_binI rfl rfl rfl rfl) rfl rfl ?_
            refine AL.nil ?_
            refine then_ok ?_
            refine AC.seq ?_
            refine AC.cond rfl (fun hc7 => ?_) (fun hc7 => ?_)
            ·
              have hc7' := hc7; try simp only [sumB, Bool.not_eq_true', Bool.not_eq_false', Bool.or_eq_true, Bool.or_eq_false_iff, Bool.and_eq_true, Bool.and_eq_false_imp, decide_eq_true_eq, decide_eq_false_iff_not, Bool.not_not, Bool.not_true, Bool.not_false] at hc7'
              refine AC.skip ?_
              refine then_ok ?_
              refine AC.seq ?_
              refine AC.block ?_
              refine AC.seq ?_
              refine AC.region ?_
              refine AL.fast 2 rfl ?_
              refine AL.nil ?_
              refine then_ok ?_
              refine AC.seq ?_
              refine AC.region ?_
              refine AL.fast 2 rfl ?_
              refine AL.nil ?_
              refine then_ok ?_
              refine AC.seq ?_
              refine AC.seq ?_
              refine AC.region ?_
              refine AL.fast 2 rfl ?_
              refine AL.val (Wanted.plain rfl) (g_binI rfl rfl rfl (wrap_ok (by first | omega | (simp; done) | (simp; omega)))) rfl rfl ?_
              refine AL.val (Wanted.plain rfl) (g_sliceP (l := 0) (h := (i) + 1) rfl Try.underlying42 sz44 rfl (.inl ⟨rfl, rfl⟩) (.inr ⟨_, rfl, (evI rfl (by first | omega | (simp; done) | (simp; omega)))⟩) (by first | omega | (simp; done) | (simp; omega)) (by first | omega | (simp; done) | (simp; omega)) (by first | omega | (simp; done) | (simp; omega)) rfl) rfl rfl ?_
              refine AL.val (Wanted.plain rfl) (g_lenS rfl rfl rfl rfl rfl Try.underlying42) rfl rfl ?_
              refine AL.fast 1 rfl ?_
              refine AL.nil ?_
              refine then_ok ?_
              refine AC.block ?_
              obtain ⟨u, hu⟩ := exget (xs := al) (i := i) (by omega)
              have hub := hi0_1.bound u (List.mem_of_getElem? hu)
              refine AC.loop (β := Nat) (fun (k : Nat) => ⟨[(2, (aC (.p 0 0 0 0))), (5, (aC (.s 1 0 2 kp.length))), (6, (aC (.s 2 0 2 al.length))), (26, (aC (cR 2 ((l).map rUse)))), (27, (aI (↑l.length : Int))), (28, (aI (↑q : Int))), (51, (aI (↑al.length : Int))), (52, (aI (↑i : Int))), (11, (aI (↑i : Int))), (12, (aI (↑(keepL (old pc u.time) (al.take k)).length : Int))), (13, (aI (sumU (keepL (old pc u.time) (al.take k))))), (58, (aC (.s 2 0 2 ((i) + 1)))), (59, (aI (↑((i) + 1) : Int))), (60, (aI (↑k : Int)))], [(2, (.arr 44 2 ((al).map rUse))), (1, (.arr 44 2 ((kp).map rUse))), (0, (.box 41 [(cI pc.ticks), (cI pc.count), (cI pc.sum)]))], 3⟩) (fun (k : Nat) => k ≤ i + 1) (fun (k : Nat) => i + 1 - k) 0 ?_ ?_ ?_
              · exact (by omega)
              · exact Weak.ren id (⟨by first | rfl | (simp only [AV.map, GV.map, CV.map, AB.map', id]; done) | (congr 3; omega) | (congr 4; omega) | (simp only [List.length_append, List.length_cons, List.length_nil, List.length_set]; rfl), by first | rfl | (simp only [AV.map, GV.map, CV.map, AB.map', id]; done) | (congr 3; omega) | (congr 4; omega) | (simp only [List.length_append, List.length_cons, List.length_nil, List.length_set]; rfl), by first | rfl | (simp only [AV.map, GV.map, CV.map, AB.map', id]; done) | (congr 3; omega) | (congr 4; omega) | (simp only [List.length_append, List.length_cons, List.length_nil, List.length_set]; rfl), by first | rfl | (simp only [AV.map, GV.map, CV.map, AB.map', id]; done) | (congr 3; omega) | (congr 4; omega) | (simp only [List.length_append, List.length_cons, List.length_nil, List.length_set]; rfl), by first | rfl | (simp only [AV.map, GV.map, CV.map, AB.map', id]; done) | (congr 3; omega) | (congr 4; omega) | (simp only [List.length_append, List.length_cons, List.length_nil, List.length_set]; rfl), by first | rfl | (simp only [AV.map, GV.map, CV.map, AB.map', id]; done) | (congr 3; omega) | (congr 4; omega) | (simp only [List.length_append, List.length_cons, List.length_nil, List.length_set]; rfl), by first | rfl | (simp only [AV.map, GV.map, CV.map, AB.map', id]; done) | (congr 3; omega) | (congr 4; omega) | (simp only [List.length_append, List.length_cons, List.length_nil, List.length_set]; rfl), by first | rfl | (simp only [AV.map, GV.map, CV.map, AB.map', id]; done) | (congr 3; omega) | (congr 4; omega) | (simp only [List.length_append, List.length_cons, List.length_nil, List.length_set]; rfl), by first | rfl | (simp only [AV.map, GV.map, CV.map, AB.map', id]; done) | (congr 3; omega) | (congr 4; omega) | (simp only [List.length_append, List.length_cons, List.length_nil, List.length_set]; rfl), by first | rfl | (simp only [AV.map, GV.map, CV.map, AB.map', id]; done) | (congr 3; omega) | (congr 4; omega) | (simp only [List.length_append, List.length_cons, List.length_nil, List.length_set]; rfl), by first | rfl | (simp only [AV.map, GV.map, CV.map, AB.map', id]; done) | (congr 3; omega) | (congr 4; omega) | (simp only [List.length_append, List.length_cons, List.length_nil, List.length_set]; rfl), by first | rfl | (simp only [AV.map, GV.map, CV.map, AB.map', id]; done) | (congr 3; omega) | (congr 4; omega) | (simp only [List.length_append, List.length_cons, List.length_nil, List.length_set]; rfl), by first | rfl | (simp only [AV.map, GV.map, CV.map, AB.map', id]; done) | (congr 3; omega) | (congr 4; omega) | (simp only [List.length_append, List.length_cons, List.length_nil, List.length_set]; rfl), by first | rfl | (simp only [AV.map, GV.map, CV.map, AB.map', id]; done) | (congr 3; omega) | (congr 4; omega) | (simp only [List.length_append, List.length_cons, List.length_nil, List.length_set]; rfl),  trivial⟩) (⟨by first | rfl | (simp only [AV.map, GV.map, CV.map, AB.map', id]; done) | (congr 3; omega) | (congr 4; omega) | (simp only [List.length_append, List.length_cons, List.length_nil, List.length_set]; rfl), by first | rfl | (simp only [AV.map, GV.map, CV.map, AB.map', id]; done) | (congr 3; omega) | (congr 4; omega) | (simp only [List.length_append, List.length_cons, List.length_nil, List.length_set]; rfl), by first | rfl | (simp only [AV.map, GV.map, CV.map, AB.map', id]; done) | (congr 3; omega) | (congr 4; omega) | (simp only [List.length_append, List.length_cons, List.length_nil, List.length_set]; rfl),  trivial⟩) rfl
              ·
                rintro k hi2_0
                have hkl := keepL_len (old pc u.time) (al.take k)
                have htl : (al.take k).length ≤ k := List.length_take_le _ _
                have hsb := sumU_bound (l := keepL (old pc u.time) (al.take k)) (fun v hv => hi0_1.bound v (List.mem_of_mem_take (mem_keep hv)))
                refine AC.seq ?_
                refine AC.region ?_
                refine AL.val (Wanted.plain rfl) (g_binI rfl rfl rfl rfl) rfl rfl ?_
                refine AL.nil ?_
                refine then_ok ?_
                refine AC.seq ?_
                refine AC.cond rfl (fun hc8 => ?_) (fun hc8 => ?_)
                ·
                  have hc8' := hc8; try simp only [sumB, Bool.not_eq_true', Bool.not_eq_false', Bool.or_eq_true, Bool.or_eq_false_iff, Bool.and_eq_true, Bool.and_eq_false_imp, decide_eq_true_eq, decide_eq_false_iff_not, Bool.not_not, Bool.not_true, Bool.not_false] at hc8'
                  refine AC.skip ?_
                  refine then_ok ?_
                  refine AC.seq ?_
                  refine AC.block ?_
                  refine AC.seq ?_
                  refine AC.region ?_
                  refine AL.val (Wanted.plain rfl) (g_indexP0 (i := k) rfl rfl rfl Try.underlying42 sz44 (by first | omega | (simp; done) | (simp; omega)) (by first | omega | (simp; done) | (simp; omega))) rfl rfl ?_
                  obtain ⟨x1, hx1⟩ := exget (xs := al) (i := k) (by first | omega | (simp; done) | (simp; omega))
                  have hx1b := hi0_1.bound x1 (List.mem_of_getElem? hx1)
                  refine AL.val (Wanted.plain rfl) (g_loadAs rfl rfl rfl Try.underlying44 rfl sz44 (getmap hx1) rfl) rfl rfl ?_
                  refine AL.new (n' := 4) (Wanted.plain rfl) (g_alloc 3 rfl zv44 rfl rfl rfl) rfl rfl rfl ?_
                  refine AL.sto (h' := [(3, (.box 44 [(cI x1.time), (cI x1.sum)])), (2, (.arr 44 2 ((al).map rUse))), (1, (.arr 44 2 ((kp).map rUse))), (0, (.box 41 [(cI pc.ticks), (cI pc.count), (cI pc.sum)]))]) (Wanted.plain rfl) (g_storeB rfl rfl rfl rfl rfl sz44 rfl (Nat.le_of_ble_eq_true rfl) rfl) rfl rfl rfl rfl ?_
                  refine AL.nil ?_
                  refine then_ok ?_
                  refine AC.seq ?_
                  refine AC.weak (st' := ⟨[(2, (aC (.p 0 0 0 0))), (5, (aC (.s 1 0 2 kp.length))), (6, (aC (.s 2 0 2 al.length))), (26, (aC (cR 2 ((l).map rUse)))), (27, (aI (↑l.length : Int))), (28, (aI (↑q : Int))), (51, (aI (↑al.length : Int))), (52, (aI (↑i : Int))), (11, (aI (↑i : Int))), (12, (aI (↑(keepL (old pc u.time) (al.take k)).length : Int))), (13, (aI (sumU (keepL (old pc u.time) (al.take k))))), (58, (aC (.s 2 0 2 ((i) + 1)))), (59, (aI (↑((i) + 1) : Int))), (60, (aI (↑k : Int))), (15, (aC (.p 3 0 0 0)))], [(3, (.box 44 [(cI x1.time), (cI x1.sum)])), (2, (.arr 44 2 ((al).map rUse))), (1, (.arr 44 2 ((kp).map rUse))), (0, (.box 41 [(cI pc.ticks), (cI pc.count), (cI pc.sum)]))], 4⟩) (Weak.ren id (⟨by first | rfl | (simp only [AV.map, GV.map, CV.map, AB.map', id]; done) | (congr 3; omega) | (congr 4; omega) | (simp only [List.length_append, List.length_cons, List.length_nil, List.length_set]; rfl), by first | rfl | (simp only [AV.map, GV.map, CV.map, AB.map', id]; done) | (congr 3; omega) | (congr 4; omega) | (simp only [List.length_append, List.length_cons, List.length_nil, List.length_set]; rfl), by first | rfl | (simp only [AV.map, GV.map, CV.map, AB.map', id]; done) | (congr 3; omega) | (congr 4; omega) | (simp only [List.length_append, List.length_cons, List.length_nil, List.length_set]; rfl), by first | rfl | (simp only [AV.map, GV.map, CV.map, AB.map', id]; done) | (congr 3; omega) | (congr 4; omega) | (simp only [List.length_append, List.length_cons, List.length_nil, List.length_set]; rfl), by first | rfl | (simp only [AV.map, GV.map, CV.map, AB.map', id]; done) | (congr 3; omega) | (congr 4; omega) | (simp only [List.length_append, List.length_cons, List.length_nil, List.length_set]; rfl), by first | rfl | (simp only [AV.map, GV.map, CV.map, AB.map', id]; done) | (congr 3; omega) | (congr 4; omega) | (simp only [List.length_append, List.length_cons, List.length_nil, List.length_set]; rfl), by first | rfl | (simp only [AV.map, GV.map, CV.map, AB.map', id]; done) | (congr 3; omega) | (congr 4; omega) | (simp only [List.length_append, List.length_cons, List.length_nil, List.length_set]; rfl), by first | rfl | (simp only [AV.map, GV.map, CV.map, AB.map', id]; done) | (congr 3; omega) | (congr 4; omega) | (simp only [List.length_append, List.length_cons, List.length_nil, List.length_set]; rfl), by first | rfl | (simp only [AV.map, GV.map, CV.map, AB.map', id]; done) | (congr 3; omega) | (congr 4; omega) | (simp only [List.length_append, List.length_cons, List.length_nil, List.length_set]; rfl), by first | rfl | (simp only [AV.map, GV.map, CV.map, AB.map', id]; done) | (congr 3; omega) | (congr 4; omega) | (simp only [List.length_append, List.length_cons, List.length_nil, List.length_set]; rfl), by first | rfl | (simp only [AV.map, GV.map, CV.map, AB.map', id]; done) | (congr 3; omega) | (congr 4; omega) | (simp only [List.length_append, List.length_cons, List.length_nil, List.length_set]; rfl), by first | rfl | (simp only [AV.map, GV.map, CV.map, AB.map', id]; done) | (congr 3; omega) | (congr 4; omega) | (simp only [List.length_append, List.length_cons, List.length_nil, List.length_set]; rfl), by first | rfl | (simp only [AV.map, GV.map, CV.map, AB.map', id]; done) | (congr 3; omega) | (congr 4; omega) | (simp only [List.length_append, List.length_cons, List.length_nil, List.length_set]; rfl), by first | rfl | (simp only [AV.map, GV.map, CV.map, AB.map', id]; done) | (congr 3; omega) | (congr 4; omega) | (simp only [List.length_append, List.length_cons, List.length_nil, List.length_set]; rfl), by first | rfl | (simp only [AV.map, GV.map, CV.map, AB.map', id]; done) | (congr 3; omega) | (congr 4; omega) | (simp only [List.length_append, List.length_cons, List.length_nil, List.length_set]; rfl),  trivial⟩) (⟨by first | rfl | (simp only [AV.map, GV.map, CV.map, AB.map', id]; done) | (congr 3; omega) | (congr 4; omega) | (simp only [List.length_append, List.length_cons, List.length_nil, List.length_set]; rfl), by first | rfl | (simp only [AV.map, GV.map, CV.map, AB.map', id]; done) | (congr 3; omega) | (congr 4; omega) | (simp only [List.length_append, List.length_cons, List.length_nil, List.length_set]; rfl), by first | rfl | (simp only [AV.map, GV.map, CV.map, AB.map', id]; done) | (congr 3; omega) | (congr 4; omega) | (simp only [List.length_append, List.length_cons, List.length_nil, List.length_set]; rfl), by first | rfl | (simp only [AV.map, GV.map, CV.map, AB.map', id]; done) | (congr 3; omega) | (congr 4; omega) | (simp only [List.length_append, List.length_cons, List.length_nil, List.length_set]; rfl),  trivial⟩) rfl) ?_
                  refine AC.draw [⟨some 64, (aC (.p 3 0 0 0)), [], [], [], [(15, (aC (.p 3 0 0 0)))], [(3, (.box 44 [(cI x1.time), (cI x1.sum)]))]⟩,
      ⟨some 65, (aI x1.time), [], [], [0], [(64, (aC (.p 3 0 0 0)))], [(3, (.box 44 [(cI x1.time), (cI x1.sum)]))]⟩,
      ⟨some 66, (aC (.s 2 0 2 al.length)), [], [], [], [(6, (aC (.s 2 0 2 al.length)))], [(2, (.arr 44 2 ((al).map rUse)))]⟩,
      ⟨some 67, (aI (↑i : Int)), [], [], [], [(11, (aI (↑i : Int)))], []⟩,
      ⟨some 68, (aC (.p 2 i 2 0)), [], [], [2, 3], [(66, (aC (.s 2 0 2 al.length))), (67, (aI (↑i : Int)))], [(2, (.arr 44 2 ((al).map rUse)))]⟩,
      ⟨some 69, (aC (.p 2 i 2 0)), [], [], [4], [(68, (aC (.p 2 i 2 0)))], [(2, (.arr 44 2 ((al).map rUse)))]⟩,
      ⟨some 70, (aI u.time), [], [], [5], [(69, (aC (.p 2 i 2 0)))], [(2, (.arr 44 2 ((al).map rUse)))]⟩,
      ⟨some 71, (aC (.p 0 0 0 0)), [], [], [], [(2, (aC (.p 0 0 0 0)))], [(0, (.box 41 [(cI pc.ticks), (cI pc.count), (cI pc.sum)]))]⟩,
      ⟨some 72, (aI pc.ticks), [], [], [7], [(71, (aC (.p 0 0 0 0)))], [(0, (.box 41 [(cI pc.ticks), (cI pc.count), (cI pc.sum)]))]⟩,
      ⟨some 73, (aI (u.time - pc.ticks)), [], [], [6, 8], [(70, (aI u.time)), (72, (aI pc.ticks))], []⟩,
      ⟨some 74, (aB (decide (x1.time > (u.time - pc.ticks)))), [], [], [1, 9], [(65, (aI x1.time)), (73, (aI (u.time - pc.ticks)))], []⟩] ⟨[(2, (aC (.p 0 0 0 0))), (5, (aC (.s 1 0 2 kp.length))), (6, (aC (.s 2 0 2 al.length))), (26, (aC (cR 2 ((l).map rUse)))), (27, (aI (↑l.length : Int))), (28, (aI (↑q : Int))), (51, (aI (↑al.length : Int))), (52, (aI (↑i : Int))), (11, (aI (↑i : Int))), (12, (aI (↑(keepL (old pc u.time) (al.take k)).length : Int))), (13, (aI (sumU (keepL (old pc u.time) (al.take k))))), (58, (aC (.s 2 0 2 ((i) + 1)))), (59, (aI (↑((i) + 1) : Int))), (60, (aI (↑k : Int))), (15, (aC (.p 3 0 0 0))), (74, (aB (decide (x1.time > (u.time - pc.ticks)))))], [(3, (.box 44 [(cI x1.time), (cI x1.sum)])), (2, (.arr 44 2 ((al).map rUse))), (1, (.arr 44 2 ((kp).map rUse))), (0, (.box 41 [(cI pc.ticks), (cI pc.count), (cI pc.sum)]))], 4⟩ mixed (by kernel_rfl) ?_ ?_ ?_ ?_
                  · exact ⟨.inl ⟨(Wanted.plain rfl), GOp.cast (g_fieldP rfl rfl Try.underlying44 rfl sz3 (by decide)) rfl⟩,
      .inl ⟨(Wanted.plain rfl), GOp.cast (g_loadB rfl rfl rfl Try.underlying3 rfl rfl) rfl⟩,
      .inl ⟨(Wanted.plain rfl), GOp.cast (g_move rfl rfl) rfl⟩,
      .inl ⟨(Wanted.plain rfl), GOp.cast (g_move rfl rfl) rfl⟩,
      .inl ⟨(Wanted.plain rfl), GOp.cast (g_indexP0 (i := i) rfl rfl rfl Try.underlying42 sz44 (by first | omega | (simp; done) | (simp; omega)) (by first | omega | (simp; done) | (simp; omega))) rfl⟩,
      .inl ⟨(Wanted.plain rfl), GOp.cast (g_fieldP rfl rfl Try.underlying44 rfl sz3 (by decide)) rfl⟩,
      .inl ⟨(Wanted.plain rfl), GOp.cast (g_loadA rfl rfl rfl Try.underlying3 rfl (getmap hu) rfl) rfl⟩,
      .inl ⟨(Wanted.plain rfl), GOp.cast (g_fieldP rfl rfl Try.underlying41 rfl sz3 (by decide)) rfl⟩,
      .inl ⟨(Wanted.plain rfl), GOp.cast (g_loadB rfl rfl rfl Try.underlying3 rfl rfl) rfl⟩,
      .inl ⟨(Wanted.plain rfl), GOp.cast (g_binI rfl rfl rfl (wrap_ok (by first | omega | (simp; done) | (simp; omega)))) rfl⟩,
      .inl ⟨(Wanted.plain rfl), GOp.cast (g_binI rfl rfl rfl rfl) rfl⟩,
       trivial⟩
                  · exact ⟨⟨⟨.inl rfl,  trivial⟩, ⟨.inl rfl,  trivial⟩⟩, ⟨⟨.inr ⟨0, .head _, _, rfl, rfl, rfl⟩,  trivial⟩, ⟨.inl rfl,  trivial⟩⟩, ⟨⟨.inl rfl,  trivial⟩, ⟨.inl rfl,  trivial⟩⟩, ⟨⟨.inl rfl,  trivial⟩, trivial⟩, ⟨⟨.inr ⟨2, .head _, _, rfl, rfl, rfl⟩, .inr ⟨3, .tail _ (.head _), _, rfl, rfl, rfl⟩,  trivial⟩, ⟨.inl rfl,  trivial⟩⟩, ⟨⟨.inr ⟨4, .head _, _, rfl, rfl, rfl⟩,  trivial⟩, ⟨.inl rfl,  trivial⟩⟩, ⟨⟨.inr ⟨5, .head _, _, rfl, rfl, rfl⟩,  trivial⟩, ⟨.inl rfl,  trivial⟩⟩, ⟨⟨.inl rfl,  trivial⟩, ⟨.inl rfl,  trivial⟩⟩, ⟨⟨.inr ⟨7, .head _, _, rfl, rfl, rfl⟩,  trivial⟩, ⟨.inl rfl,  trivial⟩⟩, ⟨⟨.inr ⟨6, .head _, _, rfl, rfl, rfl⟩, .inr ⟨8, .tail _ (.head _), _, rfl, rfl, rfl⟩,  trivial⟩, trivial⟩, ⟨⟨.inr ⟨1, .head _, _, rfl, rfl, rfl⟩, .inr ⟨9, .tail _ (.head _), _, rfl, rfl, rfl⟩,  trivial⟩, trivial⟩,  trivial⟩
                  · exact ⟨⟨.inl rfl, .inl rfl, .inl rfl, .inl rfl, .inl rfl, .inl rfl, .inl rfl, .inl rfl, .inl rfl, .inl rfl, .inl rfl, .inl rfl, .inl rfl, .inl rfl, .inl rfl, .inr ⟨10, _, rfl, rfl, rfl⟩,  trivial⟩, ⟨.inl rfl, .inl rfl, .inl rfl, .inl rfl,  trivial⟩⟩
                  ·
                    refine AL.nil ?_
                    refine then_ok ?_
                    refine AC.cond rfl (fun hc9 => ?_) (fun hc9 => ?_)
                    ·
                      have hc9' := hc9; try simp only [sumB, Bool.not_eq_true', Bool.not_eq_false', Bool.or_eq_true, Bool.or_eq_false_iff, Bool.and_eq_true, Bool.and_eq_false_imp, decide_eq_true_eq, decide_eq_false_iff_not, Bool.not_not, Bool.not_true, Bool.not_false] at hc9'
                      refine AC.weak (st' := ⟨[(2, (aC (.p 0 0 0 0))), (5, (aC (.s 1 0 2 kp.length))), (6, (aC (.s 2 0 2 al.length))), (26, (aC (cR 2 ((l).map rUse)))), (27, (aI (↑l.length : Int))), (28, (aI (↑q : Int))), (51, (aI (↑al.length : Int))), (52, (aI (↑i : Int))), (11, (aI (↑i : Int))), (12, (aI (↑(keepL (old pc u.time) (al.take k)).length : Int))), (13, (aI (sumU (keepL (old pc u.time) (al.take k))))), (58, (aC (.s 2 0 2 ((i) + 1)))), (59, (aI (↑((i) + 1) : Int))), (60, (aI (↑k : Int))), (15, (aC (.p 3 0 0 0)))], [(3, (.box 44 [(cI x1.time), (cI x1.sum)])), (2, (.arr 44 2 ((al).map rUse))), (1, (.arr 44 2 ((kp).map rUse))), (0, (.box 41 [(cI pc.ticks), (cI pc.count), (cI pc.sum)]))], 4⟩) (Weak.ren id (⟨by first | rfl | (simp only [AV.map, GV.map, CV.map, AB.map', id]; done) | (congr 3; omega) | (congr 4; omega) | (simp only [List.length_append, List.length_cons, List.length_nil, List.length_set]; rfl), by first | rfl | (simp only [AV.map, GV.map, CV.map, AB.map', id]; done) | (congr 3; omega) | (congr 4; omega) | (simp only [List.length_append, List.length_cons, List.length_nil, List.length_set]; rfl), by first | rfl | (simp only [AV.map, GV.map, CV.map, AB.map', id]; done) | (congr 3; omega) | (congr 4; omega) | (simp only [List.length_append, List.length_cons, List.length_nil, List.length_set]; rfl), by first | rfl | (simp only [AV.map, GV.map, CV.map, AB.map', id]; done) | (congr 3; omega) | (congr 4; omega) | (simp only [List.length_append, List.length_cons, List.length_nil, List.length_set]; rfl), by first | rfl | (simp only [AV.map, GV.map, CV.map, AB.map', id]; done) | (congr 3; omega) | (congr 4; omega) | (simp only [List.length_append, List.length_cons, List.length_nil, List.length_set]; rfl), by first | rfl | (simp only [AV.map, GV.map, CV.map, AB.map', id]; done) | (congr 3; omega) | (congr 4; omega) | (simp only [List.length_append, List.length_cons, List.length_nil, List.length_set]; rfl), by first | rfl | (simp only [AV.map, GV.map, CV.map, AB.map', id]; done) | (congr 3; omega) | (congr 4; omega) | (simp only [List.length_append, List.length_cons, List.length_nil, List.length_set]; rfl), by first | rfl | (simp only [AV.map, GV.map, CV.map, AB.map', id]; done) | (congr 3; omega) | (congr 4; omega) | (simp only [List.length_append, List.length_cons, List.length_nil, List.length_set]; rfl), by first | rfl | (simp only [AV.map, GV.map, CV.map, AB.map', id]; done) | (congr 3; omega) | (congr 4; omega) | (simp only [List.length_append, List.length_cons, List.length_nil, List.length_set]; rfl), by first | rfl | (simp only [AV.map, GV.map, CV.map, AB.map', id]; done) | (congr 3; omega) | (congr 4; omega) | (simp only [List.length_append, List.length_cons, List.length_nil, List.length_set]; rfl), by first | rfl | (simp only [AV.map, GV.map, CV.map, AB.map', id]; done) | (congr 3; omega) | (congr 4; omega) | (simp only [List.length_append, List.length_cons, List.length_nil, List.length_set]; rfl), by first | rfl | (simp only [AV.map, GV.map, CV.map, AB.map', id]; done) | (congr 3; omega) | (congr 4; omega) | (simp only [List.length_append, List.length_cons, List.length_nil, List.length_set]; rfl), by first | rfl | (simp only [AV.map, GV.map, CV.map, AB.map', id]; done) | (congr 3; omega) | (congr 4; omega) | (simp only [List.length_append, List.length_cons, List.length_nil, List.length_set]; rfl), by first | rfl | (simp only [AV.map, GV.map, CV.map, AB.map', id]; done) | (congr 3; omega) | (congr 4; omega) | (simp only [List.length_append, List.length_cons, List.length_nil, List.length_set]; rfl), by first | rfl | (simp only [AV.map, GV.map, CV.map, AB.map', id]; done) | (congr 3; omega) | (congr 4; omega) | (simp only [List.length_append, List.length_cons, List.length_nil, List.length_set]; rfl),  trivial⟩) (⟨by first | rfl | (simp only [AV.map, GV.map, CV.map, AB.map', id]; done) | (congr 3; omega) | (congr 4; omega) | (simp only [List.length_append, List.length_cons, List.length_nil, List.length_set]; rfl), by first | rfl | (simp only [AV.map, GV.map, CV.map, AB.map', id]; done) | (congr 3; omega) | (congr 4; omega) | (simp only [List.length_append, List.length_cons, List.length_nil, List.length_set]; rfl), by first | rfl | (simp only [AV.map, GV.map, CV.map, AB.map', id]; done) | (congr 3; omega) | (congr 4; omega) | (simp only [List.length_append, List.length_cons, List.length_nil, List.length_set]; rfl), by first | rfl | (simp only [AV.map, GV.map, CV.map, AB.map', id]; done) | (congr 3; omega) | (congr 4; omega) | (simp only [List.length_append, List.length_cons, List.length_nil, List.length_set]; rfl),  trivial⟩) rfl) ?_
                      refine AC.drawW [⟨some 75, (aI (↑(keepL (old pc u.time) (al.take k)).length : Int)), [], [], [], [(12, (aI (↑(keepL (old pc u.time) (al.take k)).length : Int)))], []⟩,
      ⟨some 76, (aI ((↑(keepL (old pc u.time) (al.take k)).length : Int) + 1)), [], [], [0], [(75, (aI (↑(keepL (old pc u.time) (al.take k)).length : Int)))], []⟩,
      ⟨some 77, (aI (sumU (keepL (old pc u.time) (al.take k)))), [], [], [], [(13, (aI (sumU (keepL (old pc u.time) (al.take k)))))], []⟩,
      ⟨some 78, (aC (.p 3 0 0 1)), [], [], [], [(15, (aC (.p 3 0 0 0)))], []⟩,
      ⟨some 79, (aI x1.sum), [], [], [3], [(78, (aC (.p 3 0 0 1)))], [(3, (.box 44 [(cI x1.time), (cI x1.sum)]))]⟩,
      ⟨some 80, (aI ((sumU (keepL (old pc u.time) (al.take k))) + x1.sum)), [], [], [4, 2], [(77, (aI (sumU (keepL (old pc u.time) (al.take k))))), (79, (aI x1.sum))], []⟩,
      ⟨some 12, (aI ((↑(keepL (old pc u.time) (al.take k)).length : Int) + 1)), [], [], [1], [(76, (aI ((↑(keepL (old pc u.time) (al.take k)).length : Int) + 1)))], []⟩,
      ⟨some 13, (aI ((sumU (keepL (old pc u.time) (al.take k))) + x1.sum)), [], [], [5], [(80, (aI ((sumU (keepL (old pc u.time) (al.take k))) + x1.sum)))], []⟩] ⟨[(2, (aC (.p 0 0 0 0))), (5, (aC (.s 1 0 2 kp.length))), (6, (aC (.s 2 0 2 al.length))), (26, (aC (cR 2 ((l).map rUse)))), (27, (aI (↑l.length : Int))), (28, (aI (↑q : Int))), (51, (aI (↑al.length : Int))), (52, (aI (↑i : Int))), (11, (aI (↑i : Int))), (12, (aI ((↑(keepL (old pc u.time) (al.take k)).length : Int) + 1))), (13, (aI ((sumU (keepL (old pc u.time) (al.take k))) + x1.sum))), (58, (aC (.s 2 0 2 ((i) + 1)))), (59, (aI (↑((i) + 1) : Int))), (60, (aI (↑k : Int)))], [(2, (.arr 44 2 ((al).map rUse))), (1, (.arr 44 2 ((kp).map rUse))), (0, (.box 41 [(cI pc.ticks), (cI pc.count), (cI pc.sum)]))], 4⟩ [7, 6, 5, 4, 3, 2, 1, 0] mixed (by kernel_rfl) ?_ ?_ ?_ ?_
                      · exact ⟨.inl ⟨(Wanted.plain rfl), GOp.cast (g_move rfl rfl) rfl⟩,
      .inl ⟨(Wanted.plain rfl), GOp.cast (g_binI rfl rfl rfl (wrap_ok (by first | omega | (simp; done) | (simp; omega)))) rfl⟩,
      .inl ⟨(Wanted.plain rfl), GOp.cast (g_move rfl rfl) rfl⟩,
      .inl ⟨(Wanted.plain rfl), GOp.cast (g_fieldP rfl rfl Try.underlying44 rfl sz3 (by decide)) rfl⟩,
      .inl ⟨(Wanted.plain rfl), GOp.cast (g_loadB rfl rfl rfl Try.underlying3 rfl rfl) rfl⟩,
      .inl ⟨(Wanted.plain rfl), GOp.cast (g_binI rfl rfl rfl (wrap_ok (by first | omega | (simp; done) | (simp; omega)))) rfl⟩,
      .inl ⟨(Wanted.plain rfl), GOp.cast (g_assign rfl rfl) rfl⟩,
      .inl ⟨(Wanted.plain rfl), GOp.cast (g_assign rfl rfl) rfl⟩,
       trivial⟩
                      · exact ⟨⟨⟨rfl,  trivial⟩, trivial⟩, ⟨⟨⟨_, rfl, rfl, rfl⟩,  trivial⟩, trivial⟩, ⟨⟨rfl,  trivial⟩, trivial⟩, ⟨⟨rfl,  trivial⟩, trivial⟩, ⟨⟨⟨_, rfl, rfl, rfl⟩,  trivial⟩, ⟨rfl,  trivial⟩⟩, ⟨⟨⟨_, rfl, rfl, rfl⟩, ⟨_, rfl, rfl, rfl⟩,  trivial⟩, trivial⟩, ⟨⟨⟨_, rfl, rfl, rfl⟩,  trivial⟩, trivial⟩, ⟨⟨⟨_, rfl, rfl, rfl⟩,  trivial⟩, trivial⟩,  trivial⟩
                      · exact ⟨⟨rfl, rfl, rfl, rfl, rfl, rfl, rfl, rfl, rfl, ⟨_, rfl, rfl, rfl⟩, ⟨_, rfl, rfl, rfl⟩, rfl, rfl, rfl,  trivial⟩, ⟨rfl, rfl, rfl,  trivial⟩⟩
                      ·
                        refine block_ok ?_
                        refine then_ok ?_
                        refine AC.region ?_
                        refine AL.val (Wanted.plain rfl) (g_binI rfl rfl rfl (wrap_ok (by first | omega | (simp; done) | (simp; omega)))) rfl rfl ?_
                        refine AL.fast 1 rfl ?_
                        refine AL.nil ?_
                        refine then_ok ?_
                        refine ⟨k + 1, by first | omega | trivial, by first | omega | (simp; done) | (simp; omega), Weak.ren id (⟨by first | rfl | (simp only [AV.map, GV.map, CV.map, AB.map', id]; done) | (congr 3; omega) | (congr 4; omega) | (simp only [List.length_append, List.length_cons, List.length_nil, List.length_set]; rfl) | (first | (rw [keepL_take hx1, show old pc u.time x1 = false by (simp only [old, decide_eq_false_iff_not]; omega), if_neg Bool.false_ne_true, List.length_append, Int.natCast_add]; rfl) | (rw [keepL_take hx1, show old pc u.time x1 = false by (simp only [old, decide_eq_false_iff_not]; omega), if_neg Bool.false_ne_true, sumU_snoc]; rfl) | (rw [keepL_take hx1, show old pc u.time x1 = true by (simp only [old, decide_eq_true_eq]; omega), if_pos rfl, List.append_nil]; rfl)), by first | rfl | (simp only [AV.map, GV.map, CV.map, AB.map', id]; done) | (congr 3; omega) | (congr 4; omega) | (simp only [List.length_append, List.length_cons, List.length_nil, List.length_set]; rfl) | (first | (rw [keepL_take hx1, show old pc u.time x1 = false by (simp only [old, decide_eq_false_iff_not]; omega), if_neg Bool.false_ne_true, List.length_append, Int.natCast_add]; rfl) | (rw [keepL_take hx1, show old pc u.time x1 = false by (simp only [old, decide_eq_false_iff_not]; omega), if_neg Bool.false_ne_true, sumU_snoc]; rfl) | (rw [keepL_take hx1, show old pc u.time x1 = true by (simp only [old, decide_eq_true_eq]; omega), if_pos rfl, List.append_nil]; rfl)), by first | rfl | (simp only [AV.map, GV.map, CV.map, AB.map', id]; done) | (congr 3; omega) | (congr 4; omega) | (simp only [List.length_append, List.length_cons, List.length_nil, List.length_set]; rfl) | (first | (rw [keepL_take hx1, show old pc u.time x1 = false by (simp only [old, decide_eq_false_iff_not]; omega), if_neg Bool.false_ne_true, List.length_append, Int.natCast_add]; rfl) | (rw [keepL_take hx1, show old pc u.time x1 = false by (simp only [old, decide_eq_false_iff_not]; omega), if_neg Bool.false_ne_true, sumU_snoc]; rfl) | (rw [keepL_take hx1, show old pc u.time x1 = true by (simp only [old, decide_eq_true_eq]; omega), if_pos rfl, List.append_nil]; rfl)), by first | rfl | (simp only [AV.map, GV.map, CV.map, AB.map', id]; done) | (congr 3; omega) | (congr 4; omega) | (simp only [List.length_append, List.length_cons, List.length_nil, List.length_set]; rfl) | (first | (rw [keepL_take hx1, show old pc u.time x1 = false by (simp only [old, decide_eq_false_iff_not]; omega), if_neg Bool.false_ne_true, List.length_append, Int.natCast_add]; rfl) | (rw [keepL_take hx1, show old pc u.time x1 = false by (simp only [old, decide_eq_false_iff_not]; omega), if_neg Bool.false_ne_true, sumU_snoc]; rfl) | (rw [keepL_take hx1, show old pc u.time x1 = true by (simp only [old, decide_eq_true_eq]; omega), if_pos rfl, List.append_nil]; rfl)), by first | rfl | (simp only [AV.map, GV.map, CV.map, AB.map', id]; done) | (congr 3; omega) | (congr 4; omega) | (simp only [List.length_append, List.length_cons, List.length_nil, List.length_set]; rfl) | (first | (rw [keepL_take hx1, show old pc u.time x1 = false by (simp only [old, decide_eq_false_iff_not]; omega), if_neg Bool.false_ne_true, List.length_append, Int.natCast_add]; rfl) | (rw [keepL_take hx1, show old pc u.time x1 = false by (simp only [old, decide_eq_false_iff_not]; omega), if_neg Bool.false_ne_true, sumU_snoc]; rfl) | (rw [keepL_take hx1, show old pc u.time x1 = true by (simp only [old, decide_eq_true_eq]; omega), if_pos rfl, List.append_nil]; rfl)), by first | rfl | (simp only [AV.map, GV.map, CV.map, AB.map', id]; done) | (congr 3; omega) | (congr 4; omega) | (simp only [List.length_append, List.length_cons, List.length_nil, List.length_set]; rfl) | (first | (rw [keepL_take hx1, show old pc u.time x1 = false by (simp only [old, decide_eq_false_iff_not]; omega), if_neg Bool.false_ne_true, List.length_append, Int.natCast_add]; rfl) | (rw [keepL_take hx1, show old pc u.time x1 = false by (simp only [old, decide_eq_false_iff_not]; omega), if_neg Bool.false_ne_true, sumU_snoc]; rfl) | (rw [keepL_take hx1, show old pc u.time x1 = true by (simp only [old, decide_eq_true_eq]; omega), if_pos rfl, List.append_nil]; rfl)), by first | rfl | (simp only [AV.map, GV.map, CV.map, AB.map', id]; done) | (congr 3; omega) | (congr 4; omega) | (simp only [List.length_append, List.length_cons, List.length_nil, List.length_set]; rfl) | (first | (rw [keepL_take hx1, show old pc u.time x1 = false by (simp only [old, decide_eq_false_iff_not]; omega), if_neg Bool.false_ne_true, List.length_append, Int.natCast_add]; rfl) | (rw [keepL_take hx1, show old pc u.time x1 = false by (simp only [old, decide_eq_false_iff_not]; omega), if_neg Bool.false_ne_true, sumU_snoc]; rfl) | (rw [keepL_take hx1, show old pc u.time x1 = true by (simp only [old, decide_eq_true_eq]; omega), if_pos rfl, List.append_nil]; rfl)), by first | rfl | (simp only [AV.map, GV.map, CV.map, AB.map', id]; done) | (congr 3; omega) | (congr 4; omega) | (simp only [List.length_append, List.length_cons, List.length_nil, List.length_set]; rfl) | (first | (rw [keepL_take hx1, show old pc u.time x1 = false by (simp only [old, decide_eq_false_iff_not]; omega), if_neg Bool.false_ne_true, List.length_append, Int.natCast_add]; rfl) | (rw [keepL_take hx1, show old pc u.time x1 = false by (simp only [old, decide_eq_false_iff_not]; omega), if_neg Bool.false_ne_true, sumU_snoc]; rfl) | (rw [keepL_take hx1, show old pc u.time x1 = true by (simp only [old, decide_eq_true_eq]; omega), if_pos rfl, List.append_nil]; rfl)), by first | rfl | (simp only [AV.map, GV.map, CV.map, AB.map', id]; done) | (congr 3; omega) | (congr 4; omega) | (simp only [List.length_append, List.length_cons, List.length_nil, List.length_set]; rfl) | (first | (rw [keepL_take hx1, show old pc u.time x1 = false by (simp only [old, decide_eq_false_iff_not]; omega), if_neg Bool.false_ne_true, List.length_append, Int.natCast_add]; rfl) | (rw [keepL_take hx1, show old pc u.time x1 = false by (simp only [old, decide_eq_false_iff_not]; omega), if_neg Bool.false_ne_true, sumU_snoc]; rfl) | (rw [keepL_take hx1, show old pc u.time x1 = true by (simp only [old, decide_eq_true_eq]; omega), if_pos rfl, List.append_nil]; rfl)), by first | rfl | (simp only [AV.map, GV.map, CV.map, AB.map', id]; done) | (congr 3; omega) | (congr 4; omega) | (simp only [List.length_append, List.length_cons, List.length_nil, List.length_set]; rfl) | (first | (rw [keepL_take hx1, show old pc u.time x1 = false by (simp only [old, decide_eq_false_iff_not]; omega), if_neg Bool.false_ne_true, List.length_append, Int.natCast_add]; rfl) | (rw [keepL_take hx1, show old pc u.time x1 = false by (simp only [old, decide_eq_false_iff_not]; omega), if_neg Bool.false_ne_true, sumU_snoc]; rfl) | (rw [keepL_take hx1, show old pc u.time x1 = true by (simp only [old, decide_eq_true_eq]; omega), if_pos rfl, List.append_nil]; rfl)), by first | rfl | (simp only [AV.map, GV.map, CV.map, AB.map', id]; done) | (congr 3; omega) | (congr 4; omega) | (simp only [List.length_append, List.length_cons, List.length_nil, List.length_set]; rfl) | (first | (rw [keepL_take hx1, show old pc u.time x1 = false by (simp only [old, decide_eq_false_iff_not]; omega), if_neg Bool.false_ne_true, List.length_append, Int.natCast_add]; rfl) | (rw [keepL_take hx1, show old pc u.time x1 = false by (simp only [old, decide_eq_false_iff_not]; omega), if_neg Bool.false_ne_true, sumU_snoc]; rfl) | (rw [keepL_take hx1, show old pc u.time x1 = true by (simp only [old, decide_eq_true_eq]; omega), if_pos rfl, List.append_nil]; rfl)), by first | rfl | (simp only [AV.map, GV.map, CV.map, AB.map', id]; done) | (congr 3; omega) | (congr 4; omega) | (simp only [List.length_append, List.length_cons, List.length_nil, List.length_set]; rfl) | (first | (rw [keepL_take hx1, show old pc u.time x1 = false by (simp only [old, decide_eq_false_iff_not]; omega), if_neg Bool.false_ne_true, List.length_append, Int.natCast_add]; rfl) | (rw [keepL_take hx1, show old pc u.time x1 = false by (simp only [old, decide_eq_false_iff_not]; omega), if_neg Bool.false_ne_true, sumU_snoc]; rfl) | (rw [keepL_take hx1, show old pc u.time x1 = true by (simp only [old, decide_eq_true_eq]; omega), if_pos rfl, List.append_nil]; rfl)), by first | rfl | (simp only [AV.map, GV.map, CV.map, AB.map', id]; done) | (congr 3; omega) | (congr 4; omega) | (simp only [List.length_append, List.length_cons, List.length_nil, List.length_set]; rfl) | (first | (rw [keepL_take hx1, show old pc u.time x1 = false by (simp only [old, decide_eq_false_iff_not]; omega), if_neg Bool.false_ne_true, List.length_append, Int.natCast_add]; rfl) | (rw [keepL_take hx1, show old pc u.time x1 = false by (simp only [old, decide_eq_false_iff_not]; omega), if_neg Bool.false_ne_true, sumU_snoc]; rfl) | (rw [keepL_take hx1, show old pc u.time x1 = true by (simp only [old, decide_eq_true_eq]; omega), if_pos rfl, List.append_nil]; rfl)), by first | rfl | (simp only [AV.map, GV.map, CV.map, AB.map', id]; done) | (congr 3; omega) | (congr 4; omega) | (simp only [List.length_append, List.length_cons, List.length_nil, List.length_set]; rfl) | (first | (rw [keepL_take hx1, show old pc u.time x1 = false by (simp only [old, decide_eq_false_iff_not]; omega), if_neg Bool.false_ne_true, List.length_append, Int.natCast_add]; rfl) | (rw [keepL_take hx1, show old pc u.time x1 = false by (simp only [old, decide_eq_false_iff_not]; omega), if_neg Bool.false_ne_true, sumU_snoc]; rfl) | (rw [keepL_take hx1, show old pc u.time x1 = true by (simp only [old, decide_eq_true_eq]; omega), if_pos rfl, List.append_nil]; rfl)),  trivial⟩) (⟨by first | rfl | (simp only [AV.map, GV.map, CV.map, AB.map', id]; done) | (congr 3; omega) | (congr 4; omega) | (simp only [List.length_append, List.length_cons, List.length_nil, List.length_set]; rfl), by first | rfl | (simp only [AV.map, GV.map, CV.map, AB.map', id]; done) | (congr 3; omega) | (congr 4; omega) | (simp only [List.length_append, List.length_cons, List.length_nil, List.length_set]; rfl), by first | rfl | (simp only [AV.map, GV.map, CV.map, AB.map', id]; done) | (congr 3; omega) | (congr 4; omega) | (simp only [List.length_append, List.length_cons, List.length_nil, List.length_set]; rfl),  trivial⟩) rfl⟩
                    ·
                      have hc9' := hc9; try simp only [sumB, Bool.not_eq_true', Bool.not_eq_false', Bool.or_eq_true, Bool.or_eq_false_iff, Bool.and_eq_true, Bool.and_eq_false_imp, decide_eq_true_eq, decide_eq_false_iff_not, Bool.not_not, Bool.not_true, Bool.not_false] at hc9'
                      refine AC.skip ?_
                      refine block_ok ?_
                      refine then_ok ?_
                      refine AC.region ?_
                      refine AL.val (Wanted.plain rfl) (g_binI rfl rfl rfl (wrap_ok (by first | omega | (simp; done) | (simp; omega)))) rfl rfl ?_
                      refine AL.fast 1 rfl ?_
                      refine AL.nil ?_
                      refine then_ok ?_
                      refine ⟨k + 1, by first | omega | trivial, by first | omega | (simp; done) | (simp; omega), Weak.ren id (⟨by first | rfl | (simp only [AV.map, GV.map, CV.map, AB.map', id]; done) | (congr 3; omega) | (congr 4; omega) | (simp only [List.length_append, List.length_cons, List.length_nil, List.length_set]; rfl) | (first | (rw [keepL_take hx1, show old pc u.time x1 = false by (simp only [old, decide_eq_false_iff_not]; omega), if_neg Bool.false_ne_true, List.length_append, Int.natCast_add]; rfl) | (rw [keepL_take hx1, show old pc u.time x1 = false by (simp only [old, decide_eq_false_iff_not]; omega), if_neg Bool.false_ne_true, sumU_snoc]; rfl) | (rw [keepL_take hx1, show old pc u.time x1 = true by (simp only [old, decide_eq_true_eq]; omega), if_pos rfl, List.append_nil]; rfl)), by first | rfl | (simp only [AV.map, GV.map, CV.map, AB.map', id]; done) | (congr 3; omega) | (congr 4; omega) | (simp only [List.length_append, List.length_cons, List.length_nil, List.length_set]; rfl) | (first | (rw [keepL_take hx1, show old pc u.time x1 = false by (simp only [old, decide_eq_false_iff_not]; omega), if_neg Bool.false_ne_true, List.length_append, Int.natCast_add]; rfl) | (rw [keepL_take hx1, show old pc u.time x1 = false by (simp only [old, decide_eq_false_iff_not]; omega), if_neg Bool.false_ne_true, sumU_snoc]; rfl) | (rw [keepL_take hx1, show old pc u.time x1 = true by (simp only [old, decide_eq_true_eq]; omega), if_pos rfl, List.append_nil]; rfl)), by first | rfl | (simp only [AV.map, GV.map, CV.map, AB.map', id]; done) | (congr 3; omega) | (congr 4; omega) | (simp only [List.length_append, List.length_cons, List.length_nil, List.length_set]; rfl) | (first | (rw [keepL_take hx1, show old pc u.time x1 = false by (simp only [old, decide_eq_false_iff_not]; omega), if_neg Bool.false_ne_true, List.length_append, Int.natCast_add]; rfl) | (rw [keepL_take hx1, show old pc u.time x1 = false by (simp only [old, decide_eq_false_iff_not]; omega), if_neg Bool.false_ne_true, sumU_snoc]; rfl) | (rw [keepL_take hx1, show old pc u.time x1 = true by (simp only [old, decide_eq_true_eq]; omega), if_pos rfl, List.append_nil]; rfl)), by first | rfl | (simp only [AV.map, GV.map, CV.map, AB.map', id]; done) | (congr 3; omega) | (congr 4; omega) | (simp only [List.length_append, List.length_cons, List.length_nil, List.length_set]; rfl) | (first | (rw [keepL_take hx1, show old pc u.time x1 = false by (simp only [old, decide_eq_false_iff_not]; omega), if_neg Bool.false_ne_true, List.length_append, Int.natCast_add]; rfl) | (rw [keepL_take hx1, show old pc u.time x1 = false by (simp only [old, decide_eq_false_iff_not]; omega), if_neg Bool.false_ne_true, sumU_snoc]; rfl) | (rw [keepL_take hx1, show old pc u.time x1 = true by (simp only [old, decide_eq_true_eq]; omega), if_pos rfl, List.append_nil]; rfl)), by first | rfl | (simp only [AV.map, GV.map, CV.map, AB.map', id]; done) | (congr 3; omega) | (congr 4; omega) | (simp only [List.length_append, List.length_cons, List.length_nil, List.length_set]; rfl) | (first | (rw [keepL_take hx1, show old pc u.time x1 = false by (simp only [old, decide_eq_false_iff_not]; omega), if_neg Bool.false_ne_true, List.length_append, Int.natCast_add]; rfl) | (rw [keepL_take hx1, show old pc u.time x1 = false by (simp only [old, decide_eq_false_iff_not]; omega), if_neg Bool.false_ne_true, sumU_snoc]; rfl) | (rw [keepL_take hx1, show old pc u.time x1 = true by (simp only [old, decide_eq_true_eq]; omega), if_pos rfl, List.append_nil]; rfl)), by first | rfl | (simp only [AV.map, GV.map, CV.map, AB.map', id]; done) | (congr 3; omega) | (congr 4; omega) | (simp only [List.length_append, List.length_cons, List.length_nil, List.length_set]; rfl) | (first | (rw [keepL_take hx1, show old pc u.time x1 = false by (simp only [old, decide_eq_false_iff_not]; omega), if_neg Bool.false_ne_true, List.length_append, Int.natCast_add]; rfl) | (rw [keepL_take hx1, show old pc u.time x1 = false by (simp only [old, decide_eq_false_iff_not]; omega), if_neg Bool.false_ne_true, sumU_snoc]; rfl) | (rw [keepL_take hx1, show old pc u.time x1 = true by (simp only [old, decide_eq_true_eq]; omega), if_pos rfl, List.append_nil]; rfl)), by first | rfl | (simp only [AV.map, GV.map, CV.map, AB.map', id]; done) | (congr 3; omega) | (congr 4; omega) | (simp only [List.length_append, List.length_cons, List.length_nil, List.length_set]; rfl) | (first | (rw [keepL_take hx1, show old pc u.time x1 = false by (simp only [old, decide_eq_false_iff_not]; omega), if_neg Bool.false_ne_true, List.length_append, Int.natCast_add]; rfl) | (rw [keepL_take hx1, show old pc u.time x1 = false by (simp only [old, decide_eq_false_iff_not]; omega), if_neg Bool.false_ne_true, sumU_snoc]; rfl) | (rw [keepL_take hx1, show old pc u.time x1 = true by (simp only [old, decide_eq_true_eq]; omega), if_pos rfl, List.append_nil]; rfl)), by first | rfl | (simp only [AV.map, GV.map, CV.map, AB.map', id]; done) | (congr 3; omega) | (congr 4; omega) | (simp only [List.length_append, List.length_cons, List.length_nil, List.length_set]; rfl) | (first | (rw [keepL_take hx1, show old pc u.time x1 = false by (simp only [old, decide_eq_false_iff_not]; omega), if_neg Bool.false_ne_true, List.length_append, Int.natCast_add]; rfl) | (rw [keepL_take hx1, show old pc u.time x1 = false by (simp only [old, decide_eq_false_iff_not]; omega), if_neg Bool.false_ne_true, sumU_snoc]; rfl) | (rw [keepL_take hx1, show old pc u.time x1 = true by (simp only [old, decide_eq_true_eq]; omega), if_pos rfl, List.append_nil]; rfl)), by first | rfl | (simp only [AV.map, GV.map, CV.map, AB.map', id]; done) | (congr 3; omega) | (congr 4; omega) | (simp only [List.length_append, List.length_cons, List.length_nil, List.length_set]; rfl) | (first | (rw [keepL_take hx1, show old pc u.time x1 = false by (simp only [old, decide_eq_false_iff_not]; omega), if_neg Bool.false_ne_true, List.length_append, Int.natCast_add]; rfl) | (rw [keepL_take hx1, show old pc u.time x1 = false by (simp only [old, decide_eq_false_iff_not]; omega), if_neg Bool.false_ne_true, sumU_snoc]; rfl) | (rw [keepL_take hx1, show old pc u.time x1 = true by (simp only [old, decide_eq_true_eq]; omega), if_pos rfl, List.append_nil]; rfl)), by first | rfl | (simp only [AV.map, GV.map, CV.map, AB.map', id]; done) | (congr 3; omega) | (congr 4; omega) | (simp only [List.length_append, List.length_cons, List.length_nil, List.length_set]; rfl) | (first | (rw [keepL_take hx1, show old pc u.time x1 = false by (simp only [old, decide_eq_false_iff_not]; omega), if_neg Bool.false_ne_true, List.length_append, Int.natCast_add]; rfl) | (rw [keepL_take hx1, show old pc u.time x1 = false by (simp only [old, decide_eq_false_iff_not]; omega), if_neg Bool.false_ne_true, sumU_snoc]; rfl) | (rw [keepL_take hx1, show old pc u.time x1 = true by (simp only [old, decide_eq_true_eq]; omega), if_pos rfl, List.append_nil]; rfl)), by first | rfl | (simp only [AV.map, GV.map, CV.map, AB.map', id]; done) | (congr 3; omega) | (congr 4; omega) | (simp only [List.length_append, List.length_cons, List.length_nil, List.length_set]; rfl) | (first | (rw [keepL_take hx1, show old pc u.time x1 = false by (simp only [old, decide_eq_false_iff_not]; omega), if_neg Bool.false_ne_true, List.length_append, Int.natCast_add]; rfl) | (rw [keepL_take hx1, show old pc u.time x1 = false by (simp only [old, decide_eq_false_iff_not]; omega), if_neg Bool.false_ne_true, sumU_snoc]; rfl) | (rw [keepL_take hx1, show old pc u.time x1 = true by (simp only [old, decide_eq_true_eq]; omega), if_pos rfl, List.append_nil]; rfl)), by first | rfl | (simp only [AV.map, GV.map, CV.map, AB.map', id]; done) | (congr 3; omega) | (congr 4; omega) | (simp only [List.length_append, List.length_cons, List.length_nil, List.length_set]; rfl) | (first | (rw [keepL_take hx1, show old pc u.time x1 = false by (simp only [old, decide_eq_false_iff_not]; omega), if_neg Bool.false_ne_true, List.length_append, Int.natCast_add]; rfl) | (rw [keepL_take hx1, show old pc u.time x1 = false by (simp only [old, decide_eq_false_iff_not]; omega), if_neg Bool.false_ne_true, sumU_snoc]; rfl) | (rw [keepL_take hx1, show old pc u.time x1 = true by (simp only [old, decide_eq_true_eq]; omega), if_pos rfl, List.append_nil]; rfl)), by first | rfl | (simp only [AV.map, GV.map, CV.map, AB.map', id]; done) | (congr 3; omega) | (congr 4; omega) | (simp only [List.length_append, List.length_cons, List.length_nil, List.length_set]; rfl) | (first | (rw [keepL_take hx1, show old pc u.time x1 = false by (simp only [old, decide_eq_false_iff_not]; omega), if_neg Bool.false_ne_true, List.length_append, Int.natCast_add]; rfl) | (rw [keepL_take hx1, show old pc u.time x1 = false by (simp only [old, decide_eq_false_iff_not]; omega), if_neg Bool.false_ne_true, sumU_snoc]; rfl) | (rw [keepL_take hx1, show old pc u.time x1 = true by (simp only [old, decide_eq_true_eq]; omega), if_pos rfl, List.append_nil]; rfl)), by first | rfl | (simp only [AV.map, GV.map, CV.map, AB.map', id]; done) | (congr 3; omega) | (congr 4; omega) | (simp only [List.length_append, List.length_cons, List.length_nil, List.length_set]; rfl) | (first | (rw [keepL_take hx1, show old pc u.time x1 = false by (simp only [old, decide_eq_false_iff_not]; omega), if_neg Bool.false_ne_true, List.length_append, Int.natCast_add]; rfl) | (rw [keepL_take hx1, show old pc u.time x1 = false by (simp only [old, decide_eq_false_iff_not]; omega), if_neg Bool.false_ne_true, sumU_snoc]; rfl) | (rw [keepL_take hx1, show old pc u.time x1 = true by (simp only [old, decide_eq_true_eq]; omega), if_pos rfl, List.append_nil]; rfl)),  trivial⟩) (⟨by first | rfl | (simp only [AV.map, GV.map, CV.map, AB.map', id]; done) | (congr 3; omega) | (congr 4; omega) | (simp only [List.length_append, List.length_cons, List.length_nil, List.length_set]; rfl), by first | rfl | (simp only [AV.map, GV.map, CV.map, AB.map', id]; done) | (congr 3; omega) | (congr 4; omega) | (simp only [List.length_append, List.length_cons, List.length_nil, List.length_set]; rfl), by first | rfl | (simp only [AV.map, GV.map, CV.map, AB.map', id]; done) | (congr 3; omega) | (congr 4; omega) | (simp only [List.length_append, List.length_cons, List.length_nil, List.length_set]; rfl),  trivial⟩) rfl⟩
                ·
                  have hc8' := hc8; try simp only [sumB, Bool.not_eq_true', Bool.not_eq_false', Bool.or_eq_true, Bool.or_eq_false_iff, Bool.and_eq_true, Bool.and_eq_false_imp, decide_eq_true_eq, decide_eq_false_iff_not, Bool.not_not, Bool.not_true, Bool.not_false] at hc8'
                  refine AC.exit ?_
                  refine then_exit ?_
                  refine then_exit ?_
                  refine block_hit ?_
                  refine then_ok ?_
                  refine AC.cutB 91 ((decide ((↑(keepL (old pc u.time) (al.take k)).length : Int) > pc.count)) || (decide ((sumU (keepL (old pc u.time) (al.take k))) > pc.sum))) ?_ ?_
                  ·
                    refine AC.region ?_
                    refine AL.fast 1 rfl ?_
                    refine AL.val (Wanted.plain rfl) (g_fieldP rfl rfl Try.underlying41 rfl sz3 (by decide)) rfl rfl ?_
                    refine AL.val (Wanted.plain rfl) (g_loadB rfl rfl rfl Try.underlying3 rfl rfl) rfl rfl ?_
                    refine AL.val (Wanted.plain rfl) (g_binI rfl rfl rfl rfl) rfl rfl ?_
                    refine AL.fast 1 rfl ?_
                    refine AL.dec (t := 86) rfl (fun hb10 => ?_) (fun hb10 => ?_)
                    ·
                      have hb10' := hb10; try simp only [sumB, Bool.not_eq_true', Bool.not_eq_false', Bool.or_eq_true, Bool.or_eq_false_iff, Bool.and_eq_true, Bool.and_eq_false_imp, decide_eq_true_eq, decide_eq_false_iff_not, Bool.not_not, Bool.not_true, Bool.not_false] at hb10'
                      refine AL.fast 5 rfl ?_
                      refine AL.nil ?_
                      refine then_ok ?_
                      exact Weak.popB 11 rfl rfl (by first | (simp [hb10]; done) | (simp_all; done) | (exfalso; simp_all; done) | (simp_all; omega)) rfl
                    ·
                      have hb10' := hb10; try simp only [sumB, Bool.not_eq_true', Bool.not_eq_false', Bool.or_eq_true, Bool.or_eq_false_iff, Bool.and_eq_true, Bool.and_eq_false_imp, decide_eq_true_eq, decide_eq_false_iff_not, Bool.not_not, Bool.not_true, Bool.not_false] at hb10'
                      refine AL.fast 1 rfl ?_
                      refine AL.val (Wanted.yes rfl rfl rfl) (g_fieldP rfl rfl Try.underlying41 rfl sz3 (by decide)) rfl rfl ?_
                      refine AL.val (Wanted.yes rfl rfl rfl) (g_loadB rfl rfl rfl Try.underlying3 rfl rfl) rfl rfl ?_
                      refine AL.val (Wanted.yes rfl rfl rfl) (g_binI rfl rfl rfl rfl) rfl rfl ?_
                      refine AL.fast 1 rfl ?_
                      refine AL.nil ?_
                      refine then_ok ?_
                      exact Weak.popB 11 rfl rfl (by first | (simp [hb10]; done) | (simp_all; done) | (exfalso; simp_all; done) | (simp_all; omega)) rfl
                  ·
                    refine AC.cond rfl (fun hc11 => ?_) (fun hc11 => ?_)
                    ·
                      have hc11' := hc11; try simp only [sumB, Bool.not_eq_true', Bool.not_eq_false', Bool.or_eq_true, Bool.or_eq_false_iff, Bool.and_eq_true, Bool.and_eq_false_imp, decide_eq_true_eq, decide_eq_false_iff_not, Bool.not_not, Bool.not_true, Bool.not_false] at hc11'
                      refine AC.seq ?_
                      refine AC.region ?_
                      refine AL.fast 1 rfl ?_
                      refine AL.nil ?_
                      refine then_ok ?_
                      refine AC.ret ?_
                      refine block_ret ?_
                      refine then_ret ?_
                      refine then_ret ?_
                      refine block_ret ?_
                      refine then_ret ?_
                      refine retQ_mk (av' := outOf [(.c (cB false))]) (nb' := []) (retQ_ret ⟨[(4, (aB false))], [], 0⟩ [.tmp 4] [(.c (cB false))] (Weak.ren id (⟨by first | rfl | (simp only [AV.map, GV.map, CV.map, AB.map', id]; done) | (congr 3; omega) | (congr 4; omega) | (simp only [List.length_append, List.length_cons, List.length_nil, List.length_set]; rfl),  trivial⟩) (trivial) rfl) rfl ⟨.tmp rfl, trivial⟩ trivial) ?_ ?_
                      · exact congrArg aB (show (false) = true by (exfalso; obtain rfl : k = i + 1 := (by omega); have hg := hi0_1.good i u hu; unfold recentP at hg; omega))
                      · rfl
                    ·
                      have hc11' := hc11; try simp only [sumB, Bool.not_eq_true', Bool.not_eq_false', Bool.or_eq_true, Bool.or_eq_false_iff, Bool.and_eq_true, Bool.and_eq_false_imp, decide_eq_true_eq, decide_eq_false_iff_not, Bool.not_not, Bool.not_true, Bool.not_false] at hc11'
                      refine AC.skip ?_
                      refine block_ok ?_
                      refine then_ok ?_
                      refine AC.region ?_
                      refine AL.val (Wanted.plain rfl) (g_binI rfl rfl rfl (wrap_ok (by first | omega | (simp; done) | (simp; omega)))) rfl rfl ?_
                      refine AL.fast 1 rfl ?_
                      refine AL.nil ?_
                      refine then_ok ?_
                      refine ⟨i + 1, by first | omega | trivial, by first | omega | (simp; done) | (simp; omega), Weak.ren id (⟨by first | rfl | (simp only [AV.map, GV.map, CV.map, AB.map', id]; done) | (congr 3; omega) | (congr 4; omega) | (simp only [List.length_append, List.length_cons, List.length_nil, List.length_set]; rfl), by first | rfl | (simp only [AV.map, GV.map, CV.map, AB.map', id]; done) | (congr 3; omega) | (congr 4; omega) | (simp only [List.length_append, List.length_cons, List.length_nil, List.length_set]; rfl), by first | rfl | (simp only [AV.map, GV.map, CV.map, AB.map', id]; done) | (congr 3; omega) | (congr 4; omega) | (simp only [List.length_append, List.length_cons, List.length_nil, List.length_set]; rfl), by first | rfl | (simp only [AV.map, GV.map, CV.map, AB.map', id]; done) | (congr 3; omega) | (congr 4; omega) | (simp only [List.length_append, List.length_cons, List.length_nil, List.length_set]; rfl), by first | rfl | (simp only [AV.map, GV.map, CV.map, AB.map', id]; done) | (congr 3; omega) | (congr 4; omega) | (simp only [List.length_append, List.length_cons, List.length_nil, List.length_set]; rfl), by first | rfl | (simp only [AV.map, GV.map, CV.map, AB.map', id]; done) | (congr 3; omega) | (congr 4; omega) | (simp only [List.length_append, List.length_cons, List.length_nil, List.length_set]; rfl), by first | rfl | (simp only [AV.map, GV.map, CV.map, AB.map', id]; done) | (congr 3; omega) | (congr 4; omega) | (simp only [List.length_append, List.length_cons, List.length_nil, List.length_set]; rfl), by first | rfl | (simp only [AV.map, GV.map, CV.map, AB.map', id]; done) | (congr 3; omega) | (congr 4; omega) | (simp only [List.length_append, List.length_cons, List.length_nil, List.length_set]; rfl),  trivial⟩) (⟨by first | rfl | (simp only [AV.map, GV.map, CV.map, AB.map', id]; done) | (congr 3; omega) | (congr 4; omega) | (simp only [List.length_append, List.length_cons, List.length_nil, List.length_set]; rfl), by first | rfl | (simp only [AV.map, GV.map, CV.map, AB.map', id]; done) | (congr 3; omega) | (congr 4; omega) | (simp only [List.length_append, List.length_cons, List.length_nil, List.length_set]; rfl), by first | rfl | (simp only [AV.map, GV.map, CV.map, AB.map', id]; done) | (congr 3; omega) | (congr 4; omega) | (simp only [List.length_append, List.length_cons, List.length_nil, List.length_set]; rfl),  trivial⟩) rfl⟩
            ·
              have hc7' := hc7; try simp only [sumB, Bool.not_eq_true', Bool.not_eq_false', Bool.or_eq_true, Bool.or_eq_false_iff, Bool.and_eq_true, Bool.and_eq_false_imp, decide_eq_true_eq, decide_eq_false_iff_not, Bool.not_not, Bool.not_true, Bool.not_false] at hc7'
              refine AC.exit ?_
              refine then_exit ?_
              refine then_exit ?_
              refine block_hit ?_
              refine then_ok ?_
              refine AC.seq ?_
              refine AC.region ?_
              refine AL.fast 1 rfl ?_
              refine AL.nil ?_
              refine then_ok ?_
              refine AC.ret ?_
              refine retQ_mk (av' := outOf [(.c (cB true))]) (nb' := []) (retQ_ret ⟨[(4, (aB true))], [], 0⟩ [.tmp 4] [(.c (cB true))] (Weak.ren id (⟨by first | rfl | (simp only [AV.map, GV.map, CV.map, AB.map', id]; done) | (congr 3; omega) | (congr 4; omega) | (simp only [List.length_append, List.length_cons, List.length_nil, List.length_set]; rfl),  trivial⟩) (trivial) rfl) rfl ⟨.tmp rfl, trivial⟩ trivial) ?_ ?_
              · rfl
              · rfl
end Go.Proofs.Ytgmcdlfmifijlaa.Dev
