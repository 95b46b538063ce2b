/- paylaw5.PostOnce. -/
import Derived.Test.YtgmcdlfmifijlaaDPost4
import Derived.Test.YtgmcdlfmifijlaaDSh21
import Derived.Test.YtgmcdlfmifijlaaDPlOnce
set_option linter.unusedVariables false
set_option linter.unusedSimpArgs false
namespace Go.Proofs.Ytgmcdlfmifijlaa.Dev
open Go.RowKit

set_option maxRecDepth 100000 in
set_option maxHeartbeats 4000000 in
theorem c_PostOnce (l : List Act) : Fn Try.prog 10 [(.c (cR 3 ((l).map rAct)))] (aB true) [] := by
  refine Fn.mk' 153 [(0, (aC (cR 3 ((l).map rAct))))] Try.func10 rfl rfl rfl rfl ?_
  intro W0 T0
  refine AC.len1 0 rfl (fun hlen0 => ?_)
  refine AC.seq ?_
  refine AC.region ?_
  refine AL.fast 1 rfl ?_
  refine AL.nil ?_
  refine then_ok ?_
  refine AC.seq ?_
  refine AC.seq ?_
  refine AC.region ?_
  refine AL.call (n' := 0) (h' := []) (Wanted.plain rfl) (g_call 0 (c_post_alive   ) en56 rfl rfl trivial trivial trivial rfl rfl rfl rfl) rfl rfl rfl rfl rfl ?_
  refine AL.val (Wanted.plain rfl) (g_notB rfl rfl) rfl rfl ?_
  refine AL.nil ?_
  refine then_ok ?_
  refine AC.cond rfl (fun hno => by cases hno) (fun _ => ?_)
  refine AC.skip ?_
  refine then_ok ?_
  refine AC.seq ?_
  refine AC.seq ?_
  refine AC.region ?_
  refine AL.fast 1 rfl ?_
  refine AL.val (Wanted.plain rfl) (g_lenM rfl rfl rfl rfl rfl Try.underlying69) rfl rfl ?_
  refine AL.val (Wanted.plain rfl) (g_binI rfl rfl rfl rfl) rfl rfl ?_
  refine AL.nil ?_
  refine then_ok ?_
  refine AC.cond rfl (fun hc2 => ?_) (fun hc2 => ?_)
  ·
    have hc2' := hc2; try simp only [sumB, Bool.not_eq_true', Bool.not_eq_false', Bool.or_eq_true, Bool.or_eq_false_iff, Bool.and_eq_true, Bool.and_eq_false_imp, decide_eq_true_eq, decide_eq_false_iff_not, Bool.not_not, Bool.not_true, Bool.not_false] at hc2'
    refine AC.seq ?_
    refine AC.region ?_
    refine AL.fast 1 rfl ?_
    refine AL.nil ?_
    refine then_ok ?_
    refine AC.ret ?_
    refine then_ret ?_
    refine retQ_mk (av' := outOf [(.c (cB true))]) (nb' := []) (retQ_ret ⟨[(2, (aB true))], [], 0⟩ [.tmp 2] [(.c (cB true))] (Weak.ren id (⟨by first | rfl | (simp only [AV.map, GV.map, CV.map, AB.map', id]; done) | (congr 3; omega) | (congr 4; omega) | (simp only [List.length_append, List.length_cons, List.length_nil, List.length_set]; rfl), trivial⟩) (trivial) rfl) rfl ⟨.tmp rfl, trivial⟩ trivial) ?_ ?_
    · rfl
    · rfl
  ·
    have hc2' := hc2; try simp only [sumB, Bool.not_eq_true', Bool.not_eq_false', Bool.or_eq_true, Bool.or_eq_false_iff, Bool.and_eq_true, Bool.and_eq_false_imp, decide_eq_true_eq, decide_eq_false_iff_not, Bool.not_not, Bool.not_true, Bool.not_false] at hc2'
    refine AC.skip ?_
    refine then_ok ?_
    refine AC.seq ?_
    refine AC.region ?_
    refine AL.new (n' := 1) (Wanted.plain rfl) (g_alloc 0 rfl zv58 rfl rfl rfl) rfl rfl rfl ?_
    refine AL.nil ?_
    refine then_ok ?_
    refine AC.seq ?_
    refine AC.region ?_
    refine AL.fast 3 rfl ?_
    refine AL.nil ?_
    refine then_ok ?_
    refine AC.seq ?_
    refine AC.region ?_
    refine AL.fast 1 rfl ?_
    refine AL.nil ?_
    refine then_ok ?_
    refine AC.seq ?_
    refine AC.seq ?_
    refine AC.region ?_
    refine AL.fast 1 rfl ?_
    refine AL.val (Wanted.plain rfl) (g_lenM rfl rfl rfl rfl rfl Try.underlying69) rfl rfl ?_
    refine AL.fast 1 rfl ?_
    refine AL.nil ?_
    refine then_ok ?_
    refine AC.block ?_
    refine AC.weak (Weak.nil 4 60 4 (by decide) rfl) ?_
    refine AC.weak (Weak.nil 5 60 4 (by decide) rfl) ?_
    refine AC.weak (Weak.nil 6 60 4 (by decide) rfl) ?_
    refine AC.weak (Weak.nilB (n' := 5) (h' := [(4, (.arr 60 4 ((([] : List Transfer)).map rTransfer))), (3, (.arr 60 4 ((([] : List Transfer)).map rTransfer))), (2, (.arr 60 4 ((([] : List Transfer)).map rTransfer))), (1, (.arr 60 4 ((([] : List Transfer)).map rTransfer))), (0, (.box 58 [(cI 0), (.s 4 0 4 0)]))]) 0 1 60 4 58 (by decide) rfl rfl rfl rfl rfl) ?_
    refine AC.loop (β := Bool × Nat × Sender × List Transfer × List Transfer × List Transfer × Int) (fun (p : Bool × Nat × Sender × List Transfer × List Transfer × List Transfer × Int) => match p with | (false, q, s, put, way, got, seen) => ⟨[(3, (aC (.p 0 0 0 0))), (4, (aC (.s 1 0 4 put.length))), (5, (aC (.s 2 0 4 way.length))), (6, (aC (.s 3 0 4 got.length))), (7, (aI seen)), (23, (aC (cR 3 ((l).map rAct)))), (24, (aI (↑l.length : Int))), (25, (aI (↑q : Int)))], [(4, (.arr 60 4 ((s.kept).map rTransfer))), (3, (.arr 60 4 ((got).map rTransfer))), (2, (.arr 60 4 ((way).map rTransfer))), (1, (.arr 60 4 ((put).map rTransfer))), (0, (.box 58 [(cI s.sent), (.s 4 0 4 s.kept.length)]))], 5⟩ | (true, q, s, put, way, got, seen) => ⟨[(3, (aC (.p 0 0 0 0))), (4, (aC (.s 1 0 4 put.length))), (5, (aC (.sx 2 0 4 way.length way.length false))), (6, (aC (.s 3 0 4 got.length))), (7, (aI seen)), (23, (aC (cR 3 ((l).map rAct)))), (24, (aI (↑l.length : Int))), (25, (aI (↑q : Int)))], [(4, (.arr 60 4 ((s.kept).map rTransfer))), (3, (.arr 60 4 ((got).map rTransfer))), (2, (.arr 60 4 ((way).map rTransfer))), (1, (.arr 60 4 ((put).map rTransfer))), (0, (.box 58 [(cI s.sent), (.s 4 0 4 s.kept.length)]))], 5⟩) (fun (p : Bool × Nat × Sender × List Transfer × List Transfer × List Transfer × Int) => match p with | (_, q, s, put, way, got, seen) => q ≤ l.length ∧ Once put way got s seen ∧ way.length ≤ 500 ∧ put.length ≤ q) (fun (p : Bool × Nat × Sender × List Transfer × List Transfer × List Transfer × Int) => match p with | (_, q, s, put, way, got, seen) => l.length - q) (false, 0, (⟨0, []⟩ : Sender), ([] : List Transfer), ([] : List Transfer), ([] : List Transfer), 0) ?_ ?_ ?_
    · exact ⟨by omega, once_start, by simp, by simp⟩
    · exact Weak.ren id (by refine ⟨?_, ?_, ?_, ?_, ?_, ?_, ?_, ?_,  trivial⟩ <;> first | rfl | (simp only [AV.map, GV.map, CV.map, AB.map', id]; done) | (congr 3; omega) | (congr 4; omega) | (simp only [List.length_append, List.length_cons, List.length_nil, List.length_set]; rfl)) (by refine ⟨?_, ?_, ?_, ?_, ?_,  trivial⟩ <;> first | rfl | (simp only [AV.map, GV.map, CV.map, AB.map', id]; done) | (congr 3; omega) | (congr 4; omega) | (simp only [List.length_append, List.length_cons, List.length_nil, List.length_set]; rfl)) rfl
    ·
      rintro ⟨vflag, q, s, put, way, got, seen⟩ ⟨hi0_0, hi0_1, hi0_2, hi0_3⟩
      have hI := hi0_1.inI
      have hkl := hi0_1.klen
      have hgl := hi0_1.glen
      have hs0 := hi0_1.s0
      have hs1 := hi0_1.s1
      cases vflag
      ·
        refine AC.seq ?_
        refine AC.region ?_
        refine AL.val (Wanted.plain rfl) (g_binI rfl rfl rfl rfl) rfl rfl ?_
        refine AL.nil ?_
        refine then_ok ?_
        refine AC.seq ?_
        refine AC.cond rfl (fun hc3 => ?_) (fun hc3 => ?_)
        ·
          have hc3' := hc3; try simp only [sumB, Bool.not_eq_true', Bool.not_eq_false', Bool.or_eq_true, Bool.or_eq_false_iff, Bool.and_eq_true, Bool.and_eq_false_imp, decide_eq_true_eq, decide_eq_false_iff_not, Bool.not_not, Bool.not_true, Bool.not_false] at hc3'
          refine AC.skip ?_
          refine then_ok ?_
          refine AC.seq ?_
          refine AC.block ?_
          refine AC.seq ?_
          refine AC.region ?_
          obtain ⟨x1, hx1⟩ := exget (xs := l) (i := q) (by first | omega | (simp; done) | (simp; omega))
          refine AL.val (Wanted.plain rfl) (g_indexQ (i := q) rfl rfl rfl Try.underlying69 sz71 (by first | omega | (simp; done) | (simp; omega)) (getmap hx1)) rfl rfl ?_
          refine AL.val (Wanted.plain rfl) (g_loadQs rfl rfl Try.underlying71 rfl sz71 rfl rfl) rfl rfl ?_
          refine AL.new (n' := 6) (Wanted.plain rfl) (g_alloc 5 rfl zv71 rfl rfl rfl) rfl rfl rfl ?_
          refine AL.sto (h' := [(5, (.box 71 [(cI x1.kind), (cI x1.at_), (cI x1.sum)])), (4, (.arr 60 4 ((s.kept).map rTransfer))), (3, (.arr 60 4 ((got).map rTransfer))), (2, (.arr 60 4 ((way).map rTransfer))), (1, (.arr 60 4 ((put).map rTransfer))), (0, (.box 58 [(cI s.sent), (.s 4 0 4 s.kept.length)]))]) (Wanted.plain rfl) (g_storeB rfl rfl rfl rfl rfl sz71 rfl (Nat.le_of_ble_eq_true rfl) rfl) rfl rfl rfl rfl ?_
          refine AL.nil ?_
          refine then_ok ?_
          refine AC.seq ?_
          refine AC.seq ?_
          refine AC.region ?_
          refine AL.val (Wanted.plain rfl) (g_fieldP rfl rfl Try.underlying71 rfl sz3 (by decide)) rfl rfl ?_
          refine AL.val (Wanted.plain rfl) (g_loadB rfl rfl rfl Try.underlying3 rfl rfl) rfl rfl ?_
          refine AL.nil ?_
          refine then_ok ?_
          refine AC.block ?_
          refine AC.seq ?_
          refine AC.region ?_
          refine AL.val (Wanted.plain rfl) (g_binI rfl rfl rfl rfl) rfl rfl ?_
          refine AL.fast 1 rfl ?_
          refine AL.nil ?_
          refine then_ok ?_
          refine AC.cond rfl (fun hc4 => ?_) (fun hc4 => ?_)
          ·
            have hc4' := hc4; try simp only [sumB, Bool.not_eq_true', Bool.not_eq_false', Bool.or_eq_true, Bool.or_eq_false_iff, Bool.and_eq_true, Bool.and_eq_false_imp, decide_eq_true_eq, decide_eq_false_iff_not, Bool.not_not, Bool.not_true, Bool.not_false] at hc4'
            refine AC.seq ?_
            refine AC.region ?_
            refine AL.val (Wanted.plain rfl) (g_loadBs rfl rfl rfl Try.underlying58 rfl sz58 rfl rfl) rfl rfl ?_
            refine AL.val (Wanted.plain rfl) (g_fieldP rfl rfl Try.underlying71 rfl sz3 (by decide)) rfl rfl ?_
            refine AL.val (Wanted.plain rfl) (g_loadB rfl rfl rfl Try.underlying3 rfl rfl) rfl rfl ?_
            refine AL.val (Wanted.plain rfl) (g_build (ys := [(1, (.c (cI 1))), (2, (.c (cI 1))), (3, (.c (cI x1.sum)))]) rfl bld60 rfl ⟨⟨rfl, rfl⟩, ⟨rfl, rfl⟩, ⟨rfl, rfl⟩,  trivial⟩ rfl rfl) rfl rfl ?_
            obtain ⟨x0, e0, hr0⟩ : ∃ (x0 : Sender) (e0 : Int), putS s (⟨0, 1, 1, x1.sum⟩ : Transfer) = (x0, e0) := ⟨_, _, rfl⟩
            have hpl := @put_len _ _ _ _ hr0
            refine AL.call (n' := 7) (h' := [(6, (.arr 60 4 ((x0.kept).map rTransfer))), (5, (.box 71 [(cI x1.kind), (cI x1.at_), (cI x1.sum)])), (4, (.arr 60 4 ((s.kept).map rTransfer))), (3, (.arr 60 4 ((got).map rTransfer))), (2, (.arr 60 4 ((way).map rTransfer))), (1, (.arr 60 4 ((put).map rTransfer))), (0, (.box 58 [(cI s.sent), (.s 4 0 4 s.kept.length)]))]) (Wanted.plain rfl) (g_callE 6 [4] (c_post_Put s (⟨0, 1, 1, x1.sum⟩ : Transfer) (by first | assumption | exact inI_out (by assumption) (by omega) | exact inI_back (by assumption) (by assumption) | (simp [InI]; done)) x0 e0 hr0) en50 rfl rfl ⟨⟨_, rfl, .g ⟨.d _, .s rfl (by decide) (by first | omega | (simp; done) | (simp; omega)),  trivial⟩⟩, ⟨_, rfl, .g ⟨.d _, .d _, .d _, .d _,  trivial⟩⟩,  trivial⟩ ⟨⟨rfl, trivial,  trivial⟩, rfl,  trivial⟩ ⟨(isv_rTransfer _),  trivial⟩ rfl rfl rfl rfl) rfl rfl rfl rfl rfl ?_
            refine AL.fast 1 rfl ?_
            refine AL.val (Wanted.plain rfl) (g_extract rfl rfl rfl) rfl rfl ?_
            refine AL.val (Wanted.plain rfl) (g_extract rfl rfl rfl) rfl rfl ?_
            refine AL.new (n' := 8) (Wanted.plain rfl) (g_alloc 7 rfl zv58 rfl rfl rfl) rfl rfl rfl ?_
            refine AL.sto (h' := [(7, (.box 58 [(cI x0.sent), (.s 6 0 4 x0.kept.length)])), (6, (.arr 60 4 ((x0.kept).map rTransfer))), (5, (.box 71 [(cI x1.kind), (cI x1.at_), (cI x1.sum)])), (4, (.arr 60 4 ((s.kept).map rTransfer))), (3, (.arr 60 4 ((got).map rTransfer))), (2, (.arr 60 4 ((way).map rTransfer))), (1, (.arr 60 4 ((put).map rTransfer))), (0, (.box 58 [(cI s.sent), (.s 4 0 4 s.kept.length)]))]) (Wanted.plain rfl) (g_storeB rfl rfl rfl rfl rfl sz58 rfl (Nat.le_of_ble_eq_true rfl) rfl) rfl rfl rfl rfl ?_
            refine AL.fast 1 rfl ?_
            refine AL.nil ?_
            refine then_ok ?_
            refine AC.seq ?_
            refine AC.region ?_
            refine AL.fast 1 rfl ?_
            refine AL.val (Wanted.plain rfl) (g_binI rfl rfl rfl rfl) rfl rfl ?_
            refine AL.nil ?_
            refine then_ok ?_
            refine AC.cond rfl (fun hc5 => ?_) (fun hc5 => ?_)
            ·
              have hc5' := hc5; try simp only [sumB, Bool.not_eq_true', Bool.not_eq_false', Bool.or_eq_true, Bool.or_eq_false_iff, Bool.and_eq_true, Bool.and_eq_false_imp, decide_eq_true_eq, decide_eq_false_iff_not, Bool.not_not, Bool.not_true, Bool.not_false] at hc5'
              refine AC.seq ?_
              refine AC.region ?_
              refine AL.val (Wanted.plain rfl) (g_loadBs rfl rfl rfl Try.underlying58 rfl sz58 rfl rfl) rfl rfl ?_
              refine AL.sto (h' := [(7, (.box 58 [(cI x0.sent), (.s 6 0 4 x0.kept.length)])), (6, (.arr 60 4 ((x0.kept).map rTransfer))), (5, (.box 71 [(cI x1.kind), (cI x1.at_), (cI x1.sum)])), (4, (.arr 60 4 ((s.kept).map rTransfer))), (3, (.arr 60 4 ((got).map rTransfer))), (2, (.arr 60 4 ((way).map rTransfer))), (1, (.arr 60 4 ((put).map rTransfer))), (0, (.box 58 [(cI x0.sent), (.s 6 0 4 x0.kept.length)]))]) (Wanted.plain rfl) (g_storeB rfl rfl rfl rfl rfl sz58 rfl (Nat.le_of_ble_eq_true rfl) rfl) rfl rfl rfl rfl ?_
              refine AL.nil ?_
              refine then_ok ?_
              refine AC.region ?_
              refine AL.fast 1 rfl ?_
              refine AL.val (Wanted.plain rfl) (g_fieldP rfl rfl Try.underlying58 rfl sz56 (by decide)) rfl rfl ?_
              refine AL.val (Wanted.plain rfl) (g_loadB rfl rfl rfl Try.underlying56 rfl rfl) rfl rfl ?_
              refine AL.val (Wanted.plain rfl) (g_fieldP rfl rfl Try.underlying58 rfl sz56 (by decide)) rfl rfl ?_
              refine AL.val (Wanted.plain rfl) (g_loadB rfl rfl rfl Try.underlying56 rfl rfl) rfl rfl ?_
              refine AL.val (Wanted.plain rfl) (g_lenS rfl rfl rfl rfl rfl Try.underlying56) rfl rfl ?_
              refine AL.val (Wanted.plain rfl) (g_binI rfl rfl rfl (wrap_ok (by first | omega | (simp; done) | (simp; omega)))) rfl rfl ?_
              refine AL.val (Wanted.plain rfl) (g_indexP0 (i := (x0.kept.length) - 1) rfl rfl rfl Try.underlying56 sz60 (by first | omega | (simp; done) | (simp; omega)) (by first | omega | (simp; done) | (simp; omega))) rfl rfl ?_
              obtain ⟨x2, hx2⟩ := exget (xs := x0.kept) (i := (x0.kept.length) - 1) (by first | omega | (simp; done) | (simp; omega))
              refine AL.val (Wanted.plain rfl) (g_loadAs rfl rfl rfl Try.underlying60 rfl sz60 (getmap hx2) rfl) rfl rfl ?_
              refine AL.new (n' := 9) (Wanted.plain rfl) (g_lit (ys := [(0, (.g [(cI x2.number), (cI x2.kind), (cI x2.auth), (cI x2.sum)]))]) (rows := ([x2]).map rTransfer) 8 sl56 rfl (by decide) ⟨⟨rfl, rfl⟩,  trivial⟩ rfl rfl rfl rfl) rfl rfl rfl ?_
              refine AL.eat (n' := 10) (h' := [(9, (.arr 60 4 ((put ++ ([x2])).map rTransfer))), (8, (.arr 60 4 (([x2]).map rTransfer))), (7, (.box 58 [(cI x0.sent), (.s 6 0 4 x0.kept.length)])), (6, (.arr 60 4 ((x0.kept).map rTransfer))), (5, (.box 71 [(cI x1.kind), (cI x1.at_), (cI x1.sum)])), (4, (.arr 60 4 ((s.kept).map rTransfer))), (3, (.arr 60 4 ((got).map rTransfer))), (2, (.arr 60 4 ((way).map rTransfer))), (0, (.box 58 [(cI x0.sent), (.s 6 0 4 x0.kept.length)]))]) (Wanted.plain rfl) (g_append (m := 1) (N := put.length + 1) (k2 := 9) (ys := ([x2]).map rTransfer) sl56 rfl rfl rfl rfl rfl rfl (by first | omega | (simp; done) | (simp; omega)) rfl (.s rfl (by first | omega | (simp; done) | (simp; omega))) (by first | omega | (simp; done) | (simp; omega)) (by first | omega | (simp; done) | (simp; omega)) appmap (by decide) (by first | omega | (simp; done) | (simp; omega)) (by first | omega | (simp; done) | (simp; omega))) rfl rfl rfl rfl rfl ?_
              refine AL.fast 1 rfl ?_
              refine AL.nil ?_
              refine block_ok ?_
              refine then_ok ?_
              refine AC.seq ?_
              refine AC.region ?_
              refine AL.fast 1 rfl ?_
              refine AL.val (Wanted.plain rfl) (g_lenS rfl rfl rfl rfl rfl Try.underlying56) rfl rfl ?_
              refine AL.val (Wanted.plain rfl) (g_binI rfl rfl rfl rfl) rfl rfl ?_
              refine AL.nil ?_
              refine then_ok ?_
              refine AC.cond rfl (fun hc6 => ?_) (fun hc6 => ?_)
              ·
                have hc6' := hc6; try simp only [sumB, Bool.not_eq_true', Bool.not_eq_false', Bool.or_eq_true, Bool.or_eq_false_iff, Bool.and_eq_true, Bool.and_eq_false_imp, decide_eq_true_eq, decide_eq_false_iff_not, Bool.not_not, Bool.not_true, Bool.not_false] at hc6'
                refine AC.seq ?_
                refine AC.region ?_
                refine AL.fast 1 rfl ?_
                refine AL.nil ?_
                refine then_ok ?_
                refine AC.ret ?_
                refine block_ret ?_
                refine then_ret ?_
                refine then_ret ?_
                refine block_ret ?_
                refine then_ret ?_
                refine retQ_mk (av' := outOf [(.c (cB true))]) (nb' := []) (retQ_ret ⟨[(2, (aB true))], [], 0⟩ [.tmp 2] [(.c (cB true))] (Weak.ren id (⟨by first | rfl | (simp only [AV.map, GV.map, CV.map, AB.map', id]; done) | (congr 3; omega) | (congr 4; omega) | (simp only [List.length_append, List.length_cons, List.length_nil, List.length_set]; rfl), trivial⟩) (trivial) rfl) rfl ⟨.tmp rfl, trivial⟩ trivial) ?_ ?_
                · rfl
                · rfl
              ·
                have hc6' := hc6; try simp only [sumB, Bool.not_eq_true', Bool.not_eq_false', Bool.or_eq_true, Bool.or_eq_false_iff, Bool.and_eq_true, Bool.and_eq_false_imp, decide_eq_true_eq, decide_eq_false_iff_not, Bool.not_not, Bool.not_true, Bool.not_false] at hc6'
                refine AC.skip ?_
                refine block_ok ?_
                refine then_ok ?_
                refine AC.region ?_
                refine AL.val (Wanted.plain rfl) (g_binI rfl rfl rfl (wrap_ok (by first | omega | (simp; done) | (simp; omega)))) rfl rfl ?_
                refine AL.fast 1 rfl ?_
                refine AL.nil ?_
                refine then_ok ?_
                have hO := Once.puts hi0_1 hr0 (by omega) hx2
                refine ⟨(false, q + 1, x0, put ++ ([x2]), way, got, seen), ⟨by omega, hO, by first | omega | (simp only [List.length_append, List.length_take, List.length_drop, List.length_cons, List.length_nil] at *; omega), by first | omega | (simp only [List.length_append, List.length_cons, List.length_nil]; omega)⟩, by first | omega | (simp; done) | (simp; omega), Weak.ren (fun k => if k = 1 then 9 else if k = 4 then 6 else k) (by refine ⟨?_, ?_, ?_, ?_, ?_, ?_, ?_, ?_,  trivial⟩ <;> first | rfl | (simp only [AV.map, GV.map, CV.map, AB.map', id]; done) | (congr 3; omega) | (congr 4; omega) | (simp only [List.length_append, List.length_cons, List.length_nil, List.length_set]; rfl) | (first | exact look_s rfl (by simp only [List.length_append, List.length_take, List.length_drop, List.length_cons, List.length_nil]; omega) | exact look_sx rfl (by simp only [List.length_append, List.length_take, List.length_drop, List.length_cons, List.length_nil]; omega) (by simp only [List.length_append, List.length_take, List.length_drop, List.length_cons, List.length_nil]; omega))) (by refine ⟨?_, ?_, ?_, ?_, ?_,  trivial⟩ <;> first | rfl | (simp only [AV.map, GV.map, CV.map, AB.map', id]; done) | (congr 3; omega) | (congr 4; omega) | (simp only [List.length_append, List.length_cons, List.length_nil, List.length_set]; rfl)) rfl⟩
            ·
              have hc5' := hc5; try simp only [sumB, Bool.not_eq_true', Bool.not_eq_false', Bool.or_eq_true, Bool.or_eq_false_iff, Bool.and_eq_true, Bool.and_eq_false_imp, decide_eq_true_eq, decide_eq_false_iff_not, Bool.not_not, Bool.not_true, Bool.not_false] at hc5'
              refine AC.skip ?_
              refine block_ok ?_
              refine then_ok ?_
              refine AC.seq ?_
              refine AC.region ?_
              refine AL.fast 1 rfl ?_
              refine AL.val (Wanted.plain rfl) (g_lenS rfl rfl rfl rfl rfl Try.underlying56) rfl rfl ?_
              refine AL.val (Wanted.plain rfl) (g_binI rfl rfl rfl rfl) rfl rfl ?_
              refine AL.nil ?_
              refine then_ok ?_
              refine AC.cond rfl (fun hc7 => ?_) (fun hc7 => ?_)
              ·
                have hc7' := hc7; try simp only [sumB, Bool.not_eq_true', Bool.not_eq_false', Bool.or_eq_true, Bool.or_eq_false_iff, Bool.and_eq_true, Bool.and_eq_false_imp, decide_eq_true_eq, decide_eq_false_iff_not, Bool.not_not, Bool.not_true, Bool.not_false] at hc7'
                refine AC.seq ?_
                refine AC.region ?_
                refine AL.fast 1 rfl ?_
                refine AL.nil ?_
                refine then_ok ?_
                refine AC.ret ?_
                refine block_ret ?_
                refine then_ret ?_
                refine then_ret ?_
                refine block_ret ?_
                refine then_ret ?_
                refine retQ_mk (av' := outOf [(.c (cB true))]) (nb' := []) (retQ_ret ⟨[(2, (aB true))], [], 0⟩ [.tmp 2] [(.c (cB true))] (Weak.ren id (⟨by first | rfl | (simp only [AV.map, GV.map, CV.map, AB.map', id]; done) | (congr 3; omega) | (congr 4; omega) | (simp only [List.length_append, List.length_cons, List.length_nil, List.length_set]; rfl), trivial⟩) (trivial) rfl) rfl ⟨.tmp rfl, trivial⟩ trivial) ?_ ?_
                · rfl
                · rfl
              ·
                have hc7' := hc7; try simp only [sumB, Bool.not_eq_true', Bool.not_eq_false', Bool.or_eq_true, Bool.or_eq_false_iff, Bool.and_eq_true, Bool.and_eq_false_imp, decide_eq_true_eq, decide_eq_false_iff_not, Bool.not_not, Bool.not_true, Bool.not_false] at hc7'
                refine AC.skip ?_
                refine block_ok ?_
                refine then_ok ?_
                refine AC.region ?_
                refine AL.val (Wanted.plain rfl) (g_binI rfl rfl rfl (wrap_ok (by first | omega | (simp; done) | (simp; omega)))) rfl rfl ?_
                refine AL.fast 1 rfl ?_
                refine AL.nil ?_
                refine then_ok ?_
                refine ⟨(false, q + 1, s, put, way, got, seen), ⟨by omega, hi0_1, by first | omega | (simp only [List.length_append, List.length_take, List.length_drop, List.length_cons, List.length_nil] at *; omega), by first | omega | (simp only [List.length_append, List.length_cons, List.length_nil]; omega)⟩, by first | omega | (simp; done) | (simp; omega), Weak.ren id (by refine ⟨?_, ?_, ?_, ?_, ?_, ?_, ?_, ?_,  trivial⟩ <;> first | rfl | (simp only [AV.map, GV.map, CV.map, AB.map', id]; done) | (congr 3; omega) | (congr 4; omega) | (simp only [List.length_append, List.length_cons, List.length_nil, List.length_set]; rfl) | (first | exact look_s rfl (by simp only [List.length_append, List.length_take, List.length_drop, List.length_cons, List.length_nil]; omega) | exact look_sx rfl (by simp only [List.length_append, List.length_take, List.length_drop, List.length_cons, List.length_nil]; omega) (by simp only [List.length_append, List.length_take, List.length_drop, List.length_cons, List.length_nil]; omega))) (by refine ⟨?_, ?_, ?_, ?_, ?_,  trivial⟩ <;> first | rfl | (simp only [AV.map, GV.map, CV.map, AB.map', id]; done) | (congr 3; omega) | (congr 4; omega) | (simp only [List.length_append, List.length_cons, List.length_nil, List.length_set]; rfl)) rfl⟩
          ·
            have hc4' := hc4; try simp only [sumB, Bool.not_eq_true', Bool.not_eq_false', Bool.or_eq_true, Bool.or_eq_false_iff, Bool.and_eq_true, Bool.and_eq_false_imp, decide_eq_true_eq, decide_eq_false_iff_not, Bool.not_not, Bool.not_true, Bool.not_false] at hc4'
            refine AC.seq ?_
            refine AC.region ?_
            refine AL.val (Wanted.plain rfl) (g_binI rfl rfl rfl rfl) rfl rfl ?_
            refine AL.fast 1 rfl ?_
            refine AL.nil ?_
            refine then_ok ?_
            refine AC.cond rfl (fun hc8 => ?_) (fun hc8 => ?_)
            ·
              have hc8' := hc8; try simp only [sumB, Bool.not_eq_true', Bool.not_eq_false', Bool.or_eq_true, Bool.or_eq_false_iff, Bool.and_eq_true, Bool.and_eq_false_imp, decide_eq_true_eq, decide_eq_false_iff_not, Bool.not_not, Bool.not_true, Bool.not_false] at hc8'
              refine AC.region ?_
              refine AL.fast 1 rfl ?_
              refine AL.val (Wanted.plain rfl) (g_fieldP rfl rfl Try.underlying58 rfl sz56 (by decide)) rfl rfl ?_
              refine AL.val (Wanted.plain rfl) (g_loadB rfl rfl rfl Try.underlying56 rfl rfl) rfl rfl ?_
              refine AL.eat (n' := 7) (h' := [(6, (.arr 60 4 ((way ++ s.kept).map rTransfer))), (5, (.box 71 [(cI x1.kind), (cI x1.at_), (cI x1.sum)])), (4, (.arr 60 4 ((s.kept).map rTransfer))), (3, (.arr 60 4 ((got).map rTransfer))), (1, (.arr 60 4 ((put).map rTransfer))), (0, (.box 58 [(cI s.sent), (.s 4 0 4 s.kept.length)]))]) (Wanted.plain rfl) (g_append (m := s.kept.length) (N := way.length + s.kept.length) (k2 := 6) (ys := (s.kept).map rTransfer) sl56 rfl rfl rfl rfl rfl rfl (by first | omega | (simp; done) | (simp; omega)) rfl (.s rfl (by first | omega | (simp; done) | (simp; omega))) (by first | omega | (simp; done) | (simp; omega)) (by first | omega | (simp; done) | (simp; omega)) appmap (by decide) (by first | omega | (simp; done) | (simp; omega)) (by first | omega | (simp; done) | (simp; omega))) rfl rfl rfl rfl rfl ?_
              refine AL.fast 1 rfl ?_
              refine AL.nil ?_
              refine block_ok ?_
              refine then_ok ?_
              refine AC.seq ?_
              refine AC.region ?_
              refine AL.fast 1 rfl ?_
              refine AL.val (Wanted.plain rfl) (g_lenS rfl rfl rfl rfl rfl Try.underlying56) rfl rfl ?_
              refine AL.val (Wanted.plain rfl) (g_binI rfl rfl rfl rfl) rfl rfl ?_
              refine AL.nil ?_
              refine then_ok ?_
              refine AC.cond rfl (fun hc9 => ?_) (fun hc9 => ?_)
              ·
                have hc9' := hc9; try simp only [sumB, Bool.not_eq_true', Bool.not_eq_false', Bool.or_eq_true, Bool.or_eq_false_iff, Bool.and_eq_true, Bool.and_eq_false_imp, decide_eq_true_eq, decide_eq_false_iff_not, Bool.not_not, Bool.not_true, Bool.not_false] at hc9'
                refine AC.seq ?_
                refine AC.region ?_
                refine AL.fast 1 rfl ?_
                refine AL.nil ?_
                refine then_ok ?_
                refine AC.ret ?_
                refine block_ret ?_
                refine then_ret ?_
                refine then_ret ?_
                refine block_ret ?_
                refine then_ret ?_
                refine retQ_mk (av' := outOf [(.c (cB true))]) (nb' := []) (retQ_ret ⟨[(2, (aB true))], [], 0⟩ [.tmp 2] [(.c (cB true))] (Weak.ren id (⟨by first | rfl | (simp only [AV.map, GV.map, CV.map, AB.map', id]; done) | (congr 3; omega) | (congr 4; omega) | (simp only [List.length_append, List.length_cons, List.length_nil, List.length_set]; rfl), trivial⟩) (trivial) rfl) rfl ⟨.tmp rfl, trivial⟩ trivial) ?_ ?_
                · rfl
                · rfl
              ·
                have hc9' := hc9; try simp only [sumB, Bool.not_eq_true', Bool.not_eq_false', Bool.or_eq_true, Bool.or_eq_false_iff, Bool.and_eq_true, Bool.and_eq_false_imp, decide_eq_true_eq, decide_eq_false_iff_not, Bool.not_not, Bool.not_true, Bool.not_false] at hc9'
                refine AC.skip ?_
                refine block_ok ?_
                refine then_ok ?_
                refine AC.region ?_
                refine AL.val (Wanted.plain rfl) (g_binI rfl rfl rfl (wrap_ok (by first | omega | (simp; done) | (simp; omega)))) rfl rfl ?_
                refine AL.fast 1 rfl ?_
                refine AL.nil ?_
                refine then_ok ?_
                have hO := Once.send hi0_1
                refine ⟨(false, q + 1, s, put, way ++ s.kept, got, seen), ⟨by omega, hO, by first | omega | (simp only [List.length_append, List.length_take, List.length_drop, List.length_cons, List.length_nil] at *; omega), by first | omega | (simp only [List.length_append, List.length_cons, List.length_nil]; omega)⟩, by first | omega | (simp; done) | (simp; omega), Weak.ren (fun k => if k = 2 then 6 else k) (by refine ⟨?_, ?_, ?_, ?_, ?_, ?_, ?_, ?_,  trivial⟩ <;> first | rfl | (simp only [AV.map, GV.map, CV.map, AB.map', id]; done) | (congr 3; omega) | (congr 4; omega) | (simp only [List.length_append, List.length_cons, List.length_nil, List.length_set]; rfl) | (first | exact look_s rfl (by simp only [List.length_append, List.length_take, List.length_drop, List.length_cons, List.length_nil]; omega) | exact look_sx rfl (by simp only [List.length_append, List.length_take, List.length_drop, List.length_cons, List.length_nil]; omega) (by simp only [List.length_append, List.length_take, List.length_drop, List.length_cons, List.length_nil]; omega))) (by refine ⟨?_, ?_, ?_, ?_, ?_,  trivial⟩ <;> first | rfl | (simp only [AV.map, GV.map, CV.map, AB.map', id]; done) | (congr 3; omega) | (congr 4; omega) | (simp only [List.length_append, List.length_cons, List.length_nil, List.length_set]; rfl)) rfl⟩
            ·
              have hc8' := hc8; try simp only [sumB, Bool.not_eq_true', Bool.not_eq_false', Bool.or_eq_true, Bool.or_eq_false_iff, Bool.and_eq_true, Bool.and_eq_false_imp, decide_eq_true_eq, decide_eq_false_iff_not, Bool.not_not, Bool.not_true, Bool.not_false] at hc8'
              refine AC.seq ?_
              refine AC.seq ?_
              refine AC.region ?_
              refine AL.val (Wanted.plain rfl) (g_binI rfl rfl rfl rfl) rfl rfl ?_
              refine AL.fast 1 rfl ?_
              refine AL.nil ?_
              refine then_ok ?_
              refine AC.cond rfl (fun hc10 => ?_) (fun hc10 => ?_)
              ·
                have hc10' := hc10; try simp only [sumB, Bool.not_eq_true', Bool.not_eq_false', Bool.or_eq_true, Bool.or_eq_false_iff, Bool.and_eq_true, Bool.and_eq_false_imp, decide_eq_true_eq, decide_eq_false_iff_not, Bool.not_not, Bool.not_true, Bool.not_false] at hc10'
                refine AC.skip ?_
                refine then_ok ?_
                refine AC.cond rfl (fun _ => ?_) (fun hno => absurd (hc10.symm.trans hno) (by decide))
                refine AC.seq ?_
                refine AC.cutB 73 ((decide (x1.at_ < 0)) || (decide (x1.at_ ≥ (↑way.length : Int)))) ?_ ?_
                ·
                  refine AC.region ?_
                  refine AL.val (Wanted.plain rfl) (g_fieldP rfl rfl Try.underlying71 rfl sz3 (by decide)) rfl rfl ?_
                  refine AL.val (Wanted.plain rfl) (g_loadB rfl rfl rfl Try.underlying3 rfl rfl) rfl rfl ?_
                  refine AL.val (Wanted.plain rfl) (g_binI rfl rfl rfl rfl) rfl rfl ?_
                  refine AL.fast 1 rfl ?_
                  refine AL.dec (t := 67) rfl (fun hb12 => ?_) (fun hb12 => ?_)
                  ·
                    have hb12' := hb12; try simp only [sumB, Bool.not_eq_true', Bool.not_eq_false', Bool.or_eq_true, Bool.or_eq_false_iff, Bool.and_eq_true, Bool.and_eq_false_imp, decide_eq_true_eq, decide_eq_false_iff_not, Bool.not_not, Bool.not_true, Bool.not_false] at hb12'
                    refine AL.fast 6 rfl ?_
                    refine AL.nil ?_
                    refine then_ok ?_
                    exact Weak.popB 11 rfl rfl (by first | (simp [hb12]; done) | (simp_all; done) | (exfalso; simp_all; done) | (simp_all; omega)) rfl
                  ·
                    have hb12' := hb12; try simp only [sumB, Bool.not_eq_true', Bool.not_eq_false', Bool.or_eq_true, Bool.or_eq_false_iff, Bool.and_eq_true, Bool.and_eq_false_imp, decide_eq_true_eq, decide_eq_false_iff_not, Bool.not_not, Bool.not_true, Bool.not_false] at hb12'
                    refine AL.val (Wanted.yes rfl rfl rfl) (g_fieldP rfl rfl Try.underlying71 rfl sz3 (by decide)) rfl rfl ?_
                    refine AL.val (Wanted.yes rfl rfl rfl) (g_loadB rfl rfl rfl Try.underlying3 rfl rfl) rfl rfl ?_
                    refine AL.fast 1 rfl ?_
                    refine AL.val (Wanted.yes rfl rfl rfl) (g_lenS rfl rfl rfl rfl rfl Try.underlying56) rfl rfl ?_
                    refine AL.val (Wanted.yes rfl rfl rfl) (g_binI rfl rfl rfl rfl) rfl rfl ?_
                    refine AL.fast 1 rfl ?_
                    refine AL.nil ?_
                    refine then_ok ?_
                    exact Weak.popB 11 rfl rfl (by first | (simp [hb12]; done) | (simp_all; done) | (exfalso; simp_all; done) | (simp_all; omega)) rfl
                ·
                  refine AC.cond rfl (fun hc13 => ?_) (fun hc13 => ?_)
                  ·
                    have hc13' := hc13; try simp only [sumB, Bool.not_eq_true', Bool.not_eq_false', Bool.or_eq_true, Bool.or_eq_false_iff, Bool.and_eq_true, Bool.and_eq_false_imp, decide_eq_true_eq, decide_eq_false_iff_not, Bool.not_not, Bool.not_true, Bool.not_false] at hc13'
                    refine AC.exit ?_
                    refine then_exit ?_
                    refine block_pass rfl ?_
                    refine then_exit ?_
                    refine block_hit ?_
                    refine then_ok ?_
                    refine AC.region ?_
                    refine AL.val (Wanted.plain rfl) (g_binI rfl rfl rfl (wrap_ok (by first | omega | (simp; done) | (simp; omega)))) rfl rfl ?_
                    refine AL.fast 1 rfl ?_
                    refine AL.nil ?_
                    refine then_ok ?_
                    refine ⟨(false, q + 1, s, put, way, got, seen), ⟨by omega, hi0_1, by first | omega | (simp only [List.length_append, List.length_take, List.length_drop, List.length_cons, List.length_nil] at *; omega), by first | omega | (simp only [List.length_append, List.length_cons, List.length_nil]; omega)⟩, by first | omega | (simp; done) | (simp; omega), Weak.ren id (by refine ⟨?_, ?_, ?_, ?_, ?_, ?_, ?_, ?_,  trivial⟩ <;> first | rfl | (simp only [AV.map, GV.map, CV.map, AB.map', id]; done) | (congr 3; omega) | (congr 4; omega) | (simp only [List.length_append, List.length_cons, List.length_nil, List.length_set]; rfl) | (first | exact look_s rfl (by simp only [List.length_append, List.length_take, List.length_drop, List.length_cons, List.length_nil]; omega) | exact look_sx rfl (by simp only [List.length_append, List.length_take, List.length_drop, List.length_cons, List.length_nil]; omega) (by simp only [List.length_append, List.length_take, List.length_drop, List.length_cons, List.length_nil]; omega))) (by refine ⟨?_, ?_, ?_, ?_, ?_,  trivial⟩ <;> first | rfl | (simp only [AV.map, GV.map, CV.map, AB.map', id]; done) | (congr 3; omega) | (congr 4; omega) | (simp only [List.length_append, List.length_cons, List.length_nil, List.length_set]; rfl)) rfl⟩
                  ·
                    have hc13' := hc13; try simp only [sumB, Bool.not_eq_true', Bool.not_eq_false', Bool.or_eq_true, Bool.or_eq_false_iff, Bool.and_eq_true, Bool.and_eq_false_imp, decide_eq_true_eq, decide_eq_false_iff_not, Bool.not_not, Bool.not_true, Bool.not_false] at hc13'
                    refine AC.skip ?_
                    refine then_ok ?_
                    refine AC.seq ?_
                    refine AC.region ?_
                    refine AL.fast 1 rfl ?_
                    refine AL.val (Wanted.plain rfl) (g_fieldP rfl rfl Try.underlying71 rfl sz3 (by decide)) rfl rfl ?_
                    refine AL.val (Wanted.plain rfl) (g_loadB rfl rfl rfl Try.underlying3 rfl rfl) rfl rfl ?_
                    refine AL.val (Wanted.plain rfl) (g_indexP0 (i := Int.toNat (x1.at_)) rfl rfl rfl Try.underlying56 sz60 (by first | omega | (simp; done) | (simp; omega)) (by first | omega | (simp; done) | (simp; omega))) rfl rfl ?_
                    obtain ⟨x2, hx2⟩ := exget (xs := way) (i := Int.toNat (x1.at_)) (by first | omega | (simp; done) | (simp; omega))
                    refine AL.val (Wanted.plain rfl) (g_loadAs rfl rfl rfl Try.underlying60 rfl sz60 (getmap hx2) rfl) rfl rfl ?_
                    refine AL.new (n' := 7) (Wanted.plain rfl) (g_alloc 6 rfl zv60 rfl rfl rfl) rfl rfl rfl ?_
                    refine AL.sto (h' := [(6, (.box 60 [(cI x2.number), (cI x2.kind), (cI x2.auth), (cI x2.sum)])), (5, (.box 71 [(cI x1.kind), (cI x1.at_), (cI x1.sum)])), (4, (.arr 60 4 ((s.kept).map rTransfer))), (3, (.arr 60 4 ((got).map rTransfer))), (2, (.arr 60 4 ((way).map rTransfer))), (1, (.arr 60 4 ((put).map rTransfer))), (0, (.box 58 [(cI s.sent), (.s 4 0 4 s.kept.length)]))]) (Wanted.plain rfl) (g_storeB rfl rfl rfl rfl rfl sz60 rfl (Nat.le_of_ble_eq_true rfl) rfl) rfl rfl rfl rfl ?_
                    refine AL.nil ?_
                    refine then_ok ?_
                    refine AC.seq ?_
                    refine AC.seq ?_
                    refine AC.region ?_
                    refine AL.val (Wanted.plain rfl) (g_fieldP rfl rfl Try.underlying71 rfl sz3 (by decide)) rfl rfl ?_
                    refine AL.val (Wanted.plain rfl) (g_loadB rfl rfl rfl Try.underlying3 rfl rfl) rfl rfl ?_
                    refine AL.val (Wanted.plain rfl) (g_binI rfl rfl rfl rfl) rfl rfl ?_
                    refine AL.nil ?_
                    refine then_ok ?_
                    refine AC.cond rfl (fun hc14 => ?_) (fun hc14 => ?_)
                    ·
                      have hc14' := hc14; try simp only [sumB, Bool.not_eq_true', Bool.not_eq_false', Bool.or_eq_true, Bool.or_eq_false_iff, Bool.and_eq_true, Bool.and_eq_false_imp, decide_eq_true_eq, decide_eq_false_iff_not, Bool.not_not, Bool.not_true, Bool.not_false] at hc14'
                      exfalso; omega
                    ·
                      have hc14' := hc14; try simp only [sumB, Bool.not_eq_true', Bool.not_eq_false', Bool.or_eq_true, Bool.or_eq_false_iff, Bool.and_eq_true, Bool.and_eq_false_imp, decide_eq_true_eq, decide_eq_false_iff_not, Bool.not_not, Bool.not_true, Bool.not_false] at hc14'
                      refine AC.skip ?_
                      refine then_ok ?_
                      refine AC.seq ?_
                      refine AC.region ?_
                      refine AL.fast 1 rfl ?_
                      refine AL.val (Wanted.plain rfl) (g_loadBs rfl rfl rfl Try.underlying60 rfl sz60 rfl rfl) rfl rfl ?_
                      obtain ⟨n1, ok1, hr1⟩ : ∃ (n1 : Int) (ok1 : Bool), takeS seen x2 = (n1, ok1) := ⟨_, _, rfl⟩
                      refine AL.call (n' := 7) (h' := [(6, (.box 60 [(cI x2.number), (cI x2.kind), (cI x2.auth), (cI x2.sum)])), (5, (.box 71 [(cI x1.kind), (cI x1.at_), (cI x1.sum)])), (4, (.arr 60 4 ((s.kept).map rTransfer))), (3, (.arr 60 4 ((got).map rTransfer))), (2, (.arr 60 4 ((way).map rTransfer))), (1, (.arr 60 4 ((put).map rTransfer))), (0, (.box 58 [(cI s.sent), (.s 4 0 4 s.kept.length)]))]) (Wanted.plain rfl) (g_call 7 (c_post_Take seen x2  n1 ok1 hr1) en55 rfl rfl ⟨⟨_, rfl, .c (.d _)⟩, ⟨_, rfl, .g ⟨.d _, .d _, .d _, .d _,  trivial⟩⟩,  trivial⟩ ⟨trivial, trivial,  trivial⟩ trivial rfl rfl rfl rfl) rfl rfl rfl rfl rfl ?_
                      refine AL.fast 1 rfl ?_
                      refine AL.val (Wanted.plain rfl) (g_extract rfl rfl rfl) rfl rfl ?_
                      refine AL.val (Wanted.plain rfl) (g_extract rfl rfl rfl) rfl rfl ?_
                      refine AL.fast 2 rfl ?_
                      refine AL.nil ?_
                      refine then_ok ?_
                      refine AC.seq ?_
                      refine AC.seq ?_
                      refine AC.region ?_
                      refine AL.fast 1 rfl ?_
                      refine AL.nil ?_
                      refine then_ok ?_
                      refine AC.cond rfl (fun hc15 => ?_) (fun hc15 => ?_)
                      ·
                        have hc15' := hc15; try simp only [sumB, Bool.not_eq_true', Bool.not_eq_false', Bool.or_eq_true, Bool.or_eq_false_iff, Bool.and_eq_true, Bool.and_eq_false_imp, decide_eq_true_eq, decide_eq_false_iff_not, Bool.not_not, Bool.not_true, Bool.not_false] at hc15'
                        refine AC.region ?_
                        refine AL.fast 1 rfl ?_
                        refine AL.val (Wanted.plain rfl) (g_loadBs rfl rfl rfl Try.underlying60 rfl sz60 rfl rfl) rfl rfl ?_
                        refine AL.new (n' := 8) (Wanted.plain rfl) (g_lit (ys := [(0, (.g [(cI x2.number), (cI x2.kind), (cI x2.auth), (cI x2.sum)]))]) (rows := ([x2]).map rTransfer) 7 sl56 rfl (by decide) ⟨⟨rfl, rfl⟩,  trivial⟩ rfl rfl rfl rfl) rfl rfl rfl ?_
                        refine AL.eat (n' := 9) (h' := [(8, (.arr 60 4 ((got ++ ([x2])).map rTransfer))), (7, (.arr 60 4 (([x2]).map rTransfer))), (6, (.box 60 [(cI x2.number), (cI x2.kind), (cI x2.auth), (cI x2.sum)])), (5, (.box 71 [(cI x1.kind), (cI x1.at_), (cI x1.sum)])), (4, (.arr 60 4 ((s.kept).map rTransfer))), (2, (.arr 60 4 ((way).map rTransfer))), (1, (.arr 60 4 ((put).map rTransfer))), (0, (.box 58 [(cI s.sent), (.s 4 0 4 s.kept.length)]))]) (Wanted.plain rfl) (g_append (m := 1) (N := got.length + 1) (k2 := 8) (ys := ([x2]).map rTransfer) sl56 rfl rfl rfl rfl rfl rfl (by first | omega | (simp; done) | (simp; omega)) rfl (.s rfl (by first | omega | (simp; done) | (simp; omega))) (by first | omega | (simp; done) | (simp; omega)) (by first | omega | (simp; done) | (simp; omega)) appmap (by decide) (by first | omega | (simp; done) | (simp; omega)) (by first | omega | (simp; done) | (simp; omega))) rfl rfl rfl rfl rfl ?_
                        refine AL.fast 1 rfl ?_
                        refine AL.nil ?_
                        refine then_ok ?_
                        refine AC.region ?_
                        refine AL.fast 2 rfl ?_
                        refine AL.nil ?_
                        refine block_ok ?_
                        refine then_ok ?_
                        refine AC.seq ?_
                        refine AC.region ?_
                        refine AL.fast 1 rfl ?_
                        refine AL.val (Wanted.plain rfl) (g_lenS rfl rfl rfl rfl rfl Try.underlying56) rfl rfl ?_
                        refine AL.val (Wanted.plain rfl) (g_binI rfl rfl rfl rfl) rfl rfl ?_
                        refine AL.nil ?_
                        refine then_ok ?_
                        refine AC.cond rfl (fun hc16 => ?_) (fun hc16 => ?_)
                        ·
                          have hc16' := hc16; try simp only [sumB, Bool.not_eq_true', Bool.not_eq_false', Bool.or_eq_true, Bool.or_eq_false_iff, Bool.and_eq_true, Bool.and_eq_false_imp, decide_eq_true_eq, decide_eq_false_iff_not, Bool.not_not, Bool.not_true, Bool.not_false] at hc16'
                          refine AC.seq ?_
                          refine AC.region ?_
                          refine AL.fast 1 rfl ?_
                          refine AL.nil ?_
                          refine then_ok ?_
                          refine AC.ret ?_
                          refine block_ret ?_
                          refine then_ret ?_
                          refine then_ret ?_
                          refine block_ret ?_
                          refine then_ret ?_
                          refine retQ_mk (av' := outOf [(.c (cB true))]) (nb' := []) (retQ_ret ⟨[(2, (aB true))], [], 0⟩ [.tmp 2] [(.c (cB true))] (Weak.ren id (⟨by first | rfl | (simp only [AV.map, GV.map, CV.map, AB.map', id]; done) | (congr 3; omega) | (congr 4; omega) | (simp only [List.length_append, List.length_cons, List.length_nil, List.length_set]; rfl), trivial⟩) (trivial) rfl) rfl ⟨.tmp rfl, trivial⟩ trivial) ?_ ?_
                          · rfl
                          · rfl
                        ·
                          have hc16' := hc16; try simp only [sumB, Bool.not_eq_true', Bool.not_eq_false', Bool.or_eq_true, Bool.or_eq_false_iff, Bool.and_eq_true, Bool.and_eq_false_imp, decide_eq_true_eq, decide_eq_false_iff_not, Bool.not_not, Bool.not_true, Bool.not_false] at hc16'
                          refine AC.skip ?_
                          refine block_ok ?_
                          refine then_ok ?_
                          refine AC.region ?_
                          refine AL.val (Wanted.plain rfl) (g_binI rfl rfl rfl (wrap_ok (by first | omega | (simp; done) | (simp; omega)))) rfl rfl ?_
                          refine AL.fast 1 rfl ?_
                          refine AL.nil ?_
                          refine then_ok ?_
                          have hO := Once.take hi0_1 hx2 hr1
                          rw [hc15] at hO
                          rw [if_pos rfl] at hO
                          refine ⟨(false, q + 1, s, put, way, got ++ ([x2]), n1), ⟨by omega, hO, by first | omega | (simp only [List.length_append, List.length_take, List.length_drop, List.length_cons, List.length_nil] at *; omega), by first | omega | (simp only [List.length_append, List.length_cons, List.length_nil]; omega)⟩, by first | omega | (simp; done) | (simp; omega), Weak.ren (fun k => if k = 3 then 8 else k) (by refine ⟨?_, ?_, ?_, ?_, ?_, ?_, ?_, ?_,  trivial⟩ <;> first | rfl | (simp only [AV.map, GV.map, CV.map, AB.map', id]; done) | (congr 3; omega) | (congr 4; omega) | (simp only [List.length_append, List.length_cons, List.length_nil, List.length_set]; rfl) | (first | exact look_s rfl (by simp only [List.length_append, List.length_take, List.length_drop, List.length_cons, List.length_nil]; omega) | exact look_sx rfl (by simp only [List.length_append, List.length_take, List.length_drop, List.length_cons, List.length_nil]; omega) (by simp only [List.length_append, List.length_take, List.length_drop, List.length_cons, List.length_nil]; omega))) (by refine ⟨?_, ?_, ?_, ?_, ?_,  trivial⟩ <;> first | rfl | (simp only [AV.map, GV.map, CV.map, AB.map', id]; done) | (congr 3; omega) | (congr 4; omega) | (simp only [List.length_append, List.length_cons, List.length_nil, List.length_set]; rfl)) rfl⟩
                      ·
                        have hc15' := hc15; try simp only [sumB, Bool.not_eq_true', Bool.not_eq_false', Bool.or_eq_true, Bool.or_eq_false_iff, Bool.and_eq_true, Bool.and_eq_false_imp, decide_eq_true_eq, decide_eq_false_iff_not, Bool.not_not, Bool.not_true, Bool.not_false] at hc15'
                        refine AC.skip ?_
                        refine then_ok ?_
                        refine AC.region ?_
                        refine AL.fast 2 rfl ?_
                        refine AL.nil ?_
                        refine block_ok ?_
                        refine then_ok ?_
                        refine AC.seq ?_
                        refine AC.region ?_
                        refine AL.fast 1 rfl ?_
                        refine AL.val (Wanted.plain rfl) (g_lenS rfl rfl rfl rfl rfl Try.underlying56) rfl rfl ?_
                        refine AL.val (Wanted.plain rfl) (g_binI rfl rfl rfl rfl) rfl rfl ?_
                        refine AL.nil ?_
                        refine then_ok ?_
                        refine AC.cond rfl (fun hc17 => ?_) (fun hc17 => ?_)
                        ·
                          have hc17' := hc17; try simp only [sumB, Bool.not_eq_true', Bool.not_eq_false', Bool.or_eq_true, Bool.or_eq_false_iff, Bool.and_eq_true, Bool.and_eq_false_imp, decide_eq_true_eq, decide_eq_false_iff_not, Bool.not_not, Bool.not_true, Bool.not_false] at hc17'
                          refine AC.seq ?_
                          refine AC.region ?_
                          refine AL.fast 1 rfl ?_
                          refine AL.nil ?_
                          refine then_ok ?_
                          refine AC.ret ?_
                          refine block_ret ?_
                          refine then_ret ?_
                          refine then_ret ?_
                          refine block_ret ?_
                          refine then_ret ?_
                          refine retQ_mk (av' := outOf [(.c (cB true))]) (nb' := []) (retQ_ret ⟨[(2, (aB true))], [], 0⟩ [.tmp 2] [(.c (cB true))] (Weak.ren id (⟨by first | rfl | (simp only [AV.map, GV.map, CV.map, AB.map', id]; done) | (congr 3; omega) | (congr 4; omega) | (simp only [List.length_append, List.length_cons, List.length_nil, List.length_set]; rfl), trivial⟩) (trivial) rfl) rfl ⟨.tmp rfl, trivial⟩ trivial) ?_ ?_
                          · rfl
                          · rfl
                        ·
                          have hc17' := hc17; try simp only [sumB, Bool.not_eq_true', Bool.not_eq_false', Bool.or_eq_true, Bool.or_eq_false_iff, Bool.and_eq_true, Bool.and_eq_false_imp, decide_eq_true_eq, decide_eq_false_iff_not, Bool.not_not, Bool.not_true, Bool.not_false] at hc17'
                          refine AC.skip ?_
                          refine block_ok ?_
                          refine then_ok ?_
                          refine AC.region ?_
                          refine AL.val (Wanted.plain rfl) (g_binI rfl rfl rfl (wrap_ok (by first | omega | (simp; done) | (simp; omega)))) rfl rfl ?_
                          refine AL.fast 1 rfl ?_
                          refine AL.nil ?_
                          refine then_ok ?_
                          have hO := Once.take hi0_1 hx2 hr1
                          rw [hc15] at hO
                          rw [if_neg (by decide)] at hO
                          refine ⟨(false, q + 1, s, put, way, got, n1), ⟨by omega, hO, by first | omega | (simp only [List.length_append, List.length_take, List.length_drop, List.length_cons, List.length_nil] at *; omega), by first | omega | (simp only [List.length_append, List.length_cons, List.length_nil]; omega)⟩, by first | omega | (simp; done) | (simp; omega), Weak.ren id (by refine ⟨?_, ?_, ?_, ?_, ?_, ?_, ?_, ?_,  trivial⟩ <;> first | rfl | (simp only [AV.map, GV.map, CV.map, AB.map', id]; done) | (congr 3; omega) | (congr 4; omega) | (simp only [List.length_append, List.length_cons, List.length_nil, List.length_set]; rfl) | (first | exact look_s rfl (by simp only [List.length_append, List.length_take, List.length_drop, List.length_cons, List.length_nil]; omega) | exact look_sx rfl (by simp only [List.length_append, List.length_take, List.length_drop, List.length_cons, List.length_nil]; omega) (by simp only [List.length_append, List.length_take, List.length_drop, List.length_cons, List.length_nil]; omega))) (by refine ⟨?_, ?_, ?_, ?_, ?_,  trivial⟩ <;> first | rfl | (simp only [AV.map, GV.map, CV.map, AB.map', id]; done) | (congr 3; omega) | (congr 4; omega) | (simp only [List.length_append, List.length_cons, List.length_nil, List.length_set]; rfl)) rfl⟩
              ·
                have hc10' := hc10; try simp only [sumB, Bool.not_eq_true', Bool.not_eq_false', Bool.or_eq_true, Bool.or_eq_false_iff, Bool.and_eq_true, Bool.and_eq_false_imp, decide_eq_true_eq, decide_eq_false_iff_not, Bool.not_not, Bool.not_true, Bool.not_false] at hc10'
                refine AC.region ?_
                refine AL.val (Wanted.plain rfl) (g_binI rfl rfl rfl rfl) rfl rfl ?_
                refine AL.fast 1 rfl ?_
                refine AL.nil ?_
                refine then_ok ?_
                refine AC.cond rfl (fun hc18 => ?_) (fun hc18 => ?_)
                ·
                  have hc18' := hc18; try simp only [sumB, Bool.not_eq_true', Bool.not_eq_false', Bool.or_eq_true, Bool.or_eq_false_iff, Bool.and_eq_true, Bool.and_eq_false_imp, decide_eq_true_eq, decide_eq_false_iff_not, Bool.not_not, Bool.not_true, Bool.not_false] at hc18'
                  refine AC.seq ?_
                  refine AC.cutB 73 ((decide (x1.at_ < 0)) || (decide (x1.at_ ≥ (↑way.length : Int)))) ?_ ?_
                  ·
                    refine AC.region ?_
                    refine AL.val (Wanted.plain rfl) (g_fieldP rfl rfl Try.underlying71 rfl sz3 (by decide)) rfl rfl ?_
                    refine AL.val (Wanted.plain rfl) (g_loadB rfl rfl rfl Try.underlying3 rfl rfl) rfl rfl ?_
                    refine AL.val (Wanted.plain rfl) (g_binI rfl rfl rfl rfl) rfl rfl ?_
                    refine AL.fast 1 rfl ?_
                    refine AL.dec (t := 67) rfl (fun hb19 => ?_) (fun hb19 => ?_)
                    ·
                      have hb19' := hb19; try simp only [sumB, Bool.not_eq_true', Bool.not_eq_false', Bool.or_eq_true, Bool.or_eq_false_iff, Bool.and_eq_true, Bool.and_eq_false_imp, decide_eq_true_eq, decide_eq_false_iff_not, Bool.not_not, Bool.not_true, Bool.not_false] at hb19'
                      refine AL.fast 6 rfl ?_
                      refine AL.nil ?_
                      refine then_ok ?_
                      exact Weak.popB 11 rfl rfl (by first | (simp [hb19]; done) | (simp_all; done) | (exfalso; simp_all; done) | (simp_all; omega)) rfl
                    ·
                      have hb19' := hb19; try simp only [sumB, Bool.not_eq_true', Bool.not_eq_false', Bool.or_eq_true, Bool.or_eq_false_iff, Bool.and_eq_true, Bool.and_eq_false_imp, decide_eq_true_eq, decide_eq_false_iff_not, Bool.not_not, Bool.not_true, Bool.not_false] at hb19'
                      refine AL.val (Wanted.yes rfl rfl rfl) (g_fieldP rfl rfl Try.underlying71 rfl sz3 (by decide)) rfl rfl ?_
                      refine AL.val (Wanted.yes rfl rfl rfl) (g_loadB rfl rfl rfl Try.underlying3 rfl rfl) rfl rfl ?_
                      refine AL.fast 1 rfl ?_
                      refine AL.val (Wanted.yes rfl rfl rfl) (g_lenS rfl rfl rfl rfl rfl Try.underlying56) rfl rfl ?_
                      refine AL.val (Wanted.yes rfl rfl rfl) (g_binI rfl rfl rfl rfl) rfl rfl ?_
                      refine AL.fast 1 rfl ?_
                      refine AL.nil ?_
                      refine then_ok ?_
                      exact Weak.popB 11 rfl rfl (by first | (simp [hb19]; done) | (simp_all; done) | (exfalso; simp_all; done) | (simp_all; omega)) rfl
                  ·
                    refine AC.cond rfl (fun hc20 => ?_) (fun hc20 => ?_)
                    ·
                      have hc20' := hc20; try simp only [sumB, Bool.not_eq_true', Bool.not_eq_false', Bool.or_eq_true, Bool.or_eq_false_iff, Bool.and_eq_true, Bool.and_eq_false_imp, decide_eq_true_eq, decide_eq_false_iff_not, Bool.not_not, Bool.not_true, Bool.not_false] at hc20'
                      refine AC.exit ?_
                      refine then_exit ?_
                      refine block_pass rfl ?_
                      refine then_exit ?_
                      refine block_hit ?_
                      refine then_ok ?_
                      refine AC.region ?_
                      refine AL.val (Wanted.plain rfl) (g_binI rfl rfl rfl (wrap_ok (by first | omega | (simp; done) | (simp; omega)))) rfl rfl ?_
                      refine AL.fast 1 rfl ?_
                      refine AL.nil ?_
                      refine then_ok ?_
                      refine ⟨(false, q + 1, s, put, way, got, seen), ⟨by omega, hi0_1, by first | omega | (simp only [List.length_append, List.length_take, List.length_drop, List.length_cons, List.length_nil] at *; omega), by first | omega | (simp only [List.length_append, List.length_cons, List.length_nil]; omega)⟩, by first | omega | (simp; done) | (simp; omega), Weak.ren id (by refine ⟨?_, ?_, ?_, ?_, ?_, ?_, ?_, ?_,  trivial⟩ <;> first | rfl | (simp only [AV.map, GV.map, CV.map, AB.map', id]; done) | (congr 3; omega) | (congr 4; omega) | (simp only [List.length_append, List.length_cons, List.length_nil, List.length_set]; rfl) | (first | exact look_s rfl (by simp only [List.length_append, List.length_take, List.length_drop, List.length_cons, List.length_nil]; omega) | exact look_sx rfl (by simp only [List.length_append, List.length_take, List.length_drop, List.length_cons, List.length_nil]; omega) (by simp only [List.length_append, List.length_take, List.length_drop, List.length_cons, List.length_nil]; omega))) (by refine ⟨?_, ?_, ?_, ?_, ?_,  trivial⟩ <;> first | rfl | (simp only [AV.map, GV.map, CV.map, AB.map', id]; done) | (congr 3; omega) | (congr 4; omega) | (simp only [List.length_append, List.length_cons, List.length_nil, List.length_set]; rfl)) rfl⟩
                    ·
                      have hc20' := hc20; try simp only [sumB, Bool.not_eq_true', Bool.not_eq_false', Bool.or_eq_true, Bool.or_eq_false_iff, Bool.and_eq_true, Bool.and_eq_false_imp, decide_eq_true_eq, decide_eq_false_iff_not, Bool.not_not, Bool.not_true, Bool.not_false] at hc20'
                      refine AC.skip ?_
                      refine then_ok ?_
                      refine AC.seq ?_
                      refine AC.region ?_
                      refine AL.fast 1 rfl ?_
                      refine AL.val (Wanted.plain rfl) (g_fieldP rfl rfl Try.underlying71 rfl sz3 (by decide)) rfl rfl ?_
                      refine AL.val (Wanted.plain rfl) (g_loadB rfl rfl rfl Try.underlying3 rfl rfl) rfl rfl ?_
                      refine AL.val (Wanted.plain rfl) (g_indexP0 (i := Int.toNat (x1.at_)) rfl rfl rfl Try.underlying56 sz60 (by first | omega | (simp; done) | (simp; omega)) (by first | omega | (simp; done) | (simp; omega))) rfl rfl ?_
                      obtain ⟨x2, hx2⟩ := exget (xs := way) (i := Int.toNat (x1.at_)) (by first | omega | (simp; done) | (simp; omega))
                      refine AL.val (Wanted.plain rfl) (g_loadAs rfl rfl rfl Try.underlying60 rfl sz60 (getmap hx2) rfl) rfl rfl ?_
                      refine AL.new (n' := 7) (Wanted.plain rfl) (g_alloc 6 rfl zv60 rfl rfl rfl) rfl rfl rfl ?_
                      refine AL.sto (h' := [(6, (.box 60 [(cI x2.number), (cI x2.kind), (cI x2.auth), (cI x2.sum)])), (5, (.box 71 [(cI x1.kind), (cI x1.at_), (cI x1.sum)])), (4, (.arr 60 4 ((s.kept).map rTransfer))), (3, (.arr 60 4 ((got).map rTransfer))), (2, (.arr 60 4 ((way).map rTransfer))), (1, (.arr 60 4 ((put).map rTransfer))), (0, (.box 58 [(cI s.sent), (.s 4 0 4 s.kept.length)]))]) (Wanted.plain rfl) (g_storeB rfl rfl rfl rfl rfl sz60 rfl (Nat.le_of_ble_eq_true rfl) rfl) rfl rfl rfl rfl ?_
                      refine AL.nil ?_
                      refine then_ok ?_
                      refine AC.seq ?_
                      refine AC.seq ?_
                      refine AC.region ?_
                      refine AL.val (Wanted.plain rfl) (g_fieldP rfl rfl Try.underlying71 rfl sz3 (by decide)) rfl rfl ?_
                      refine AL.val (Wanted.plain rfl) (g_loadB rfl rfl rfl Try.underlying3 rfl rfl) rfl rfl ?_
                      refine AL.val (Wanted.plain rfl) (g_binI rfl rfl rfl rfl) rfl rfl ?_
                      refine AL.nil ?_
                      refine then_ok ?_
                      refine AC.cond rfl (fun _ => ?_) (fun hno => absurd (hc18.symm.trans hno) (by decide))
                      refine AC.capS 5 rfl (by first | omega | (simp; done) | (simp; omega)) (fun cap1 hcap1 hmcap1 => ?_)
                      rcases (show Int.toNat (x1.at_ + 1) = way.length ∨ Int.toNat (x1.at_ + 1) < way.length from by omega) with hs22 | hs22
                      ·
                        refine AC.weak (st' := ⟨[(5, (aC (.sx 2 0 4 way.length cap1 true))), (3, (aC (.p 0 0 0 0))), (4, (aC (.s 1 0 4 put.length))), (6, (aC (.s 3 0 4 got.length))), (7, (aI seen)), (23, (aC (cR 3 ((l).map rAct)))), (24, (aI (↑l.length : Int))), (25, (aI (↑q : Int))), (9, (aC (.p 5 0 0 0))), (12, (aC (.p 6 0 0 0)))], [(6, (.box 60 [(cI x2.number), (cI x2.kind), (cI x2.auth), (cI x2.sum)])), (5, (.box 71 [(cI x1.kind), (cI x1.at_), (cI x1.sum)])), (4, (.arr 60 4 ((s.kept).map rTransfer))), (3, (.arr 60 4 ((got).map rTransfer))), (2, (.arr 60 4 ((way).map rTransfer))), (1, (.arr 60 4 ((put).map rTransfer))), (0, (.box 58 [(cI s.sent), (.s 4 0 4 s.kept.length)]))], 7⟩) (Weak.ren id (by refine ⟨?_, ?_, ?_, ?_, ?_, ?_, ?_, ?_, ?_, ?_,  trivial⟩ <;> first | rfl | (simp only [AV.map, GV.map, CV.map, AB.map', id]; done) | (congr 3; omega) | (congr 4; omega) | (simp only [List.length_append, List.length_cons, List.length_nil, List.length_set]; rfl)) (by refine ⟨?_, ?_, ?_, ?_, ?_, ?_, ?_,  trivial⟩ <;> first | rfl | (simp only [AV.map, GV.map, CV.map, AB.map', id]; done) | (congr 3; omega) | (congr 4; omega) | (simp only [List.length_append, List.length_cons, List.length_nil, List.length_set]; rfl)) rfl) ?_
                        refine AC.drawW [⟨some 82, (aC (.sx 2 0 4 way.length cap1 true)), [], [], [], [(5, (aC (.sx 2 0 4 way.length cap1 true)))], []⟩,
      ⟨some 83, (aC (.p 5 0 0 1)), [], [], [], [(9, (aC (.p 5 0 0 0)))], []⟩,
      ⟨some 84, (aI x1.at_), [], [], [1], [(83, (aC (.p 5 0 0 1)))], [(5, (.box 71 [(cI x1.kind), (cI x1.at_), (cI x1.sum)]))]⟩,
      ⟨some 85, (aC (.p 5 0 0 1)), [], [], [], [(9, (aC (.p 5 0 0 0)))], []⟩,
      ⟨some 86, (aI x1.at_), [], [], [3], [(85, (aC (.p 5 0 0 1)))], [(5, (.box 71 [(cI x1.kind), (cI x1.at_), (cI x1.sum)]))]⟩,
      ⟨some 87, (aC (.sx 2 0 4 (Int.toNat (x1.at_)) (Int.toNat (x1.at_)) false)), [], [], [4, 2, 0], [(82, (aC (.sx 2 0 4 way.length cap1 true))), (84, (aI x1.at_)), (86, (aI x1.at_))], [(2, (.arr 60 4 ((way).map rTransfer)))]⟩,
      ⟨some 88, (aC (.sx 2 0 4 way.length cap1 true)), [], [], [], [(5, (aC (.sx 2 0 4 way.length cap1 true)))], []⟩,
      ⟨some 89, (aC (.p 5 0 0 1)), [], [], [], [(9, (aC (.p 5 0 0 0)))], []⟩,
      ⟨some 90, (aI x1.at_), [], [], [7], [(89, (aC (.p 5 0 0 1)))], [(5, (.box 71 [(cI x1.kind), (cI x1.at_), (cI x1.sum)]))]⟩,
      ⟨some 91, (aI (x1.at_ + 1)), [], [], [8], [(90, (aI x1.at_))], []⟩,
      ⟨some 92, (aC (.sx 2 (Int.toNat (x1.at_ + 1)) 4 (way.length - (Int.toNat (x1.at_ + 1))) (cap1 - (Int.toNat (x1.at_ + 1))) true)), [], [], [9, 6], [(88, (aC (.sx 2 0 4 way.length cap1 true))), (91, (aI (x1.at_ + 1)))], [(2, (.arr 60 4 ((way).map rTransfer)))]⟩,
      ⟨some 93, (aC (.sx 2 0 4 (Int.toNat (x1.at_)) (Int.toNat (x1.at_)) false)), [], [], [10, 5], [(87, (aC (.sx 2 0 4 (Int.toNat (x1.at_)) (Int.toNat (x1.at_)) false))), (92, (aC (.sx 2 (Int.toNat (x1.at_ + 1)) 4 (way.length - (Int.toNat (x1.at_ + 1))) (cap1 - (Int.toNat (x1.at_ + 1))) true)))], [(2, (.arr 60 4 ((way).map rTransfer)))]⟩,
      ⟨some 5, (aC (.sx 2 0 4 (Int.toNat (x1.at_)) (Int.toNat (x1.at_)) false)), [], [], [11], [(93, (aC (.sx 2 0 4 (Int.toNat (x1.at_)) (Int.toNat (x1.at_)) false)))], []⟩] ⟨[(5, (aC (.sx 2 0 4 (Int.toNat (x1.at_)) (Int.toNat (x1.at_)) false))), (3, (aC (.p 0 0 0 0))), (4, (aC (.s 1 0 4 put.length))), (6, (aC (.s 3 0 4 got.length))), (7, (aI seen)), (23, (aC (cR 3 ((l).map rAct)))), (24, (aI (↑l.length : Int))), (25, (aI (↑q : Int))), (12, (aC (.p 6 0 0 0)))], [(6, (.box 60 [(cI x2.number), (cI x2.kind), (cI x2.auth), (cI x2.sum)])), (4, (.arr 60 4 ((s.kept).map rTransfer))), (3, (.arr 60 4 ((got).map rTransfer))), (2, (.arr 60 4 ((way).map rTransfer))), (1, (.arr 60 4 ((put).map rTransfer))), (0, (.box 58 [(cI s.sent), (.s 4 0 4 s.kept.length)]))], 7⟩ [12, 11, 10, 9, 8, 7, 6, 5, 4, 3, 2, 1, 0] mixed (by kernel_rfl) ?_ ?_ ?_ ?_
                        · exact ⟨.inl ⟨(Wanted.plain rfl), GOp.cast (g_move rfl rfl) rfl⟩,
      .inl ⟨(Wanted.plain rfl), GOp.cast (g_fieldP rfl rfl Try.underlying71 rfl sz3 (by decide)) rfl⟩,
      .inl ⟨(Wanted.plain rfl), GOp.cast (g_loadB rfl rfl rfl Try.underlying3 rfl rfl) rfl⟩,
      .inl ⟨(Wanted.plain rfl), GOp.cast (g_fieldP rfl rfl Try.underlying71 rfl sz3 (by decide)) rfl⟩,
      .inl ⟨(Wanted.plain rfl), GOp.cast (g_loadB rfl rfl rfl Try.underlying3 rfl rfl) rfl⟩,
      .inl ⟨(Wanted.plain rfl), GOp.cast (g_sliceX (l := 0) (h := Int.toNat (x1.at_)) (m := Int.toNat (x1.at_)) (n' := Int.toNat (x1.at_)) (c' := Int.toNat (x1.at_)) (E' := false) rfl Try.underlying56 sz60 rfl (.inl ⟨rfl, rfl⟩) (.inr ⟨_, rfl, (evI rfl (by first | omega | (simp; done) | (simp; omega)))⟩) (.inr ⟨_, rfl, (evI rfl (by first | omega | (simp; done) | (simp; omega)))⟩) (by first | omega | (simp; done) | (simp; omega)) (by first | omega | (simp; done) | (simp; omega)) (by first | omega | (simp; done) | (simp; omega)) (by first | omega | (simp; done) | (simp; omega)) (by first | omega | (simp; done) | (simp; omega)) (by simp)) rfl⟩,
      .inl ⟨(Wanted.plain rfl), GOp.cast (g_move rfl rfl) rfl⟩,
      .inl ⟨(Wanted.plain rfl), GOp.cast (g_fieldP rfl rfl Try.underlying71 rfl sz3 (by decide)) rfl⟩,
      .inl ⟨(Wanted.plain rfl), GOp.cast (g_loadB rfl rfl rfl Try.underlying3 rfl rfl) rfl⟩,
      .inl ⟨(Wanted.plain rfl), GOp.cast (g_binI rfl rfl rfl (wrap_ok (by first | omega | (simp; done) | (simp; omega)))) rfl⟩,
      .inl ⟨(Wanted.plain rfl), GOp.cast (GOp.cast (g_sliceX (l := Int.toNat (x1.at_ + 1)) (h := way.length) (m := cap1) (n' := way.length - (Int.toNat (x1.at_ + 1))) (c' := cap1 - (Int.toNat (x1.at_ + 1))) (E' := true) rfl Try.underlying56 sz60 rfl (.inr ⟨_, rfl, (evI rfl (by first | omega | (simp; done) | (simp; omega)))⟩) (.inl ⟨rfl, rfl, rfl⟩) (.inl ⟨rfl, rfl⟩) (by first | omega | (simp; done) | (simp; omega)) (by first | omega | (simp; done) | (simp; omega)) (by first | omega | (simp; done) | (simp; omega)) (by first | omega | (simp; done) | (simp; omega)) (by first | omega | (simp; done) | (simp; omega)) (by simp)) (show _ = (aC (.sx 2 (Int.toNat (x1.at_ + 1)) 4 (way.length - (Int.toNat (x1.at_ + 1))) (cap1 - (Int.toNat (x1.at_ + 1))) true)) by first | rfl | (simp only [Nat.zero_add, Nat.add_zero]; rfl))) rfl⟩,
      .inl ⟨(Wanted.plain rfl), GOp.cast (g_app00 sl56 rfl rfl rfl rfl rfl rfl (.x _ _ _ _ _ _ (by first | omega | (simp; done) | (simp; omega)))) rfl⟩,
      .inl ⟨(Wanted.plain rfl), GOp.cast (g_assign rfl rfl) rfl⟩,
       trivial⟩
                        · exact ⟨⟨⟨rfl,  trivial⟩, trivial⟩, ⟨⟨rfl,  trivial⟩, trivial⟩, ⟨⟨⟨_, rfl, rfl, rfl⟩,  trivial⟩, ⟨rfl,  trivial⟩⟩, ⟨⟨rfl,  trivial⟩, trivial⟩, ⟨⟨⟨_, rfl, rfl, rfl⟩,  trivial⟩, ⟨rfl,  trivial⟩⟩, ⟨⟨⟨_, rfl, rfl, rfl⟩, ⟨_, rfl, rfl, rfl⟩, ⟨_, rfl, rfl, rfl⟩,  trivial⟩, ⟨rfl,  trivial⟩⟩, ⟨⟨rfl,  trivial⟩, trivial⟩, ⟨⟨rfl,  trivial⟩, trivial⟩, ⟨⟨⟨_, rfl, rfl, rfl⟩,  trivial⟩, ⟨rfl,  trivial⟩⟩, ⟨⟨⟨_, rfl, rfl, rfl⟩,  trivial⟩, trivial⟩, ⟨⟨⟨_, rfl, rfl, rfl⟩, ⟨_, rfl, rfl, rfl⟩,  trivial⟩, ⟨rfl,  trivial⟩⟩, ⟨⟨⟨_, rfl, rfl, rfl⟩, ⟨_, rfl, rfl, rfl⟩,  trivial⟩, ⟨rfl,  trivial⟩⟩, ⟨⟨⟨_, rfl, rfl, rfl⟩,  trivial⟩, trivial⟩,  trivial⟩
                        · exact ⟨⟨⟨_, rfl, rfl, rfl⟩, rfl, rfl, rfl, rfl, rfl, rfl, rfl, rfl,  trivial⟩, ⟨rfl, rfl, rfl, rfl, rfl, rfl,  trivial⟩⟩
                        ·
                          refine then_ok ?_
                          refine AC.weak (Weak.cut (rows' := ((way).take (Int.toNat (x1.at_))).map rTransfer) (h' := [(6, (.box 60 [(cI x2.number), (cI x2.kind), (cI x2.auth), (cI x2.sum)])), (4, (.arr 60 4 ((s.kept).map rTransfer))), (3, (.arr 60 4 ((got).map rTransfer))), (2, (.arr 60 4 (((way).take (Int.toNat (x1.at_))).map rTransfer))), (1, (.arr 60 4 ((put).map rTransfer))), (0, (.box 58 [(cI s.sent), (.s 4 0 4 s.kept.length)]))]) 2 (Int.toNat (x1.at_)) rfl List.map_take.symm rfl) ?_
                          refine AC.seq ?_
                          refine AC.region ?_
                          refine AL.fast 1 rfl ?_
                          refine AL.val (Wanted.plain rfl) (g_loadBs rfl rfl rfl Try.underlying60 rfl sz60 rfl rfl) rfl rfl ?_
                          obtain ⟨n2, ok2, hr2⟩ : ∃ (n2 : Int) (ok2 : Bool), takeS seen x2 = (n2, ok2) := ⟨_, _, rfl⟩
                          refine AL.call (n' := 7) (h' := [(6, (.box 60 [(cI x2.number), (cI x2.kind), (cI x2.auth), (cI x2.sum)])), (4, (.arr 60 4 ((s.kept).map rTransfer))), (3, (.arr 60 4 ((got).map rTransfer))), (2, (.arr 60 4 (((way).take (Int.toNat (x1.at_))).map rTransfer))), (1, (.arr 60 4 ((put).map rTransfer))), (0, (.box 58 [(cI s.sent), (.s 4 0 4 s.kept.length)]))]) (Wanted.plain rfl) (g_call 7 (c_post_Take seen x2  n2 ok2 hr2) en55 rfl rfl ⟨⟨_, rfl, .c (.d _)⟩, ⟨_, rfl, .g ⟨.d _, .d _, .d _, .d _,  trivial⟩⟩,  trivial⟩ ⟨trivial, trivial,  trivial⟩ trivial rfl rfl rfl rfl) rfl rfl rfl rfl rfl ?_
                          refine AL.fast 1 rfl ?_
                          refine AL.val (Wanted.plain rfl) (g_extract rfl rfl rfl) rfl rfl ?_
                          refine AL.val (Wanted.plain rfl) (g_extract rfl rfl rfl) rfl rfl ?_
                          refine AL.fast 2 rfl ?_
                          refine AL.nil ?_
                          refine then_ok ?_
                          refine AC.seq ?_
                          refine AC.seq ?_
                          refine AC.region ?_
                          refine AL.fast 1 rfl ?_
                          refine AL.nil ?_
                          refine then_ok ?_
                          refine AC.cond rfl (fun hc23 => ?_) (fun hc23 => ?_)
                          ·
                            have hc23' := hc23; try simp only [sumB, Bool.not_eq_true', Bool.not_eq_false', Bool.or_eq_true, Bool.or_eq_false_iff, Bool.and_eq_true, Bool.and_eq_false_imp, decide_eq_true_eq, decide_eq_false_iff_not, Bool.not_not, Bool.not_true, Bool.not_false] at hc23'
                            refine AC.region ?_
                            refine AL.fast 1 rfl ?_
                            refine AL.val (Wanted.plain rfl) (g_loadBs rfl rfl rfl Try.underlying60 rfl sz60 rfl rfl) rfl rfl ?_
                            refine AL.new (n' := 8) (Wanted.plain rfl) (g_lit (ys := [(0, (.g [(cI x2.number), (cI x2.kind), (cI x2.auth), (cI x2.sum)]))]) (rows := ([x2]).map rTransfer) 7 sl56 rfl (by decide) ⟨⟨rfl, rfl⟩,  trivial⟩ rfl rfl rfl rfl) rfl rfl rfl ?_
                            refine AL.eat (n' := 9) (h' := [(8, (.arr 60 4 ((got ++ ([x2])).map rTransfer))), (7, (.arr 60 4 (([x2]).map rTransfer))), (6, (.box 60 [(cI x2.number), (cI x2.kind), (cI x2.auth), (cI x2.sum)])), (4, (.arr 60 4 ((s.kept).map rTransfer))), (2, (.arr 60 4 (((way).take (Int.toNat (x1.at_))).map rTransfer))), (1, (.arr 60 4 ((put).map rTransfer))), (0, (.box 58 [(cI s.sent), (.s 4 0 4 s.kept.length)]))]) (Wanted.plain rfl) (g_append (m := 1) (N := got.length + 1) (k2 := 8) (ys := ([x2]).map rTransfer) sl56 rfl rfl rfl rfl rfl rfl (by first | omega | (simp; done) | (simp; omega)) rfl (.s rfl (by first | omega | (simp; done) | (simp; omega))) (by first | omega | (simp; done) | (simp; omega)) (by first | omega | (simp; done) | (simp; omega)) appmap (by decide) (by first | omega | (simp; done) | (simp; omega)) (by first | omega | (simp; done) | (simp; omega))) rfl rfl rfl rfl rfl ?_
                            refine AL.fast 1 rfl ?_
                            refine AL.nil ?_
                            refine then_ok ?_
                            refine AC.region ?_
                            refine AL.fast 2 rfl ?_
                            refine AL.nil ?_
                            refine block_ok ?_
                            refine then_ok ?_
                            refine AC.seq ?_
                            refine AC.region ?_
                            refine AL.fast 1 rfl ?_
                            refine AL.val (Wanted.plain rfl) (g_lenX Try.underlying56 rfl rfl rfl rfl rfl) rfl rfl ?_
                            refine AL.val (Wanted.plain rfl) (g_binI rfl rfl rfl rfl) rfl rfl ?_
                            refine AL.nil ?_
                            refine then_ok ?_
                            refine AC.cond rfl (fun hc24 => ?_) (fun hc24 => ?_)
                            ·
                              have hc24' := hc24; try simp only [sumB, Bool.not_eq_true', Bool.not_eq_false', Bool.or_eq_true, Bool.or_eq_false_iff, Bool.and_eq_true, Bool.and_eq_false_imp, decide_eq_true_eq, decide_eq_false_iff_not, Bool.not_not, Bool.not_true, Bool.not_false] at hc24'
                              refine AC.seq ?_
                              refine AC.region ?_
                              refine AL.fast 1 rfl ?_
                              refine AL.nil ?_
                              refine then_ok ?_
                              refine AC.ret ?_
                              refine block_ret ?_
                              refine then_ret ?_
                              refine then_ret ?_
                              refine block_ret ?_
                              refine then_ret ?_
                              refine retQ_mk (av' := outOf [(.c (cB true))]) (nb' := []) (retQ_ret ⟨[(2, (aB true))], [], 0⟩ [.tmp 2] [(.c (cB true))] (Weak.ren id (⟨by first | rfl | (simp only [AV.map, GV.map, CV.map, AB.map', id]; done) | (congr 3; omega) | (congr 4; omega) | (simp only [List.length_append, List.length_cons, List.length_nil, List.length_set]; rfl), trivial⟩) (trivial) rfl) rfl ⟨.tmp rfl, trivial⟩ trivial) ?_ ?_
                              · rfl
                              · rfl
                            ·
                              have hc24' := hc24; try simp only [sumB, Bool.not_eq_true', Bool.not_eq_false', Bool.or_eq_true, Bool.or_eq_false_iff, Bool.and_eq_true, Bool.and_eq_false_imp, decide_eq_true_eq, decide_eq_false_iff_not, Bool.not_not, Bool.not_true, Bool.not_false] at hc24'
                              refine AC.skip ?_
                              refine block_ok ?_
                              refine then_ok ?_
                              refine AC.region ?_
                              refine AL.val (Wanted.plain rfl) (g_binI rfl rfl rfl (wrap_ok (by first | omega | (simp; done) | (simp; omega)))) rfl rfl ?_
                              refine AL.fast 1 rfl ?_
                              refine AL.nil ?_
                              refine then_ok ?_
                              have hO := Once.take hi0_1 hx2 hr2
                              rw [hc23] at hO
                              rw [if_pos rfl] at hO
                              have hW := Once.sub (way' := (way).take (Int.toNat (x1.at_))) hO (fun t ht => by first | exact List.mem_of_mem_take ht | (rcases List.mem_append.1 ht with hu | hu; exact List.mem_of_mem_take hu; exact List.mem_of_mem_drop (List.mem_of_mem_take hu)))
                              refine ⟨(true, q + 1, s, put, (way).take (Int.toNat (x1.at_)), got ++ ([x2]), n2), ⟨by omega, hW, by first | omega | (simp only [List.length_append, List.length_take, List.length_drop, List.length_cons, List.length_nil] at *; omega), by first | omega | (simp only [List.length_append, List.length_cons, List.length_nil]; omega)⟩, by first | omega | (simp; done) | (simp; omega), Weak.ren (fun k => if k = 3 then 8 else k) (by refine ⟨?_, ?_, ?_, ?_, ?_, ?_, ?_, ?_,  trivial⟩ <;> first | rfl | (simp only [AV.map, GV.map, CV.map, AB.map', id]; done) | (congr 3; omega) | (congr 4; omega) | (simp only [List.length_append, List.length_cons, List.length_nil, List.length_set]; rfl) | (first | exact look_s rfl (by simp only [List.length_append, List.length_take, List.length_drop, List.length_cons, List.length_nil]; omega) | exact look_sx rfl (by simp only [List.length_append, List.length_take, List.length_drop, List.length_cons, List.length_nil]; omega) (by simp only [List.length_append, List.length_take, List.length_drop, List.length_cons, List.length_nil]; omega))) (by refine ⟨?_, ?_, ?_, ?_, ?_,  trivial⟩ <;> first | rfl | (simp only [AV.map, GV.map, CV.map, AB.map', id]; done) | (congr 3; omega) | (congr 4; omega) | (simp only [List.length_append, List.length_cons, List.length_nil, List.length_set]; rfl)) rfl⟩
                          ·
                            have hc23' := hc23; try simp only [sumB, Bool.not_eq_true', Bool.not_eq_false', Bool.or_eq_true, Bool.or_eq_false_iff, Bool.and_eq_true, Bool.and_eq_false_imp, decide_eq_true_eq, decide_eq_false_iff_not, Bool.not_not, Bool.not_true, Bool.not_false] at hc23'
                            refine AC.skip ?_
                            refine then_ok ?_
                            refine AC.region ?_
                            refine AL.fast 2 rfl ?_
                            refine AL.nil ?_
                            refine block_ok ?_
                            refine then_ok ?_
                            refine AC.seq ?_
                            refine AC.region ?_
                            refine AL.fast 1 rfl ?_
                            refine AL.val (Wanted.plain rfl) (g_lenX Try.underlying56 rfl rfl rfl rfl rfl) rfl rfl ?_
                            refine AL.val (Wanted.plain rfl) (g_binI rfl rfl rfl rfl) rfl rfl ?_
                            refine AL.nil ?_
                            refine then_ok ?_
                            refine AC.cond rfl (fun hc25 => ?_) (fun hc25 => ?_)
                            ·
                              have hc25' := hc25; try simp only [sumB, Bool.not_eq_true', Bool.not_eq_false', Bool.or_eq_true, Bool.or_eq_false_iff, Bool.and_eq_true, Bool.and_eq_false_imp, decide_eq_true_eq, decide_eq_false_iff_not, Bool.not_not, Bool.not_true, Bool.not_false] at hc25'
                              refine AC.seq ?_
                              refine AC.region ?_
                              refine AL.fast 1 rfl ?_
                              refine AL.nil ?_
                              refine then_ok ?_
                              refine AC.ret ?_
                              refine block_ret ?_
                              refine then_ret ?_
                              refine then_ret ?_
                              refine block_ret ?_
                              refine then_ret ?_
                              refine retQ_mk (av' := outOf [(.c (cB true))]) (nb' := []) (retQ_ret ⟨[(2, (aB true))], [], 0⟩ [.tmp 2] [(.c (cB true))] (Weak.ren id (⟨by first | rfl | (simp only [AV.map, GV.map, CV.map, AB.map', id]; done) | (congr 3; omega) | (congr 4; omega) | (simp only [List.length_append, List.length_cons, List.length_nil, List.length_set]; rfl), trivial⟩) (trivial) rfl) rfl ⟨.tmp rfl, trivial⟩ trivial) ?_ ?_
                              · rfl
                              · rfl
                            ·
                              have hc25' := hc25; try simp only [sumB, Bool.not_eq_true', Bool.not_eq_false', Bool.or_eq_true, Bool.or_eq_false_iff, Bool.and_eq_true, Bool.and_eq_false_imp, decide_eq_true_eq, decide_eq_false_iff_not, Bool.not_not, Bool.not_true, Bool.not_false] at hc25'
                              refine AC.skip ?_
                              refine block_ok ?_
                              refine then_ok ?_
                              refine AC.region ?_
                              refine AL.val (Wanted.plain rfl) (g_binI rfl rfl rfl (wrap_ok (by first | omega | (simp; done) | (simp; omega)))) rfl rfl ?_
                              refine AL.fast 1 rfl ?_
                              refine AL.nil ?_
                              refine then_ok ?_
                              have hO := Once.take hi0_1 hx2 hr2
                              rw [hc23] at hO
                              rw [if_neg (by decide)] at hO
                              have hW := Once.sub (way' := (way).take (Int.toNat (x1.at_))) hO (fun t ht => by first | exact List.mem_of_mem_take ht | (rcases List.mem_append.1 ht with hu | hu; exact List.mem_of_mem_take hu; exact List.mem_of_mem_drop (List.mem_of_mem_take hu)))
                              refine ⟨(true, q + 1, s, put, (way).take (Int.toNat (x1.at_)), got, n2), ⟨by omega, hW, by first | omega | (simp only [List.length_append, List.length_take, List.length_drop, List.length_cons, List.length_nil] at *; omega), by first | omega | (simp only [List.length_append, List.length_cons, List.length_nil]; omega)⟩, by first | omega | (simp; done) | (simp; omega), Weak.ren id (by refine ⟨?_, ?_, ?_, ?_, ?_, ?_, ?_, ?_,  trivial⟩ <;> first | rfl | (simp only [AV.map, GV.map, CV.map, AB.map', id]; done) | (congr 3; omega) | (congr 4; omega) | (simp only [List.length_append, List.length_cons, List.length_nil, List.length_set]; rfl) | (first | exact look_s rfl (by simp only [List.length_append, List.length_take, List.length_drop, List.length_cons, List.length_nil]; omega) | exact look_sx rfl (by simp only [List.length_append, List.length_take, List.length_drop, List.length_cons, List.length_nil]; omega) (by simp only [List.length_append, List.length_take, List.length_drop, List.length_cons, List.length_nil]; omega))) (by refine ⟨?_, ?_, ?_, ?_, ?_,  trivial⟩ <;> first | rfl | (simp only [AV.map, GV.map, CV.map, AB.map', id]; done) | (congr 3; omega) | (congr 4; omega) | (simp only [List.length_append, List.length_cons, List.length_nil, List.length_set]; rfl)) rfl⟩
                      ·
                        refine AC.weak (st' := ⟨[(5, (aC (.sx 2 0 4 way.length cap1 true))), (3, (aC (.p 0 0 0 0))), (4, (aC (.s 1 0 4 put.length))), (6, (aC (.s 3 0 4 got.length))), (7, (aI seen)), (23, (aC (cR 3 ((l).map rAct)))), (24, (aI (↑l.length : Int))), (25, (aI (↑q : Int))), (9, (aC (.p 5 0 0 0))), (12, (aC (.p 6 0 0 0)))], [(6, (.box 60 [(cI x2.number), (cI x2.kind), (cI x2.auth), (cI x2.sum)])), (5, (.box 71 [(cI x1.kind), (cI x1.at_), (cI x1.sum)])), (4, (.arr 60 4 ((s.kept).map rTransfer))), (3, (.arr 60 4 ((got).map rTransfer))), (2, (.arr 60 4 ((way).map rTransfer))), (1, (.arr 60 4 ((put).map rTransfer))), (0, (.box 58 [(cI s.sent), (.s 4 0 4 s.kept.length)]))], 7⟩) (Weak.ren id (by refine ⟨?_, ?_, ?_, ?_, ?_, ?_, ?_, ?_, ?_, ?_,  trivial⟩ <;> first | rfl | (simp only [AV.map, GV.map, CV.map, AB.map', id]; done) | (congr 3; omega) | (congr 4; omega) | (simp only [List.length_append, List.length_cons, List.length_nil, List.length_set]; rfl)) (by refine ⟨?_, ?_, ?_, ?_, ?_, ?_, ?_,  trivial⟩ <;> first | rfl | (simp only [AV.map, GV.map, CV.map, AB.map', id]; done) | (congr 3; omega) | (congr 4; omega) | (simp only [List.length_append, List.length_cons, List.length_nil, List.length_set]; rfl)) rfl) ?_
                        refine AC.drawW [⟨some 82, (aC (.sx 2 0 4 way.length cap1 true)), [], [], [], [(5, (aC (.sx 2 0 4 way.length cap1 true)))], []⟩,
      ⟨some 83, (aC (.p 5 0 0 1)), [], [], [], [(9, (aC (.p 5 0 0 0)))], []⟩,
      ⟨some 84, (aI x1.at_), [], [], [1], [(83, (aC (.p 5 0 0 1)))], [(5, (.box 71 [(cI x1.kind), (cI x1.at_), (cI x1.sum)]))]⟩,
      ⟨some 85, (aC (.p 5 0 0 1)), [], [], [], [(9, (aC (.p 5 0 0 0)))], []⟩,
      ⟨some 86, (aI x1.at_), [], [], [3], [(85, (aC (.p 5 0 0 1)))], [(5, (.box 71 [(cI x1.kind), (cI x1.at_), (cI x1.sum)]))]⟩,
      ⟨some 87, (aC (.sx 2 0 4 (Int.toNat (x1.at_)) (Int.toNat (x1.at_)) false)), [], [], [4, 2, 0], [(82, (aC (.sx 2 0 4 way.length cap1 true))), (84, (aI x1.at_)), (86, (aI x1.at_))], [(2, (.arr 60 4 ((way).map rTransfer)))]⟩,
      ⟨some 88, (aC (.sx 2 0 4 way.length cap1 true)), [], [], [], [(5, (aC (.sx 2 0 4 way.length cap1 true)))], []⟩,
      ⟨some 89, (aC (.p 5 0 0 1)), [], [], [], [(9, (aC (.p 5 0 0 0)))], []⟩,
      ⟨some 90, (aI x1.at_), [], [], [7], [(89, (aC (.p 5 0 0 1)))], [(5, (.box 71 [(cI x1.kind), (cI x1.at_), (cI x1.sum)]))]⟩,
      ⟨some 91, (aI (x1.at_ + 1)), [], [], [8], [(90, (aI x1.at_))], []⟩,
      ⟨some 92, (aC (.sx 2 (Int.toNat (x1.at_ + 1)) 4 (way.length - (Int.toNat (x1.at_ + 1))) (cap1 - (Int.toNat (x1.at_ + 1))) true)), [], [], [9, 6], [(88, (aC (.sx 2 0 4 way.length cap1 true))), (91, (aI (x1.at_ + 1)))], [(2, (.arr 60 4 ((way).map rTransfer)))]⟩,
      ⟨some 93, (aC (.s 7 0 4 ((Int.toNat (x1.at_)) + (way.length - (Int.toNat (x1.at_ + 1)))))), [(7, (.arr 60 4 (((way).take (Int.toNat (x1.at_)) ++ (((way).drop (Int.toNat (x1.at_ + 1))).take (way.length - (Int.toNat (x1.at_ + 1))))).map rTransfer)))], [], [10, 5], [(87, (aC (.sx 2 0 4 (Int.toNat (x1.at_)) (Int.toNat (x1.at_)) false))), (92, (aC (.sx 2 (Int.toNat (x1.at_ + 1)) 4 (way.length - (Int.toNat (x1.at_ + 1))) (cap1 - (Int.toNat (x1.at_ + 1))) true)))], [(2, (.arr 60 4 ((way).map rTransfer)))]⟩,
      ⟨some 5, (aC (.s 7 0 4 ((Int.toNat (x1.at_)) + (way.length - (Int.toNat (x1.at_ + 1)))))), [], [], [11], [(93, (aC (.s 7 0 4 ((Int.toNat (x1.at_)) + (way.length - (Int.toNat (x1.at_ + 1)))))))], []⟩] ⟨[(5, (aC (.s 7 0 4 ((Int.toNat (x1.at_)) + (way.length - (Int.toNat (x1.at_ + 1))))))), (3, (aC (.p 0 0 0 0))), (4, (aC (.s 1 0 4 put.length))), (6, (aC (.s 3 0 4 got.length))), (7, (aI seen)), (23, (aC (cR 3 ((l).map rAct)))), (24, (aI (↑l.length : Int))), (25, (aI (↑q : Int))), (12, (aC (.p 6 0 0 0)))], [(7, (.arr 60 4 (((way).take (Int.toNat (x1.at_)) ++ (((way).drop (Int.toNat (x1.at_ + 1))).take (way.length - (Int.toNat (x1.at_ + 1))))).map rTransfer))), (6, (.box 60 [(cI x2.number), (cI x2.kind), (cI x2.auth), (cI x2.sum)])), (4, (.arr 60 4 ((s.kept).map rTransfer))), (3, (.arr 60 4 ((got).map rTransfer))), (1, (.arr 60 4 ((put).map rTransfer))), (0, (.box 58 [(cI s.sent), (.s 4 0 4 s.kept.length)]))], 8⟩ [12, 11, 10, 9, 8, 7, 6, 5, 4, 3, 2, 1, 0] mixed (by kernel_rfl) ?_ ?_ ?_ ?_
                        · exact ⟨.inl ⟨(Wanted.plain rfl), GOp.cast (g_move rfl rfl) rfl⟩,
      .inl ⟨(Wanted.plain rfl), GOp.cast (g_fieldP rfl rfl Try.underlying71 rfl sz3 (by decide)) rfl⟩,
      .inl ⟨(Wanted.plain rfl), GOp.cast (g_loadB rfl rfl rfl Try.underlying3 rfl rfl) rfl⟩,
      .inl ⟨(Wanted.plain rfl), GOp.cast (g_fieldP rfl rfl Try.underlying71 rfl sz3 (by decide)) rfl⟩,
      .inl ⟨(Wanted.plain rfl), GOp.cast (g_loadB rfl rfl rfl Try.underlying3 rfl rfl) rfl⟩,
      .inl ⟨(Wanted.plain rfl), GOp.cast (g_sliceX (l := 0) (h := Int.toNat (x1.at_)) (m := Int.toNat (x1.at_)) (n' := Int.toNat (x1.at_)) (c' := Int.toNat (x1.at_)) (E' := false) rfl Try.underlying56 sz60 rfl (.inl ⟨rfl, rfl⟩) (.inr ⟨_, rfl, (evI rfl (by first | omega | (simp; done) | (simp; omega)))⟩) (.inr ⟨_, rfl, (evI rfl (by first | omega | (simp; done) | (simp; omega)))⟩) (by first | omega | (simp; done) | (simp; omega)) (by first | omega | (simp; done) | (simp; omega)) (by first | omega | (simp; done) | (simp; omega)) (by first | omega | (simp; done) | (simp; omega)) (by first | omega | (simp; done) | (simp; omega)) (by simp)) rfl⟩,
      .inl ⟨(Wanted.plain rfl), GOp.cast (g_move rfl rfl) rfl⟩,
      .inl ⟨(Wanted.plain rfl), GOp.cast (g_fieldP rfl rfl Try.underlying71 rfl sz3 (by decide)) rfl⟩,
      .inl ⟨(Wanted.plain rfl), GOp.cast (g_loadB rfl rfl rfl Try.underlying3 rfl rfl) rfl⟩,
      .inl ⟨(Wanted.plain rfl), GOp.cast (g_binI rfl rfl rfl (wrap_ok (by first | omega | (simp; done) | (simp; omega)))) rfl⟩,
      .inl ⟨(Wanted.plain rfl), GOp.cast (GOp.cast (g_sliceX (l := Int.toNat (x1.at_ + 1)) (h := way.length) (m := cap1) (n' := way.length - (Int.toNat (x1.at_ + 1))) (c' := cap1 - (Int.toNat (x1.at_ + 1))) (E' := true) rfl Try.underlying56 sz60 rfl (.inr ⟨_, rfl, (evI rfl (by first | omega | (simp; done) | (simp; omega)))⟩) (.inl ⟨rfl, rfl, rfl⟩) (.inl ⟨rfl, rfl⟩) (by first | omega | (simp; done) | (simp; omega)) (by first | omega | (simp; done) | (simp; omega)) (by first | omega | (simp; done) | (simp; omega)) (by first | omega | (simp; done) | (simp; omega)) (by first | omega | (simp; done) | (simp; omega)) (by simp)) (show _ = (aC (.sx 2 (Int.toNat (x1.at_ + 1)) 4 (way.length - (Int.toNat (x1.at_ + 1))) (cap1 - (Int.toNat (x1.at_ + 1))) true)) by first | rfl | (simp only [Nat.zero_add, Nat.add_zero]; rfl))) rfl⟩,
      .inl ⟨(Wanted.plain rfl), GOp.cast (g_appG (m := way.length - (Int.toNat (x1.at_ + 1))) (N := (Int.toNat (x1.at_)) + (way.length - (Int.toNat (x1.at_ + 1)))) (ys := (((way).drop (Int.toNat (x1.at_ + 1))).take (way.length - (Int.toNat (x1.at_ + 1)))).map rTransfer) (rows' := ((way).take (Int.toNat (x1.at_)) ++ (((way).drop (Int.toNat (x1.at_ + 1))).take (way.length - (Int.toNat (x1.at_ + 1))))).map rTransfer) 7 sl56 zv60 rfl rfl rfl rfl rfl rfl rfl rfl rfl (.x rfl (by first | omega | (simp; done) | (simp; omega)) (by first | omega | (simp; done) | (simp; omega)) (by first | (simp [List.map_take, List.map_drop]; done) | (rw [List.map_take]; rfl))) (by first | omega | (simp; done) | (simp; omega)) (by first | omega | (simp; done) | (simp; omega)) (by first | omega | (simp; done) | (simp; omega)) (by first | omega | (simp; done) | (simp; omega)) (by first | omega | (simp; done) | (simp; omega)) (by first | omega | (simp; done) | (simp; omega)) (by first | (simp [List.map_take, List.map_drop]; done) | (rw [List.map_append, List.map_take, List.map_take]))) rfl⟩,
      .inl ⟨(Wanted.plain rfl), GOp.cast (g_assign rfl rfl) rfl⟩,
       trivial⟩
                        · exact ⟨⟨⟨rfl,  trivial⟩, trivial⟩, ⟨⟨rfl,  trivial⟩, trivial⟩, ⟨⟨⟨_, rfl, rfl, rfl⟩,  trivial⟩, ⟨rfl,  trivial⟩⟩, ⟨⟨rfl,  trivial⟩, trivial⟩, ⟨⟨⟨_, rfl, rfl, rfl⟩,  trivial⟩, ⟨rfl,  trivial⟩⟩, ⟨⟨⟨_, rfl, rfl, rfl⟩, ⟨_, rfl, rfl, rfl⟩, ⟨_, rfl, rfl, rfl⟩,  trivial⟩, ⟨rfl,  trivial⟩⟩, ⟨⟨rfl,  trivial⟩, trivial⟩, ⟨⟨rfl,  trivial⟩, trivial⟩, ⟨⟨⟨_, rfl, rfl, rfl⟩,  trivial⟩, ⟨rfl,  trivial⟩⟩, ⟨⟨⟨_, rfl, rfl, rfl⟩,  trivial⟩, trivial⟩, ⟨⟨⟨_, rfl, rfl, rfl⟩, ⟨_, rfl, rfl, rfl⟩,  trivial⟩, ⟨rfl,  trivial⟩⟩, ⟨⟨⟨_, rfl, rfl, rfl⟩, ⟨_, rfl, rfl, rfl⟩,  trivial⟩, ⟨rfl,  trivial⟩⟩, ⟨⟨⟨_, rfl, rfl, rfl⟩,  trivial⟩, trivial⟩,  trivial⟩
                        · exact ⟨⟨⟨_, rfl, rfl, rfl⟩, rfl, rfl, rfl, rfl, rfl, rfl, rfl, rfl,  trivial⟩, ⟨⟨_, rfl, .head _⟩, rfl, rfl, rfl, rfl, rfl,  trivial⟩⟩
                        ·
                          refine then_ok ?_
                          refine AC.seq ?_
                          refine AC.region ?_
                          refine AL.fast 1 rfl ?_
                          refine AL.val (Wanted.plain rfl) (g_loadBs rfl rfl rfl Try.underlying60 rfl sz60 rfl rfl) rfl rfl ?_
                          obtain ⟨n3, ok3, hr3⟩ : ∃ (n3 : Int) (ok3 : Bool), takeS seen x2 = (n3, ok3) := ⟨_, _, rfl⟩
                          refine AL.call (n' := 8) (h' := [(7, (.arr 60 4 (((way).take (Int.toNat (x1.at_)) ++ (((way).drop (Int.toNat (x1.at_ + 1))).take (way.length - (Int.toNat (x1.at_ + 1))))).map rTransfer))), (6, (.box 60 [(cI x2.number), (cI x2.kind), (cI x2.auth), (cI x2.sum)])), (4, (.arr 60 4 ((s.kept).map rTransfer))), (3, (.arr 60 4 ((got).map rTransfer))), (1, (.arr 60 4 ((put).map rTransfer))), (0, (.box 58 [(cI s.sent), (.s 4 0 4 s.kept.length)]))]) (Wanted.plain rfl) (g_call 8 (c_post_Take seen x2  n3 ok3 hr3) en55 rfl rfl ⟨⟨_, rfl, .c (.d _)⟩, ⟨_, rfl, .g ⟨.d _, .d _, .d _, .d _,  trivial⟩⟩,  trivial⟩ ⟨trivial, trivial,  trivial⟩ trivial rfl rfl rfl rfl) rfl rfl rfl rfl rfl ?_
                          refine AL.fast 1 rfl ?_
                          refine AL.val (Wanted.plain rfl) (g_extract rfl rfl rfl) rfl rfl ?_
                          refine AL.val (Wanted.plain rfl) (g_extract rfl rfl rfl) rfl rfl ?_
                          refine AL.fast 2 rfl ?_
                          refine AL.nil ?_
                          refine then_ok ?_
                          refine AC.seq ?_
                          refine AC.seq ?_
                          refine AC.region ?_
                          refine AL.fast 1 rfl ?_
                          refine AL.nil ?_
                          refine then_ok ?_
                          refine AC.cond rfl (fun hc26 => ?_) (fun hc26 => ?_)
                          ·
                            have hc26' := hc26; try simp only [sumB, Bool.not_eq_true', Bool.not_eq_false', Bool.or_eq_true, Bool.or_eq_false_iff, Bool.and_eq_true, Bool.and_eq_false_imp, decide_eq_true_eq, decide_eq_false_iff_not, Bool.not_not, Bool.not_true, Bool.not_false] at hc26'
                            refine AC.region ?_
                            refine AL.fast 1 rfl ?_
                            refine AL.val (Wanted.plain rfl) (g_loadBs rfl rfl rfl Try.underlying60 rfl sz60 rfl rfl) rfl rfl ?_
                            refine AL.new (n' := 9) (Wanted.plain rfl) (g_lit (ys := [(0, (.g [(cI x2.number), (cI x2.kind), (cI x2.auth), (cI x2.sum)]))]) (rows := ([x2]).map rTransfer) 8 sl56 rfl (by decide) ⟨⟨rfl, rfl⟩,  trivial⟩ rfl rfl rfl rfl) rfl rfl rfl ?_
                            refine AL.eat (n' := 10) (h' := [(9, (.arr 60 4 ((got ++ ([x2])).map rTransfer))), (8, (.arr 60 4 (([x2]).map rTransfer))), (7, (.arr 60 4 (((way).take (Int.toNat (x1.at_)) ++ (((way).drop (Int.toNat (x1.at_ + 1))).take (way.length - (Int.toNat (x1.at_ + 1))))).map rTransfer))), (6, (.box 60 [(cI x2.number), (cI x2.kind), (cI x2.auth), (cI x2.sum)])), (4, (.arr 60 4 ((s.kept).map rTransfer))), (1, (.arr 60 4 ((put).map rTransfer))), (0, (.box 58 [(cI s.sent), (.s 4 0 4 s.kept.length)]))]) (Wanted.plain rfl) (g_append (m := 1) (N := got.length + 1) (k2 := 9) (ys := ([x2]).map rTransfer) sl56 rfl rfl rfl rfl rfl rfl (by first | omega | (simp; done) | (simp; omega)) rfl (.s rfl (by first | omega | (simp; done) | (simp; omega))) (by first | omega | (simp; done) | (simp; omega)) (by first | omega | (simp; done) | (simp; omega)) appmap (by decide) (by first | omega | (simp; done) | (simp; omega)) (by first | omega | (simp; done) | (simp; omega))) rfl rfl rfl rfl rfl ?_
                            refine AL.fast 1 rfl ?_
                            refine AL.nil ?_
                            refine then_ok ?_
                            refine AC.region ?_
                            refine AL.fast 2 rfl ?_
                            refine AL.nil ?_
                            refine block_ok ?_
                            refine then_ok ?_
                            refine AC.seq ?_
                            refine AC.region ?_
                            refine AL.fast 1 rfl ?_
                            refine AL.val (Wanted.plain rfl) (g_lenS rfl rfl rfl rfl rfl Try.underlying56) rfl rfl ?_
                            refine AL.val (Wanted.plain rfl) (g_binI rfl rfl rfl rfl) rfl rfl ?_
                            refine AL.nil ?_
                            refine then_ok ?_
                            refine AC.cond rfl (fun hc27 => ?_) (fun hc27 => ?_)
                            ·
                              have hc27' := hc27; try simp only [sumB, Bool.not_eq_true', Bool.not_eq_false', Bool.or_eq_true, Bool.or_eq_false_iff, Bool.and_eq_true, Bool.and_eq_false_imp, decide_eq_true_eq, decide_eq_false_iff_not, Bool.not_not, Bool.not_true, Bool.not_false] at hc27'
                              refine AC.seq ?_
                              refine AC.region ?_
                              refine AL.fast 1 rfl ?_
                              refine AL.nil ?_
                              refine then_ok ?_
                              refine AC.ret ?_
                              refine block_ret ?_
                              refine then_ret ?_
                              refine then_ret ?_
                              refine block_ret ?_
                              refine then_ret ?_
                              refine retQ_mk (av' := outOf [(.c (cB true))]) (nb' := []) (retQ_ret ⟨[(2, (aB true))], [], 0⟩ [.tmp 2] [(.c (cB true))] (Weak.ren id (⟨by first | rfl | (simp only [AV.map, GV.map, CV.map, AB.map', id]; done) | (congr 3; omega) | (congr 4; omega) | (simp only [List.length_append, List.length_cons, List.length_nil, List.length_set]; rfl), trivial⟩) (trivial) rfl) rfl ⟨.tmp rfl, trivial⟩ trivial) ?_ ?_
                              · rfl
                              · rfl
                            ·
                              have hc27' := hc27; try simp only [sumB, Bool.not_eq_true', Bool.not_eq_false', Bool.or_eq_true, Bool.or_eq_false_iff, Bool.and_eq_true, Bool.and_eq_false_imp, decide_eq_true_eq, decide_eq_false_iff_not, Bool.not_not, Bool.not_true, Bool.not_false] at hc27'
                              refine AC.skip ?_
                              refine block_ok ?_
                              refine then_ok ?_
                              refine AC.region ?_
                              refine AL.val (Wanted.plain rfl) (g_binI rfl rfl rfl (wrap_ok (by first | omega | (simp; done) | (simp; omega)))) rfl rfl ?_
                              refine AL.fast 1 rfl ?_
                              refine AL.nil ?_
                              refine then_ok ?_
                              have hO := Once.take hi0_1 hx2 hr3
                              rw [hc26] at hO
                              rw [if_pos rfl] at hO
                              have hW := Once.sub (way' := (way).take (Int.toNat (x1.at_)) ++ (((way).drop (Int.toNat (x1.at_ + 1))).take (way.length - (Int.toNat (x1.at_ + 1))))) hO (fun t ht => by first | exact List.mem_of_mem_take ht | (rcases List.mem_append.1 ht with hu | hu; exact List.mem_of_mem_take hu; exact List.mem_of_mem_drop (List.mem_of_mem_take hu)))
                              refine ⟨(false, q + 1, s, put, (way).take (Int.toNat (x1.at_)) ++ (((way).drop (Int.toNat (x1.at_ + 1))).take (way.length - (Int.toNat (x1.at_ + 1)))), got ++ ([x2]), n3), ⟨by omega, hW, by first | omega | (simp only [List.length_append, List.length_take, List.length_drop, List.length_cons, List.length_nil] at *; omega), by first | omega | (simp only [List.length_append, List.length_cons, List.length_nil]; omega)⟩, by first | omega | (simp; done) | (simp; omega), Weak.ren (fun k => if k = 3 then 9 else if k = 2 then 7 else k) (by refine ⟨?_, ?_, ?_, ?_, ?_, ?_, ?_, ?_,  trivial⟩ <;> first | rfl | (simp only [AV.map, GV.map, CV.map, AB.map', id]; done) | (congr 3; omega) | (congr 4; omega) | (simp only [List.length_append, List.length_cons, List.length_nil, List.length_set]; rfl) | (first | exact look_s rfl (by simp only [List.length_append, List.length_take, List.length_drop, List.length_cons, List.length_nil]; omega) | exact look_sx rfl (by simp only [List.length_append, List.length_take, List.length_drop, List.length_cons, List.length_nil]; omega) (by simp only [List.length_append, List.length_take, List.length_drop, List.length_cons, List.length_nil]; omega))) (by refine ⟨?_, ?_, ?_, ?_, ?_,  trivial⟩ <;> first | rfl | (simp only [AV.map, GV.map, CV.map, AB.map', id]; done) | (congr 3; omega) | (congr 4; omega) | (simp only [List.length_append, List.length_cons, List.length_nil, List.length_set]; rfl)) rfl⟩
                          ·
                            have hc26' := hc26; try simp only [sumB, Bool.not_eq_true', Bool.not_eq_false', Bool.or_eq_true, Bool.or_eq_false_iff, Bool.and_eq_true, Bool.and_eq_false_imp, decide_eq_true_eq, decide_eq_false_iff_not, Bool.not_not, Bool.not_true, Bool.not_false] at hc26'
                            refine AC.skip ?_
                            refine then_ok ?_
                            refine AC.region ?_
                            refine AL.fast 2 rfl ?_
                            refine AL.nil ?_
                            refine block_ok ?_
                            refine then_ok ?_
                            refine AC.seq ?_
                            refine AC.region ?_
                            refine AL.fast 1 rfl ?_
                            refine AL.val (Wanted.plain rfl) (g_lenS rfl rfl rfl rfl rfl Try.underlying56) rfl rfl ?_
                            refine AL.val (Wanted.plain rfl) (g_binI rfl rfl rfl rfl) rfl rfl ?_
                            refine AL.nil ?_
                            refine then_ok ?_
                            refine AC.cond rfl (fun hc28 => ?_) (fun hc28 => ?_)
                            ·
                              have hc28' := hc28; try simp only [sumB, Bool.not_eq_true', Bool.not_eq_false', Bool.or_eq_true, Bool.or_eq_false_iff, Bool.and_eq_true, Bool.and_eq_false_imp, decide_eq_true_eq, decide_eq_false_iff_not, Bool.not_not, Bool.not_true, Bool.not_false] at hc28'
                              refine AC.seq ?_
                              refine AC.region ?_
                              refine AL.fast 1 rfl ?_
                              refine AL.nil ?_
                              refine then_ok ?_
                              refine AC.ret ?_
                              refine block_ret ?_
                              refine then_ret ?_
                              refine then_ret ?_
                              refine block_ret ?_
                              refine then_ret ?_
                              refine retQ_mk (av' := outOf [(.c (cB true))]) (nb' := []) (retQ_ret ⟨[(2, (aB true))], [], 0⟩ [.tmp 2] [(.c (cB true))] (Weak.ren id (⟨by first | rfl | (simp only [AV.map, GV.map, CV.map, AB.map', id]; done) | (congr 3; omega) | (congr 4; omega) | (simp only [List.length_append, List.length_cons, List.length_nil, List.length_set]; rfl), trivial⟩) (trivial) rfl) rfl ⟨.tmp rfl, trivial⟩ trivial) ?_ ?_
                              · rfl
                              · rfl
                            ·
                              have hc28' := hc28; try simp only [sumB, Bool.not_eq_true', Bool.not_eq_false', Bool.or_eq_true, Bool.or_eq_false_iff, Bool.and_eq_true, Bool.and_eq_false_imp, decide_eq_true_eq, decide_eq_false_iff_not, Bool.not_not, Bool.not_true, Bool.not_false] at hc28'
                              refine AC.skip ?_
                              refine block_ok ?_
                              refine then_ok ?_
                              refine AC.region ?_
                              refine AL.val (Wanted.plain rfl) (g_binI rfl rfl rfl (wrap_ok (by first | omega | (simp; done) | (simp; omega)))) rfl rfl ?_
                              refine AL.fast 1 rfl ?_
                              refine AL.nil ?_
                              refine then_ok ?_
                              have hO := Once.take hi0_1 hx2 hr3
                              rw [hc26] at hO
                              rw [if_neg (by decide)] at hO
                              have hW := Once.sub (way' := (way).take (Int.toNat (x1.at_)) ++ (((way).drop (Int.toNat (x1.at_ + 1))).take (way.length - (Int.toNat (x1.at_ + 1))))) hO (fun t ht => by first | exact List.mem_of_mem_take ht | (rcases List.mem_append.1 ht with hu | hu; exact List.mem_of_mem_take hu; exact List.mem_of_mem_drop (List.mem_of_mem_take hu)))
                              refine ⟨(false, q + 1, s, put, (way).take (Int.toNat (x1.at_)) ++ (((way).drop (Int.toNat (x1.at_ + 1))).take (way.length - (Int.toNat (x1.at_ + 1)))), got, n3), ⟨by omega, hW, by first | omega | (simp only [List.length_append, List.length_take, List.length_drop, List.length_cons, List.length_nil] at *; omega), by first | omega | (simp only [List.length_append, List.length_cons, List.length_nil]; omega)⟩, by first | omega | (simp; done) | (simp; omega), Weak.ren (fun k => if k = 2 then 7 else k) (by refine ⟨?_, ?_, ?_, ?_, ?_, ?_, ?_, ?_,  trivial⟩ <;> first | rfl | (simp only [AV.map, GV.map, CV.map, AB.map', id]; done) | (congr 3; omega) | (congr 4; omega) | (simp only [List.length_append, List.length_cons, List.length_nil, List.length_set]; rfl) | (first | exact look_s rfl (by simp only [List.length_append, List.length_take, List.length_drop, List.length_cons, List.length_nil]; omega) | exact look_sx rfl (by simp only [List.length_append, List.length_take, List.length_drop, List.length_cons, List.length_nil]; omega) (by simp only [List.length_append, List.length_take, List.length_drop, List.length_cons, List.length_nil]; omega))) (by refine ⟨?_, ?_, ?_, ?_, ?_,  trivial⟩ <;> first | rfl | (simp only [AV.map, GV.map, CV.map, AB.map', id]; done) | (congr 3; omega) | (congr 4; omega) | (simp only [List.length_append, List.length_cons, List.length_nil, List.length_set]; rfl)) rfl⟩
                ·
                  have hc18' := hc18; try simp only [sumB, Bool.not_eq_true', Bool.not_eq_false', Bool.or_eq_true, Bool.or_eq_false_iff, Bool.and_eq_true, Bool.and_eq_false_imp, decide_eq_true_eq, decide_eq_false_iff_not, Bool.not_not, Bool.not_true, Bool.not_false] at hc18'
                  refine AC.seq ?_
                  refine AC.region ?_
                  refine AL.val (Wanted.plain rfl) (g_binI rfl rfl rfl rfl) rfl rfl ?_
                  refine AL.fast 1 rfl ?_
                  refine AL.nil ?_
                  refine then_ok ?_
                  refine AC.cond rfl (fun hc29 => ?_) (fun hc29 => ?_)
                  ·
                    have hc29' := hc29; try simp only [sumB, Bool.not_eq_true', Bool.not_eq_false', Bool.or_eq_true, Bool.or_eq_false_iff, Bool.and_eq_true, Bool.and_eq_false_imp, decide_eq_true_eq, decide_eq_false_iff_not, Bool.not_not, Bool.not_true, Bool.not_false] at hc29'
                    refine AC.seq ?_
                    refine AC.region ?_
                    refine AL.val (Wanted.plain rfl) (g_loadBs rfl rfl rfl Try.underlying58 rfl sz58 rfl rfl) rfl rfl ?_
                    refine AL.fast 1 rfl ?_
                    obtain ⟨x4, e4, hr4⟩ : ∃ (x4 : Sender) (e4 : Int), backS s seen = (x4, e4) := ⟨_, _, rfl⟩
                    refine AL.call (n' := 7) (h' := [(6, (.arr 60 4 ((x4.kept).map rTransfer))), (5, (.box 71 [(cI x1.kind), (cI x1.at_), (cI x1.sum)])), (4, (.arr 60 4 ((s.kept).map rTransfer))), (3, (.arr 60 4 ((got).map rTransfer))), (2, (.arr 60 4 ((way).map rTransfer))), (1, (.arr 60 4 ((put).map rTransfer))), (0, (.box 58 [(cI s.sent), (.s 4 0 4 s.kept.length)]))]) (Wanted.plain rfl) (g_callE 6 [4] (c_post_Back s seen (by first | assumption | exact inI_out (by assumption) (by omega) | exact inI_back (by assumption) (by assumption) | (simp [InI]; done)) x4 e4 hr4) en53 rfl rfl ⟨⟨_, rfl, .g ⟨.d _, .s rfl (by decide) (by first | omega | (simp; done) | (simp; omega)),  trivial⟩⟩, ⟨_, rfl, .c (.d _)⟩,  trivial⟩ ⟨⟨rfl, trivial,  trivial⟩, rfl,  trivial⟩ ⟨(isv_rTransfer _),  trivial⟩ rfl rfl rfl rfl) rfl rfl rfl rfl rfl ?_
                    refine AL.fast 1 rfl ?_
                    refine AL.val (Wanted.plain rfl) (g_extract rfl rfl rfl) rfl rfl ?_
                    refine AL.val (Wanted.plain rfl) (g_extract rfl rfl rfl) rfl rfl ?_
                    refine AL.new (n' := 8) (Wanted.plain rfl) (g_alloc 7 rfl zv58 rfl rfl rfl) rfl rfl rfl ?_
                    refine AL.sto (h' := [(7, (.box 58 [(cI x4.sent), (.s 6 0 4 x4.kept.length)])), (6, (.arr 60 4 ((x4.kept).map rTransfer))), (5, (.box 71 [(cI x1.kind), (cI x1.at_), (cI x1.sum)])), (4, (.arr 60 4 ((s.kept).map rTransfer))), (3, (.arr 60 4 ((got).map rTransfer))), (2, (.arr 60 4 ((way).map rTransfer))), (1, (.arr 60 4 ((put).map rTransfer))), (0, (.box 58 [(cI s.sent), (.s 4 0 4 s.kept.length)]))]) (Wanted.plain rfl) (g_storeB rfl rfl rfl rfl rfl sz58 rfl (Nat.le_of_ble_eq_true rfl) rfl) rfl rfl rfl rfl ?_
                    refine AL.fast 1 rfl ?_
                    refine AL.nil ?_
                    refine then_ok ?_
                    refine AC.seq ?_
                    refine AC.seq ?_
                    refine AC.region ?_
                    refine AL.fast 1 rfl ?_
                    refine AL.val (Wanted.plain rfl) (g_binI rfl rfl rfl rfl) rfl rfl ?_
                    refine AL.nil ?_
                    refine then_ok ?_
                    refine AC.cond rfl (fun hc30 => ?_) (fun hc30 => ?_)
                    ·
                      have hc30' := hc30; try simp only [sumB, Bool.not_eq_true', Bool.not_eq_false', Bool.or_eq_true, Bool.or_eq_false_iff, Bool.and_eq_true, Bool.and_eq_false_imp, decide_eq_true_eq, decide_eq_false_iff_not, Bool.not_not, Bool.not_true, Bool.not_false] at hc30'
                      refine AC.seq ?_
                      refine AC.region ?_
                      refine AL.fast 1 rfl ?_
                      refine AL.nil ?_
                      refine then_ok ?_
                      refine AC.ret ?_
                      refine then_ret ?_
                      refine block_ret ?_
                      refine then_ret ?_
                      refine block_ret ?_
                      refine then_ret ?_
                      refine then_ret ?_
                      refine block_ret ?_
                      refine then_ret ?_
                      refine retQ_mk (av' := outOf [(.c (cB false))]) (nb' := []) (retQ_ret ⟨[(2, (aB false))], [], 0⟩ [.tmp 2] [(.c (cB false))] (Weak.ren id (⟨by first | rfl | (simp only [AV.map, GV.map, CV.map, AB.map', id]; done) | (congr 3; omega) | (congr 4; omega) | (simp only [List.length_append, List.length_cons, List.length_nil, List.length_set]; rfl), trivial⟩) (trivial) rfl) rfl ⟨.tmp rfl, trivial⟩ trivial) ?_ ?_
                      · exact congrArg aB (show (false) = true by (exfalso; have := (Once.back hi0_1 hr4).1; omega))
                      · rfl
                    ·
                      have hc30' := hc30; try simp only [sumB, Bool.not_eq_true', Bool.not_eq_false', Bool.or_eq_true, Bool.or_eq_false_iff, Bool.and_eq_true, Bool.and_eq_false_imp, decide_eq_true_eq, decide_eq_false_iff_not, Bool.not_not, Bool.not_true, Bool.not_false] at hc30'
                      refine AC.skip ?_
                      refine then_ok ?_
                      refine AC.region ?_
                      refine AL.val (Wanted.plain rfl) (g_loadBs rfl rfl rfl Try.underlying58 rfl sz58 rfl rfl) rfl rfl ?_
                      refine AL.sto (h' := [(7, (.box 58 [(cI x4.sent), (.s 6 0 4 x4.kept.length)])), (6, (.arr 60 4 ((x4.kept).map rTransfer))), (5, (.box 71 [(cI x1.kind), (cI x1.at_), (cI x1.sum)])), (4, (.arr 60 4 ((s.kept).map rTransfer))), (3, (.arr 60 4 ((got).map rTransfer))), (2, (.arr 60 4 ((way).map rTransfer))), (1, (.arr 60 4 ((put).map rTransfer))), (0, (.box 58 [(cI x4.sent), (.s 6 0 4 x4.kept.length)]))]) (Wanted.plain rfl) (g_storeB rfl rfl rfl rfl rfl sz58 rfl (Nat.le_of_ble_eq_true rfl) rfl) rfl rfl rfl rfl ?_
                      refine AL.nil ?_
                      refine block_ok ?_
                      refine then_ok ?_
                      refine AC.seq ?_
                      refine AC.region ?_
                      refine AL.fast 1 rfl ?_
                      refine AL.val (Wanted.plain rfl) (g_lenS rfl rfl rfl rfl rfl Try.underlying56) rfl rfl ?_
                      refine AL.val (Wanted.plain rfl) (g_binI rfl rfl rfl rfl) rfl rfl ?_
                      refine AL.nil ?_
                      refine then_ok ?_
                      refine AC.cond rfl (fun hc31 => ?_) (fun hc31 => ?_)
                      ·
                        have hc31' := hc31; try simp only [sumB, Bool.not_eq_true', Bool.not_eq_false', Bool.or_eq_true, Bool.or_eq_false_iff, Bool.and_eq_true, Bool.and_eq_false_imp, decide_eq_true_eq, decide_eq_false_iff_not, Bool.not_not, Bool.not_true, Bool.not_false] at hc31'
                        refine AC.seq ?_
                        refine AC.region ?_
                        refine AL.fast 1 rfl ?_
                        refine AL.nil ?_
                        refine then_ok ?_
                        refine AC.ret ?_
                        refine block_ret ?_
                        refine then_ret ?_
                        refine then_ret ?_
                        refine block_ret ?_
                        refine then_ret ?_
                        refine retQ_mk (av' := outOf [(.c (cB true))]) (nb' := []) (retQ_ret ⟨[(2, (aB true))], [], 0⟩ [.tmp 2] [(.c (cB true))] (Weak.ren id (⟨by first | rfl | (simp only [AV.map, GV.map, CV.map, AB.map', id]; done) | (congr 3; omega) | (congr 4; omega) | (simp only [List.length_append, List.length_cons, List.length_nil, List.length_set]; rfl), trivial⟩) (trivial) rfl) rfl ⟨.tmp rfl, trivial⟩ trivial) ?_ ?_
                        · rfl
                        · rfl
                      ·
                        have hc31' := hc31; try simp only [sumB, Bool.not_eq_true', Bool.not_eq_false', Bool.or_eq_true, Bool.or_eq_false_iff, Bool.and_eq_true, Bool.and_eq_false_imp, decide_eq_true_eq, decide_eq_false_iff_not, Bool.not_not, Bool.not_true, Bool.not_false] at hc31'
                        refine AC.skip ?_
                        refine block_ok ?_
                        refine then_ok ?_
                        refine AC.region ?_
                        refine AL.val (Wanted.plain rfl) (g_binI rfl rfl rfl (wrap_ok (by first | omega | (simp; done) | (simp; omega)))) rfl rfl ?_
                        refine AL.fast 1 rfl ?_
                        refine AL.nil ?_
                        refine then_ok ?_
                        have hO := (Once.back hi0_1 hr4).2
                        refine ⟨(false, q + 1, x4, put, way, got, seen), ⟨by omega, hO, by first | omega | (simp only [List.length_append, List.length_take, List.length_drop, List.length_cons, List.length_nil] at *; omega), by first | omega | (simp only [List.length_append, List.length_cons, List.length_nil]; omega)⟩, by first | omega | (simp; done) | (simp; omega), Weak.ren (fun k => if k = 4 then 6 else k) (by refine ⟨?_, ?_, ?_, ?_, ?_, ?_, ?_, ?_,  trivial⟩ <;> first | rfl | (simp only [AV.map, GV.map, CV.map, AB.map', id]; done) | (congr 3; omega) | (congr 4; omega) | (simp only [List.length_append, List.length_cons, List.length_nil, List.length_set]; rfl) | (first | exact look_s rfl (by simp only [List.length_append, List.length_take, List.length_drop, List.length_cons, List.length_nil]; omega) | exact look_sx rfl (by simp only [List.length_append, List.length_take, List.length_drop, List.length_cons, List.length_nil]; omega) (by simp only [List.length_append, List.length_take, List.length_drop, List.length_cons, List.length_nil]; omega))) (by refine ⟨?_, ?_, ?_, ?_, ?_,  trivial⟩ <;> first | rfl | (simp only [AV.map, GV.map, CV.map, AB.map', id]; done) | (congr 3; omega) | (congr 4; omega) | (simp only [List.length_append, List.length_cons, List.length_nil, List.length_set]; rfl)) rfl⟩
                  ·
                    have hc29' := hc29; try simp only [sumB, Bool.not_eq_true', Bool.not_eq_false', Bool.or_eq_true, Bool.or_eq_false_iff, Bool.and_eq_true, Bool.and_eq_false_imp, decide_eq_true_eq, decide_eq_false_iff_not, Bool.not_not, Bool.not_true, Bool.not_false] at hc29'
                    refine AC.skip ?_
                    refine block_ok ?_
                    refine then_ok ?_
                    refine AC.seq ?_
                    refine AC.region ?_
                    refine AL.fast 1 rfl ?_
                    refine AL.val (Wanted.plain rfl) (g_lenS rfl rfl rfl rfl rfl Try.underlying56) rfl rfl ?_
                    refine AL.val (Wanted.plain rfl) (g_binI rfl rfl rfl rfl) rfl rfl ?_
                    refine AL.nil ?_
                    refine then_ok ?_
                    refine AC.cond rfl (fun hc32 => ?_) (fun hc32 => ?_)
                    ·
                      have hc32' := hc32; try simp only [sumB, Bool.not_eq_true', Bool.not_eq_false', Bool.or_eq_true, Bool.or_eq_false_iff, Bool.and_eq_true, Bool.and_eq_false_imp, decide_eq_true_eq, decide_eq_false_iff_not, Bool.not_not, Bool.not_true, Bool.not_false] at hc32'
                      refine AC.seq ?_
                      refine AC.region ?_
                      refine AL.fast 1 rfl ?_
                      refine AL.nil ?_
                      refine then_ok ?_
                      refine AC.ret ?_
                      refine block_ret ?_
                      refine then_ret ?_
                      refine then_ret ?_
                      refine block_ret ?_
                      refine then_ret ?_
                      refine retQ_mk (av' := outOf [(.c (cB true))]) (nb' := []) (retQ_ret ⟨[(2, (aB true))], [], 0⟩ [.tmp 2] [(.c (cB true))] (Weak.ren id (⟨by first | rfl | (simp only [AV.map, GV.map, CV.map, AB.map', id]; done) | (congr 3; omega) | (congr 4; omega) | (simp only [List.length_append, List.length_cons, List.length_nil, List.length_set]; rfl), trivial⟩) (trivial) rfl) rfl ⟨.tmp rfl, trivial⟩ trivial) ?_ ?_
                      · rfl
                      · rfl
                    ·
                      have hc32' := hc32; try simp only [sumB, Bool.not_eq_true', Bool.not_eq_false', Bool.or_eq_true, Bool.or_eq_false_iff, Bool.and_eq_true, Bool.and_eq_false_imp, decide_eq_true_eq, decide_eq_false_iff_not, Bool.not_not, Bool.not_true, Bool.not_false] at hc32'
                      refine AC.skip ?_
                      refine block_ok ?_
                      refine then_ok ?_
                      refine AC.region ?_
                      refine AL.val (Wanted.plain rfl) (g_binI rfl rfl rfl (wrap_ok (by first | omega | (simp; done) | (simp; omega)))) rfl rfl ?_
                      refine AL.fast 1 rfl ?_
                      refine AL.nil ?_
                      refine then_ok ?_
                      refine ⟨(false, q + 1, s, put, way, got, seen), ⟨by omega, hi0_1, by first | omega | (simp only [List.length_append, List.length_take, List.length_drop, List.length_cons, List.length_nil] at *; omega), by first | omega | (simp only [List.length_append, List.length_cons, List.length_nil]; omega)⟩, by first | omega | (simp; done) | (simp; omega), Weak.ren id (by refine ⟨?_, ?_, ?_, ?_, ?_, ?_, ?_, ?_,  trivial⟩ <;> first | rfl | (simp only [AV.map, GV.map, CV.map, AB.map', id]; done) | (congr 3; omega) | (congr 4; omega) | (simp only [List.length_append, List.length_cons, List.length_nil, List.length_set]; rfl) | (first | exact look_s rfl (by simp only [List.length_append, List.length_take, List.length_drop, List.length_cons, List.length_nil]; omega) | exact look_sx rfl (by simp only [List.length_append, List.length_take, List.length_drop, List.length_cons, List.length_nil]; omega) (by simp only [List.length_append, List.length_take, List.length_drop, List.length_cons, List.length_nil]; omega))) (by refine ⟨?_, ?_, ?_, ?_, ?_,  trivial⟩ <;> first | rfl | (simp only [AV.map, GV.map, CV.map, AB.map', id]; done) | (congr 3; omega) | (congr 4; omega) | (simp only [List.length_append, List.length_cons, List.length_nil, List.length_set]; rfl)) rfl⟩
        ·
          have hc3' := hc3; try simp only [sumB, Bool.not_eq_true', Bool.not_eq_false', Bool.or_eq_true, Bool.or_eq_false_iff, Bool.and_eq_true, Bool.and_eq_false_imp, decide_eq_true_eq, decide_eq_false_iff_not, Bool.not_not, Bool.not_true, Bool.not_false] at hc3'
          refine AC.exit ?_
          refine then_exit ?_
          refine then_exit ?_
          refine block_hit ?_
          refine then_ok ?_
          refine AC.seq ?_
          obtain ⟨f5, hr5⟩ : ∃ (f5 : Fault), wrongSF s = f5 := ⟨_, rfl⟩
          refine AC.cutB 137 (((decide (¬ (↑got.length : Int) = seen)) || (decide ((↑got.length : Int) > (↑put.length : Int)))) || (decide (¬ f5.err = 0))) ?_ ?_
          ·
            refine AC.region ?_
            refine AL.fast 1 rfl ?_
            refine AL.val (Wanted.plain rfl) (g_lenS rfl rfl rfl rfl rfl Try.underlying56) rfl rfl ?_
            refine AL.fast 1 rfl ?_
            refine AL.val (Wanted.plain rfl) (g_binI rfl rfl rfl rfl) rfl rfl ?_
            refine AL.fast 1 rfl ?_
            refine AL.dec (t := 125) rfl (fun hb33 => ?_) (fun hb33 => ?_)
            ·
              have hb33' := hb33; try simp only [sumB, Bool.not_eq_true', Bool.not_eq_false', Bool.or_eq_true, Bool.or_eq_false_iff, Bool.and_eq_true, Bool.and_eq_false_imp, decide_eq_true_eq, decide_eq_false_iff_not, Bool.not_not, Bool.not_true, Bool.not_false] at hb33'
              refine AL.fast 12 rfl ?_
              refine AL.nil ?_
              refine then_ok ?_
              exact Weak.popB 18 rfl rfl (by first | (simp [hb33]; done) | (simp_all; done) | (exfalso; simp_all; done) | (simp_all; omega)) rfl
            ·
              have hb33' := hb33; try simp only [sumB, Bool.not_eq_true', Bool.not_eq_false', Bool.or_eq_true, Bool.or_eq_false_iff, Bool.and_eq_true, Bool.and_eq_false_imp, decide_eq_true_eq, decide_eq_false_iff_not, Bool.not_not, Bool.not_true, Bool.not_false] at hb33'
              refine AL.fast 1 rfl ?_
              refine AL.val (Wanted.yes rfl rfl rfl) (g_lenS rfl rfl rfl rfl rfl Try.underlying56) rfl rfl ?_
              refine AL.fast 1 rfl ?_
              refine AL.val (Wanted.yes rfl rfl rfl) (g_lenS rfl rfl rfl rfl rfl Try.underlying56) rfl rfl ?_
              refine AL.val (Wanted.yes rfl rfl rfl) (g_binI rfl rfl rfl rfl) rfl rfl ?_
              refine AL.fast 2 rfl ?_
              refine AL.dec (t := 132) rfl (fun hb34 => ?_) (fun hb34 => ?_)
              ·
                have hb34' := hb34; try simp only [sumB, Bool.not_eq_true', Bool.not_eq_false', Bool.or_eq_true, Bool.or_eq_false_iff, Bool.and_eq_true, Bool.and_eq_false_imp, decide_eq_true_eq, decide_eq_false_iff_not, Bool.not_not, Bool.not_true, Bool.not_false] at hb34'
                refine AL.fast 5 rfl ?_
                refine AL.nil ?_
                refine then_ok ?_
                exact Weak.popB 19 rfl rfl (by first | (simp [hb33, hb34]; done) | (simp_all; done) | (exfalso; simp_all; done) | (simp_all; omega)) rfl
              ·
                have hb34' := hb34; try simp only [sumB, Bool.not_eq_true', Bool.not_eq_false', Bool.or_eq_true, Bool.or_eq_false_iff, Bool.and_eq_true, Bool.and_eq_false_imp, decide_eq_true_eq, decide_eq_false_iff_not, Bool.not_not, Bool.not_true, Bool.not_false] at hb34'
                refine AL.val (Wanted.yes rfl rfl rfl) (g_loadBs rfl rfl rfl Try.underlying58 rfl sz58 rfl rfl) rfl rfl ?_
                refine AL.call (n' := 5) (h' := [(4, (.arr 60 4 ((s.kept).map rTransfer))), (3, (.arr 60 4 ((got).map rTransfer))), (2, (.arr 60 4 ((way).map rTransfer))), (1, (.arr 60 4 ((put).map rTransfer))), (0, (.box 58 [(cI s.sent), (.s 4 0 4 s.kept.length)]))]) (Wanted.yes rfl rfl rfl) (g_callE 5 [4] (c_post_Wrong s (by first | assumption | exact inI_out (by assumption) (by omega) | exact inI_back (by assumption) (by assumption) | (simp [InI]; done)) f5 hr5) en48 rfl rfl ⟨⟨_, rfl, .g ⟨.d _, .s rfl (by decide) (by first | omega | (simp; done) | (simp; omega)),  trivial⟩⟩,  trivial⟩ ⟨rfl, rfl,  trivial⟩ trivial rfl rfl rfl rfl) rfl rfl rfl rfl rfl ?_
                refine AL.val (Wanted.yes rfl rfl rfl) (g_field1 rfl rfl Try.underlying47 rfl Try.underlying27 rfl rfl) rfl rfl ?_
                refine AL.val (Wanted.yes rfl rfl rfl) (g_binI rfl rfl rfl rfl) rfl rfl ?_
                refine AL.fast 1 rfl ?_
                refine AL.nil ?_
                refine then_ok ?_
                exact Weak.popB 19 rfl rfl (by first | (simp [hb33, hb34]; done) | (simp_all; done) | (exfalso; simp_all; done) | (simp_all; omega)) rfl
          ·
            refine AC.cond rfl (fun hc35 => ?_) (fun hc35 => ?_)
            ·
              have hc35' := hc35; try simp only [sumB, Bool.not_eq_true', Bool.not_eq_false', Bool.or_eq_true, Bool.or_eq_false_iff, Bool.and_eq_true, Bool.and_eq_false_imp, decide_eq_true_eq, decide_eq_false_iff_not, Bool.not_not, Bool.not_true, Bool.not_false] at hc35'
              refine AC.seq ?_
              refine AC.region ?_
              refine AL.fast 1 rfl ?_
              refine AL.nil ?_
              refine then_ok ?_
              refine AC.ret ?_
              refine then_ret ?_
              refine retQ_mk (av' := outOf [(.c (cB false))]) (nb' := []) (retQ_ret ⟨[(2, (aB false))], [], 0⟩ [.tmp 2] [(.c (cB false))] (Weak.ren id (⟨by first | rfl | (simp only [AV.map, GV.map, CV.map, AB.map', id]; done) | (congr 3; omega) | (congr 4; omega) | (simp only [List.length_append, List.length_cons, List.length_nil, List.length_set]; rfl), trivial⟩) (trivial) rfl) rfl ⟨.tmp rfl, trivial⟩ trivial) ?_ ?_
              · exact congrArg aB (show (false) = true by (exfalso; have hok := hi0_1.ok; rw [hr5] at hok; omega))
              · rfl
            ·
              have hc35' := hc35; try simp only [sumB, Bool.not_eq_true', Bool.not_eq_false', Bool.or_eq_true, Bool.or_eq_false_iff, Bool.and_eq_true, Bool.and_eq_false_imp, decide_eq_true_eq, decide_eq_false_iff_not, Bool.not_not, Bool.not_true, Bool.not_false] at hc35'
              refine AC.skip ?_
              refine then_ok ?_
              refine AC.seq ?_
              refine AC.seq ?_
              refine AC.region ?_
              refine AL.fast 1 rfl ?_
              refine AL.val (Wanted.plain rfl) (g_lenS rfl rfl rfl rfl rfl Try.underlying56) rfl rfl ?_
              refine AL.fast 1 rfl ?_
              refine AL.nil ?_
              refine then_ok ?_
              refine AC.block ?_
              refine AC.loop (β := Nat) (fun (i : Nat) => ⟨[(3, (aC (.p 0 0 0 0))), (4, (aC (.s 1 0 4 put.length))), (5, (aC (.s 2 0 4 way.length))), (6, (aC (.s 3 0 4 got.length))), (7, (aI seen)), (23, (aC (cR 3 ((l).map rAct)))), (24, (aI (↑l.length : Int))), (25, (aI (↑q : Int))), (139, (aI (↑got.length : Int))), (140, (aI (↑i : Int)))], [(4, (.arr 60 4 ((s.kept).map rTransfer))), (3, (.arr 60 4 ((got).map rTransfer))), (2, (.arr 60 4 ((way).map rTransfer))), (1, (.arr 60 4 ((put).map rTransfer))), (0, (.box 58 [(cI s.sent), (.s 4 0 4 s.kept.length)]))], 5⟩) (fun (i : Nat) => i ≤ got.length) (fun (i : Nat) => got.length - i) 0 ?_ ?_ ?_
              · exact (by omega)
              · exact Weak.ren id (by refine ⟨?_, ?_, ?_, ?_, ?_, ?_, ?_, ?_, ?_, ?_,  trivial⟩ <;> first | rfl | (simp only [AV.map, GV.map, CV.map, AB.map', id]; done) | (congr 3; omega) | (congr 4; omega) | (simp only [List.length_append, List.length_cons, List.length_nil, List.length_set]; rfl)) (by refine ⟨?_, ?_, ?_, ?_, ?_,  trivial⟩ <;> first | rfl | (simp only [AV.map, GV.map, CV.map, AB.map', id]; done) | (congr 3; omega) | (congr 4; omega) | (simp only [List.length_append, List.length_cons, List.length_nil, List.length_set]; rfl)) rfl
              ·
                rintro i hi1_0
                refine AC.seq ?_
                refine AC.region ?_
                refine AL.val (Wanted.plain rfl) (g_binI rfl rfl rfl rfl) rfl rfl ?_
                refine AL.nil ?_
                refine then_ok ?_
                refine AC.seq ?_
                refine AC.cond rfl (fun hc36 => ?_) (fun hc36 => ?_)
                ·
                  have hc36' := hc36; try simp only [sumB, Bool.not_eq_true', Bool.not_eq_false', Bool.or_eq_true, Bool.or_eq_false_iff, Bool.and_eq_true, Bool.and_eq_false_imp, decide_eq_true_eq, decide_eq_false_iff_not, Bool.not_not, Bool.not_true, Bool.not_false] at hc36'
                  refine AC.skip ?_
                  refine then_ok ?_
                  refine AC.seq ?_
                  refine AC.block ?_
                  refine AC.seq ?_
                  refine AC.region ?_
                  refine AL.fast 2 rfl ?_
                  refine AL.nil ?_
                  refine then_ok ?_
                  refine AC.seq ?_
                  obtain ⟨x1, hx1⟩ := exget (xs := got) (i := i) (by first | omega | (simp; done) | (simp; omega))
                  obtain ⟨x2, hx2⟩ := exget (xs := put) (i := i) (by first | omega | (simp; done) | (simp; omega))
                  refine AC.weak (st' := ⟨[(3, (aC (.p 0 0 0 0))), (4, (aC (.s 1 0 4 put.length))), (5, (aC (.s 2 0 4 way.length))), (6, (aC (.s 3 0 4 got.length))), (7, (aI seen)), (23, (aC (cR 3 ((l).map rAct)))), (24, (aI (↑l.length : Int))), (25, (aI (↑q : Int))), (139, (aI (↑got.length : Int))), (140, (aI (↑i : Int))), (17, (aI (↑i : Int)))], [(4, (.arr 60 4 ((s.kept).map rTransfer))), (3, (.arr 60 4 ((got).map rTransfer))), (2, (.arr 60 4 ((way).map rTransfer))), (1, (.arr 60 4 ((put).map rTransfer))), (0, (.box 58 [(cI s.sent), (.s 4 0 4 s.kept.length)]))], 5⟩) (Weak.ren id (by refine ⟨?_, ?_, ?_, ?_, ?_, ?_, ?_, ?_, ?_, ?_, ?_,  trivial⟩ <;> first | rfl | (simp only [AV.map, GV.map, CV.map, AB.map', id]; done) | (congr 3; omega) | (congr 4; omega) | (simp only [List.length_append, List.length_cons, List.length_nil, List.length_set]; rfl)) (by refine ⟨?_, ?_, ?_, ?_, ?_,  trivial⟩ <;> first | rfl | (simp only [AV.map, GV.map, CV.map, AB.map', id]; done) | (congr 3; omega) | (congr 4; omega) | (simp only [List.length_append, List.length_cons, List.length_nil, List.length_set]; rfl)) rfl) ?_
                  refine AC.draw [⟨some 143, (aC (.s 3 0 4 got.length)), [], [], [], [(6, (aC (.s 3 0 4 got.length)))], [(3, (.arr 60 4 ((got).map rTransfer)))]⟩,
      ⟨some 144, (aI (↑i : Int)), [], [], [], [(17, (aI (↑i : Int)))], []⟩,
      ⟨some 145, (aC (.p 3 i 4 0)), [], [], [0, 1], [(143, (aC (.s 3 0 4 got.length))), (144, (aI (↑i : Int)))], [(3, (.arr 60 4 ((got).map rTransfer)))]⟩,
      ⟨some 146, (aG [(cI x1.number), (cI x1.kind), (cI x1.auth), (cI x1.sum)]), [], [], [2], [(145, (aC (.p 3 i 4 0)))], [(3, (.arr 60 4 ((got).map rTransfer)))]⟩,
      ⟨some 147, (aC (.s 1 0 4 put.length)), [], [], [], [(4, (aC (.s 1 0 4 put.length)))], [(1, (.arr 60 4 ((put).map rTransfer)))]⟩,
      ⟨some 148, (aI (↑i : Int)), [], [], [], [(17, (aI (↑i : Int)))], []⟩,
      ⟨some 149, (aC (.p 1 i 4 0)), [], [], [4, 5], [(147, (aC (.s 1 0 4 put.length))), (148, (aI (↑i : Int)))], [(1, (.arr 60 4 ((put).map rTransfer)))]⟩,
      ⟨some 150, (aG [(cI x2.number), (cI x2.kind), (cI x2.auth), (cI x2.sum)]), [], [], [6], [(149, (aC (.p 1 i 4 0)))], [(1, (.arr 60 4 ((put).map rTransfer)))]⟩,
      ⟨some 151, (aB (!(sameL [.int .i64 x1.number, .int .i64 x1.kind, .int .i64 x1.auth, .int .i64 x1.sum] [.int .i64 x2.number, .int .i64 x2.kind, .int .i64 x2.auth, .int .i64 x2.sum]))), [], [], [3, 7], [(146, (aG [(cI x1.number), (cI x1.kind), (cI x1.auth), (cI x1.sum)])), (150, (aG [(cI x2.number), (cI x2.kind), (cI x2.auth), (cI x2.sum)]))], []⟩] ⟨[(3, (aC (.p 0 0 0 0))), (4, (aC (.s 1 0 4 put.length))), (5, (aC (.s 2 0 4 way.length))), (6, (aC (.s 3 0 4 got.length))), (7, (aI seen)), (23, (aC (cR 3 ((l).map rAct)))), (24, (aI (↑l.length : Int))), (25, (aI (↑q : Int))), (139, (aI (↑got.length : Int))), (140, (aI (↑i : Int))), (17, (aI (↑i : Int))), (151, (aB (!(sameL [.int .i64 x1.number, .int .i64 x1.kind, .int .i64 x1.auth, .int .i64 x1.sum] [.int .i64 x2.number, .int .i64 x2.kind, .int .i64 x2.auth, .int .i64 x2.sum]))))], [(4, (.arr 60 4 ((s.kept).map rTransfer))), (3, (.arr 60 4 ((got).map rTransfer))), (2, (.arr 60 4 ((way).map rTransfer))), (1, (.arr 60 4 ((put).map rTransfer))), (0, (.box 58 [(cI s.sent), (.s 4 0 4 s.kept.length)]))], 5⟩ mixed (by kernel_rfl) ?_ ?_ ?_ ?_
                  · exact ⟨.inl ⟨(Wanted.plain rfl), GOp.cast (g_move rfl rfl) rfl⟩,
      .inl ⟨(Wanted.plain rfl), GOp.cast (g_move rfl rfl) rfl⟩,
      .inl ⟨(Wanted.plain rfl), GOp.cast (g_indexP0 (i := i) rfl rfl rfl Try.underlying56 sz60 (by first | omega | (simp; done) | (simp; omega)) (by first | omega | (simp; done) | (simp; omega))) rfl⟩,
      .inl ⟨(Wanted.plain rfl), GOp.cast (g_loadAs rfl rfl rfl Try.underlying60 rfl sz60 (getmap hx1) rfl) rfl⟩,
      .inl ⟨(Wanted.plain rfl), GOp.cast (g_move rfl rfl) rfl⟩,
      .inl ⟨(Wanted.plain rfl), GOp.cast (g_move rfl rfl) rfl⟩,
      .inl ⟨(Wanted.plain rfl), GOp.cast (g_indexP0 (i := i) rfl rfl rfl Try.underlying56 sz60 (by first | omega | (simp; done) | (simp; omega)) (by first | omega | (simp; done) | (simp; omega))) rfl⟩,
      .inl ⟨(Wanted.plain rfl), GOp.cast (g_loadAs rfl rfl rfl Try.underlying60 rfl sz60 (getmap hx2) rfl) rfl⟩,
      .inl ⟨(Wanted.plain rfl), GOp.cast (g_neq (cmp60 _ _ _ _ _ _ _ _) rfl rfl rfl rfl rfl rfl) rfl⟩,
       trivial⟩
                  · exact ⟨⟨⟨.inl rfl,  trivial⟩, ⟨.inl rfl,  trivial⟩⟩, ⟨⟨.inl rfl,  trivial⟩, trivial⟩, ⟨⟨.inr ⟨0, .head _, _, rfl, rfl, rfl⟩, .inr ⟨1, .tail _ (.head _), _, rfl, rfl, rfl⟩,  trivial⟩, ⟨.inl rfl,  trivial⟩⟩, ⟨⟨.inr ⟨2, .head _, _, rfl, rfl, rfl⟩,  trivial⟩, ⟨.inl rfl,  trivial⟩⟩, ⟨⟨.inl rfl,  trivial⟩, ⟨.inl rfl,  trivial⟩⟩, ⟨⟨.inl rfl,  trivial⟩, trivial⟩, ⟨⟨.inr ⟨4, .head _, _, rfl, rfl, rfl⟩, .inr ⟨5, .tail _ (.head _), _, rfl, rfl, rfl⟩,  trivial⟩, ⟨.inl rfl,  trivial⟩⟩, ⟨⟨.inr ⟨6, .head _, _, rfl, rfl, rfl⟩,  trivial⟩, ⟨.inl rfl,  trivial⟩⟩, ⟨⟨.inr ⟨3, .head _, _, rfl, rfl, rfl⟩, .inr ⟨7, .tail _ (.head _), _, rfl, rfl, rfl⟩,  trivial⟩, trivial⟩,  trivial⟩
                  · exact ⟨⟨.inl rfl, .inl rfl, .inl rfl, .inl rfl, .inl rfl, .inl rfl, .inl rfl, .inl rfl, .inl rfl, .inl rfl, .inl rfl, .inr ⟨8, _, rfl, rfl, rfl⟩,  trivial⟩, ⟨.inl rfl, .inl rfl, .inl rfl, .inl rfl, .inl rfl,  trivial⟩⟩
                  ·
                    refine AL.nil ?_
                    refine then_ok ?_
                    refine AC.cond rfl (fun hc37 => ?_) (fun hc37 => ?_)
                    ·
                      have hc37' := hc37; try simp only [sumB, Bool.not_eq_true', Bool.not_eq_false', Bool.or_eq_true, Bool.or_eq_false_iff, Bool.and_eq_true, Bool.and_eq_false_imp, decide_eq_true_eq, decide_eq_false_iff_not, Bool.not_not, Bool.not_true, Bool.not_false] at hc37'
                      refine AC.seq ?_
                      refine AC.region ?_
                      refine AL.fast 1 rfl ?_
                      refine AL.nil ?_
                      refine then_ok ?_
                      refine AC.ret ?_
                      refine block_ret ?_
                      refine then_ret ?_
                      refine then_ret ?_
                      refine block_ret ?_
                      refine then_ret ?_
                      refine retQ_mk (av' := outOf [(.c (cB false))]) (nb' := []) (retQ_ret ⟨[(2, (aB false))], [], 0⟩ [.tmp 2] [(.c (cB false))] (Weak.ren id (⟨by first | rfl | (simp only [AV.map, GV.map, CV.map, AB.map', id]; done) | (congr 3; omega) | (congr 4; omega) | (simp only [List.length_append, List.length_cons, List.length_nil, List.length_set]; rfl), trivial⟩) (trivial) rfl) rfl ⟨.tmp rfl, trivial⟩ trivial) ?_ ?_
                      · exact congrArg aB (show (false) = true by (exfalso; have h1 := hi0_1.got; have h3 : x1 = x2 := (by (rw [h1, List.getElem?_take] at hx1; split at hx1 <;> first | exact Option.some.inj (hx1.symm.trans hx2) | cases hx1)); subst h3; simp [same60] at hc37))
                      · rfl
                    ·
                      have hc37' := hc37; try simp only [sumB, Bool.not_eq_true', Bool.not_eq_false', Bool.or_eq_true, Bool.or_eq_false_iff, Bool.and_eq_true, Bool.and_eq_false_imp, decide_eq_true_eq, decide_eq_false_iff_not, Bool.not_not, Bool.not_true, Bool.not_false] at hc37'
                      refine AC.skip ?_
                      refine block_ok ?_
                      refine then_ok ?_
                      refine AC.region ?_
                      refine AL.val (Wanted.plain rfl) (g_binI rfl rfl rfl (wrap_ok (by first | omega | (simp; done) | (simp; omega)))) rfl rfl ?_
                      refine AL.fast 1 rfl ?_
                      refine AL.nil ?_
                      refine then_ok ?_
                      refine ⟨i + 1, by first | omega | trivial, by first | omega | (simp; done) | (simp; omega), Weak.ren id (by refine ⟨?_, ?_, ?_, ?_, ?_, ?_, ?_, ?_, ?_, ?_,  trivial⟩ <;> first | rfl | (simp only [AV.map, GV.map, CV.map, AB.map', id]; done) | (congr 3; omega) | (congr 4; omega) | (simp only [List.length_append, List.length_cons, List.length_nil, List.length_set]; rfl)) (by refine ⟨?_, ?_, ?_, ?_, ?_,  trivial⟩ <;> first | rfl | (simp only [AV.map, GV.map, CV.map, AB.map', id]; done) | (congr 3; omega) | (congr 4; omega) | (simp only [List.length_append, List.length_cons, List.length_nil, List.length_set]; rfl)) rfl⟩
                ·
                  have hc36' := hc36; try simp only [sumB, Bool.not_eq_true', Bool.not_eq_false', Bool.or_eq_true, Bool.or_eq_false_iff, Bool.and_eq_true, Bool.and_eq_false_imp, decide_eq_true_eq, decide_eq_false_iff_not, Bool.not_not, Bool.not_true, Bool.not_false] at hc36'
                  refine AC.exit ?_
                  refine then_exit ?_
                  refine then_exit ?_
                  refine block_hit ?_
                  refine then_ok ?_
                  refine AC.seq ?_
                  refine AC.region ?_
                  refine AL.fast 1 rfl ?_
                  refine AL.nil ?_
                  refine then_ok ?_
                  refine AC.ret ?_
                  refine retQ_mk (av' := outOf [(.c (cB true))]) (nb' := []) (retQ_ret ⟨[(2, (aB true))], [], 0⟩ [.tmp 2] [(.c (cB true))] (Weak.ren id (⟨by first | rfl | (simp only [AV.map, GV.map, CV.map, AB.map', id]; done) | (congr 3; omega) | (congr 4; omega) | (simp only [List.length_append, List.length_cons, List.length_nil, List.length_set]; rfl), trivial⟩) (trivial) rfl) rfl ⟨.tmp rfl, trivial⟩ trivial) ?_ ?_
                  · rfl
                  · rfl
      ·
        refine AC.seq ?_
        refine AC.region ?_
        refine AL.val (Wanted.plain rfl) (g_binI rfl rfl rfl rfl) rfl rfl ?_
        refine AL.nil ?_
        refine then_ok ?_
        refine AC.seq ?_
        refine AC.cond rfl (fun hc38 => ?_) (fun hc38 => ?_)
        ·
          have hc38' := hc38; try simp only [sumB, Bool.not_eq_true', Bool.not_eq_false', Bool.or_eq_true, Bool.or_eq_false_iff, Bool.and_eq_true, Bool.and_eq_false_imp, decide_eq_true_eq, decide_eq_false_iff_not, Bool.not_not, Bool.not_true, Bool.not_false] at hc38'
          refine AC.skip ?_
          refine then_ok ?_
          refine AC.seq ?_
          refine AC.block ?_
          refine AC.seq ?_
          refine AC.region ?_
          obtain ⟨x1, hx1⟩ := exget (xs := l) (i := q) (by first | omega | (simp; done) | (simp; omega))
          refine AL.val (Wanted.plain rfl) (g_indexQ (i := q) rfl rfl rfl Try.underlying69 sz71 (by first | omega | (simp; done) | (simp; omega)) (getmap hx1)) rfl rfl ?_
          refine AL.val (Wanted.plain rfl) (g_loadQs rfl rfl Try.underlying71 rfl sz71 rfl rfl) rfl rfl ?_
          refine AL.new (n' := 6) (Wanted.plain rfl) (g_alloc 5 rfl zv71 rfl rfl rfl) rfl rfl rfl ?_
          refine AL.sto (h' := [(5, (.box 71 [(cI x1.kind), (cI x1.at_), (cI x1.sum)])), (4, (.arr 60 4 ((s.kept).map rTransfer))), (3, (.arr 60 4 ((got).map rTransfer))), (2, (.arr 60 4 ((way).map rTransfer))), (1, (.arr 60 4 ((put).map rTransfer))), (0, (.box 58 [(cI s.sent), (.s 4 0 4 s.kept.length)]))]) (Wanted.plain rfl) (g_storeB rfl rfl rfl rfl rfl sz71 rfl (Nat.le_of_ble_eq_true rfl) rfl) rfl rfl rfl rfl ?_
          refine AL.nil ?_
          refine then_ok ?_
          refine AC.seq ?_
          refine AC.seq ?_
          refine AC.region ?_
          refine AL.val (Wanted.plain rfl) (g_fieldP rfl rfl Try.underlying71 rfl sz3 (by decide)) rfl rfl ?_
          refine AL.val (Wanted.plain rfl) (g_loadB rfl rfl rfl Try.underlying3 rfl rfl) rfl rfl ?_
          refine AL.nil ?_
          refine then_ok ?_
          refine AC.block ?_
          refine AC.seq ?_
          refine AC.region ?_
          refine AL.val (Wanted.plain rfl) (g_binI rfl rfl rfl rfl) rfl rfl ?_
          refine AL.fast 1 rfl ?_
          refine AL.nil ?_
          refine then_ok ?_
          refine AC.cond rfl (fun hc39 => ?_) (fun hc39 => ?_)
          ·
            have hc39' := hc39; try simp only [sumB, Bool.not_eq_true', Bool.not_eq_false', Bool.or_eq_true, Bool.or_eq_false_iff, Bool.and_eq_true, Bool.and_eq_false_imp, decide_eq_true_eq, decide_eq_false_iff_not, Bool.not_not, Bool.not_true, Bool.not_false] at hc39'
            refine AC.seq ?_
            refine AC.region ?_
            refine AL.val (Wanted.plain rfl) (g_loadBs rfl rfl rfl Try.underlying58 rfl sz58 rfl rfl) rfl rfl ?_
            refine AL.val (Wanted.plain rfl) (g_fieldP rfl rfl Try.underlying71 rfl sz3 (by decide)) rfl rfl ?_
            refine AL.val (Wanted.plain rfl) (g_loadB rfl rfl rfl Try.underlying3 rfl rfl) rfl rfl ?_
            refine AL.val (Wanted.plain rfl) (g_build (ys := [(1, (.c (cI 1))), (2, (.c (cI 1))), (3, (.c (cI x1.sum)))]) rfl bld60 rfl ⟨⟨rfl, rfl⟩, ⟨rfl, rfl⟩, ⟨rfl, rfl⟩,  trivial⟩ rfl rfl) rfl rfl ?_
            obtain ⟨x6, e6, hr6⟩ : ∃ (x6 : Sender) (e6 : Int), putS s (⟨0, 1, 1, x1.sum⟩ : Transfer) = (x6, e6) := ⟨_, _, rfl⟩
            have hpl := @put_len _ _ _ _ hr6
            refine AL.call (n' := 7) (h' := [(6, (.arr 60 4 ((x6.kept).map rTransfer))), (5, (.box 71 [(cI x1.kind), (cI x1.at_), (cI x1.sum)])), (4, (.arr 60 4 ((s.kept).map rTransfer))), (3, (.arr 60 4 ((got).map rTransfer))), (2, (.arr 60 4 ((way).map rTransfer))), (1, (.arr 60 4 ((put).map rTransfer))), (0, (.box 58 [(cI s.sent), (.s 4 0 4 s.kept.length)]))]) (Wanted.plain rfl) (g_callE 6 [4] (c_post_Put s (⟨0, 1, 1, x1.sum⟩ : Transfer) (by first | assumption | exact inI_out (by assumption) (by omega) | exact inI_back (by assumption) (by assumption) | (simp [InI]; done)) x6 e6 hr6) en50 rfl rfl ⟨⟨_, rfl, .g ⟨.d _, .s rfl (by decide) (by first | omega | (simp; done) | (simp; omega)),  trivial⟩⟩, ⟨_, rfl, .g ⟨.d _, .d _, .d _, .d _,  trivial⟩⟩,  trivial⟩ ⟨⟨rfl, trivial,  trivial⟩, rfl,  trivial⟩ ⟨(isv_rTransfer _),  trivial⟩ rfl rfl rfl rfl) rfl rfl rfl rfl rfl ?_
            refine AL.fast 1 rfl ?_
            refine AL.val (Wanted.plain rfl) (g_extract rfl rfl rfl) rfl rfl ?_
            refine AL.val (Wanted.plain rfl) (g_extract rfl rfl rfl) rfl rfl ?_
            refine AL.new (n' := 8) (Wanted.plain rfl) (g_alloc 7 rfl zv58 rfl rfl rfl) rfl rfl rfl ?_
            refine AL.sto (h' := [(7, (.box 58 [(cI x6.sent), (.s 6 0 4 x6.kept.length)])), (6, (.arr 60 4 ((x6.kept).map rTransfer))), (5, (.box 71 [(cI x1.kind), (cI x1.at_), (cI x1.sum)])), (4, (.arr 60 4 ((s.kept).map rTransfer))), (3, (.arr 60 4 ((got).map rTransfer))), (2, (.arr 60 4 ((way).map rTransfer))), (1, (.arr 60 4 ((put).map rTransfer))), (0, (.box 58 [(cI s.sent), (.s 4 0 4 s.kept.length)]))]) (Wanted.plain rfl) (g_storeB rfl rfl rfl rfl rfl sz58 rfl (Nat.le_of_ble_eq_true rfl) rfl) rfl rfl rfl rfl ?_
            refine AL.fast 1 rfl ?_
            refine AL.nil ?_
            refine then_ok ?_
            refine AC.seq ?_
            refine AC.region ?_
            refine AL.fast 1 rfl ?_
            refine AL.val (Wanted.plain rfl) (g_binI rfl rfl rfl rfl) rfl rfl ?_
            refine AL.nil ?_
            refine then_ok ?_
            refine AC.cond rfl (fun hc40 => ?_) (fun hc40 => ?_)
            ·
              have hc40' := hc40; try simp only [sumB, Bool.not_eq_true', Bool.not_eq_false', Bool.or_eq_true, Bool.or_eq_false_iff, Bool.and_eq_true, Bool.and_eq_false_imp, decide_eq_true_eq, decide_eq_false_iff_not, Bool.not_not, Bool.not_true, Bool.not_false] at hc40'
              refine AC.seq ?_
              refine AC.region ?_
              refine AL.val (Wanted.plain rfl) (g_loadBs rfl rfl rfl Try.underlying58 rfl sz58 rfl rfl) rfl rfl ?_
              refine AL.sto (h' := [(7, (.box 58 [(cI x6.sent), (.s 6 0 4 x6.kept.length)])), (6, (.arr 60 4 ((x6.kept).map rTransfer))), (5, (.box 71 [(cI x1.kind), (cI x1.at_), (cI x1.sum)])), (4, (.arr 60 4 ((s.kept).map rTransfer))), (3, (.arr 60 4 ((got).map rTransfer))), (2, (.arr 60 4 ((way).map rTransfer))), (1, (.arr 60 4 ((put).map rTransfer))), (0, (.box 58 [(cI x6.sent), (.s 6 0 4 x6.kept.length)]))]) (Wanted.plain rfl) (g_storeB rfl rfl rfl rfl rfl sz58 rfl (Nat.le_of_ble_eq_true rfl) rfl) rfl rfl rfl rfl ?_
              refine AL.nil ?_
              refine then_ok ?_
              refine AC.region ?_
              refine AL.fast 1 rfl ?_
              refine AL.val (Wanted.plain rfl) (g_fieldP rfl rfl Try.underlying58 rfl sz56 (by decide)) rfl rfl ?_
              refine AL.val (Wanted.plain rfl) (g_loadB rfl rfl rfl Try.underlying56 rfl rfl) rfl rfl ?_
              refine AL.val (Wanted.plain rfl) (g_fieldP rfl rfl Try.underlying58 rfl sz56 (by decide)) rfl rfl ?_
              refine AL.val (Wanted.plain rfl) (g_loadB rfl rfl rfl Try.underlying56 rfl rfl) rfl rfl ?_
              refine AL.val (Wanted.plain rfl) (g_lenS rfl rfl rfl rfl rfl Try.underlying56) rfl rfl ?_
              refine AL.val (Wanted.plain rfl) (g_binI rfl rfl rfl (wrap_ok (by first | omega | (simp; done) | (simp; omega)))) rfl rfl ?_
              refine AL.val (Wanted.plain rfl) (g_indexP0 (i := (x6.kept.length) - 1) rfl rfl rfl Try.underlying56 sz60 (by first | omega | (simp; done) | (simp; omega)) (by first | omega | (simp; done) | (simp; omega))) rfl rfl ?_
              obtain ⟨x2, hx2⟩ := exget (xs := x6.kept) (i := (x6.kept.length) - 1) (by first | omega | (simp; done) | (simp; omega))
              refine AL.val (Wanted.plain rfl) (g_loadAs rfl rfl rfl Try.underlying60 rfl sz60 (getmap hx2) rfl) rfl rfl ?_
              refine AL.new (n' := 9) (Wanted.plain rfl) (g_lit (ys := [(0, (.g [(cI x2.number), (cI x2.kind), (cI x2.auth), (cI x2.sum)]))]) (rows := ([x2]).map rTransfer) 8 sl56 rfl (by decide) ⟨⟨rfl, rfl⟩,  trivial⟩ rfl rfl rfl rfl) rfl rfl rfl ?_
              refine AL.eat (n' := 10) (h' := [(9, (.arr 60 4 ((put ++ ([x2])).map rTransfer))), (8, (.arr 60 4 (([x2]).map rTransfer))), (7, (.box 58 [(cI x6.sent), (.s 6 0 4 x6.kept.length)])), (6, (.arr 60 4 ((x6.kept).map rTransfer))), (5, (.box 71 [(cI x1.kind), (cI x1.at_), (cI x1.sum)])), (4, (.arr 60 4 ((s.kept).map rTransfer))), (3, (.arr 60 4 ((got).map rTransfer))), (2, (.arr 60 4 ((way).map rTransfer))), (0, (.box 58 [(cI x6.sent), (.s 6 0 4 x6.kept.length)]))]) (Wanted.plain rfl) (g_append (m := 1) (N := put.length + 1) (k2 := 9) (ys := ([x2]).map rTransfer) sl56 rfl rfl rfl rfl rfl rfl (by first | omega | (simp; done) | (simp; omega)) rfl (.s rfl (by first | omega | (simp; done) | (simp; omega))) (by first | omega | (simp; done) | (simp; omega)) (by first | omega | (simp; done) | (simp; omega)) appmap (by decide) (by first | omega | (simp; done) | (simp; omega)) (by first | omega | (simp; done) | (simp; omega))) rfl rfl rfl rfl rfl ?_
              refine AL.fast 1 rfl ?_
              refine AL.nil ?_
              refine block_ok ?_
              refine then_ok ?_
              refine AC.seq ?_
              refine AC.region ?_
              refine AL.fast 1 rfl ?_
              refine AL.val (Wanted.plain rfl) (g_lenX Try.underlying56 rfl rfl rfl rfl rfl) rfl rfl ?_
              refine AL.val (Wanted.plain rfl) (g_binI rfl rfl rfl rfl) rfl rfl ?_
              refine AL.nil ?_
              refine then_ok ?_
              refine AC.cond rfl (fun hc41 => ?_) (fun hc41 => ?_)
              ·
                have hc41' := hc41; try simp only [sumB, Bool.not_eq_true', Bool.not_eq_false', Bool.or_eq_true, Bool.or_eq_false_iff, Bool.and_eq_true, Bool.and_eq_false_imp, decide_eq_true_eq, decide_eq_false_iff_not, Bool.not_not, Bool.not_true, Bool.not_false] at hc41'
                refine AC.seq ?_
                refine AC.region ?_
                refine AL.fast 1 rfl ?_
                refine AL.nil ?_
                refine then_ok ?_
                refine AC.ret ?_
                refine block_ret ?_
                refine then_ret ?_
                refine then_ret ?_
                refine block_ret ?_
                refine then_ret ?_
                refine retQ_mk (av' := outOf [(.c (cB true))]) (nb' := []) (retQ_ret ⟨[(2, (aB true))], [], 0⟩ [.tmp 2] [(.c (cB true))] (Weak.ren id (⟨by first | rfl | (simp only [AV.map, GV.map, CV.map, AB.map', id]; done) | (congr 3; omega) | (congr 4; omega) | (simp only [List.length_append, List.length_cons, List.length_nil, List.length_set]; rfl), trivial⟩) (trivial) rfl) rfl ⟨.tmp rfl, trivial⟩ trivial) ?_ ?_
                · rfl
                · rfl
              ·
                have hc41' := hc41; try simp only [sumB, Bool.not_eq_true', Bool.not_eq_false', Bool.or_eq_true, Bool.or_eq_false_iff, Bool.and_eq_true, Bool.and_eq_false_imp, decide_eq_true_eq, decide_eq_false_iff_not, Bool.not_not, Bool.not_true, Bool.not_false] at hc41'
                refine AC.skip ?_
                refine block_ok ?_
                refine then_ok ?_
                refine AC.region ?_
                refine AL.val (Wanted.plain rfl) (g_binI rfl rfl rfl (wrap_ok (by first | omega | (simp; done) | (simp; omega)))) rfl rfl ?_
                refine AL.fast 1 rfl ?_
                refine AL.nil ?_
                refine then_ok ?_
                have hO := Once.puts hi0_1 hr6 (by omega) hx2
                refine ⟨(true, q + 1, x6, put ++ ([x2]), way, got, seen), ⟨by omega, hO, by first | omega | (simp only [List.length_append, List.length_take, List.length_drop, List.length_cons, List.length_nil] at *; omega), by first | omega | (simp only [List.length_append, List.length_cons, List.length_nil]; omega)⟩, by first | omega | (simp; done) | (simp; omega), Weak.ren (fun k => if k = 1 then 9 else if k = 4 then 6 else k) (by refine ⟨?_, ?_, ?_, ?_, ?_, ?_, ?_, ?_,  trivial⟩ <;> first | rfl | (simp only [AV.map, GV.map, CV.map, AB.map', id]; done) | (congr 3; omega) | (congr 4; omega) | (simp only [List.length_append, List.length_cons, List.length_nil, List.length_set]; rfl) | (first | exact look_s rfl (by simp only [List.length_append, List.length_take, List.length_drop, List.length_cons, List.length_nil]; omega) | exact look_sx rfl (by simp only [List.length_append, List.length_take, List.length_drop, List.length_cons, List.length_nil]; omega) (by simp only [List.length_append, List.length_take, List.length_drop, List.length_cons, List.length_nil]; omega))) (by refine ⟨?_, ?_, ?_, ?_, ?_,  trivial⟩ <;> first | rfl | (simp only [AV.map, GV.map, CV.map, AB.map', id]; done) | (congr 3; omega) | (congr 4; omega) | (simp only [List.length_append, List.length_cons, List.length_nil, List.length_set]; rfl)) rfl⟩
            ·
              have hc40' := hc40; try simp only [sumB, Bool.not_eq_true', Bool.not_eq_false', Bool.or_eq_true, Bool.or_eq_false_iff, Bool.and_eq_true, Bool.and_eq_false_imp, decide_eq_true_eq, decide_eq_false_iff_not, Bool.not_not, Bool.not_true, Bool.not_false] at hc40'
              refine AC.skip ?_
              refine block_ok ?_
              refine then_ok ?_
              refine AC.seq ?_
              refine AC.region ?_
              refine AL.fast 1 rfl ?_
              refine AL.val (Wanted.plain rfl) (g_lenX Try.underlying56 rfl rfl rfl rfl rfl) rfl rfl ?_
              refine AL.val (Wanted.plain rfl) (g_binI rfl rfl rfl rfl) rfl rfl ?_
              refine AL.nil ?_
              refine then_ok ?_
              refine AC.cond rfl (fun hc42 => ?_) (fun hc42 => ?_)
              ·
                have hc42' := hc42; try simp only [sumB, Bool.not_eq_true', Bool.not_eq_false', Bool.or_eq_true, Bool.or_eq_false_iff, Bool.and_eq_true, Bool.and_eq_false_imp, decide_eq_true_eq, decide_eq_false_iff_not, Bool.not_not, Bool.not_true, Bool.not_false] at hc42'
                refine AC.seq ?_
                refine AC.region ?_
                refine AL.fast 1 rfl ?_
                refine AL.nil ?_
                refine then_ok ?_
                refine AC.ret ?_
                refine block_ret ?_
                refine then_ret ?_
                refine then_ret ?_
                refine block_ret ?_
                refine then_ret ?_
                refine retQ_mk (av' := outOf [(.c (cB true))]) (nb' := []) (retQ_ret ⟨[(2, (aB true))], [], 0⟩ [.tmp 2] [(.c (cB true))] (Weak.ren id (⟨by first | rfl | (simp only [AV.map, GV.map, CV.map, AB.map', id]; done) | (congr 3; omega) | (congr 4; omega) | (simp only [List.length_append, List.length_cons, List.length_nil, List.length_set]; rfl), trivial⟩) (trivial) rfl) rfl ⟨.tmp rfl, trivial⟩ trivial) ?_ ?_
                · rfl
                · rfl
              ·
                have hc42' := hc42; try simp only [sumB, Bool.not_eq_true', Bool.not_eq_false', Bool.or_eq_true, Bool.or_eq_false_iff, Bool.and_eq_true, Bool.and_eq_false_imp, decide_eq_true_eq, decide_eq_false_iff_not, Bool.not_not, Bool.not_true, Bool.not_false] at hc42'
                refine AC.skip ?_
                refine block_ok ?_
                refine then_ok ?_
                refine AC.region ?_
                refine AL.val (Wanted.plain rfl) (g_binI rfl rfl rfl (wrap_ok (by first | omega | (simp; done) | (simp; omega)))) rfl rfl ?_
                refine AL.fast 1 rfl ?_
                refine AL.nil ?_
                refine then_ok ?_
                refine ⟨(true, q + 1, s, put, way, got, seen), ⟨by omega, hi0_1, by first | omega | (simp only [List.length_append, List.length_take, List.length_drop, List.length_cons, List.length_nil] at *; omega), by first | omega | (simp only [List.length_append, List.length_cons, List.length_nil]; omega)⟩, by first | omega | (simp; done) | (simp; omega), Weak.ren id (by refine ⟨?_, ?_, ?_, ?_, ?_, ?_, ?_, ?_,  trivial⟩ <;> first | rfl | (simp only [AV.map, GV.map, CV.map, AB.map', id]; done) | (congr 3; omega) | (congr 4; omega) | (simp only [List.length_append, List.length_cons, List.length_nil, List.length_set]; rfl) | (first | exact look_s rfl (by simp only [List.length_append, List.length_take, List.length_drop, List.length_cons, List.length_nil]; omega) | exact look_sx rfl (by simp only [List.length_append, List.length_take, List.length_drop, List.length_cons, List.length_nil]; omega) (by simp only [List.length_append, List.length_take, List.length_drop, List.length_cons, List.length_nil]; omega))) (by refine ⟨?_, ?_, ?_, ?_, ?_,  trivial⟩ <;> first | rfl | (simp only [AV.map, GV.map, CV.map, AB.map', id]; done) | (congr 3; omega) | (congr 4; omega) | (simp only [List.length_append, List.length_cons, List.length_nil, List.length_set]; rfl)) rfl⟩
          ·
            have hc39' := hc39; try simp only [sumB, Bool.not_eq_true', Bool.not_eq_false', Bool.or_eq_true, Bool.or_eq_false_iff, Bool.and_eq_true, Bool.and_eq_false_imp, decide_eq_true_eq, decide_eq_false_iff_not, Bool.not_not, Bool.not_true, Bool.not_false] at hc39'
            refine AC.seq ?_
            refine AC.region ?_
            refine AL.val (Wanted.plain rfl) (g_binI rfl rfl rfl rfl) rfl rfl ?_
            refine AL.fast 1 rfl ?_
            refine AL.nil ?_
            refine then_ok ?_
            refine AC.cond rfl (fun hc43 => ?_) (fun hc43 => ?_)
            ·
              have hc43' := hc43; try simp only [sumB, Bool.not_eq_true', Bool.not_eq_false', Bool.or_eq_true, Bool.or_eq_false_iff, Bool.and_eq_true, Bool.and_eq_false_imp, decide_eq_true_eq, decide_eq_false_iff_not, Bool.not_not, Bool.not_true, Bool.not_false] at hc43'
              rcases (show s.kept.length = 0 ∨ 0 < s.kept.length from by omega) with hs44 | hs44
              ·
                refine AC.region ?_
                refine AL.fast 1 rfl ?_
                refine AL.val (Wanted.plain rfl) (g_fieldP rfl rfl Try.underlying58 rfl sz56 (by decide)) rfl rfl ?_
                refine AL.val (Wanted.plain rfl) (g_loadB rfl rfl rfl Try.underlying56 rfl rfl) rfl rfl ?_
                refine AL.val (Wanted.plain rfl) (g_app00 sl56 rfl rfl rfl rfl rfl rfl (.s _ _ _ _ (by first | omega | (simp; done) | (simp; omega)))) rfl rfl ?_
                refine AL.fast 1 rfl ?_
                refine AL.nil ?_
                refine block_ok ?_
                refine then_ok ?_
                refine AC.seq ?_
                refine AC.region ?_
                refine AL.fast 1 rfl ?_
                refine AL.val (Wanted.plain rfl) (g_lenX Try.underlying56 rfl rfl rfl rfl rfl) rfl rfl ?_
                refine AL.val (Wanted.plain rfl) (g_binI rfl rfl rfl rfl) rfl rfl ?_
                refine AL.nil ?_
                refine then_ok ?_
                refine AC.cond rfl (fun hc45 => ?_) (fun hc45 => ?_)
                ·
                  have hc45' := hc45; try simp only [sumB, Bool.not_eq_true', Bool.not_eq_false', Bool.or_eq_true, Bool.or_eq_false_iff, Bool.and_eq_true, Bool.and_eq_false_imp, decide_eq_true_eq, decide_eq_false_iff_not, Bool.not_not, Bool.not_true, Bool.not_false] at hc45'
                  refine AC.seq ?_
                  refine AC.region ?_
                  refine AL.fast 1 rfl ?_
                  refine AL.nil ?_
                  refine then_ok ?_
                  refine AC.ret ?_
                  refine block_ret ?_
                  refine then_ret ?_
                  refine then_ret ?_
                  refine block_ret ?_
                  refine then_ret ?_
                  refine retQ_mk (av' := outOf [(.c (cB true))]) (nb' := []) (retQ_ret ⟨[(2, (aB true))], [], 0⟩ [.tmp 2] [(.c (cB true))] (Weak.ren id (⟨by first | rfl | (simp only [AV.map, GV.map, CV.map, AB.map', id]; done) | (congr 3; omega) | (congr 4; omega) | (simp only [List.length_append, List.length_cons, List.length_nil, List.length_set]; rfl), trivial⟩) (trivial) rfl) rfl ⟨.tmp rfl, trivial⟩ trivial) ?_ ?_
                  · rfl
                  · rfl
                ·
                  have hc45' := hc45; try simp only [sumB, Bool.not_eq_true', Bool.not_eq_false', Bool.or_eq_true, Bool.or_eq_false_iff, Bool.and_eq_true, Bool.and_eq_false_imp, decide_eq_true_eq, decide_eq_false_iff_not, Bool.not_not, Bool.not_true, Bool.not_false] at hc45'
                  refine AC.skip ?_
                  refine block_ok ?_
                  refine then_ok ?_
                  refine AC.region ?_
                  refine AL.val (Wanted.plain rfl) (g_binI rfl rfl rfl (wrap_ok (by first | omega | (simp; done) | (simp; omega)))) rfl rfl ?_
                  refine AL.fast 1 rfl ?_
                  refine AL.nil ?_
                  refine then_ok ?_
                  refine ⟨(true, q + 1, s, put, way, got, seen), ⟨by omega, hi0_1, by first | omega | (simp only [List.length_append, List.length_take, List.length_drop, List.length_cons, List.length_nil] at *; omega), by first | omega | (simp only [List.length_append, List.length_cons, List.length_nil]; omega)⟩, by first | omega | (simp; done) | (simp; omega), Weak.ren id (by refine ⟨?_, ?_, ?_, ?_, ?_, ?_, ?_, ?_,  trivial⟩ <;> first | rfl | (simp only [AV.map, GV.map, CV.map, AB.map', id]; done) | (congr 3; omega) | (congr 4; omega) | (simp only [List.length_append, List.length_cons, List.length_nil, List.length_set]; rfl) | (first | exact look_s rfl (by simp only [List.length_append, List.length_take, List.length_drop, List.length_cons, List.length_nil]; omega) | exact look_sx rfl (by simp only [List.length_append, List.length_take, List.length_drop, List.length_cons, List.length_nil]; omega) (by simp only [List.length_append, List.length_take, List.length_drop, List.length_cons, List.length_nil]; omega))) (by refine ⟨?_, ?_, ?_, ?_, ?_,  trivial⟩ <;> first | rfl | (simp only [AV.map, GV.map, CV.map, AB.map', id]; done) | (congr 3; omega) | (congr 4; omega) | (simp only [List.length_append, List.length_cons, List.length_nil, List.length_set]; rfl)) rfl⟩
              ·
                refine AC.region ?_
                refine AL.fast 1 rfl ?_
                refine AL.val (Wanted.plain rfl) (g_fieldP rfl rfl Try.underlying58 rfl sz56 (by decide)) rfl rfl ?_
                refine AL.val (Wanted.plain rfl) (g_loadB rfl rfl rfl Try.underlying56 rfl rfl) rfl rfl ?_
                refine AL.new (n' := 7) (Wanted.plain rfl) (g_appG (m := s.kept.length) (N := way.length + s.kept.length) (ys := ((s.kept).take s.kept.length).map rTransfer) (rows' := ((way).take way.length ++ ((s.kept).take s.kept.length)).map rTransfer) 6 sl56 zv60 rfl rfl rfl rfl rfl rfl rfl rfl rfl (.s rfl (by first | omega | (simp; done) | (simp; omega)) (by first | omega | (simp; done) | (simp; omega)) (by first | (simp [List.map_take, List.map_drop]; done) | (rw [List.map_take]; rfl))) (by first | omega | (simp; done) | (simp; omega)) (by first | omega | (simp; done) | (simp; omega)) (by first | omega | (simp; done) | (simp; omega)) (by first | omega | (simp; done) | (simp; omega)) (by first | omega | (simp; done) | (simp; omega)) (by first | omega | (simp; done) | (simp; omega)) (by first | (simp [List.map_take, List.map_drop]; done) | (rw [List.map_append, List.map_take, List.map_take]))) rfl rfl rfl ?_
                refine AL.fast 1 rfl ?_
                refine AL.nil ?_
                refine block_ok ?_
                refine then_ok ?_
                refine AC.seq ?_
                refine AC.region ?_
                refine AL.fast 1 rfl ?_
                refine AL.val (Wanted.plain rfl) (g_lenS rfl rfl rfl rfl rfl Try.underlying56) rfl rfl ?_
                refine AL.val (Wanted.plain rfl) (g_binI rfl rfl rfl rfl) rfl rfl ?_
                refine AL.nil ?_
                refine then_ok ?_
                refine AC.cond rfl (fun hc46 => ?_) (fun hc46 => ?_)
                ·
                  have hc46' := hc46; try simp only [sumB, Bool.not_eq_true', Bool.not_eq_false', Bool.or_eq_true, Bool.or_eq_false_iff, Bool.and_eq_true, Bool.and_eq_false_imp, decide_eq_true_eq, decide_eq_false_iff_not, Bool.not_not, Bool.not_true, Bool.not_false] at hc46'
                  refine AC.seq ?_
                  refine AC.region ?_
                  refine AL.fast 1 rfl ?_
                  refine AL.nil ?_
                  refine then_ok ?_
                  refine AC.ret ?_
                  refine block_ret ?_
                  refine then_ret ?_
                  refine then_ret ?_
                  refine block_ret ?_
                  refine then_ret ?_
                  refine retQ_mk (av' := outOf [(.c (cB true))]) (nb' := []) (retQ_ret ⟨[(2, (aB true))], [], 0⟩ [.tmp 2] [(.c (cB true))] (Weak.ren id (⟨by first | rfl | (simp only [AV.map, GV.map, CV.map, AB.map', id]; done) | (congr 3; omega) | (congr 4; omega) | (simp only [List.length_append, List.length_cons, List.length_nil, List.length_set]; rfl), trivial⟩) (trivial) rfl) rfl ⟨.tmp rfl, trivial⟩ trivial) ?_ ?_
                  · rfl
                  · rfl
                ·
                  have hc46' := hc46; try simp only [sumB, Bool.not_eq_true', Bool.not_eq_false', Bool.or_eq_true, Bool.or_eq_false_iff, Bool.and_eq_true, Bool.and_eq_false_imp, decide_eq_true_eq, decide_eq_false_iff_not, Bool.not_not, Bool.not_true, Bool.not_false] at hc46'
                  refine AC.skip ?_
                  refine block_ok ?_
                  refine then_ok ?_
                  refine AC.region ?_
                  refine AL.val (Wanted.plain rfl) (g_binI rfl rfl rfl (wrap_ok (by first | omega | (simp; done) | (simp; omega)))) rfl rfl ?_
                  refine AL.fast 1 rfl ?_
                  refine AL.nil ?_
                  refine then_ok ?_
                  have hO := Once.send hi0_1
                  have hW := Once.sub (way' := (way).take way.length ++ ((s.kept).take s.kept.length)) hO (fun t ht => by simpa using ht)
                  refine ⟨(false, q + 1, s, put, (way).take way.length ++ ((s.kept).take s.kept.length), got, seen), ⟨by omega, hW, by first | omega | (simp only [List.length_append, List.length_take, List.length_drop, List.length_cons, List.length_nil] at *; omega), by first | omega | (simp only [List.length_append, List.length_cons, List.length_nil]; omega)⟩, by first | omega | (simp; done) | (simp; omega), Weak.ren (fun k => if k = 2 then 6 else k) (by refine ⟨?_, ?_, ?_, ?_, ?_, ?_, ?_, ?_,  trivial⟩ <;> first | rfl | (simp only [AV.map, GV.map, CV.map, AB.map', id]; done) | (congr 3; omega) | (congr 4; omega) | (simp only [List.length_append, List.length_cons, List.length_nil, List.length_set]; rfl) | (first | exact look_s rfl (by simp only [List.length_append, List.length_take, List.length_drop, List.length_cons, List.length_nil]; omega) | exact look_sx rfl (by simp only [List.length_append, List.length_take, List.length_drop, List.length_cons, List.length_nil]; omega) (by simp only [List.length_append, List.length_take, List.length_drop, List.length_cons, List.length_nil]; omega))) (by refine ⟨?_, ?_, ?_, ?_, ?_,  trivial⟩ <;> first | rfl | (simp only [AV.map, GV.map, CV.map, AB.map', id]; done) | (congr 3; omega) | (congr 4; omega) | (simp only [List.length_append, List.length_cons, List.length_nil, List.length_set]; rfl)) rfl⟩
            ·
              have hc43' := hc43; try simp only [sumB, Bool.not_eq_true', Bool.not_eq_false', Bool.or_eq_true, Bool.or_eq_false_iff, Bool.and_eq_true, Bool.and_eq_false_imp, decide_eq_true_eq, decide_eq_false_iff_not, Bool.not_not, Bool.not_true, Bool.not_false] at hc43'
              refine AC.seq ?_
              refine AC.seq ?_
              refine AC.region ?_
              refine AL.val (Wanted.plain rfl) (g_binI rfl rfl rfl rfl) rfl rfl ?_
              refine AL.fast 1 rfl ?_
              refine AL.nil ?_
              refine then_ok ?_
              refine AC.cond rfl (fun hc47 => ?_) (fun hc47 => ?_)
              ·
                have hc47' := hc47; try simp only [sumB, Bool.not_eq_true', Bool.not_eq_false', Bool.or_eq_true, Bool.or_eq_false_iff, Bool.and_eq_true, Bool.and_eq_false_imp, decide_eq_true_eq, decide_eq_false_iff_not, Bool.not_not, Bool.not_true, Bool.not_false] at hc47'
                refine AC.skip ?_
                refine then_ok ?_
                refine AC.cond rfl (fun _ => ?_) (fun hno => absurd (hc47.symm.trans hno) (by decide))
                refine AC.seq ?_
                refine AC.cutB 73 ((decide (x1.at_ < 0)) || (decide (x1.at_ ≥ (↑way.length : Int)))) ?_ ?_
                ·
                  refine AC.region ?_
                  refine AL.val (Wanted.plain rfl) (g_fieldP rfl rfl Try.underlying71 rfl sz3 (by decide)) rfl rfl ?_
                  refine AL.val (Wanted.plain rfl) (g_loadB rfl rfl rfl Try.underlying3 rfl rfl) rfl rfl ?_
                  refine AL.val (Wanted.plain rfl) (g_binI rfl rfl rfl rfl) rfl rfl ?_
                  refine AL.fast 1 rfl ?_
                  refine AL.dec (t := 67) rfl (fun hb49 => ?_) (fun hb49 => ?_)
                  ·
                    have hb49' := hb49; try simp only [sumB, Bool.not_eq_true', Bool.not_eq_false', Bool.or_eq_true, Bool.or_eq_false_iff, Bool.and_eq_true, Bool.and_eq_false_imp, decide_eq_true_eq, decide_eq_false_iff_not, Bool.not_not, Bool.not_true, Bool.not_false] at hb49'
                    refine AL.fast 6 rfl ?_
                    refine AL.nil ?_
                    refine then_ok ?_
                    exact Weak.popB 11 rfl rfl (by first | (simp [hb49]; done) | (simp_all; done) | (exfalso; simp_all; done) | (simp_all; omega)) rfl
                  ·
                    have hb49' := hb49; try simp only [sumB, Bool.not_eq_true', Bool.not_eq_false', Bool.or_eq_true, Bool.or_eq_false_iff, Bool.and_eq_true, Bool.and_eq_false_imp, decide_eq_true_eq, decide_eq_false_iff_not, Bool.not_not, Bool.not_true, Bool.not_false] at hb49'
                    refine AL.val (Wanted.yes rfl rfl rfl) (g_fieldP rfl rfl Try.underlying71 rfl sz3 (by decide)) rfl rfl ?_
                    refine AL.val (Wanted.yes rfl rfl rfl) (g_loadB rfl rfl rfl Try.underlying3 rfl rfl) rfl rfl ?_
                    refine AL.fast 1 rfl ?_
                    refine AL.val (Wanted.yes rfl rfl rfl) (g_lenX Try.underlying56 rfl rfl rfl rfl rfl) rfl rfl ?_
                    refine AL.val (Wanted.yes rfl rfl rfl) (g_binI rfl rfl rfl rfl) rfl rfl ?_
                    refine AL.fast 1 rfl ?_
                    refine AL.nil ?_
                    refine then_ok ?_
                    exact Weak.popB 11 rfl rfl (by first | (simp [hb49]; done) | (simp_all; done) | (exfalso; simp_all; done) | (simp_all; omega)) rfl
                ·
                  refine AC.cond rfl (fun hc50 => ?_) (fun hc50 => ?_)
                  ·
                    have hc50' := hc50; try simp only [sumB, Bool.not_eq_true', Bool.not_eq_false', Bool.or_eq_true, Bool.or_eq_false_iff, Bool.and_eq_true, Bool.and_eq_false_imp, decide_eq_true_eq, decide_eq_false_iff_not, Bool.not_not, Bool.not_true, Bool.not_false] at hc50'
                    refine AC.exit ?_
                    refine then_exit ?_
                    refine block_pass rfl ?_
                    refine then_exit ?_
                    refine block_hit ?_
                    refine then_ok ?_
                    refine AC.region ?_
                    refine AL.val (Wanted.plain rfl) (g_binI rfl rfl rfl (wrap_ok (by first | omega | (simp; done) | (simp; omega)))) rfl rfl ?_
                    refine AL.fast 1 rfl ?_
                    refine AL.nil ?_
                    refine then_ok ?_
                    refine ⟨(true, q + 1, s, put, way, got, seen), ⟨by omega, hi0_1, by first | omega | (simp only [List.length_append, List.length_take, List.length_drop, List.length_cons, List.length_nil] at *; omega), by first | omega | (simp only [List.length_append, List.length_cons, List.length_nil]; omega)⟩, by first | omega | (simp; done) | (simp; omega), Weak.ren id (by refine ⟨?_, ?_, ?_, ?_, ?_, ?_, ?_, ?_,  trivial⟩ <;> first | rfl | (simp only [AV.map, GV.map, CV.map, AB.map', id]; done) | (congr 3; omega) | (congr 4; omega) | (simp only [List.length_append, List.length_cons, List.length_nil, List.length_set]; rfl) | (first | exact look_s rfl (by simp only [List.length_append, List.length_take, List.length_drop, List.length_cons, List.length_nil]; omega) | exact look_sx rfl (by simp only [List.length_append, List.length_take, List.length_drop, List.length_cons, List.length_nil]; omega) (by simp only [List.length_append, List.length_take, List.length_drop, List.length_cons, List.length_nil]; omega))) (by refine ⟨?_, ?_, ?_, ?_, ?_,  trivial⟩ <;> first | rfl | (simp only [AV.map, GV.map, CV.map, AB.map', id]; done) | (congr 3; omega) | (congr 4; omega) | (simp only [List.length_append, List.length_cons, List.length_nil, List.length_set]; rfl)) rfl⟩
                  ·
                    have hc50' := hc50; try simp only [sumB, Bool.not_eq_true', Bool.not_eq_false', Bool.or_eq_true, Bool.or_eq_false_iff, Bool.and_eq_true, Bool.and_eq_false_imp, decide_eq_true_eq, decide_eq_false_iff_not, Bool.not_not, Bool.not_true, Bool.not_false] at hc50'
                    refine AC.skip ?_
                    refine then_ok ?_
                    refine AC.seq ?_
                    refine AC.region ?_
                    refine AL.fast 1 rfl ?_
                    refine AL.val (Wanted.plain rfl) (g_fieldP rfl rfl Try.underlying71 rfl sz3 (by decide)) rfl rfl ?_
                    refine AL.val (Wanted.plain rfl) (g_loadB rfl rfl rfl Try.underlying3 rfl rfl) rfl rfl ?_
                    refine AL.val (Wanted.plain rfl) (g_indexX0 (i := Int.toNat (x1.at_)) rfl rfl rfl Try.underlying56 sz60 (by first | omega | (simp; done) | (simp; omega)) (by first | omega | (simp; done) | (simp; omega))) rfl rfl ?_
                    obtain ⟨x2, hx2⟩ := exget (xs := way) (i := Int.toNat (x1.at_)) (by first | omega | (simp; done) | (simp; omega))
                    refine AL.val (Wanted.plain rfl) (g_loadAs rfl rfl rfl Try.underlying60 rfl sz60 (getmap hx2) rfl) rfl rfl ?_
                    refine AL.new (n' := 7) (Wanted.plain rfl) (g_alloc 6 rfl zv60 rfl rfl rfl) rfl rfl rfl ?_
                    refine AL.sto (h' := [(6, (.box 60 [(cI x2.number), (cI x2.kind), (cI x2.auth), (cI x2.sum)])), (5, (.box 71 [(cI x1.kind), (cI x1.at_), (cI x1.sum)])), (4, (.arr 60 4 ((s.kept).map rTransfer))), (3, (.arr 60 4 ((got).map rTransfer))), (2, (.arr 60 4 ((way).map rTransfer))), (1, (.arr 60 4 ((put).map rTransfer))), (0, (.box 58 [(cI s.sent), (.s 4 0 4 s.kept.length)]))]) (Wanted.plain rfl) (g_storeB rfl rfl rfl rfl rfl sz60 rfl (Nat.le_of_ble_eq_true rfl) rfl) rfl rfl rfl rfl ?_
                    refine AL.nil ?_
                    refine then_ok ?_
                    refine AC.seq ?_
                    refine AC.seq ?_
                    refine AC.region ?_
                    refine AL.val (Wanted.plain rfl) (g_fieldP rfl rfl Try.underlying71 rfl sz3 (by decide)) rfl rfl ?_
                    refine AL.val (Wanted.plain rfl) (g_loadB rfl rfl rfl Try.underlying3 rfl rfl) rfl rfl ?_
                    refine AL.val (Wanted.plain rfl) (g_binI rfl rfl rfl rfl) rfl rfl ?_
                    refine AL.nil ?_
                    refine then_ok ?_
                    refine AC.cond rfl (fun hc51 => ?_) (fun hc51 => ?_)
                    ·
                      have hc51' := hc51; try simp only [sumB, Bool.not_eq_true', Bool.not_eq_false', Bool.or_eq_true, Bool.or_eq_false_iff, Bool.and_eq_true, Bool.and_eq_false_imp, decide_eq_true_eq, decide_eq_false_iff_not, Bool.not_not, Bool.not_true, Bool.not_false] at hc51'
                      exfalso; omega
                    ·
                      have hc51' := hc51; try simp only [sumB, Bool.not_eq_true', Bool.not_eq_false', Bool.or_eq_true, Bool.or_eq_false_iff, Bool.and_eq_true, Bool.and_eq_false_imp, decide_eq_true_eq, decide_eq_false_iff_not, Bool.not_not, Bool.not_true, Bool.not_false] at hc51'
                      refine AC.skip ?_
                      refine then_ok ?_
                      refine AC.seq ?_
                      refine AC.region ?_
                      refine AL.fast 1 rfl ?_
                      refine AL.val (Wanted.plain rfl) (g_loadBs rfl rfl rfl Try.underlying60 rfl sz60 rfl rfl) rfl rfl ?_
                      obtain ⟨n7, ok7, hr7⟩ : ∃ (n7 : Int) (ok7 : Bool), takeS seen x2 = (n7, ok7) := ⟨_, _, rfl⟩
                      refine AL.call (n' := 7) (h' := [(6, (.box 60 [(cI x2.number), (cI x2.kind), (cI x2.auth), (cI x2.sum)])), (5, (.box 71 [(cI x1.kind), (cI x1.at_), (cI x1.sum)])), (4, (.arr 60 4 ((s.kept).map rTransfer))), (3, (.arr 60 4 ((got).map rTransfer))), (2, (.arr 60 4 ((way).map rTransfer))), (1, (.arr 60 4 ((put).map rTransfer))), (0, (.box 58 [(cI s.sent), (.s 4 0 4 s.kept.length)]))]) (Wanted.plain rfl) (g_call 7 (c_post_Take seen x2  n7 ok7 hr7) en55 rfl rfl ⟨⟨_, rfl, .c (.d _)⟩, ⟨_, rfl, .g ⟨.d _, .d _, .d _, .d _,  trivial⟩⟩,  trivial⟩ ⟨trivial, trivial,  trivial⟩ trivial rfl rfl rfl rfl) rfl rfl rfl rfl rfl ?_
                      refine AL.fast 1 rfl ?_
                      refine AL.val (Wanted.plain rfl) (g_extract rfl rfl rfl) rfl rfl ?_
                      refine AL.val (Wanted.plain rfl) (g_extract rfl rfl rfl) rfl rfl ?_
                      refine AL.fast 2 rfl ?_
                      refine AL.nil ?_
                      refine then_ok ?_
                      refine AC.seq ?_
                      refine AC.seq ?_
                      refine AC.region ?_
                      refine AL.fast 1 rfl ?_
                      refine AL.nil ?_
                      refine then_ok ?_
                      refine AC.cond rfl (fun hc52 => ?_) (fun hc52 => ?_)
                      ·
                        have hc52' := hc52; try simp only [sumB, Bool.not_eq_true', Bool.not_eq_false', Bool.or_eq_true, Bool.or_eq_false_iff, Bool.and_eq_true, Bool.and_eq_false_imp, decide_eq_true_eq, decide_eq_false_iff_not, Bool.not_not, Bool.not_true, Bool.not_false] at hc52'
                        refine AC.region ?_
                        refine AL.fast 1 rfl ?_
                        refine AL.val (Wanted.plain rfl) (g_loadBs rfl rfl rfl Try.underlying60 rfl sz60 rfl rfl) rfl rfl ?_
                        refine AL.new (n' := 8) (Wanted.plain rfl) (g_lit (ys := [(0, (.g [(cI x2.number), (cI x2.kind), (cI x2.auth), (cI x2.sum)]))]) (rows := ([x2]).map rTransfer) 7 sl56 rfl (by decide) ⟨⟨rfl, rfl⟩,  trivial⟩ rfl rfl rfl rfl) rfl rfl rfl ?_
                        refine AL.eat (n' := 9) (h' := [(8, (.arr 60 4 ((got ++ ([x2])).map rTransfer))), (7, (.arr 60 4 (([x2]).map rTransfer))), (6, (.box 60 [(cI x2.number), (cI x2.kind), (cI x2.auth), (cI x2.sum)])), (5, (.box 71 [(cI x1.kind), (cI x1.at_), (cI x1.sum)])), (4, (.arr 60 4 ((s.kept).map rTransfer))), (2, (.arr 60 4 ((way).map rTransfer))), (1, (.arr 60 4 ((put).map rTransfer))), (0, (.box 58 [(cI s.sent), (.s 4 0 4 s.kept.length)]))]) (Wanted.plain rfl) (g_append (m := 1) (N := got.length + 1) (k2 := 8) (ys := ([x2]).map rTransfer) sl56 rfl rfl rfl rfl rfl rfl (by first | omega | (simp; done) | (simp; omega)) rfl (.s rfl (by first | omega | (simp; done) | (simp; omega))) (by first | omega | (simp; done) | (simp; omega)) (by first | omega | (simp; done) | (simp; omega)) appmap (by decide) (by first | omega | (simp; done) | (simp; omega)) (by first | omega | (simp; done) | (simp; omega))) rfl rfl rfl rfl rfl ?_
                        refine AL.fast 1 rfl ?_
                        refine AL.nil ?_
                        refine then_ok ?_
                        refine AC.region ?_
                        refine AL.fast 2 rfl ?_
                        refine AL.nil ?_
                        refine block_ok ?_
                        refine then_ok ?_
                        refine AC.seq ?_
                        refine AC.region ?_
                        refine AL.fast 1 rfl ?_
                        refine AL.val (Wanted.plain rfl) (g_lenX Try.underlying56 rfl rfl rfl rfl rfl) rfl rfl ?_
                        refine AL.val (Wanted.plain rfl) (g_binI rfl rfl rfl rfl) rfl rfl ?_
                        refine AL.nil ?_
                        refine then_ok ?_
                        refine AC.cond rfl (fun hc53 => ?_) (fun hc53 => ?_)
                        ·
                          have hc53' := hc53; try simp only [sumB, Bool.not_eq_true', Bool.not_eq_false', Bool.or_eq_true, Bool.or_eq_false_iff, Bool.and_eq_true, Bool.and_eq_false_imp, decide_eq_true_eq, decide_eq_false_iff_not, Bool.not_not, Bool.not_true, Bool.not_false] at hc53'
                          refine AC.seq ?_
                          refine AC.region ?_
                          refine AL.fast 1 rfl ?_
                          refine AL.nil ?_
                          refine then_ok ?_
                          refine AC.ret ?_
                          refine block_ret ?_
                          refine then_ret ?_
                          refine then_ret ?_
                          refine block_ret ?_
                          refine then_ret ?_
                          refine retQ_mk (av' := outOf [(.c (cB true))]) (nb' := []) (retQ_ret ⟨[(2, (aB true))], [], 0⟩ [.tmp 2] [(.c (cB true))] (Weak.ren id (⟨by first | rfl | (simp only [AV.map, GV.map, CV.map, AB.map', id]; done) | (congr 3; omega) | (congr 4; omega) | (simp only [List.length_append, List.length_cons, List.length_nil, List.length_set]; rfl), trivial⟩) (trivial) rfl) rfl ⟨.tmp rfl, trivial⟩ trivial) ?_ ?_
                          · rfl
                          · rfl
                        ·
                          have hc53' := hc53; try simp only [sumB, Bool.not_eq_true', Bool.not_eq_false', Bool.or_eq_true, Bool.or_eq_false_iff, Bool.and_eq_true, Bool.and_eq_false_imp, decide_eq_true_eq, decide_eq_false_iff_not, Bool.not_not, Bool.not_true, Bool.not_false] at hc53'
                          refine AC.skip ?_
                          refine block_ok ?_
                          refine then_ok ?_
                          refine AC.region ?_
                          refine AL.val (Wanted.plain rfl) (g_binI rfl rfl rfl (wrap_ok (by first | omega | (simp; done) | (simp; omega)))) rfl rfl ?_
                          refine AL.fast 1 rfl ?_
                          refine AL.nil ?_
                          refine then_ok ?_
                          have hO := Once.take hi0_1 hx2 hr7
                          rw [hc52] at hO
                          rw [if_pos rfl] at hO
                          refine ⟨(true, q + 1, s, put, way, got ++ ([x2]), n7), ⟨by omega, hO, by first | omega | (simp only [List.length_append, List.length_take, List.length_drop, List.length_cons, List.length_nil] at *; omega), by first | omega | (simp only [List.length_append, List.length_cons, List.length_nil]; omega)⟩, by first | omega | (simp; done) | (simp; omega), Weak.ren (fun k => if k = 3 then 8 else k) (by refine ⟨?_, ?_, ?_, ?_, ?_, ?_, ?_, ?_,  trivial⟩ <;> first | rfl | (simp only [AV.map, GV.map, CV.map, AB.map', id]; done) | (congr 3; omega) | (congr 4; omega) | (simp only [List.length_append, List.length_cons, List.length_nil, List.length_set]; rfl) | (first | exact look_s rfl (by simp only [List.length_append, List.length_take, List.length_drop, List.length_cons, List.length_nil]; omega) | exact look_sx rfl (by simp only [List.length_append, List.length_take, List.length_drop, List.length_cons, List.length_nil]; omega) (by simp only [List.length_append, List.length_take, List.length_drop, List.length_cons, List.length_nil]; omega))) (by refine ⟨?_, ?_, ?_, ?_, ?_,  trivial⟩ <;> first | rfl | (simp only [AV.map, GV.map, CV.map, AB.map', id]; done) | (congr 3; omega) | (congr 4; omega) | (simp only [List.length_append, List.length_cons, List.length_nil, List.length_set]; rfl)) rfl⟩
                      ·
                        have hc52' := hc52; try simp only [sumB, Bool.not_eq_true', Bool.not_eq_false', Bool.or_eq_true, Bool.or_eq_false_iff, Bool.and_eq_true, Bool.and_eq_false_imp, decide_eq_true_eq, decide_eq_false_iff_not, Bool.not_not, Bool.not_true, Bool.not_false] at hc52'
                        refine AC.skip ?_
                        refine then_ok ?_
                        refine AC.region ?_
                        refine AL.fast 2 rfl ?_
                        refine AL.nil ?_
                        refine block_ok ?_
                        refine then_ok ?_
                        refine AC.seq ?_
                        refine AC.region ?_
                        refine AL.fast 1 rfl ?_
                        refine AL.val (Wanted.plain rfl) (g_lenX Try.underlying56 rfl rfl rfl rfl rfl) rfl rfl ?_
                        refine AL.val (Wanted.plain rfl) (g_binI rfl rfl rfl rfl) rfl rfl ?_
                        refine AL.nil ?_
                        refine then_ok ?_
                        refine AC.cond rfl (fun hc54 => ?_) (fun hc54 => ?_)
                        ·
                          have hc54' := hc54; try simp only [sumB, Bool.not_eq_true', Bool.not_eq_false', Bool.or_eq_true, Bool.or_eq_false_iff, Bool.and_eq_true, Bool.and_eq_false_imp, decide_eq_true_eq, decide_eq_false_iff_not, Bool.not_not, Bool.not_true, Bool.not_false] at hc54'
                          refine AC.seq ?_
                          refine AC.region ?_
                          refine AL.fast 1 rfl ?_
                          refine AL.nil ?_
                          refine then_ok ?_
                          refine AC.ret ?_
                          refine block_ret ?_
                          refine then_ret ?_
                          refine then_ret ?_
                          refine block_ret ?_
                          refine then_ret ?_
                          refine retQ_mk (av' := outOf [(.c (cB true))]) (nb' := []) (retQ_ret ⟨[(2, (aB true))], [], 0⟩ [.tmp 2] [(.c (cB true))] (Weak.ren id (⟨by first | rfl | (simp only [AV.map, GV.map, CV.map, AB.map', id]; done) | (congr 3; omega) | (congr 4; omega) | (simp only [List.length_append, List.length_cons, List.length_nil, List.length_set]; rfl), trivial⟩) (trivial) rfl) rfl ⟨.tmp rfl, trivial⟩ trivial) ?_ ?_
                          · rfl
                          · rfl
                        ·
                          have hc54' := hc54; try simp only [sumB, Bool.not_eq_true', Bool.not_eq_false', Bool.or_eq_true, Bool.or_eq_false_iff, Bool.and_eq_true, Bool.and_eq_false_imp, decide_eq_true_eq, decide_eq_false_iff_not, Bool.not_not, Bool.not_true, Bool.not_false] at hc54'
                          refine AC.skip ?_
                          refine block_ok ?_
                          refine then_ok ?_
                          refine AC.region ?_
                          refine AL.val (Wanted.plain rfl) (g_binI rfl rfl rfl (wrap_ok (by first | omega | (simp; done) | (simp; omega)))) rfl rfl ?_
                          refine AL.fast 1 rfl ?_
                          refine AL.nil ?_
                          refine then_ok ?_
                          have hO := Once.take hi0_1 hx2 hr7
                          rw [hc52] at hO
                          rw [if_neg (by decide)] at hO
                          refine ⟨(true, q + 1, s, put, way, got, n7), ⟨by omega, hO, by first | omega | (simp only [List.length_append, List.length_take, List.length_drop, List.length_cons, List.length_nil] at *; omega), by first | omega | (simp only [List.length_append, List.length_cons, List.length_nil]; omega)⟩, by first | omega | (simp; done) | (simp; omega), Weak.ren id (by refine ⟨?_, ?_, ?_, ?_, ?_, ?_, ?_, ?_,  trivial⟩ <;> first | rfl | (simp only [AV.map, GV.map, CV.map, AB.map', id]; done) | (congr 3; omega) | (congr 4; omega) | (simp only [List.length_append, List.length_cons, List.length_nil, List.length_set]; rfl) | (first | exact look_s rfl (by simp only [List.length_append, List.length_take, List.length_drop, List.length_cons, List.length_nil]; omega) | exact look_sx rfl (by simp only [List.length_append, List.length_take, List.length_drop, List.length_cons, List.length_nil]; omega) (by simp only [List.length_append, List.length_take, List.length_drop, List.length_cons, List.length_nil]; omega))) (by refine ⟨?_, ?_, ?_, ?_, ?_,  trivial⟩ <;> first | rfl | (simp only [AV.map, GV.map, CV.map, AB.map', id]; done) | (congr 3; omega) | (congr 4; omega) | (simp only [List.length_append, List.length_cons, List.length_nil, List.length_set]; rfl)) rfl⟩
              ·
                have hc47' := hc47; try simp only [sumB, Bool.not_eq_true', Bool.not_eq_false', Bool.or_eq_true, Bool.or_eq_false_iff, Bool.and_eq_true, Bool.and_eq_false_imp, decide_eq_true_eq, decide_eq_false_iff_not, Bool.not_not, Bool.not_true, Bool.not_false] at hc47'
                refine AC.region ?_
                refine AL.val (Wanted.plain rfl) (g_binI rfl rfl rfl rfl) rfl rfl ?_
                refine AL.fast 1 rfl ?_
                refine AL.nil ?_
                refine then_ok ?_
                refine AC.cond rfl (fun hc55 => ?_) (fun hc55 => ?_)
                ·
                  have hc55' := hc55; try simp only [sumB, Bool.not_eq_true', Bool.not_eq_false', Bool.or_eq_true, Bool.or_eq_false_iff, Bool.and_eq_true, Bool.and_eq_false_imp, decide_eq_true_eq, decide_eq_false_iff_not, Bool.not_not, Bool.not_true, Bool.not_false] at hc55'
                  refine AC.seq ?_
                  refine AC.cutB 73 ((decide (x1.at_ < 0)) || (decide (x1.at_ ≥ (↑way.length : Int)))) ?_ ?_
                  ·
                    refine AC.region ?_
                    refine AL.val (Wanted.plain rfl) (g_fieldP rfl rfl Try.underlying71 rfl sz3 (by decide)) rfl rfl ?_
                    refine AL.val (Wanted.plain rfl) (g_loadB rfl rfl rfl Try.underlying3 rfl rfl) rfl rfl ?_
                    refine AL.val (Wanted.plain rfl) (g_binI rfl rfl rfl rfl) rfl rfl ?_
                    refine AL.fast 1 rfl ?_
                    refine AL.dec (t := 67) rfl (fun hb56 => ?_) (fun hb56 => ?_)
                    ·
                      have hb56' := hb56; try simp only [sumB, Bool.not_eq_true', Bool.not_eq_false', Bool.or_eq_true, Bool.or_eq_false_iff, Bool.and_eq_true, Bool.and_eq_false_imp, decide_eq_true_eq, decide_eq_false_iff_not, Bool.not_not, Bool.not_true, Bool.not_false] at hb56'
                      refine AL.fast 6 rfl ?_
                      refine AL.nil ?_
                      refine then_ok ?_
                      exact Weak.popB 11 rfl rfl (by first | (simp [hb56]; done) | (simp_all; done) | (exfalso; simp_all; done) | (simp_all; omega)) rfl
                    ·
                      have hb56' := hb56; try simp only [sumB, Bool.not_eq_true', Bool.not_eq_false', Bool.or_eq_true, Bool.or_eq_false_iff, Bool.and_eq_true, Bool.and_eq_false_imp, decide_eq_true_eq, decide_eq_false_iff_not, Bool.not_not, Bool.not_true, Bool.not_false] at hb56'
                      refine AL.val (Wanted.yes rfl rfl rfl) (g_fieldP rfl rfl Try.underlying71 rfl sz3 (by decide)) rfl rfl ?_
                      refine AL.val (Wanted.yes rfl rfl rfl) (g_loadB rfl rfl rfl Try.underlying3 rfl rfl) rfl rfl ?_
                      refine AL.fast 1 rfl ?_
                      refine AL.val (Wanted.yes rfl rfl rfl) (g_lenX Try.underlying56 rfl rfl rfl rfl rfl) rfl rfl ?_
                      refine AL.val (Wanted.yes rfl rfl rfl) (g_binI rfl rfl rfl rfl) rfl rfl ?_
                      refine AL.fast 1 rfl ?_
                      refine AL.nil ?_
                      refine then_ok ?_
                      exact Weak.popB 11 rfl rfl (by first | (simp [hb56]; done) | (simp_all; done) | (exfalso; simp_all; done) | (simp_all; omega)) rfl
                  ·
                    refine AC.cond rfl (fun hc57 => ?_) (fun hc57 => ?_)
                    ·
                      have hc57' := hc57; try simp only [sumB, Bool.not_eq_true', Bool.not_eq_false', Bool.or_eq_true, Bool.or_eq_false_iff, Bool.and_eq_true, Bool.and_eq_false_imp, decide_eq_true_eq, decide_eq_false_iff_not, Bool.not_not, Bool.not_true, Bool.not_false] at hc57'
                      refine AC.exit ?_
                      refine then_exit ?_
                      refine block_pass rfl ?_
                      refine then_exit ?_
                      refine block_hit ?_
                      refine then_ok ?_
                      refine AC.region ?_
                      refine AL.val (Wanted.plain rfl) (g_binI rfl rfl rfl (wrap_ok (by first | omega | (simp; done) | (simp; omega)))) rfl rfl ?_
                      refine AL.fast 1 rfl ?_
                      refine AL.nil ?_
                      refine then_ok ?_
                      refine ⟨(true, q + 1, s, put, way, got, seen), ⟨by omega, hi0_1, by first | omega | (simp only [List.length_append, List.length_take, List.length_drop, List.length_cons, List.length_nil] at *; omega), by first | omega | (simp only [List.length_append, List.length_cons, List.length_nil]; omega)⟩, by first | omega | (simp; done) | (simp; omega), Weak.ren id (by refine ⟨?_, ?_, ?_, ?_, ?_, ?_, ?_, ?_,  trivial⟩ <;> first | rfl | (simp only [AV.map, GV.map, CV.map, AB.map', id]; done) | (congr 3; omega) | (congr 4; omega) | (simp only [List.length_append, List.length_cons, List.length_nil, List.length_set]; rfl) | (first | exact look_s rfl (by simp only [List.length_append, List.length_take, List.length_drop, List.length_cons, List.length_nil]; omega) | exact look_sx rfl (by simp only [List.length_append, List.length_take, List.length_drop, List.length_cons, List.length_nil]; omega) (by simp only [List.length_append, List.length_take, List.length_drop, List.length_cons, List.length_nil]; omega))) (by refine ⟨?_, ?_, ?_, ?_, ?_,  trivial⟩ <;> first | rfl | (simp only [AV.map, GV.map, CV.map, AB.map', id]; done) | (congr 3; omega) | (congr 4; omega) | (simp only [List.length_append, List.length_cons, List.length_nil, List.length_set]; rfl)) rfl⟩
                    ·
                      have hc57' := hc57; try simp only [sumB, Bool.not_eq_true', Bool.not_eq_false', Bool.or_eq_true, Bool.or_eq_false_iff, Bool.and_eq_true, Bool.and_eq_false_imp, decide_eq_true_eq, decide_eq_false_iff_not, Bool.not_not, Bool.not_true, Bool.not_false] at hc57'
                      refine AC.skip ?_
                      refine then_ok ?_
                      refine AC.seq ?_
                      refine AC.region ?_
                      refine AL.fast 1 rfl ?_
                      refine AL.val (Wanted.plain rfl) (g_fieldP rfl rfl Try.underlying71 rfl sz3 (by decide)) rfl rfl ?_
                      refine AL.val (Wanted.plain rfl) (g_loadB rfl rfl rfl Try.underlying3 rfl rfl) rfl rfl ?_
                      refine AL.val (Wanted.plain rfl) (g_indexX0 (i := Int.toNat (x1.at_)) rfl rfl rfl Try.underlying56 sz60 (by first | omega | (simp; done) | (simp; omega)) (by first | omega | (simp; done) | (simp; omega))) rfl rfl ?_
                      obtain ⟨x2, hx2⟩ := exget (xs := way) (i := Int.toNat (x1.at_)) (by first | omega | (simp; done) | (simp; omega))
                      refine AL.val (Wanted.plain rfl) (g_loadAs rfl rfl rfl Try.underlying60 rfl sz60 (getmap hx2) rfl) rfl rfl ?_
                      refine AL.new (n' := 7) (Wanted.plain rfl) (g_alloc 6 rfl zv60 rfl rfl rfl) rfl rfl rfl ?_
                      refine AL.sto (h' := [(6, (.box 60 [(cI x2.number), (cI x2.kind), (cI x2.auth), (cI x2.sum)])), (5, (.box 71 [(cI x1.kind), (cI x1.at_), (cI x1.sum)])), (4, (.arr 60 4 ((s.kept).map rTransfer))), (3, (.arr 60 4 ((got).map rTransfer))), (2, (.arr 60 4 ((way).map rTransfer))), (1, (.arr 60 4 ((put).map rTransfer))), (0, (.box 58 [(cI s.sent), (.s 4 0 4 s.kept.length)]))]) (Wanted.plain rfl) (g_storeB rfl rfl rfl rfl rfl sz60 rfl (Nat.le_of_ble_eq_true rfl) rfl) rfl rfl rfl rfl ?_
                      refine AL.nil ?_
                      refine then_ok ?_
                      refine AC.seq ?_
                      refine AC.seq ?_
                      refine AC.region ?_
                      refine AL.val (Wanted.plain rfl) (g_fieldP rfl rfl Try.underlying71 rfl sz3 (by decide)) rfl rfl ?_
                      refine AL.val (Wanted.plain rfl) (g_loadB rfl rfl rfl Try.underlying3 rfl rfl) rfl rfl ?_
                      refine AL.val (Wanted.plain rfl) (g_binI rfl rfl rfl rfl) rfl rfl ?_
                      refine AL.nil ?_
                      refine then_ok ?_
                      refine AC.cond rfl (fun _ => ?_) (fun hno => absurd (hc55.symm.trans hno) (by decide))
                      rcases (show Int.toNat (x1.at_ + 1) = way.length ∨ Int.toNat (x1.at_ + 1) < way.length from by omega) with hs59 | hs59
                      ·
                        refine AC.weak (st' := ⟨[(3, (aC (.p 0 0 0 0))), (4, (aC (.s 1 0 4 put.length))), (5, (aC (.sx 2 0 4 way.length way.length false))), (6, (aC (.s 3 0 4 got.length))), (7, (aI seen)), (23, (aC (cR 3 ((l).map rAct)))), (24, (aI (↑l.length : Int))), (25, (aI (↑q : Int))), (9, (aC (.p 5 0 0 0))), (12, (aC (.p 6 0 0 0)))], [(6, (.box 60 [(cI x2.number), (cI x2.kind), (cI x2.auth), (cI x2.sum)])), (5, (.box 71 [(cI x1.kind), (cI x1.at_), (cI x1.sum)])), (4, (.arr 60 4 ((s.kept).map rTransfer))), (3, (.arr 60 4 ((got).map rTransfer))), (2, (.arr 60 4 ((way).map rTransfer))), (1, (.arr 60 4 ((put).map rTransfer))), (0, (.box 58 [(cI s.sent), (.s 4 0 4 s.kept.length)]))], 7⟩) (Weak.ren id (by refine ⟨?_, ?_, ?_, ?_, ?_, ?_, ?_, ?_, ?_, ?_,  trivial⟩ <;> first | rfl | (simp only [AV.map, GV.map, CV.map, AB.map', id]; done) | (congr 3; omega) | (congr 4; omega) | (simp only [List.length_append, List.length_cons, List.length_nil, List.length_set]; rfl)) (by refine ⟨?_, ?_, ?_, ?_, ?_, ?_, ?_,  trivial⟩ <;> first | rfl | (simp only [AV.map, GV.map, CV.map, AB.map', id]; done) | (congr 3; omega) | (congr 4; omega) | (simp only [List.length_append, List.length_cons, List.length_nil, List.length_set]; rfl)) rfl) ?_
                        refine AC.drawW [⟨some 82, (aC (.sx 2 0 4 way.length way.length false)), [], [], [], [(5, (aC (.sx 2 0 4 way.length way.length false)))], []⟩,
      ⟨some 83, (aC (.p 5 0 0 1)), [], [], [], [(9, (aC (.p 5 0 0 0)))], []⟩,
      ⟨some 84, (aI x1.at_), [], [], [1], [(83, (aC (.p 5 0 0 1)))], [(5, (.box 71 [(cI x1.kind), (cI x1.at_), (cI x1.sum)]))]⟩,
      ⟨some 85, (aC (.p 5 0 0 1)), [], [], [], [(9, (aC (.p 5 0 0 0)))], []⟩,
      ⟨some 86, (aI x1.at_), [], [], [3], [(85, (aC (.p 5 0 0 1)))], [(5, (.box 71 [(cI x1.kind), (cI x1.at_), (cI x1.sum)]))]⟩,
      ⟨some 87, (aC (.sx 2 0 4 (Int.toNat (x1.at_)) (Int.toNat (x1.at_)) false)), [], [], [4, 2, 0], [(82, (aC (.sx 2 0 4 way.length way.length false))), (84, (aI x1.at_)), (86, (aI x1.at_))], [(2, (.arr 60 4 ((way).map rTransfer)))]⟩,
      ⟨some 88, (aC (.sx 2 0 4 way.length way.length false)), [], [], [], [(5, (aC (.sx 2 0 4 way.length way.length false)))], []⟩,
      ⟨some 89, (aC (.p 5 0 0 1)), [], [], [], [(9, (aC (.p 5 0 0 0)))], []⟩,
      ⟨some 90, (aI x1.at_), [], [], [7], [(89, (aC (.p 5 0 0 1)))], [(5, (.box 71 [(cI x1.kind), (cI x1.at_), (cI x1.sum)]))]⟩,
      ⟨some 91, (aI (x1.at_ + 1)), [], [], [8], [(90, (aI x1.at_))], []⟩,
      ⟨some 92, (aC (.sx 2 (Int.toNat (x1.at_ + 1)) 4 (way.length - (Int.toNat (x1.at_ + 1))) (way.length - (Int.toNat (x1.at_ + 1))) false)), [], [], [9, 6], [(88, (aC (.sx 2 0 4 way.length way.length false))), (91, (aI (x1.at_ + 1)))], [(2, (.arr 60 4 ((way).map rTransfer)))]⟩,
      ⟨some 93, (aC (.sx 2 0 4 (Int.toNat (x1.at_)) (Int.toNat (x1.at_)) false)), [], [], [10, 5], [(87, (aC (.sx 2 0 4 (Int.toNat (x1.at_)) (Int.toNat (x1.at_)) false))), (92, (aC (.sx 2 (Int.toNat (x1.at_ + 1)) 4 (way.length - (Int.toNat (x1.at_ + 1))) (way.length - (Int.toNat (x1.at_ + 1))) false)))], [(2, (.arr 60 4 ((way).map rTransfer)))]⟩,
      ⟨some 5, (aC (.sx 2 0 4 (Int.toNat (x1.at_)) (Int.toNat (x1.at_)) false)), [], [], [11], [(93, (aC (.sx 2 0 4 (Int.toNat (x1.at_)) (Int.toNat (x1.at_)) false)))], []⟩] ⟨[(3, (aC (.p 0 0 0 0))), (4, (aC (.s 1 0 4 put.length))), (5, (aC (.sx 2 0 4 (Int.toNat (x1.at_)) (Int.toNat (x1.at_)) false))), (6, (aC (.s 3 0 4 got.length))), (7, (aI seen)), (23, (aC (cR 3 ((l).map rAct)))), (24, (aI (↑l.length : Int))), (25, (aI (↑q : Int))), (12, (aC (.p 6 0 0 0)))], [(6, (.box 60 [(cI x2.number), (cI x2.kind), (cI x2.auth), (cI x2.sum)])), (4, (.arr 60 4 ((s.kept).map rTransfer))), (3, (.arr 60 4 ((got).map rTransfer))), (2, (.arr 60 4 ((way).map rTransfer))), (1, (.arr 60 4 ((put).map rTransfer))), (0, (.box 58 [(cI s.sent), (.s 4 0 4 s.kept.length)]))], 7⟩ [12, 11, 10, 9, 8, 7, 6, 5, 4, 3, 2, 1, 0] mixed (by kernel_rfl) ?_ ?_ ?_ ?_
                        · exact ⟨.inl ⟨(Wanted.plain rfl), GOp.cast (g_move rfl rfl) rfl⟩,
      .inl ⟨(Wanted.plain rfl), GOp.cast (g_fieldP rfl rfl Try.underlying71 rfl sz3 (by decide)) rfl⟩,
      .inl ⟨(Wanted.plain rfl), GOp.cast (g_loadB rfl rfl rfl Try.underlying3 rfl rfl) rfl⟩,
      .inl ⟨(Wanted.plain rfl), GOp.cast (g_fieldP rfl rfl Try.underlying71 rfl sz3 (by decide)) rfl⟩,
      .inl ⟨(Wanted.plain rfl), GOp.cast (g_loadB rfl rfl rfl Try.underlying3 rfl rfl) rfl⟩,
      .inl ⟨(Wanted.plain rfl), GOp.cast (g_sliceX (l := 0) (h := Int.toNat (x1.at_)) (m := Int.toNat (x1.at_)) (n' := Int.toNat (x1.at_)) (c' := Int.toNat (x1.at_)) (E' := false) rfl Try.underlying56 sz60 rfl (.inl ⟨rfl, rfl⟩) (.inr ⟨_, rfl, (evI rfl (by first | omega | (simp; done) | (simp; omega)))⟩) (.inr ⟨_, rfl, (evI rfl (by first | omega | (simp; done) | (simp; omega)))⟩) (by first | omega | (simp; done) | (simp; omega)) (by first | omega | (simp; done) | (simp; omega)) (by first | omega | (simp; done) | (simp; omega)) (by first | omega | (simp; done) | (simp; omega)) (by first | omega | (simp; done) | (simp; omega)) (by simp)) rfl⟩,
      .inl ⟨(Wanted.plain rfl), GOp.cast (g_move rfl rfl) rfl⟩,
      .inl ⟨(Wanted.plain rfl), GOp.cast (g_fieldP rfl rfl Try.underlying71 rfl sz3 (by decide)) rfl⟩,
      .inl ⟨(Wanted.plain rfl), GOp.cast (g_loadB rfl rfl rfl Try.underlying3 rfl rfl) rfl⟩,
      .inl ⟨(Wanted.plain rfl), GOp.cast (g_binI rfl rfl rfl (wrap_ok (by first | omega | (simp; done) | (simp; omega)))) rfl⟩,
      .inl ⟨(Wanted.plain rfl), GOp.cast (GOp.cast (g_sliceX (l := Int.toNat (x1.at_ + 1)) (h := way.length) (m := way.length) (n' := way.length - (Int.toNat (x1.at_ + 1))) (c' := way.length - (Int.toNat (x1.at_ + 1))) (E' := false) rfl Try.underlying56 sz60 rfl (.inr ⟨_, rfl, (evI rfl (by first | omega | (simp; done) | (simp; omega)))⟩) (.inl ⟨rfl, rfl, rfl⟩) (.inl ⟨rfl, rfl⟩) (by first | omega | (simp; done) | (simp; omega)) (by first | omega | (simp; done) | (simp; omega)) (by first | omega | (simp; done) | (simp; omega)) (by first | omega | (simp; done) | (simp; omega)) (by first | omega | (simp; done) | (simp; omega)) (by simp)) (show _ = (aC (.sx 2 (Int.toNat (x1.at_ + 1)) 4 (way.length - (Int.toNat (x1.at_ + 1))) (way.length - (Int.toNat (x1.at_ + 1))) false)) by first | rfl | (simp only [Nat.zero_add, Nat.add_zero]; rfl))) rfl⟩,
      .inl ⟨(Wanted.plain rfl), GOp.cast (g_app00 sl56 rfl rfl rfl rfl rfl rfl (.x _ _ _ _ _ _ (by first | omega | (simp; done) | (simp; omega)))) rfl⟩,
      .inl ⟨(Wanted.plain rfl), GOp.cast (g_assign rfl rfl) rfl⟩,
       trivial⟩
                        · exact ⟨⟨⟨rfl,  trivial⟩, trivial⟩, ⟨⟨rfl,  trivial⟩, trivial⟩, ⟨⟨⟨_, rfl, rfl, rfl⟩,  trivial⟩, ⟨rfl,  trivial⟩⟩, ⟨⟨rfl,  trivial⟩, trivial⟩, ⟨⟨⟨_, rfl, rfl, rfl⟩,  trivial⟩, ⟨rfl,  trivial⟩⟩, ⟨⟨⟨_, rfl, rfl, rfl⟩, ⟨_, rfl, rfl, rfl⟩, ⟨_, rfl, rfl, rfl⟩,  trivial⟩, ⟨rfl,  trivial⟩⟩, ⟨⟨rfl,  trivial⟩, trivial⟩, ⟨⟨rfl,  trivial⟩, trivial⟩, ⟨⟨⟨_, rfl, rfl, rfl⟩,  trivial⟩, ⟨rfl,  trivial⟩⟩, ⟨⟨⟨_, rfl, rfl, rfl⟩,  trivial⟩, trivial⟩, ⟨⟨⟨_, rfl, rfl, rfl⟩, ⟨_, rfl, rfl, rfl⟩,  trivial⟩, ⟨rfl,  trivial⟩⟩, ⟨⟨⟨_, rfl, rfl, rfl⟩, ⟨_, rfl, rfl, rfl⟩,  trivial⟩, ⟨rfl,  trivial⟩⟩, ⟨⟨⟨_, rfl, rfl, rfl⟩,  trivial⟩, trivial⟩,  trivial⟩
                        · exact ⟨⟨rfl, rfl, ⟨_, rfl, rfl, rfl⟩, rfl, rfl, rfl, rfl, rfl, rfl,  trivial⟩, ⟨rfl, rfl, rfl, rfl, rfl, rfl,  trivial⟩⟩
                        ·
                          refine then_ok ?_
                          refine AC.weak (Weak.cut (rows' := ((way).take (Int.toNat (x1.at_))).map rTransfer) (h' := [(6, (.box 60 [(cI x2.number), (cI x2.kind), (cI x2.auth), (cI x2.sum)])), (4, (.arr 60 4 ((s.kept).map rTransfer))), (3, (.arr 60 4 ((got).map rTransfer))), (2, (.arr 60 4 (((way).take (Int.toNat (x1.at_))).map rTransfer))), (1, (.arr 60 4 ((put).map rTransfer))), (0, (.box 58 [(cI s.sent), (.s 4 0 4 s.kept.length)]))]) 2 (Int.toNat (x1.at_)) rfl List.map_take.symm rfl) ?_
                          refine AC.seq ?_
                          refine AC.region ?_
                          refine AL.fast 1 rfl ?_
                          refine AL.val (Wanted.plain rfl) (g_loadBs rfl rfl rfl Try.underlying60 rfl sz60 rfl rfl) rfl rfl ?_
                          obtain ⟨n8, ok8, hr8⟩ : ∃ (n8 : Int) (ok8 : Bool), takeS seen x2 = (n8, ok8) := ⟨_, _, rfl⟩
                          refine AL.call (n' := 7) (h' := [(6, (.box 60 [(cI x2.number), (cI x2.kind), (cI x2.auth), (cI x2.sum)])), (4, (.arr 60 4 ((s.kept).map rTransfer))), (3, (.arr 60 4 ((got).map rTransfer))), (2, (.arr 60 4 (((way).take (Int.toNat (x1.at_))).map rTransfer))), (1, (.arr 60 4 ((put).map rTransfer))), (0, (.box 58 [(cI s.sent), (.s 4 0 4 s.kept.length)]))]) (Wanted.plain rfl) (g_call 7 (c_post_Take seen x2  n8 ok8 hr8) en55 rfl rfl ⟨⟨_, rfl, .c (.d _)⟩, ⟨_, rfl, .g ⟨.d _, .d _, .d _, .d _,  trivial⟩⟩,  trivial⟩ ⟨trivial, trivial,  trivial⟩ trivial rfl rfl rfl rfl) rfl rfl rfl rfl rfl ?_
                          refine AL.fast 1 rfl ?_
                          refine AL.val (Wanted.plain rfl) (g_extract rfl rfl rfl) rfl rfl ?_
                          refine AL.val (Wanted.plain rfl) (g_extract rfl rfl rfl) rfl rfl ?_
                          refine AL.fast 2 rfl ?_
                          refine AL.nil ?_
                          refine then_ok ?_
                          refine AC.seq ?_
                          refine AC.seq ?_
                          refine AC.region ?_
                          refine AL.fast 1 rfl ?_
                          refine AL.nil ?_
                          refine then_ok ?_
                          refine AC.cond rfl (fun hc60 => ?_) (fun hc60 => ?_)
                          ·
                            have hc60' := hc60; try simp only [sumB, Bool.not_eq_true', Bool.not_eq_false', Bool.or_eq_true, Bool.or_eq_false_iff, Bool.and_eq_true, Bool.and_eq_false_imp, decide_eq_true_eq, decide_eq_false_iff_not, Bool.not_not, Bool.not_true, Bool.not_false] at hc60'
                            refine AC.region ?_
                            refine AL.fast 1 rfl ?_
                            refine AL.val (Wanted.plain rfl) (g_loadBs rfl rfl rfl Try.underlying60 rfl sz60 rfl rfl) rfl rfl ?_
                            refine AL.new (n' := 8) (Wanted.plain rfl) (g_lit (ys := [(0, (.g [(cI x2.number), (cI x2.kind), (cI x2.auth), (cI x2.sum)]))]) (rows := ([x2]).map rTransfer) 7 sl56 rfl (by decide) ⟨⟨rfl, rfl⟩,  trivial⟩ rfl rfl rfl rfl) rfl rfl rfl ?_
                            refine AL.eat (n' := 9) (h' := [(8, (.arr 60 4 ((got ++ ([x2])).map rTransfer))), (7, (.arr 60 4 (([x2]).map rTransfer))), (6, (.box 60 [(cI x2.number), (cI x2.kind), (cI x2.auth), (cI x2.sum)])), (4, (.arr 60 4 ((s.kept).map rTransfer))), (2, (.arr 60 4 (((way).take (Int.toNat (x1.at_))).map rTransfer))), (1, (.arr 60 4 ((put).map rTransfer))), (0, (.box 58 [(cI s.sent), (.s 4 0 4 s.kept.length)]))]) (Wanted.plain rfl) (g_append (m := 1) (N := got.length + 1) (k2 := 8) (ys := ([x2]).map rTransfer) sl56 rfl rfl rfl rfl rfl rfl (by first | omega | (simp; done) | (simp; omega)) rfl (.s rfl (by first | omega | (simp; done) | (simp; omega))) (by first | omega | (simp; done) | (simp; omega)) (by first | omega | (simp; done) | (simp; omega)) appmap (by decide) (by first | omega | (simp; done) | (simp; omega)) (by first | omega | (simp; done) | (simp; omega))) rfl rfl rfl rfl rfl ?_
                            refine AL.fast 1 rfl ?_
                            refine AL.nil ?_
                            refine then_ok ?_
                            refine AC.region ?_
                            refine AL.fast 2 rfl ?_
                            refine AL.nil ?_
                            refine block_ok ?_
                            refine then_ok ?_
                            refine AC.seq ?_
                            refine AC.region ?_
                            refine AL.fast 1 rfl ?_
                            refine AL.val (Wanted.plain rfl) (g_lenX Try.underlying56 rfl rfl rfl rfl rfl) rfl rfl ?_
                            refine AL.val (Wanted.plain rfl) (g_binI rfl rfl rfl rfl) rfl rfl ?_
                            refine AL.nil ?_
                            refine then_ok ?_
                            refine AC.cond rfl (fun hc61 => ?_) (fun hc61 => ?_)
                            ·
                              have hc61' := hc61; try simp only [sumB, Bool.not_eq_true', Bool.not_eq_false', Bool.or_eq_true, Bool.or_eq_false_iff, Bool.and_eq_true, Bool.and_eq_false_imp, decide_eq_true_eq, decide_eq_false_iff_not, Bool.not_not, Bool.not_true, Bool.not_false] at hc61'
                              refine AC.seq ?_
                              refine AC.region ?_
                              refine AL.fast 1 rfl ?_
                              refine AL.nil ?_
                              refine then_ok ?_
                              refine AC.ret ?_
                              refine block_ret ?_
                              refine then_ret ?_
                              refine then_ret ?_
                              refine block_ret ?_
                              refine then_ret ?_
                              refine retQ_mk (av' := outOf [(.c (cB true))]) (nb' := []) (retQ_ret ⟨[(2, (aB true))], [], 0⟩ [.tmp 2] [(.c (cB true))] (Weak.ren id (⟨by first | rfl | (simp only [AV.map, GV.map, CV.map, AB.map', id]; done) | (congr 3; omega) | (congr 4; omega) | (simp only [List.length_append, List.length_cons, List.length_nil, List.length_set]; rfl), trivial⟩) (trivial) rfl) rfl ⟨.tmp rfl, trivial⟩ trivial) ?_ ?_
                              · rfl
                              · rfl
                            ·
                              have hc61' := hc61; try simp only [sumB, Bool.not_eq_true', Bool.not_eq_false', Bool.or_eq_true, Bool.or_eq_false_iff, Bool.and_eq_true, Bool.and_eq_false_imp, decide_eq_true_eq, decide_eq_false_iff_not, Bool.not_not, Bool.not_true, Bool.not_false] at hc61'
                              refine AC.skip ?_
                              refine block_ok ?_
                              refine then_ok ?_
                              refine AC.region ?_
                              refine AL.val (Wanted.plain rfl) (g_binI rfl rfl rfl (wrap_ok (by first | omega | (simp; done) | (simp; omega)))) rfl rfl ?_
                              refine AL.fast 1 rfl ?_
                              refine AL.nil ?_
                              refine then_ok ?_
                              have hO := Once.take hi0_1 hx2 hr8
                              rw [hc60] at hO
                              rw [if_pos rfl] at hO
                              have hW := Once.sub (way' := (way).take (Int.toNat (x1.at_))) hO (fun t ht => by first | exact List.mem_of_mem_take ht | (rcases List.mem_append.1 ht with hu | hu; exact List.mem_of_mem_take hu; exact List.mem_of_mem_drop (List.mem_of_mem_take hu)))
                              refine ⟨(true, q + 1, s, put, (way).take (Int.toNat (x1.at_)), got ++ ([x2]), n8), ⟨by omega, hW, by first | omega | (simp only [List.length_append, List.length_take, List.length_drop, List.length_cons, List.length_nil] at *; omega), by first | omega | (simp only [List.length_append, List.length_cons, List.length_nil]; omega)⟩, by first | omega | (simp; done) | (simp; omega), Weak.ren (fun k => if k = 3 then 8 else k) (by refine ⟨?_, ?_, ?_, ?_, ?_, ?_, ?_, ?_,  trivial⟩ <;> first | rfl | (simp only [AV.map, GV.map, CV.map, AB.map', id]; done) | (congr 3; omega) | (congr 4; omega) | (simp only [List.length_append, List.length_cons, List.length_nil, List.length_set]; rfl) | (first | exact look_s rfl (by simp only [List.length_append, List.length_take, List.length_drop, List.length_cons, List.length_nil]; omega) | exact look_sx rfl (by simp only [List.length_append, List.length_take, List.length_drop, List.length_cons, List.length_nil]; omega) (by simp only [List.length_append, List.length_take, List.length_drop, List.length_cons, List.length_nil]; omega))) (by refine ⟨?_, ?_, ?_, ?_, ?_,  trivial⟩ <;> first | rfl | (simp only [AV.map, GV.map, CV.map, AB.map', id]; done) | (congr 3; omega) | (congr 4; omega) | (simp only [List.length_append, List.length_cons, List.length_nil, List.length_set]; rfl)) rfl⟩
                          ·
                            have hc60' := hc60; try simp only [sumB, Bool.not_eq_true', Bool.not_eq_false', Bool.or_eq_true, Bool.or_eq_false_iff, Bool.and_eq_true, Bool.and_eq_false_imp, decide_eq_true_eq, decide_eq_false_iff_not, Bool.not_not, Bool.not_true, Bool.not_false] at hc60'
                            refine AC.skip ?_
                            refine then_ok ?_
                            refine AC.region ?_
                            refine AL.fast 2 rfl ?_
                            refine AL.nil ?_
                            refine block_ok ?_
                            refine then_ok ?_
                            refine AC.seq ?_
                            refine AC.region ?_
                            refine AL.fast 1 rfl ?_
                            refine AL.val (Wanted.plain rfl) (g_lenX Try.underlying56 rfl rfl rfl rfl rfl) rfl rfl ?_
                            refine AL.val (Wanted.plain rfl) (g_binI rfl rfl rfl rfl) rfl rfl ?_
                            refine AL.nil ?_
                            refine then_ok ?_
                            refine AC.cond rfl (fun hc62 => ?_) (fun hc62 => ?_)
                            ·
                              have hc62' := hc62; try simp only [sumB, Bool.not_eq_true', Bool.not_eq_false', Bool.or_eq_true, Bool.or_eq_false_iff, Bool.and_eq_true, Bool.and_eq_false_imp, decide_eq_true_eq, decide_eq_false_iff_not, Bool.not_not, Bool.not_true, Bool.not_false] at hc62'
                              refine AC.seq ?_
                              refine AC.region ?_
                              refine AL.fast 1 rfl ?_
                              refine AL.nil ?_
                              refine then_ok ?_
                              refine AC.ret ?_
                              refine block_ret ?_
                              refine then_ret ?_
                              refine then_ret ?_
                              refine block_ret ?_
                              refine then_ret ?_
                              refine retQ_mk (av' := outOf [(.c (cB true))]) (nb' := []) (retQ_ret ⟨[(2, (aB true))], [], 0⟩ [.tmp 2] [(.c (cB true))] (Weak.ren id (⟨by first | rfl | (simp only [AV.map, GV.map, CV.map, AB.map', id]; done) | (congr 3; omega) | (congr 4; omega) | (simp only [List.length_append, List.length_cons, List.length_nil, List.length_set]; rfl), trivial⟩) (trivial) rfl) rfl ⟨.tmp rfl, trivial⟩ trivial) ?_ ?_
                              · rfl
                              · rfl
                            ·
                              have hc62' := hc62; try simp only [sumB, Bool.not_eq_true', Bool.not_eq_false', Bool.or_eq_true, Bool.or_eq_false_iff, Bool.and_eq_true, Bool.and_eq_false_imp, decide_eq_true_eq, decide_eq_false_iff_not, Bool.not_not, Bool.not_true, Bool.not_false] at hc62'
                              refine AC.skip ?_
                              refine block_ok ?_
                              refine then_ok ?_
                              refine AC.region ?_
                              refine AL.val (Wanted.plain rfl) (g_binI rfl rfl rfl (wrap_ok (by first | omega | (simp; done) | (simp; omega)))) rfl rfl ?_
                              refine AL.fast 1 rfl ?_
                              refine AL.nil ?_
                              refine then_ok ?_
                              have hO := Once.take hi0_1 hx2 hr8
                              rw [hc60] at hO
                              rw [if_neg (by decide)] at hO
                              have hW := Once.sub (way' := (way).take (Int.toNat (x1.at_))) hO (fun t ht => by first | exact List.mem_of_mem_take ht | (rcases List.mem_append.1 ht with hu | hu; exact List.mem_of_mem_take hu; exact List.mem_of_mem_drop (List.mem_of_mem_take hu)))
                              refine ⟨(true, q + 1, s, put, (way).take (Int.toNat (x1.at_)), got, n8), ⟨by omega, hW, by first | omega | (simp only [List.length_append, List.length_take, List.length_drop, List.length_cons, List.length_nil] at *; omega), by first | omega | (simp only [List.length_append, List.length_cons, List.length_nil]; omega)⟩, by first | omega | (simp; done) | (simp; omega), Weak.ren id (by refine ⟨?_, ?_, ?_, ?_, ?_, ?_, ?_, ?_,  trivial⟩ <;> first | rfl | (simp only [AV.map, GV.map, CV.map, AB.map', id]; done) | (congr 3; omega) | (congr 4; omega) | (simp only [List.length_append, List.length_cons, List.length_nil, List.length_set]; rfl) | (first | exact look_s rfl (by simp only [List.length_append, List.length_take, List.length_drop, List.length_cons, List.length_nil]; omega) | exact look_sx rfl (by simp only [List.length_append, List.length_take, List.length_drop, List.length_cons, List.length_nil]; omega) (by simp only [List.length_append, List.length_take, List.length_drop, List.length_cons, List.length_nil]; omega))) (by refine ⟨?_, ?_, ?_, ?_, ?_,  trivial⟩ <;> first | rfl | (simp only [AV.map, GV.map, CV.map, AB.map', id]; done) | (congr 3; omega) | (congr 4; omega) | (simp only [List.length_append, List.length_cons, List.length_nil, List.length_set]; rfl)) rfl⟩
                      ·
                        refine AC.weak (st' := ⟨[(3, (aC (.p 0 0 0 0))), (4, (aC (.s 1 0 4 put.length))), (5, (aC (.sx 2 0 4 way.length way.length false))), (6, (aC (.s 3 0 4 got.length))), (7, (aI seen)), (23, (aC (cR 3 ((l).map rAct)))), (24, (aI (↑l.length : Int))), (25, (aI (↑q : Int))), (9, (aC (.p 5 0 0 0))), (12, (aC (.p 6 0 0 0)))], [(6, (.box 60 [(cI x2.number), (cI x2.kind), (cI x2.auth), (cI x2.sum)])), (5, (.box 71 [(cI x1.kind), (cI x1.at_), (cI x1.sum)])), (4, (.arr 60 4 ((s.kept).map rTransfer))), (3, (.arr 60 4 ((got).map rTransfer))), (2, (.arr 60 4 ((way).map rTransfer))), (1, (.arr 60 4 ((put).map rTransfer))), (0, (.box 58 [(cI s.sent), (.s 4 0 4 s.kept.length)]))], 7⟩) (Weak.ren id (by refine ⟨?_, ?_, ?_, ?_, ?_, ?_, ?_, ?_, ?_, ?_,  trivial⟩ <;> first | rfl | (simp only [AV.map, GV.map, CV.map, AB.map', id]; done) | (congr 3; omega) | (congr 4; omega) | (simp only [List.length_append, List.length_cons, List.length_nil, List.length_set]; rfl)) (by refine ⟨?_, ?_, ?_, ?_, ?_, ?_, ?_,  trivial⟩ <;> first | rfl | (simp only [AV.map, GV.map, CV.map, AB.map', id]; done) | (congr 3; omega) | (congr 4; omega) | (simp only [List.length_append, List.length_cons, List.length_nil, List.length_set]; rfl)) rfl) ?_
                        refine AC.drawW [⟨some 82, (aC (.sx 2 0 4 way.length way.length false)), [], [], [], [(5, (aC (.sx 2 0 4 way.length way.length false)))], []⟩,
      ⟨some 83, (aC (.p 5 0 0 1)), [], [], [], [(9, (aC (.p 5 0 0 0)))], []⟩,
      ⟨some 84, (aI x1.at_), [], [], [1], [(83, (aC (.p 5 0 0 1)))], [(5, (.box 71 [(cI x1.kind), (cI x1.at_), (cI x1.sum)]))]⟩,
      ⟨some 85, (aC (.p 5 0 0 1)), [], [], [], [(9, (aC (.p 5 0 0 0)))], []⟩,
      ⟨some 86, (aI x1.at_), [], [], [3], [(85, (aC (.p 5 0 0 1)))], [(5, (.box 71 [(cI x1.kind), (cI x1.at_), (cI x1.sum)]))]⟩,
      ⟨some 87, (aC (.sx 2 0 4 (Int.toNat (x1.at_)) (Int.toNat (x1.at_)) false)), [], [], [4, 2, 0], [(82, (aC (.sx 2 0 4 way.length way.length false))), (84, (aI x1.at_)), (86, (aI x1.at_))], [(2, (.arr 60 4 ((way).map rTransfer)))]⟩,
      ⟨some 88, (aC (.sx 2 0 4 way.length way.length false)), [], [], [], [(5, (aC (.sx 2 0 4 way.length way.length false)))], []⟩,
      ⟨some 89, (aC (.p 5 0 0 1)), [], [], [], [(9, (aC (.p 5 0 0 0)))], []⟩,
      ⟨some 90, (aI x1.at_), [], [], [7], [(89, (aC (.p 5 0 0 1)))], [(5, (.box 71 [(cI x1.kind), (cI x1.at_), (cI x1.sum)]))]⟩,
      ⟨some 91, (aI (x1.at_ + 1)), [], [], [8], [(90, (aI x1.at_))], []⟩,
      ⟨some 92, (aC (.sx 2 (Int.toNat (x1.at_ + 1)) 4 (way.length - (Int.toNat (x1.at_ + 1))) (way.length - (Int.toNat (x1.at_ + 1))) false)), [], [], [9, 6], [(88, (aC (.sx 2 0 4 way.length way.length false))), (91, (aI (x1.at_ + 1)))], [(2, (.arr 60 4 ((way).map rTransfer)))]⟩,
      ⟨some 93, (aC (.s 7 0 4 ((Int.toNat (x1.at_)) + (way.length - (Int.toNat (x1.at_ + 1)))))), [(7, (.arr 60 4 (((way).take (Int.toNat (x1.at_)) ++ (((way).drop (Int.toNat (x1.at_ + 1))).take (way.length - (Int.toNat (x1.at_ + 1))))).map rTransfer)))], [], [10, 5], [(87, (aC (.sx 2 0 4 (Int.toNat (x1.at_)) (Int.toNat (x1.at_)) false))), (92, (aC (.sx 2 (Int.toNat (x1.at_ + 1)) 4 (way.length - (Int.toNat (x1.at_ + 1))) (way.length - (Int.toNat (x1.at_ + 1))) false)))], [(2, (.arr 60 4 ((way).map rTransfer)))]⟩,
      ⟨some 5, (aC (.s 7 0 4 ((Int.toNat (x1.at_)) + (way.length - (Int.toNat (x1.at_ + 1)))))), [], [], [11], [(93, (aC (.s 7 0 4 ((Int.toNat (x1.at_)) + (way.length - (Int.toNat (x1.at_ + 1)))))))], []⟩] ⟨[(3, (aC (.p 0 0 0 0))), (4, (aC (.s 1 0 4 put.length))), (5, (aC (.s 7 0 4 ((Int.toNat (x1.at_)) + (way.length - (Int.toNat (x1.at_ + 1))))))), (6, (aC (.s 3 0 4 got.length))), (7, (aI seen)), (23, (aC (cR 3 ((l).map rAct)))), (24, (aI (↑l.length : Int))), (25, (aI (↑q : Int))), (12, (aC (.p 6 0 0 0)))], [(7, (.arr 60 4 (((way).take (Int.toNat (x1.at_)) ++ (((way).drop (Int.toNat (x1.at_ + 1))).take (way.length - (Int.toNat (x1.at_ + 1))))).map rTransfer))), (6, (.box 60 [(cI x2.number), (cI x2.kind), (cI x2.auth), (cI x2.sum)])), (4, (.arr 60 4 ((s.kept).map rTransfer))), (3, (.arr 60 4 ((got).map rTransfer))), (1, (.arr 60 4 ((put).map rTransfer))), (0, (.box 58 [(cI s.sent), (.s 4 0 4 s.kept.length)]))], 8⟩ [12, 11, 10, 9, 8, 7, 6, 5, 4, 3, 2, 1, 0] mixed (by kernel_rfl) ?_ ?_ ?_ ?_
                        · exact ⟨.inl ⟨(Wanted.plain rfl), GOp.cast (g_move rfl rfl) rfl⟩,
      .inl ⟨(Wanted.plain rfl), GOp.cast (g_fieldP rfl rfl Try.underlying71 rfl sz3 (by decide)) rfl⟩,
      .inl ⟨(Wanted.plain rfl), GOp.cast (g_loadB rfl rfl rfl Try.underlying3 rfl rfl) rfl⟩,
      .inl ⟨(Wanted.plain rfl), GOp.cast (g_fieldP rfl rfl Try.underlying71 rfl sz3 (by decide)) rfl⟩,
      .inl ⟨(Wanted.plain rfl), GOp.cast (g_loadB rfl rfl rfl Try.underlying3 rfl rfl) rfl⟩,
      .inl ⟨(Wanted.plain rfl), GOp.cast (g_sliceX (l := 0) (h := Int.toNat (x1.at_)) (m := Int.toNat (x1.at_)) (n' := Int.toNat (x1.at_)) (c' := Int.toNat (x1.at_)) (E' := false) rfl Try.underlying56 sz60 rfl (.inl ⟨rfl, rfl⟩) (.inr ⟨_, rfl, (evI rfl (by first | omega | (simp; done) | (simp; omega)))⟩) (.inr ⟨_, rfl, (evI rfl (by first | omega | (simp; done) | (simp; omega)))⟩) (by first | omega | (simp; done) | (simp; omega)) (by first | omega | (simp; done) | (simp; omega)) (by first | omega | (simp; done) | (simp; omega)) (by first | omega | (simp; done) | (simp; omega)) (by first | omega | (simp; done) | (simp; omega)) (by simp)) rfl⟩,
      .inl ⟨(Wanted.plain rfl), GOp.cast (g_move rfl rfl) rfl⟩,
      .inl ⟨(Wanted.plain rfl), GOp.cast (g_fieldP rfl rfl Try.underlying71 rfl sz3 (by decide)) rfl⟩,
      .inl ⟨(Wanted.plain rfl), GOp.cast (g_loadB rfl rfl rfl Try.underlying3 rfl rfl) rfl⟩,
      .inl ⟨(Wanted.plain rfl), GOp.cast (g_binI rfl rfl rfl (wrap_ok (by first | omega | (simp; done) | (simp; omega)))) rfl⟩,
      .inl ⟨(Wanted.plain rfl), GOp.cast (GOp.cast (g_sliceX (l := Int.toNat (x1.at_ + 1)) (h := way.length) (m := way.length) (n' := way.length - (Int.toNat (x1.at_ + 1))) (c' := way.length - (Int.toNat (x1.at_ + 1))) (E' := false) rfl Try.underlying56 sz60 rfl (.inr ⟨_, rfl, (evI rfl (by first | omega | (simp; done) | (simp; omega)))⟩) (.inl ⟨rfl, rfl, rfl⟩) (.inl ⟨rfl, rfl⟩) (by first | omega | (simp; done) | (simp; omega)) (by first | omega | (simp; done) | (simp; omega)) (by first | omega | (simp; done) | (simp; omega)) (by first | omega | (simp; done) | (simp; omega)) (by first | omega | (simp; done) | (simp; omega)) (by simp)) (show _ = (aC (.sx 2 (Int.toNat (x1.at_ + 1)) 4 (way.length - (Int.toNat (x1.at_ + 1))) (way.length - (Int.toNat (x1.at_ + 1))) false)) by first | rfl | (simp only [Nat.zero_add, Nat.add_zero]; rfl))) rfl⟩,
      .inl ⟨(Wanted.plain rfl), GOp.cast (g_appG (m := way.length - (Int.toNat (x1.at_ + 1))) (N := (Int.toNat (x1.at_)) + (way.length - (Int.toNat (x1.at_ + 1)))) (ys := (((way).drop (Int.toNat (x1.at_ + 1))).take (way.length - (Int.toNat (x1.at_ + 1)))).map rTransfer) (rows' := ((way).take (Int.toNat (x1.at_)) ++ (((way).drop (Int.toNat (x1.at_ + 1))).take (way.length - (Int.toNat (x1.at_ + 1))))).map rTransfer) 7 sl56 zv60 rfl rfl rfl rfl rfl rfl rfl rfl rfl (.x rfl (by first | omega | (simp; done) | (simp; omega)) (by first | omega | (simp; done) | (simp; omega)) (by first | (simp [List.map_take, List.map_drop]; done) | (rw [List.map_take]; rfl))) (by first | omega | (simp; done) | (simp; omega)) (by first | omega | (simp; done) | (simp; omega)) (by first | omega | (simp; done) | (simp; omega)) (by first | omega | (simp; done) | (simp; omega)) (by first | omega | (simp; done) | (simp; omega)) (by first | omega | (simp; done) | (simp; omega)) (by first | (simp [List.map_take, List.map_drop]; done) | (rw [List.map_append, List.map_take, List.map_take]))) rfl⟩,
      .inl ⟨(Wanted.plain rfl), GOp.cast (g_assign rfl rfl) rfl⟩,
       trivial⟩
                        · exact ⟨⟨⟨rfl,  trivial⟩, trivial⟩, ⟨⟨rfl,  trivial⟩, trivial⟩, ⟨⟨⟨_, rfl, rfl, rfl⟩,  trivial⟩, ⟨rfl,  trivial⟩⟩, ⟨⟨rfl,  trivial⟩, trivial⟩, ⟨⟨⟨_, rfl, rfl, rfl⟩,  trivial⟩, ⟨rfl,  trivial⟩⟩, ⟨⟨⟨_, rfl, rfl, rfl⟩, ⟨_, rfl, rfl, rfl⟩, ⟨_, rfl, rfl, rfl⟩,  trivial⟩, ⟨rfl,  trivial⟩⟩, ⟨⟨rfl,  trivial⟩, trivial⟩, ⟨⟨rfl,  trivial⟩, trivial⟩, ⟨⟨⟨_, rfl, rfl, rfl⟩,  trivial⟩, ⟨rfl,  trivial⟩⟩, ⟨⟨⟨_, rfl, rfl, rfl⟩,  trivial⟩, trivial⟩, ⟨⟨⟨_, rfl, rfl, rfl⟩, ⟨_, rfl, rfl, rfl⟩,  trivial⟩, ⟨rfl,  trivial⟩⟩, ⟨⟨⟨_, rfl, rfl, rfl⟩, ⟨_, rfl, rfl, rfl⟩,  trivial⟩, ⟨rfl,  trivial⟩⟩, ⟨⟨⟨_, rfl, rfl, rfl⟩,  trivial⟩, trivial⟩,  trivial⟩
                        · exact ⟨⟨rfl, rfl, ⟨_, rfl, rfl, rfl⟩, rfl, rfl, rfl, rfl, rfl, rfl,  trivial⟩, ⟨⟨_, rfl, .head _⟩, rfl, rfl, rfl, rfl, rfl,  trivial⟩⟩
                        ·
                          refine then_ok ?_
                          refine AC.seq ?_
                          refine AC.region ?_
                          refine AL.fast 1 rfl ?_
                          refine AL.val (Wanted.plain rfl) (g_loadBs rfl rfl rfl Try.underlying60 rfl sz60 rfl rfl) rfl rfl ?_
                          obtain ⟨n9, ok9, hr9⟩ : ∃ (n9 : Int) (ok9 : Bool), takeS seen x2 = (n9, ok9) := ⟨_, _, rfl⟩
                          refine AL.call (n' := 8) (h' := [(7, (.arr 60 4 (((way).take (Int.toNat (x1.at_)) ++ (((way).drop (Int.toNat (x1.at_ + 1))).take (way.length - (Int.toNat (x1.at_ + 1))))).map rTransfer))), (6, (.box 60 [(cI x2.number), (cI x2.kind), (cI x2.auth), (cI x2.sum)])), (4, (.arr 60 4 ((s.kept).map rTransfer))), (3, (.arr 60 4 ((got).map rTransfer))), (1, (.arr 60 4 ((put).map rTransfer))), (0, (.box 58 [(cI s.sent), (.s 4 0 4 s.kept.length)]))]) (Wanted.plain rfl) (g_call 8 (c_post_Take seen x2  n9 ok9 hr9) en55 rfl rfl ⟨⟨_, rfl, .c (.d _)⟩, ⟨_, rfl, .g ⟨.d _, .d _, .d _, .d _,  trivial⟩⟩,  trivial⟩ ⟨trivial, trivial,  trivial⟩ trivial rfl rfl rfl rfl) rfl rfl rfl rfl rfl ?_
                          refine AL.fast 1 rfl ?_
                          refine AL.val (Wanted.plain rfl) (g_extract rfl rfl rfl) rfl rfl ?_
                          refine AL.val (Wanted.plain rfl) (g_extract rfl rfl rfl) rfl rfl ?_
                          refine AL.fast 2 rfl ?_
                          refine AL.nil ?_
                          refine then_ok ?_
                          refine AC.seq ?_
                          refine AC.seq ?_
                          refine AC.region ?_
                          refine AL.fast 1 rfl ?_
                          refine AL.nil ?_
                          refine then_ok ?_
                          refine AC.cond rfl (fun hc63 => ?_) (fun hc63 => ?_)
                          ·
                            have hc63' := hc63; try simp only [sumB, Bool.not_eq_true', Bool.not_eq_false', Bool.or_eq_true, Bool.or_eq_false_iff, Bool.and_eq_true, Bool.and_eq_false_imp, decide_eq_true_eq, decide_eq_false_iff_not, Bool.not_not, Bool.not_true, Bool.not_false] at hc63'
                            refine AC.region ?_
                            refine AL.fast 1 rfl ?_
                            refine AL.val (Wanted.plain rfl) (g_loadBs rfl rfl rfl Try.underlying60 rfl sz60 rfl rfl) rfl rfl ?_
                            refine AL.new (n' := 9) (Wanted.plain rfl) (g_lit (ys := [(0, (.g [(cI x2.number), (cI x2.kind), (cI x2.auth), (cI x2.sum)]))]) (rows := ([x2]).map rTransfer) 8 sl56 rfl (by decide) ⟨⟨rfl, rfl⟩,  trivial⟩ rfl rfl rfl rfl) rfl rfl rfl ?_
                            refine AL.eat (n' := 10) (h' := [(9, (.arr 60 4 ((got ++ ([x2])).map rTransfer))), (8, (.arr 60 4 (([x2]).map rTransfer))), (7, (.arr 60 4 (((way).take (Int.toNat (x1.at_)) ++ (((way).drop (Int.toNat (x1.at_ + 1))).take (way.length - (Int.toNat (x1.at_ + 1))))).map rTransfer))), (6, (.box 60 [(cI x2.number), (cI x2.kind), (cI x2.auth), (cI x2.sum)])), (4, (.arr 60 4 ((s.kept).map rTransfer))), (1, (.arr 60 4 ((put).map rTransfer))), (0, (.box 58 [(cI s.sent), (.s 4 0 4 s.kept.length)]))]) (Wanted.plain rfl) (g_append (m := 1) (N := got.length + 1) (k2 := 9) (ys := ([x2]).map rTransfer) sl56 rfl rfl rfl rfl rfl rfl (by first | omega | (simp; done) | (simp; omega)) rfl (.s rfl (by first | omega | (simp; done) | (simp; omega))) (by first | omega | (simp; done) | (simp; omega)) (by first | omega | (simp; done) | (simp; omega)) appmap (by decide) (by first | omega | (simp; done) | (simp; omega)) (by first | omega | (simp; done) | (simp; omega))) rfl rfl rfl rfl rfl ?_
                            refine AL.fast 1 rfl ?_
                            refine AL.nil ?_
                            refine then_ok ?_
                            refine AC.region ?_
                            refine AL.fast 2 rfl ?_
                            refine AL.nil ?_
                            refine block_ok ?_
                            refine then_ok ?_
                            refine AC.seq ?_
                            refine AC.region ?_
                            refine AL.fast 1 rfl ?_
                            refine AL.val (Wanted.plain rfl) (g_lenS rfl rfl rfl rfl rfl Try.underlying56) rfl rfl ?_
                            refine AL.val (Wanted.plain rfl) (g_binI rfl rfl rfl rfl) rfl rfl ?_
                            refine AL.nil ?_
                            refine then_ok ?_
                            refine AC.cond rfl (fun hc64 => ?_) (fun hc64 => ?_)
                            ·
                              have hc64' := hc64; try simp only [sumB, Bool.not_eq_true', Bool.not_eq_false', Bool.or_eq_true, Bool.or_eq_false_iff, Bool.and_eq_true, Bool.and_eq_false_imp, decide_eq_true_eq, decide_eq_false_iff_not, Bool.not_not, Bool.not_true, Bool.not_false] at hc64'
                              refine AC.seq ?_
                              refine AC.region ?_
                              refine AL.fast 1 rfl ?_
                              refine AL.nil ?_
                              refine then_ok ?_
                              refine AC.ret ?_
                              refine block_ret ?_
                              refine then_ret ?_
                              refine then_ret ?_
                              refine block_ret ?_
                              refine then_ret ?_
                              refine retQ_mk (av' := outOf [(.c (cB true))]) (nb' := []) (retQ_ret ⟨[(2, (aB true))], [], 0⟩ [.tmp 2] [(.c (cB true))] (Weak.ren id (⟨by first | rfl | (simp only [AV.map, GV.map, CV.map, AB.map', id]; done) | (congr 3; omega) | (congr 4; omega) | (simp only [List.length_append, List.length_cons, List.length_nil, List.length_set]; rfl), trivial⟩) (trivial) rfl) rfl ⟨.tmp rfl, trivial⟩ trivial) ?_ ?_
                              · rfl
                              · rfl
                            ·
                              have hc64' := hc64; try simp only [sumB, Bool.not_eq_true', Bool.not_eq_false', Bool.or_eq_true, Bool.or_eq_false_iff, Bool.and_eq_true, Bool.and_eq_false_imp, decide_eq_true_eq, decide_eq_false_iff_not, Bool.not_not, Bool.not_true, Bool.not_false] at hc64'
                              refine AC.skip ?_
                              refine block_ok ?_
                              refine then_ok ?_
                              refine AC.region ?_
                              refine AL.val (Wanted.plain rfl) (g_binI rfl rfl rfl (wrap_ok (by first | omega | (simp; done) | (simp; omega)))) rfl rfl ?_
                              refine AL.fast 1 rfl ?_
                              refine AL.nil ?_
                              refine then_ok ?_
                              have hO := Once.take hi0_1 hx2 hr9
                              rw [hc63] at hO
                              rw [if_pos rfl] at hO
                              have hW := Once.sub (way' := (way).take (Int.toNat (x1.at_)) ++ (((way).drop (Int.toNat (x1.at_ + 1))).take (way.length - (Int.toNat (x1.at_ + 1))))) hO (fun t ht => by first | exact List.mem_of_mem_take ht | (rcases List.mem_append.1 ht with hu | hu; exact List.mem_of_mem_take hu; exact List.mem_of_mem_drop (List.mem_of_mem_take hu)))
                              refine ⟨(false, q + 1, s, put, (way).take (Int.toNat (x1.at_)) ++ (((way).drop (Int.toNat (x1.at_ + 1))).take (way.length - (Int.toNat (x1.at_ + 1)))), got ++ ([x2]), n9), ⟨by omega, hW, by first | omega | (simp only [List.length_append, List.length_take, List.length_drop, List.length_cons, List.length_nil] at *; omega), by first | omega | (simp only [List.length_append, List.length_cons, List.length_nil]; omega)⟩, by first | omega | (simp; done) | (simp; omega), Weak.ren (fun k => if k = 3 then 9 else if k = 2 then 7 else k) (by refine ⟨?_, ?_, ?_, ?_, ?_, ?_, ?_, ?_,  trivial⟩ <;> first | rfl | (simp only [AV.map, GV.map, CV.map, AB.map', id]; done) | (congr 3; omega) | (congr 4; omega) | (simp only [List.length_append, List.length_cons, List.length_nil, List.length_set]; rfl) | (first | exact look_s rfl (by simp only [List.length_append, List.length_take, List.length_drop, List.length_cons, List.length_nil]; omega) | exact look_sx rfl (by simp only [List.length_append, List.length_take, List.length_drop, List.length_cons, List.length_nil]; omega) (by simp only [List.length_append, List.length_take, List.length_drop, List.length_cons, List.length_nil]; omega))) (by refine ⟨?_, ?_, ?_, ?_, ?_,  trivial⟩ <;> first | rfl | (simp only [AV.map, GV.map, CV.map, AB.map', id]; done) | (congr 3; omega) | (congr 4; omega) | (simp only [List.length_append, List.length_cons, List.length_nil, List.length_set]; rfl)) rfl⟩
                          ·
                            have hc63' := hc63; try simp only [sumB, Bool.not_eq_true', Bool.not_eq_false', Bool.or_eq_true, Bool.or_eq_false_iff, Bool.and_eq_true, Bool.and_eq_false_imp, decide_eq_true_eq, decide_eq_false_iff_not, Bool.not_not, Bool.not_true, Bool.not_false] at hc63'
                            refine AC.skip ?_
                            refine then_ok ?_
                            refine AC.region ?_
                            refine AL.fast 2 rfl ?_
                            refine AL.nil ?_
                            refine block_ok ?_
                            refine then_ok ?_
                            refine AC.seq ?_
                            refine AC.region ?_
                            refine AL.fast 1 rfl ?_
                            refine AL.val (Wanted.plain rfl) (g_lenS rfl rfl rfl rfl rfl Try.underlying56) rfl rfl ?_
                            refine AL.val (Wanted.plain rfl) (g_binI rfl rfl rfl rfl) rfl rfl ?_
                            refine AL.nil ?_
                            refine then_ok ?_
                            refine AC.cond rfl (fun hc65 => ?_) (fun hc65 => ?_)
                            ·
                              have hc65' := hc65; try simp only [sumB, Bool.not_eq_true', Bool.not_eq_false', Bool.or_eq_true, Bool.or_eq_false_iff, Bool.and_eq_true, Bool.and_eq_false_imp, decide_eq_true_eq, decide_eq_false_iff_not, Bool.not_not, Bool.not_true, Bool.not_false] at hc65'
                              refine AC.seq ?_
                              refine AC.region ?_
                              refine AL.fast 1 rfl ?_
                              refine AL.nil ?_
                              refine then_ok ?_
                              refine AC.ret ?_
                              refine block_ret ?_
                              refine then_ret ?_
                              refine then_ret ?_
                              refine block_ret ?_
                              refine then_ret ?_
                              refine retQ_mk (av' := outOf [(.c (cB true))]) (nb' := []) (retQ_ret ⟨[(2, (aB true))], [], 0⟩ [.tmp 2] [(.c (cB true))] (Weak.ren id (⟨by first | rfl | (simp only [AV.map, GV.map, CV.map, AB.map', id]; done) | (congr 3; omega) | (congr 4; omega) | (simp only [List.length_append, List.length_cons, List.length_nil, List.length_set]; rfl), trivial⟩) (trivial) rfl) rfl ⟨.tmp rfl, trivial⟩ trivial) ?_ ?_
                              · rfl
                              · rfl
                            ·
                              have hc65' := hc65; try simp only [sumB, Bool.not_eq_true', Bool.not_eq_false', Bool.or_eq_true, Bool.or_eq_false_iff, Bool.and_eq_true, Bool.and_eq_false_imp, decide_eq_true_eq, decide_eq_false_iff_not, Bool.not_not, Bool.not_true, Bool.not_false] at hc65'
                              refine AC.skip ?_
                              refine block_ok ?_
                              refine then_ok ?_
                              refine AC.region ?_
                              refine AL.val (Wanted.plain rfl) (g_binI rfl rfl rfl (wrap_ok (by first | omega | (simp; done) | (simp; omega)))) rfl rfl ?_
                              refine AL.fast 1 rfl ?_
                              refine AL.nil ?_
                              refine then_ok ?_
                              have hO := Once.take hi0_1 hx2 hr9
                              rw [hc63] at hO
                              rw [if_neg (by decide)] at hO
                              have hW := Once.sub (way' := (way).take (Int.toNat (x1.at_)) ++ (((way).drop (Int.toNat (x1.at_ + 1))).take (way.length - (Int.toNat (x1.at_ + 1))))) hO (fun t ht => by first | exact List.mem_of_mem_take ht | (rcases List.mem_append.1 ht with hu | hu; exact List.mem_of_mem_take hu; exact List.mem_of_mem_drop (List.mem_of_mem_take hu)))
                              refine ⟨(false, q + 1, s, put, (way).take (Int.toNat (x1.at_)) ++ (((way).drop (Int.toNat (x1.at_ + 1))).take (way.length - (Int.toNat (x1.at_ + 1)))), got, n9), ⟨by omega, hW, by first | omega | (simp only [List.length_append, List.length_take, List.length_drop, List.length_cons, List.length_nil] at *; omega), by first | omega | (simp only [List.length_append, List.length_cons, List.length_nil]; omega)⟩, by first | omega | (simp; done) | (simp; omega), Weak.ren (fun k => if k = 2 then 7 else k) (by refine ⟨?_, ?_, ?_, ?_, ?_, ?_, ?_, ?_,  trivial⟩ <;> first | rfl | (simp only [AV.map, GV.map, CV.map, AB.map', id]; done) | (congr 3; omega) | (congr 4; omega) | (simp only [List.length_append, List.length_cons, List.length_nil, List.length_set]; rfl) | (first | exact look_s rfl (by simp only [List.length_append, List.length_take, List.length_drop, List.length_cons, List.length_nil]; omega) | exact look_sx rfl (by simp only [List.length_append, List.length_take, List.length_drop, List.length_cons, List.length_nil]; omega) (by simp only [List.length_append, List.length_take, List.length_drop, List.length_cons, List.length_nil]; omega))) (by refine ⟨?_, ?_, ?_, ?_, ?_,  trivial⟩ <;> first | rfl | (simp only [AV.map, GV.map, CV.map, AB.map', id]; done) | (congr 3; omega) | (congr 4; omega) | (simp only [List.length_append, List.length_cons, List.length_nil, List.length_set]; rfl)) rfl⟩
                ·
                  have hc55' := hc55; try simp only [sumB, Bool.not_eq_true', Bool.not_eq_false', Bool.or_eq_true, Bool.or_eq_false_iff, Bool.and_eq_true, Bool.and_eq_false_imp, decide_eq_true_eq, decide_eq_false_iff_not, Bool.not_not, Bool.not_true, Bool.not_false] at hc55'
                  refine AC.seq ?_
                  refine AC.region ?_
                  refine AL.val (Wanted.plain rfl) (g_binI rfl rfl rfl rfl) rfl rfl ?_
                  refine AL.fast 1 rfl ?_
                  refine AL.nil ?_
                  refine then_ok ?_
                  refine AC.cond rfl (fun hc66 => ?_) (fun hc66 => ?_)
                  ·
                    have hc66' := hc66; try simp only [sumB, Bool.not_eq_true', Bool.not_eq_false', Bool.or_eq_true, Bool.or_eq_false_iff, Bool.and_eq_true, Bool.and_eq_false_imp, decide_eq_true_eq, decide_eq_false_iff_not, Bool.not_not, Bool.not_true, Bool.not_false] at hc66'
                    refine AC.seq ?_
                    refine AC.region ?_
                    refine AL.val (Wanted.plain rfl) (g_loadBs rfl rfl rfl Try.underlying58 rfl sz58 rfl rfl) rfl rfl ?_
                    refine AL.fast 1 rfl ?_
                    obtain ⟨x10, e10, hr10⟩ : ∃ (x10 : Sender) (e10 : Int), backS s seen = (x10, e10) := ⟨_, _, rfl⟩
                    refine AL.call (n' := 7) (h' := [(6, (.arr 60 4 ((x10.kept).map rTransfer))), (5, (.box 71 [(cI x1.kind), (cI x1.at_), (cI x1.sum)])), (4, (.arr 60 4 ((s.kept).map rTransfer))), (3, (.arr 60 4 ((got).map rTransfer))), (2, (.arr 60 4 ((way).map rTransfer))), (1, (.arr 60 4 ((put).map rTransfer))), (0, (.box 58 [(cI s.sent), (.s 4 0 4 s.kept.length)]))]) (Wanted.plain rfl) (g_callE 6 [4] (c_post_Back s seen (by first | assumption | exact inI_out (by assumption) (by omega) | exact inI_back (by assumption) (by assumption) | (simp [InI]; done)) x10 e10 hr10) en53 rfl rfl ⟨⟨_, rfl, .g ⟨.d _, .s rfl (by decide) (by first | omega | (simp; done) | (simp; omega)),  trivial⟩⟩, ⟨_, rfl, .c (.d _)⟩,  trivial⟩ ⟨⟨rfl, trivial,  trivial⟩, rfl,  trivial⟩ ⟨(isv_rTransfer _),  trivial⟩ rfl rfl rfl rfl) rfl rfl rfl rfl rfl ?_
                    refine AL.fast 1 rfl ?_
                    refine AL.val (Wanted.plain rfl) (g_extract rfl rfl rfl) rfl rfl ?_
                    refine AL.val (Wanted.plain rfl) (g_extract rfl rfl rfl) rfl rfl ?_
                    refine AL.new (n' := 8) (Wanted.plain rfl) (g_alloc 7 rfl zv58 rfl rfl rfl) rfl rfl rfl ?_
                    refine AL.sto (h' := [(7, (.box 58 [(cI x10.sent), (.s 6 0 4 x10.kept.length)])), (6, (.arr 60 4 ((x10.kept).map rTransfer))), (5, (.box 71 [(cI x1.kind), (cI x1.at_), (cI x1.sum)])), (4, (.arr 60 4 ((s.kept).map rTransfer))), (3, (.arr 60 4 ((got).map rTransfer))), (2, (.arr 60 4 ((way).map rTransfer))), (1, (.arr 60 4 ((put).map rTransfer))), (0, (.box 58 [(cI s.sent), (.s 4 0 4 s.kept.length)]))]) (Wanted.plain rfl) (g_storeB rfl rfl rfl rfl rfl sz58 rfl (Nat.le_of_ble_eq_true rfl) rfl) rfl rfl rfl rfl ?_
                    refine AL.fast 1 rfl ?_
                    refine AL.nil ?_
                    refine then_ok ?_
                    refine AC.seq ?_
                    refine AC.seq ?_
                    refine AC.region ?_
                    refine AL.fast 1 rfl ?_
                    refine AL.val (Wanted.plain rfl) (g_binI rfl rfl rfl rfl) rfl rfl ?_
                    refine AL.nil ?_
                    refine then_ok ?_
                    refine AC.cond rfl (fun hc67 => ?_) (fun hc67 => ?_)
                    ·
                      have hc67' := hc67; try simp only [sumB, Bool.not_eq_true', Bool.not_eq_false', Bool.or_eq_true, Bool.or_eq_false_iff, Bool.and_eq_true, Bool.and_eq_false_imp, decide_eq_true_eq, decide_eq_false_iff_not, Bool.not_not, Bool.not_true, Bool.not_false] at hc67'
                      refine AC.seq ?_
                      refine AC.region ?_
                      refine AL.fast 1 rfl ?_
                      refine AL.nil ?_
                      refine then_ok ?_
                      refine AC.ret ?_
                      refine then_ret ?_
                      refine block_ret ?_
                      refine then_ret ?_
                      refine block_ret ?_
                      refine then_ret ?_
                      refine then_ret ?_
                      refine block_ret ?_
                      refine then_ret ?_
                      refine retQ_mk (av' := outOf [(.c (cB false))]) (nb' := []) (retQ_ret ⟨[(2, (aB false))], [], 0⟩ [.tmp 2] [(.c (cB false))] (Weak.ren id (⟨by first | rfl | (simp only [AV.map, GV.map, CV.map, AB.map', id]; done) | (congr 3; omega) | (congr 4; omega) | (simp only [List.length_append, List.length_cons, List.length_nil, List.length_set]; rfl), trivial⟩) (trivial) rfl) rfl ⟨.tmp rfl, trivial⟩ trivial) ?_ ?_
                      · exact congrArg aB (show (false) = true by (exfalso; have := (Once.back hi0_1 hr10).1; omega))
                      · rfl
                    ·
                      have hc67' := hc67; try simp only [sumB, Bool.not_eq_true', Bool.not_eq_false', Bool.or_eq_true, Bool.or_eq_false_iff, Bool.and_eq_true, Bool.and_eq_false_imp, decide_eq_true_eq, decide_eq_false_iff_not, Bool.not_not, Bool.not_true, Bool.not_false] at hc67'
                      refine AC.skip ?_
                      refine then_ok ?_
                      refine AC.region ?_
                      refine AL.val (Wanted.plain rfl) (g_loadBs rfl rfl rfl Try.underlying58 rfl sz58 rfl rfl) rfl rfl ?_
                      refine AL.sto (h' := [(7, (.box 58 [(cI x10.sent), (.s 6 0 4 x10.kept.length)])), (6, (.arr 60 4 ((x10.kept).map rTransfer))), (5, (.box 71 [(cI x1.kind), (cI x1.at_), (cI x1.sum)])), (4, (.arr 60 4 ((s.kept).map rTransfer))), (3, (.arr 60 4 ((got).map rTransfer))), (2, (.arr 60 4 ((way).map rTransfer))), (1, (.arr 60 4 ((put).map rTransfer))), (0, (.box 58 [(cI x10.sent), (.s 6 0 4 x10.kept.length)]))]) (Wanted.plain rfl) (g_storeB rfl rfl rfl rfl rfl sz58 rfl (Nat.le_of_ble_eq_true rfl) rfl) rfl rfl rfl rfl ?_
                      refine AL.nil ?_
                      refine block_ok ?_
                      refine then_ok ?_
                      refine AC.seq ?_
                      refine AC.region ?_
                      refine AL.fast 1 rfl ?_
                      refine AL.val (Wanted.plain rfl) (g_lenX Try.underlying56 rfl rfl rfl rfl rfl) rfl rfl ?_
                      refine AL.val (Wanted.plain rfl) (g_binI rfl rfl rfl rfl) rfl rfl ?_
                      refine AL.nil ?_
                      refine then_ok ?_
                      refine AC.cond rfl (fun hc68 => ?_) (fun hc68 => ?_)
                      ·
                        have hc68' := hc68; try simp only [sumB, Bool.not_eq_true', Bool.not_eq_false', Bool.or_eq_true, Bool.or_eq_false_iff, Bool.and_eq_true, Bool.and_eq_false_imp, decide_eq_true_eq, decide_eq_false_iff_not, Bool.not_not, Bool.not_true, Bool.not_false] at hc68'
                        refine AC.seq ?_
                        refine AC.region ?_
                        refine AL.fast 1 rfl ?_
                        refine AL.nil ?_
                        refine then_ok ?_
                        refine AC.ret ?_
                        refine block_ret ?_
                        refine then_ret ?_
                        refine then_ret ?_
                        refine block_ret ?_
                        refine then_ret ?_
                        refine retQ_mk (av' := outOf [(.c (cB true))]) (nb' := []) (retQ_ret ⟨[(2, (aB true))], [], 0⟩ [.tmp 2] [(.c (cB true))] (Weak.ren id (⟨by first | rfl | (simp only [AV.map, GV.map, CV.map, AB.map', id]; done) | (congr 3; omega) | (congr 4; omega) | (simp only [List.length_append, List.length_cons, List.length_nil, List.length_set]; rfl), trivial⟩) (trivial) rfl) rfl ⟨.tmp rfl, trivial⟩ trivial) ?_ ?_
                        · rfl
                        · rfl
                      ·
                        have hc68' := hc68; try simp only [sumB, Bool.not_eq_true', Bool.not_eq_false', Bool.or_eq_true, Bool.or_eq_false_iff, Bool.and_eq_true, Bool.and_eq_false_imp, decide_eq_true_eq, decide_eq_false_iff_not, Bool.not_not, Bool.not_true, Bool.not_false] at hc68'
                        refine AC.skip ?_
                        refine block_ok ?_
                        refine then_ok ?_
                        refine AC.region ?_
                        refine AL.val (Wanted.plain rfl) (g_binI rfl rfl rfl (wrap_ok (by first | omega | (simp; done) | (simp; omega)))) rfl rfl ?_
                        refine AL.fast 1 rfl ?_
                        refine AL.nil ?_
                        refine then_ok ?_
                        have hO := (Once.back hi0_1 hr10).2
                        refine ⟨(true, q + 1, x10, put, way, got, seen), ⟨by omega, hO, by first | omega | (simp only [List.length_append, List.length_take, List.length_drop, List.length_cons, List.length_nil] at *; omega), by first | omega | (simp only [List.length_append, List.length_cons, List.length_nil]; omega)⟩, by first | omega | (simp; done) | (simp; omega), Weak.ren (fun k => if k = 4 then 6 else k) (by refine ⟨?_, ?_, ?_, ?_, ?_, ?_, ?_, ?_,  trivial⟩ <;> first | rfl | (simp only [AV.map, GV.map, CV.map, AB.map', id]; done) | (congr 3; omega) | (congr 4; omega) | (simp only [List.length_append, List.length_cons, List.length_nil, List.length_set]; rfl) | (first | exact look_s rfl (by simp only [List.length_append, List.length_take, List.length_drop, List.length_cons, List.length_nil]; omega) | exact look_sx rfl (by simp only [List.length_append, List.length_take, List.length_drop, List.length_cons, List.length_nil]; omega) (by simp only [List.length_append, List.length_take, List.length_drop, List.length_cons, List.length_nil]; omega))) (by refine ⟨?_, ?_, ?_, ?_, ?_,  trivial⟩ <;> first | rfl | (simp only [AV.map, GV.map, CV.map, AB.map', id]; done) | (congr 3; omega) | (congr 4; omega) | (simp only [List.length_append, List.length_cons, List.length_nil, List.length_set]; rfl)) rfl⟩
                  ·
                    have hc66' := hc66; try simp only [sumB, Bool.not_eq_true', Bool.not_eq_false', Bool.or_eq_true, Bool.or_eq_false_iff, Bool.and_eq_true, Bool.and_eq_false_imp, decide_eq_true_eq, decide_eq_false_iff_not, Bool.not_not, Bool.not_true, Bool.not_false] at hc66'
                    refine AC.skip ?_
                    refine block_ok ?_
                    refine then_ok ?_
                    refine AC.seq ?_
                    refine AC.region ?_
                    refine AL.fast 1 rfl ?_
                    refine AL.val (Wanted.plain rfl) (g_lenX Try.underlying56 rfl rfl rfl rfl rfl) rfl rfl ?_
                    refine AL.val (Wanted.plain rfl) (g_binI rfl rfl rfl rfl) rfl rfl ?_
                    refine AL.nil ?_
                    refine then_ok ?_
                    refine AC.cond rfl (fun hc69 => ?_) (fun hc69 => ?_)
                    ·
                      have hc69' := hc69; try simp only [sumB, Bool.not_eq_true', Bool.not_eq_false', Bool.or_eq_true, Bool.or_eq_false_iff, Bool.and_eq_true, Bool.and_eq_false_imp, decide_eq_true_eq, decide_eq_false_iff_not, Bool.not_not, Bool.not_true, Bool.not_false] at hc69'
                      refine AC.seq ?_
                      refine AC.region ?_
                      refine AL.fast 1 rfl ?_
                      refine AL.nil ?_
                      refine then_ok ?_
                      refine AC.ret ?_
                      refine block_ret ?_
                      refine then_ret ?_
                      refine then_ret ?_
                      refine block_ret ?_
                      refine then_ret ?_
                      refine retQ_mk (av' := outOf [(.c (cB true))]) (nb' := []) (retQ_ret ⟨[(2, (aB true))], [], 0⟩ [.tmp 2] [(.c (cB true))] (Weak.ren id (⟨by first | rfl | (simp only [AV.map, GV.map, CV.map, AB.map', id]; done) | (congr 3; omega) | (congr 4; omega) | (simp only [List.length_append, List.length_cons, List.length_nil, List.length_set]; rfl), trivial⟩) (trivial) rfl) rfl ⟨.tmp rfl, trivial⟩ trivial) ?_ ?_
                      · rfl
                      · rfl
                    ·
                      have hc69' := hc69; try simp only [sumB, Bool.not_eq_true', Bool.not_eq_false', Bool.or_eq_true, Bool.or_eq_false_iff, Bool.and_eq_true, Bool.and_eq_false_imp, decide_eq_true_eq, decide_eq_false_iff_not, Bool.not_not, Bool.not_true, Bool.not_false] at hc69'
                      refine AC.skip ?_
                      refine block_ok ?_
                      refine then_ok ?_
                      refine AC.region ?_
                      refine AL.val (Wanted.plain rfl) (g_binI rfl rfl rfl (wrap_ok (by first | omega | (simp; done) | (simp; omega)))) rfl rfl ?_
                      refine AL.fast 1 rfl ?_
                      refine AL.nil ?_
                      refine then_ok ?_
                      refine ⟨(true, q + 1, s, put, way, got, seen), ⟨by omega, hi0_1, by first | omega | (simp only [List.length_append, List.length_take, List.length_drop, List.length_cons, List.length_nil] at *; omega), by first | omega | (simp only [List.length_append, List.length_cons, List.length_nil]; omega)⟩, by first | omega | (simp; done) | (simp; omega), Weak.ren id (by refine ⟨?_, ?_, ?_, ?_, ?_, ?_, ?_, ?_,  trivial⟩ <;> first | rfl | (simp only [AV.map, GV.map, CV.map, AB.map', id]; done) | (congr 3; omega) | (congr 4; omega) | (simp only [List.length_append, List.length_cons, List.length_nil, List.length_set]; rfl) | (first | exact look_s rfl (by simp only [List.length_append, List.length_take, List.length_drop, List.length_cons, List.length_nil]; omega) | exact look_sx rfl (by simp only [List.length_append, List.length_take, List.length_drop, List.length_cons, List.length_nil]; omega) (by simp only [List.length_append, List.length_take, List.length_drop, List.length_cons, List.length_nil]; omega))) (by refine ⟨?_, ?_, ?_, ?_, ?_,  trivial⟩ <;> first | rfl | (simp only [AV.map, GV.map, CV.map, AB.map', id]; done) | (congr 3; omega) | (congr 4; omega) | (simp only [List.length_append, List.length_cons, List.length_nil, List.length_set]; rfl)) rfl⟩
        ·
          have hc38' := hc38; try simp only [sumB, Bool.not_eq_true', Bool.not_eq_false', Bool.or_eq_true, Bool.or_eq_false_iff, Bool.and_eq_true, Bool.and_eq_false_imp, decide_eq_true_eq, decide_eq_false_iff_not, Bool.not_not, Bool.not_true, Bool.not_false] at hc38'
          refine AC.exit ?_
          refine then_exit ?_
          refine then_exit ?_
          refine block_hit ?_
          refine then_ok ?_
          refine AC.seq ?_
          obtain ⟨f11, hr11⟩ : ∃ (f11 : Fault), wrongSF s = f11 := ⟨_, rfl⟩
          refine AC.cutB 137 (((decide (¬ (↑got.length : Int) = seen)) || (decide ((↑got.length : Int) > (↑put.length : Int)))) || (decide (¬ f11.err = 0))) ?_ ?_
          ·
            refine AC.region ?_
            refine AL.fast 1 rfl ?_
            refine AL.val (Wanted.plain rfl) (g_lenS rfl rfl rfl rfl rfl Try.underlying56) rfl rfl ?_
            refine AL.fast 1 rfl ?_
            refine AL.val (Wanted.plain rfl) (g_binI rfl rfl rfl rfl) rfl rfl ?_
            refine AL.fast 1 rfl ?_
            refine AL.dec (t := 125) rfl (fun hb70 => ?_) (fun hb70 => ?_)
            ·
              have hb70' := hb70; try simp only [sumB, Bool.not_eq_true', Bool.not_eq_false', Bool.or_eq_true, Bool.or_eq_false_iff, Bool.and_eq_true, Bool.and_eq_false_imp, decide_eq_true_eq, decide_eq_false_iff_not, Bool.not_not, Bool.not_true, Bool.not_false] at hb70'
              refine AL.fast 12 rfl ?_
              refine AL.nil ?_
              refine then_ok ?_
              exact Weak.popB 18 rfl rfl (by first | (simp [hb70]; done) | (simp_all; done) | (exfalso; simp_all; done) | (simp_all; omega)) rfl
            ·
              have hb70' := hb70; try simp only [sumB, Bool.not_eq_true', Bool.not_eq_false', Bool.or_eq_true, Bool.or_eq_false_iff, Bool.and_eq_true, Bool.and_eq_false_imp, decide_eq_true_eq, decide_eq_false_iff_not, Bool.not_not, Bool.not_true, Bool.not_false] at hb70'
              refine AL.fast 1 rfl ?_
              refine AL.val (Wanted.yes rfl rfl rfl) (g_lenS rfl rfl rfl rfl rfl Try.underlying56) rfl rfl ?_
              refine AL.fast 1 rfl ?_
              refine AL.val (Wanted.yes rfl rfl rfl) (g_lenS rfl rfl rfl rfl rfl Try.underlying56) rfl rfl ?_
              refine AL.val (Wanted.yes rfl rfl rfl) (g_binI rfl rfl rfl rfl) rfl rfl ?_
              refine AL.fast 2 rfl ?_
              refine AL.dec (t := 132) rfl (fun hb71 => ?_) (fun hb71 => ?_)
              ·
                have hb71' := hb71; try simp only [sumB, Bool.not_eq_true', Bool.not_eq_false', Bool.or_eq_true, Bool.or_eq_false_iff, Bool.and_eq_true, Bool.and_eq_false_imp, decide_eq_true_eq, decide_eq_false_iff_not, Bool.not_not, Bool.not_true, Bool.not_false] at hb71'
                refine AL.fast 5 rfl ?_
                refine AL.nil ?_
                refine then_ok ?_
                exact Weak.popB 19 rfl rfl (by first | (simp [hb70, hb71]; done) | (simp_all; done) | (exfalso; simp_all; done) | (simp_all; omega)) rfl
              ·
                have hb71' := hb71; try simp only [sumB, Bool.not_eq_true', Bool.not_eq_false', Bool.or_eq_true, Bool.or_eq_false_iff, Bool.and_eq_true, Bool.and_eq_false_imp, decide_eq_true_eq, decide_eq_false_iff_not, Bool.not_not, Bool.not_true, Bool.not_false] at hb71'
                refine AL.val (Wanted.yes rfl rfl rfl) (g_loadBs rfl rfl rfl Try.underlying58 rfl sz58 rfl rfl) rfl rfl ?_
                refine AL.call (n' := 5) (h' := [(4, (.arr 60 4 ((s.kept).map rTransfer))), (3, (.arr 60 4 ((got).map rTransfer))), (2, (.arr 60 4 ((way).map rTransfer))), (1, (.arr 60 4 ((put).map rTransfer))), (0, (.box 58 [(cI s.sent), (.s 4 0 4 s.kept.length)]))]) (Wanted.yes rfl rfl rfl) (g_callE 5 [4] (c_post_Wrong s (by first | assumption | exact inI_out (by assumption) (by omega) | exact inI_back (by assumption) (by assumption) | (simp [InI]; done)) f11 hr11) en48 rfl rfl ⟨⟨_, rfl, .g ⟨.d _, .s rfl (by decide) (by first | omega | (simp; done) | (simp; omega)),  trivial⟩⟩,  trivial⟩ ⟨rfl, rfl,  trivial⟩ trivial rfl rfl rfl rfl) rfl rfl rfl rfl rfl ?_
                refine AL.val (Wanted.yes rfl rfl rfl) (g_field1 rfl rfl Try.underlying47 rfl Try.underlying27 rfl rfl) rfl rfl ?_
                refine AL.val (Wanted.yes rfl rfl rfl) (g_binI rfl rfl rfl rfl) rfl rfl ?_
                refine AL.fast 1 rfl ?_
                refine AL.nil ?_
                refine then_ok ?_
                exact Weak.popB 19 rfl rfl (by first | (simp [hb70, hb71]; done) | (simp_all; done) | (exfalso; simp_all; done) | (simp_all; omega)) rfl
          ·
            refine AC.cond rfl (fun hc72 => ?_) (fun hc72 => ?_)
            ·
              have hc72' := hc72; try simp only [sumB, Bool.not_eq_true', Bool.not_eq_false', Bool.or_eq_true, Bool.or_eq_false_iff, Bool.and_eq_true, Bool.and_eq_false_imp, decide_eq_true_eq, decide_eq_false_iff_not, Bool.not_not, Bool.not_true, Bool.not_false] at hc72'
              refine AC.seq ?_
              refine AC.region ?_
              refine AL.fast 1 rfl ?_
              refine AL.nil ?_
              refine then_ok ?_
              refine AC.ret ?_
              refine then_ret ?_
              refine retQ_mk (av' := outOf [(.c (cB false))]) (nb' := []) (retQ_ret ⟨[(2, (aB false))], [], 0⟩ [.tmp 2] [(.c (cB false))] (Weak.ren id (⟨by first | rfl | (simp only [AV.map, GV.map, CV.map, AB.map', id]; done) | (congr 3; omega) | (congr 4; omega) | (simp only [List.length_append, List.length_cons, List.length_nil, List.length_set]; rfl), trivial⟩) (trivial) rfl) rfl ⟨.tmp rfl, trivial⟩ trivial) ?_ ?_
              · exact congrArg aB (show (false) = true by (exfalso; have hok := hi0_1.ok; rw [hr11] at hok; omega))
              · rfl
            ·
              have hc72' := hc72; try simp only [sumB, Bool.not_eq_true', Bool.not_eq_false', Bool.or_eq_true, Bool.or_eq_false_iff, Bool.and_eq_true, Bool.and_eq_false_imp, decide_eq_true_eq, decide_eq_false_iff_not, Bool.not_not, Bool.not_true, Bool.not_false] at hc72'
              refine AC.skip ?_
              refine then_ok ?_
              refine AC.seq ?_
              refine AC.seq ?_
              refine AC.region ?_
              refine AL.fast 1 rfl ?_
              refine AL.val (Wanted.plain rfl) (g_lenS rfl rfl rfl rfl rfl Try.underlying56) rfl rfl ?_
              refine AL.fast 1 rfl ?_
              refine AL.nil ?_
              refine then_ok ?_
              refine AC.block ?_
              refine AC.loop (β := Nat) (fun (i : Nat) => ⟨[(3, (aC (.p 0 0 0 0))), (4, (aC (.s 1 0 4 put.length))), (5, (aC (.sx 2 0 4 way.length way.length false))), (6, (aC (.s 3 0 4 got.length))), (7, (aI seen)), (23, (aC (cR 3 ((l).map rAct)))), (24, (aI (↑l.length : Int))), (25, (aI (↑q : Int))), (139, (aI (↑got.length : Int))), (140, (aI (↑i : Int)))], [(4, (.arr 60 4 ((s.kept).map rTransfer))), (3, (.arr 60 4 ((got).map rTransfer))), (2, (.arr 60 4 ((way).map rTransfer))), (1, (.arr 60 4 ((put).map rTransfer))), (0, (.box 58 [(cI s.sent), (.s 4 0 4 s.kept.length)]))], 5⟩) (fun (i : Nat) => i ≤ got.length) (fun (i : Nat) => got.length - i) 0 ?_ ?_ ?_
              · exact (by omega)
              · exact Weak.ren id (by refine ⟨?_, ?_, ?_, ?_, ?_, ?_, ?_, ?_, ?_, ?_,  trivial⟩ <;> first | rfl | (simp only [AV.map, GV.map, CV.map, AB.map', id]; done) | (congr 3; omega) | (congr 4; omega) | (simp only [List.length_append, List.length_cons, List.length_nil, List.length_set]; rfl)) (by refine ⟨?_, ?_, ?_, ?_, ?_,  trivial⟩ <;> first | rfl | (simp only [AV.map, GV.map, CV.map, AB.map', id]; done) | (congr 3; omega) | (congr 4; omega) | (simp only [List.length_append, List.length_cons, List.length_nil, List.length_set]; rfl)) rfl
              ·
                rintro i hi1_0
                refine AC.seq ?_
                refine AC.region ?_
                refine AL.val (Wanted.plain rfl) (g_binI rfl rfl rfl rfl) rfl rfl ?_
                refine AL.nil ?_
                refine then_ok ?_
                refine AC.seq ?_
                refine AC.cond rfl (fun hc73 => ?_) (fun hc73 => ?_)
                ·
                  have hc73' := hc73; try simp only [sumB, Bool.not_eq_true', Bool.not_eq_false', Bool.or_eq_true, Bool.or_eq_false_iff, Bool.and_eq_true, Bool.and_eq_false_imp, decide_eq_true_eq, decide_eq_false_iff_not, Bool.not_not, Bool.not_true, Bool.not_false] at hc73'
                  refine AC.skip ?_
                  refine then_ok ?_
                  refine AC.seq ?_
                  refine AC.block ?_
                  refine AC.seq ?_
                  refine AC.region ?_
                  refine AL.fast 2 rfl ?_
                  refine AL.nil ?_
                  refine then_ok ?_
                  refine AC.seq ?_
                  obtain ⟨x1, hx1⟩ := exget (xs := got) (i := i) (by first | omega | (simp; done) | (simp; omega))
                  obtain ⟨x2, hx2⟩ := exget (xs := put) (i := i) (by first | omega | (simp; done) | (simp; omega))
                  refine AC.weak (st' := ⟨[(3, (aC (.p 0 0 0 0))), (4, (aC (.s 1 0 4 put.length))), (5, (aC (.sx 2 0 4 way.length way.length false))), (6, (aC (.s 3 0 4 got.length))), (7, (aI seen)), (23, (aC (cR 3 ((l).map rAct)))), (24, (aI (↑l.length : Int))), (25, (aI (↑q : Int))), (139, (aI (↑got.length : Int))), (140, (aI (↑i : Int))), (17, (aI (↑i : Int)))], [(4, (.arr 60 4 ((s.kept).map rTransfer))), (3, (.arr 60 4 ((got).map rTransfer))), (2, (.arr 60 4 ((way).map rTransfer))), (1, (.arr 60 4 ((put).map rTransfer))), (0, (.box 58 [(cI s.sent), (.s 4 0 4 s.kept.length)]))], 5⟩) (Weak.ren id (by refine ⟨?_, ?_, ?_, ?_, ?_, ?_, ?_, ?_, ?_, ?_, ?_,  trivial⟩ <;> first | rfl | (simp only [AV.map, GV.map, CV.map, AB.map', id]; done) | (congr 3; omega) | (congr 4; omega) | (simp only [List.length_append, List.length_cons, List.length_nil, List.length_set]; rfl)) (by refine ⟨?_, ?_, ?_, ?_, ?_,  trivial⟩ <;> first | rfl | (simp only [AV.map, GV.map, CV.map, AB.map', id]; done) | (congr 3; omega) | (congr 4; omega) | (simp only [List.length_append, List.length_cons, List.length_nil, List.length_set]; rfl)) rfl) ?_
                  refine AC.draw [⟨some 143, (aC (.s 3 0 4 got.length)), [], [], [], [(6, (aC (.s 3 0 4 got.length)))], [(3, (.arr 60 4 ((got).map rTransfer)))]⟩,
      ⟨some 144, (aI (↑i : Int)), [], [], [], [(17, (aI (↑i : Int)))], []⟩,
      ⟨some 145, (aC (.p 3 i 4 0)), [], [], [0, 1], [(143, (aC (.s 3 0 4 got.length))), (144, (aI (↑i : Int)))], [(3, (.arr 60 4 ((got).map rTransfer)))]⟩,
      ⟨some 146, (aG [(cI x1.number), (cI x1.kind), (cI x1.auth), (cI x1.sum)]), [], [], [2], [(145, (aC (.p 3 i 4 0)))], [(3, (.arr 60 4 ((got).map rTransfer)))]⟩,
      ⟨some 147, (aC (.s 1 0 4 put.length)), [], [], [], [(4, (aC (.s 1 0 4 put.length)))], [(1, (.arr 60 4 ((put).map rTransfer)))]⟩,
      ⟨some 148, (aI (↑i : Int)), [], [], [], [(17, (aI (↑i : Int)))], []⟩,
      ⟨some 149, (aC (.p 1 i 4 0)), [], [], [4, 5], [(147, (aC (.s 1 0 4 put.length))), (148, (aI (↑i : Int)))], [(1, (.arr 60 4 ((put).map rTransfer)))]⟩,
      ⟨some 150, (aG [(cI x2.number), (cI x2.kind), (cI x2.auth), (cI x2.sum)]), [], [], [6], [(149, (aC (.p 1 i 4 0)))], [(1, (.arr 60 4 ((put).map rTransfer)))]⟩,
      ⟨some 151, (aB (!(sameL [.int .i64 x1.number, .int .i64 x1.kind, .int .i64 x1.auth, .int .i64 x1.sum] [.int .i64 x2.number, .int .i64 x2.kind, .int .i64 x2.auth, .int .i64 x2.sum]))), [], [], [3, 7], [(146, (aG [(cI x1.number), (cI x1.kind), (cI x1.auth), (cI x1.sum)])), (150, (aG [(cI x2.number), (cI x2.kind), (cI x2.auth), (cI x2.sum)]))], []⟩] ⟨[(3, (aC (.p 0 0 0 0))), (4, (aC (.s 1 0 4 put.length))), (5, (aC (.sx 2 0 4 way.length way.length false))), (6, (aC (.s 3 0 4 got.length))), (7, (aI seen)), (23, (aC (cR 3 ((l).map rAct)))), (24, (aI (↑l.length : Int))), (25, (aI (↑q : Int))), (139, (aI (↑got.length : Int))), (140, (aI (↑i : Int))), (17, (aI (↑i : Int))), (151, (aB (!(sameL [.int .i64 x1.number, .int .i64 x1.kind, .int .i64 x1.auth, .int .i64 x1.sum] [.int .i64 x2.number, .int .i64 x2.kind, .int .i64 x2.auth, .int .i64 x2.sum]))))], [(4, (.arr 60 4 ((s.kept).map rTransfer))), (3, (.arr 60 4 ((got).map rTransfer))), (2, (.arr 60 4 ((way).map rTransfer))), (1, (.arr 60 4 ((put).map rTransfer))), (0, (.box 58 [(cI s.sent), (.s 4 0 4 s.kept.length)]))], 5⟩ mixed (by kernel_rfl) ?_ ?_ ?_ ?_
                  · exact ⟨.inl ⟨(Wanted.plain rfl), GOp.cast (g_move rfl rfl) rfl⟩,
      .inl ⟨(Wanted.plain rfl), GOp.cast (g_move rfl rfl) rfl⟩,
      .inl ⟨(Wanted.plain rfl), GOp.cast (g_indexP0 (i := i) rfl rfl rfl Try.underlying56 sz60 (by first | omega | (simp; done) | (simp; omega)) (by first | omega | (simp; done) | (simp; omega))) rfl⟩,
      .inl ⟨(Wanted.plain rfl), GOp.cast (g_loadAs rfl rfl rfl Try.underlying60 rfl sz60 (getmap hx1) rfl) rfl⟩,
      .inl ⟨(Wanted.plain rfl), GOp.cast (g_move rfl rfl) rfl⟩,
      .inl ⟨(Wanted.plain rfl), GOp.cast (g_move rfl rfl) rfl⟩,
      .inl ⟨(Wanted.plain rfl), GOp.cast (g_indexP0 (i := i) rfl rfl rfl Try.underlying56 sz60 (by first | omega | (simp; done) | (simp; omega)) (by first | omega | (simp; done) | (simp; omega))) rfl⟩,
      .inl ⟨(Wanted.plain rfl), GOp.cast (g_loadAs rfl rfl rfl Try.underlying60 rfl sz60 (getmap hx2) rfl) rfl⟩,
      .inl ⟨(Wanted.plain rfl), GOp.cast (g_neq (cmp60 _ _ _ _ _ _ _ _) rfl rfl rfl rfl rfl rfl) rfl⟩,
       trivial⟩
                  · exact ⟨⟨⟨.inl rfl,  trivial⟩, ⟨.inl rfl,  trivial⟩⟩, ⟨⟨.inl rfl,  trivial⟩, trivial⟩, ⟨⟨.inr ⟨0, .head _, _, rfl, rfl, rfl⟩, .inr ⟨1, .tail _ (.head _), _, rfl, rfl, rfl⟩,  trivial⟩, ⟨.inl rfl,  trivial⟩⟩, ⟨⟨.inr ⟨2, .head _, _, rfl, rfl, rfl⟩,  trivial⟩, ⟨.inl rfl,  trivial⟩⟩, ⟨⟨.inl rfl,  trivial⟩, ⟨.inl rfl,  trivial⟩⟩, ⟨⟨.inl rfl,  trivial⟩, trivial⟩, ⟨⟨.inr ⟨4, .head _, _, rfl, rfl, rfl⟩, .inr ⟨5, .tail _ (.head _), _, rfl, rfl, rfl⟩,  trivial⟩, ⟨.inl rfl,  trivial⟩⟩, ⟨⟨.inr ⟨6, .head _, _, rfl, rfl, rfl⟩,  trivial⟩, ⟨.inl rfl,  trivial⟩⟩, ⟨⟨.inr ⟨3, .head _, _, rfl, rfl, rfl⟩, .inr ⟨7, .tail _ (.head _), _, rfl, rfl, rfl⟩,  trivial⟩, trivial⟩,  trivial⟩
                  · exact ⟨⟨.inl rfl, .inl rfl, .inl rfl, .inl rfl, .inl rfl, .inl rfl, .inl rfl, .inl rfl, .inl rfl, .inl rfl, .inl rfl, .inr ⟨8, _, rfl, rfl, rfl⟩,  trivial⟩, ⟨.inl rfl, .inl rfl, .inl rfl, .inl rfl, .inl rfl,  trivial⟩⟩
                  ·
                    refine AL.nil ?_
                    refine then_ok ?_
                    refine AC.cond rfl (fun hc74 => ?_) (fun hc74 => ?_)
                    ·
                      have hc74' := hc74; try simp only [sumB, Bool.not_eq_true', Bool.not_eq_false', Bool.or_eq_true, Bool.or_eq_false_iff, Bool.and_eq_true, Bool.and_eq_false_imp, decide_eq_true_eq, decide_eq_false_iff_not, Bool.not_not, Bool.not_true, Bool.not_false] at hc74'
                      refine AC.seq ?_
                      refine AC.region ?_
                      refine AL.fast 1 rfl ?_
                      refine AL.nil ?_
                      refine then_ok ?_
                      refine AC.ret ?_
                      refine block_ret ?_
                      refine then_ret ?_
                      refine then_ret ?_
                      refine block_ret ?_
                      refine then_ret ?_
                      refine retQ_mk (av' := outOf [(.c (cB false))]) (nb' := []) (retQ_ret ⟨[(2, (aB false))], [], 0⟩ [.tmp 2] [(.c (cB false))] (Weak.ren id (⟨by first | rfl | (simp only [AV.map, GV.map, CV.map, AB.map', id]; done) | (congr 3; omega) | (congr 4; omega) | (simp only [List.length_append, List.length_cons, List.length_nil, List.length_set]; rfl), trivial⟩) (trivial) rfl) rfl ⟨.tmp rfl, trivial⟩ trivial) ?_ ?_
                      · exact congrArg aB (show (false) = true by (exfalso; have h1 := hi0_1.got; have h3 : x1 = x2 := (by (rw [h1, List.getElem?_take] at hx1; split at hx1 <;> first | exact Option.some.inj (hx1.symm.trans hx2) | cases hx1)); subst h3; simp [same60] at hc74))
                      · rfl
                    ·
                      have hc74' := hc74; try simp only [sumB, Bool.not_eq_true', Bool.not_eq_false', Bool.or_eq_true, Bool.or_eq_false_iff, Bool.and_eq_true, Bool.and_eq_false_imp, decide_eq_true_eq, decide_eq_false_iff_not, Bool.not_not, Bool.not_true, Bool.not_false] at hc74'
                      refine AC.skip ?_
                      refine block_ok ?_
                      refine then_ok ?_
                      refine AC.region ?_
                      refine AL.val (Wanted.plain rfl) (g_binI rfl rfl rfl (wrap_ok (by first | omega | (simp; done) | (simp; omega)))) rfl rfl ?_
                      refine AL.fast 1 rfl ?_
                      refine AL.nil ?_
                      refine then_ok ?_
                      refine ⟨i + 1, by first | omega | trivial, by first | omega | (simp; done) | (simp; omega), Weak.ren id (by refine ⟨?_, ?_, ?_, ?_, ?_, ?_, ?_, ?_, ?_, ?_,  trivial⟩ <;> first | rfl | (simp only [AV.map, GV.map, CV.map, AB.map', id]; done) | (congr 3; omega) | (congr 4; omega) | (simp only [List.length_append, List.length_cons, List.length_nil, List.length_set]; rfl)) (by refine ⟨?_, ?_, ?_, ?_, ?_,  trivial⟩ <;> first | rfl | (simp only [AV.map, GV.map, CV.map, AB.map', id]; done) | (congr 3; omega) | (congr 4; omega) | (simp only [List.length_append, List.length_cons, List.length_nil, List.length_set]; rfl)) rfl⟩
                ·
                  have hc73' := hc73; try simp only [sumB, Bool.not_eq_true', Bool.not_eq_false', Bool.or_eq_true, Bool.or_eq_false_iff, Bool.and_eq_true, Bool.and_eq_false_imp, decide_eq_true_eq, decide_eq_false_iff_not, Bool.not_not, Bool.not_true, Bool.not_false] at hc73'
                  refine AC.exit ?_
                  refine then_exit ?_
                  refine then_exit ?_
                  refine block_hit ?_
                  refine then_ok ?_
                  refine AC.seq ?_
                  refine AC.region ?_
                  refine AL.fast 1 rfl ?_
                  refine AL.nil ?_
                  refine then_ok ?_
                  refine AC.ret ?_
                  refine retQ_mk (av' := outOf [(.c (cB true))]) (nb' := []) (retQ_ret ⟨[(2, (aB true))], [], 0⟩ [.tmp 2] [(.c (cB true))] (Weak.ren id (⟨by first | rfl | (simp only [AV.map, GV.map, CV.map, AB.map', id]; done) | (congr 3; omega) | (congr 4; omega) | (simp only [List.length_append, List.length_cons, List.length_nil, List.length_set]; rfl), trivial⟩) (trivial) rfl) rfl ⟨.tmp rfl, trivial⟩ trivial) ?_ ?_
                  · rfl
                  · rfl
end Go.Proofs.Ytgmcdlfmifijlaa.Dev
