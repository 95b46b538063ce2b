/- post.Wrong, payref1.WrongSender. -/
import Derived.Test.YtgmcdlfmifijlaaDDel2
import Derived.Test.YtgmcdlfmifijlaaDPlPost
import Derived.Test.YtgmcdlfmifijlaaDOpn
set_option linter.unusedVariables false
set_option linter.unusedSimpArgs false
namespace Go.Proofs.Ytgmcdlfmifijlaa.Dev
open Go.RowKit


theorem inI_out {s : Sender} {t : Transfer} (hI : ∀ t ∈ s.kept, InI t.number) (h : 0 ≤ s.sent ∧ s.sent ≤ 1000000) : ∀ u ∈ s.kept ++ [(⟨s.sent + 1, t.kind, t.auth, t.sum⟩ : Transfer)], InI u.number := by
  intro u hu
  rcases List.mem_append.1 hu with hu | hu
  · exact hI u hu
  · have : u = ⟨s.sent + 1, t.kind, t.auth, t.sum⟩ := by simpa using hu
    subst this; unfold InI; dsimp only; omega
theorem inI_back {s x : Sender} {seen e : Int} (hI : ∀ t ∈ s.kept, InI t.number) (h : backS s seen = (x, e)) : ∀ u ∈ x.kept, InI u.number := by
  intro u hu
  rcases back_of h with ⟨_, rfl⟩ | ⟨_, _, _, _, rfl⟩
  · simp [noS] at hu
  · exact hI u (mem_keep hu)

set_option maxRecDepth 100000 in
set_option maxHeartbeats 1000000 in
theorem c_post_Wrong (s : Sender) (hI : ∀ t ∈ s.kept, InI t.number) (f : Fault) (hr : wrongSF s = f) : Fn Try.prog 48 [(.g [(cI s.sent), (cR 4 ((s.kept).map rTransfer))])] (.v (.g [(cI f.err), (cI f.at_)])) [] := by
  refine Fn.mk' 79 [(0, (aG [(cI s.sent), (cR 4 ((s.kept).map rTransfer))]))] Try.func48 rfl rfl rfl rfl ?_
  intro W0 T0
  refine AC.lenG 0 1 rfl rfl (fun hlen0_1 => ?_)
  refine AC.seq ?_
  refine AC.region ?_
  refine AL.new (n' := 1) (Wanted.plain rfl) (g_boxS 0 rfl rfl) rfl rfl rfl ?_
  refine AL.new (n' := 2) (Wanted.plain rfl) (g_alloc 1 rfl zv47 rfl rfl rfl) rfl rfl rfl ?_
  refine AL.nil ?_
  refine then_ok ?_
  refine AC.seq ?_
  refine AC.seq ?_
  refine AC.region ?_
  refine AL.val (Wanted.plain rfl) (g_fieldP rfl rfl Try.underlying58 rfl sz56 (by decide)) rfl rfl ?_
  refine AL.val (Wanted.plain rfl) (g_loadB rfl rfl rfl Try.underlying56 rfl rfl) rfl rfl ?_
  refine AL.val (Wanted.plain rfl) (g_lenM rfl rfl rfl rfl rfl Try.underlying56) rfl rfl ?_
  refine AL.val (Wanted.plain rfl) (g_binI rfl rfl rfl rfl) rfl rfl ?_
  refine AL.nil ?_
  refine then_ok ?_
  refine AC.cond rfl (fun hc1 => ?_) (fun hc1 => ?_)
  ·
    have hc1' := hc1; try simp only [sumB, Bool.not_eq_true', Bool.not_eq_false', Bool.or_eq_true, Bool.or_eq_false_iff, Bool.and_eq_true, Bool.and_eq_false_imp, decide_eq_true_eq, decide_eq_false_iff_not, Bool.not_not, Bool.not_true, Bool.not_false] at hc1'
    refine AC.seq ?_
    refine AC.region ?_
    refine AL.val (Wanted.plain rfl) (g_build (ys := [(0, (.c (cI 5)))]) rfl bld47 rfl ⟨⟨rfl, rfl⟩,  trivial⟩ rfl rfl) rfl rfl ?_
    refine AL.sto (h' := [(1, (.box 47 [(cI 5), (cI 0)])), (0, (.box 58 [(cI s.sent), (cR 4 ((s.kept).map rTransfer))]))]) (Wanted.plain rfl) (g_storeB rfl rfl rfl rfl rfl sz47 rfl (Nat.le_of_ble_eq_true rfl) rfl) rfl rfl rfl rfl ?_
    refine AL.nil ?_
    refine then_ok ?_
    refine AC.ret ?_
    refine then_ret ?_
    have hX : wrongSF s = (⟨5, 0⟩ : Fault) := by
      unfold wrongSF wrongS; rw [if_pos (by omega)]
    rw [hX] at hr; clear hX
    subst hr
    refine retQ_mk (av' := outOf [(.g [(cI 5), (cI 0)])]) (nb' := []) (retQ_ret ⟨[(2, (aC (.p 1 0 0 0)))], [(1, (.box 47 [(cI 5), (cI 0)]))], 2⟩ [.cell 2 47] [(.g [(cI 5), (cI 0)])] (Weak.ren id (⟨by first | rfl | (simp only [AV.map, GV.map, CV.map, AB.map', id]; done) | (congr 3; omega) | (congr 4; omega) | (simp only [List.length_append, List.length_cons, List.length_nil, List.length_set]; rfl),  trivial⟩) (⟨by first | rfl | (simp only [AV.map, GV.map, CV.map, AB.map', id]; done) | (congr 3; omega) | (congr 4; omega) | (simp only [List.length_append, List.length_cons, List.length_nil, List.length_set]; rfl),  trivial⟩) rfl) rfl ⟨.agg rfl rfl (fun _ => run_isAgg Try.underlying47) sz47, trivial⟩ trivial) ?_ ?_
    · first | rfl | (simp [outOf, aC]; done) | (simp [outOf, aC]; omega)
    · first | rfl | (simp; done) | (simp; omega)
  ·
    have hc1' := hc1; try simp only [sumB, Bool.not_eq_true', Bool.not_eq_false', Bool.or_eq_true, Bool.or_eq_false_iff, Bool.and_eq_true, Bool.and_eq_false_imp, decide_eq_true_eq, decide_eq_false_iff_not, Bool.not_not, Bool.not_true, Bool.not_false] at hc1'
    refine AC.skip ?_
    refine then_ok ?_
    refine AC.seq ?_
    refine AC.cutB 20 ((decide (s.sent < (↑s.kept.length : Int))) || (decide (s.sent > 1000000))) ?_ ?_
    ·
      refine AC.region ?_
      refine AL.val (Wanted.plain rfl) (g_fieldP rfl rfl Try.underlying58 rfl sz3 (by decide)) rfl rfl ?_
      refine AL.val (Wanted.plain rfl) (g_loadB rfl rfl rfl Try.underlying3 rfl rfl) rfl rfl ?_
      refine AL.val (Wanted.plain rfl) (g_fieldP rfl rfl Try.underlying58 rfl sz56 (by decide)) rfl rfl ?_
      refine AL.val (Wanted.plain rfl) (g_loadB rfl rfl rfl Try.underlying56 rfl rfl) rfl rfl ?_
      refine AL.val (Wanted.plain rfl) (g_lenM rfl rfl rfl rfl rfl Try.underlying56) rfl rfl ?_
      refine AL.val (Wanted.plain rfl) (g_binI rfl rfl rfl rfl) rfl rfl ?_
      refine AL.fast 1 rfl ?_
      refine AL.dec (t := 16) rfl (fun hb2 => ?_) (fun hb2 => ?_)
      ·
        have hb2' := hb2; try simp only [sumB, Bool.not_eq_true', Bool.not_eq_false', Bool.or_eq_true, Bool.or_eq_false_iff, Bool.and_eq_true, Bool.and_eq_false_imp, decide_eq_true_eq, decide_eq_false_iff_not, Bool.not_not, Bool.not_true, Bool.not_false] at hb2'
        refine AL.fast 4 rfl ?_
        refine AL.nil ?_
        refine then_ok ?_
        exact Weak.popB 12 rfl rfl (by first | (simp [hb2]; done) | (simp_all; done) | (exfalso; simp_all; done) | (simp_all; omega)) rfl
      ·
        have hb2' := hb2; try simp only [sumB, Bool.not_eq_true', Bool.not_eq_false', Bool.or_eq_true, Bool.or_eq_false_iff, Bool.and_eq_true, Bool.and_eq_false_imp, decide_eq_true_eq, decide_eq_false_iff_not, Bool.not_not, Bool.not_true, Bool.not_false] at hb2'
        refine AL.val (Wanted.yes rfl rfl rfl) (g_fieldP rfl rfl Try.underlying58 rfl sz3 (by decide)) rfl rfl ?_
        refine AL.val (Wanted.yes rfl rfl rfl) (g_loadB rfl rfl rfl Try.underlying3 rfl rfl) rfl rfl ?_
        refine AL.val (Wanted.yes rfl rfl rfl) (g_binI rfl rfl rfl rfl) rfl rfl ?_
        refine AL.fast 1 rfl ?_
        refine AL.nil ?_
        refine then_ok ?_
        exact Weak.popB 12 rfl rfl (by first | (simp [hb2]; done) | (simp_all; done) | (exfalso; simp_all; done) | (simp_all; omega)) rfl
    ·
      refine AC.cond rfl (fun hc3 => ?_) (fun hc3 => ?_)
      ·
        have hc3' := hc3; try simp only [sumB, Bool.not_eq_true', Bool.not_eq_false', Bool.or_eq_true, Bool.or_eq_false_iff, Bool.and_eq_true, Bool.and_eq_false_imp, decide_eq_true_eq, decide_eq_false_iff_not, Bool.not_not, Bool.not_true, Bool.not_false] at hc3'
        refine AC.seq ?_
        refine AC.region ?_
        refine AL.val (Wanted.plain rfl) (g_build (ys := [(0, (.c (cI 3)))]) rfl bld47 rfl ⟨⟨rfl, rfl⟩,  trivial⟩ rfl rfl) rfl rfl ?_
        refine AL.sto (h' := [(1, (.box 47 [(cI 3), (cI 0)])), (0, (.box 58 [(cI s.sent), (cR 4 ((s.kept).map rTransfer))]))]) (Wanted.plain rfl) (g_storeB rfl rfl rfl rfl rfl sz47 rfl (Nat.le_of_ble_eq_true rfl) rfl) rfl rfl rfl rfl ?_
        refine AL.nil ?_
        refine then_ok ?_
        refine AC.ret ?_
        refine then_ret ?_
        have hX : wrongSF s = (⟨3, 0⟩ : Fault) := by
          unfold wrongSF wrongS; rw [if_neg (by omega), if_pos (by omega)]
        rw [hX] at hr; clear hX
        subst hr
        refine retQ_mk (av' := outOf [(.g [(cI 3), (cI 0)])]) (nb' := []) (retQ_ret ⟨[(2, (aC (.p 1 0 0 0)))], [(1, (.box 47 [(cI 3), (cI 0)]))], 2⟩ [.cell 2 47] [(.g [(cI 3), (cI 0)])] (Weak.ren id (⟨by first | rfl | (simp only [AV.map, GV.map, CV.map, AB.map', id]; done) | (congr 3; omega) | (congr 4; omega) | (simp only [List.length_append, List.length_cons, List.length_nil, List.length_set]; rfl),  trivial⟩) (⟨by first | rfl | (simp only [AV.map, GV.map, CV.map, AB.map', id]; done) | (congr 3; omega) | (congr 4; omega) | (simp only [List.length_append, List.length_cons, List.length_nil, List.length_set]; rfl),  trivial⟩) rfl) rfl ⟨.agg rfl rfl (fun _ => run_isAgg Try.underlying47) sz47, trivial⟩ trivial) ?_ ?_
        · first | rfl | (simp [outOf, aC]; done) | (simp [outOf, aC]; omega)
        · first | rfl | (simp; done) | (simp; omega)
      ·
        have hc3' := hc3; try simp only [sumB, Bool.not_eq_true', Bool.not_eq_false', Bool.or_eq_true, Bool.or_eq_false_iff, Bool.and_eq_true, Bool.and_eq_false_imp, decide_eq_true_eq, decide_eq_false_iff_not, Bool.not_not, Bool.not_true, Bool.not_false] at hc3'
        refine AC.skip ?_
        refine then_ok ?_
        refine AC.seq ?_
        refine AC.seq ?_
        refine AC.region ?_
        refine AL.val (Wanted.plain rfl) (g_fieldP rfl rfl Try.underlying58 rfl sz56 (by decide)) rfl rfl ?_
        refine AL.val (Wanted.plain rfl) (g_loadB rfl rfl rfl Try.underlying56 rfl rfl) rfl rfl ?_
        refine AL.val (Wanted.plain rfl) (g_lenM rfl rfl rfl rfl rfl Try.underlying56) rfl rfl ?_
        refine AL.fast 1 rfl ?_
        refine AL.nil ?_
        refine then_ok ?_
        refine AC.block ?_
        refine AC.loop (β := Nat) (fun (q : Nat) => ⟨[(1, (aC (.p 0 0 0 0))), (2, (aC (.p 1 0 0 0))), (23, (aC (cR 4 ((s.kept).map rTransfer)))), (24, (aI (↑s.kept.length : Int))), (25, (aI (↑q : Int)))], [(1, (.box 47 [(cI 0), (cI 0)])), (0, (.box 58 [(cI s.sent), (cR 4 ((s.kept).map rTransfer))]))], 2⟩) (fun (q : Nat) => q ≤ s.kept.length ∧ scan (tErr s) 0 s.kept.length = scan (tErr s) q (s.kept.length - q)) (fun (q : Nat) => s.kept.length - q) 0 ?_ ?_ ?_
        · exact ⟨by omega, rfl⟩
        · exact Weak.ren id (⟨by first | rfl | (simp only [AV.map, GV.map, CV.map, AB.map', id]; done) | (congr 3; omega) | (congr 4; omega) | (simp only [List.length_append, List.length_cons, List.length_nil, List.length_set]; rfl), by first | rfl | (simp only [AV.map, GV.map, CV.map, AB.map', id]; done) | (congr 3; omega) | (congr 4; omega) | (simp only [List.length_append, List.length_cons, List.length_nil, List.length_set]; rfl), by first | rfl | (simp only [AV.map, GV.map, CV.map, AB.map', id]; done) | (congr 3; omega) | (congr 4; omega) | (simp only [List.length_append, List.length_cons, List.length_nil, List.length_set]; rfl), by first | rfl | (simp only [AV.map, GV.map, CV.map, AB.map', id]; done) | (congr 3; omega) | (congr 4; omega) | (simp only [List.length_append, List.length_cons, List.length_nil, List.length_set]; rfl), by first | rfl | (simp only [AV.map, GV.map, CV.map, AB.map', id]; done) | (congr 3; omega) | (congr 4; omega) | (simp only [List.length_append, List.length_cons, List.length_nil, List.length_set]; rfl),  trivial⟩) (⟨by first | rfl | (simp only [AV.map, GV.map, CV.map, AB.map', id]; done) | (congr 3; omega) | (congr 4; omega) | (simp only [List.length_append, List.length_cons, List.length_nil, List.length_set]; rfl), by first | rfl | (simp only [AV.map, GV.map, CV.map, AB.map', id]; done) | (congr 3; omega) | (congr 4; omega) | (simp only [List.length_append, List.length_cons, List.length_nil, List.length_set]; rfl),  trivial⟩) rfl
        ·
          rintro q ⟨hi0_0, hi0_1⟩
          refine AC.seq ?_
          refine AC.region ?_
          refine AL.val (Wanted.plain rfl) (g_binI rfl rfl rfl rfl) rfl rfl ?_
          refine AL.nil ?_
          refine then_ok ?_
          refine AC.seq ?_
          refine AC.cond rfl (fun hc4 => ?_) (fun hc4 => ?_)
          ·
            have hc4' := hc4; try simp only [sumB, Bool.not_eq_true', Bool.not_eq_false', Bool.or_eq_true, Bool.or_eq_false_iff, Bool.and_eq_true, Bool.and_eq_false_imp, decide_eq_true_eq, decide_eq_false_iff_not, Bool.not_not, Bool.not_true, Bool.not_false] at hc4'
            refine AC.skip ?_
            refine then_ok ?_
            refine AC.seq ?_
            refine AC.block ?_
            refine AC.seq ?_
            refine AC.region ?_
            refine AL.fast 1 rfl ?_
            obtain ⟨x1, hx1⟩ := exget (xs := s.kept) (i := q) (by first | omega | (simp; done) | (simp; omega))
            have hx1b := hI x1 (List.mem_of_getElem? hx1)
            unfold InI at hx1b
            refine AL.val (Wanted.plain rfl) (g_indexQ (i := q) rfl rfl rfl Try.underlying56 sz60 (by first | omega | (simp; done) | (simp; omega)) (getmap hx1)) rfl rfl ?_
            refine AL.val (Wanted.plain rfl) (g_loadQs rfl rfl Try.underlying60 rfl sz60 rfl rfl) rfl rfl ?_
            refine AL.new (n' := 3) (Wanted.plain rfl) (g_alloc 2 rfl zv60 rfl rfl rfl) rfl rfl rfl ?_
            refine AL.fast 1 rfl ?_
            refine AL.sto (h' := [(2, (.box 60 [(cI x1.number), (cI x1.kind), (cI x1.auth), (cI x1.sum)])), (1, (.box 47 [(cI 0), (cI 0)])), (0, (.box 58 [(cI s.sent), (cR 4 ((s.kept).map rTransfer))]))]) (Wanted.plain rfl) (g_storeB rfl rfl rfl rfl rfl sz60 rfl (Nat.le_of_ble_eq_true rfl) rfl) rfl rfl rfl rfl ?_
            refine AL.nil ?_
            refine then_ok ?_
            refine AC.block ?_
            refine AC.cutB 30 ((decide (x1.kind < 1)) || (decide (x1.kind > 3))) ?_ ?_
            ·
              refine AC.region ?_
              refine AL.val (Wanted.plain rfl) (g_fieldP rfl rfl Try.underlying60 rfl sz3 (by decide)) rfl rfl ?_
              refine AL.val (Wanted.plain rfl) (g_loadB rfl rfl rfl Try.underlying3 rfl rfl) rfl rfl ?_
              refine AL.val (Wanted.plain rfl) (g_binI rfl rfl rfl rfl) rfl rfl ?_
              refine AL.fast 1 rfl ?_
              refine AL.dec (t := 34) rfl (fun hb5 => ?_) (fun hb5 => ?_)
              ·
                have hb5' := hb5; try simp only [sumB, Bool.not_eq_true', Bool.not_eq_false', Bool.or_eq_true, Bool.or_eq_false_iff, Bool.and_eq_true, Bool.and_eq_false_imp, decide_eq_true_eq, decide_eq_false_iff_not, Bool.not_not, Bool.not_true, Bool.not_false] at hb5'
                refine AL.fast 5 rfl ?_
                refine AL.nil ?_
                refine then_ok ?_
                exact Weak.popB 10 rfl rfl (by first | (simp [hb5]; done) | (simp_all; done) | (exfalso; simp_all; done) | (simp_all; omega)) rfl
              ·
                have hb5' := hb5; try simp only [sumB, Bool.not_eq_true', Bool.not_eq_false', Bool.or_eq_true, Bool.or_eq_false_iff, Bool.and_eq_true, Bool.and_eq_false_imp, decide_eq_true_eq, decide_eq_false_iff_not, Bool.not_not, Bool.not_true, Bool.not_false] at hb5'
                refine AL.val (Wanted.yes rfl rfl rfl) (g_fieldP rfl rfl Try.underlying60 rfl sz3 (by decide)) rfl rfl ?_
                refine AL.val (Wanted.yes rfl rfl rfl) (g_loadB rfl rfl rfl Try.underlying3 rfl rfl) rfl rfl ?_
                refine AL.val (Wanted.yes rfl rfl rfl) (g_binI rfl rfl rfl rfl) rfl rfl ?_
                refine AL.fast 2 rfl ?_
                refine AL.nil ?_
                refine then_ok ?_
                exact Weak.popB 10 rfl rfl (by first | (simp [hb5]; done) | (simp_all; done) | (exfalso; simp_all; done) | (simp_all; omega)) rfl
            ·
              refine AC.cond rfl (fun hc6 => ?_) (fun hc6 => ?_)
              ·
                have hc6' := hc6; try simp only [sumB, Bool.not_eq_true', Bool.not_eq_false', Bool.or_eq_true, Bool.or_eq_false_iff, Bool.and_eq_true, Bool.and_eq_false_imp, decide_eq_true_eq, decide_eq_false_iff_not, Bool.not_not, Bool.not_true, Bool.not_false] at hc6'
                refine AC.seq ?_
                refine AC.region ?_
                refine AL.fast 1 rfl ?_
                refine AL.val (Wanted.plain rfl) (g_build (ys := [(0, (.c (cI 1))), (1, (.c (cI (↑q : Int))))]) rfl bld47 rfl ⟨⟨rfl, rfl⟩, ⟨rfl, rfl⟩,  trivial⟩ rfl rfl) rfl rfl ?_
                refine AL.sto (h' := [(2, (.box 60 [(cI x1.number), (cI x1.kind), (cI x1.auth), (cI x1.sum)])), (1, (.box 47 [(cI 1), (cI (↑q : Int))])), (0, (.box 58 [(cI s.sent), (cR 4 ((s.kept).map rTransfer))]))]) (Wanted.plain rfl) (g_storeB rfl rfl rfl rfl rfl sz47 rfl (Nat.le_of_ble_eq_true rfl) rfl) rfl rfl rfl rfl ?_
                refine AL.nil ?_
                refine then_ok ?_
                refine AC.ret ?_
                refine block_ret ?_
                refine block_ret ?_
                refine then_ret ?_
                refine then_ret ?_
                refine block_ret ?_
                refine then_ret ?_
                have hX : wrongSF s = (⟨1, (↑q : Int)⟩ : Fault) := by
                  unfold wrongSF wrongS; rw [if_neg (by omega), if_neg (by omega), hi0_1, scan_bad (c := 1) (by omega) (by unfold tErr; simp only [hx1]; rw [if_pos (by omega)]) (by decide)]
                rw [hX] at hr; clear hX
                subst hr
                refine retQ_mk (av' := outOf [(.g [(cI 1), (cI (↑q : Int))])]) (nb' := []) (retQ_ret ⟨[(2, (aC (.p 1 0 0 0)))], [(1, (.box 47 [(cI 1), (cI (↑q : Int))]))], 2⟩ [.cell 2 47] [(.g [(cI 1), (cI (↑q : Int))])] (Weak.ren id (⟨by first | rfl | (simp only [AV.map, GV.map, CV.map, AB.map', id]; done) | (congr 3; omega) | (congr 4; omega) | (simp only [List.length_append, List.length_cons, List.length_nil, List.length_set]; rfl),  trivial⟩) (⟨by first | rfl | (simp only [AV.map, GV.map, CV.map, AB.map', id]; done) | (congr 3; omega) | (congr 4; omega) | (simp only [List.length_append, List.length_cons, List.length_nil, List.length_set]; rfl),  trivial⟩) rfl) rfl ⟨.agg rfl rfl (fun _ => run_isAgg Try.underlying47) sz47, trivial⟩ trivial) ?_ ?_
                · first | rfl | (simp [outOf, aC]; done) | (simp [outOf, aC]; omega)
                · first | rfl | (simp; done) | (simp; omega)
              ·
                have hc6' := hc6; try simp only [sumB, Bool.not_eq_true', Bool.not_eq_false', Bool.or_eq_true, Bool.or_eq_false_iff, Bool.and_eq_true, Bool.and_eq_false_imp, decide_eq_true_eq, decide_eq_false_iff_not, Bool.not_not, Bool.not_true, Bool.not_false] at hc6'
                refine AC.cutB 41 ((((decide (x1.auth < 0)) || (decide (x1.auth ≥ 30))) || (decide (x1.sum < 1))) || (decide (x1.sum > 1000000))) ?_ ?_
                ·
                  refine AC.region ?_
                  refine AL.val (Wanted.plain rfl) (g_fieldP rfl rfl Try.underlying60 rfl sz3 (by decide)) rfl rfl ?_
                  refine AL.val (Wanted.plain rfl) (g_loadB rfl rfl rfl Try.underlying3 rfl rfl) rfl rfl ?_
                  refine AL.val (Wanted.plain rfl) (g_binI rfl rfl rfl rfl) rfl rfl ?_
                  refine AL.fast 1 rfl ?_
                  refine AL.dec (t := 45) rfl (fun hb7 => ?_) (fun hb7 => ?_)
                  ·
                    have hb7' := hb7; try simp only [sumB, Bool.not_eq_true', Bool.not_eq_false', Bool.or_eq_true, Bool.or_eq_false_iff, Bool.and_eq_true, Bool.and_eq_false_imp, decide_eq_true_eq, decide_eq_false_iff_not, Bool.not_not, Bool.not_true, Bool.not_false] at hb7'
                    refine AL.fast 15 rfl ?_
                    refine AL.nil ?_
                    refine then_ok ?_
                    exact Weak.popB 20 rfl rfl (by first | (simp [hb7]; done) | (simp_all; done) | (exfalso; simp_all; done) | (simp_all; omega)) rfl
                  ·
                    have hb7' := hb7; try simp only [sumB, Bool.not_eq_true', Bool.not_eq_false', Bool.or_eq_true, Bool.or_eq_false_iff, Bool.and_eq_true, Bool.and_eq_false_imp, decide_eq_true_eq, decide_eq_false_iff_not, Bool.not_not, Bool.not_true, Bool.not_false] at hb7'
                    refine AL.val (Wanted.yes rfl rfl rfl) (g_fieldP rfl rfl Try.underlying60 rfl sz3 (by decide)) rfl rfl ?_
                    refine AL.val (Wanted.yes rfl rfl rfl) (g_loadB rfl rfl rfl Try.underlying3 rfl rfl) rfl rfl ?_
                    refine AL.val (Wanted.yes rfl rfl rfl) (g_binI rfl rfl rfl rfl) rfl rfl ?_
                    refine AL.fast 2 rfl ?_
                    refine AL.dec (t := 50) rfl (fun hb8 => ?_) (fun hb8 => ?_)
                    ·
                      have hb8' := hb8; try simp only [sumB, Bool.not_eq_true', Bool.not_eq_false', Bool.or_eq_true, Bool.or_eq_false_iff, Bool.and_eq_true, Bool.and_eq_false_imp, decide_eq_true_eq, decide_eq_false_iff_not, Bool.not_not, Bool.not_true, Bool.not_false] at hb8'
                      refine AL.fast 10 rfl ?_
                      refine AL.nil ?_
                      refine then_ok ?_
                      exact Weak.popB 21 rfl rfl (by first | (simp [hb7, hb8]; done) | (simp_all; done) | (exfalso; simp_all; done) | (simp_all; omega)) rfl
                    ·
                      have hb8' := hb8; try simp only [sumB, Bool.not_eq_true', Bool.not_eq_false', Bool.or_eq_true, Bool.or_eq_false_iff, Bool.and_eq_true, Bool.and_eq_false_imp, decide_eq_true_eq, decide_eq_false_iff_not, Bool.not_not, Bool.not_true, Bool.not_false] at hb8'
                      refine AL.val (Wanted.yes rfl rfl rfl) (g_fieldP rfl rfl Try.underlying60 rfl sz3 (by decide)) rfl rfl ?_
                      refine AL.val (Wanted.yes rfl rfl rfl) (g_loadB rfl rfl rfl Try.underlying3 rfl rfl) rfl rfl ?_
                      refine AL.val (Wanted.yes rfl rfl rfl) (g_binI rfl rfl rfl rfl) rfl rfl ?_
                      refine AL.fast 2 rfl ?_
                      refine AL.dec (t := 55) rfl (fun hb9 => ?_) (fun hb9 => ?_)
                      ·
                        have hb9' := hb9; try simp only [sumB, Bool.not_eq_true', Bool.not_eq_false', Bool.or_eq_true, Bool.or_eq_false_iff, Bool.and_eq_true, Bool.and_eq_false_imp, decide_eq_true_eq, decide_eq_false_iff_not, Bool.not_not, Bool.not_true, Bool.not_false] at hb9'
                        refine AL.fast 5 rfl ?_
                        refine AL.nil ?_
                        refine then_ok ?_
                        exact Weak.popB 22 rfl rfl (by first | (simp [hb7, hb8, hb9]; done) | (simp_all; done) | (exfalso; simp_all; done) | (simp_all; omega)) rfl
                      ·
                        have hb9' := hb9; try simp only [sumB, Bool.not_eq_true', Bool.not_eq_false', Bool.or_eq_true, Bool.or_eq_false_iff, Bool.and_eq_true, Bool.and_eq_false_imp, decide_eq_true_eq, decide_eq_false_iff_not, Bool.not_not, Bool.not_true, Bool.not_false] at hb9'
                        refine AL.val (Wanted.yes rfl rfl rfl) (g_fieldP rfl rfl Try.underlying60 rfl sz3 (by decide)) rfl rfl ?_
                        refine AL.val (Wanted.yes rfl rfl rfl) (g_loadB rfl rfl rfl Try.underlying3 rfl rfl) rfl rfl ?_
                        refine AL.val (Wanted.yes rfl rfl rfl) (g_binI rfl rfl rfl rfl) rfl rfl ?_
                        refine AL.fast 2 rfl ?_
                        refine AL.nil ?_
                        refine then_ok ?_
                        exact Weak.popB 22 rfl rfl (by first | (simp [hb7, hb8, hb9]; done) | (simp_all; done) | (exfalso; simp_all; done) | (simp_all; omega)) rfl
                ·
                  refine AC.cond rfl (fun hc10 => ?_) (fun hc10 => ?_)
                  ·
                    have hc10' := hc10; try simp only [sumB, Bool.not_eq_true', Bool.not_eq_false', Bool.or_eq_true, Bool.or_eq_false_iff, Bool.and_eq_true, Bool.and_eq_false_imp, decide_eq_true_eq, decide_eq_false_iff_not, Bool.not_not, Bool.not_true, Bool.not_false] at hc10'
                    refine AC.seq ?_
                    refine AC.region ?_
                    refine AL.fast 1 rfl ?_
                    refine AL.val (Wanted.plain rfl) (g_build (ys := [(0, (.c (cI 3))), (1, (.c (cI (↑q : Int))))]) rfl bld47 rfl ⟨⟨rfl, rfl⟩, ⟨rfl, rfl⟩,  trivial⟩ rfl rfl) rfl rfl ?_
                    refine AL.sto (h' := [(2, (.box 60 [(cI x1.number), (cI x1.kind), (cI x1.auth), (cI x1.sum)])), (1, (.box 47 [(cI 3), (cI (↑q : Int))])), (0, (.box 58 [(cI s.sent), (cR 4 ((s.kept).map rTransfer))]))]) (Wanted.plain rfl) (g_storeB rfl rfl rfl rfl rfl sz47 rfl (Nat.le_of_ble_eq_true rfl) rfl) rfl rfl rfl rfl ?_
                    refine AL.nil ?_
                    refine then_ok ?_
                    refine AC.ret ?_
                    refine block_ret ?_
                    refine block_ret ?_
                    refine then_ret ?_
                    refine then_ret ?_
                    refine block_ret ?_
                    refine then_ret ?_
                    have hX : wrongSF s = (⟨3, (↑q : Int)⟩ : Fault) := by
                      unfold wrongSF wrongS; rw [if_neg (by omega), if_neg (by omega), hi0_1, scan_bad (c := 3) (by omega) (by unfold tErr; simp only [hx1]; rw [if_neg (by omega), if_pos (by omega)]) (by decide)]
                    rw [hX] at hr; clear hX
                    subst hr
                    refine retQ_mk (av' := outOf [(.g [(cI 3), (cI (↑q : Int))])]) (nb' := []) (retQ_ret ⟨[(2, (aC (.p 1 0 0 0)))], [(1, (.box 47 [(cI 3), (cI (↑q : Int))]))], 2⟩ [.cell 2 47] [(.g [(cI 3), (cI (↑q : Int))])] (Weak.ren id (⟨by first | rfl | (simp only [AV.map, GV.map, CV.map, AB.map', id]; done) | (congr 3; omega) | (congr 4; omega) | (simp only [List.length_append, List.length_cons, List.length_nil, List.length_set]; rfl),  trivial⟩) (⟨by first | rfl | (simp only [AV.map, GV.map, CV.map, AB.map', id]; done) | (congr 3; omega) | (congr 4; omega) | (simp only [List.length_append, List.length_cons, List.length_nil, List.length_set]; rfl),  trivial⟩) rfl) rfl ⟨.agg rfl rfl (fun _ => run_isAgg Try.underlying47) sz47, trivial⟩ trivial) ?_ ?_
                    · first | rfl | (simp [outOf, aC]; done) | (simp [outOf, aC]; omega)
                    · first | rfl | (simp; done) | (simp; omega)
                  ·
                    have hc10' := hc10; try simp only [sumB, Bool.not_eq_true', Bool.not_eq_false', Bool.or_eq_true, Bool.or_eq_false_iff, Bool.and_eq_true, Bool.and_eq_false_imp, decide_eq_true_eq, decide_eq_false_iff_not, Bool.not_not, Bool.not_true, Bool.not_false] at hc10'
                    refine AC.seq ?_
                    refine AC.region ?_
                    refine AL.val (Wanted.plain rfl) (g_fieldP rfl rfl Try.underlying60 rfl sz3 (by decide)) rfl rfl ?_
                    refine AL.val (Wanted.plain rfl) (g_loadB rfl rfl rfl Try.underlying3 rfl rfl) rfl rfl ?_
                    refine AL.val (Wanted.plain rfl) (g_fieldP rfl rfl Try.underlying58 rfl sz3 (by decide)) rfl rfl ?_
                    refine AL.val (Wanted.plain rfl) (g_loadB rfl rfl rfl Try.underlying3 rfl rfl) rfl rfl ?_
                    refine AL.val (Wanted.plain rfl) (g_fieldP rfl rfl Try.underlying58 rfl sz56 (by decide)) rfl rfl ?_
                    refine AL.val (Wanted.plain rfl) (g_loadB rfl rfl rfl Try.underlying56 rfl rfl) rfl rfl ?_
                    refine AL.val (Wanted.plain rfl) (g_lenM rfl rfl rfl rfl rfl Try.underlying56) rfl rfl ?_
                    refine AL.val (Wanted.plain rfl) (g_binI rfl rfl rfl (wrap_ok (by first | omega | (simp; done) | (simp; omega)))) rfl rfl ?_
                    refine AL.val (Wanted.plain rfl) (g_binI rfl rfl rfl (wrap_ok (by first | omega | (simp; done) | (simp; omega)))) rfl rfl ?_
                    refine AL.fast 1 rfl ?_
                    refine AL.val (Wanted.plain rfl) (g_binI rfl rfl rfl (wrap_ok (by first | omega | (simp; done) | (simp; omega)))) rfl rfl ?_
                    refine AL.val (Wanted.plain rfl) (g_binI rfl rfl rfl rfl) rfl rfl ?_
                    refine AL.fast 1 rfl ?_
                    refine AL.nil ?_
                    refine then_ok ?_
                    refine AC.cond rfl (fun hc11 => ?_) (fun hc11 => ?_)
                    ·
                      have hc11' := hc11; try simp only [sumB, Bool.not_eq_true', Bool.not_eq_false', Bool.or_eq_true, Bool.or_eq_false_iff, Bool.and_eq_true, Bool.and_eq_false_imp, decide_eq_true_eq, decide_eq_false_iff_not, Bool.not_not, Bool.not_true, Bool.not_false] at hc11'
                      refine AC.seq ?_
                      refine AC.region ?_
                      refine AL.fast 1 rfl ?_
                      refine AL.val (Wanted.plain rfl) (g_build (ys := [(0, (.c (cI 2))), (1, (.c (cI (↑q : Int))))]) rfl bld47 rfl ⟨⟨rfl, rfl⟩, ⟨rfl, rfl⟩,  trivial⟩ rfl rfl) rfl rfl ?_
                      refine AL.sto (h' := [(2, (.box 60 [(cI x1.number), (cI x1.kind), (cI x1.auth), (cI x1.sum)])), (1, (.box 47 [(cI 2), (cI (↑q : Int))])), (0, (.box 58 [(cI s.sent), (cR 4 ((s.kept).map rTransfer))]))]) (Wanted.plain rfl) (g_storeB rfl rfl rfl rfl rfl sz47 rfl (Nat.le_of_ble_eq_true rfl) rfl) rfl rfl rfl rfl ?_
                      refine AL.nil ?_
                      refine then_ok ?_
                      refine AC.ret ?_
                      refine block_ret ?_
                      refine block_ret ?_
                      refine then_ret ?_
                      refine then_ret ?_
                      refine block_ret ?_
                      refine then_ret ?_
                      have hX : wrongSF s = (⟨2, (↑q : Int)⟩ : Fault) := by
                        unfold wrongSF wrongS; rw [if_neg (by omega), if_neg (by omega), hi0_1, scan_bad (c := 2) (by omega) (by unfold tErr; simp only [hx1]; rw [if_neg (by omega), if_neg (by omega), if_pos (by omega)]) (by decide)]
                      rw [hX] at hr; clear hX
                      subst hr
                      refine retQ_mk (av' := outOf [(.g [(cI 2), (cI (↑q : Int))])]) (nb' := []) (retQ_ret ⟨[(2, (aC (.p 1 0 0 0)))], [(1, (.box 47 [(cI 2), (cI (↑q : Int))]))], 2⟩ [.cell 2 47] [(.g [(cI 2), (cI (↑q : Int))])] (Weak.ren id (⟨by first | rfl | (simp only [AV.map, GV.map, CV.map, AB.map', id]; done) | (congr 3; omega) | (congr 4; omega) | (simp only [List.length_append, List.length_cons, List.length_nil, List.length_set]; rfl),  trivial⟩) (⟨by first | rfl | (simp only [AV.map, GV.map, CV.map, AB.map', id]; done) | (congr 3; omega) | (congr 4; omega) | (simp only [List.length_append, List.length_cons, List.length_nil, List.length_set]; rfl),  trivial⟩) rfl) rfl ⟨.agg rfl rfl (fun _ => run_isAgg Try.underlying47) sz47, trivial⟩ trivial) ?_ ?_
                      · first | rfl | (simp [outOf, aC]; done) | (simp [outOf, aC]; omega)
                      · first | rfl | (simp; done) | (simp; omega)
                    ·
                      have hc11' := hc11; try simp only [sumB, Bool.not_eq_true', Bool.not_eq_false', Bool.or_eq_true, Bool.or_eq_false_iff, Bool.and_eq_true, Bool.and_eq_false_imp, decide_eq_true_eq, decide_eq_false_iff_not, Bool.not_not, Bool.not_true, Bool.not_false] at hc11'
                      refine AC.skip ?_
                      refine block_ok ?_
                      refine block_ok ?_
                      refine then_ok ?_
                      refine AC.region ?_
                      refine AL.val (Wanted.plain rfl) (g_binI rfl rfl rfl (wrap_ok (by first | omega | (simp; done) | (simp; omega)))) rfl rfl ?_
                      refine AL.fast 1 rfl ?_
                      refine AL.nil ?_
                      refine then_ok ?_
                      refine ⟨q + 1, ⟨by omega, by rw [hi0_1]; exact scan_ok (by omega) (by unfold tErr; simp only [hx1]; rw [if_neg (by omega), if_neg (by omega), if_neg (by omega)])⟩, by first | omega | (simp; done) | (simp; omega), Weak.ren id (⟨by first | rfl | (simp only [AV.map, GV.map, CV.map, AB.map', id]; done) | (congr 3; omega) | (congr 4; omega) | (simp only [List.length_append, List.length_cons, List.length_nil, List.length_set]; rfl), by first | rfl | (simp only [AV.map, GV.map, CV.map, AB.map', id]; done) | (congr 3; omega) | (congr 4; omega) | (simp only [List.length_append, List.length_cons, List.length_nil, List.length_set]; rfl), by first | rfl | (simp only [AV.map, GV.map, CV.map, AB.map', id]; done) | (congr 3; omega) | (congr 4; omega) | (simp only [List.length_append, List.length_cons, List.length_nil, List.length_set]; rfl), by first | rfl | (simp only [AV.map, GV.map, CV.map, AB.map', id]; done) | (congr 3; omega) | (congr 4; omega) | (simp only [List.length_append, List.length_cons, List.length_nil, List.length_set]; rfl), by first | rfl | (simp only [AV.map, GV.map, CV.map, AB.map', id]; done) | (congr 3; omega) | (congr 4; omega) | (simp only [List.length_append, List.length_cons, List.length_nil, List.length_set]; rfl),  trivial⟩) (⟨by first | rfl | (simp only [AV.map, GV.map, CV.map, AB.map', id]; done) | (congr 3; omega) | (congr 4; omega) | (simp only [List.length_append, List.length_cons, List.length_nil, List.length_set]; rfl), by first | rfl | (simp only [AV.map, GV.map, CV.map, AB.map', id]; done) | (congr 3; omega) | (congr 4; omega) | (simp only [List.length_append, List.length_cons, List.length_nil, List.length_set]; rfl),  trivial⟩) rfl⟩
          ·
            have hc4' := hc4; try simp only [sumB, Bool.not_eq_true', Bool.not_eq_false', Bool.or_eq_true, Bool.or_eq_false_iff, Bool.and_eq_true, Bool.and_eq_false_imp, decide_eq_true_eq, decide_eq_false_iff_not, Bool.not_not, Bool.not_true, Bool.not_false] at hc4'
            refine AC.exit ?_
            refine then_exit ?_
            refine then_exit ?_
            refine block_hit ?_
            refine then_ok ?_
            refine AC.seq ?_
            refine AC.region ?_
            refine AL.val (Wanted.plain rfl) (g_build (ys := []) rfl bld47 rfl trivial rfl rfl) rfl rfl ?_
            refine AL.sto (h' := [(1, (.box 47 [(cI 0), (cI 0)])), (0, (.box 58 [(cI s.sent), (cR 4 ((s.kept).map rTransfer))]))]) (Wanted.plain rfl) (g_storeB rfl rfl rfl rfl rfl sz47 rfl (Nat.le_of_ble_eq_true rfl) rfl) rfl rfl rfl rfl ?_
            refine AL.nil ?_
            refine then_ok ?_
            refine AC.ret ?_
            have hX : wrongSF s = (⟨0, 0⟩ : Fault) := by
              unfold wrongSF wrongS; rw [if_neg (by omega), if_neg (by omega), hi0_1, scan_end (by omega)]
            rw [hX] at hr; clear hX
            subst hr
            refine retQ_mk (av' := outOf [(.g [(cI 0), (cI 0)])]) (nb' := []) (retQ_ret ⟨[(2, (aC (.p 1 0 0 0)))], [(1, (.box 47 [(cI 0), (cI 0)]))], 2⟩ [.cell 2 47] [(.g [(cI 0), (cI 0)])] (Weak.ren id (⟨by first | rfl | (simp only [AV.map, GV.map, CV.map, AB.map', id]; done) | (congr 3; omega) | (congr 4; omega) | (simp only [List.length_append, List.length_cons, List.length_nil, List.length_set]; rfl),  trivial⟩) (⟨by first | rfl | (simp only [AV.map, GV.map, CV.map, AB.map', id]; done) | (congr 3; omega) | (congr 4; omega) | (simp only [List.length_append, List.length_cons, List.length_nil, List.length_set]; rfl),  trivial⟩) rfl) rfl ⟨.agg rfl rfl (fun _ => run_isAgg Try.underlying47) sz47, trivial⟩ trivial) ?_ ?_
            · first | rfl | (simp [outOf, aC]; done) | (simp [outOf, aC]; omega)
            · first | rfl | (simp; done) | (simp; omega)
set_option maxRecDepth 100000 in
set_option maxHeartbeats 1000000 in
theorem c_bad (e i : Int) : Fn Try.prog 107 [(.c (cI e)), (.c (.q ([dI i]) 0))] (aG [cI e, cI i]) [] := by
  refine Fn.mk' 7 [(0, (aI e)), (1, (aC (.q ([dI i]) 0)))] Try.func107 rfl rfl rfl rfl ?_
  intro W0 T0
  refine AC.seq ?_
  refine AC.region ?_
  refine AL.new (n' := 1) (Wanted.plain rfl) (g_alloc 0 rfl zv47 rfl rfl rfl) rfl rfl rfl ?_
  refine AL.nil ?_
  refine then_ok ?_
  refine AC.seq ?_
  refine AC.region ?_
  refine AL.fast 1 rfl ?_
  refine AL.val (Wanted.plain rfl) (g_loadQ rfl rfl Try.underlying3 rfl rfl) rfl rfl ?_
  refine AL.val (Wanted.plain rfl) (g_build (ys := [(0, (.c (cI e))), (1, (.c (cI i)))]) rfl bld47 rfl ⟨⟨rfl, rfl⟩, ⟨rfl, rfl⟩,  trivial⟩ rfl rfl) rfl rfl ?_
  refine AL.sto (h' := [(0, (.box 47 [(cI e), (cI i)]))]) (Wanted.plain rfl) (g_storeB rfl rfl rfl rfl rfl sz47 rfl (Nat.le_of_ble_eq_true rfl) rfl) rfl rfl rfl rfl ?_
  refine AL.nil ?_
  refine then_ok ?_
  refine AC.ret ?_
  refine retQ_mk (av' := outOf [(.g [(cI e), (cI i)])]) (nb' := []) (retQ_ret ⟨[(3, (aC (.p 0 0 0 0)))], [(0, (.box 47 [(cI e), (cI i)]))], 1⟩ [.cell 3 47] [(.g [(cI e), (cI i)])] (Weak.ren id (⟨by first | rfl | (simp only [AV.map, GV.map, CV.map, AB.map', id]; done) | (congr 3; omega) | (congr 4; omega) | (simp only [List.length_append, List.length_cons, List.length_nil, List.length_set]; rfl),  trivial⟩) (⟨by first | rfl | (simp only [AV.map, GV.map, CV.map, AB.map', id]; done) | (congr 3; omega) | (congr 4; omega) | (simp only [List.length_append, List.length_cons, List.length_nil, List.length_set]; rfl),  trivial⟩) rfl) rfl ⟨.agg rfl rfl (fun _ => run_isAgg Try.underlying47) sz47, trivial⟩ trivial) ?_ ?_
  · first | rfl | (simp [outOf, aC]; done) | (simp [outOf, aC]; omega)
  · rfl
set_option maxRecDepth 100000 in
set_option maxHeartbeats 1000000 in
theorem c_ref_WrongSender (s : Sender) (hI : ∀ t ∈ s.kept, InI t.number) (f : Fault) (hr : wrongSF s = f) : Fn Try.prog 49 [(.g [(cI s.sent), (cR 4 ((s.kept).map rTransfer))])] (.v (.g [(cI f.err), (cI f.at_)])) [] := by
  refine Fn.mk' 81 [(0, (aG [(cI s.sent), (cR 4 ((s.kept).map rTransfer))]))] Try.func49 rfl rfl rfl rfl ?_
  intro W0 T0
  refine AC.lenG 0 1 rfl rfl (fun hlen0_1 => ?_)
  refine AC.seq ?_
  refine AC.region ?_
  refine AL.new (n' := 1) (Wanted.plain rfl) (g_boxS 0 rfl rfl) rfl rfl rfl ?_
  refine AL.new (n' := 2) (Wanted.plain rfl) (g_alloc 1 rfl zv47 rfl rfl rfl) rfl rfl rfl ?_
  refine AL.nil ?_
  refine then_ok ?_
  refine AC.seq ?_
  refine AC.region ?_
  refine AL.val (Wanted.plain rfl) (g_fieldP rfl rfl Try.underlying58 rfl sz56 (by decide)) rfl rfl ?_
  refine AL.val (Wanted.plain rfl) (g_loadB rfl rfl rfl Try.underlying56 rfl rfl) rfl rfl ?_
  refine AL.val (Wanted.plain rfl) (g_lenM rfl rfl rfl rfl rfl Try.underlying56) rfl rfl ?_
  refine AL.fast 1 rfl ?_
  refine AL.nil ?_
  refine then_ok ?_
  refine AC.seq ?_
  refine AC.seq ?_
  refine AC.region ?_
  refine AL.fast 1 rfl ?_
  refine AL.val (Wanted.plain rfl) (g_binI rfl rfl rfl rfl) rfl rfl ?_
  refine AL.nil ?_
  refine then_ok ?_
  refine AC.cond rfl (fun hc1 => ?_) (fun hc1 => ?_)
  ·
    have hc1' := hc1; try simp only [sumB, Bool.not_eq_true', Bool.not_eq_false', Bool.or_eq_true, Bool.or_eq_false_iff, Bool.and_eq_true, Bool.and_eq_false_imp, decide_eq_true_eq, decide_eq_false_iff_not, Bool.not_not, Bool.not_true, Bool.not_false] at hc1'
    refine AC.seq ?_
    refine AC.region ?_
    refine AL.val (Wanted.plain rfl) (g_build (ys := [(0, (.c (cI 5)))]) rfl bld47 rfl ⟨⟨rfl, rfl⟩,  trivial⟩ rfl rfl) rfl rfl ?_
    refine AL.sto (h' := [(1, (.box 47 [(cI 5), (cI 0)])), (0, (.box 58 [(cI s.sent), (cR 4 ((s.kept).map rTransfer))]))]) (Wanted.plain rfl) (g_storeB rfl rfl rfl rfl rfl sz47 rfl (Nat.le_of_ble_eq_true rfl) rfl) rfl rfl rfl rfl ?_
    refine AL.nil ?_
    refine then_ok ?_
    refine AC.ret ?_
    refine then_ret ?_
    have hX : wrongSF s = (⟨5, 0⟩ : Fault) := by
      unfold wrongSF wrongS; rw [if_pos (by omega)]
    rw [hX] at hr; clear hX
    subst hr
    refine retQ_mk (av' := outOf [(.g [(cI 5), (cI 0)])]) (nb' := []) (retQ_ret ⟨[(2, (aC (.p 1 0 0 0)))], [(1, (.box 47 [(cI 5), (cI 0)]))], 2⟩ [.cell 2 47] [(.g [(cI 5), (cI 0)])] (Weak.ren id (⟨by first | rfl | (simp only [AV.map, GV.map, CV.map, AB.map', id]; done) | (congr 3; omega) | (congr 4; omega) | (simp only [List.length_append, List.length_cons, List.length_nil, List.length_set]; rfl),  trivial⟩) (⟨by first | rfl | (simp only [AV.map, GV.map, CV.map, AB.map', id]; done) | (congr 3; omega) | (congr 4; omega) | (simp only [List.length_append, List.length_cons, List.length_nil, List.length_set]; rfl),  trivial⟩) rfl) rfl ⟨.agg rfl rfl (fun _ => run_isAgg Try.underlying47) sz47, trivial⟩ trivial) ?_ ?_
    · first | rfl | (simp [outOf, aC]; done) | (simp [outOf, aC]; omega)
    · first | rfl | (simp; done) | (simp; omega)
  ·
    have hc1' := hc1; try simp only [sumB, Bool.not_eq_true', Bool.not_eq_false', Bool.or_eq_true, Bool.or_eq_false_iff, Bool.and_eq_true, Bool.and_eq_false_imp, decide_eq_true_eq, decide_eq_false_iff_not, Bool.not_not, Bool.not_true, Bool.not_false] at hc1'
    refine AC.skip ?_
    refine then_ok ?_
    refine AC.seq ?_
    refine AC.cutB 21 ((decide (s.sent > 1000000)) || (decide (s.sent < (↑s.kept.length : Int)))) ?_ ?_
    ·
      refine AC.region ?_
      refine AL.val (Wanted.plain rfl) (g_fieldP rfl rfl Try.underlying58 rfl sz3 (by decide)) rfl rfl ?_
      refine AL.val (Wanted.plain rfl) (g_loadB rfl rfl rfl Try.underlying3 rfl rfl) rfl rfl ?_
      refine AL.val (Wanted.plain rfl) (g_binI rfl rfl rfl rfl) rfl rfl ?_
      refine AL.fast 1 rfl ?_
      refine AL.dec (t := 16) rfl (fun hb2 => ?_) (fun hb2 => ?_)
      ·
        have hb2' := hb2; try simp only [sumB, Bool.not_eq_true', Bool.not_eq_false', Bool.or_eq_true, Bool.or_eq_false_iff, Bool.and_eq_true, Bool.and_eq_false_imp, decide_eq_true_eq, decide_eq_false_iff_not, Bool.not_not, Bool.not_true, Bool.not_false] at hb2'
        refine AL.fast 5 rfl ?_
        refine AL.nil ?_
        refine then_ok ?_
        exact Weak.popB 10 rfl rfl (by first | (simp [hb2]; done) | (simp_all; done) | (exfalso; simp_all; done) | (simp_all; omega)) rfl
      ·
        have hb2' := hb2; try simp only [sumB, Bool.not_eq_true', Bool.not_eq_false', Bool.or_eq_true, Bool.or_eq_false_iff, Bool.and_eq_true, Bool.and_eq_false_imp, decide_eq_true_eq, decide_eq_false_iff_not, Bool.not_not, Bool.not_true, Bool.not_false] at hb2'
        refine AL.val (Wanted.yes rfl rfl rfl) (g_fieldP rfl rfl Try.underlying58 rfl sz3 (by decide)) rfl rfl ?_
        refine AL.val (Wanted.yes rfl rfl rfl) (g_loadB rfl rfl rfl Try.underlying3 rfl rfl) rfl rfl ?_
        refine AL.fast 1 rfl ?_
        refine AL.val (Wanted.yes rfl rfl rfl) (g_binI rfl rfl rfl rfl) rfl rfl ?_
        refine AL.fast 1 rfl ?_
        refine AL.nil ?_
        refine then_ok ?_
        exact Weak.popB 10 rfl rfl (by first | (simp [hb2]; done) | (simp_all; done) | (exfalso; simp_all; done) | (simp_all; omega)) rfl
    ·
      refine AC.cond rfl (fun hc3 => ?_) (fun hc3 => ?_)
      ·
        have hc3' := hc3; try simp only [sumB, Bool.not_eq_true', Bool.not_eq_false', Bool.or_eq_true, Bool.or_eq_false_iff, Bool.and_eq_true, Bool.and_eq_false_imp, decide_eq_true_eq, decide_eq_false_iff_not, Bool.not_not, Bool.not_true, Bool.not_false] at hc3'
        refine AC.seq ?_
        refine AC.region ?_
        refine AL.val (Wanted.plain rfl) (g_build (ys := [(0, (.c (cI 3)))]) rfl bld47 rfl ⟨⟨rfl, rfl⟩,  trivial⟩ rfl rfl) rfl rfl ?_
        refine AL.sto (h' := [(1, (.box 47 [(cI 3), (cI 0)])), (0, (.box 58 [(cI s.sent), (cR 4 ((s.kept).map rTransfer))]))]) (Wanted.plain rfl) (g_storeB rfl rfl rfl rfl rfl sz47 rfl (Nat.le_of_ble_eq_true rfl) rfl) rfl rfl rfl rfl ?_
        refine AL.nil ?_
        refine then_ok ?_
        refine AC.ret ?_
        refine then_ret ?_
        have hX : wrongSF s = (⟨3, 0⟩ : Fault) := by
          unfold wrongSF wrongS; rw [if_neg (by omega), if_pos (by omega)]
        rw [hX] at hr; clear hX
        subst hr
        refine retQ_mk (av' := outOf [(.g [(cI 3), (cI 0)])]) (nb' := []) (retQ_ret ⟨[(2, (aC (.p 1 0 0 0)))], [(1, (.box 47 [(cI 3), (cI 0)]))], 2⟩ [.cell 2 47] [(.g [(cI 3), (cI 0)])] (Weak.ren id (⟨by first | rfl | (simp only [AV.map, GV.map, CV.map, AB.map', id]; done) | (congr 3; omega) | (congr 4; omega) | (simp only [List.length_append, List.length_cons, List.length_nil, List.length_set]; rfl),  trivial⟩) (⟨by first | rfl | (simp only [AV.map, GV.map, CV.map, AB.map', id]; done) | (congr 3; omega) | (congr 4; omega) | (simp only [List.length_append, List.length_cons, List.length_nil, List.length_set]; rfl),  trivial⟩) rfl) rfl ⟨.agg rfl rfl (fun _ => run_isAgg Try.underlying47) sz47, trivial⟩ trivial) ?_ ?_
        · first | rfl | (simp [outOf, aC]; done) | (simp [outOf, aC]; omega)
        · first | rfl | (simp; done) | (simp; omega)
      ·
        have hc3' := hc3; try simp only [sumB, Bool.not_eq_true', Bool.not_eq_false', Bool.or_eq_true, Bool.or_eq_false_iff, Bool.and_eq_true, Bool.and_eq_false_imp, decide_eq_true_eq, decide_eq_false_iff_not, Bool.not_not, Bool.not_true, Bool.not_false] at hc3'
        refine AC.skip ?_
        refine then_ok ?_
        refine AC.seq ?_
        refine AC.seq ?_
        refine AC.region ?_
        refine AL.val (Wanted.plain rfl) (g_fieldP rfl rfl Try.underlying58 rfl sz56 (by decide)) rfl rfl ?_
        refine AL.val (Wanted.plain rfl) (g_loadB rfl rfl rfl Try.underlying56 rfl rfl) rfl rfl ?_
        refine AL.val (Wanted.plain rfl) (g_lenM rfl rfl rfl rfl rfl Try.underlying56) rfl rfl ?_
        refine AL.fast 1 rfl ?_
        refine AL.nil ?_
        refine then_ok ?_
        refine AC.block ?_
        refine AC.loop (β := Nat) (fun (q : Nat) => ⟨[(1, (aC (.p 0 0 0 0))), (2, (aC (.p 1 0 0 0))), (3, (aI (↑s.kept.length : Int))), (24, (aC (cR 4 ((s.kept).map rTransfer)))), (25, (aI (↑s.kept.length : Int))), (26, (aI (↑q : Int)))], [(1, (.box 47 [(cI 0), (cI 0)])), (0, (.box 58 [(cI s.sent), (cR 4 ((s.kept).map rTransfer))]))], 2⟩) (fun (q : Nat) => q ≤ s.kept.length ∧ scan (tErr s) 0 s.kept.length = scan (tErr s) q (s.kept.length - q)) (fun (q : Nat) => s.kept.length - q) 0 ?_ ?_ ?_
        · exact ⟨by omega, rfl⟩
        · exact Weak.ren id (⟨by first | rfl | (simp only [AV.map, GV.map, CV.map, AB.map', id]; done) | (congr 3; omega) | (congr 4; omega) | (simp only [List.length_append, List.length_cons, List.length_nil, List.length_set]; rfl), by first | rfl | (simp only [AV.map, GV.map, CV.map, AB.map', id]; done) | (congr 3; omega) | (congr 4; omega) | (simp only [List.length_append, List.length_cons, List.length_nil, List.length_set]; rfl), by first | rfl | (simp only [AV.map, GV.map, CV.map, AB.map', id]; done) | (congr 3; omega) | (congr 4; omega) | (simp only [List.length_append, List.length_cons, List.length_nil, List.length_set]; rfl), by first | rfl | (simp only [AV.map, GV.map, CV.map, AB.map', id]; done) | (congr 3; omega) | (congr 4; omega) | (simp only [List.length_append, List.length_cons, List.length_nil, List.length_set]; rfl), by first | rfl | (simp only [AV.map, GV.map, CV.map, AB.map', id]; done) | (congr 3; omega) | (congr 4; omega) | (simp only [List.length_append, List.length_cons, List.length_nil, List.length_set]; rfl), by first | rfl | (simp only [AV.map, GV.map, CV.map, AB.map', id]; done) | (congr 3; omega) | (congr 4; omega) | (simp only [List.length_append, List.length_cons, List.length_nil, List.length_set]; rfl),  trivial⟩) (⟨by first | rfl | (simp only [AV.map, GV.map, CV.map, AB.map', id]; done) | (congr 3; omega) | (congr 4; omega) | (simp only [List.length_append, List.length_cons, List.length_nil, List.length_set]; rfl), by first | rfl | (simp only [AV.map, GV.map, CV.map, AB.map', id]; done) | (congr 3; omega) | (congr 4; omega) | (simp only [List.length_append, List.length_cons, List.length_nil, List.length_set]; rfl),  trivial⟩) rfl
        ·
          rintro q ⟨hi0_0, hi0_1⟩
          refine AC.seq ?_
          refine AC.region ?_
          refine AL.val (Wanted.plain rfl) (g_binI rfl rfl rfl rfl) rfl rfl ?_
          refine AL.nil ?_
          refine then_ok ?_
          refine AC.seq ?_
          refine AC.cond rfl (fun hc4 => ?_) (fun hc4 => ?_)
          ·
            have hc4' := hc4; try simp only [sumB, Bool.not_eq_true', Bool.not_eq_false', Bool.or_eq_true, Bool.or_eq_false_iff, Bool.and_eq_true, Bool.and_eq_false_imp, decide_eq_true_eq, decide_eq_false_iff_not, Bool.not_not, Bool.not_true, Bool.not_false] at hc4'
            refine AC.skip ?_
            refine then_ok ?_
            refine AC.seq ?_
            refine AC.block ?_
            refine AC.seq ?_
            refine AC.region ?_
            refine AL.fast 1 rfl ?_
            obtain ⟨x1, hx1⟩ := exget (xs := s.kept) (i := q) (by first | omega | (simp; done) | (simp; omega))
            have hx1b := hI x1 (List.mem_of_getElem? hx1)
            unfold InI at hx1b
            refine AL.val (Wanted.plain rfl) (g_indexQ (i := q) rfl rfl rfl Try.underlying56 sz60 (by first | omega | (simp; done) | (simp; omega)) (getmap hx1)) rfl rfl ?_
            refine AL.val (Wanted.plain rfl) (g_loadQs rfl rfl Try.underlying60 rfl sz60 rfl rfl) rfl rfl ?_
            refine AL.new (n' := 3) (Wanted.plain rfl) (g_alloc 2 rfl zv3 rfl rfl rfl) rfl rfl rfl ?_
            refine AL.new (n' := 4) (Wanted.plain rfl) (g_alloc 3 rfl zv60 rfl rfl rfl) rfl rfl rfl ?_
            refine AL.sto (h' := [(3, (.box 60 [(cI 0), (cI 0), (cI 0), (cI 0)])), (2, (.box 3 [(cI (↑q : Int))])), (1, (.box 47 [(cI 0), (cI 0)])), (0, (.box 58 [(cI s.sent), (cR 4 ((s.kept).map rTransfer))]))]) (Wanted.plain rfl) (g_storeB rfl rfl rfl rfl rfl sz3 rfl (Nat.le_of_ble_eq_true rfl) rfl) rfl rfl rfl rfl ?_
            refine AL.sto (h' := [(3, (.box 60 [(cI x1.number), (cI x1.kind), (cI x1.auth), (cI x1.sum)])), (2, (.box 3 [(cI (↑q : Int))])), (1, (.box 47 [(cI 0), (cI 0)])), (0, (.box 58 [(cI s.sent), (cR 4 ((s.kept).map rTransfer))]))]) (Wanted.plain rfl) (g_storeB rfl rfl rfl rfl rfl sz60 rfl (Nat.le_of_ble_eq_true rfl) rfl) rfl rfl rfl rfl ?_
            refine AL.nil ?_
            refine then_ok ?_
            refine AC.seq ?_
            refine AC.region ?_
            refine AL.val (Wanted.plain rfl) (g_func (ks := [2]) rfl ⟨rfl, trivial⟩) rfl rfl ?_
            refine AL.fast 1 rfl ?_
            refine AL.nil ?_
            refine then_ok ?_
            refine AC.seq ?_
            refine AC.cutB 44 (((decide (¬ x1.kind = 1)) && (decide (¬ x1.kind = 2))) && (decide (¬ x1.kind = 3))) ?_ ?_
            ·
              refine AC.region ?_
              refine AL.val (Wanted.plain rfl) (g_fieldP rfl rfl Try.underlying60 rfl sz3 (by decide)) rfl rfl ?_
              refine AL.val (Wanted.plain rfl) (g_loadB rfl rfl rfl Try.underlying3 rfl rfl) rfl rfl ?_
              refine AL.val (Wanted.plain rfl) (g_binI rfl rfl rfl rfl) rfl rfl ?_
              refine AL.fast 1 rfl ?_
              refine AL.dec (t := 35) rfl (fun hb5 => ?_) (fun hb5 => ?_)
              ·
                have hb5' := hb5; try simp only [sumB, Bool.not_eq_true', Bool.not_eq_false', Bool.or_eq_true, Bool.or_eq_false_iff, Bool.and_eq_true, Bool.and_eq_false_imp, decide_eq_true_eq, decide_eq_false_iff_not, Bool.not_not, Bool.not_true, Bool.not_false] at hb5'
                refine AL.val (Wanted.yes rfl rfl rfl) (g_fieldP rfl rfl Try.underlying60 rfl sz3 (by decide)) rfl rfl ?_
                refine AL.val (Wanted.yes rfl rfl rfl) (g_loadB rfl rfl rfl Try.underlying3 rfl rfl) rfl rfl ?_
                refine AL.val (Wanted.yes rfl rfl rfl) (g_binI rfl rfl rfl rfl) rfl rfl ?_
                refine AL.fast 2 rfl ?_
                refine AL.dec (t := 40) rfl (fun hb6 => ?_) (fun hb6 => ?_)
                ·
                  have hb6' := hb6; try simp only [sumB, Bool.not_eq_true', Bool.not_eq_false', Bool.or_eq_true, Bool.or_eq_false_iff, Bool.and_eq_true, Bool.and_eq_false_imp, decide_eq_true_eq, decide_eq_false_iff_not, Bool.not_not, Bool.not_true, Bool.not_false] at hb6'
                  refine AL.val (Wanted.yes rfl rfl rfl) (g_fieldP rfl rfl Try.underlying60 rfl sz3 (by decide)) rfl rfl ?_
                  refine AL.val (Wanted.yes rfl rfl rfl) (g_loadB rfl rfl rfl Try.underlying3 rfl rfl) rfl rfl ?_
                  refine AL.val (Wanted.yes rfl rfl rfl) (g_binI rfl rfl rfl rfl) rfl rfl ?_
                  refine AL.fast 1 rfl ?_
                  refine AL.nil ?_
                  refine then_ok ?_
                  exact Weak.popB 15 rfl rfl (by first | (simp [hb5, hb6]; done) | (simp_all; done) | (exfalso; simp_all; done) | (simp_all; omega)) rfl
                ·
                  have hb6' := hb6; try simp only [sumB, Bool.not_eq_true', Bool.not_eq_false', Bool.or_eq_true, Bool.or_eq_false_iff, Bool.and_eq_true, Bool.and_eq_false_imp, decide_eq_true_eq, decide_eq_false_iff_not, Bool.not_not, Bool.not_true, Bool.not_false] at hb6'
                  refine AL.fast 4 rfl ?_
                  refine AL.nil ?_
                  refine then_ok ?_
                  exact Weak.popB 15 rfl rfl (by first | (simp [hb5, hb6]; done) | (simp_all; done) | (exfalso; simp_all; done) | (simp_all; omega)) rfl
              ·
                have hb5' := hb5; try simp only [sumB, Bool.not_eq_true', Bool.not_eq_false', Bool.or_eq_true, Bool.or_eq_false_iff, Bool.and_eq_true, Bool.and_eq_false_imp, decide_eq_true_eq, decide_eq_false_iff_not, Bool.not_not, Bool.not_true, Bool.not_false] at hb5'
                refine AL.fast 9 rfl ?_
                refine AL.nil ?_
                refine then_ok ?_
                exact Weak.popB 14 rfl rfl (by first | (simp [hb5]; done) | (simp_all; done) | (exfalso; simp_all; done) | (simp_all; omega)) rfl
            ·
              refine AC.cond rfl (fun hc7 => ?_) (fun hc7 => ?_)
              ·
                have hc7' := hc7; try simp only [sumB, Bool.not_eq_true', Bool.not_eq_false', Bool.or_eq_true, Bool.or_eq_false_iff, Bool.and_eq_true, Bool.and_eq_false_imp, decide_eq_true_eq, decide_eq_false_iff_not, Bool.not_not, Bool.not_true, Bool.not_false] at hc7'
                refine AC.seq ?_
                refine AC.region ?_
                refine AL.fast 1 rfl ?_
                refine AL.call (n' := 4) (h' := [(3, (.box 60 [(cI x1.number), (cI x1.kind), (cI x1.auth), (cI x1.sum)])), (2, (.box 3 [(cI (↑q : Int))])), (1, (.box 47 [(cI 0), (cI 0)])), (0, (.box 58 [(cI s.sent), (cR 4 ((s.kept).map rTransfer))]))]) (Wanted.plain rfl) (g_callFE 4 [2] (ins := [(.c (cI 1))]) (caps := [[(dI (↑q : Int))]]) (c_bad 1 (↑q : Int)) en107 rfl rfl rfl (.fn ⟨⟨by decide, _, rfl⟩,  trivial⟩) ⟨⟨_, rfl, .c (.d _)⟩,  trivial⟩ ⟨rfl, rfl,  trivial⟩ trivial rfl rfl rfl rfl) rfl rfl rfl rfl rfl ?_
                refine AL.sto (h' := [(3, (.box 60 [(cI x1.number), (cI x1.kind), (cI x1.auth), (cI x1.sum)])), (2, (.box 3 [(cI (↑q : Int))])), (1, (.box 47 [(cI 1), (cI (↑q : Int))])), (0, (.box 58 [(cI s.sent), (cR 4 ((s.kept).map rTransfer))]))]) (Wanted.plain rfl) (g_storeB rfl rfl rfl rfl rfl sz47 rfl (Nat.le_of_ble_eq_true rfl) rfl) rfl rfl rfl rfl ?_
                refine AL.nil ?_
                refine then_ok ?_
                refine AC.ret ?_
                refine then_ret ?_
                refine block_ret ?_
                refine then_ret ?_
                refine then_ret ?_
                refine block_ret ?_
                refine then_ret ?_
                have hX : wrongSF s = (⟨1, (↑q : Int)⟩ : Fault) := by
                  unfold wrongSF wrongS; rw [if_neg (by omega), if_neg (by omega), hi0_1, scan_bad (c := 1) (by omega) (by unfold tErr; simp only [hx1]; rw [if_pos (by omega)]) (by decide)]
                rw [hX] at hr; clear hX
                subst hr
                refine retQ_mk (av' := outOf [(.g [(cI 1), (cI (↑q : Int))])]) (nb' := []) (retQ_ret ⟨[(2, (aC (.p 1 0 0 0)))], [(1, (.box 47 [(cI 1), (cI (↑q : Int))]))], 2⟩ [.cell 2 47] [(.g [(cI 1), (cI (↑q : Int))])] (Weak.ren id (⟨by first | rfl | (simp only [AV.map, GV.map, CV.map, AB.map', id]; done) | (congr 3; omega) | (congr 4; omega) | (simp only [List.length_append, List.length_cons, List.length_nil, List.length_set]; rfl),  trivial⟩) (⟨by first | rfl | (simp only [AV.map, GV.map, CV.map, AB.map', id]; done) | (congr 3; omega) | (congr 4; omega) | (simp only [List.length_append, List.length_cons, List.length_nil, List.length_set]; rfl),  trivial⟩) rfl) rfl ⟨.agg rfl rfl (fun _ => run_isAgg Try.underlying47) sz47, trivial⟩ trivial) ?_ ?_
                · first | rfl | (simp [outOf, aC]; done) | (simp [outOf, aC]; omega)
                · first | rfl | (simp; done) | (simp; omega)
              ·
                have hc7' := hc7; try simp only [sumB, Bool.not_eq_true', Bool.not_eq_false', Bool.or_eq_true, Bool.or_eq_false_iff, Bool.and_eq_true, Bool.and_eq_false_imp, decide_eq_true_eq, decide_eq_false_iff_not, Bool.not_not, Bool.not_true, Bool.not_false] at hc7'
                refine AC.skip ?_
                refine then_ok ?_
                refine AC.seq ?_
                refine AC.cutB 64 ((((decide (x1.auth < 0)) || (decide (x1.auth > 29))) || (decide (x1.sum < 1))) || (decide (x1.sum > 1000000))) ?_ ?_
                ·
                  refine AC.region ?_
                  refine AL.val (Wanted.plain rfl) (g_fieldP rfl rfl Try.underlying60 rfl sz3 (by decide)) rfl rfl ?_
                  refine AL.val (Wanted.plain rfl) (g_loadB rfl rfl rfl Try.underlying3 rfl rfl) rfl rfl ?_
                  refine AL.val (Wanted.plain rfl) (g_binI rfl rfl rfl rfl) rfl rfl ?_
                  refine AL.fast 1 rfl ?_
                  refine AL.dec (t := 50) rfl (fun hb8 => ?_) (fun hb8 => ?_)
                  ·
                    have hb8' := hb8; try simp only [sumB, Bool.not_eq_true', Bool.not_eq_false', Bool.or_eq_true, Bool.or_eq_false_iff, Bool.and_eq_true, Bool.and_eq_false_imp, decide_eq_true_eq, decide_eq_false_iff_not, Bool.not_not, Bool.not_true, Bool.not_false] at hb8'
                    refine AL.fast 14 rfl ?_
                    refine AL.nil ?_
                    refine then_ok ?_
                    exact Weak.popB 19 rfl rfl (by first | (simp [hb8]; done) | (simp_all; done) | (exfalso; simp_all; done) | (simp_all; omega)) rfl
                  ·
                    have hb8' := hb8; try simp only [sumB, Bool.not_eq_true', Bool.not_eq_false', Bool.or_eq_true, Bool.or_eq_false_iff, Bool.and_eq_true, Bool.and_eq_false_imp, decide_eq_true_eq, decide_eq_false_iff_not, Bool.not_not, Bool.not_true, Bool.not_false] at hb8'
                    refine AL.val (Wanted.yes rfl rfl rfl) (g_fieldP rfl rfl Try.underlying60 rfl sz3 (by decide)) rfl rfl ?_
                    refine AL.val (Wanted.yes rfl rfl rfl) (g_loadB rfl rfl rfl Try.underlying3 rfl rfl) rfl rfl ?_
                    refine AL.val (Wanted.yes rfl rfl rfl) (g_binI rfl rfl rfl rfl) rfl rfl ?_
                    refine AL.fast 2 rfl ?_
                    refine AL.dec (t := 55) rfl (fun hb9 => ?_) (fun hb9 => ?_)
                    ·
                      have hb9' := hb9; try simp only [sumB, Bool.not_eq_true', Bool.not_eq_false', Bool.or_eq_true, Bool.or_eq_false_iff, Bool.and_eq_true, Bool.and_eq_false_imp, decide_eq_true_eq, decide_eq_false_iff_not, Bool.not_not, Bool.not_true, Bool.not_false] at hb9'
                      refine AL.fast 9 rfl ?_
                      refine AL.nil ?_
                      refine then_ok ?_
                      exact Weak.popB 20 rfl rfl (by first | (simp [hb8, hb9]; done) | (simp_all; done) | (exfalso; simp_all; done) | (simp_all; omega)) rfl
                    ·
                      have hb9' := hb9; try simp only [sumB, Bool.not_eq_true', Bool.not_eq_false', Bool.or_eq_true, Bool.or_eq_false_iff, Bool.and_eq_true, Bool.and_eq_false_imp, decide_eq_true_eq, decide_eq_false_iff_not, Bool.not_not, Bool.not_true, Bool.not_false] at hb9'
                      refine AL.val (Wanted.yes rfl rfl rfl) (g_fieldP rfl rfl Try.underlying60 rfl sz3 (by decide)) rfl rfl ?_
                      refine AL.val (Wanted.yes rfl rfl rfl) (g_loadB rfl rfl rfl Try.underlying3 rfl rfl) rfl rfl ?_
                      refine AL.val (Wanted.yes rfl rfl rfl) (g_binI rfl rfl rfl rfl) rfl rfl ?_
                      refine AL.fast 2 rfl ?_
                      refine AL.dec (t := 60) rfl (fun hb10 => ?_) (fun hb10 => ?_)
                      ·
                        have hb10' := hb10; try simp only [sumB, Bool.not_eq_true', Bool.not_eq_false', Bool.or_eq_true, Bool.or_eq_false_iff, Bool.and_eq_true, Bool.and_eq_false_imp, decide_eq_true_eq, decide_eq_false_iff_not, Bool.not_not, Bool.not_true, Bool.not_false] at hb10'
                        refine AL.fast 4 rfl ?_
                        refine AL.nil ?_
                        refine then_ok ?_
                        exact Weak.popB 21 rfl rfl (by first | (simp [hb8, hb9, hb10]; done) | (simp_all; done) | (exfalso; simp_all; done) | (simp_all; omega)) rfl
                      ·
                        have hb10' := hb10; try simp only [sumB, Bool.not_eq_true', Bool.not_eq_false', Bool.or_eq_true, Bool.or_eq_false_iff, Bool.and_eq_true, Bool.and_eq_false_imp, decide_eq_true_eq, decide_eq_false_iff_not, Bool.not_not, Bool.not_true, Bool.not_false] at hb10'
                        refine AL.val (Wanted.yes rfl rfl rfl) (g_fieldP rfl rfl Try.underlying60 rfl sz3 (by decide)) rfl rfl ?_
                        refine AL.val (Wanted.yes rfl rfl rfl) (g_loadB rfl rfl rfl Try.underlying3 rfl rfl) rfl rfl ?_
                        refine AL.val (Wanted.yes rfl rfl rfl) (g_binI rfl rfl rfl rfl) rfl rfl ?_
                        refine AL.fast 1 rfl ?_
                        refine AL.nil ?_
                        refine then_ok ?_
                        exact Weak.popB 21 rfl rfl (by first | (simp [hb8, hb9, hb10]; done) | (simp_all; done) | (exfalso; simp_all; done) | (simp_all; omega)) rfl
                ·
                  refine AC.cond rfl (fun hc11 => ?_) (fun hc11 => ?_)
                  ·
                    have hc11' := hc11; try simp only [sumB, Bool.not_eq_true', Bool.not_eq_false', Bool.or_eq_true, Bool.or_eq_false_iff, Bool.and_eq_true, Bool.and_eq_false_imp, decide_eq_true_eq, decide_eq_false_iff_not, Bool.not_not, Bool.not_true, Bool.not_false] at hc11'
                    refine AC.seq ?_
                    refine AC.region ?_
                    refine AL.fast 1 rfl ?_
                    refine AL.call (n' := 4) (h' := [(3, (.box 60 [(cI x1.number), (cI x1.kind), (cI x1.auth), (cI x1.sum)])), (2, (.box 3 [(cI (↑q : Int))])), (1, (.box 47 [(cI 0), (cI 0)])), (0, (.box 58 [(cI s.sent), (cR 4 ((s.kept).map rTransfer))]))]) (Wanted.plain rfl) (g_callFE 4 [2] (ins := [(.c (cI 3))]) (caps := [[(dI (↑q : Int))]]) (c_bad 3 (↑q : Int)) en107 rfl rfl rfl (.fn ⟨⟨by decide, _, rfl⟩,  trivial⟩) ⟨⟨_, rfl, .c (.d _)⟩,  trivial⟩ ⟨rfl, rfl,  trivial⟩ trivial rfl rfl rfl rfl) rfl rfl rfl rfl rfl ?_
                    refine AL.sto (h' := [(3, (.box 60 [(cI x1.number), (cI x1.kind), (cI x1.auth), (cI x1.sum)])), (2, (.box 3 [(cI (↑q : Int))])), (1, (.box 47 [(cI 3), (cI (↑q : Int))])), (0, (.box 58 [(cI s.sent), (cR 4 ((s.kept).map rTransfer))]))]) (Wanted.plain rfl) (g_storeB rfl rfl rfl rfl rfl sz47 rfl (Nat.le_of_ble_eq_true rfl) rfl) rfl rfl rfl rfl ?_
                    refine AL.nil ?_
                    refine then_ok ?_
                    refine AC.ret ?_
                    refine then_ret ?_
                    refine block_ret ?_
                    refine then_ret ?_
                    refine then_ret ?_
                    refine block_ret ?_
                    refine then_ret ?_
                    have hX : wrongSF s = (⟨3, (↑q : Int)⟩ : Fault) := by
                      unfold wrongSF wrongS; rw [if_neg (by omega), if_neg (by omega), hi0_1, scan_bad (c := 3) (by omega) (by unfold tErr; simp only [hx1]; rw [if_neg (by omega), if_pos (by omega)]) (by decide)]
                    rw [hX] at hr; clear hX
                    subst hr
                    refine retQ_mk (av' := outOf [(.g [(cI 3), (cI (↑q : Int))])]) (nb' := []) (retQ_ret ⟨[(2, (aC (.p 1 0 0 0)))], [(1, (.box 47 [(cI 3), (cI (↑q : Int))]))], 2⟩ [.cell 2 47] [(.g [(cI 3), (cI (↑q : Int))])] (Weak.ren id (⟨by first | rfl | (simp only [AV.map, GV.map, CV.map, AB.map', id]; done) | (congr 3; omega) | (congr 4; omega) | (simp only [List.length_append, List.length_cons, List.length_nil, List.length_set]; rfl),  trivial⟩) (⟨by first | rfl | (simp only [AV.map, GV.map, CV.map, AB.map', id]; done) | (congr 3; omega) | (congr 4; omega) | (simp only [List.length_append, List.length_cons, List.length_nil, List.length_set]; rfl),  trivial⟩) rfl) rfl ⟨.agg rfl rfl (fun _ => run_isAgg Try.underlying47) sz47, trivial⟩ trivial) ?_ ?_
                    · first | rfl | (simp [outOf, aC]; done) | (simp [outOf, aC]; omega)
                    · first | rfl | (simp; done) | (simp; omega)
                  ·
                    have hc11' := hc11; try simp only [sumB, Bool.not_eq_true', Bool.not_eq_false', Bool.or_eq_true, Bool.or_eq_false_iff, Bool.and_eq_true, Bool.and_eq_false_imp, decide_eq_true_eq, decide_eq_false_iff_not, Bool.not_not, Bool.not_true, Bool.not_false] at hc11'
                    refine AC.skip ?_
                    refine then_ok ?_
                    refine AC.seq ?_
                    refine AC.region ?_
                    refine AL.val (Wanted.plain rfl) (g_fieldP rfl rfl Try.underlying58 rfl sz3 (by decide)) rfl rfl ?_
                    refine AL.val (Wanted.plain rfl) (g_loadB rfl rfl rfl Try.underlying3 rfl rfl) rfl rfl ?_
                    refine AL.val (Wanted.plain rfl) (g_fieldP rfl rfl Try.underlying60 rfl sz3 (by decide)) rfl rfl ?_
                    refine AL.val (Wanted.plain rfl) (g_loadB rfl rfl rfl Try.underlying3 rfl rfl) rfl rfl ?_
                    refine AL.val (Wanted.plain rfl) (g_binI rfl rfl rfl rfl) rfl rfl ?_
                    refine AL.fast 1 rfl ?_
                    refine AL.val (Wanted.plain rfl) (g_binI rfl rfl rfl (wrap_ok (by first | omega | (simp; done) | (simp; omega)))) rfl rfl ?_
                    refine AL.val (Wanted.plain rfl) (g_loadB rfl rfl rfl Try.underlying3 rfl rfl) rfl rfl ?_
                    refine AL.val (Wanted.plain rfl) (g_binI rfl rfl rfl (wrap_ok (by first | omega | (simp; done) | (simp; omega)))) rfl rfl ?_
                    refine AL.val (Wanted.plain rfl) (g_binI rfl rfl rfl rfl) rfl rfl ?_
                    refine AL.nil ?_
                    refine then_ok ?_
                    refine AC.cond rfl (fun hc12 => ?_) (fun hc12 => ?_)
                    ·
                      have hc12' := hc12; try simp only [sumB, Bool.not_eq_true', Bool.not_eq_false', Bool.or_eq_true, Bool.or_eq_false_iff, Bool.and_eq_true, Bool.and_eq_false_imp, decide_eq_true_eq, decide_eq_false_iff_not, Bool.not_not, Bool.not_true, Bool.not_false] at hc12'
                      refine AC.seq ?_
                      refine AC.region ?_
                      refine AL.fast 1 rfl ?_
                      refine AL.call (n' := 4) (h' := [(3, (.box 60 [(cI x1.number), (cI x1.kind), (cI x1.auth), (cI x1.sum)])), (2, (.box 3 [(cI (↑q : Int))])), (1, (.box 47 [(cI 0), (cI 0)])), (0, (.box 58 [(cI s.sent), (cR 4 ((s.kept).map rTransfer))]))]) (Wanted.plain rfl) (g_callFE 4 [2] (ins := [(.c (cI 2))]) (caps := [[(dI (↑q : Int))]]) (c_bad 2 (↑q : Int)) en107 rfl rfl rfl (.fn ⟨⟨by decide, _, rfl⟩,  trivial⟩) ⟨⟨_, rfl, .c (.d _)⟩,  trivial⟩ ⟨rfl, rfl,  trivial⟩ trivial rfl rfl rfl rfl) rfl rfl rfl rfl rfl ?_
                      refine AL.sto (h' := [(3, (.box 60 [(cI x1.number), (cI x1.kind), (cI x1.auth), (cI x1.sum)])), (2, (.box 3 [(cI (↑q : Int))])), (1, (.box 47 [(cI 2), (cI (↑q : Int))])), (0, (.box 58 [(cI s.sent), (cR 4 ((s.kept).map rTransfer))]))]) (Wanted.plain rfl) (g_storeB rfl rfl rfl rfl rfl sz47 rfl (Nat.le_of_ble_eq_true rfl) rfl) rfl rfl rfl rfl ?_
                      refine AL.nil ?_
                      refine then_ok ?_
                      refine AC.ret ?_
                      refine block_ret ?_
                      refine then_ret ?_
                      refine then_ret ?_
                      refine block_ret ?_
                      refine then_ret ?_
                      have hX : wrongSF s = (⟨2, (↑q : Int)⟩ : Fault) := by
                        rw [wrap_ne (by omega) hx1b (by omega)] at hc12'
                        unfold wrongSF wrongS; rw [if_neg (by omega), if_neg (by omega), hi0_1, scan_bad (c := 2) (by omega) (by unfold tErr; simp only [hx1]; rw [if_neg (by omega), if_neg (by omega), if_pos (by omega)]) (by decide)]
                      rw [hX] at hr; clear hX
                      subst hr
                      refine retQ_mk (av' := outOf [(.g [(cI 2), (cI (↑q : Int))])]) (nb' := []) (retQ_ret ⟨[(2, (aC (.p 1 0 0 0)))], [(1, (.box 47 [(cI 2), (cI (↑q : Int))]))], 2⟩ [.cell 2 47] [(.g [(cI 2), (cI (↑q : Int))])] (Weak.ren id (⟨by first | rfl | (simp only [AV.map, GV.map, CV.map, AB.map', id]; done) | (congr 3; omega) | (congr 4; omega) | (simp only [List.length_append, List.length_cons, List.length_nil, List.length_set]; rfl),  trivial⟩) (⟨by first | rfl | (simp only [AV.map, GV.map, CV.map, AB.map', id]; done) | (congr 3; omega) | (congr 4; omega) | (simp only [List.length_append, List.length_cons, List.length_nil, List.length_set]; rfl),  trivial⟩) rfl) rfl ⟨.agg rfl rfl (fun _ => run_isAgg Try.underlying47) sz47, trivial⟩ trivial) ?_ ?_
                      · first | rfl | (simp [outOf, aC]; done) | (simp [outOf, aC]; omega)
                      · first | rfl | (simp; done) | (simp; omega)
                    ·
                      have hc12' := hc12; try simp only [sumB, Bool.not_eq_true', Bool.not_eq_false', Bool.or_eq_true, Bool.or_eq_false_iff, Bool.and_eq_true, Bool.and_eq_false_imp, decide_eq_true_eq, decide_eq_false_iff_not, Bool.not_not, Bool.not_true, Bool.not_false] at hc12'
                      refine AC.skip ?_
                      refine block_ok ?_
                      refine then_ok ?_
                      refine AC.region ?_
                      refine AL.val (Wanted.plain rfl) (g_binI rfl rfl rfl (wrap_ok (by first | omega | (simp; done) | (simp; omega)))) rfl rfl ?_
                      refine AL.fast 1 rfl ?_
                      refine AL.nil ?_
                      refine then_ok ?_
                      rw [wrap_ne (by omega) hx1b (by omega)] at hc12'
                      refine ⟨q + 1, ⟨by omega, by rw [hi0_1]; exact scan_ok (by omega) (by unfold tErr; simp only [hx1]; rw [if_neg (by omega), if_neg (by omega), if_neg (by omega)])⟩, by first | omega | (simp; done) | (simp; omega), Weak.ren id (⟨by first | rfl | (simp only [AV.map, GV.map, CV.map, AB.map', id]; done) | (congr 3; omega) | (congr 4; omega) | (simp only [List.length_append, List.length_cons, List.length_nil, List.length_set]; rfl), by first | rfl | (simp only [AV.map, GV.map, CV.map, AB.map', id]; done) | (congr 3; omega) | (congr 4; omega) | (simp only [List.length_append, List.length_cons, List.length_nil, List.length_set]; rfl), by first | rfl | (simp only [AV.map, GV.map, CV.map, AB.map', id]; done) | (congr 3; omega) | (congr 4; omega) | (simp only [List.length_append, List.length_cons, List.length_nil, List.length_set]; rfl), by first | rfl | (simp only [AV.map, GV.map, CV.map, AB.map', id]; done) | (congr 3; omega) | (congr 4; omega) | (simp only [List.length_append, List.length_cons, List.length_nil, List.length_set]; rfl), by first | rfl | (simp only [AV.map, GV.map, CV.map, AB.map', id]; done) | (congr 3; omega) | (congr 4; omega) | (simp only [List.length_append, List.length_cons, List.length_nil, List.length_set]; rfl), by first | rfl | (simp only [AV.map, GV.map, CV.map, AB.map', id]; done) | (congr 3; omega) | (congr 4; omega) | (simp only [List.length_append, List.length_cons, List.length_nil, List.length_set]; rfl),  trivial⟩) (⟨by first | rfl | (simp only [AV.map, GV.map, CV.map, AB.map', id]; done) | (congr 3; omega) | (congr 4; omega) | (simp only [List.length_append, List.length_cons, List.length_nil, List.length_set]; rfl), by first | rfl | (simp only [AV.map, GV.map, CV.map, AB.map', id]; done) | (congr 3; omega) | (congr 4; omega) | (simp only [List.length_append, List.length_cons, List.length_nil, List.length_set]; rfl),  trivial⟩) rfl⟩
          ·
            have hc4' := hc4; try simp only [sumB, Bool.not_eq_true', Bool.not_eq_false', Bool.or_eq_true, Bool.or_eq_false_iff, Bool.and_eq_true, Bool.and_eq_false_imp, decide_eq_true_eq, decide_eq_false_iff_not, Bool.not_not, Bool.not_true, Bool.not_false] at hc4'
            refine AC.exit ?_
            refine then_exit ?_
            refine then_exit ?_
            refine block_hit ?_
            refine then_ok ?_
            refine AC.seq ?_
            refine AC.region ?_
            refine AL.val (Wanted.plain rfl) (g_build (ys := []) rfl bld47 rfl trivial rfl rfl) rfl rfl ?_
            refine AL.sto (h' := [(1, (.box 47 [(cI 0), (cI 0)])), (0, (.box 58 [(cI s.sent), (cR 4 ((s.kept).map rTransfer))]))]) (Wanted.plain rfl) (g_storeB rfl rfl rfl rfl rfl sz47 rfl (Nat.le_of_ble_eq_true rfl) rfl) rfl rfl rfl rfl ?_
            refine AL.nil ?_
            refine then_ok ?_
            refine AC.ret ?_
            have hX : wrongSF s = (⟨0, 0⟩ : Fault) := by
              unfold wrongSF wrongS; rw [if_neg (by omega), if_neg (by omega), hi0_1, scan_end (by omega)]
            rw [hX] at hr; clear hX
            subst hr
            refine retQ_mk (av' := outOf [(.g [(cI 0), (cI 0)])]) (nb' := []) (retQ_ret ⟨[(2, (aC (.p 1 0 0 0)))], [(1, (.box 47 [(cI 0), (cI 0)]))], 2⟩ [.cell 2 47] [(.g [(cI 0), (cI 0)])] (Weak.ren id (⟨by first | rfl | (simp only [AV.map, GV.map, CV.map, AB.map', id]; done) | (congr 3; omega) | (congr 4; omega) | (simp only [List.length_append, List.length_cons, List.length_nil, List.length_set]; rfl),  trivial⟩) (⟨by first | rfl | (simp only [AV.map, GV.map, CV.map, AB.map', id]; done) | (congr 3; omega) | (congr 4; omega) | (simp only [List.length_append, List.length_cons, List.length_nil, List.length_set]; rfl),  trivial⟩) rfl) rfl ⟨.agg rfl rfl (fun _ => run_isAgg Try.underlying47) sz47, trivial⟩ trivial) ?_ ?_
            · first | rfl | (simp [outOf, aC]; done) | (simp [outOf, aC]; omega)
            · first | rfl | (simp; done) | (simp; omega)
end Go.Proofs.Ytgmcdlfmifijlaa.Dev
