/- slices.Chunk, day.Parse. -/
import Derived.Test.YtgmcdlfmifijlaaDDay4
import Derived.Test.YtgmcdlfmifijlaaDParse1
import Derived.Test.YtgmcdlfmifijlaaDPlSorts
set_option linter.unusedVariables false
set_option linter.unusedSimpArgs false
namespace Go.Proofs.Ytgmcdlfmifijlaa.Dev
open Go.RowKit


theorem recC_eq {c : List Int} {x1 x2 x3 n : Int} (hl : c.length = 6) (h1 : c[0]? = some x1) (h2 : c[1]? = some x2) (h3 : c[2]? = some x3) (hn : numB (c.drop 3) = n) : recC c = ⟨x1, x2, x3, n⟩ := by
  match c, hl with
  | [a0, a1, a2, a3, a4, a5], _ =>
    simp at h1 h2 h3
    subst h1 h2 h3 hn
    simp [recC, numB]
    omega
theorem numB3_b {d : List Int} {n : Int} (hl : d.length = 3) (hb : ∀ x ∈ d, 0 ≤ x ∧ x ≤ 255) (hn : numB d = n) : 0 ≤ n ∧ n ≤ 16777215 := by
  match d, hl with
  | [x, y, z], _ =>
    have h1 := hb x (by simp); have h2 := hb y (by simp); have h3 := hb z (by simp)
    subst hn
    simp [numB]
    omega
theorem parseR_short {b : List Int} (h : b.length < 5) : parseR b = ([], 2) := by
  cases h0 : b[0]? with
  | none => unfold parseR; rw [h0]
  | some c => exact parseR_form h0 (by omega)

set_option maxRecDepth 100000 in
set_option maxHeartbeats 1000000 in
theorem c_Chunk6 (l : List Int) : Fn Try.prog 121 [(.c (cR 1 ((l).map rU8))), (.c (cI 6))] (.v (.c (.fn 133 [0, 1]))) [(0, .box 115 [cR 1 (l.map rU8)]), (1, .box 3 [cI 6])] := by
  refine Fn.mk' 9 [(0, (aC (cR 1 ((l).map rU8)))), (1, (aI 6))] Try.func121 rfl rfl rfl rfl ?_
  intro W0 T0
  refine AC.len1 0 rfl (fun hlen0 => ?_)
  refine AC.seq ?_
  refine AC.region ?_
  refine AL.new (n' := 1) (Wanted.plain rfl) (g_box1 0 rfl rfl rfl) rfl rfl rfl ?_
  refine AL.new (n' := 2) (Wanted.plain rfl) (g_box1 1 rfl rfl rfl) rfl rfl rfl ?_
  refine AL.fast 1 rfl ?_
  refine AL.nil ?_
  refine then_ok ?_
  refine AC.seq ?_
  refine AC.seq ?_
  refine AC.region ?_
  refine AL.val (Wanted.plain rfl) (g_loadB rfl rfl rfl Try.underlying3 rfl rfl) rfl rfl ?_
  refine AL.val (Wanted.plain rfl) (g_binI rfl rfl rfl (show _ = some (Value.bool false) from rfl)) rfl rfl ?_
  refine AL.nil ?_
  refine then_ok ?_
  refine AC.cond rfl (fun hno => by cases hno) (fun _ => ?_)
  refine AC.skip ?_
  refine then_ok ?_
  refine AC.seq ?_
  refine AC.region ?_
  refine AL.val (Wanted.plain rfl) (g_func (ks := [0, 1]) rfl ⟨rfl, rfl, trivial⟩) rfl rfl ?_
  refine AL.fast 1 rfl ?_
  refine AL.nil ?_
  refine then_ok ?_
  refine AC.ret ?_
  refine retQ_mk (av' := outOf [(.c (.fn 133 [0, 1]))]) (nb' := [(0, (.box 115 [(cR 1 ((l).map rU8))])), (1, (.box 3 [(cI 6)]))]) (retQ_ret ⟨[(4, (aC (.fn 133 [0, 1])))], [(1, (.box 3 [(cI 6)])), (0, (.box 115 [(cR 1 ((l).map rU8))]))], 2⟩ [.tmp 4] [(.c (.fn 133 [0, 1]))] (Weak.ren (fun k => if k = 0 then 0 else if k = 1 then 1 else k) (⟨by first | rfl | (simp only [AV.map, GV.map, CV.map, AB.map', id]; done) | (congr 3; omega) | (congr 4; omega) | (simp only [List.length_append, List.length_cons, List.length_nil, List.length_set]; rfl), trivial⟩) (by refine ⟨?_, ?_,  trivial⟩ <;> first | rfl | (simp only [AV.map, GV.map, CV.map, AB.map', id]; done) | (congr 3; omega) | (congr 4; omega) | (simp only [List.length_append, List.length_cons, List.length_nil, List.length_set]; rfl)) rfl) rfl ⟨.tmp rfl, trivial⟩ (by refine ⟨?_, ?_,  trivial⟩ <;> first | rfl | (simp only [AV.map, GV.map, CV.map, AB.map', id]; done) | (congr 3; omega) | (congr 4; omega) | (simp only [List.length_append, List.length_cons, List.length_nil, List.length_set]; rfl))) ?_ ?_
  · first | rfl | (simp [outOf, aC]; done) | (simp [outOf, aC]; omega)
  · rfl
set_option maxRecDepth 100000 in
set_option maxHeartbeats 4000000 in
theorem c_day_Parse (b : List Int) (hb : ∀ c ∈ b, 0 ≤ c ∧ c ≤ 255) (hl : b.length ≤ 9223372036854775807) (r : List Record) (e : Int) (hr : parseR b = (r, e)) : Fn Try.prog 98 [(.c (cR 1 ((b).map rU8)))] (.t [(.c (.s 0 0 4 r.length)), (.c (cI e))]) [(0, (.arr 127 4 ((r).map rRecord)))] := by
  refine Fn.mkX 75 [(0, (aC (cR 1 ((b).map rU8))))] Try.func98 rfl rfl rfl rfl ?_
  intro W0 T0 hT0
  refine ACX.seq ?_
  refine AC.region ?_
  refine AL.fast 2 rfl ?_
  refine AL.nil ?_
  refine then_ok ?_
  refine ACX.seq ?_
  refine AC.seq ?_
  refine AC.region ?_
  refine AL.fast 1 rfl ?_
  refine AL.val (Wanted.plain rfl) (g_lenM rfl rfl rfl rfl rfl Try.underlying115) rfl rfl ?_
  refine AL.val (Wanted.plain rfl) (g_binI rfl rfl rfl rfl) rfl rfl ?_
  refine AL.fast 1 rfl ?_
  refine AL.dec (t := 13) rfl (fun hb1 => ?_) (fun hb1 => ?_)
  ·
    have hb1' := hb1; try simp only [sumB, Bool.not_eq_true', Bool.not_eq_false', Bool.or_eq_true, Bool.or_eq_false_iff, Bool.and_eq_true, Bool.and_eq_false_imp, decide_eq_true_eq, decide_eq_false_iff_not, Bool.not_not, Bool.not_true, Bool.not_false] at hb1'
    refine AL.fast 10 rfl ?_
    refine AL.nil ?_
    refine then_ok ?_
    refine AC.cond rfl (fun _ => ?_) (fun hno => by cases hno)
    refine AC.seq ?_
    refine AC.region ?_
    refine AL.fast 2 rfl ?_
    refine AL.nil ?_
    refine then_ok ?_
    refine AC.ret ?_
    refine then_ret ?_
    refine fun a w hI => ret_marks hT0 (?_ : retQ Try.prog Try.f98 [] _ _ _ _) hI (.inl rfl)
    refine retQ_weak (Weak.nil 2 127 4 (by decide) rfl) ?_
    have hX : parseR b = (([] : List Record), 2) := by
      first | exact parseR_short (by omega)
    rw [hX] at hr; clear hX
    simp only [Prod.mk.injEq] at hr; obtain ⟨rfl, rfl⟩ := hr
    refine retQ_mk (av' := outOf [(.c (.s 0 0 4 0)), (.c (cI 2))]) (nb' := [(0, (.arr 127 4 ((([] : List Record)).map rRecord)))]) (retQ_ret ⟨[(2, (aC (.s 0 0 4 0))), (3, (aI 2))], [(0, (.arr 127 4 ((([] : List Record)).map rRecord)))], 1⟩ [.tmp 2, .tmp 3] [(.c (.s 0 0 4 0)), (.c (cI 2))] (Weak.ren (fun k => if k = 0 then 0 else k) (by refine ⟨?_, ?_,  trivial⟩ <;> first | rfl | (simp only [AV.map, GV.map, CV.map, AB.map', id]; done) | (congr 3; omega) | (congr 4; omega) | (simp only [List.length_append, List.length_cons, List.length_nil, List.length_set]; rfl)) (⟨by first | rfl | (simp only [AV.map, GV.map, CV.map, AB.map', id]; done) | (congr 3; omega) | (congr 4; omega) | (simp only [List.length_append, List.length_cons, List.length_nil, List.length_set]; rfl), trivial⟩) rfl) rfl ⟨.tmp rfl, .tmp rfl, trivial⟩ ⟨by first | rfl | (simp only [AV.map, GV.map, CV.map, AB.map', id]; done) | (congr 3; omega) | (congr 4; omega) | (simp only [List.length_append, List.length_cons, List.length_nil, List.length_set]; rfl), trivial⟩) ?_ ?_
    · first | rfl | (simp [outOf, aC]; done) | (simp [outOf, aC]; omega)
    · first | rfl | (simp; done) | (simp; omega)
  ·
    have hb1' := hb1; try simp only [sumB, Bool.not_eq_true', Bool.not_eq_false', Bool.or_eq_true, Bool.or_eq_false_iff, Bool.and_eq_true, Bool.and_eq_false_imp, decide_eq_true_eq, decide_eq_false_iff_not, Bool.not_not, Bool.not_true, Bool.not_false] at hb1'
    refine AL.fast 1 rfl ?_
    refine AL.val (Wanted.yes rfl rfl rfl) (g_lenM rfl rfl rfl rfl rfl Try.underlying115) rfl rfl ?_
    refine AL.fast 1 rfl ?_
    obtain ⟨x1, hx1⟩ := exget (xs := b) (i := 0) (by first | omega | (simp; done) | (simp; omega))
    have hx1b := hb x1 (by first | exact List.mem_of_getElem? hx1 | exact List.mem_of_mem_drop (List.mem_of_getElem? hx1))
    refine AL.val (Wanted.yes rfl rfl rfl) (g_indexQ (i := 0) rfl rfl rfl Try.underlying115 sz5 (by first | omega | (simp; done) | (simp; omega)) (getmap hx1)) rfl rfl ?_
    refine AL.val (Wanted.yes rfl rfl rfl) (g_loadQ rfl rfl Try.underlying5 rfl rfl) rfl rfl ?_
    refine AL.val (Wanted.yes rfl rfl rfl) (g_convI rfl rfl (by rw [Try.underlying5]; rfl) Try.underlying3 (conv_i64 (by first | omega | (simp; done) | (simp; omega)))) rfl rfl ?_
    refine AL.val (Wanted.yes rfl rfl rfl) (g_binI rfl rfl rfl (wrap_ok (by first | omega | (simp; done) | (simp; omega)))) rfl rfl ?_
    refine AL.val (Wanted.yes rfl rfl rfl) (g_binI rfl rfl rfl (wrap_ok (by first | omega | (simp; done) | (simp; omega)))) rfl rfl ?_
    refine AL.val (Wanted.yes rfl rfl rfl) (g_binI rfl rfl rfl rfl) rfl rfl ?_
    refine AL.fast 1 rfl ?_
    refine AL.nil ?_
    refine then_ok ?_
    refine AC.cond rfl (fun hc3 => ?_) (fun hc3 => ?_)
    ·
      have hc3' := hc3; try simp only [sumB, Bool.not_eq_true', Bool.not_eq_false', Bool.or_eq_true, Bool.or_eq_false_iff, Bool.and_eq_true, Bool.and_eq_false_imp, decide_eq_true_eq, decide_eq_false_iff_not, Bool.not_not, Bool.not_true, Bool.not_false] at hc3'
      refine AC.seq ?_
      refine AC.region ?_
      refine AL.fast 2 rfl ?_
      refine AL.nil ?_
      refine then_ok ?_
      refine AC.ret ?_
      refine then_ret ?_
      refine fun a w hI => ret_marks hT0 (?_ : retQ Try.prog Try.f98 [] _ _ _ _) hI (.inl rfl)
      refine retQ_weak (Weak.nil 2 127 4 (by decide) rfl) ?_
      have hX : parseR b = (([] : List Record), 2) := by
        first | exact parseR_short (by omega) | exact parseR_form hx1 (by omega)
      rw [hX] at hr; clear hX
      simp only [Prod.mk.injEq] at hr; obtain ⟨rfl, rfl⟩ := hr
      refine retQ_mk (av' := outOf [(.c (.s 0 0 4 0)), (.c (cI 2))]) (nb' := [(0, (.arr 127 4 ((([] : List Record)).map rRecord)))]) (retQ_ret ⟨[(2, (aC (.s 0 0 4 0))), (3, (aI 2))], [(0, (.arr 127 4 ((([] : List Record)).map rRecord)))], 1⟩ [.tmp 2, .tmp 3] [(.c (.s 0 0 4 0)), (.c (cI 2))] (Weak.ren (fun k => if k = 0 then 0 else k) (by refine ⟨?_, ?_,  trivial⟩ <;> first | rfl | (simp only [AV.map, GV.map, CV.map, AB.map', id]; done) | (congr 3; omega) | (congr 4; omega) | (simp only [List.length_append, List.length_cons, List.length_nil, List.length_set]; rfl)) (⟨by first | rfl | (simp only [AV.map, GV.map, CV.map, AB.map', id]; done) | (congr 3; omega) | (congr 4; omega) | (simp only [List.length_append, List.length_cons, List.length_nil, List.length_set]; rfl), trivial⟩) rfl) rfl ⟨.tmp rfl, .tmp rfl, trivial⟩ ⟨by first | rfl | (simp only [AV.map, GV.map, CV.map, AB.map', id]; done) | (congr 3; omega) | (congr 4; omega) | (simp only [List.length_append, List.length_cons, List.length_nil, List.length_set]; rfl), trivial⟩) ?_ ?_
      · first | rfl | (simp [outOf, aC]; done) | (simp [outOf, aC]; omega)
      · first | rfl | (simp; done) | (simp; omega)
    ·
      have hc3' := hc3; try simp only [sumB, Bool.not_eq_true', Bool.not_eq_false', Bool.or_eq_true, Bool.or_eq_false_iff, Bool.and_eq_true, Bool.and_eq_false_imp, decide_eq_true_eq, decide_eq_false_iff_not, Bool.not_not, Bool.not_true, Bool.not_false] at hc3'
      refine AC.skip ?_
      refine then_ok ?_
      refine ACX.seq ?_
      refine AC.region ?_
      refine AL.new (n' := 1) (Wanted.plain rfl) (g_alloc 0 rfl zv114 rfl rfl rfl) rfl rfl rfl ?_
      refine AL.nil ?_
      refine then_ok ?_
      refine ACX.seq ?_
      refine AC.region ?_
      refine AL.new (n' := 2) (Wanted.plain rfl) (g_alloc 1 rfl zv3 rfl rfl rfl) rfl rfl rfl ?_
      refine AL.sto (h' := [(1, (.box 3 [(cI 0)])), (0, (.box 114 [cN]))]) (Wanted.plain rfl) (g_storeB rfl rfl rfl rfl rfl sz3 rfl (Nat.le_of_ble_eq_true rfl) rfl) rfl rfl rfl rfl ?_
      refine AL.nil ?_
      refine then_ok ?_
      refine ACX.seq ?_
      refine AC.region ?_
      refine AL.fast 1 rfl ?_
      refine AL.val (Wanted.plain rfl) (g_lenM rfl rfl rfl rfl rfl Try.underlying115) rfl rfl ?_
      refine AL.val (Wanted.plain rfl) (g_binI rfl rfl rfl (wrap_ok (by first | omega | (simp; done) | (simp; omega)))) rfl rfl ?_
      refine AL.fast 1 rfl ?_
      refine AL.nil ?_
      refine then_ok ?_
      refine ACX.seq2 ?_
      refine AC.region ?_
      refine AL.fast 2 rfl ?_
      refine AL.val (Wanted.plain rfl) (g_sliceD (l := 1) (h := (b.length) - 4) (ys := (((b).drop 1).take (((b.length) - 4) - 1)).map rU8) rfl Try.underlying115 sz5 rfl (.inr ⟨_, rfl, rfl⟩) (.inr ⟨_, rfl, (evI rfl (by first | omega | (simp; done) | (simp; omega)))⟩) (by first | omega | (simp; done) | (simp; omega)) (by first | omega | (simp; done) | (simp; omega)) (by simp)) rfl rfl ?_
      refine AL.call (n' := 4) (h' := [(2, (.box 115 [(cR 1 ((((b).drop 1).take (((b.length) - 4) - 1)).map rU8))])), (3, (.box 3 [(cI 6)])), (1, (.box 3 [(cI 0)])), (0, (.box 114 [cN]))]) (Wanted.plain rfl) (g_call 2 (c_Chunk6 (((b).drop 1).take (((b.length) - 4) - 1))  ) en121 rfl rfl ⟨⟨_, rfl, .c (.d _)⟩, ⟨_, rfl, .c (.d _)⟩,  trivial⟩ trivial ⟨⟨trivial,  trivial⟩, ⟨trivial,  trivial⟩,  trivial⟩ rfl rfl rfl rfl) rfl rfl rfl rfl rfl ?_
      refine AL.nil ?_
      refine then_ok ?_
      refine fun a w hI => parse_loop b (((b).drop 1).take (((b.length) - 4) - 1)) x1.toNat ((↑b.length : Int) - 4) (by omega) (by rw [List.length_take, List.length_drop]; omega) (fun x hx => hb x (List.mem_of_mem_drop (List.mem_of_mem_take hx))) hT0 ((Weak.ren id (by refine ⟨?_, ?_, ?_, ?_, ?_,  trivial⟩ <;> first | rfl | (simp only [AV.map, GV.map, CV.map, AB.map', id]; done) | (congr 3; omega) | (congr 4; omega) | (simp only [List.length_append, List.length_cons, List.length_nil, List.length_set]; rfl)) (by refine ⟨?_, ?_, ?_, ?_,  trivial⟩ <;> first | rfl | (simp only [AV.map, GV.map, CV.map, AB.map', id]; done) | (congr 3; omega) | (congr 4; omega) | (simp only [List.length_append, List.length_cons, List.length_nil, List.length_set]; rfl)) rfl) _ _ _ _ _ _ hI) ?_ ?_ ?_
      · exact fun l n a w K hK => assign_round rfl rfl hK
      ·
        intro l n W F T g0 g1 m all c hcl hcb hml hall
        unfold heapI
        refine ACR.block ?_
        refine ACR.seq ?_
        obtain ⟨x2, hx2⟩ := exget (xs := c) (i := 0) (by first | omega | (simp; done) | (simp; omega))
        have hx2b := hcb x2 (List.mem_of_getElem? hx2)
        obtain ⟨x3, hx3⟩ := exget (xs := c) (i := 1) (by first | omega | (simp; done) | (simp; omega))
        have hx3b := hcb x3 (List.mem_of_getElem? hx3)
        obtain ⟨x4, hx4⟩ := exget (xs := c) (i := 2) (by first | omega | (simp; done) | (simp; omega))
        have hx4b := hcb x4 (List.mem_of_getElem? hx4)
        obtain ⟨n0, hr0⟩ : ∃ (n0 : Int), numB ((c).drop 3) = n0 := ⟨_, rfl⟩
        have hnb := numB3_b (by simp; omega) (fun x hx => hcb x (List.mem_of_mem_drop hx)) hr0
        refine ACR.weak (st' := ⟨[(7, (aC (cR 1 ((c).map rU8)))), (4, (aC (.p 0 0 0 0))), (5, (aC (.p 1 0 0 0)))], [(2, (.arr 127 4 ((m).map rRecord))), (1, (.box 3 [(cI all)])), (0, (.box 114 [(.s 2 0 4 m.length)]))], 3⟩) (Weak.ren id (by refine ⟨?_, ?_, ?_,  trivial⟩ <;> first | rfl | (simp only [AV.map, GV.map, CV.map, AB.map', id]; done) | (congr 3; omega) | (congr 4; omega) | (simp only [List.length_append, List.length_cons, List.length_nil, List.length_set]; rfl)) (by refine ⟨?_, ?_, ?_,  trivial⟩ <;> first | rfl | (simp only [AV.map, GV.map, CV.map, AB.map', id]; done) | (congr 3; omega) | (congr 4; omega) | (simp only [List.length_append, List.length_cons, List.length_nil, List.length_set]; rfl)) rfl) ?_
        refine ACR.draw rfl [⟨some 32, (aC (cR 1 ((c).map rU8))), [], [], [], [(7, (aC (cR 1 ((c).map rU8))))], []⟩,
      ⟨some 33, (aC (.q (rU8 x2) 0)), [], [], [0], [(32, (aC (cR 1 ((c).map rU8))))], []⟩,
      ⟨some 34, (aC (.d (.v (.int .u8 (x2 : Int))))), [], [], [1], [(33, (aC (.q (rU8 x2) 0)))], []⟩,
      ⟨some 35, (aI (x2 : Int)), [], [], [2], [(34, (aC (.d (.v (.int .u8 (x2 : Int))))))], []⟩,
      ⟨some 36, (aC (cR 1 ((c).map rU8))), [], [], [], [(7, (aC (cR 1 ((c).map rU8))))], []⟩,
      ⟨some 37, (aC (.q (rU8 x3) 0)), [], [], [4], [(36, (aC (cR 1 ((c).map rU8))))], []⟩,
      ⟨some 38, (aC (.d (.v (.int .u8 (x3 : Int))))), [], [], [5], [(37, (aC (.q (rU8 x3) 0)))], []⟩,
      ⟨some 39, (aI (x3 : Int)), [], [], [6], [(38, (aC (.d (.v (.int .u8 (x3 : Int))))))], []⟩,
      ⟨some 40, (aC (cR 1 ((c).map rU8))), [], [], [], [(7, (aC (cR 1 ((c).map rU8))))], []⟩,
      ⟨some 41, (aC (.q (rU8 x4) 0)), [], [], [8], [(40, (aC (cR 1 ((c).map rU8))))], []⟩,
      ⟨some 42, (aC (.d (.v (.int .u8 (x4 : Int))))), [], [], [9], [(41, (aC (.q (rU8 x4) 0)))], []⟩,
      ⟨some 43, (aI (x4 : Int)), [], [], [10], [(42, (aC (.d (.v (.int .u8 (x4 : Int))))))], []⟩,
      ⟨some 44, (aC (cR 1 ((c).map rU8))), [], [], [], [(7, (aC (cR 1 ((c).map rU8))))], []⟩,
      ⟨some 45, (aC (cR 1 (((c).drop 3).map rU8))), [], [], [12], [(44, (aC (cR 1 ((c).map rU8))))], []⟩,
      ⟨some 46, (aI n0), [], [], [13], [(45, (aC (cR 1 (((c).drop 3).map rU8))))], []⟩,
      ⟨some 47, (aG [(cI (x2 : Int)), (cI (x3 : Int)), (cI (x4 : Int)), (cI n0)]), [], [], [3, 7, 11, 14], [(35, (aI (x2 : Int))), (39, (aI (x3 : Int))), (43, (aI (x4 : Int))), (46, (aI n0))], []⟩,
      ⟨some 8, (aC (.p 3 0 0 0)), [(3, (.box 127 [(cI 0), (cI 0), (cI 0), (cI 0)]))], [], [], [], []⟩] ⟨[(7, (aC (cR 1 ((c).map rU8)))), (4, (aC (.p 0 0 0 0))), (5, (aC (.p 1 0 0 0))), (47, (aG [(cI (x2 : Int)), (cI (x3 : Int)), (cI (x4 : Int)), (cI n0)])), (8, (aC (.p 3 0 0 0)))], [(3, (.box 127 [(cI 0), (cI 0), (cI 0), (cI 0)])), (2, (.arr 127 4 ((m).map rRecord))), (1, (.box 3 [(cI all)])), (0, (.box 114 [(.s 2 0 4 m.length)]))], 4⟩ mixed (by kernel_rfl) ?_ ?_ ?_ ?_
        · exact ⟨.inl ⟨(Wanted.plain rfl), GOp.cast (g_move rfl rfl) rfl⟩,
      .inl ⟨(Wanted.plain rfl), GOp.cast (g_indexQ (i := 0) rfl rfl rfl Try.underlying115 sz5 (by first | omega | (simp; done) | (simp; omega)) (getmap hx2)) rfl⟩,
      .inl ⟨(Wanted.plain rfl), GOp.cast (g_loadQ rfl rfl Try.underlying5 rfl rfl) rfl⟩,
      .inl ⟨(Wanted.plain rfl), GOp.cast (g_convI rfl rfl (by rw [Try.underlying5]; rfl) Try.underlying3 (conv_i64 (by first | omega | (simp; done) | (simp; omega)))) rfl⟩,
      .inl ⟨(Wanted.plain rfl), GOp.cast (g_move rfl rfl) rfl⟩,
      .inl ⟨(Wanted.plain rfl), GOp.cast (g_indexQ (i := 1) rfl rfl rfl Try.underlying115 sz5 (by first | omega | (simp; done) | (simp; omega)) (getmap hx3)) rfl⟩,
      .inl ⟨(Wanted.plain rfl), GOp.cast (g_loadQ rfl rfl Try.underlying5 rfl rfl) rfl⟩,
      .inl ⟨(Wanted.plain rfl), GOp.cast (g_convI rfl rfl (by rw [Try.underlying5]; rfl) Try.underlying3 (conv_i64 (by first | omega | (simp; done) | (simp; omega)))) rfl⟩,
      .inl ⟨(Wanted.plain rfl), GOp.cast (g_move rfl rfl) rfl⟩,
      .inl ⟨(Wanted.plain rfl), GOp.cast (g_indexQ (i := 2) rfl rfl rfl Try.underlying115 sz5 (by first | omega | (simp; done) | (simp; omega)) (getmap hx4)) rfl⟩,
      .inl ⟨(Wanted.plain rfl), GOp.cast (g_loadQ rfl rfl Try.underlying5 rfl rfl) rfl⟩,
      .inl ⟨(Wanted.plain rfl), GOp.cast (g_convI rfl rfl (by rw [Try.underlying5]; rfl) Try.underlying3 (conv_i64 (by first | omega | (simp; done) | (simp; omega)))) rfl⟩,
      .inl ⟨(Wanted.plain rfl), GOp.cast (g_move rfl rfl) rfl⟩,
      .inl ⟨(Wanted.plain rfl), GOp.cast (g_sliceD (l := 3) (h := c.length) (ys := ((c).drop 3).map rU8) rfl Try.underlying115 sz5 rfl (.inr ⟨_, rfl, rfl⟩) (.inl ⟨rfl, by simp⟩) (by first | omega | (simp; done) | (simp; omega)) (by first | omega | (simp; done) | (simp; omega)) (by first | (simp; done) | (rw [List.map_drop]; exact List.take_of_length_le (by simp)))) rfl⟩,
      .inl ⟨(Wanted.plain rfl), GOp.cast (g_call 3 (c_number ((c).drop 3) (by first | assumption | exact fun c hc => hb c (List.mem_of_mem_drop hc) | exact fun x hx => hcb x (List.mem_of_mem_drop hx)) (by first | omega | (simp; done) | (simp; omega)) n0 hr0) en122 rfl rfl ⟨⟨_, rfl, .c (.d _)⟩,  trivial⟩ trivial trivial rfl rfl rfl rfl) rfl⟩,
      .inl ⟨(Wanted.plain rfl), GOp.cast (g_build (ys := [(0, (.c (cI (x2 : Int)))), (1, (.c (cI (x3 : Int)))), (2, (.c (cI (x4 : Int)))), (3, (.c (cI n0)))]) rfl bld127 rfl ⟨⟨rfl, rfl⟩, ⟨rfl, rfl⟩, ⟨rfl, rfl⟩, ⟨rfl, rfl⟩,  trivial⟩ rfl rfl) rfl⟩,
      .inl ⟨(Wanted.plain rfl), GOp.cast (g_alloc 3 rfl zv127 rfl rfl rfl) rfl⟩,
       trivial⟩
        · exact ⟨⟨⟨.inl rfl,  trivial⟩, trivial⟩, ⟨⟨.inr ⟨0, .head _, _, rfl, rfl, rfl⟩,  trivial⟩, trivial⟩, ⟨⟨.inr ⟨1, .head _, _, rfl, rfl, rfl⟩,  trivial⟩, trivial⟩, ⟨⟨.inr ⟨2, .head _, _, rfl, rfl, rfl⟩,  trivial⟩, trivial⟩, ⟨⟨.inl rfl,  trivial⟩, trivial⟩, ⟨⟨.inr ⟨4, .head _, _, rfl, rfl, rfl⟩,  trivial⟩, trivial⟩, ⟨⟨.inr ⟨5, .head _, _, rfl, rfl, rfl⟩,  trivial⟩, trivial⟩, ⟨⟨.inr ⟨6, .head _, _, rfl, rfl, rfl⟩,  trivial⟩, trivial⟩, ⟨⟨.inl rfl,  trivial⟩, trivial⟩, ⟨⟨.inr ⟨8, .head _, _, rfl, rfl, rfl⟩,  trivial⟩, trivial⟩, ⟨⟨.inr ⟨9, .head _, _, rfl, rfl, rfl⟩,  trivial⟩, trivial⟩, ⟨⟨.inr ⟨10, .head _, _, rfl, rfl, rfl⟩,  trivial⟩, trivial⟩, ⟨⟨.inl rfl,  trivial⟩, trivial⟩, ⟨⟨.inr ⟨12, .head _, _, rfl, rfl, rfl⟩,  trivial⟩, trivial⟩, ⟨⟨.inr ⟨13, .head _, _, rfl, rfl, rfl⟩,  trivial⟩, trivial⟩, ⟨⟨.inr ⟨3, .head _, _, rfl, rfl, rfl⟩, .inr ⟨7, .tail _ (.head _), _, rfl, rfl, rfl⟩, .inr ⟨11, .tail _ (.tail _ (.head _)), _, rfl, rfl, rfl⟩, .inr ⟨14, .tail _ (.tail _ (.tail _ (.head _))), _, rfl, rfl, rfl⟩,  trivial⟩, trivial⟩, ⟨trivial, trivial⟩,  trivial⟩
        · exact ⟨⟨.inl rfl, .inl rfl, .inl rfl, .inr ⟨15, _, rfl, rfl, rfl⟩, .inr ⟨16, _, rfl, rfl, rfl⟩,  trivial⟩, ⟨.inr ⟨16, _, rfl, .head _⟩, .inl rfl, .inl rfl, .inl rfl,  trivial⟩⟩
        ·
          refine AL.sto (h' := [(3, (.box 127 [(cI (x2 : Int)), (cI (x3 : Int)), (cI (x4 : Int)), (cI n0)])), (2, (.arr 127 4 ((m).map rRecord))), (1, (.box 3 [(cI all)])), (0, (.box 114 [(.s 2 0 4 m.length)]))]) (Wanted.plain rfl) (g_storeB rfl rfl rfl rfl rfl sz127 rfl (Nat.le_of_ble_eq_true rfl) rfl) rfl rfl rfl rfl ?_
          refine AL.nil ?_
          refine then_ok ?_
          refine ACR.seq ?_
          refine ACR.region rfl ?_
          refine AL.val (Wanted.plain rfl) (g_loadB rfl rfl rfl Try.underlying114 rfl rfl) rfl rfl ?_
          refine AL.val (Wanted.plain rfl) (g_loadBs rfl rfl rfl Try.underlying127 rfl sz127 rfl rfl) rfl rfl ?_
          refine AL.new (n' := 5) (Wanted.plain rfl) (g_lit (ys := [(0, (.g [(cI (x2 : Int)), (cI (x3 : Int)), (cI (x4 : Int)), (cI n0)]))]) (rows := ([(⟨(x2 : Int), (x3 : Int), (x4 : Int), n0⟩ : Record)]).map rRecord) 4 sl114 rfl (by decide) ⟨⟨rfl, rfl⟩,  trivial⟩ rfl rfl rfl rfl) rfl rfl rfl ?_
          refine AL.eat (n' := 6) (h' := [(5, (.arr 127 4 ((m ++ ([(⟨(x2 : Int), (x3 : Int), (x4 : Int), n0⟩ : Record)])).map rRecord))), (4, (.arr 127 4 (([(⟨(x2 : Int), (x3 : Int), (x4 : Int), n0⟩ : Record)]).map rRecord))), (3, (.box 127 [(cI (x2 : Int)), (cI (x3 : Int)), (cI (x4 : Int)), (cI n0)])), (1, (.box 3 [(cI all)])), (0, (.box 114 [(.s 2 0 4 m.length)]))]) (Wanted.plain rfl) (g_append (m := 1) (N := m.length + 1) (k2 := 5) (ys := ([(⟨(x2 : Int), (x3 : Int), (x4 : Int), n0⟩ : Record)]).map rRecord) sl114 rfl rfl rfl rfl rfl rfl (by first | omega | (simp; done) | (simp; omega)) rfl (.s rfl (by first | omega | (simp; done) | (simp; omega))) (by first | omega | (simp; done) | (simp; omega)) (by first | omega | (simp; done) | (simp; omega)) appmap (by decide) (by first | omega | (simp; done) | (simp; omega)) (by first | omega | (simp; done) | (simp; omega))) rfl rfl rfl rfl rfl ?_
          refine AL.sto (h' := [(5, (.arr 127 4 ((m ++ ([(⟨(x2 : Int), (x3 : Int), (x4 : Int), n0⟩ : Record)])).map rRecord))), (4, (.arr 127 4 (([(⟨(x2 : Int), (x3 : Int), (x4 : Int), n0⟩ : Record)]).map rRecord))), (3, (.box 127 [(cI (x2 : Int)), (cI (x3 : Int)), (cI (x4 : Int)), (cI n0)])), (1, (.box 3 [(cI all)])), (0, (.box 114 [(.s 5 0 4 (m.length + 1))]))]) (Wanted.plain rfl) (g_storeB rfl rfl rfl rfl rfl sz114 rfl (Nat.le_of_ble_eq_true rfl) rfl) rfl rfl rfl rfl ?_
          refine AL.nil ?_
          refine then_ok ?_
          refine ACR.region rfl ?_
          refine AL.val (Wanted.plain rfl) (g_loadB rfl rfl rfl Try.underlying3 rfl rfl) rfl rfl ?_
          refine AL.val (Wanted.plain rfl) (g_fieldP rfl rfl Try.underlying127 rfl sz3 (by decide)) rfl rfl ?_
          refine AL.val (Wanted.plain rfl) (g_loadB rfl rfl rfl Try.underlying3 rfl rfl) rfl rfl ?_
          refine AL.val (Wanted.plain rfl) (g_binI rfl rfl rfl (wrap_ok (by first | omega | (simp; done) | (simp; omega)))) rfl rfl ?_
          refine AL.sto (h' := [(5, (.arr 127 4 ((m ++ ([(⟨(x2 : Int), (x3 : Int), (x4 : Int), n0⟩ : Record)])).map rRecord))), (4, (.arr 127 4 (([(⟨(x2 : Int), (x3 : Int), (x4 : Int), n0⟩ : Record)]).map rRecord))), (3, (.box 127 [(cI (x2 : Int)), (cI (x3 : Int)), (cI (x4 : Int)), (cI n0)])), (1, (.box 3 [(cI (all + n0))])), (0, (.box 114 [(.s 5 0 4 (m.length + 1))]))]) (Wanted.plain rfl) (g_storeB rfl rfl rfl rfl rfl sz3 rfl (Nat.le_of_ble_eq_true rfl) rfl) rfl rfl rfl rfl ?_
          refine AL.nil ?_
          refine block_ok ?_
          refine ⟨rfl, ?_⟩
          rw [recC_eq hcl hx2 hx3 hx4 hr0]
          exact Weak.ren (fun k => if k = 2 then 5 else k) trivial (by refine ⟨?_, ?_, ?_,  trivial⟩ <;> first | rfl | (simp only [AV.map, GV.map, CV.map, AB.map', id]; done) | (congr 3; omega) | (congr 4; omega) | (simp only [List.length_append, List.length_cons, List.length_nil, List.length_set]; rfl)) rfl
      ·
        intro W F ds T
        unfold heapI
        have hml := (flat_recs x1.toNat (d := ((b).drop 1).take (((b.length) - 4) - 1)) (by rw [List.length_take, List.length_drop]; omega) (fun x hx => hb x (List.mem_of_mem_drop (List.mem_of_mem_take hx)))).2
        generalize hm : recsB (((b).drop 1).take (((b.length) - 4) - 1)) = m at hml ⊢
        refine AC.seq ?_
        refine AC.seq ?_
        refine AC.region ?_
        refine AL.val (Wanted.plain rfl) (g_loadB rfl rfl rfl Try.underlying114 rfl rfl) rfl rfl ?_
        obtain ⟨f1, hr1⟩ : ∃ (f1 : Fault), wrongR m = f1 := ⟨_, rfl⟩
        refine AL.call (n' := 3) (h' := [(2, (.arr 127 4 ((m).map rRecord))), (1, (.box 3 [(cI (sumR m))])), (0, (.box 114 [(.s 2 0 4 m.length)]))]) (Wanted.plain rfl) (g_callE 3 [2] (c_day_Wrong m  f1 hr1) en91 rfl rfl ⟨⟨_, rfl, .c (.s rfl (by decide) (by first | omega | (simp; done) | (simp; omega)))⟩,  trivial⟩ ⟨rfl, rfl,  trivial⟩ trivial rfl rfl rfl rfl) rfl rfl rfl rfl rfl ?_
        refine AL.new (n' := 4) (Wanted.plain rfl) (g_alloc 3 rfl zv47 rfl rfl rfl) rfl rfl rfl ?_
        refine AL.sto (h' := [(3, (.box 47 [(cI f1.err), (cI f1.at_)])), (2, (.arr 127 4 ((m).map rRecord))), (1, (.box 3 [(cI (sumR m))])), (0, (.box 114 [(.s 2 0 4 m.length)]))]) (Wanted.plain rfl) (g_storeB rfl rfl rfl rfl rfl sz47 rfl (Nat.le_of_ble_eq_true rfl) rfl) rfl rfl rfl rfl ?_
        refine AL.nil ?_
        refine then_ok ?_
        refine AC.seq ?_
        refine AC.region ?_
        refine AL.val (Wanted.plain rfl) (g_fieldP rfl rfl Try.underlying47 rfl sz27 (by decide)) rfl rfl ?_
        refine AL.val (Wanted.plain rfl) (g_loadB rfl rfl rfl Try.underlying27 rfl rfl) rfl rfl ?_
        refine AL.val (Wanted.plain rfl) (g_binI rfl rfl rfl rfl) rfl rfl ?_
        refine AL.nil ?_
        refine then_ok ?_
        refine AC.cond rfl (fun hc4 => ?_) (fun hc4 => ?_)
        ·
          have hc4' := hc4; try simp only [sumB, Bool.not_eq_true', Bool.not_eq_false', Bool.or_eq_true, Bool.or_eq_false_iff, Bool.and_eq_true, Bool.and_eq_false_imp, decide_eq_true_eq, decide_eq_false_iff_not, Bool.not_not, Bool.not_true, Bool.not_false] at hc4'
          refine AC.seq ?_
          refine AC.weak (st' := ⟨[(0, (aC (cR 1 ((b).map rU8)))), (4, (aC (.p 0 0 0 0))), (5, (aC (.p 1 0 0 0))), (6, (aI ((↑b.length : Int) - 4))), (9, (aC (.p 3 0 0 0)))], [(3, (.box 47 [(cI f1.err), (cI f1.at_)])), (2, (.arr 127 4 ((m).map rRecord))), (1, (.box 3 [(cI (sumR m))])), (0, (.box 114 [(.s 2 0 4 m.length)]))], 4⟩) (Weak.ren id (by refine ⟨?_, ?_, ?_, ?_, ?_,  trivial⟩ <;> first | rfl | (simp only [AV.map, GV.map, CV.map, AB.map', id]; done) | (congr 3; omega) | (congr 4; omega) | (simp only [List.length_append, List.length_cons, List.length_nil, List.length_set]; rfl)) (by refine ⟨?_, ?_, ?_, ?_,  trivial⟩ <;> first | rfl | (simp only [AV.map, GV.map, CV.map, AB.map', id]; done) | (congr 3; omega) | (congr 4; omega) | (simp only [List.length_append, List.length_cons, List.length_nil, List.length_set]; rfl)) rfl) ?_
          refine AC.draw [⟨some 61, (aC (.p 3 0 0 0)), [], [], [], [(9, (aC (.p 3 0 0 0)))], []⟩,
      ⟨some 62, (aI f1.err), [], [], [0], [(61, (aC (.p 3 0 0 0)))], [(3, (.box 47 [(cI f1.err), (cI f1.at_)]))]⟩,
      ⟨some 2, (aC cN), [], [], [], [], []⟩,
      ⟨some 3, (aI f1.err), [], [], [1], [(62, (aI f1.err))], []⟩] ⟨[(0, (aC (cR 1 ((b).map rU8)))), (4, (aC (.p 0 0 0 0))), (5, (aC (.p 1 0 0 0))), (6, (aI ((↑b.length : Int) - 4))), (9, (aC (.p 3 0 0 0))), (2, (aC cN)), (3, (aI f1.err))], [(3, (.box 47 [(cI f1.err), (cI f1.at_)])), (2, (.arr 127 4 ((m).map rRecord))), (1, (.box 3 [(cI (sumR m))])), (0, (.box 114 [(.s 2 0 4 m.length)]))], 4⟩ mixed (by kernel_rfl) ?_ ?_ ?_ ?_
          · exact ⟨.inl ⟨(Wanted.plain rfl), GOp.cast (g_fieldP rfl rfl Try.underlying47 rfl sz27 (by decide)) rfl⟩,
      .inl ⟨(Wanted.plain rfl), GOp.cast (g_loadB rfl rfl rfl Try.underlying27 rfl rfl) rfl⟩,
      .inl ⟨(Wanted.plain rfl), GOp.cast (g_assign rfl rfl) rfl⟩,
      .inl ⟨(Wanted.plain rfl), GOp.cast (g_assign rfl rfl) rfl⟩,
       trivial⟩
          · exact ⟨⟨⟨.inl rfl,  trivial⟩, trivial⟩, ⟨⟨.inr ⟨0, .head _, _, rfl, rfl, rfl⟩,  trivial⟩, ⟨.inl rfl,  trivial⟩⟩, ⟨trivial, trivial⟩, ⟨⟨.inr ⟨1, .head _, _, rfl, rfl, rfl⟩,  trivial⟩, trivial⟩,  trivial⟩
          · exact ⟨⟨.inl rfl, .inl rfl, .inl rfl, .inl rfl, .inl rfl, .inr ⟨2, _, rfl, rfl, rfl⟩, .inr ⟨3, _, rfl, rfl, rfl⟩,  trivial⟩, ⟨.inl rfl, .inl rfl, .inl rfl, .inl rfl,  trivial⟩⟩
          ·
            refine AL.nil ?_
            refine then_ok ?_
            refine AC.ret ?_
            refine then_ret ?_
            refine retQ_weak (Weak.nil 2 127 4 (by decide) rfl) ?_
            have hX : parseR b = (([] : List Record), f1.err) := by
              rw [parseR_go hx1 (by omega) (show m = _ by rw [← hm]; congr 2 <;> omega)]; rw [if_neg (by rw [hr1]; omega), hr1]
            rw [hX] at hr; clear hX
            simp only [Prod.mk.injEq] at hr; obtain ⟨rfl, rfl⟩ := hr
            refine retQ_mk (av' := outOf [(.c (.s 0 0 4 0)), (.c (cI f1.err))]) (nb' := [(0, (.arr 127 4 ((([] : List Record)).map rRecord)))]) (retQ_ret ⟨[(2, (aC (.s 0 0 4 0))), (3, (aI f1.err))], [(0, (.arr 127 4 ((([] : List Record)).map rRecord)))], 1⟩ [.tmp 2, .tmp 3] [(.c (.s 0 0 4 0)), (.c (cI f1.err))] (Weak.ren (fun k => if k = 0 then 4 else k) (by refine ⟨?_, ?_,  trivial⟩ <;> first | rfl | (simp only [AV.map, GV.map, CV.map, AB.map', id]; done) | (congr 3; omega) | (congr 4; omega) | (simp only [List.length_append, List.length_cons, List.length_nil, List.length_set]; rfl)) (⟨by first | rfl | (simp only [AV.map, GV.map, CV.map, AB.map', id]; done) | (congr 3; omega) | (congr 4; omega) | (simp only [List.length_append, List.length_cons, List.length_nil, List.length_set]; rfl), trivial⟩) rfl) rfl ⟨.tmp rfl, .tmp rfl, trivial⟩ ⟨by first | rfl | (simp only [AV.map, GV.map, CV.map, AB.map', id]; done) | (congr 3; omega) | (congr 4; omega) | (simp only [List.length_append, List.length_cons, List.length_nil, List.length_set]; rfl), trivial⟩) ?_ ?_
            · first | rfl | (simp [outOf, aC]; done) | (simp [outOf, aC]; omega)
            · first | rfl | (simp; done) | (simp; omega)
        ·
          have hc4' := hc4; try simp only [sumB, Bool.not_eq_true', Bool.not_eq_false', Bool.or_eq_true, Bool.or_eq_false_iff, Bool.and_eq_true, Bool.and_eq_false_imp, decide_eq_true_eq, decide_eq_false_iff_not, Bool.not_not, Bool.not_true, Bool.not_false] at hc4'
          refine AC.skip ?_
          refine then_ok ?_
          refine AC.seq ?_
          refine AC.seq ?_
          obtain ⟨n2, hr2⟩ : ∃ (n2 : Int), numB ((b).drop ((b.length) - 4)) = n2 := ⟨_, rfl⟩
          rcases Bool.eq_false_or_eq_true (decide (¬ (sumR m) = n2)) with hb5 | hb5
          ·
            have hb5' := hb5; try simp only [sumB, Bool.not_eq_true', Bool.not_eq_false', Bool.or_eq_true, Bool.or_eq_false_iff, Bool.and_eq_true, Bool.and_eq_false_imp, decide_eq_true_eq, decide_eq_false_iff_not, Bool.not_not, Bool.not_true, Bool.not_false] at hb5'
            refine AC.weak (st' := ⟨[(0, (aC (cR 1 ((b).map rU8)))), (4, (aC (.p 0 0 0 0))), (5, (aC (.p 1 0 0 0))), (6, (aI ((↑b.length : Int) - 4)))], [(2, (.arr 127 4 ((m).map rRecord))), (1, (.box 3 [(cI (sumR m))])), (0, (.box 114 [(.s 2 0 4 m.length)]))], 4⟩) (Weak.ren id (by refine ⟨?_, ?_, ?_, ?_,  trivial⟩ <;> first | rfl | (simp only [AV.map, GV.map, CV.map, AB.map', id]; done) | (congr 3; omega) | (congr 4; omega) | (simp only [List.length_append, List.length_cons, List.length_nil, List.length_set]; rfl)) (by refine ⟨?_, ?_, ?_,  trivial⟩ <;> first | rfl | (simp only [AV.map, GV.map, CV.map, AB.map', id]; done) | (congr 3; omega) | (congr 4; omega) | (simp only [List.length_append, List.length_cons, List.length_nil, List.length_set]; rfl)) rfl) ?_
            refine AC.draw [⟨some 63, (aI (sumR m)), [], [], [], [(5, (aC (.p 1 0 0 0)))], [(1, (.box 3 [(cI (sumR m))]))]⟩,
      ⟨some 64, (aC (cR 1 ((b).map rU8))), [], [], [], [(0, (aC (cR 1 ((b).map rU8))))], []⟩,
      ⟨some 65, (aI ((↑b.length : Int) - 4)), [], [], [], [(6, (aI ((↑b.length : Int) - 4)))], []⟩,
      ⟨some 66, (aC (cR 1 (((b).drop ((b.length) - 4)).map rU8))), [], [], [1, 2], [(64, (aC (cR 1 ((b).map rU8)))), (65, (aI ((↑b.length : Int) - 4)))], []⟩,
      ⟨some 67, (aI n2), [], [], [3], [(66, (aC (cR 1 (((b).drop ((b.length) - 4)).map rU8))))], []⟩,
      ⟨some 68, (aB true), [], [], [0, 4], [(63, (aI (sumR m))), (67, (aI n2))], []⟩,
      ⟨some 69, (aB true), [], [], [5], [(68, (aB true))], []⟩,
      ⟨some 70, (.t []), [], [], [6], [(4, (aC (.p 0 0 0 0))), (69, (aB true))], []⟩,
      ⟨some 71, (.t []), [], [], [6, 7], [(70, (.t [])), (69, (aB true))], []⟩,
      ⟨some 72, (.t []), [], [], [6, 8], [(71, (.t [])), (69, (aB true))], []⟩,
      ⟨some 73, (aB true), [], [], [6, 9], [(69, (aB true)), (72, (.t []))], []⟩] ⟨[(0, (aC (cR 1 ((b).map rU8)))), (4, (aC (.p 0 0 0 0))), (5, (aC (.p 1 0 0 0))), (6, (aI ((↑b.length : Int) - 4))), (73, (aB true))], [(2, (.arr 127 4 ((m).map rRecord))), (1, (.box 3 [(cI (sumR m))])), (0, (.box 114 [(.s 2 0 4 m.length)]))], 4⟩ mixed (by kernel_rfl) ?_ ?_ ?_ ?_
            · exact ⟨.inl ⟨(Wanted.plain rfl), GOp.cast (g_loadB rfl rfl rfl Try.underlying3 rfl rfl) rfl⟩,
      .inl ⟨(Wanted.plain rfl), GOp.cast (g_move rfl rfl) rfl⟩,
      .inl ⟨(Wanted.plain rfl), GOp.cast (g_move rfl rfl) rfl⟩,
      .inl ⟨(Wanted.plain rfl), GOp.cast (g_sliceD (l := (b.length) - 4) (h := b.length) (ys := ((b).drop ((b.length) - 4)).map rU8) rfl Try.underlying115 sz5 rfl (.inr ⟨_, rfl, (evI rfl (by first | omega | (simp; done) | (simp; omega)))⟩) (.inl ⟨rfl, by simp⟩) (by first | omega | (simp; done) | (simp; omega)) (by first | omega | (simp; done) | (simp; omega)) (by first | (simp; done) | (rw [List.map_drop]; exact List.take_of_length_le (by simp)))) rfl⟩,
      .inl ⟨(Wanted.plain rfl), GOp.cast (g_call 4 (c_number ((b).drop ((b.length) - 4)) (by first | assumption | exact fun c hc => hb c (List.mem_of_mem_drop hc) | exact fun x hx => hcb x (List.mem_of_mem_drop hx)) (by first | omega | (simp; done) | (simp; omega)) n2 hr2) en122 rfl rfl ⟨⟨_, rfl, .c (.d _)⟩,  trivial⟩ trivial trivial rfl rfl rfl rfl) rfl⟩,
      .inl ⟨(Wanted.plain rfl), GOp.cast (g_binI rfl rfl rfl (congrArg (fun b => some (Value.bool b)) hb5)) rfl⟩,
      .inl ⟨(Wanted.plain rfl), GOp.cast (g_move rfl rfl) rfl⟩,
      .inr ⟨(Unwanted.no rfl rfl rfl), rfl, rfl, rfl⟩,
      .inr ⟨(Unwanted.no rfl rfl rfl), rfl, rfl, rfl⟩,
      .inr ⟨(Unwanted.no rfl rfl rfl), rfl, rfl, rfl⟩,
      .inl ⟨(Wanted.plain rfl), GOp.cast (g_pick rfl rfl rfl) rfl⟩,
       trivial⟩
            · exact ⟨⟨⟨.inl rfl,  trivial⟩, ⟨.inl rfl,  trivial⟩⟩, ⟨⟨.inl rfl,  trivial⟩, trivial⟩, ⟨⟨.inl rfl,  trivial⟩, trivial⟩, ⟨⟨.inr ⟨1, .head _, _, rfl, rfl, rfl⟩, .inr ⟨2, .tail _ (.head _), _, rfl, rfl, rfl⟩,  trivial⟩, trivial⟩, ⟨⟨.inr ⟨3, .head _, _, rfl, rfl, rfl⟩,  trivial⟩, trivial⟩, ⟨⟨.inr ⟨0, .head _, _, rfl, rfl, rfl⟩, .inr ⟨4, .tail _ (.head _), _, rfl, rfl, rfl⟩,  trivial⟩, trivial⟩, ⟨⟨.inr ⟨5, .head _, _, rfl, rfl, rfl⟩,  trivial⟩, trivial⟩, ⟨⟨.inl rfl, .inr ⟨6, .head _, _, rfl, rfl, rfl⟩,  trivial⟩, trivial⟩, ⟨⟨.inr ⟨7, .tail _ (.head _), _, rfl, rfl, rfl⟩, .inr ⟨6, .head _, _, rfl, rfl, rfl⟩,  trivial⟩, trivial⟩, ⟨⟨.inr ⟨8, .tail _ (.head _), _, rfl, rfl, rfl⟩, .inr ⟨6, .head _, _, rfl, rfl, rfl⟩,  trivial⟩, trivial⟩, ⟨⟨.inr ⟨6, .head _, _, rfl, rfl, rfl⟩, .inr ⟨9, .tail _ (.head _), _, rfl, rfl, rfl⟩,  trivial⟩, trivial⟩,  trivial⟩
            · exact ⟨⟨.inl rfl, .inl rfl, .inl rfl, .inl rfl, .inr ⟨10, _, rfl, rfl, rfl⟩,  trivial⟩, ⟨.inl rfl, .inl rfl, .inl rfl,  trivial⟩⟩
            ·
              refine AL.nil ?_
              refine then_ok ?_
              refine AC.cond rfl (fun _ => ?_) (fun hno => by cases hno)
              refine AC.seq ?_
              refine AC.region ?_
              refine AL.fast 2 rfl ?_
              refine AL.nil ?_
              refine then_ok ?_
              refine AC.ret ?_
              refine then_ret ?_
              refine retQ_weak (Weak.nil 2 127 4 (by decide) rfl) ?_
              have hX : parseR b = (([] : List Record), 8) := by
                rw [parseR_go hx1 (by omega) (show m = _ by rw [← hm]; congr 2 <;> omega)]
                have hdn : numB (b.drop (b.length - 4)) = _ := (show numB (b.drop (b.length - 4)) = numB ((b).drop ((b.length) - 4)) by congr 2 <;> omega).trans hr2
                rw [if_pos (by rw [hr1]; omega)]
                rw [if_neg]
                rintro ⟨h1, h2⟩
                rw [hdn] at h1; omega
              rw [hX] at hr; clear hX
              simp only [Prod.mk.injEq] at hr; obtain ⟨rfl, rfl⟩ := hr
              refine retQ_mk (av' := outOf [(.c (.s 0 0 4 0)), (.c (cI 8))]) (nb' := [(0, (.arr 127 4 ((([] : List Record)).map rRecord)))]) (retQ_ret ⟨[(2, (aC (.s 0 0 4 0))), (3, (aI 8))], [(0, (.arr 127 4 ((([] : List Record)).map rRecord)))], 1⟩ [.tmp 2, .tmp 3] [(.c (.s 0 0 4 0)), (.c (cI 8))] (Weak.ren (fun k => if k = 0 then 4 else k) (by refine ⟨?_, ?_,  trivial⟩ <;> first | rfl | (simp only [AV.map, GV.map, CV.map, AB.map', id]; done) | (congr 3; omega) | (congr 4; omega) | (simp only [List.length_append, List.length_cons, List.length_nil, List.length_set]; rfl)) (⟨by first | rfl | (simp only [AV.map, GV.map, CV.map, AB.map', id]; done) | (congr 3; omega) | (congr 4; omega) | (simp only [List.length_append, List.length_cons, List.length_nil, List.length_set]; rfl), trivial⟩) rfl) rfl ⟨.tmp rfl, .tmp rfl, trivial⟩ ⟨by first | rfl | (simp only [AV.map, GV.map, CV.map, AB.map', id]; done) | (congr 3; omega) | (congr 4; omega) | (simp only [List.length_append, List.length_cons, List.length_nil, List.length_set]; rfl), trivial⟩) ?_ ?_
              · first | rfl | (simp [outOf, aC]; done) | (simp [outOf, aC]; omega)
              · first | rfl | (simp; done) | (simp; omega)
          ·
            have hb5' := hb5; try simp only [sumB, Bool.not_eq_true', Bool.not_eq_false', Bool.or_eq_true, Bool.or_eq_false_iff, Bool.and_eq_true, Bool.and_eq_false_imp, decide_eq_true_eq, decide_eq_false_iff_not, Bool.not_not, Bool.not_true, Bool.not_false] at hb5'
            obtain ⟨r3, hr3⟩ : ∃ (r3 : Bool), srtB m = r3 := ⟨_, rfl⟩
            refine AC.weak (st' := ⟨[(0, (aC (cR 1 ((b).map rU8)))), (4, (aC (.p 0 0 0 0))), (5, (aC (.p 1 0 0 0))), (6, (aI ((↑b.length : Int) - 4)))], [(2, (.arr 127 4 ((m).map rRecord))), (1, (.box 3 [(cI (sumR m))])), (0, (.box 114 [(.s 2 0 4 m.length)]))], 4⟩) (Weak.ren id (by refine ⟨?_, ?_, ?_, ?_,  trivial⟩ <;> first | rfl | (simp only [AV.map, GV.map, CV.map, AB.map', id]; done) | (congr 3; omega) | (congr 4; omega) | (simp only [List.length_append, List.length_cons, List.length_nil, List.length_set]; rfl)) (by refine ⟨?_, ?_, ?_,  trivial⟩ <;> first | rfl | (simp only [AV.map, GV.map, CV.map, AB.map', id]; done) | (congr 3; omega) | (congr 4; omega) | (simp only [List.length_append, List.length_cons, List.length_nil, List.length_set]; rfl)) rfl) ?_
            refine AC.draw [⟨some 63, (aI (sumR m)), [], [], [], [(5, (aC (.p 1 0 0 0)))], [(1, (.box 3 [(cI (sumR m))]))]⟩,
      ⟨some 64, (aC (cR 1 ((b).map rU8))), [], [], [], [(0, (aC (cR 1 ((b).map rU8))))], []⟩,
      ⟨some 65, (aI ((↑b.length : Int) - 4)), [], [], [], [(6, (aI ((↑b.length : Int) - 4)))], []⟩,
      ⟨some 66, (aC (cR 1 (((b).drop ((b.length) - 4)).map rU8))), [], [], [1, 2], [(64, (aC (cR 1 ((b).map rU8)))), (65, (aI ((↑b.length : Int) - 4)))], []⟩,
      ⟨some 67, (aI n2), [], [], [3], [(66, (aC (cR 1 (((b).drop ((b.length) - 4)).map rU8))))], []⟩,
      ⟨some 68, (aB false), [], [], [0, 4], [(63, (aI (sumR m))), (67, (aI n2))], []⟩,
      ⟨some 69, (aB false), [], [], [5], [(68, (aB false))], []⟩,
      ⟨some 70, (aC (.s 2 0 4 m.length)), [], [], [6], [(4, (aC (.p 0 0 0 0))), (69, (aB false))], [(0, (.box 114 [(.s 2 0 4 m.length)]))]⟩,
      ⟨some 71, (aB r3), [], [], [6, 7], [(70, (aC (.s 2 0 4 m.length))), (69, (aB false))], [(2, (.arr 127 4 ((m).map rRecord)))]⟩,
      ⟨some 72, (aB (!r3)), [], [], [6, 8], [(71, (aB r3)), (69, (aB false))], []⟩,
      ⟨some 73, (aB (!r3)), [], [], [6, 9], [(69, (aB false)), (72, (aB (!r3)))], []⟩] ⟨[(0, (aC (cR 1 ((b).map rU8)))), (4, (aC (.p 0 0 0 0))), (5, (aC (.p 1 0 0 0))), (6, (aI ((↑b.length : Int) - 4))), (73, (aB (!r3)))], [(2, (.arr 127 4 ((m).map rRecord))), (1, (.box 3 [(cI (sumR m))])), (0, (.box 114 [(.s 2 0 4 m.length)]))], 4⟩ mixed (by kernel_rfl) ?_ ?_ ?_ ?_
            · exact ⟨.inl ⟨(Wanted.plain rfl), GOp.cast (g_loadB rfl rfl rfl Try.underlying3 rfl rfl) rfl⟩,
      .inl ⟨(Wanted.plain rfl), GOp.cast (g_move rfl rfl) rfl⟩,
      .inl ⟨(Wanted.plain rfl), GOp.cast (g_move rfl rfl) rfl⟩,
      .inl ⟨(Wanted.plain rfl), GOp.cast (g_sliceD (l := (b.length) - 4) (h := b.length) (ys := ((b).drop ((b.length) - 4)).map rU8) rfl Try.underlying115 sz5 rfl (.inr ⟨_, rfl, (evI rfl (by first | omega | (simp; done) | (simp; omega)))⟩) (.inl ⟨rfl, by simp⟩) (by first | omega | (simp; done) | (simp; omega)) (by first | omega | (simp; done) | (simp; omega)) (by first | (simp; done) | (rw [List.map_drop]; exact List.take_of_length_le (by simp)))) rfl⟩,
      .inl ⟨(Wanted.plain rfl), GOp.cast (g_call 4 (c_number ((b).drop ((b.length) - 4)) (by first | assumption | exact fun c hc => hb c (List.mem_of_mem_drop hc) | exact fun x hx => hcb x (List.mem_of_mem_drop hx)) (by first | omega | (simp; done) | (simp; omega)) n2 hr2) en122 rfl rfl ⟨⟨_, rfl, .c (.d _)⟩,  trivial⟩ trivial trivial rfl rfl rfl rfl) rfl⟩,
      .inl ⟨(Wanted.plain rfl), GOp.cast (g_binI rfl rfl rfl (congrArg (fun b => some (Value.bool b)) hb5)) rfl⟩,
      .inl ⟨(Wanted.plain rfl), GOp.cast (g_move rfl rfl) rfl⟩,
      .inl ⟨(Wanted.yes rfl rfl rfl), GOp.cast (g_loadB rfl rfl rfl Try.underlying114 rfl rfl) rfl⟩,
      .inl ⟨(Wanted.yes rfl rfl rfl), GOp.cast (g_callE 4 [2] (c_IsSorted m 120 ([]) (fun x y => c_order x y) en120  r3 hr3) en123 rfl rfl ⟨⟨_, rfl, .c (.s rfl (by decide) (by first | omega | (simp; done) | (simp; omega)))⟩, ⟨_, rfl, .c (.fn trivial)⟩,  trivial⟩ rfl trivial rfl rfl rfl rfl) rfl⟩,
      .inl ⟨(Wanted.yes rfl rfl rfl), GOp.cast (g_notB rfl rfl) rfl⟩,
      .inl ⟨(Wanted.plain rfl), GOp.cast (g_pick rfl rfl rfl) rfl⟩,
       trivial⟩
            · exact ⟨⟨⟨.inl rfl,  trivial⟩, ⟨.inl rfl,  trivial⟩⟩, ⟨⟨.inl rfl,  trivial⟩, trivial⟩, ⟨⟨.inl rfl,  trivial⟩, trivial⟩, ⟨⟨.inr ⟨1, .head _, _, rfl, rfl, rfl⟩, .inr ⟨2, .tail _ (.head _), _, rfl, rfl, rfl⟩,  trivial⟩, trivial⟩, ⟨⟨.inr ⟨3, .head _, _, rfl, rfl, rfl⟩,  trivial⟩, trivial⟩, ⟨⟨.inr ⟨0, .head _, _, rfl, rfl, rfl⟩, .inr ⟨4, .tail _ (.head _), _, rfl, rfl, rfl⟩,  trivial⟩, trivial⟩, ⟨⟨.inr ⟨5, .head _, _, rfl, rfl, rfl⟩,  trivial⟩, trivial⟩, ⟨⟨.inl rfl, .inr ⟨6, .head _, _, rfl, rfl, rfl⟩,  trivial⟩, ⟨.inl rfl,  trivial⟩⟩, ⟨⟨.inr ⟨7, .tail _ (.head _), _, rfl, rfl, rfl⟩, .inr ⟨6, .head _, _, rfl, rfl, rfl⟩,  trivial⟩, ⟨.inl rfl,  trivial⟩⟩, ⟨⟨.inr ⟨8, .tail _ (.head _), _, rfl, rfl, rfl⟩, .inr ⟨6, .head _, _, rfl, rfl, rfl⟩,  trivial⟩, trivial⟩, ⟨⟨.inr ⟨6, .head _, _, rfl, rfl, rfl⟩, .inr ⟨9, .tail _ (.head _), _, rfl, rfl, rfl⟩,  trivial⟩, trivial⟩,  trivial⟩
            · exact ⟨⟨.inl rfl, .inl rfl, .inl rfl, .inl rfl, .inr ⟨10, _, rfl, rfl, rfl⟩,  trivial⟩, ⟨.inl rfl, .inl rfl, .inl rfl,  trivial⟩⟩
            ·
              refine AL.nil ?_
              refine then_ok ?_
              refine AC.cond rfl (fun hc7 => ?_) (fun hc7 => ?_)
              ·
                have hc7' := hc7; try simp only [sumB, Bool.not_eq_true', Bool.not_eq_false', Bool.or_eq_true, Bool.or_eq_false_iff, Bool.and_eq_true, Bool.and_eq_false_imp, decide_eq_true_eq, decide_eq_false_iff_not, Bool.not_not, Bool.not_true, Bool.not_false] at hc7'
                refine AC.seq ?_
                refine AC.region ?_
                refine AL.fast 2 rfl ?_
                refine AL.nil ?_
                refine then_ok ?_
                refine AC.ret ?_
                refine then_ret ?_
                refine retQ_weak (Weak.nil 2 127 4 (by decide) rfl) ?_
                have hX : parseR b = (([] : List Record), 8) := by
                  rw [parseR_go hx1 (by omega) (show m = _ by rw [← hm]; congr 2 <;> omega)]
                  have hdn : numB (b.drop (b.length - 4)) = _ := (show numB (b.drop (b.length - 4)) = numB ((b).drop ((b.length) - 4)) by congr 2 <;> omega).trans hr2
                  rw [if_pos (by rw [hr1]; omega)]
                  rw [if_neg]
                  rintro ⟨h1, h2⟩
                  have h3 : srtB m = true := decide_eq_true h2
                  rw [hr3] at h3; simp_all
                rw [hX] at hr; clear hX
                simp only [Prod.mk.injEq] at hr; obtain ⟨rfl, rfl⟩ := hr
                refine retQ_mk (av' := outOf [(.c (.s 0 0 4 0)), (.c (cI 8))]) (nb' := [(0, (.arr 127 4 ((([] : List Record)).map rRecord)))]) (retQ_ret ⟨[(2, (aC (.s 0 0 4 0))), (3, (aI 8))], [(0, (.arr 127 4 ((([] : List Record)).map rRecord)))], 1⟩ [.tmp 2, .tmp 3] [(.c (.s 0 0 4 0)), (.c (cI 8))] (Weak.ren (fun k => if k = 0 then 4 else k) (by refine ⟨?_, ?_,  trivial⟩ <;> first | rfl | (simp only [AV.map, GV.map, CV.map, AB.map', id]; done) | (congr 3; omega) | (congr 4; omega) | (simp only [List.length_append, List.length_cons, List.length_nil, List.length_set]; rfl)) (⟨by first | rfl | (simp only [AV.map, GV.map, CV.map, AB.map', id]; done) | (congr 3; omega) | (congr 4; omega) | (simp only [List.length_append, List.length_cons, List.length_nil, List.length_set]; rfl), trivial⟩) rfl) rfl ⟨.tmp rfl, .tmp rfl, trivial⟩ ⟨by first | rfl | (simp only [AV.map, GV.map, CV.map, AB.map', id]; done) | (congr 3; omega) | (congr 4; omega) | (simp only [List.length_append, List.length_cons, List.length_nil, List.length_set]; rfl), trivial⟩) ?_ ?_
                · first | rfl | (simp [outOf, aC]; done) | (simp [outOf, aC]; omega)
                · first | rfl | (simp; done) | (simp; omega)
              ·
                have hc7' := hc7; try simp only [sumB, Bool.not_eq_true', Bool.not_eq_false', Bool.or_eq_true, Bool.or_eq_false_iff, Bool.and_eq_true, Bool.and_eq_false_imp, decide_eq_true_eq, decide_eq_false_iff_not, Bool.not_not, Bool.not_true, Bool.not_false] at hc7'
                refine AC.skip ?_
                refine then_ok ?_
                refine AC.seq ?_
                refine AC.region ?_
                refine AL.val (Wanted.plain rfl) (g_loadB rfl rfl rfl Try.underlying114 rfl rfl) rfl rfl ?_
                refine AL.fast 2 rfl ?_
                refine AL.nil ?_
                refine then_ok ?_
                refine AC.ret ?_
                have hX : parseR b = (m, 0) := by
                  rw [parseR_go hx1 (by omega) (show m = _ by rw [← hm]; congr 2 <;> omega)]
                  have hdn : numB (b.drop (b.length - 4)) = _ := (show numB (b.drop (b.length - 4)) = numB ((b).drop ((b.length) - 4)) by congr 2 <;> omega).trans hr2
                  rw [if_pos (by rw [hr1]; omega)]
                  rw [if_pos]
                  refine ⟨by rw [hdn]; omega, ?_⟩
                  have h3 : srtB m = true := by rw [hr3]; simp_all
                  exact of_decide_eq_true h3
                rw [hX] at hr; clear hX
                simp only [Prod.mk.injEq] at hr; obtain ⟨rfl, rfl⟩ := hr
                refine retQ_mk (av' := outOf [(.c (.s 0 0 4 m.length)), (.c (cI 0))]) (nb' := [(0, (.arr 127 4 ((m).map rRecord)))]) (retQ_ret ⟨[(2, (aC (.s 0 0 4 m.length))), (3, (aI 0))], [(0, (.arr 127 4 ((m).map rRecord)))], 1⟩ [.tmp 2, .tmp 3] [(.c (.s 0 0 4 m.length)), (.c (cI 0))] (Weak.ren (fun k => if k = 0 then 2 else k) (by refine ⟨?_, ?_,  trivial⟩ <;> first | rfl | (simp only [AV.map, GV.map, CV.map, AB.map', id]; done) | (congr 3; omega) | (congr 4; omega) | (simp only [List.length_append, List.length_cons, List.length_nil, List.length_set]; rfl)) (⟨by first | rfl | (simp only [AV.map, GV.map, CV.map, AB.map', id]; done) | (congr 3; omega) | (congr 4; omega) | (simp only [List.length_append, List.length_cons, List.length_nil, List.length_set]; rfl), trivial⟩) rfl) rfl ⟨.tmp rfl, .tmp rfl, trivial⟩ ⟨by first | rfl | (simp only [AV.map, GV.map, CV.map, AB.map', id]; done) | (congr 3; omega) | (congr 4; omega) | (simp only [List.length_append, List.length_cons, List.length_nil, List.length_set]; rfl), trivial⟩) ?_ ?_
                · first | rfl | (simp [outOf, aC]; done) | (simp [outOf, aC]; omega)
                · first | rfl | (simp; done) | (simp; omega)
end Go.Proofs.Ytgmcdlfmifijlaa.Dev
