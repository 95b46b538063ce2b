/- slices.Clone at five element types; payref1.sum. -/
import Derived.Test.YtgmcdlfmifijlaaDTy
set_option linter.unusedVariables false
set_option linter.unusedSimpArgs false
namespace Go.Proofs.Ytgmcdlfmifijlaa.Dev
open Go.RowKit


set_option maxRecDepth 100000 in
set_option maxHeartbeats 1000000 in
theorem c_Clone_int (l : List Int) (hl : l.length * 8 ≤ 140737488355328) : Fn Try.prog 101 [(.c (cR 1 ((l).map rI)))] (aC (.s 0 0 1 l.length)) [(0, .arr 3 1 (l.map rI))] := by
  refine Fn.mk' 8 [(0, (aC (cR 1 ((l).map rI))))] Try.func101 rfl rfl rfl rfl ?_
  intro W0 T0
  refine AC.len1 0 rfl (fun hlen0 => ?_)
  refine AC.seq ?_
  refine AC.region ?_
  refine AL.fast 1 rfl ?_
  refine AL.nil ?_
  refine then_ok ?_
  refine AC.seq ?_
  refine AC.seq ?_
  refine AC.region ?_
  refine AL.fast 1 rfl ?_
  refine AL.isnil (Wanted.plain rfl) rfl rfl Try.underlying24 rfl rfl (fun bn1 hbn1 => ?_)
  refine AL.nil ?_
  refine then_ok ?_
  refine AC.cond rfl (fun hc2 => ?_) (fun hc2 => ?_)
  ·
    have hc2' := hc2; try simp only [sumB, Bool.not_eq_true', Bool.not_eq_false', Bool.or_eq_true, Bool.or_eq_false_iff, Bool.and_eq_true, Bool.and_eq_false_imp, decide_eq_true_eq, decide_eq_false_iff_not, Bool.not_not, Bool.not_true, Bool.not_false] at hc2'
    refine AC.seq ?_
    refine AC.region ?_
    refine AL.fast 1 rfl ?_
    refine AL.nil ?_
    refine then_ok ?_
    refine AC.ret ?_
    refine then_ret ?_
    refine retQ_weak (Weak.nil 2 3 1 (by decide) rfl) ?_
    refine retQ_mk (av' := outOf [(.c (.s 0 0 1 0))]) (nb' := [(0, (.arr 3 1 ((([] : List Int)).map rI)))]) (retQ_ret ⟨[(2, (aC (.s 0 0 1 0)))], [(0, (.arr 3 1 ((([] : List Int)).map rI)))], 1⟩ [.tmp 2] [(.c (.s 0 0 1 0))] (Weak.ren (fun k => if k = 0 then 0 else k) (⟨by first | rfl | (simp only [AV.map, GV.map, CV.map, AB.map', id]; done) | (congr 3; omega) | (congr 4; omega) | (simp only [List.length_append, List.length_cons, List.length_nil, List.length_set]; rfl),  trivial⟩) (⟨by first | rfl | (simp only [AV.map, GV.map, CV.map, AB.map', id]; done) | (congr 3; omega) | (congr 4; omega) | (simp only [List.length_append, List.length_cons, List.length_nil, List.length_set]; rfl),  trivial⟩) rfl) rfl ⟨.tmp rfl, trivial⟩ ⟨by first | rfl | (simp only [AV.map, GV.map, CV.map, AB.map', id]; done) | (congr 3; omega) | (congr 4; omega) | (simp only [List.length_append, List.length_cons, List.length_nil, List.length_set]; rfl),  trivial⟩) ?_ ?_
    · (have h0 := hbn1 (by assumption); have h1 : l = [] := by (cases l with | nil => rfl | cons => simp at h0)); subst h1; rfl
    · (have h0 := hbn1 (by assumption); have h1 : l = [] := by (cases l with | nil => rfl | cons => simp at h0)); subst h1; rfl
  ·
    have hc2' := hc2; try simp only [sumB, Bool.not_eq_true', Bool.not_eq_false', Bool.or_eq_true, Bool.or_eq_false_iff, Bool.and_eq_true, Bool.and_eq_false_imp, decide_eq_true_eq, decide_eq_false_iff_not, Bool.not_not, Bool.not_true, Bool.not_false] at hc2'
    refine AC.skip ?_
    refine then_ok ?_
    refine AC.seq ?_
    refine AC.region ?_
    refine AL.new (n' := 1) (Wanted.plain rfl) (g_lit (ys := []) (rows := (([] : List Int)).map rI) 0 sl24 rfl (by decide) trivial rfl rfl rfl rfl) rfl rfl rfl ?_
    refine AL.fast 1 rfl ?_
    refine AL.eat (n' := 2) (h' := [(1, (.arr 3 1 ((l).map rI)))]) (Wanted.plain rfl) (g_append (m := l.length) (N := l.length) (k2 := 1) (ys := (l).map rI) sl24 rfl rfl rfl rfl rfl rfl (by first | omega | (simp; omega) | (simp; done)) rfl (.d _ _) (by first | omega | (simp; omega) | (simp; done)) (by first | omega | (simp; omega) | (simp; done)) rfl (by decide) (by first | omega | (simp; omega) | (simp; done)) (by first | omega | (simp; omega) | (simp; done))) rfl rfl rfl rfl rfl ?_
    refine AL.fast 1 rfl ?_
    refine AL.nil ?_
    refine then_ok ?_
    refine AC.ret ?_
    refine retQ_mk (av' := outOf [(.c (.s 0 0 1 l.length))]) (nb' := [(0, (.arr 3 1 ((l).map rI)))]) (retQ_ret ⟨[(2, (aC (.s 0 0 1 l.length)))], [(0, (.arr 3 1 ((l).map rI)))], 1⟩ [.tmp 2] [(.c (.s 0 0 1 l.length))] (Weak.ren (fun k => if k = 0 then 1 else k) (⟨by first | rfl | (simp only [AV.map, GV.map, CV.map, AB.map', id]; done) | (congr 3; omega) | (congr 4; omega) | (simp only [List.length_append, List.length_cons, List.length_nil, List.length_set]; rfl),  trivial⟩) (⟨by first | rfl | (simp only [AV.map, GV.map, CV.map, AB.map', id]; done) | (congr 3; omega) | (congr 4; omega) | (simp only [List.length_append, List.length_cons, List.length_nil, List.length_set]; rfl),  trivial⟩) rfl) rfl ⟨.tmp rfl, trivial⟩ ⟨by first | rfl | (simp only [AV.map, GV.map, CV.map, AB.map', id]; done) | (congr 3; omega) | (congr 4; omega) | (simp only [List.length_append, List.length_cons, List.length_nil, List.length_set]; rfl),  trivial⟩) ?_ ?_
    · simp [outOf, aC]
    · simp
set_option maxRecDepth 100000 in
set_option maxHeartbeats 1000000 in
theorem c_Clone_Advice (l : List Advice) (hl : l.length * 32 ≤ 140737488355328) : Fn Try.prog 102 [(.c (cR 4 ((l).map rAdvice)))] (aC (.s 0 0 4 l.length)) [(0, .arr 32 4 (l.map rAdvice))] := by
  refine Fn.mk' 8 [(0, (aC (cR 4 ((l).map rAdvice))))] Try.func102 rfl rfl rfl rfl ?_
  intro W0 T0
  refine AC.len1 0 rfl (fun hlen0 => ?_)
  refine AC.seq ?_
  refine AC.region ?_
  refine AL.fast 1 rfl ?_
  refine AL.nil ?_
  refine then_ok ?_
  refine AC.seq ?_
  refine AC.seq ?_
  refine AC.region ?_
  refine AL.fast 1 rfl ?_
  refine AL.isnil (Wanted.plain rfl) rfl rfl Try.underlying22 rfl rfl (fun bn1 hbn1 => ?_)
  refine AL.nil ?_
  refine then_ok ?_
  refine AC.cond rfl (fun hc2 => ?_) (fun hc2 => ?_)
  ·
    have hc2' := hc2; try simp only [sumB, Bool.not_eq_true', Bool.not_eq_false', Bool.or_eq_true, Bool.or_eq_false_iff, Bool.and_eq_true, Bool.and_eq_false_imp, decide_eq_true_eq, decide_eq_false_iff_not, Bool.not_not, Bool.not_true, Bool.not_false] at hc2'
    refine AC.seq ?_
    refine AC.region ?_
    refine AL.fast 1 rfl ?_
    refine AL.nil ?_
    refine then_ok ?_
    refine AC.ret ?_
    refine then_ret ?_
    refine retQ_weak (Weak.nil 2 32 4 (by decide) rfl) ?_
    refine retQ_mk (av' := outOf [(.c (.s 0 0 4 0))]) (nb' := [(0, (.arr 32 4 ((([] : List Advice)).map rAdvice)))]) (retQ_ret ⟨[(2, (aC (.s 0 0 4 0)))], [(0, (.arr 32 4 ((([] : List Advice)).map rAdvice)))], 1⟩ [.tmp 2] [(.c (.s 0 0 4 0))] (Weak.ren (fun k => if k = 0 then 0 else k) (⟨by first | rfl | (simp only [AV.map, GV.map, CV.map, AB.map', id]; done) | (congr 3; omega) | (congr 4; omega) | (simp only [List.length_append, List.length_cons, List.length_nil, List.length_set]; rfl),  trivial⟩) (⟨by first | rfl | (simp only [AV.map, GV.map, CV.map, AB.map', id]; done) | (congr 3; omega) | (congr 4; omega) | (simp only [List.length_append, List.length_cons, List.length_nil, List.length_set]; rfl),  trivial⟩) rfl) rfl ⟨.tmp rfl, trivial⟩ ⟨by first | rfl | (simp only [AV.map, GV.map, CV.map, AB.map', id]; done) | (congr 3; omega) | (congr 4; omega) | (simp only [List.length_append, List.length_cons, List.length_nil, List.length_set]; rfl),  trivial⟩) ?_ ?_
    · (have h0 := hbn1 (by assumption); have h1 : l = [] := by (cases l with | nil => rfl | cons => simp at h0)); subst h1; rfl
    · (have h0 := hbn1 (by assumption); have h1 : l = [] := by (cases l with | nil => rfl | cons => simp at h0)); subst h1; rfl
  ·
    have hc2' := hc2; try simp only [sumB, Bool.not_eq_true', Bool.not_eq_false', Bool.or_eq_true, Bool.or_eq_false_iff, Bool.and_eq_true, Bool.and_eq_false_imp, decide_eq_true_eq, decide_eq_false_iff_not, Bool.not_not, Bool.not_true, Bool.not_false] at hc2'
    refine AC.skip ?_
    refine then_ok ?_
    refine AC.seq ?_
    refine AC.region ?_
    refine AL.new (n' := 1) (Wanted.plain rfl) (g_lit (ys := []) (rows := (([] : List Advice)).map rAdvice) 0 sl22 rfl (by decide) trivial rfl rfl rfl rfl) rfl rfl rfl ?_
    refine AL.fast 1 rfl ?_
    refine AL.eat (n' := 2) (h' := [(1, (.arr 32 4 ((l).map rAdvice)))]) (Wanted.plain rfl) (g_append (m := l.length) (N := l.length) (k2 := 1) (ys := (l).map rAdvice) sl22 rfl rfl rfl rfl rfl rfl (by first | omega | (simp; omega) | (simp; done)) rfl (.d _ _) (by first | omega | (simp; omega) | (simp; done)) (by first | omega | (simp; omega) | (simp; done)) rfl (by decide) (by first | omega | (simp; omega) | (simp; done)) (by first | omega | (simp; omega) | (simp; done))) rfl rfl rfl rfl rfl ?_
    refine AL.fast 1 rfl ?_
    refine AL.nil ?_
    refine then_ok ?_
    refine AC.ret ?_
    refine retQ_mk (av' := outOf [(.c (.s 0 0 4 l.length))]) (nb' := [(0, (.arr 32 4 ((l).map rAdvice)))]) (retQ_ret ⟨[(2, (aC (.s 0 0 4 l.length)))], [(0, (.arr 32 4 ((l).map rAdvice)))], 1⟩ [.tmp 2] [(.c (.s 0 0 4 l.length))] (Weak.ren (fun k => if k = 0 then 1 else k) (⟨by first | rfl | (simp only [AV.map, GV.map, CV.map, AB.map', id]; done) | (congr 3; omega) | (congr 4; omega) | (simp only [List.length_append, List.length_cons, List.length_nil, List.length_set]; rfl),  trivial⟩) (⟨by first | rfl | (simp only [AV.map, GV.map, CV.map, AB.map', id]; done) | (congr 3; omega) | (congr 4; omega) | (simp only [List.length_append, List.length_cons, List.length_nil, List.length_set]; rfl),  trivial⟩) rfl) rfl ⟨.tmp rfl, trivial⟩ ⟨by first | rfl | (simp only [AV.map, GV.map, CV.map, AB.map', id]; done) | (congr 3; omega) | (congr 4; omega) | (simp only [List.length_append, List.length_cons, List.length_nil, List.length_set]; rfl),  trivial⟩) ?_ ?_
    · simp [outOf, aC]
    · simp
set_option maxRecDepth 100000 in
set_option maxHeartbeats 1000000 in
theorem c_Clone_Use (l : List Use) (hl : l.length * 16 ≤ 140737488355328) : Fn Try.prog 105 [(.c (cR 2 ((l).map rUse)))] (aC (.s 0 0 2 l.length)) [(0, .arr 44 2 (l.map rUse))] := by
  refine Fn.mk' 8 [(0, (aC (cR 2 ((l).map rUse))))] Try.func105 rfl rfl rfl rfl ?_
  intro W0 T0
  refine AC.len1 0 rfl (fun hlen0 => ?_)
  refine AC.seq ?_
  refine AC.region ?_
  refine AL.fast 1 rfl ?_
  refine AL.nil ?_
  refine then_ok ?_
  refine AC.seq ?_
  refine AC.seq ?_
  refine AC.region ?_
  refine AL.fast 1 rfl ?_
  refine AL.isnil (Wanted.plain rfl) rfl rfl Try.underlying42 rfl rfl (fun bn1 hbn1 => ?_)
  refine AL.nil ?_
  refine then_ok ?_
  refine AC.cond rfl (fun hc2 => ?_) (fun hc2 => ?_)
  ·
    have hc2' := hc2; try simp only [sumB, Bool.not_eq_true', Bool.not_eq_false', Bool.or_eq_true, Bool.or_eq_false_iff, Bool.and_eq_true, Bool.and_eq_false_imp, decide_eq_true_eq, decide_eq_false_iff_not, Bool.not_not, Bool.not_true, Bool.not_false] at hc2'
    refine AC.seq ?_
    refine AC.region ?_
    refine AL.fast 1 rfl ?_
    refine AL.nil ?_
    refine then_ok ?_
    refine AC.ret ?_
    refine then_ret ?_
    refine retQ_weak (Weak.nil 2 44 2 (by decide) rfl) ?_
    refine retQ_mk (av' := outOf [(.c (.s 0 0 2 0))]) (nb' := [(0, (.arr 44 2 ((([] : List Use)).map rUse)))]) (retQ_ret ⟨[(2, (aC (.s 0 0 2 0)))], [(0, (.arr 44 2 ((([] : List Use)).map rUse)))], 1⟩ [.tmp 2] [(.c (.s 0 0 2 0))] (Weak.ren (fun k => if k = 0 then 0 else k) (⟨by first | rfl | (simp only [AV.map, GV.map, CV.map, AB.map', id]; done) | (congr 3; omega) | (congr 4; omega) | (simp only [List.length_append, List.length_cons, List.length_nil, List.length_set]; rfl),  trivial⟩) (⟨by first | rfl | (simp only [AV.map, GV.map, CV.map, AB.map', id]; done) | (congr 3; omega) | (congr 4; omega) | (simp only [List.length_append, List.length_cons, List.length_nil, List.length_set]; rfl),  trivial⟩) rfl) rfl ⟨.tmp rfl, trivial⟩ ⟨by first | rfl | (simp only [AV.map, GV.map, CV.map, AB.map', id]; done) | (congr 3; omega) | (congr 4; omega) | (simp only [List.length_append, List.length_cons, List.length_nil, List.length_set]; rfl),  trivial⟩) ?_ ?_
    · (have h0 := hbn1 (by assumption); have h1 : l = [] := by (cases l with | nil => rfl | cons => simp at h0)); subst h1; rfl
    · (have h0 := hbn1 (by assumption); have h1 : l = [] := by (cases l with | nil => rfl | cons => simp at h0)); subst h1; rfl
  ·
    have hc2' := hc2; try simp only [sumB, Bool.not_eq_true', Bool.not_eq_false', Bool.or_eq_true, Bool.or_eq_false_iff, Bool.and_eq_true, Bool.and_eq_false_imp, decide_eq_true_eq, decide_eq_false_iff_not, Bool.not_not, Bool.not_true, Bool.not_false] at hc2'
    refine AC.skip ?_
    refine then_ok ?_
    refine AC.seq ?_
    refine AC.region ?_
    refine AL.new (n' := 1) (Wanted.plain rfl) (g_lit (ys := []) (rows := (([] : List Use)).map rUse) 0 sl42 rfl (by decide) trivial rfl rfl rfl rfl) rfl rfl rfl ?_
    refine AL.fast 1 rfl ?_
    refine AL.eat (n' := 2) (h' := [(1, (.arr 44 2 ((l).map rUse)))]) (Wanted.plain rfl) (g_append (m := l.length) (N := l.length) (k2 := 1) (ys := (l).map rUse) sl42 rfl rfl rfl rfl rfl rfl (by first | omega | (simp; omega) | (simp; done)) rfl (.d _ _) (by first | omega | (simp; omega) | (simp; done)) (by first | omega | (simp; omega) | (simp; done)) rfl (by decide) (by first | omega | (simp; omega) | (simp; done)) (by first | omega | (simp; omega) | (simp; done))) rfl rfl rfl rfl rfl ?_
    refine AL.fast 1 rfl ?_
    refine AL.nil ?_
    refine then_ok ?_
    refine AC.ret ?_
    refine retQ_mk (av' := outOf [(.c (.s 0 0 2 l.length))]) (nb' := [(0, (.arr 44 2 ((l).map rUse)))]) (retQ_ret ⟨[(2, (aC (.s 0 0 2 l.length)))], [(0, (.arr 44 2 ((l).map rUse)))], 1⟩ [.tmp 2] [(.c (.s 0 0 2 l.length))] (Weak.ren (fun k => if k = 0 then 1 else k) (⟨by first | rfl | (simp only [AV.map, GV.map, CV.map, AB.map', id]; done) | (congr 3; omega) | (congr 4; omega) | (simp only [List.length_append, List.length_cons, List.length_nil, List.length_set]; rfl),  trivial⟩) (⟨by first | rfl | (simp only [AV.map, GV.map, CV.map, AB.map', id]; done) | (congr 3; omega) | (congr 4; omega) | (simp only [List.length_append, List.length_cons, List.length_nil, List.length_set]; rfl),  trivial⟩) rfl) rfl ⟨.tmp rfl, trivial⟩ ⟨by first | rfl | (simp only [AV.map, GV.map, CV.map, AB.map', id]; done) | (congr 3; omega) | (congr 4; omega) | (simp only [List.length_append, List.length_cons, List.length_nil, List.length_set]; rfl),  trivial⟩) ?_ ?_
    · simp [outOf, aC]
    · simp
set_option maxRecDepth 100000 in
set_option maxHeartbeats 1000000 in
theorem c_Clone_Transfer (l : List Transfer) (hl : l.length * 32 ≤ 140737488355328) : Fn Try.prog 108 [(.c (cR 4 ((l).map rTransfer)))] (aC (.s 0 0 4 l.length)) [(0, .arr 60 4 (l.map rTransfer))] := by
  refine Fn.mk' 8 [(0, (aC (cR 4 ((l).map rTransfer))))] Try.func108 rfl rfl rfl rfl ?_
  intro W0 T0
  refine AC.len1 0 rfl (fun hlen0 => ?_)
  refine AC.seq ?_
  refine AC.region ?_
  refine AL.fast 1 rfl ?_
  refine AL.nil ?_
  refine then_ok ?_
  refine AC.seq ?_
  refine AC.seq ?_
  refine AC.region ?_
  refine AL.fast 1 rfl ?_
  refine AL.isnil (Wanted.plain rfl) rfl rfl Try.underlying56 rfl rfl (fun bn1 hbn1 => ?_)
  refine AL.nil ?_
  refine then_ok ?_
  refine AC.cond rfl (fun hc2 => ?_) (fun hc2 => ?_)
  ·
    have hc2' := hc2; try simp only [sumB, Bool.not_eq_true', Bool.not_eq_false', Bool.or_eq_true, Bool.or_eq_false_iff, Bool.and_eq_true, Bool.and_eq_false_imp, decide_eq_true_eq, decide_eq_false_iff_not, Bool.not_not, Bool.not_true, Bool.not_false] at hc2'
    refine AC.seq ?_
    refine AC.region ?_
    refine AL.fast 1 rfl ?_
    refine AL.nil ?_
    refine then_ok ?_
    refine AC.ret ?_
    refine then_ret ?_
    refine retQ_weak (Weak.nil 2 60 4 (by decide) rfl) ?_
    refine retQ_mk (av' := outOf [(.c (.s 0 0 4 0))]) (nb' := [(0, (.arr 60 4 ((([] : List Transfer)).map rTransfer)))]) (retQ_ret ⟨[(2, (aC (.s 0 0 4 0)))], [(0, (.arr 60 4 ((([] : List Transfer)).map rTransfer)))], 1⟩ [.tmp 2] [(.c (.s 0 0 4 0))] (Weak.ren (fun k => if k = 0 then 0 else k) (⟨by first | rfl | (simp only [AV.map, GV.map, CV.map, AB.map', id]; done) | (congr 3; omega) | (congr 4; omega) | (simp only [List.length_append, List.length_cons, List.length_nil, List.length_set]; rfl),  trivial⟩) (⟨by first | rfl | (simp only [AV.map, GV.map, CV.map, AB.map', id]; done) | (congr 3; omega) | (congr 4; omega) | (simp only [List.length_append, List.length_cons, List.length_nil, List.length_set]; rfl),  trivial⟩) rfl) rfl ⟨.tmp rfl, trivial⟩ ⟨by first | rfl | (simp only [AV.map, GV.map, CV.map, AB.map', id]; done) | (congr 3; omega) | (congr 4; omega) | (simp only [List.length_append, List.length_cons, List.length_nil, List.length_set]; rfl),  trivial⟩) ?_ ?_
    · (have h0 := hbn1 (by assumption); have h1 : l = [] := by (cases l with | nil => rfl | cons => simp at h0)); subst h1; rfl
    · (have h0 := hbn1 (by assumption); have h1 : l = [] := by (cases l with | nil => rfl | cons => simp at h0)); subst h1; rfl
  ·
    have hc2' := hc2; try simp only [sumB, Bool.not_eq_true', Bool.not_eq_false', Bool.or_eq_true, Bool.or_eq_false_iff, Bool.and_eq_true, Bool.and_eq_false_imp, decide_eq_true_eq, decide_eq_false_iff_not, Bool.not_not, Bool.not_true, Bool.not_false] at hc2'
    refine AC.skip ?_
    refine then_ok ?_
    refine AC.seq ?_
    refine AC.region ?_
    refine AL.new (n' := 1) (Wanted.plain rfl) (g_lit (ys := []) (rows := (([] : List Transfer)).map rTransfer) 0 sl56 rfl (by decide) trivial rfl rfl rfl rfl) rfl rfl rfl ?_
    refine AL.fast 1 rfl ?_
    refine AL.eat (n' := 2) (h' := [(1, (.arr 60 4 ((l).map rTransfer)))]) (Wanted.plain rfl) (g_append (m := l.length) (N := l.length) (k2 := 1) (ys := (l).map rTransfer) sl56 rfl rfl rfl rfl rfl rfl (by first | omega | (simp; omega) | (simp; done)) rfl (.d _ _) (by first | omega | (simp; omega) | (simp; done)) (by first | omega | (simp; omega) | (simp; done)) rfl (by decide) (by first | omega | (simp; omega) | (simp; done)) (by first | omega | (simp; omega) | (simp; done))) rfl rfl rfl rfl rfl ?_
    refine AL.fast 1 rfl ?_
    refine AL.nil ?_
    refine then_ok ?_
    refine AC.ret ?_
    refine retQ_mk (av' := outOf [(.c (.s 0 0 4 l.length))]) (nb' := [(0, (.arr 60 4 ((l).map rTransfer)))]) (retQ_ret ⟨[(2, (aC (.s 0 0 4 l.length)))], [(0, (.arr 60 4 ((l).map rTransfer)))], 1⟩ [.tmp 2] [(.c (.s 0 0 4 l.length))] (Weak.ren (fun k => if k = 0 then 1 else k) (⟨by first | rfl | (simp only [AV.map, GV.map, CV.map, AB.map', id]; done) | (congr 3; omega) | (congr 4; omega) | (simp only [List.length_append, List.length_cons, List.length_nil, List.length_set]; rfl),  trivial⟩) (⟨by first | rfl | (simp only [AV.map, GV.map, CV.map, AB.map', id]; done) | (congr 3; omega) | (congr 4; omega) | (simp only [List.length_append, List.length_cons, List.length_nil, List.length_set]; rfl),  trivial⟩) rfl) rfl ⟨.tmp rfl, trivial⟩ ⟨by first | rfl | (simp only [AV.map, GV.map, CV.map, AB.map', id]; done) | (congr 3; omega) | (congr 4; omega) | (simp only [List.length_append, List.length_cons, List.length_nil, List.length_set]; rfl),  trivial⟩) ?_ ?_
    · simp [outOf, aC]
    · simp
set_option maxRecDepth 100000 in
set_option maxHeartbeats 1000000 in
theorem c_Clone_Entry (l : List Entry) (hl : l.length * 16 ≤ 140737488355328) : Fn Try.prog 115 [(.c (cR 2 ((l).map rEntry)))] (aC (.s 0 0 2 l.length)) [(0, .arr 111 2 (l.map rEntry))] := by
  refine Fn.mk' 8 [(0, (aC (cR 2 ((l).map rEntry))))] Try.func115 rfl rfl rfl rfl ?_
  intro W0 T0
  refine AC.len1 0 rfl (fun hlen0 => ?_)
  refine AC.seq ?_
  refine AC.region ?_
  refine AL.fast 1 rfl ?_
  refine AL.nil ?_
  refine then_ok ?_
  refine AC.seq ?_
  refine AC.seq ?_
  refine AC.region ?_
  refine AL.fast 1 rfl ?_
  refine AL.isnil (Wanted.plain rfl) rfl rfl Try.underlying102 rfl rfl (fun bn1 hbn1 => ?_)
  refine AL.nil ?_
  refine then_ok ?_
  refine AC.cond rfl (fun hc2 => ?_) (fun hc2 => ?_)
  ·
    have hc2' := hc2; try simp only [sumB, Bool.not_eq_true', Bool.not_eq_false', Bool.or_eq_true, Bool.or_eq_false_iff, Bool.and_eq_true, Bool.and_eq_false_imp, decide_eq_true_eq, decide_eq_false_iff_not, Bool.not_not, Bool.not_true, Bool.not_false] at hc2'
    refine AC.seq ?_
    refine AC.region ?_
    refine AL.fast 1 rfl ?_
    refine AL.nil ?_
    refine then_ok ?_
    refine AC.ret ?_
    refine then_ret ?_
    refine retQ_weak (Weak.nil 2 111 2 (by decide) rfl) ?_
    refine retQ_mk (av' := outOf [(.c (.s 0 0 2 0))]) (nb' := [(0, (.arr 111 2 ((([] : List Entry)).map rEntry)))]) (retQ_ret ⟨[(2, (aC (.s 0 0 2 0)))], [(0, (.arr 111 2 ((([] : List Entry)).map rEntry)))], 1⟩ [.tmp 2] [(.c (.s 0 0 2 0))] (Weak.ren (fun k => if k = 0 then 0 else k) (⟨by first | rfl | (simp only [AV.map, GV.map, CV.map, AB.map', id]; done) | (congr 3; omega) | (congr 4; omega) | (simp only [List.length_append, List.length_cons, List.length_nil, List.length_set]; rfl),  trivial⟩) (⟨by first | rfl | (simp only [AV.map, GV.map, CV.map, AB.map', id]; done) | (congr 3; omega) | (congr 4; omega) | (simp only [List.length_append, List.length_cons, List.length_nil, List.length_set]; rfl),  trivial⟩) rfl) rfl ⟨.tmp rfl, trivial⟩ ⟨by first | rfl | (simp only [AV.map, GV.map, CV.map, AB.map', id]; done) | (congr 3; omega) | (congr 4; omega) | (simp only [List.length_append, List.length_cons, List.length_nil, List.length_set]; rfl),  trivial⟩) ?_ ?_
    · (have h0 := hbn1 (by assumption); have h1 : l = [] := by (cases l with | nil => rfl | cons => simp at h0)); subst h1; rfl
    · (have h0 := hbn1 (by assumption); have h1 : l = [] := by (cases l with | nil => rfl | cons => simp at h0)); subst h1; rfl
  ·
    have hc2' := hc2; try simp only [sumB, Bool.not_eq_true', Bool.not_eq_false', Bool.or_eq_true, Bool.or_eq_false_iff, Bool.and_eq_true, Bool.and_eq_false_imp, decide_eq_true_eq, decide_eq_false_iff_not, Bool.not_not, Bool.not_true, Bool.not_false] at hc2'
    refine AC.skip ?_
    refine then_ok ?_
    refine AC.seq ?_
    refine AC.region ?_
    refine AL.new (n' := 1) (Wanted.plain rfl) (g_lit (ys := []) (rows := (([] : List Entry)).map rEntry) 0 sl102 rfl (by decide) trivial rfl rfl rfl rfl) rfl rfl rfl ?_
    refine AL.fast 1 rfl ?_
    refine AL.eat (n' := 2) (h' := [(1, (.arr 111 2 ((l).map rEntry)))]) (Wanted.plain rfl) (g_append (m := l.length) (N := l.length) (k2 := 1) (ys := (l).map rEntry) sl102 rfl rfl rfl rfl rfl rfl (by first | omega | (simp; omega) | (simp; done)) rfl (.d _ _) (by first | omega | (simp; omega) | (simp; done)) (by first | omega | (simp; omega) | (simp; done)) rfl (by decide) (by first | omega | (simp; omega) | (simp; done)) (by first | omega | (simp; omega) | (simp; done))) rfl rfl rfl rfl rfl ?_
    refine AL.fast 1 rfl ?_
    refine AL.nil ?_
    refine then_ok ?_
    refine AC.ret ?_
    refine retQ_mk (av' := outOf [(.c (.s 0 0 2 l.length))]) (nb' := [(0, (.arr 111 2 ((l).map rEntry)))]) (retQ_ret ⟨[(2, (aC (.s 0 0 2 l.length)))], [(0, (.arr 111 2 ((l).map rEntry)))], 1⟩ [.tmp 2] [(.c (.s 0 0 2 l.length))] (Weak.ren (fun k => if k = 0 then 1 else k) (⟨by first | rfl | (simp only [AV.map, GV.map, CV.map, AB.map', id]; done) | (congr 3; omega) | (congr 4; omega) | (simp only [List.length_append, List.length_cons, List.length_nil, List.length_set]; rfl),  trivial⟩) (⟨by first | rfl | (simp only [AV.map, GV.map, CV.map, AB.map', id]; done) | (congr 3; omega) | (congr 4; omega) | (simp only [List.length_append, List.length_cons, List.length_nil, List.length_set]; rfl),  trivial⟩) rfl) rfl ⟨.tmp rfl, trivial⟩ ⟨by first | rfl | (simp only [AV.map, GV.map, CV.map, AB.map', id]; done) | (congr 3; omega) | (congr 4; omega) | (simp only [List.length_append, List.length_cons, List.length_nil, List.length_set]; rfl),  trivial⟩) ?_ ?_
    · simp [outOf, aC]
    · simp
set_option maxRecDepth 100000 in
set_option maxHeartbeats 1000000 in
theorem c_Clone_Record (l : List Record) (hl : l.length * 32 ≤ 140737488355328) : Fn Try.prog 118 [(.c (cR 4 ((l).map rRecord)))] (aC (.s 0 0 4 l.length)) [(0, .arr 127 4 (l.map rRecord))] := by
  refine Fn.mk' 8 [(0, (aC (cR 4 ((l).map rRecord))))] Try.func118 rfl rfl rfl rfl ?_
  intro W0 T0
  refine AC.len1 0 rfl (fun hlen0 => ?_)
  refine AC.seq ?_
  refine AC.region ?_
  refine AL.fast 1 rfl ?_
  refine AL.nil ?_
  refine then_ok ?_
  refine AC.seq ?_
  refine AC.seq ?_
  refine AC.region ?_
  refine AL.fast 1 rfl ?_
  refine AL.isnil (Wanted.plain rfl) rfl rfl Try.underlying114 rfl rfl (fun bn1 hbn1 => ?_)
  refine AL.nil ?_
  refine then_ok ?_
  refine AC.cond rfl (fun hc2 => ?_) (fun hc2 => ?_)
  ·
    have hc2' := hc2; try simp only [sumB, Bool.not_eq_true', Bool.not_eq_false', Bool.or_eq_true, Bool.or_eq_false_iff, Bool.and_eq_true, Bool.and_eq_false_imp, decide_eq_true_eq, decide_eq_false_iff_not, Bool.not_not, Bool.not_true, Bool.not_false] at hc2'
    refine AC.seq ?_
    refine AC.region ?_
    refine AL.fast 1 rfl ?_
    refine AL.nil ?_
    refine then_ok ?_
    refine AC.ret ?_
    refine then_ret ?_
    refine retQ_weak (Weak.nil 2 127 4 (by decide) rfl) ?_
    refine retQ_mk (av' := outOf [(.c (.s 0 0 4 0))]) (nb' := [(0, (.arr 127 4 ((([] : List Record)).map rRecord)))]) (retQ_ret ⟨[(2, (aC (.s 0 0 4 0)))], [(0, (.arr 127 4 ((([] : List Record)).map rRecord)))], 1⟩ [.tmp 2] [(.c (.s 0 0 4 0))] (Weak.ren (fun k => if k = 0 then 0 else k) (⟨by first | rfl | (simp only [AV.map, GV.map, CV.map, AB.map', id]; done) | (congr 3; omega) | (congr 4; omega) | (simp only [List.length_append, List.length_cons, List.length_nil, List.length_set]; rfl),  trivial⟩) (⟨by first | rfl | (simp only [AV.map, GV.map, CV.map, AB.map', id]; done) | (congr 3; omega) | (congr 4; omega) | (simp only [List.length_append, List.length_cons, List.length_nil, List.length_set]; rfl),  trivial⟩) rfl) rfl ⟨.tmp rfl, trivial⟩ ⟨by first | rfl | (simp only [AV.map, GV.map, CV.map, AB.map', id]; done) | (congr 3; omega) | (congr 4; omega) | (simp only [List.length_append, List.length_cons, List.length_nil, List.length_set]; rfl),  trivial⟩) ?_ ?_
    · (have h0 := hbn1 (by assumption); have h1 : l = [] := by (cases l with | nil => rfl | cons => simp at h0)); subst h1; rfl
    · (have h0 := hbn1 (by assumption); have h1 : l = [] := by (cases l with | nil => rfl | cons => simp at h0)); subst h1; rfl
  ·
    have hc2' := hc2; try simp only [sumB, Bool.not_eq_true', Bool.not_eq_false', Bool.or_eq_true, Bool.or_eq_false_iff, Bool.and_eq_true, Bool.and_eq_false_imp, decide_eq_true_eq, decide_eq_false_iff_not, Bool.not_not, Bool.not_true, Bool.not_false] at hc2'
    refine AC.skip ?_
    refine then_ok ?_
    refine AC.seq ?_
    refine AC.region ?_
    refine AL.new (n' := 1) (Wanted.plain rfl) (g_lit (ys := []) (rows := (([] : List Record)).map rRecord) 0 sl114 rfl (by decide) trivial rfl rfl rfl rfl) rfl rfl rfl ?_
    refine AL.fast 1 rfl ?_
    refine AL.eat (n' := 2) (h' := [(1, (.arr 127 4 ((l).map rRecord)))]) (Wanted.plain rfl) (g_append (m := l.length) (N := l.length) (k2 := 1) (ys := (l).map rRecord) sl114 rfl rfl rfl rfl rfl rfl (by first | omega | (simp; omega) | (simp; done)) rfl (.d _ _) (by first | omega | (simp; omega) | (simp; done)) (by first | omega | (simp; omega) | (simp; done)) rfl (by decide) (by first | omega | (simp; omega) | (simp; done)) (by first | omega | (simp; omega) | (simp; done))) rfl rfl rfl rfl rfl ?_
    refine AL.fast 1 rfl ?_
    refine AL.nil ?_
    refine then_ok ?_
    refine AC.ret ?_
    refine retQ_mk (av' := outOf [(.c (.s 0 0 4 l.length))]) (nb' := [(0, (.arr 127 4 ((l).map rRecord)))]) (retQ_ret ⟨[(2, (aC (.s 0 0 4 l.length)))], [(0, (.arr 127 4 ((l).map rRecord)))], 1⟩ [.tmp 2] [(.c (.s 0 0 4 l.length))] (Weak.ren (fun k => if k = 0 then 1 else k) (⟨by first | rfl | (simp only [AV.map, GV.map, CV.map, AB.map', id]; done) | (congr 3; omega) | (congr 4; omega) | (simp only [List.length_append, List.length_cons, List.length_nil, List.length_set]; rfl),  trivial⟩) (⟨by first | rfl | (simp only [AV.map, GV.map, CV.map, AB.map', id]; done) | (congr 3; omega) | (congr 4; omega) | (simp only [List.length_append, List.length_cons, List.length_nil, List.length_set]; rfl),  trivial⟩) rfl) rfl ⟨.tmp rfl, trivial⟩ ⟨by first | rfl | (simp only [AV.map, GV.map, CV.map, AB.map', id]; done) | (congr 3; omega) | (congr 4; omega) | (simp only [List.length_append, List.length_cons, List.length_nil, List.length_set]; rfl),  trivial⟩) ?_ ?_
    · simp [outOf, aC]
    · simp
set_option maxRecDepth 100000 in
set_option maxHeartbeats 1000000 in
theorem c_sum (n : Int) : Fn Try.prog 103 [(.c (cI n))] (aB (sumB n)) [] := by
  refine Fn.mk' 9 [(0, (aI n))] Try.func103 rfl rfl rfl rfl ?_
  intro W0 T0
  refine AC.seq ?_
  refine AC.region ?_
  refine AL.fast 1 rfl ?_
  refine AL.nil ?_
  refine then_ok ?_
  refine AC.cutB 2 ((decide (n ≥ 0)) && (decide (n ≤ 1000000))) ?_ ?_
  ·
    refine AC.region ?_
    refine AL.fast 1 rfl ?_
    refine AL.val (Wanted.plain rfl) (g_binI rfl rfl rfl rfl) rfl rfl ?_
    refine AL.fast 1 rfl ?_
    refine AL.dec (t := 5) rfl (fun hb1 => ?_) (fun hb1 => ?_)
    ·
      have hb1' := hb1; try simp only [sumB, Bool.not_eq_true', Bool.not_eq_false', Bool.or_eq_true, Bool.or_eq_false_iff, Bool.and_eq_true, Bool.and_eq_false_imp, decide_eq_true_eq, decide_eq_false_iff_not, Bool.not_not, Bool.not_true, Bool.not_false] at hb1'
      refine AL.fast 1 rfl ?_
      refine AL.val (Wanted.yes rfl rfl rfl) (g_binI rfl rfl rfl rfl) rfl rfl ?_
      refine AL.fast 2 rfl ?_
      refine AL.nil ?_
      refine then_ok ?_
      exact Weak.popB 8 rfl rfl (by first | (simp [hb1]; done) | (simp_all; done) | (exfalso; simp_all; done) | (simp_all; omega)) rfl
    ·
      have hb1' := hb1; try simp only [sumB, Bool.not_eq_true', Bool.not_eq_false', Bool.or_eq_true, Bool.or_eq_false_iff, Bool.and_eq_true, Bool.and_eq_false_imp, decide_eq_true_eq, decide_eq_false_iff_not, Bool.not_not, Bool.not_true, Bool.not_false] at hb1'
      refine AL.fast 4 rfl ?_
      refine AL.nil ?_
      refine then_ok ?_
      exact Weak.popB 8 rfl rfl (by first | (simp [hb1]; done) | (simp_all; done) | (exfalso; simp_all; done) | (simp_all; omega)) rfl
  ·
    refine AC.ret ?_
    refine retQ_mk (av' := outOf [(.c (cB ((decide (n ≥ 0)) && (decide (n ≤ 1000000)))))]) (nb' := []) (retQ_ret ⟨[(2, (aB ((decide (n ≥ 0)) && (decide (n ≤ 1000000)))))], [], 0⟩ [.tmp 2] [(.c (cB ((decide (n ≥ 0)) && (decide (n ≤ 1000000)))))] (Weak.ren id (⟨by first | rfl | (simp only [AV.map, GV.map, CV.map, AB.map', id]; done) | (congr 3; omega) | (congr 4; omega) | (simp only [List.length_append, List.length_cons, List.length_nil, List.length_set]; rfl),  trivial⟩) (trivial) rfl) rfl ⟨.tmp rfl, trivial⟩ trivial) ?_ ?_
    · first | rfl | (simp [outOf, aC]; done) | (simp [outOf, aC]; omega)
    · rfl
end Go.Proofs.Ytgmcdlfmifijlaa.Dev
