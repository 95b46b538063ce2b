/- AuthTells. -/
import Derived.Test.YtgmcdlfmifijlaaDAuth6
set_option linter.unusedVariables false
set_option linter.unusedSimpArgs false
namespace Go.Proofs.Ytgmcdlfmifijlaa.Dev
open Go.RowKit

set_option maxRecDepth 100000 in
set_option maxHeartbeats 1000000 in
theorem c_AuthTells (a : Auth) (card shop n t kind : Int) : Fn Try.prog 12 [(.g [(cI a.card), (cI a.shop), (cI a.sum), (cI a.captured), (cI a.refunded), (cI a.disputed), (cI a.till), (cB a.shut)]), (.c (cI card)), (.c (cI shop)), (.c (cI n)), (.c (cI t)), (.c (cI kind))] (aB true) [] := by
  refine Fn.mk' 87 [(0, (aG [(cI a.card), (cI a.shop), (cI a.sum), (cI a.captured), (cI a.refunded), (cI a.disputed), (cI a.till), (cB a.shut)])), (1, (aI card)), (2, (aI shop)), (3, (aI n)), (4, (aI t)), (5, (aI kind))] Try.func12 rfl rfl rfl rfl ?_
  intro W0 T0
  refine AC.seq ?_
  refine AC.region ?_
  refine AL.new (n' := 1) (Wanted.plain rfl) (g_boxS 0 rfl rfl) rfl rfl rfl ?_
  refine AL.fast 1 rfl ?_
  refine AL.nil ?_
  refine then_ok ?_
  refine AC.seq ?_
  refine AC.seq ?_
  obtain ⟨e2, hr2⟩ : ∃ (e2 : Int), wrongAuth a = e2 := ⟨_, rfl⟩
  obtain ⟨b3, hr3⟩ : ∃ (b3 : Auth), lateAuth a t = b3 := ⟨_, rfl⟩
  refine AC.weak (st' := ⟨[(1, (aI card)), (2, (aI shop)), (3, (aI n)), (4, (aI t)), (5, (aI kind)), (6, (aC (.p 0 0 0 0)))], [(0, (.box 75 [(cI a.card), (cI a.shop), (cI a.sum), (cI a.captured), (cI a.refunded), (cI a.disputed), (cI a.till), (cB a.shut)]))], 1⟩) (Weak.ren id (⟨by first | rfl | (simp only [AV.map, GV.map, CV.map, AB.map', id]; done) | (congr 3; omega) | (congr 4; omega) | (simp only [List.length_append, List.length_cons, List.length_nil, List.length_set]; rfl), by first | rfl | (simp only [AV.map, GV.map, CV.map, AB.map', id]; done) | (congr 3; omega) | (congr 4; omega) | (simp only [List.length_append, List.length_cons, List.length_nil, List.length_set]; rfl), by first | rfl | (simp only [AV.map, GV.map, CV.map, AB.map', id]; done) | (congr 3; omega) | (congr 4; omega) | (simp only [List.length_append, List.length_cons, List.length_nil, List.length_set]; rfl), by first | rfl | (simp only [AV.map, GV.map, CV.map, AB.map', id]; done) | (congr 3; omega) | (congr 4; omega) | (simp only [List.length_append, List.length_cons, List.length_nil, List.length_set]; rfl), by first | rfl | (simp only [AV.map, GV.map, CV.map, AB.map', id]; done) | (congr 3; omega) | (congr 4; omega) | (simp only [List.length_append, List.length_cons, List.length_nil, List.length_set]; rfl), by first | rfl | (simp only [AV.map, GV.map, CV.map, AB.map', id]; done) | (congr 3; omega) | (congr 4; omega) | (simp only [List.length_append, List.length_cons, List.length_nil, List.length_set]; rfl),  trivial⟩) (⟨by first | rfl | (simp only [AV.map, GV.map, CV.map, AB.map', id]; done) | (congr 3; omega) | (congr 4; omega) | (simp only [List.length_append, List.length_cons, List.length_nil, List.length_set]; rfl),  trivial⟩) rfl) ?_
  refine AC.draw [⟨some 17, (aG [(cI a.card), (cI a.shop), (cI a.sum), (cI a.captured), (cI a.refunded), (cI a.disputed), (cI a.till), (cB a.shut)]), [], [], [], [(6, (aC (.p 0 0 0 0)))], [(0, (.box 75 [(cI a.card), (cI a.shop), (cI a.sum), (cI a.captured), (cI a.refunded), (cI a.disputed), (cI a.till), (cB a.shut)]))]⟩,
      ⟨some 18, (aI e2), [], [], [0], [(17, (aG [(cI a.card), (cI a.shop), (cI a.sum), (cI a.captured), (cI a.refunded), (cI a.disputed), (cI a.till), (cB a.shut)]))], []⟩,
      ⟨some 19, (aG [(cI a.card), (cI a.shop), (cI a.sum), (cI a.captured), (cI a.refunded), (cI a.disputed), (cI a.till), (cB a.shut)]), [], [], [], [(6, (aC (.p 0 0 0 0)))], [(0, (.box 75 [(cI a.card), (cI a.shop), (cI a.sum), (cI a.captured), (cI a.refunded), (cI a.disputed), (cI a.till), (cB a.shut)]))]⟩,
      ⟨some 20, (aI e2), [], [], [2], [(19, (aG [(cI a.card), (cI a.shop), (cI a.sum), (cI a.captured), (cI a.refunded), (cI a.disputed), (cI a.till), (cB a.shut)]))], []⟩,
      ⟨some 21, (aB false), [], [], [1, 3], [(18, (aI e2)), (20, (aI e2))], []⟩,
      ⟨some 22, (aB false), [], [], [4], [(21, (aB false))], []⟩,
      ⟨some 23, (aG [(cI a.card), (cI a.shop), (cI a.sum), (cI a.captured), (cI a.refunded), (cI a.disputed), (cI a.till), (cB a.shut)]), [], [], [5], [(6, (aC (.p 0 0 0 0))), (22, (aB false))], [(0, (.box 75 [(cI a.card), (cI a.shop), (cI a.sum), (cI a.captured), (cI a.refunded), (cI a.disputed), (cI a.till), (cB a.shut)]))]⟩,
      ⟨some 24, (aI t), [], [], [5], [(4, (aI t)), (22, (aB false))], []⟩,
      ⟨some 25, (aG [(cI b3.card), (cI b3.shop), (cI b3.sum), (cI b3.captured), (cI b3.refunded), (cI b3.disputed), (cI b3.till), (cB b3.shut)]), [], [], [5, 6, 7], [(23, (aG [(cI a.card), (cI a.shop), (cI a.sum), (cI a.captured), (cI a.refunded), (cI a.disputed), (cI a.till), (cB a.shut)])), (24, (aI t)), (22, (aB false))], []⟩,
      ⟨some 26, (aG [(cI a.card), (cI a.shop), (cI a.sum), (cI a.captured), (cI a.refunded), (cI a.disputed), (cI a.till), (cB a.shut)]), [], [], [5], [(6, (aC (.p 0 0 0 0))), (22, (aB false))], [(0, (.box 75 [(cI a.card), (cI a.shop), (cI a.sum), (cI a.captured), (cI a.refunded), (cI a.disputed), (cI a.till), (cB a.shut)]))]⟩,
      ⟨some 27, (aI t), [], [], [5], [(4, (aI t)), (22, (aB false))], []⟩,
      ⟨some 28, (aG [(cI b3.card), (cI b3.shop), (cI b3.sum), (cI b3.captured), (cI b3.refunded), (cI b3.disputed), (cI b3.till), (cB b3.shut)]), [], [], [5, 9, 10], [(26, (aG [(cI a.card), (cI a.shop), (cI a.sum), (cI a.captured), (cI a.refunded), (cI a.disputed), (cI a.till), (cB a.shut)])), (27, (aI t)), (22, (aB false))], []⟩,
      ⟨some 29, (aB false), [], [], [5, 8, 11], [(25, (aG [(cI b3.card), (cI b3.shop), (cI b3.sum), (cI b3.captured), (cI b3.refunded), (cI b3.disputed), (cI b3.till), (cB b3.shut)])), (28, (aG [(cI b3.card), (cI b3.shop), (cI b3.sum), (cI b3.captured), (cI b3.refunded), (cI b3.disputed), (cI b3.till), (cB b3.shut)])), (22, (aB false))], []⟩,
      ⟨some 30, (aB false), [], [], [5, 12], [(22, (aB false)), (29, (aB false))], []⟩] ⟨[(1, (aI card)), (2, (aI shop)), (3, (aI n)), (4, (aI t)), (5, (aI kind)), (6, (aC (.p 0 0 0 0))), (30, (aB false))], [(0, (.box 75 [(cI a.card), (cI a.shop), (cI a.sum), (cI a.captured), (cI a.refunded), (cI a.disputed), (cI a.till), (cB a.shut)]))], 1⟩ mixed (by kernel_rfl) ?_ ?_ ?_ ?_
  · exact ⟨.inl ⟨(Wanted.plain rfl), GOp.cast (g_loadBs rfl rfl rfl Try.underlying75 rfl sz75 rfl rfl) rfl⟩,
      .inl ⟨(Wanted.plain rfl), GOp.cast (g_call 1 (c_auth_Wrong a  e2 hr2) en57 rfl rfl ⟨⟨_, rfl, .g ⟨.d _, .d _, .d _, .d _, .d _, .d _, .d _, .d _,  trivial⟩⟩,  trivial⟩ trivial trivial rfl rfl rfl rfl) rfl⟩,
      .inl ⟨(Wanted.plain rfl), GOp.cast (g_loadBs rfl rfl rfl Try.underlying75 rfl sz75 rfl rfl) rfl⟩,
      .inl ⟨(Wanted.plain rfl), GOp.cast (g_call 1 (c_ref_WrongAuth a  e2 hr2) en58 rfl rfl ⟨⟨_, rfl, .g ⟨.d _, .d _, .d _, .d _, .d _, .d _, .d _, .d _,  trivial⟩⟩,  trivial⟩ trivial trivial rfl rfl rfl rfl) rfl⟩,
      .inl ⟨(Wanted.plain rfl), GOp.cast (g_binI rfl rfl rfl (congrArg (fun b => some (Value.bool b)) (decide_eq_false (fun h => h rfl)))) rfl⟩,
      .inl ⟨(Wanted.plain rfl), GOp.cast (g_move rfl rfl) rfl⟩,
      .inl ⟨(Wanted.yes rfl rfl rfl), GOp.cast (g_loadBs rfl rfl rfl Try.underlying75 rfl sz75 rfl rfl) rfl⟩,
      .inl ⟨(Wanted.yes rfl rfl rfl), GOp.cast (g_move rfl rfl) rfl⟩,
      .inl ⟨(Wanted.yes rfl rfl rfl), GOp.cast (g_call 1 (c_auth_Late a t  b3 hr3) en59 rfl rfl ⟨⟨_, rfl, .g ⟨.d _, .d _, .d _, .d _, .d _, .d _, .d _, .d _,  trivial⟩⟩, ⟨_, rfl, .c (.d _)⟩,  trivial⟩ ⟨trivial, trivial, trivial, trivial, trivial, trivial, trivial, trivial,  trivial⟩ trivial rfl rfl rfl rfl) rfl⟩,
      .inl ⟨(Wanted.yes rfl rfl rfl), GOp.cast (g_loadBs rfl rfl rfl Try.underlying75 rfl sz75 rfl rfl) rfl⟩,
      .inl ⟨(Wanted.yes rfl rfl rfl), GOp.cast (g_move rfl rfl) rfl⟩,
      .inl ⟨(Wanted.yes rfl rfl rfl), GOp.cast (g_call 1 (c_ref_Late a t  b3 hr3) en60 rfl rfl ⟨⟨_, rfl, .g ⟨.d _, .d _, .d _, .d _, .d _, .d _, .d _, .d _,  trivial⟩⟩, ⟨_, rfl, .c (.d _)⟩,  trivial⟩ ⟨trivial, trivial, trivial, trivial, trivial, trivial, trivial, trivial,  trivial⟩ trivial rfl rfl rfl rfl) rfl⟩,
      .inl ⟨(Wanted.yes rfl rfl rfl), GOp.cast (GOp.cast (g_neq (cmp75 _ _ _ _ _ _ _ _ _ _ _ _ _ _ _ _) rfl rfl rfl rfl rfl rfl) (congrArg aB (show (!(sameL [.int .i64 b3.card, .int .i64 b3.shop, .int .i64 b3.sum, .int .i64 b3.captured, .int .i64 b3.refunded, .int .i64 b3.disputed, .int .i64 b3.till, .bool b3.shut] [.int .i64 b3.card, .int .i64 b3.shop, .int .i64 b3.sum, .int .i64 b3.captured, .int .i64 b3.refunded, .int .i64 b3.disputed, .int .i64 b3.till, .bool b3.shut])) = false by simp [sameL, sameV]))) rfl⟩,
      .inl ⟨(Wanted.plain rfl), GOp.cast (g_pick rfl rfl rfl) rfl⟩,
       trivial⟩
  · exact ⟨⟨⟨.inl rfl,  trivial⟩, ⟨.inl rfl,  trivial⟩⟩, ⟨⟨.inr ⟨0, .head _, _, rfl, rfl, rfl⟩,  trivial⟩, trivial⟩, ⟨⟨.inl rfl,  trivial⟩, ⟨.inl rfl,  trivial⟩⟩, ⟨⟨.inr ⟨2, .head _, _, rfl, rfl, rfl⟩,  trivial⟩, trivial⟩, ⟨⟨.inr ⟨1, .head _, _, rfl, rfl, rfl⟩, .inr ⟨3, .tail _ (.head _), _, rfl, rfl, rfl⟩,  trivial⟩, trivial⟩, ⟨⟨.inr ⟨4, .head _, _, rfl, rfl, rfl⟩,  trivial⟩, trivial⟩, ⟨⟨.inl rfl, .inr ⟨5, .head _, _, rfl, rfl, rfl⟩,  trivial⟩, ⟨.inl rfl,  trivial⟩⟩, ⟨⟨.inl rfl, .inr ⟨5, .head _, _, rfl, rfl, rfl⟩,  trivial⟩, trivial⟩, ⟨⟨.inr ⟨6, .tail _ (.head _), _, rfl, rfl, rfl⟩, .inr ⟨7, .tail _ (.tail _ (.head _)), _, rfl, rfl, rfl⟩, .inr ⟨5, .head _, _, rfl, rfl, rfl⟩,  trivial⟩, trivial⟩, ⟨⟨.inl rfl, .inr ⟨5, .head _, _, rfl, rfl, rfl⟩,  trivial⟩, ⟨.inl rfl,  trivial⟩⟩, ⟨⟨.inl rfl, .inr ⟨5, .head _, _, rfl, rfl, rfl⟩,  trivial⟩, trivial⟩, ⟨⟨.inr ⟨9, .tail _ (.head _), _, rfl, rfl, rfl⟩, .inr ⟨10, .tail _ (.tail _ (.head _)), _, rfl, rfl, rfl⟩, .inr ⟨5, .head _, _, rfl, rfl, rfl⟩,  trivial⟩, trivial⟩, ⟨⟨.inr ⟨8, .tail _ (.head _), _, rfl, rfl, rfl⟩, .inr ⟨11, .tail _ (.tail _ (.head _)), _, rfl, rfl, rfl⟩, .inr ⟨5, .head _, _, rfl, rfl, rfl⟩,  trivial⟩, trivial⟩, ⟨⟨.inr ⟨5, .head _, _, rfl, rfl, rfl⟩, .inr ⟨12, .tail _ (.head _), _, rfl, rfl, rfl⟩,  trivial⟩, trivial⟩,  trivial⟩
  · exact ⟨⟨.inl rfl, .inl rfl, .inl rfl, .inl rfl, .inl rfl, .inl rfl, .inr ⟨13, _, rfl, rfl, rfl⟩,  trivial⟩, ⟨.inl rfl,  trivial⟩⟩
  ·
    refine AL.nil ?_
    refine then_ok ?_
    refine AC.cond rfl (fun hno => by cases hno) (fun _ => ?_)
    refine AC.skip ?_
    refine then_ok ?_
    refine AC.seq ?_
    refine AC.seq ?_
    rcases Bool.eq_false_or_eq_true (decide (e2 = 0)) with hb2 | hb2
    ·
      have hb2' := hb2; try simp only [sumB, Bool.not_eq_true', Bool.not_eq_false', Bool.or_eq_true, Bool.or_eq_false_iff, Bool.and_eq_true, Bool.and_eq_false_imp, decide_eq_true_eq, decide_eq_false_iff_not, Bool.not_not, Bool.not_true, Bool.not_false] at hb2'
      obtain ⟨e5, hr5⟩ : ∃ (e5 : Int), holdAuth a = e5 := ⟨_, rfl⟩
      refine AC.weak (st' := ⟨[(1, (aI card)), (2, (aI shop)), (3, (aI n)), (4, (aI t)), (5, (aI kind)), (6, (aC (.p 0 0 0 0)))], [(0, (.box 75 [(cI a.card), (cI a.shop), (cI a.sum), (cI a.captured), (cI a.refunded), (cI a.disputed), (cI a.till), (cB a.shut)]))], 1⟩) (Weak.ren id (⟨by first | rfl | (simp only [AV.map, GV.map, CV.map, AB.map', id]; done) | (congr 3; omega) | (congr 4; omega) | (simp only [List.length_append, List.length_cons, List.length_nil, List.length_set]; rfl), by first | rfl | (simp only [AV.map, GV.map, CV.map, AB.map', id]; done) | (congr 3; omega) | (congr 4; omega) | (simp only [List.length_append, List.length_cons, List.length_nil, List.length_set]; rfl), by first | rfl | (simp only [AV.map, GV.map, CV.map, AB.map', id]; done) | (congr 3; omega) | (congr 4; omega) | (simp only [List.length_append, List.length_cons, List.length_nil, List.length_set]; rfl), by first | rfl | (simp only [AV.map, GV.map, CV.map, AB.map', id]; done) | (congr 3; omega) | (congr 4; omega) | (simp only [List.length_append, List.length_cons, List.length_nil, List.length_set]; rfl), by first | rfl | (simp only [AV.map, GV.map, CV.map, AB.map', id]; done) | (congr 3; omega) | (congr 4; omega) | (simp only [List.length_append, List.length_cons, List.length_nil, List.length_set]; rfl), by first | rfl | (simp only [AV.map, GV.map, CV.map, AB.map', id]; done) | (congr 3; omega) | (congr 4; omega) | (simp only [List.length_append, List.length_cons, List.length_nil, List.length_set]; rfl),  trivial⟩) (⟨by first | rfl | (simp only [AV.map, GV.map, CV.map, AB.map', id]; done) | (congr 3; omega) | (congr 4; omega) | (simp only [List.length_append, List.length_cons, List.length_nil, List.length_set]; rfl),  trivial⟩) rfl) ?_
      refine AC.draw [⟨some 31, (aG [(cI a.card), (cI a.shop), (cI a.sum), (cI a.captured), (cI a.refunded), (cI a.disputed), (cI a.till), (cB a.shut)]), [], [], [], [(6, (aC (.p 0 0 0 0)))], [(0, (.box 75 [(cI a.card), (cI a.shop), (cI a.sum), (cI a.captured), (cI a.refunded), (cI a.disputed), (cI a.till), (cB a.shut)]))]⟩,
      ⟨some 32, (aI e2), [], [], [0], [(31, (aG [(cI a.card), (cI a.shop), (cI a.sum), (cI a.captured), (cI a.refunded), (cI a.disputed), (cI a.till), (cB a.shut)]))], []⟩,
      ⟨some 33, (aB true), [], [], [1], [(32, (aI e2))], []⟩,
      ⟨some 34, (aB true), [], [], [2], [(33, (aB true))], []⟩,
      ⟨some 35, (aG [(cI a.card), (cI a.shop), (cI a.sum), (cI a.captured), (cI a.refunded), (cI a.disputed), (cI a.till), (cB a.shut)]), [], [], [3], [(6, (aC (.p 0 0 0 0))), (34, (aB true))], [(0, (.box 75 [(cI a.card), (cI a.shop), (cI a.sum), (cI a.captured), (cI a.refunded), (cI a.disputed), (cI a.till), (cB a.shut)]))]⟩,
      ⟨some 36, (aI e5), [], [], [3, 4], [(35, (aG [(cI a.card), (cI a.shop), (cI a.sum), (cI a.captured), (cI a.refunded), (cI a.disputed), (cI a.till), (cB a.shut)])), (34, (aB true))], []⟩,
      ⟨some 37, (aG [(cI a.card), (cI a.shop), (cI a.sum), (cI a.captured), (cI a.refunded), (cI a.disputed), (cI a.till), (cB a.shut)]), [], [], [3], [(6, (aC (.p 0 0 0 0))), (34, (aB true))], [(0, (.box 75 [(cI a.card), (cI a.shop), (cI a.sum), (cI a.captured), (cI a.refunded), (cI a.disputed), (cI a.till), (cB a.shut)]))]⟩,
      ⟨some 38, (aI e5), [], [], [3, 6], [(37, (aG [(cI a.card), (cI a.shop), (cI a.sum), (cI a.captured), (cI a.refunded), (cI a.disputed), (cI a.till), (cB a.shut)])), (34, (aB true))], []⟩,
      ⟨some 39, (aB false), [], [], [3, 5, 7], [(36, (aI e5)), (38, (aI e5)), (34, (aB true))], []⟩,
      ⟨some 40, (aB false), [], [], [3, 8], [(34, (aB true)), (39, (aB false))], []⟩] ⟨[(1, (aI card)), (2, (aI shop)), (3, (aI n)), (4, (aI t)), (5, (aI kind)), (6, (aC (.p 0 0 0 0))), (40, (aB false))], [(0, (.box 75 [(cI a.card), (cI a.shop), (cI a.sum), (cI a.captured), (cI a.refunded), (cI a.disputed), (cI a.till), (cB a.shut)]))], 1⟩ mixed (by kernel_rfl) ?_ ?_ ?_ ?_
      · exact ⟨.inl ⟨(Wanted.plain rfl), GOp.cast (g_loadBs rfl rfl rfl Try.underlying75 rfl sz75 rfl rfl) rfl⟩,
      .inl ⟨(Wanted.plain rfl), GOp.cast (g_call 1 (c_ref_WrongAuth a  e2 hr2) en58 rfl rfl ⟨⟨_, rfl, .g ⟨.d _, .d _, .d _, .d _, .d _, .d _, .d _, .d _,  trivial⟩⟩,  trivial⟩ trivial trivial rfl rfl rfl rfl) rfl⟩,
      .inl ⟨(Wanted.plain rfl), GOp.cast (g_binI rfl rfl rfl (congrArg (fun b => some (Value.bool b)) hb2)) rfl⟩,
      .inl ⟨(Wanted.plain rfl), GOp.cast (g_move rfl rfl) rfl⟩,
      .inl ⟨(Wanted.yes rfl rfl rfl), GOp.cast (g_loadBs rfl rfl rfl Try.underlying75 rfl sz75 rfl rfl) rfl⟩,
      .inl ⟨(Wanted.yes rfl rfl rfl), GOp.cast (g_call 1 (c_auth_Hold a (by first | assumption | omega | rfl | decide) e5 hr5) en61 rfl rfl ⟨⟨_, rfl, .g ⟨.d _, .d _, .d _, .d _, .d _, .d _, .d _, .d _,  trivial⟩⟩,  trivial⟩ trivial trivial rfl rfl rfl rfl) rfl⟩,
      .inl ⟨(Wanted.yes rfl rfl rfl), GOp.cast (g_loadBs rfl rfl rfl Try.underlying75 rfl sz75 rfl rfl) rfl⟩,
      .inl ⟨(Wanted.yes rfl rfl rfl), GOp.cast (g_call 1 (c_ref_Hold a (by first | assumption | omega | rfl | decide) e5 hr5) en62 rfl rfl ⟨⟨_, rfl, .g ⟨.d _, .d _, .d _, .d _, .d _, .d _, .d _, .d _,  trivial⟩⟩,  trivial⟩ trivial trivial rfl rfl rfl rfl) rfl⟩,
      .inl ⟨(Wanted.yes rfl rfl rfl), GOp.cast (g_binI rfl rfl rfl (congrArg (fun b => some (Value.bool b)) (decide_eq_false (fun h => h rfl)))) rfl⟩,
      .inl ⟨(Wanted.plain rfl), GOp.cast (g_pick rfl rfl rfl) rfl⟩,
       trivial⟩
      · exact ⟨⟨⟨.inl rfl,  trivial⟩, ⟨.inl rfl,  trivial⟩⟩, ⟨⟨.inr ⟨0, .head _, _, rfl, rfl, rfl⟩,  trivial⟩, trivial⟩, ⟨⟨.inr ⟨1, .head _, _, rfl, rfl, rfl⟩,  trivial⟩, trivial⟩, ⟨⟨.inr ⟨2, .head _, _, rfl, rfl, rfl⟩,  trivial⟩, trivial⟩, ⟨⟨.inl rfl, .inr ⟨3, .head _, _, rfl, rfl, rfl⟩,  trivial⟩, ⟨.inl rfl,  trivial⟩⟩, ⟨⟨.inr ⟨4, .tail _ (.head _), _, rfl, rfl, rfl⟩, .inr ⟨3, .head _, _, rfl, rfl, rfl⟩,  trivial⟩, trivial⟩, ⟨⟨.inl rfl, .inr ⟨3, .head _, _, rfl, rfl, rfl⟩,  trivial⟩, ⟨.inl rfl,  trivial⟩⟩, ⟨⟨.inr ⟨6, .tail _ (.head _), _, rfl, rfl, rfl⟩, .inr ⟨3, .head _, _, rfl, rfl, rfl⟩,  trivial⟩, trivial⟩, ⟨⟨.inr ⟨5, .tail _ (.head _), _, rfl, rfl, rfl⟩, .inr ⟨7, .tail _ (.tail _ (.head _)), _, rfl, rfl, rfl⟩, .inr ⟨3, .head _, _, rfl, rfl, rfl⟩,  trivial⟩, trivial⟩, ⟨⟨.inr ⟨3, .head _, _, rfl, rfl, rfl⟩, .inr ⟨8, .tail _ (.head _), _, rfl, rfl, rfl⟩,  trivial⟩, trivial⟩,  trivial⟩
      · exact ⟨⟨.inl rfl, .inl rfl, .inl rfl, .inl rfl, .inl rfl, .inl rfl, .inr ⟨9, _, rfl, rfl, rfl⟩,  trivial⟩, ⟨.inl rfl,  trivial⟩⟩
      ·
        refine AL.nil ?_
        refine then_ok ?_
        refine AC.cond rfl (fun hno => by cases hno) (fun _ => ?_)
        refine AC.skip ?_
        refine then_ok ?_
        refine AC.seq ?_
        refine AC.region ?_
        refine AL.fast 4 rfl ?_
        obtain ⟨b6, e6, hr6⟩ : ∃ (b6 : Auth) (e6 : Int), newAuth card shop n t = (b6, e6) := ⟨_, _, rfl⟩
        refine AL.call (n' := 1) (h' := [(0, (.box 75 [(cI a.card), (cI a.shop), (cI a.sum), (cI a.captured), (cI a.refunded), (cI a.disputed), (cI a.till), (cB a.shut)]))]) (Wanted.plain rfl) (g_call 1 (c_auth_New card shop n t  b6 e6 hr6) en63 rfl rfl ⟨⟨_, rfl, .c (.d _)⟩, ⟨_, rfl, .c (.d _)⟩, ⟨_, rfl, .c (.d _)⟩, ⟨_, rfl, .c (.d _)⟩,  trivial⟩ ⟨⟨trivial, trivial, trivial, trivial, trivial, trivial, trivial, trivial,  trivial⟩, trivial,  trivial⟩ trivial rfl rfl rfl rfl) rfl rfl rfl rfl rfl ?_
        refine AL.fast 1 rfl ?_
        refine AL.val (Wanted.plain rfl) (g_extract rfl rfl rfl) rfl rfl ?_
        refine AL.val (Wanted.plain rfl) (g_extract rfl rfl rfl) rfl rfl ?_
        refine AL.new (n' := 2) (Wanted.plain rfl) (g_alloc 1 rfl zv75 rfl rfl rfl) rfl rfl rfl ?_
        refine AL.sto (h' := [(1, (.box 75 [(cI b6.card), (cI b6.shop), (cI b6.sum), (cI b6.captured), (cI b6.refunded), (cI b6.disputed), (cI b6.till), (cB b6.shut)])), (0, (.box 75 [(cI a.card), (cI a.shop), (cI a.sum), (cI a.captured), (cI a.refunded), (cI a.disputed), (cI a.till), (cB a.shut)]))]) (Wanted.plain rfl) (g_storeB rfl rfl rfl rfl rfl sz75 rfl (Nat.le_of_ble_eq_true rfl) rfl) rfl rfl rfl rfl ?_
        refine AL.fast 1 rfl ?_
        refine AL.nil ?_
        refine then_ok ?_
        refine AC.seq ?_
        refine AC.region ?_
        refine AL.fast 4 rfl ?_
        refine AL.call (n' := 2) (h' := [(1, (.box 75 [(cI b6.card), (cI b6.shop), (cI b6.sum), (cI b6.captured), (cI b6.refunded), (cI b6.disputed), (cI b6.till), (cB b6.shut)])), (0, (.box 75 [(cI a.card), (cI a.shop), (cI a.sum), (cI a.captured), (cI a.refunded), (cI a.disputed), (cI a.till), (cB a.shut)]))]) (Wanted.plain rfl) (g_call 2 (c_ref_New card shop n t  b6 e6 hr6) en64 rfl rfl ⟨⟨_, rfl, .c (.d _)⟩, ⟨_, rfl, .c (.d _)⟩, ⟨_, rfl, .c (.d _)⟩, ⟨_, rfl, .c (.d _)⟩,  trivial⟩ ⟨⟨trivial, trivial, trivial, trivial, trivial, trivial, trivial, trivial,  trivial⟩, trivial,  trivial⟩ trivial rfl rfl rfl rfl) rfl rfl rfl rfl rfl ?_
        refine AL.fast 1 rfl ?_
        refine AL.val (Wanted.plain rfl) (g_extract rfl rfl rfl) rfl rfl ?_
        refine AL.val (Wanted.plain rfl) (g_extract rfl rfl rfl) rfl rfl ?_
        refine AL.new (n' := 3) (Wanted.plain rfl) (g_alloc 2 rfl zv75 rfl rfl rfl) rfl rfl rfl ?_
        refine AL.sto (h' := [(2, (.box 75 [(cI b6.card), (cI b6.shop), (cI b6.sum), (cI b6.captured), (cI b6.refunded), (cI b6.disputed), (cI b6.till), (cB b6.shut)])), (1, (.box 75 [(cI b6.card), (cI b6.shop), (cI b6.sum), (cI b6.captured), (cI b6.refunded), (cI b6.disputed), (cI b6.till), (cB b6.shut)])), (0, (.box 75 [(cI a.card), (cI a.shop), (cI a.sum), (cI a.captured), (cI a.refunded), (cI a.disputed), (cI a.till), (cB a.shut)]))]) (Wanted.plain rfl) (g_storeB rfl rfl rfl rfl rfl sz75 rfl (Nat.le_of_ble_eq_true rfl) rfl) rfl rfl rfl rfl ?_
        refine AL.fast 1 rfl ?_
        refine AL.nil ?_
        refine then_ok ?_
        refine AC.seq ?_
        refine AC.cutB 64 (false || false) ?_ ?_
        ·
          refine AC.region ?_
          refine AL.fast 2 rfl ?_
          refine AL.val (Wanted.plain rfl) (g_binI rfl rfl rfl (congrArg (fun b => some (Value.bool b)) (decide_eq_false (fun h => h rfl)))) rfl rfl ?_
          refine AL.fast 1 rfl ?_
          refine AL.val (Wanted.yes rfl rfl rfl) (g_loadBs rfl rfl rfl Try.underlying75 rfl sz75 rfl rfl) rfl rfl ?_
          refine AL.val (Wanted.yes rfl rfl rfl) (g_loadBs rfl rfl rfl Try.underlying75 rfl sz75 rfl rfl) rfl rfl ?_
          refine AL.val (Wanted.yes rfl rfl rfl) (GOp.cast (g_neq (cmp75 _ _ _ _ _ _ _ _ _ _ _ _ _ _ _ _) rfl rfl rfl rfl rfl rfl) (congrArg aB (show (!(sameL [.int .i64 b6.card, .int .i64 b6.shop, .int .i64 b6.sum, .int .i64 b6.captured, .int .i64 b6.refunded, .int .i64 b6.disputed, .int .i64 b6.till, .bool b6.shut] [.int .i64 b6.card, .int .i64 b6.shop, .int .i64 b6.sum, .int .i64 b6.captured, .int .i64 b6.refunded, .int .i64 b6.disputed, .int .i64 b6.till, .bool b6.shut])) = false by simp [sameL, sameV]))) rfl rfl ?_
          refine AL.fast 1 rfl ?_
          refine AL.nil ?_
          refine then_ok ?_
          exact Weak.popB 8 rfl rfl (by first | (simp []; done) | (simp_all; done) | (exfalso; simp_all; done) | (simp_all; omega)) rfl
        ·
          refine AC.cond rfl (fun hc4 => ?_) (fun hc4 => ?_)
          ·
            have hc4' := hc4; try simp only [sumB, Bool.not_eq_true', Bool.not_eq_false', Bool.or_eq_true, Bool.or_eq_false_iff, Bool.and_eq_true, Bool.and_eq_false_imp, decide_eq_true_eq, decide_eq_false_iff_not, Bool.not_not, Bool.not_true, Bool.not_false] at hc4'
            refine AC.seq ?_
            refine AC.region ?_
            refine AL.fast 1 rfl ?_
            refine AL.nil ?_
            refine then_ok ?_
            refine AC.ret ?_
            refine then_ret ?_
            refine retQ_mk (av' := outOf [(.c (cB false))]) (nb' := []) (retQ_ret ⟨[(12, (aB false))], [], 0⟩ [.tmp 12] [(.c (cB false))] (Weak.ren id (⟨by first | rfl | (simp only [AV.map, GV.map, CV.map, AB.map', id]; done) | (congr 3; omega) | (congr 4; omega) | (simp only [List.length_append, List.length_cons, List.length_nil, List.length_set]; rfl),  trivial⟩) (trivial) rfl) rfl ⟨.tmp rfl, trivial⟩ trivial) ?_ ?_
            · exact congrArg aB (show (false) = true by (simp_all [sameL, sameV]))
            · rfl
          ·
            have hc4' := hc4; try simp only [sumB, Bool.not_eq_true', Bool.not_eq_false', Bool.or_eq_true, Bool.or_eq_false_iff, Bool.and_eq_true, Bool.and_eq_false_imp, decide_eq_true_eq, decide_eq_false_iff_not, Bool.not_not, Bool.not_true, Bool.not_false] at hc4'
            refine AC.skip ?_
            refine then_ok ?_
            refine AC.seq ?_
            refine AC.region ?_
            refine AL.val (Wanted.plain rfl) (g_loadBs rfl rfl rfl Try.underlying75 rfl sz75 rfl rfl) rfl rfl ?_
            refine AL.fast 2 rfl ?_
            obtain ⟨b7, e7, hr7⟩ : ∃ (b7 : Auth) (e7 : Int), moveAuth a kind n = (b7, e7) := ⟨_, _, rfl⟩
            refine AL.call (n' := 3) (h' := [(2, (.box 75 [(cI b6.card), (cI b6.shop), (cI b6.sum), (cI b6.captured), (cI b6.refunded), (cI b6.disputed), (cI b6.till), (cB b6.shut)])), (1, (.box 75 [(cI b6.card), (cI b6.shop), (cI b6.sum), (cI b6.captured), (cI b6.refunded), (cI b6.disputed), (cI b6.till), (cB b6.shut)])), (0, (.box 75 [(cI a.card), (cI a.shop), (cI a.sum), (cI a.captured), (cI a.refunded), (cI a.disputed), (cI a.till), (cB a.shut)]))]) (Wanted.plain rfl) (g_call 3 (c_auth_Move a kind n  b7 e7 hr7) en65 rfl rfl ⟨⟨_, rfl, .g ⟨.d _, .d _, .d _, .d _, .d _, .d _, .d _, .d _,  trivial⟩⟩, ⟨_, rfl, .c (.d _)⟩, ⟨_, rfl, .c (.d _)⟩,  trivial⟩ ⟨⟨trivial, trivial, trivial, trivial, trivial, trivial, trivial, trivial,  trivial⟩, trivial,  trivial⟩ trivial rfl rfl rfl rfl) rfl rfl rfl rfl rfl ?_
            refine AL.fast 1 rfl ?_
            refine AL.val (Wanted.plain rfl) (g_extract rfl rfl rfl) rfl rfl ?_
            refine AL.val (Wanted.plain rfl) (g_extract rfl rfl rfl) rfl rfl ?_
            refine AL.sto (h' := [(2, (.box 75 [(cI b6.card), (cI b6.shop), (cI b6.sum), (cI b6.captured), (cI b6.refunded), (cI b6.disputed), (cI b6.till), (cB b6.shut)])), (1, (.box 75 [(cI b7.card), (cI b7.shop), (cI b7.sum), (cI b7.captured), (cI b7.refunded), (cI b7.disputed), (cI b7.till), (cB b7.shut)])), (0, (.box 75 [(cI a.card), (cI a.shop), (cI a.sum), (cI a.captured), (cI a.refunded), (cI a.disputed), (cI a.till), (cB a.shut)]))]) (Wanted.plain rfl) (g_storeB rfl rfl rfl rfl rfl sz75 rfl (Nat.le_of_ble_eq_true rfl) rfl) rfl rfl rfl rfl ?_
            refine AL.fast 1 rfl ?_
            refine AL.nil ?_
            refine then_ok ?_
            refine AC.seq ?_
            refine AC.region ?_
            refine AL.val (Wanted.plain rfl) (g_loadBs rfl rfl rfl Try.underlying75 rfl sz75 rfl rfl) rfl rfl ?_
            refine AL.fast 2 rfl ?_
            refine AL.call (n' := 3) (h' := [(2, (.box 75 [(cI b6.card), (cI b6.shop), (cI b6.sum), (cI b6.captured), (cI b6.refunded), (cI b6.disputed), (cI b6.till), (cB b6.shut)])), (1, (.box 75 [(cI b7.card), (cI b7.shop), (cI b7.sum), (cI b7.captured), (cI b7.refunded), (cI b7.disputed), (cI b7.till), (cB b7.shut)])), (0, (.box 75 [(cI a.card), (cI a.shop), (cI a.sum), (cI a.captured), (cI a.refunded), (cI a.disputed), (cI a.till), (cB a.shut)]))]) (Wanted.plain rfl) (g_call 3 (c_ref_Become a kind n  b7 e7 hr7) en66 rfl rfl ⟨⟨_, rfl, .g ⟨.d _, .d _, .d _, .d _, .d _, .d _, .d _, .d _,  trivial⟩⟩, ⟨_, rfl, .c (.d _)⟩, ⟨_, rfl, .c (.d _)⟩,  trivial⟩ ⟨⟨trivial, trivial, trivial, trivial, trivial, trivial, trivial, trivial,  trivial⟩, trivial,  trivial⟩ trivial rfl rfl rfl rfl) rfl rfl rfl rfl rfl ?_
            refine AL.fast 1 rfl ?_
            refine AL.val (Wanted.plain rfl) (g_extract rfl rfl rfl) rfl rfl ?_
            refine AL.val (Wanted.plain rfl) (g_extract rfl rfl rfl) rfl rfl ?_
            refine AL.sto (h' := [(2, (.box 75 [(cI b7.card), (cI b7.shop), (cI b7.sum), (cI b7.captured), (cI b7.refunded), (cI b7.disputed), (cI b7.till), (cB b7.shut)])), (1, (.box 75 [(cI b7.card), (cI b7.shop), (cI b7.sum), (cI b7.captured), (cI b7.refunded), (cI b7.disputed), (cI b7.till), (cB b7.shut)])), (0, (.box 75 [(cI a.card), (cI a.shop), (cI a.sum), (cI a.captured), (cI a.refunded), (cI a.disputed), (cI a.till), (cB a.shut)]))]) (Wanted.plain rfl) (g_storeB rfl rfl rfl rfl rfl sz75 rfl (Nat.le_of_ble_eq_true rfl) rfl) rfl rfl rfl rfl ?_
            refine AL.fast 1 rfl ?_
            refine AL.nil ?_
            refine then_ok ?_
            refine AC.cutB 12 (true || false) ?_ ?_
            ·
              refine AC.region ?_
              refine AL.fast 2 rfl ?_
              refine AL.val (Wanted.plain rfl) (g_binI rfl rfl rfl (congrArg (fun b => some (Value.bool b)) (decide_eq_true rfl))) rfl rfl ?_
              refine AL.fast 1 rfl ?_
              refine AL.val (Wanted.yes rfl rfl rfl) (g_loadBs rfl rfl rfl Try.underlying75 rfl sz75 rfl rfl) rfl rfl ?_
              refine AL.val (Wanted.yes rfl rfl rfl) (g_loadBs rfl rfl rfl Try.underlying75 rfl sz75 rfl rfl) rfl rfl ?_
              refine AL.val (Wanted.yes rfl rfl rfl) (GOp.cast (g_eql (cmp75 _ _ _ _ _ _ _ _ _ _ _ _ _ _ _ _) rfl rfl rfl rfl rfl rfl) (congrArg aB (show ((sameL [.int .i64 b7.card, .int .i64 b7.shop, .int .i64 b7.sum, .int .i64 b7.captured, .int .i64 b7.refunded, .int .i64 b7.disputed, .int .i64 b7.till, .bool b7.shut] [.int .i64 b7.card, .int .i64 b7.shop, .int .i64 b7.sum, .int .i64 b7.captured, .int .i64 b7.refunded, .int .i64 b7.disputed, .int .i64 b7.till, .bool b7.shut])) = true by simp [sameL, sameV]))) rfl rfl ?_
              refine AL.fast 2 rfl ?_
              refine AL.nil ?_
              refine then_ok ?_
              exact Weak.popB 9 rfl rfl (by first | (simp []; done) | (simp_all; done) | (exfalso; simp_all; done) | (simp_all; omega)) rfl
            ·
              refine AC.ret ?_
              refine retQ_mk (av' := outOf [(.c (cB (true || false)))]) (nb' := []) (retQ_ret ⟨[(12, (aB (true || false)))], [], 0⟩ [.tmp 12] [(.c (cB (true || false)))] (Weak.ren id (⟨by first | rfl | (simp only [AV.map, GV.map, CV.map, AB.map', id]; done) | (congr 3; omega) | (congr 4; omega) | (simp only [List.length_append, List.length_cons, List.length_nil, List.length_set]; rfl),  trivial⟩) (trivial) rfl) rfl ⟨.tmp rfl, trivial⟩ trivial) ?_ ?_
              · exact congrArg aB (show (true || false) = true by (simp_all [sameL, sameV]))
              · rfl
    ·
      have hb2' := hb2; try simp only [sumB, Bool.not_eq_true', Bool.not_eq_false', Bool.or_eq_true, Bool.or_eq_false_iff, Bool.and_eq_true, Bool.and_eq_false_imp, decide_eq_true_eq, decide_eq_false_iff_not, Bool.not_not, Bool.not_true, Bool.not_false] at hb2'
      refine AC.weak (st' := ⟨[(1, (aI card)), (2, (aI shop)), (3, (aI n)), (4, (aI t)), (5, (aI kind)), (6, (aC (.p 0 0 0 0)))], [(0, (.box 75 [(cI a.card), (cI a.shop), (cI a.sum), (cI a.captured), (cI a.refunded), (cI a.disputed), (cI a.till), (cB a.shut)]))], 1⟩) (Weak.ren id (⟨by first | rfl | (simp only [AV.map, GV.map, CV.map, AB.map', id]; done) | (congr 3; omega) | (congr 4; omega) | (simp only [List.length_append, List.length_cons, List.length_nil, List.length_set]; rfl), by first | rfl | (simp only [AV.map, GV.map, CV.map, AB.map', id]; done) | (congr 3; omega) | (congr 4; omega) | (simp only [List.length_append, List.length_cons, List.length_nil, List.length_set]; rfl), by first | rfl | (simp only [AV.map, GV.map, CV.map, AB.map', id]; done) | (congr 3; omega) | (congr 4; omega) | (simp only [List.length_append, List.length_cons, List.length_nil, List.length_set]; rfl), by first | rfl | (simp only [AV.map, GV.map, CV.map, AB.map', id]; done) | (congr 3; omega) | (congr 4; omega) | (simp only [List.length_append, List.length_cons, List.length_nil, List.length_set]; rfl), by first | rfl | (simp only [AV.map, GV.map, CV.map, AB.map', id]; done) | (congr 3; omega) | (congr 4; omega) | (simp only [List.length_append, List.length_cons, List.length_nil, List.length_set]; rfl), by first | rfl | (simp only [AV.map, GV.map, CV.map, AB.map', id]; done) | (congr 3; omega) | (congr 4; omega) | (simp only [List.length_append, List.length_cons, List.length_nil, List.length_set]; rfl),  trivial⟩) (⟨by first | rfl | (simp only [AV.map, GV.map, CV.map, AB.map', id]; done) | (congr 3; omega) | (congr 4; omega) | (simp only [List.length_append, List.length_cons, List.length_nil, List.length_set]; rfl),  trivial⟩) rfl) ?_
      refine AC.draw [⟨some 31, (aG [(cI a.card), (cI a.shop), (cI a.sum), (cI a.captured), (cI a.refunded), (cI a.disputed), (cI a.till), (cB a.shut)]), [], [], [], [(6, (aC (.p 0 0 0 0)))], [(0, (.box 75 [(cI a.card), (cI a.shop), (cI a.sum), (cI a.captured), (cI a.refunded), (cI a.disputed), (cI a.till), (cB a.shut)]))]⟩,
      ⟨some 32, (aI e2), [], [], [0], [(31, (aG [(cI a.card), (cI a.shop), (cI a.sum), (cI a.captured), (cI a.refunded), (cI a.disputed), (cI a.till), (cB a.shut)]))], []⟩,
      ⟨some 33, (aB false), [], [], [1], [(32, (aI e2))], []⟩,
      ⟨some 34, (aB false), [], [], [2], [(33, (aB false))], []⟩,
      ⟨some 35, (.t []), [], [], [3], [(6, (aC (.p 0 0 0 0))), (34, (aB false))], []⟩,
      ⟨some 36, (.t []), [], [], [3, 4], [(35, (.t [])), (34, (aB false))], []⟩,
      ⟨some 37, (.t []), [], [], [3], [(6, (aC (.p 0 0 0 0))), (34, (aB false))], []⟩,
      ⟨some 38, (.t []), [], [], [3, 6], [(37, (.t [])), (34, (aB false))], []⟩,
      ⟨some 39, (.t []), [], [], [3, 5, 7], [(36, (.t [])), (38, (.t [])), (34, (aB false))], []⟩,
      ⟨some 40, (aB false), [], [], [3, 8], [(34, (aB false)), (39, (.t []))], []⟩] ⟨[(1, (aI card)), (2, (aI shop)), (3, (aI n)), (4, (aI t)), (5, (aI kind)), (6, (aC (.p 0 0 0 0))), (40, (aB false))], [(0, (.box 75 [(cI a.card), (cI a.shop), (cI a.sum), (cI a.captured), (cI a.refunded), (cI a.disputed), (cI a.till), (cB a.shut)]))], 1⟩ mixed (by kernel_rfl) ?_ ?_ ?_ ?_
      · exact ⟨.inl ⟨(Wanted.plain rfl), GOp.cast (g_loadBs rfl rfl rfl Try.underlying75 rfl sz75 rfl rfl) rfl⟩,
      .inl ⟨(Wanted.plain rfl), GOp.cast (g_call 1 (c_ref_WrongAuth a  e2 hr2) en58 rfl rfl ⟨⟨_, rfl, .g ⟨.d _, .d _, .d _, .d _, .d _, .d _, .d _, .d _,  trivial⟩⟩,  trivial⟩ trivial trivial rfl rfl rfl rfl) rfl⟩,
      .inl ⟨(Wanted.plain rfl), GOp.cast (g_binI rfl rfl rfl (congrArg (fun b => some (Value.bool b)) hb2)) rfl⟩,
      .inl ⟨(Wanted.plain rfl), GOp.cast (g_move rfl rfl) rfl⟩,
      .inr ⟨(Unwanted.no rfl rfl rfl), rfl, rfl, rfl⟩,
      .inr ⟨(Unwanted.no rfl rfl rfl), rfl, rfl, rfl⟩,
      .inr ⟨(Unwanted.no rfl rfl rfl), rfl, rfl, rfl⟩,
      .inr ⟨(Unwanted.no rfl rfl rfl), rfl, rfl, rfl⟩,
      .inr ⟨(Unwanted.no rfl rfl rfl), rfl, rfl, rfl⟩,
      .inl ⟨(Wanted.plain rfl), GOp.cast (g_pick rfl rfl rfl) rfl⟩,
       trivial⟩
      · exact ⟨⟨⟨.inl rfl,  trivial⟩, ⟨.inl rfl,  trivial⟩⟩, ⟨⟨.inr ⟨0, .head _, _, rfl, rfl, rfl⟩,  trivial⟩, trivial⟩, ⟨⟨.inr ⟨1, .head _, _, rfl, rfl, rfl⟩,  trivial⟩, trivial⟩, ⟨⟨.inr ⟨2, .head _, _, rfl, rfl, rfl⟩,  trivial⟩, trivial⟩, ⟨⟨.inl rfl, .inr ⟨3, .head _, _, rfl, rfl, rfl⟩,  trivial⟩, trivial⟩, ⟨⟨.inr ⟨4, .tail _ (.head _), _, rfl, rfl, rfl⟩, .inr ⟨3, .head _, _, rfl, rfl, rfl⟩,  trivial⟩, trivial⟩, ⟨⟨.inl rfl, .inr ⟨3, .head _, _, rfl, rfl, rfl⟩,  trivial⟩, trivial⟩, ⟨⟨.inr ⟨6, .tail _ (.head _), _, rfl, rfl, rfl⟩, .inr ⟨3, .head _, _, rfl, rfl, rfl⟩,  trivial⟩, trivial⟩, ⟨⟨.inr ⟨5, .tail _ (.head _), _, rfl, rfl, rfl⟩, .inr ⟨7, .tail _ (.tail _ (.head _)), _, rfl, rfl, rfl⟩, .inr ⟨3, .head _, _, rfl, rfl, rfl⟩,  trivial⟩, trivial⟩, ⟨⟨.inr ⟨3, .head _, _, rfl, rfl, rfl⟩, .inr ⟨8, .tail _ (.head _), _, rfl, rfl, rfl⟩,  trivial⟩, trivial⟩,  trivial⟩
      · exact ⟨⟨.inl rfl, .inl rfl, .inl rfl, .inl rfl, .inl rfl, .inl rfl, .inr ⟨9, _, rfl, rfl, rfl⟩,  trivial⟩, ⟨.inl rfl,  trivial⟩⟩
      ·
        refine AL.nil ?_
        refine then_ok ?_
        refine AC.cond rfl (fun hno => by cases hno) (fun _ => ?_)
        refine AC.skip ?_
        refine then_ok ?_
        refine AC.seq ?_
        refine AC.region ?_
        refine AL.fast 4 rfl ?_
        obtain ⟨b8, e8, hr8⟩ : ∃ (b8 : Auth) (e8 : Int), newAuth card shop n t = (b8, e8) := ⟨_, _, rfl⟩
        refine AL.call (n' := 1) (h' := [(0, (.box 75 [(cI a.card), (cI a.shop), (cI a.sum), (cI a.captured), (cI a.refunded), (cI a.disputed), (cI a.till), (cB a.shut)]))]) (Wanted.plain rfl) (g_call 1 (c_auth_New card shop n t  b8 e8 hr8) en63 rfl rfl ⟨⟨_, rfl, .c (.d _)⟩, ⟨_, rfl, .c (.d _)⟩, ⟨_, rfl, .c (.d _)⟩, ⟨_, rfl, .c (.d _)⟩,  trivial⟩ ⟨⟨trivial, trivial, trivial, trivial, trivial, trivial, trivial, trivial,  trivial⟩, trivial,  trivial⟩ trivial rfl rfl rfl rfl) rfl rfl rfl rfl rfl ?_
        refine AL.fast 1 rfl ?_
        refine AL.val (Wanted.plain rfl) (g_extract rfl rfl rfl) rfl rfl ?_
        refine AL.val (Wanted.plain rfl) (g_extract rfl rfl rfl) rfl rfl ?_
        refine AL.new (n' := 2) (Wanted.plain rfl) (g_alloc 1 rfl zv75 rfl rfl rfl) rfl rfl rfl ?_
        refine AL.sto (h' := [(1, (.box 75 [(cI b8.card), (cI b8.shop), (cI b8.sum), (cI b8.captured), (cI b8.refunded), (cI b8.disputed), (cI b8.till), (cB b8.shut)])), (0, (.box 75 [(cI a.card), (cI a.shop), (cI a.sum), (cI a.captured), (cI a.refunded), (cI a.disputed), (cI a.till), (cB a.shut)]))]) (Wanted.plain rfl) (g_storeB rfl rfl rfl rfl rfl sz75 rfl (Nat.le_of_ble_eq_true rfl) rfl) rfl rfl rfl rfl ?_
        refine AL.fast 1 rfl ?_
        refine AL.nil ?_
        refine then_ok ?_
        refine AC.seq ?_
        refine AC.region ?_
        refine AL.fast 4 rfl ?_
        refine AL.call (n' := 2) (h' := [(1, (.box 75 [(cI b8.card), (cI b8.shop), (cI b8.sum), (cI b8.captured), (cI b8.refunded), (cI b8.disputed), (cI b8.till), (cB b8.shut)])), (0, (.box 75 [(cI a.card), (cI a.shop), (cI a.sum), (cI a.captured), (cI a.refunded), (cI a.disputed), (cI a.till), (cB a.shut)]))]) (Wanted.plain rfl) (g_call 2 (c_ref_New card shop n t  b8 e8 hr8) en64 rfl rfl ⟨⟨_, rfl, .c (.d _)⟩, ⟨_, rfl, .c (.d _)⟩, ⟨_, rfl, .c (.d _)⟩, ⟨_, rfl, .c (.d _)⟩,  trivial⟩ ⟨⟨trivial, trivial, trivial, trivial, trivial, trivial, trivial, trivial,  trivial⟩, trivial,  trivial⟩ trivial rfl rfl rfl rfl) rfl rfl rfl rfl rfl ?_
        refine AL.fast 1 rfl ?_
        refine AL.val (Wanted.plain rfl) (g_extract rfl rfl rfl) rfl rfl ?_
        refine AL.val (Wanted.plain rfl) (g_extract rfl rfl rfl) rfl rfl ?_
        refine AL.new (n' := 3) (Wanted.plain rfl) (g_alloc 2 rfl zv75 rfl rfl rfl) rfl rfl rfl ?_
        refine AL.sto (h' := [(2, (.box 75 [(cI b8.card), (cI b8.shop), (cI b8.sum), (cI b8.captured), (cI b8.refunded), (cI b8.disputed), (cI b8.till), (cB b8.shut)])), (1, (.box 75 [(cI b8.card), (cI b8.shop), (cI b8.sum), (cI b8.captured), (cI b8.refunded), (cI b8.disputed), (cI b8.till), (cB b8.shut)])), (0, (.box 75 [(cI a.card), (cI a.shop), (cI a.sum), (cI a.captured), (cI a.refunded), (cI a.disputed), (cI a.till), (cB a.shut)]))]) (Wanted.plain rfl) (g_storeB rfl rfl rfl rfl rfl sz75 rfl (Nat.le_of_ble_eq_true rfl) rfl) rfl rfl rfl rfl ?_
        refine AL.fast 1 rfl ?_
        refine AL.nil ?_
        refine then_ok ?_
        refine AC.seq ?_
        refine AC.cutB 64 (false || false) ?_ ?_
        ·
          refine AC.region ?_
          refine AL.fast 2 rfl ?_
          refine AL.val (Wanted.plain rfl) (g_binI rfl rfl rfl (congrArg (fun b => some (Value.bool b)) (decide_eq_false (fun h => h rfl)))) rfl rfl ?_
          refine AL.fast 1 rfl ?_
          refine AL.val (Wanted.yes rfl rfl rfl) (g_loadBs rfl rfl rfl Try.underlying75 rfl sz75 rfl rfl) rfl rfl ?_
          refine AL.val (Wanted.yes rfl rfl rfl) (g_loadBs rfl rfl rfl Try.underlying75 rfl sz75 rfl rfl) rfl rfl ?_
          refine AL.val (Wanted.yes rfl rfl rfl) (GOp.cast (g_neq (cmp75 _ _ _ _ _ _ _ _ _ _ _ _ _ _ _ _) rfl rfl rfl rfl rfl rfl) (congrArg aB (show (!(sameL [.int .i64 b8.card, .int .i64 b8.shop, .int .i64 b8.sum, .int .i64 b8.captured, .int .i64 b8.refunded, .int .i64 b8.disputed, .int .i64 b8.till, .bool b8.shut] [.int .i64 b8.card, .int .i64 b8.shop, .int .i64 b8.sum, .int .i64 b8.captured, .int .i64 b8.refunded, .int .i64 b8.disputed, .int .i64 b8.till, .bool b8.shut])) = false by simp [sameL, sameV]))) rfl rfl ?_
          refine AL.fast 1 rfl ?_
          refine AL.nil ?_
          refine then_ok ?_
          exact Weak.popB 8 rfl rfl (by first | (simp []; done) | (simp_all; done) | (exfalso; simp_all; done) | (simp_all; omega)) rfl
        ·
          refine AC.cond rfl (fun hc6 => ?_) (fun hc6 => ?_)
          ·
            have hc6' := hc6; try simp only [sumB, Bool.not_eq_true', Bool.not_eq_false', Bool.or_eq_true, Bool.or_eq_false_iff, Bool.and_eq_true, Bool.and_eq_false_imp, decide_eq_true_eq, decide_eq_false_iff_not, Bool.not_not, Bool.not_true, Bool.not_false] at hc6'
            refine AC.seq ?_
            refine AC.region ?_
            refine AL.fast 1 rfl ?_
            refine AL.nil ?_
            refine then_ok ?_
            refine AC.ret ?_
            refine then_ret ?_
            refine retQ_mk (av' := outOf [(.c (cB false))]) (nb' := []) (retQ_ret ⟨[(12, (aB false))], [], 0⟩ [.tmp 12] [(.c (cB false))] (Weak.ren id (⟨by first | rfl | (simp only [AV.map, GV.map, CV.map, AB.map', id]; done) | (congr 3; omega) | (congr 4; omega) | (simp only [List.length_append, List.length_cons, List.length_nil, List.length_set]; rfl),  trivial⟩) (trivial) rfl) rfl ⟨.tmp rfl, trivial⟩ trivial) ?_ ?_
            · exact congrArg aB (show (false) = true by (simp_all [sameL, sameV]))
            · rfl
          ·
            have hc6' := hc6; try simp only [sumB, Bool.not_eq_true', Bool.not_eq_false', Bool.or_eq_true, Bool.or_eq_false_iff, Bool.and_eq_true, Bool.and_eq_false_imp, decide_eq_true_eq, decide_eq_false_iff_not, Bool.not_not, Bool.not_true, Bool.not_false] at hc6'
            refine AC.skip ?_
            refine then_ok ?_
            refine AC.seq ?_
            refine AC.region ?_
            refine AL.val (Wanted.plain rfl) (g_loadBs rfl rfl rfl Try.underlying75 rfl sz75 rfl rfl) rfl rfl ?_
            refine AL.fast 2 rfl ?_
            obtain ⟨b9, e9, hr9⟩ : ∃ (b9 : Auth) (e9 : Int), moveAuth a kind n = (b9, e9) := ⟨_, _, rfl⟩
            refine AL.call (n' := 3) (h' := [(2, (.box 75 [(cI b8.card), (cI b8.shop), (cI b8.sum), (cI b8.captured), (cI b8.refunded), (cI b8.disputed), (cI b8.till), (cB b8.shut)])), (1, (.box 75 [(cI b8.card), (cI b8.shop), (cI b8.sum), (cI b8.captured), (cI b8.refunded), (cI b8.disputed), (cI b8.till), (cB b8.shut)])), (0, (.box 75 [(cI a.card), (cI a.shop), (cI a.sum), (cI a.captured), (cI a.refunded), (cI a.disputed), (cI a.till), (cB a.shut)]))]) (Wanted.plain rfl) (g_call 3 (c_auth_Move a kind n  b9 e9 hr9) en65 rfl rfl ⟨⟨_, rfl, .g ⟨.d _, .d _, .d _, .d _, .d _, .d _, .d _, .d _,  trivial⟩⟩, ⟨_, rfl, .c (.d _)⟩, ⟨_, rfl, .c (.d _)⟩,  trivial⟩ ⟨⟨trivial, trivial, trivial, trivial, trivial, trivial, trivial, trivial,  trivial⟩, trivial,  trivial⟩ trivial rfl rfl rfl rfl) rfl rfl rfl rfl rfl ?_
            refine AL.fast 1 rfl ?_
            refine AL.val (Wanted.plain rfl) (g_extract rfl rfl rfl) rfl rfl ?_
            refine AL.val (Wanted.plain rfl) (g_extract rfl rfl rfl) rfl rfl ?_
            refine AL.sto (h' := [(2, (.box 75 [(cI b8.card), (cI b8.shop), (cI b8.sum), (cI b8.captured), (cI b8.refunded), (cI b8.disputed), (cI b8.till), (cB b8.shut)])), (1, (.box 75 [(cI b9.card), (cI b9.shop), (cI b9.sum), (cI b9.captured), (cI b9.refunded), (cI b9.disputed), (cI b9.till), (cB b9.shut)])), (0, (.box 75 [(cI a.card), (cI a.shop), (cI a.sum), (cI a.captured), (cI a.refunded), (cI a.disputed), (cI a.till), (cB a.shut)]))]) (Wanted.plain rfl) (g_storeB rfl rfl rfl rfl rfl sz75 rfl (Nat.le_of_ble_eq_true rfl) rfl) rfl rfl rfl rfl ?_
            refine AL.fast 1 rfl ?_
            refine AL.nil ?_
            refine then_ok ?_
            refine AC.seq ?_
            refine AC.region ?_
            refine AL.val (Wanted.plain rfl) (g_loadBs rfl rfl rfl Try.underlying75 rfl sz75 rfl rfl) rfl rfl ?_
            refine AL.fast 2 rfl ?_
            refine AL.call (n' := 3) (h' := [(2, (.box 75 [(cI b8.card), (cI b8.shop), (cI b8.sum), (cI b8.captured), (cI b8.refunded), (cI b8.disputed), (cI b8.till), (cB b8.shut)])), (1, (.box 75 [(cI b9.card), (cI b9.shop), (cI b9.sum), (cI b9.captured), (cI b9.refunded), (cI b9.disputed), (cI b9.till), (cB b9.shut)])), (0, (.box 75 [(cI a.card), (cI a.shop), (cI a.sum), (cI a.captured), (cI a.refunded), (cI a.disputed), (cI a.till), (cB a.shut)]))]) (Wanted.plain rfl) (g_call 3 (c_ref_Become a kind n  b9 e9 hr9) en66 rfl rfl ⟨⟨_, rfl, .g ⟨.d _, .d _, .d _, .d _, .d _, .d _, .d _, .d _,  trivial⟩⟩, ⟨_, rfl, .c (.d _)⟩, ⟨_, rfl, .c (.d _)⟩,  trivial⟩ ⟨⟨trivial, trivial, trivial, trivial, trivial, trivial, trivial, trivial,  trivial⟩, trivial,  trivial⟩ trivial rfl rfl rfl rfl) rfl rfl rfl rfl rfl ?_
            refine AL.fast 1 rfl ?_
            refine AL.val (Wanted.plain rfl) (g_extract rfl rfl rfl) rfl rfl ?_
            refine AL.val (Wanted.plain rfl) (g_extract rfl rfl rfl) rfl rfl ?_
            refine AL.sto (h' := [(2, (.box 75 [(cI b9.card), (cI b9.shop), (cI b9.sum), (cI b9.captured), (cI b9.refunded), (cI b9.disputed), (cI b9.till), (cB b9.shut)])), (1, (.box 75 [(cI b9.card), (cI b9.shop), (cI b9.sum), (cI b9.captured), (cI b9.refunded), (cI b9.disputed), (cI b9.till), (cB b9.shut)])), (0, (.box 75 [(cI a.card), (cI a.shop), (cI a.sum), (cI a.captured), (cI a.refunded), (cI a.disputed), (cI a.till), (cB a.shut)]))]) (Wanted.plain rfl) (g_storeB rfl rfl rfl rfl rfl sz75 rfl (Nat.le_of_ble_eq_true rfl) rfl) rfl rfl rfl rfl ?_
            refine AL.fast 1 rfl ?_
            refine AL.nil ?_
            refine then_ok ?_
            refine AC.cutB 12 (true || false) ?_ ?_
            ·
              refine AC.region ?_
              refine AL.fast 2 rfl ?_
              refine AL.val (Wanted.plain rfl) (g_binI rfl rfl rfl (congrArg (fun b => some (Value.bool b)) (decide_eq_true rfl))) rfl rfl ?_
              refine AL.fast 1 rfl ?_
              refine AL.val (Wanted.yes rfl rfl rfl) (g_loadBs rfl rfl rfl Try.underlying75 rfl sz75 rfl rfl) rfl rfl ?_
              refine AL.val (Wanted.yes rfl rfl rfl) (g_loadBs rfl rfl rfl Try.underlying75 rfl sz75 rfl rfl) rfl rfl ?_
              refine AL.val (Wanted.yes rfl rfl rfl) (GOp.cast (g_eql (cmp75 _ _ _ _ _ _ _ _ _ _ _ _ _ _ _ _) rfl rfl rfl rfl rfl rfl) (congrArg aB (show ((sameL [.int .i64 b9.card, .int .i64 b9.shop, .int .i64 b9.sum, .int .i64 b9.captured, .int .i64 b9.refunded, .int .i64 b9.disputed, .int .i64 b9.till, .bool b9.shut] [.int .i64 b9.card, .int .i64 b9.shop, .int .i64 b9.sum, .int .i64 b9.captured, .int .i64 b9.refunded, .int .i64 b9.disputed, .int .i64 b9.till, .bool b9.shut])) = true by simp [sameL, sameV]))) rfl rfl ?_
              refine AL.fast 2 rfl ?_
              refine AL.nil ?_
              refine then_ok ?_
              exact Weak.popB 9 rfl rfl (by first | (simp []; done) | (simp_all; done) | (exfalso; simp_all; done) | (simp_all; omega)) rfl
            ·
              refine AC.ret ?_
              refine retQ_mk (av' := outOf [(.c (cB (true || false)))]) (nb' := []) (retQ_ret ⟨[(12, (aB (true || false)))], [], 0⟩ [.tmp 12] [(.c (cB (true || false)))] (Weak.ren id (⟨by first | rfl | (simp only [AV.map, GV.map, CV.map, AB.map', id]; done) | (congr 3; omega) | (congr 4; omega) | (simp only [List.length_append, List.length_cons, List.length_nil, List.length_set]; rfl),  trivial⟩) (trivial) rfl) rfl ⟨.tmp rfl, trivial⟩ trivial) ?_ ?_
              · exact congrArg aB (show (true || false) = true by (simp_all [sameL, sameV]))
              · rfl
end Go.Proofs.Ytgmcdlfmifijlaa.Dev
