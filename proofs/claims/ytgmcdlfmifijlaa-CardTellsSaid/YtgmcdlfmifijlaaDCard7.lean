/- CardTells. -/
import Derived.Test.YtgmcdlfmifijlaaDCard4
set_option linter.unusedVariables false
set_option linter.unusedSimpArgs false
namespace Go.Proofs.Ytgmcdlfmifijlaa.Dev
open Go.RowKit

set_option maxRecDepth 100000 in
set_option maxHeartbeats 1000000 in
theorem c_CardTells (c : Card) (n time held money : Int) : Fn Try.prog 21 [(.g [(cI c.money), (cI c.held), (cI c.pace.ticks), (cI c.pace.count), (cI c.pace.sum), (cR 2 ((c.uses).map rUse))]), (.c (cI n)), (.c (cI time)), (.c (cI held)), (.c (cI money))] (aB true) [] := by
  refine Fn.mk' 101 [(0, (aG [(cI c.money), (cI c.held), (cI c.pace.ticks), (cI c.pace.count), (cI c.pace.sum), (cR 2 ((c.uses).map rUse))])), (1, (aI n)), (2, (aI time)), (3, (aI held)), (4, (aI money))] Try.func21 rfl rfl rfl rfl ?_
  intro W0 T0
  refine AC.lenG 0 5 rfl rfl (fun hlen0_5 => ?_)
  have hrc := @rightC c
  have hrl := @rightC_len c
  refine AC.seq ?_
  refine AC.region ?_
  refine AL.new (n' := 1) (Wanted.plain rfl) (g_boxS 0 rfl rfl) rfl rfl rfl ?_
  refine AL.fast 1 rfl ?_
  refine AL.nil ?_
  refine then_ok ?_
  refine AC.seq ?_
  refine AC.seq ?_
  obtain ⟨e1, hr1⟩ : ∃ (e1 : Int), wrongC c = e1 := ⟨_, rfl⟩
  rcases Bool.eq_false_or_eq_true (decide (e1 = 0)) with hb1 | hb1
  ·
    have hb1' := hb1; try simp only [sumB, Bool.not_eq_true', Bool.not_eq_false', Bool.or_eq_true, Bool.or_eq_false_iff, Bool.and_eq_true, Bool.and_eq_false_imp, decide_eq_true_eq, decide_eq_false_iff_not, Bool.not_not, Bool.not_true, Bool.not_false] at hb1'
    refine AC.weak (st' := ⟨[(1, (aI n)), (2, (aI time)), (3, (aI held)), (4, (aI money)), (5, (aC (.p 0 0 0 0)))], [(0, (.box 92 [(cI c.money), (cI c.held), (cI c.pace.ticks), (cI c.pace.count), (cI c.pace.sum), (cR 2 ((c.uses).map rUse))]))], 1⟩) (Weak.ren id (⟨by first | rfl | (simp only [AV.map, GV.map, CV.map, AB.map', id]; done) | (congr 3; omega) | (congr 4; omega) | (simp only [List.length_append, List.length_cons, List.length_nil, List.length_set]; rfl), by first | rfl | (simp only [AV.map, GV.map, CV.map, AB.map', id]; done) | (congr 3; omega) | (congr 4; omega) | (simp only [List.length_append, List.length_cons, List.length_nil, List.length_set]; rfl), by first | rfl | (simp only [AV.map, GV.map, CV.map, AB.map', id]; done) | (congr 3; omega) | (congr 4; omega) | (simp only [List.length_append, List.length_cons, List.length_nil, List.length_set]; rfl), by first | rfl | (simp only [AV.map, GV.map, CV.map, AB.map', id]; done) | (congr 3; omega) | (congr 4; omega) | (simp only [List.length_append, List.length_cons, List.length_nil, List.length_set]; rfl), by first | rfl | (simp only [AV.map, GV.map, CV.map, AB.map', id]; done) | (congr 3; omega) | (congr 4; omega) | (simp only [List.length_append, List.length_cons, List.length_nil, List.length_set]; rfl),  trivial⟩) (⟨by first | rfl | (simp only [AV.map, GV.map, CV.map, AB.map', id]; done) | (congr 3; omega) | (congr 4; omega) | (simp only [List.length_append, List.length_cons, List.length_nil, List.length_set]; rfl),  trivial⟩) rfl) ?_
    refine AC.draw [⟨some 15, (aG [(cI c.money), (cI c.held), (cI c.pace.ticks), (cI c.pace.count), (cI c.pace.sum), (cR 2 ((c.uses).map rUse))]), [], [], [], [(5, (aC (.p 0 0 0 0)))], [(0, (.box 92 [(cI c.money), (cI c.held), (cI c.pace.ticks), (cI c.pace.count), (cI c.pace.sum), (cR 2 ((c.uses).map rUse))]))]⟩,
      ⟨some 16, (aI e1), [], [], [0], [(15, (aG [(cI c.money), (cI c.held), (cI c.pace.ticks), (cI c.pace.count), (cI c.pace.sum), (cR 2 ((c.uses).map rUse))]))], []⟩,
      ⟨some 17, (aG [(cI c.money), (cI c.held), (cI c.pace.ticks), (cI c.pace.count), (cI c.pace.sum), (cR 2 ((c.uses).map rUse))]), [], [], [], [(5, (aC (.p 0 0 0 0)))], [(0, (.box 92 [(cI c.money), (cI c.held), (cI c.pace.ticks), (cI c.pace.count), (cI c.pace.sum), (cR 2 ((c.uses).map rUse))]))]⟩,
      ⟨some 18, (aI e1), [], [], [2], [(17, (aG [(cI c.money), (cI c.held), (cI c.pace.ticks), (cI c.pace.count), (cI c.pace.sum), (cR 2 ((c.uses).map rUse))]))], []⟩,
      ⟨some 19, (aB false), [], [], [1, 3], [(16, (aI e1)), (18, (aI e1))], []⟩,
      ⟨some 20, (aB false), [], [], [4], [(19, (aB false))], []⟩,
      ⟨some 21, (aG [(cI c.money), (cI c.held), (cI c.pace.ticks), (cI c.pace.count), (cI c.pace.sum), (cR 2 ((c.uses).map rUse))]), [], [], [5], [(5, (aC (.p 0 0 0 0))), (20, (aB false))], [(0, (.box 92 [(cI c.money), (cI c.held), (cI c.pace.ticks), (cI c.pace.count), (cI c.pace.sum), (cR 2 ((c.uses).map rUse))]))]⟩,
      ⟨some 22, (aI e1), [], [], [5, 6], [(21, (aG [(cI c.money), (cI c.held), (cI c.pace.ticks), (cI c.pace.count), (cI c.pace.sum), (cR 2 ((c.uses).map rUse))])), (20, (aB false))], []⟩,
      ⟨some 23, (aB true), [], [], [5, 7], [(22, (aI e1)), (20, (aB false))], []⟩,
      ⟨some 24, (aB true), [], [], [5, 8], [(23, (aB true)), (20, (aB false))], []⟩,
      ⟨some 25, (aG [(cI c.money), (cI c.held), (cI c.pace.ticks), (cI c.pace.count), (cI c.pace.sum), (cR 2 ((c.uses).map rUse))]), [], [], [9], [(5, (aC (.p 0 0 0 0))), (24, (aB true))], [(0, (.box 92 [(cI c.money), (cI c.held), (cI c.pace.ticks), (cI c.pace.count), (cI c.pace.sum), (cR 2 ((c.uses).map rUse))]))]⟩,
      ⟨some 26, (aI (c.money - c.held)), [], [], [9, 10], [(25, (aG [(cI c.money), (cI c.held), (cI c.pace.ticks), (cI c.pace.count), (cI c.pace.sum), (cR 2 ((c.uses).map rUse))])), (24, (aB true))], []⟩,
      ⟨some 27, (aC (.p 0 0 0 0)), [], [], [9], [(5, (aC (.p 0 0 0 0))), (24, (aB true))], [(0, (.box 92 [(cI c.money), (cI c.held), (cI c.pace.ticks), (cI c.pace.count), (cI c.pace.sum), (cR 2 ((c.uses).map rUse))]))]⟩,
      ⟨some 28, (aI c.money), [], [], [9, 12], [(27, (aC (.p 0 0 0 0))), (24, (aB true))], [(0, (.box 92 [(cI c.money), (cI c.held), (cI c.pace.ticks), (cI c.pace.count), (cI c.pace.sum), (cR 2 ((c.uses).map rUse))]))]⟩,
      ⟨some 29, (aC (.p 0 0 0 1)), [], [], [9], [(5, (aC (.p 0 0 0 0))), (24, (aB true))], [(0, (.box 92 [(cI c.money), (cI c.held), (cI c.pace.ticks), (cI c.pace.count), (cI c.pace.sum), (cR 2 ((c.uses).map rUse))]))]⟩,
      ⟨some 30, (aI c.held), [], [], [9, 14], [(29, (aC (.p 0 0 0 1))), (24, (aB true))], [(0, (.box 92 [(cI c.money), (cI c.held), (cI c.pace.ticks), (cI c.pace.count), (cI c.pace.sum), (cR 2 ((c.uses).map rUse))]))]⟩,
      ⟨some 31, (aI (c.money - c.held)), [], [], [9, 13, 15], [(28, (aI c.money)), (30, (aI c.held)), (24, (aB true))], []⟩,
      ⟨some 32, (aB false), [], [], [9, 11, 16], [(26, (aI (c.money - c.held))), (31, (aI (c.money - c.held))), (24, (aB true))], []⟩,
      ⟨some 33, (aB false), [], [], [5, 9, 17], [(24, (aB true)), (32, (aB false)), (20, (aB false))], []⟩,
      ⟨some 34, (aB false), [], [], [5, 18], [(20, (aB false)), (33, (aB false))], []⟩] ⟨[(1, (aI n)), (2, (aI time)), (3, (aI held)), (4, (aI money)), (5, (aC (.p 0 0 0 0))), (34, (aB false))], [(0, (.box 92 [(cI c.money), (cI c.held), (cI c.pace.ticks), (cI c.pace.count), (cI c.pace.sum), (cR 2 ((c.uses).map rUse))]))], 1⟩ mixed (by kernel_rfl) ?_ ?_ ?_ ?_
    · exact ⟨.inl ⟨(Wanted.plain rfl), GOp.cast (g_loadBs rfl rfl rfl Try.underlying92 rfl sz92 rfl rfl) rfl⟩,
      .inl ⟨(Wanted.plain rfl), GOp.cast (g_call 1 (c_card_Wrong c  e1 hr1) en72 rfl rfl ⟨⟨_, rfl, .g ⟨.d _, .d _, .d _, .d _, .d _, .d _,  trivial⟩⟩,  trivial⟩ trivial trivial rfl rfl rfl rfl) rfl⟩,
      .inl ⟨(Wanted.plain rfl), GOp.cast (g_loadBs rfl rfl rfl Try.underlying92 rfl sz92 rfl rfl) rfl⟩,
      .inl ⟨(Wanted.plain rfl), GOp.cast (g_call 1 (c_ref_WrongCard c  e1 hr1) en75 rfl rfl ⟨⟨_, rfl, .g ⟨.d _, .d _, .d _, .d _, .d _, .d _,  trivial⟩⟩,  trivial⟩ trivial trivial rfl rfl rfl rfl) rfl⟩,
      .inl ⟨(Wanted.plain rfl), GOp.cast (g_binI rfl rfl rfl (congrArg (fun b => some (Value.bool b)) (decide_eq_false (fun h => h rfl)))) rfl⟩,
      .inl ⟨(Wanted.plain rfl), GOp.cast (g_move rfl rfl) rfl⟩,
      .inl ⟨(Wanted.yes rfl rfl rfl), GOp.cast (g_loadBs rfl rfl rfl Try.underlying92 rfl sz92 rfl rfl) rfl⟩,
      .inl ⟨(Wanted.yes rfl rfl rfl), GOp.cast (g_call 1 (c_ref_WrongCard c  e1 hr1) en75 rfl rfl ⟨⟨_, rfl, .g ⟨.d _, .d _, .d _, .d _, .d _, .d _,  trivial⟩⟩,  trivial⟩ trivial trivial rfl rfl rfl rfl) rfl⟩,
      .inl ⟨(Wanted.yes rfl rfl rfl), GOp.cast (g_binI rfl rfl rfl (congrArg (fun b => some (Value.bool b)) hb1)) rfl⟩,
      .inl ⟨(Wanted.yes rfl rfl rfl), GOp.cast (g_move rfl rfl) rfl⟩,
      .inl ⟨(Wanted.yes rfl rfl rfl), GOp.cast (g_loadBs rfl rfl rfl Try.underlying92 rfl sz92 rfl rfl) rfl⟩,
      .inl ⟨(Wanted.yes rfl rfl rfl), GOp.cast (g_call 1 (c_card_Free c (by first | assumption | omega | (constructor <;> decide) | (have hz := rightC (by first | assumption | omega); omega)) ) en71 rfl rfl ⟨⟨_, rfl, .g ⟨.d _, .d _, .d _, .d _, .d _, .d _,  trivial⟩⟩,  trivial⟩ trivial trivial rfl rfl rfl rfl) rfl⟩,
      .inl ⟨(Wanted.yes rfl rfl rfl), GOp.cast (g_fieldP rfl rfl Try.underlying92 rfl sz3 (by decide)) rfl⟩,
      .inl ⟨(Wanted.yes rfl rfl rfl), GOp.cast (g_loadB rfl rfl rfl Try.underlying3 rfl rfl) rfl⟩,
      .inl ⟨(Wanted.yes rfl rfl rfl), GOp.cast (g_fieldP rfl rfl Try.underlying92 rfl sz3 (by decide)) rfl⟩,
      .inl ⟨(Wanted.yes rfl rfl rfl), GOp.cast (g_loadB rfl rfl rfl Try.underlying3 rfl rfl) rfl⟩,
      .inl ⟨(Wanted.yes rfl rfl rfl), GOp.cast (g_binI rfl rfl rfl (wrap_ok (by first | omega | (simp; done) | (simp; omega)))) rfl⟩,
      .inl ⟨(Wanted.yes rfl rfl rfl), GOp.cast (g_binI rfl rfl rfl (congrArg (fun b => some (Value.bool b)) (decide_eq_false (fun h => h rfl)))) rfl⟩,
      .inl ⟨(Wanted.yes rfl rfl rfl), GOp.cast (g_pick rfl rfl rfl) rfl⟩,
      .inl ⟨(Wanted.plain rfl), GOp.cast (g_pick rfl rfl rfl) rfl⟩,
       trivial⟩
    · exact ⟨⟨⟨.inl rfl,  trivial⟩, ⟨.inl rfl,  trivial⟩⟩, ⟨⟨.inr ⟨0, .head _, _, rfl, rfl, rfl⟩,  trivial⟩, trivial⟩, ⟨⟨.inl rfl,  trivial⟩, ⟨.inl rfl,  trivial⟩⟩, ⟨⟨.inr ⟨2, .head _, _, rfl, rfl, rfl⟩,  trivial⟩, trivial⟩, ⟨⟨.inr ⟨1, .head _, _, rfl, rfl, rfl⟩, .inr ⟨3, .tail _ (.head _), _, rfl, rfl, rfl⟩,  trivial⟩, trivial⟩, ⟨⟨.inr ⟨4, .head _, _, rfl, rfl, rfl⟩,  trivial⟩, trivial⟩, ⟨⟨.inl rfl, .inr ⟨5, .head _, _, rfl, rfl, rfl⟩,  trivial⟩, ⟨.inl rfl,  trivial⟩⟩, ⟨⟨.inr ⟨6, .tail _ (.head _), _, rfl, rfl, rfl⟩, .inr ⟨5, .head _, _, rfl, rfl, rfl⟩,  trivial⟩, trivial⟩, ⟨⟨.inr ⟨7, .tail _ (.head _), _, rfl, rfl, rfl⟩, .inr ⟨5, .head _, _, rfl, rfl, rfl⟩,  trivial⟩, trivial⟩, ⟨⟨.inr ⟨8, .tail _ (.head _), _, rfl, rfl, rfl⟩, .inr ⟨5, .head _, _, rfl, rfl, rfl⟩,  trivial⟩, trivial⟩, ⟨⟨.inl rfl, .inr ⟨9, .head _, _, rfl, rfl, rfl⟩,  trivial⟩, ⟨.inl rfl,  trivial⟩⟩, ⟨⟨.inr ⟨10, .tail _ (.head _), _, rfl, rfl, rfl⟩, .inr ⟨9, .head _, _, rfl, rfl, rfl⟩,  trivial⟩, trivial⟩, ⟨⟨.inl rfl, .inr ⟨9, .head _, _, rfl, rfl, rfl⟩,  trivial⟩, ⟨.inl rfl,  trivial⟩⟩, ⟨⟨.inr ⟨12, .tail _ (.head _), _, rfl, rfl, rfl⟩, .inr ⟨9, .head _, _, rfl, rfl, rfl⟩,  trivial⟩, ⟨.inl rfl,  trivial⟩⟩, ⟨⟨.inl rfl, .inr ⟨9, .head _, _, rfl, rfl, rfl⟩,  trivial⟩, ⟨.inl rfl,  trivial⟩⟩, ⟨⟨.inr ⟨14, .tail _ (.head _), _, rfl, rfl, rfl⟩, .inr ⟨9, .head _, _, rfl, rfl, rfl⟩,  trivial⟩, ⟨.inl rfl,  trivial⟩⟩, ⟨⟨.inr ⟨13, .tail _ (.head _), _, rfl, rfl, rfl⟩, .inr ⟨15, .tail _ (.tail _ (.head _)), _, rfl, rfl, rfl⟩, .inr ⟨9, .head _, _, rfl, rfl, rfl⟩,  trivial⟩, trivial⟩, ⟨⟨.inr ⟨11, .tail _ (.head _), _, rfl, rfl, rfl⟩, .inr ⟨16, .tail _ (.tail _ (.head _)), _, rfl, rfl, rfl⟩, .inr ⟨9, .head _, _, rfl, rfl, rfl⟩,  trivial⟩, trivial⟩, ⟨⟨.inr ⟨9, .tail _ (.head _), _, rfl, rfl, rfl⟩, .inr ⟨17, .tail _ (.tail _ (.head _)), _, rfl, rfl, rfl⟩, .inr ⟨5, .head _, _, rfl, rfl, rfl⟩,  trivial⟩, trivial⟩, ⟨⟨.inr ⟨5, .head _, _, rfl, rfl, rfl⟩, .inr ⟨18, .tail _ (.head _), _, rfl, rfl, rfl⟩,  trivial⟩, trivial⟩,  trivial⟩
    · exact ⟨⟨.inl rfl, .inl rfl, .inl rfl, .inl rfl, .inl rfl, .inr ⟨19, _, rfl, rfl, rfl⟩,  trivial⟩, ⟨.inl rfl,  trivial⟩⟩
    ·
      refine AL.nil ?_
      refine then_ok ?_
      refine AC.cond rfl (fun hno => by cases hno) (fun _ => ?_)
      refine AC.skip ?_
      refine then_ok ?_
      refine AC.seq ?_
      refine AC.region ?_
      refine AL.val (Wanted.plain rfl) (g_loadBs rfl rfl rfl Try.underlying92 rfl sz92 rfl rfl) rfl rfl ?_
      refine AL.fast 2 rfl ?_
      obtain ⟨x2, e2, hr2⟩ : ∃ (x2 : Card) (e2 : Int), allowC c n time = (x2, e2) := ⟨_, _, rfl⟩
      refine AL.call (n' := 2) (h' := [(1, (.arr 44 2 ((x2.uses).map rUse))), (0, (.box 92 [(cI c.money), (cI c.held), (cI c.pace.ticks), (cI c.pace.count), (cI c.pace.sum), (cR 2 ((c.uses).map rUse))]))]) (Wanted.plain rfl) (g_call 1 (c_card_Allow c n time  x2 e2 hr2) en69 rfl rfl ⟨⟨_, rfl, .g ⟨.d _, .d _, .d _, .d _, .d _, .d _,  trivial⟩⟩, ⟨_, rfl, .c (.d _)⟩, ⟨_, rfl, .c (.d _)⟩,  trivial⟩ ⟨⟨trivial, trivial, trivial, trivial, trivial, trivial,  trivial⟩, trivial,  trivial⟩ ⟨(fun _ _ _ _ => trivial),  trivial⟩ rfl rfl rfl rfl) rfl rfl rfl rfl rfl ?_
      refine AL.fast 1 rfl ?_
      refine AL.val (Wanted.plain rfl) (g_extract rfl rfl rfl) rfl rfl ?_
      refine AL.val (Wanted.plain rfl) (g_extract rfl rfl rfl) rfl rfl ?_
      refine AL.new (n' := 3) (Wanted.plain rfl) (g_alloc 2 rfl zv92 rfl rfl rfl) rfl rfl rfl ?_
      refine AL.sto (h' := [(2, (.box 92 [(cI x2.money), (cI x2.held), (cI x2.pace.ticks), (cI x2.pace.count), (cI x2.pace.sum), (.s 1 0 2 x2.uses.length)])), (1, (.arr 44 2 ((x2.uses).map rUse))), (0, (.box 92 [(cI c.money), (cI c.held), (cI c.pace.ticks), (cI c.pace.count), (cI c.pace.sum), (cR 2 ((c.uses).map rUse))]))]) (Wanted.plain rfl) (g_storeB rfl rfl rfl rfl rfl sz92 rfl (Nat.le_of_ble_eq_true rfl) rfl) rfl rfl rfl rfl ?_
      refine AL.fast 1 rfl ?_
      refine AL.nil ?_
      refine then_ok ?_
      refine AC.seq ?_
      refine AC.region ?_
      refine AL.val (Wanted.plain rfl) (g_loadBs rfl rfl rfl Try.underlying92 rfl sz92 rfl rfl) rfl rfl ?_
      refine AL.fast 2 rfl ?_
      refine AL.call (n' := 4) (h' := [(3, (.arr 44 2 ((x2.uses).map rUse))), (2, (.box 92 [(cI x2.money), (cI x2.held), (cI x2.pace.ticks), (cI x2.pace.count), (cI x2.pace.sum), (.s 1 0 2 x2.uses.length)])), (1, (.arr 44 2 ((x2.uses).map rUse))), (0, (.box 92 [(cI c.money), (cI c.held), (cI c.pace.ticks), (cI c.pace.count), (cI c.pace.sum), (cR 2 ((c.uses).map rUse))]))]) (Wanted.plain rfl) (g_call 3 (c_ref_Allow c n time  x2 e2 hr2) en76 rfl rfl ⟨⟨_, rfl, .g ⟨.d _, .d _, .d _, .d _, .d _, .d _,  trivial⟩⟩, ⟨_, rfl, .c (.d _)⟩, ⟨_, rfl, .c (.d _)⟩,  trivial⟩ ⟨⟨trivial, trivial, trivial, trivial, trivial, trivial,  trivial⟩, trivial,  trivial⟩ ⟨(fun _ _ _ _ => trivial),  trivial⟩ rfl rfl rfl rfl) rfl rfl rfl rfl rfl ?_
      refine AL.fast 1 rfl ?_
      refine AL.val (Wanted.plain rfl) (g_extract rfl rfl rfl) rfl rfl ?_
      refine AL.val (Wanted.plain rfl) (g_extract rfl rfl rfl) rfl rfl ?_
      refine AL.new (n' := 5) (Wanted.plain rfl) (g_alloc 4 rfl zv92 rfl rfl rfl) rfl rfl rfl ?_
      refine AL.sto (h' := [(4, (.box 92 [(cI x2.money), (cI x2.held), (cI x2.pace.ticks), (cI x2.pace.count), (cI x2.pace.sum), (.s 3 0 2 x2.uses.length)])), (3, (.arr 44 2 ((x2.uses).map rUse))), (2, (.box 92 [(cI x2.money), (cI x2.held), (cI x2.pace.ticks), (cI x2.pace.count), (cI x2.pace.sum), (.s 1 0 2 x2.uses.length)])), (1, (.arr 44 2 ((x2.uses).map rUse))), (0, (.box 92 [(cI c.money), (cI c.held), (cI c.pace.ticks), (cI c.pace.count), (cI c.pace.sum), (cR 2 ((c.uses).map rUse))]))]) (Wanted.plain rfl) (g_storeB rfl rfl rfl rfl rfl sz92 rfl (Nat.le_of_ble_eq_true rfl) rfl) rfl rfl rfl rfl ?_
      refine AL.fast 1 rfl ?_
      refine AL.nil ?_
      refine then_ok ?_
      refine AC.seq ?_
      obtain ⟨r3, hr3⟩ : ∃ (r3 : Bool), sameC x2 x2 = r3 := ⟨_, rfl⟩
      refine AC.cutB 57 (false || (!r3)) ?_ ?_
      ·
        refine AC.region ?_
        refine AL.fast 2 rfl ?_
        refine AL.val (Wanted.plain rfl) (g_binI rfl rfl rfl (congrArg (fun b => some (Value.bool b)) (decide_eq_false (fun h => h rfl)))) rfl rfl ?_
        refine AL.fast 1 rfl ?_
        refine AL.val (Wanted.yes rfl rfl rfl) (g_loadBs rfl rfl rfl Try.underlying92 rfl sz92 rfl rfl) rfl rfl ?_
        refine AL.val (Wanted.yes rfl rfl rfl) (g_loadBs rfl rfl rfl Try.underlying92 rfl sz92 rfl rfl) rfl rfl ?_
        refine AL.call (n' := 5) (h' := [(4, (.box 92 [(cI x2.money), (cI x2.held), (cI x2.pace.ticks), (cI x2.pace.count), (cI x2.pace.sum), (.s 3 0 2 x2.uses.length)])), (3, (.arr 44 2 ((x2.uses).map rUse))), (2, (.box 92 [(cI x2.money), (cI x2.held), (cI x2.pace.ticks), (cI x2.pace.count), (cI x2.pace.sum), (.s 1 0 2 x2.uses.length)])), (1, (.arr 44 2 ((x2.uses).map rUse))), (0, (.box 92 [(cI c.money), (cI c.held), (cI c.pace.ticks), (cI c.pace.count), (cI c.pace.sum), (cR 2 ((c.uses).map rUse))]))]) (Wanted.yes rfl rfl rfl) (g_callE 5 [1, 3] (c_SameCard x2 x2  r3 hr3) en70 rfl rfl ⟨⟨_, rfl, .g ⟨.d _, .d _, .d _, .d _, .d _, .s rfl (by decide) (by first | omega | (simp; done) | (simp; omega)),  trivial⟩⟩, ⟨_, rfl, .g ⟨.d _, .d _, .d _, .d _, .d _, .s rfl (by decide) (by first | omega | (simp; done) | (simp; omega)),  trivial⟩⟩,  trivial⟩ rfl trivial rfl rfl rfl rfl) rfl rfl rfl rfl rfl ?_
        refine AL.val (Wanted.yes rfl rfl rfl) (g_notB rfl rfl) rfl rfl ?_
        refine AL.fast 1 rfl ?_
        refine AL.nil ?_
        refine then_ok ?_
        exact Weak.popB 9 rfl rfl (by first | (simp []; done) | (simp_all; done) | (exfalso; simp_all; done) | (simp_all; omega)) rfl
      ·
        refine AC.cond rfl (fun hc3 => ?_) (fun hc3 => ?_)
        ·
          have hc3' := hc3; try simp only [sumB, Bool.not_eq_true', Bool.not_eq_false', Bool.or_eq_true, Bool.or_eq_false_iff, Bool.and_eq_true, Bool.and_eq_false_imp, decide_eq_true_eq, decide_eq_false_iff_not, Bool.not_not, Bool.not_true, Bool.not_false] at hc3'
          refine AC.seq ?_
          refine AC.region ?_
          refine AL.fast 1 rfl ?_
          refine AL.nil ?_
          refine then_ok ?_
          refine AC.ret ?_
          refine then_ret ?_
          refine retQ_mk (av' := outOf [(.c (cB false))]) (nb' := []) (retQ_ret ⟨[(10, (aB false))], [], 0⟩ [.tmp 10] [(.c (cB false))] (Weak.ren id (⟨by first | rfl | (simp only [AV.map, GV.map, CV.map, AB.map', id]; done) | (congr 3; omega) | (congr 4; omega) | (simp only [List.length_append, List.length_cons, List.length_nil, List.length_set]; rfl),  trivial⟩) (trivial) rfl) rfl ⟨.tmp rfl, trivial⟩ trivial) ?_ ?_
          · exact congrArg aB (show (false) = true by (exfalso; have h9 := hr3; rw [sameC_self] at h9; subst h9; simp at hc3'))
          · rfl
        ·
          have hc3' := hc3; try simp only [sumB, Bool.not_eq_true', Bool.not_eq_false', Bool.or_eq_true, Bool.or_eq_false_iff, Bool.and_eq_true, Bool.and_eq_false_imp, decide_eq_true_eq, decide_eq_false_iff_not, Bool.not_not, Bool.not_true, Bool.not_false] at hc3'
          refine AC.skip ?_
          refine then_ok ?_
          refine AC.seq ?_
          refine AC.region ?_
          refine AL.val (Wanted.plain rfl) (g_loadBs rfl rfl rfl Try.underlying92 rfl sz92 rfl rfl) rfl rfl ?_
          refine AL.fast 1 rfl ?_
          obtain ⟨x4, e4, hr4⟩ : ∃ (x4 : Card) (e4 : Int), forceC c n = (x4, e4) := ⟨_, _, rfl⟩
          refine AL.call (n' := 6) (h' := [(5, (.arr 44 2 ((x4.uses).map rUse))), (4, (.box 92 [(cI x2.money), (cI x2.held), (cI x2.pace.ticks), (cI x2.pace.count), (cI x2.pace.sum), (.s 3 0 2 x2.uses.length)])), (3, (.arr 44 2 ((x2.uses).map rUse))), (2, (.box 92 [(cI x2.money), (cI x2.held), (cI x2.pace.ticks), (cI x2.pace.count), (cI x2.pace.sum), (.s 1 0 2 x2.uses.length)])), (1, (.arr 44 2 ((x2.uses).map rUse))), (0, (.box 92 [(cI c.money), (cI c.held), (cI c.pace.ticks), (cI c.pace.count), (cI c.pace.sum), (cR 2 ((c.uses).map rUse))]))]) (Wanted.plain rfl) (g_call 5 (c_card_Force c n  x4 e4 hr4) en73 rfl rfl ⟨⟨_, rfl, .g ⟨.d _, .d _, .d _, .d _, .d _, .d _,  trivial⟩⟩, ⟨_, rfl, .c (.d _)⟩,  trivial⟩ ⟨⟨trivial, trivial, trivial, trivial, trivial, trivial,  trivial⟩, trivial,  trivial⟩ ⟨(fun _ _ _ _ => trivial),  trivial⟩ rfl rfl rfl rfl) rfl rfl rfl rfl rfl ?_
          refine AL.fast 1 rfl ?_
          refine AL.val (Wanted.plain rfl) (g_extract rfl rfl rfl) rfl rfl ?_
          refine AL.val (Wanted.plain rfl) (g_extract rfl rfl rfl) rfl rfl ?_
          refine AL.sto (h' := [(5, (.arr 44 2 ((x4.uses).map rUse))), (4, (.box 92 [(cI x2.money), (cI x2.held), (cI x2.pace.ticks), (cI x2.pace.count), (cI x2.pace.sum), (.s 3 0 2 x2.uses.length)])), (3, (.arr 44 2 ((x2.uses).map rUse))), (2, (.box 92 [(cI x4.money), (cI x4.held), (cI x4.pace.ticks), (cI x4.pace.count), (cI x4.pace.sum), (.s 5 0 2 x4.uses.length)])), (1, (.arr 44 2 ((x2.uses).map rUse))), (0, (.box 92 [(cI c.money), (cI c.held), (cI c.pace.ticks), (cI c.pace.count), (cI c.pace.sum), (cR 2 ((c.uses).map rUse))]))]) (Wanted.plain rfl) (g_storeB rfl rfl rfl rfl rfl sz92 rfl (Nat.le_of_ble_eq_true rfl) rfl) rfl rfl rfl rfl ?_
          refine AL.fast 1 rfl ?_
          refine AL.nil ?_
          refine then_ok ?_
          refine AC.seq ?_
          refine AC.region ?_
          refine AL.val (Wanted.plain rfl) (g_loadBs rfl rfl rfl Try.underlying92 rfl sz92 rfl rfl) rfl rfl ?_
          refine AL.fast 1 rfl ?_
          refine AL.call (n' := 6) (h' := [(5, (.arr 44 2 ((x4.uses).map rUse))), (4, (.box 92 [(cI x2.money), (cI x2.held), (cI x2.pace.ticks), (cI x2.pace.count), (cI x2.pace.sum), (.s 3 0 2 x2.uses.length)])), (3, (.arr 44 2 ((x2.uses).map rUse))), (2, (.box 92 [(cI x4.money), (cI x4.held), (cI x4.pace.ticks), (cI x4.pace.count), (cI x4.pace.sum), (.s 5 0 2 x4.uses.length)])), (1, (.arr 44 2 ((x2.uses).map rUse))), (0, (.box 92 [(cI c.money), (cI c.held), (cI c.pace.ticks), (cI c.pace.count), (cI c.pace.sum), (cR 2 ((c.uses).map rUse))]))]) (Wanted.plain rfl) (g_call 6 (c_ref_Force c n  x4 e4 hr4) en77 rfl rfl ⟨⟨_, rfl, .g ⟨.d _, .d _, .d _, .d _, .d _, .d _,  trivial⟩⟩, ⟨_, rfl, .c (.d _)⟩,  trivial⟩ ⟨⟨trivial, trivial, trivial, trivial, trivial, trivial,  trivial⟩, trivial,  trivial⟩ trivial rfl rfl rfl rfl) rfl rfl rfl rfl rfl ?_
          refine AL.fast 1 rfl ?_
          refine AL.val (Wanted.plain rfl) (g_extract rfl rfl rfl) rfl rfl ?_
          refine AL.val (Wanted.plain rfl) (g_extract rfl rfl rfl) rfl rfl ?_
          refine AL.sto (h' := [(5, (.arr 44 2 ((x4.uses).map rUse))), (4, (.box 92 [(cI x4.money), (cI x4.held), (cI x4.pace.ticks), (cI x4.pace.count), (cI x4.pace.sum), (cR 2 ((x4.uses).map rUse))])), (3, (.arr 44 2 ((x2.uses).map rUse))), (2, (.box 92 [(cI x4.money), (cI x4.held), (cI x4.pace.ticks), (cI x4.pace.count), (cI x4.pace.sum), (.s 5 0 2 x4.uses.length)])), (1, (.arr 44 2 ((x2.uses).map rUse))), (0, (.box 92 [(cI c.money), (cI c.held), (cI c.pace.ticks), (cI c.pace.count), (cI c.pace.sum), (cR 2 ((c.uses).map rUse))]))]) (Wanted.plain rfl) (g_storeB rfl rfl rfl rfl rfl sz92 rfl (Nat.le_of_ble_eq_true rfl) rfl) rfl rfl rfl rfl ?_
          refine AL.fast 1 rfl ?_
          refine AL.nil ?_
          refine then_ok ?_
          refine AC.seq ?_
          obtain ⟨r5, hr5⟩ : ∃ (r5 : Bool), sameC x4 x4 = r5 := ⟨_, rfl⟩
          refine AC.cutB 78 (false || (!r5)) ?_ ?_
          ·
            refine AC.region ?_
            refine AL.fast 2 rfl ?_
            refine AL.val (Wanted.plain rfl) (g_binI rfl rfl rfl (congrArg (fun b => some (Value.bool b)) (decide_eq_false (fun h => h rfl)))) rfl rfl ?_
            refine AL.fast 1 rfl ?_
            refine AL.val (Wanted.yes rfl rfl rfl) (g_loadBs rfl rfl rfl Try.underlying92 rfl sz92 rfl rfl) rfl rfl ?_
            refine AL.val (Wanted.yes rfl rfl rfl) (g_loadBs rfl rfl rfl Try.underlying92 rfl sz92 rfl rfl) rfl rfl ?_
            refine AL.call (n' := 6) (h' := [(5, (.arr 44 2 ((x4.uses).map rUse))), (4, (.box 92 [(cI x4.money), (cI x4.held), (cI x4.pace.ticks), (cI x4.pace.count), (cI x4.pace.sum), (cR 2 ((x4.uses).map rUse))])), (3, (.arr 44 2 ((x2.uses).map rUse))), (2, (.box 92 [(cI x4.money), (cI x4.held), (cI x4.pace.ticks), (cI x4.pace.count), (cI x4.pace.sum), (.s 5 0 2 x4.uses.length)])), (1, (.arr 44 2 ((x2.uses).map rUse))), (0, (.box 92 [(cI c.money), (cI c.held), (cI c.pace.ticks), (cI c.pace.count), (cI c.pace.sum), (cR 2 ((c.uses).map rUse))]))]) (Wanted.yes rfl rfl rfl) (g_callE 6 [5] (c_SameCard x4 x4  r5 hr5) en70 rfl rfl ⟨⟨_, rfl, .g ⟨.d _, .d _, .d _, .d _, .d _, .s rfl (by decide) (by first | omega | (simp; done) | (simp; omega)),  trivial⟩⟩, ⟨_, rfl, .g ⟨.d _, .d _, .d _, .d _, .d _, .d _,  trivial⟩⟩,  trivial⟩ rfl trivial rfl rfl rfl rfl) rfl rfl rfl rfl rfl ?_
            refine AL.val (Wanted.yes rfl rfl rfl) (g_notB rfl rfl) rfl rfl ?_
            refine AL.fast 1 rfl ?_
            refine AL.nil ?_
            refine then_ok ?_
            exact Weak.popB 9 rfl rfl (by first | (simp []; done) | (simp_all; done) | (exfalso; simp_all; done) | (simp_all; omega)) rfl
          ·
            refine AC.cond rfl (fun hc4 => ?_) (fun hc4 => ?_)
            ·
              have hc4' := hc4; try simp only [sumB, Bool.not_eq_true', Bool.not_eq_false', Bool.or_eq_true, Bool.or_eq_false_iff, Bool.and_eq_true, Bool.and_eq_false_imp, decide_eq_true_eq, decide_eq_false_iff_not, Bool.not_not, Bool.not_true, Bool.not_false] at hc4'
              refine AC.seq ?_
              refine AC.region ?_
              refine AL.fast 1 rfl ?_
              refine AL.nil ?_
              refine then_ok ?_
              refine AC.ret ?_
              refine then_ret ?_
              refine retQ_mk (av' := outOf [(.c (cB false))]) (nb' := []) (retQ_ret ⟨[(10, (aB false))], [], 0⟩ [.tmp 10] [(.c (cB false))] (Weak.ren id (⟨by first | rfl | (simp only [AV.map, GV.map, CV.map, AB.map', id]; done) | (congr 3; omega) | (congr 4; omega) | (simp only [List.length_append, List.length_cons, List.length_nil, List.length_set]; rfl),  trivial⟩) (trivial) rfl) rfl ⟨.tmp rfl, trivial⟩ trivial) ?_ ?_
              · exact congrArg aB (show (false) = true by (exfalso; have h9 := hr5; rw [sameC_self] at h9; subst h9; simp at hc4'))
              · rfl
            ·
              have hc4' := hc4; try simp only [sumB, Bool.not_eq_true', Bool.not_eq_false', Bool.or_eq_true, Bool.or_eq_false_iff, Bool.and_eq_true, Bool.and_eq_false_imp, decide_eq_true_eq, decide_eq_false_iff_not, Bool.not_not, Bool.not_true, Bool.not_false] at hc4'
              refine AC.skip ?_
              refine then_ok ?_
              refine AC.seq ?_
              refine AC.region ?_
              refine AL.val (Wanted.plain rfl) (g_loadBs rfl rfl rfl Try.underlying92 rfl sz92 rfl rfl) rfl rfl ?_
              refine AL.fast 2 rfl ?_
              obtain ⟨x6, e6, hr6⟩ : ∃ (x6 : Card) (e6 : Int), shiftC c held money = (x6, e6) := ⟨_, _, rfl⟩
              refine AL.call (n' := 7) (h' := [(6, (.arr 44 2 ((x6.uses).map rUse))), (5, (.arr 44 2 ((x4.uses).map rUse))), (4, (.box 92 [(cI x4.money), (cI x4.held), (cI x4.pace.ticks), (cI x4.pace.count), (cI x4.pace.sum), (cR 2 ((x4.uses).map rUse))])), (3, (.arr 44 2 ((x2.uses).map rUse))), (2, (.box 92 [(cI x4.money), (cI x4.held), (cI x4.pace.ticks), (cI x4.pace.count), (cI x4.pace.sum), (.s 5 0 2 x4.uses.length)])), (1, (.arr 44 2 ((x2.uses).map rUse))), (0, (.box 92 [(cI c.money), (cI c.held), (cI c.pace.ticks), (cI c.pace.count), (cI c.pace.sum), (cR 2 ((c.uses).map rUse))]))]) (Wanted.plain rfl) (g_call 6 (c_card_Shift c held money  x6 e6 hr6) en74 rfl rfl ⟨⟨_, rfl, .g ⟨.d _, .d _, .d _, .d _, .d _, .d _,  trivial⟩⟩, ⟨_, rfl, .c (.d _)⟩, ⟨_, rfl, .c (.d _)⟩,  trivial⟩ ⟨⟨trivial, trivial, trivial, trivial, trivial, trivial,  trivial⟩, trivial,  trivial⟩ ⟨(fun _ _ _ _ => trivial),  trivial⟩ rfl rfl rfl rfl) rfl rfl rfl rfl rfl ?_
              refine AL.fast 1 rfl ?_
              refine AL.val (Wanted.plain rfl) (g_extract rfl rfl rfl) rfl rfl ?_
              refine AL.val (Wanted.plain rfl) (g_extract rfl rfl rfl) rfl rfl ?_
              refine AL.sto (h' := [(6, (.arr 44 2 ((x6.uses).map rUse))), (5, (.arr 44 2 ((x4.uses).map rUse))), (4, (.box 92 [(cI x4.money), (cI x4.held), (cI x4.pace.ticks), (cI x4.pace.count), (cI x4.pace.sum), (cR 2 ((x4.uses).map rUse))])), (3, (.arr 44 2 ((x2.uses).map rUse))), (2, (.box 92 [(cI x6.money), (cI x6.held), (cI x6.pace.ticks), (cI x6.pace.count), (cI x6.pace.sum), (.s 6 0 2 x6.uses.length)])), (1, (.arr 44 2 ((x2.uses).map rUse))), (0, (.box 92 [(cI c.money), (cI c.held), (cI c.pace.ticks), (cI c.pace.count), (cI c.pace.sum), (cR 2 ((c.uses).map rUse))]))]) (Wanted.plain rfl) (g_storeB rfl rfl rfl rfl rfl sz92 rfl (Nat.le_of_ble_eq_true rfl) rfl) rfl rfl rfl rfl ?_
              refine AL.fast 1 rfl ?_
              refine AL.nil ?_
              refine then_ok ?_
              refine AC.seq ?_
              refine AC.region ?_
              refine AL.val (Wanted.plain rfl) (g_loadBs rfl rfl rfl Try.underlying92 rfl sz92 rfl rfl) rfl rfl ?_
              refine AL.fast 2 rfl ?_
              refine AL.call (n' := 7) (h' := [(6, (.arr 44 2 ((x6.uses).map rUse))), (5, (.arr 44 2 ((x4.uses).map rUse))), (4, (.box 92 [(cI x4.money), (cI x4.held), (cI x4.pace.ticks), (cI x4.pace.count), (cI x4.pace.sum), (cR 2 ((x4.uses).map rUse))])), (3, (.arr 44 2 ((x2.uses).map rUse))), (2, (.box 92 [(cI x6.money), (cI x6.held), (cI x6.pace.ticks), (cI x6.pace.count), (cI x6.pace.sum), (.s 6 0 2 x6.uses.length)])), (1, (.arr 44 2 ((x2.uses).map rUse))), (0, (.box 92 [(cI c.money), (cI c.held), (cI c.pace.ticks), (cI c.pace.count), (cI c.pace.sum), (cR 2 ((c.uses).map rUse))]))]) (Wanted.plain rfl) (g_call 7 (c_ref_Shift c held money  x6 e6 hr6) en78 rfl rfl ⟨⟨_, rfl, .g ⟨.d _, .d _, .d _, .d _, .d _, .d _,  trivial⟩⟩, ⟨_, rfl, .c (.d _)⟩, ⟨_, rfl, .c (.d _)⟩,  trivial⟩ ⟨⟨trivial, trivial, trivial, trivial, trivial, trivial,  trivial⟩, trivial,  trivial⟩ trivial rfl rfl rfl rfl) rfl rfl rfl rfl rfl ?_
              refine AL.fast 1 rfl ?_
              refine AL.val (Wanted.plain rfl) (g_extract rfl rfl rfl) rfl rfl ?_
              refine AL.val (Wanted.plain rfl) (g_extract rfl rfl rfl) rfl rfl ?_
              refine AL.sto (h' := [(6, (.arr 44 2 ((x6.uses).map rUse))), (5, (.arr 44 2 ((x4.uses).map rUse))), (4, (.box 92 [(cI x6.money), (cI x6.held), (cI x6.pace.ticks), (cI x6.pace.count), (cI x6.pace.sum), (cR 2 ((x6.uses).map rUse))])), (3, (.arr 44 2 ((x2.uses).map rUse))), (2, (.box 92 [(cI x6.money), (cI x6.held), (cI x6.pace.ticks), (cI x6.pace.count), (cI x6.pace.sum), (.s 6 0 2 x6.uses.length)])), (1, (.arr 44 2 ((x2.uses).map rUse))), (0, (.box 92 [(cI c.money), (cI c.held), (cI c.pace.ticks), (cI c.pace.count), (cI c.pace.sum), (cR 2 ((c.uses).map rUse))]))]) (Wanted.plain rfl) (g_storeB rfl rfl rfl rfl rfl sz92 rfl (Nat.le_of_ble_eq_true rfl) rfl) rfl rfl rfl rfl ?_
              refine AL.fast 1 rfl ?_
              refine AL.nil ?_
              refine then_ok ?_
              obtain ⟨r7, hr7⟩ : ∃ (r7 : Bool), sameC x6 x6 = r7 := ⟨_, rfl⟩
              refine AC.cutB 10 (true && r7) ?_ ?_
              ·
                refine AC.region ?_
                refine AL.fast 2 rfl ?_
                refine AL.val (Wanted.plain rfl) (g_binI rfl rfl rfl (congrArg (fun b => some (Value.bool b)) (decide_eq_true rfl))) rfl rfl ?_
                refine AL.fast 1 rfl ?_
                refine AL.val (Wanted.yes rfl rfl rfl) (g_loadBs rfl rfl rfl Try.underlying92 rfl sz92 rfl rfl) rfl rfl ?_
                refine AL.val (Wanted.yes rfl rfl rfl) (g_loadBs rfl rfl rfl Try.underlying92 rfl sz92 rfl rfl) rfl rfl ?_
                refine AL.call (n' := 7) (h' := [(6, (.arr 44 2 ((x6.uses).map rUse))), (5, (.arr 44 2 ((x4.uses).map rUse))), (4, (.box 92 [(cI x6.money), (cI x6.held), (cI x6.pace.ticks), (cI x6.pace.count), (cI x6.pace.sum), (cR 2 ((x6.uses).map rUse))])), (3, (.arr 44 2 ((x2.uses).map rUse))), (2, (.box 92 [(cI x6.money), (cI x6.held), (cI x6.pace.ticks), (cI x6.pace.count), (cI x6.pace.sum), (.s 6 0 2 x6.uses.length)])), (1, (.arr 44 2 ((x2.uses).map rUse))), (0, (.box 92 [(cI c.money), (cI c.held), (cI c.pace.ticks), (cI c.pace.count), (cI c.pace.sum), (cR 2 ((c.uses).map rUse))]))]) (Wanted.yes rfl rfl rfl) (g_callE 7 [6] (c_SameCard x6 x6  r7 hr7) en70 rfl rfl ⟨⟨_, rfl, .g ⟨.d _, .d _, .d _, .d _, .d _, .s rfl (by decide) (by first | omega | (simp; done) | (simp; omega)),  trivial⟩⟩, ⟨_, rfl, .g ⟨.d _, .d _, .d _, .d _, .d _, .d _,  trivial⟩⟩,  trivial⟩ rfl trivial rfl rfl rfl rfl) rfl rfl rfl rfl rfl ?_
                refine AL.fast 2 rfl ?_
                refine AL.nil ?_
                refine then_ok ?_
                exact Weak.popB 9 rfl rfl (by first | (simp []; done) | (simp_all; done) | (exfalso; simp_all; done) | (simp_all; omega)) rfl
              ·
                refine AC.ret ?_
                refine retQ_mk (av' := outOf [(.c (cB (true && r7)))]) (nb' := []) (retQ_ret ⟨[(10, (aB (true && r7)))], [], 0⟩ [.tmp 10] [(.c (cB (true && r7)))] (Weak.ren id (⟨by first | rfl | (simp only [AV.map, GV.map, CV.map, AB.map', id]; done) | (congr 3; omega) | (congr 4; omega) | (simp only [List.length_append, List.length_cons, List.length_nil, List.length_set]; rfl),  trivial⟩) (trivial) rfl) rfl ⟨.tmp rfl, trivial⟩ trivial) ?_ ?_
                · exact congrArg aB (show (true && r7) = true by (have h9 := hr7; rw [sameC_self] at h9; subst h9; simp))
                · rfl
  ·
    have hb1' := hb1; try simp only [sumB, Bool.not_eq_true', Bool.not_eq_false', Bool.or_eq_true, Bool.or_eq_false_iff, Bool.and_eq_true, Bool.and_eq_false_imp, decide_eq_true_eq, decide_eq_false_iff_not, Bool.not_not, Bool.not_true, Bool.not_false] at hb1'
    refine AC.weak (st' := ⟨[(1, (aI n)), (2, (aI time)), (3, (aI held)), (4, (aI money)), (5, (aC (.p 0 0 0 0)))], [(0, (.box 92 [(cI c.money), (cI c.held), (cI c.pace.ticks), (cI c.pace.count), (cI c.pace.sum), (cR 2 ((c.uses).map rUse))]))], 1⟩) (Weak.ren id (⟨by first | rfl | (simp only [AV.map, GV.map, CV.map, AB.map', id]; done) | (congr 3; omega) | (congr 4; omega) | (simp only [List.length_append, List.length_cons, List.length_nil, List.length_set]; rfl), by first | rfl | (simp only [AV.map, GV.map, CV.map, AB.map', id]; done) | (congr 3; omega) | (congr 4; omega) | (simp only [List.length_append, List.length_cons, List.length_nil, List.length_set]; rfl), by first | rfl | (simp only [AV.map, GV.map, CV.map, AB.map', id]; done) | (congr 3; omega) | (congr 4; omega) | (simp only [List.length_append, List.length_cons, List.length_nil, List.length_set]; rfl), by first | rfl | (simp only [AV.map, GV.map, CV.map, AB.map', id]; done) | (congr 3; omega) | (congr 4; omega) | (simp only [List.length_append, List.length_cons, List.length_nil, List.length_set]; rfl), by first | rfl | (simp only [AV.map, GV.map, CV.map, AB.map', id]; done) | (congr 3; omega) | (congr 4; omega) | (simp only [List.length_append, List.length_cons, List.length_nil, List.length_set]; rfl),  trivial⟩) (⟨by first | rfl | (simp only [AV.map, GV.map, CV.map, AB.map', id]; done) | (congr 3; omega) | (congr 4; omega) | (simp only [List.length_append, List.length_cons, List.length_nil, List.length_set]; rfl),  trivial⟩) rfl) ?_
    refine AC.draw [⟨some 15, (aG [(cI c.money), (cI c.held), (cI c.pace.ticks), (cI c.pace.count), (cI c.pace.sum), (cR 2 ((c.uses).map rUse))]), [], [], [], [(5, (aC (.p 0 0 0 0)))], [(0, (.box 92 [(cI c.money), (cI c.held), (cI c.pace.ticks), (cI c.pace.count), (cI c.pace.sum), (cR 2 ((c.uses).map rUse))]))]⟩,
      ⟨some 16, (aI e1), [], [], [0], [(15, (aG [(cI c.money), (cI c.held), (cI c.pace.ticks), (cI c.pace.count), (cI c.pace.sum), (cR 2 ((c.uses).map rUse))]))], []⟩,
      ⟨some 17, (aG [(cI c.money), (cI c.held), (cI c.pace.ticks), (cI c.pace.count), (cI c.pace.sum), (cR 2 ((c.uses).map rUse))]), [], [], [], [(5, (aC (.p 0 0 0 0)))], [(0, (.box 92 [(cI c.money), (cI c.held), (cI c.pace.ticks), (cI c.pace.count), (cI c.pace.sum), (cR 2 ((c.uses).map rUse))]))]⟩,
      ⟨some 18, (aI e1), [], [], [2], [(17, (aG [(cI c.money), (cI c.held), (cI c.pace.ticks), (cI c.pace.count), (cI c.pace.sum), (cR 2 ((c.uses).map rUse))]))], []⟩,
      ⟨some 19, (aB false), [], [], [1, 3], [(16, (aI e1)), (18, (aI e1))], []⟩,
      ⟨some 20, (aB false), [], [], [4], [(19, (aB false))], []⟩,
      ⟨some 21, (aG [(cI c.money), (cI c.held), (cI c.pace.ticks), (cI c.pace.count), (cI c.pace.sum), (cR 2 ((c.uses).map rUse))]), [], [], [5], [(5, (aC (.p 0 0 0 0))), (20, (aB false))], [(0, (.box 92 [(cI c.money), (cI c.held), (cI c.pace.ticks), (cI c.pace.count), (cI c.pace.sum), (cR 2 ((c.uses).map rUse))]))]⟩,
      ⟨some 22, (aI e1), [], [], [5, 6], [(21, (aG [(cI c.money), (cI c.held), (cI c.pace.ticks), (cI c.pace.count), (cI c.pace.sum), (cR 2 ((c.uses).map rUse))])), (20, (aB false))], []⟩,
      ⟨some 23, (aB false), [], [], [5, 7], [(22, (aI e1)), (20, (aB false))], []⟩,
      ⟨some 24, (aB false), [], [], [5, 8], [(23, (aB false)), (20, (aB false))], []⟩,
      ⟨some 25, (.t []), [], [], [9], [(5, (aC (.p 0 0 0 0))), (24, (aB false))], []⟩,
      ⟨some 26, (.t []), [], [], [9, 10], [(25, (.t [])), (24, (aB false))], []⟩,
      ⟨some 27, (.t []), [], [], [9], [(5, (aC (.p 0 0 0 0))), (24, (aB false))], []⟩,
      ⟨some 28, (.t []), [], [], [9, 12], [(27, (.t [])), (24, (aB false))], []⟩,
      ⟨some 29, (.t []), [], [], [9], [(5, (aC (.p 0 0 0 0))), (24, (aB false))], []⟩,
      ⟨some 30, (.t []), [], [], [9, 14], [(29, (.t [])), (24, (aB false))], []⟩,
      ⟨some 31, (.t []), [], [], [9, 13, 15], [(28, (.t [])), (30, (.t [])), (24, (aB false))], []⟩,
      ⟨some 32, (.t []), [], [], [9, 11, 16], [(26, (.t [])), (31, (.t [])), (24, (aB false))], []⟩,
      ⟨some 33, (aB false), [], [], [5, 9, 17], [(24, (aB false)), (32, (.t [])), (20, (aB false))], []⟩,
      ⟨some 34, (aB false), [], [], [5, 18], [(20, (aB false)), (33, (aB false))], []⟩] ⟨[(1, (aI n)), (2, (aI time)), (3, (aI held)), (4, (aI money)), (5, (aC (.p 0 0 0 0))), (34, (aB false))], [(0, (.box 92 [(cI c.money), (cI c.held), (cI c.pace.ticks), (cI c.pace.count), (cI c.pace.sum), (cR 2 ((c.uses).map rUse))]))], 1⟩ mixed (by kernel_rfl) ?_ ?_ ?_ ?_
    · exact ⟨.inl ⟨(Wanted.plain rfl), GOp.cast (g_loadBs rfl rfl rfl Try.underlying92 rfl sz92 rfl rfl) rfl⟩,
      .inl ⟨(Wanted.plain rfl), GOp.cast (g_call 1 (c_card_Wrong c  e1 hr1) en72 rfl rfl ⟨⟨_, rfl, .g ⟨.d _, .d _, .d _, .d _, .d _, .d _,  trivial⟩⟩,  trivial⟩ trivial trivial rfl rfl rfl rfl) rfl⟩,
      .inl ⟨(Wanted.plain rfl), GOp.cast (g_loadBs rfl rfl rfl Try.underlying92 rfl sz92 rfl rfl) rfl⟩,
      .inl ⟨(Wanted.plain rfl), GOp.cast (g_call 1 (c_ref_WrongCard c  e1 hr1) en75 rfl rfl ⟨⟨_, rfl, .g ⟨.d _, .d _, .d _, .d _, .d _, .d _,  trivial⟩⟩,  trivial⟩ trivial trivial rfl rfl rfl rfl) rfl⟩,
      .inl ⟨(Wanted.plain rfl), GOp.cast (g_binI rfl rfl rfl (congrArg (fun b => some (Value.bool b)) (decide_eq_false (fun h => h rfl)))) rfl⟩,
      .inl ⟨(Wanted.plain rfl), GOp.cast (g_move rfl rfl) rfl⟩,
      .inl ⟨(Wanted.yes rfl rfl rfl), GOp.cast (g_loadBs rfl rfl rfl Try.underlying92 rfl sz92 rfl rfl) rfl⟩,
      .inl ⟨(Wanted.yes rfl rfl rfl), GOp.cast (g_call 1 (c_ref_WrongCard c  e1 hr1) en75 rfl rfl ⟨⟨_, rfl, .g ⟨.d _, .d _, .d _, .d _, .d _, .d _,  trivial⟩⟩,  trivial⟩ trivial trivial rfl rfl rfl rfl) rfl⟩,
      .inl ⟨(Wanted.yes rfl rfl rfl), GOp.cast (g_binI rfl rfl rfl (congrArg (fun b => some (Value.bool b)) hb1)) rfl⟩,
      .inl ⟨(Wanted.yes rfl rfl rfl), GOp.cast (g_move rfl rfl) rfl⟩,
      .inr ⟨(Unwanted.no rfl rfl rfl), rfl, rfl, rfl⟩,
      .inr ⟨(Unwanted.no rfl rfl rfl), rfl, rfl, rfl⟩,
      .inr ⟨(Unwanted.no rfl rfl rfl), rfl, rfl, rfl⟩,
      .inr ⟨(Unwanted.no rfl rfl rfl), rfl, rfl, rfl⟩,
      .inr ⟨(Unwanted.no rfl rfl rfl), rfl, rfl, rfl⟩,
      .inr ⟨(Unwanted.no rfl rfl rfl), rfl, rfl, rfl⟩,
      .inr ⟨(Unwanted.no rfl rfl rfl), rfl, rfl, rfl⟩,
      .inr ⟨(Unwanted.no rfl rfl rfl), rfl, rfl, rfl⟩,
      .inl ⟨(Wanted.yes rfl rfl rfl), GOp.cast (g_pick rfl rfl rfl) rfl⟩,
      .inl ⟨(Wanted.plain rfl), GOp.cast (g_pick rfl rfl rfl) rfl⟩,
       trivial⟩
    · exact ⟨⟨⟨.inl rfl,  trivial⟩, ⟨.inl rfl,  trivial⟩⟩, ⟨⟨.inr ⟨0, .head _, _, rfl, rfl, rfl⟩,  trivial⟩, trivial⟩, ⟨⟨.inl rfl,  trivial⟩, ⟨.inl rfl,  trivial⟩⟩, ⟨⟨.inr ⟨2, .head _, _, rfl, rfl, rfl⟩,  trivial⟩, trivial⟩, ⟨⟨.inr ⟨1, .head _, _, rfl, rfl, rfl⟩, .inr ⟨3, .tail _ (.head _), _, rfl, rfl, rfl⟩,  trivial⟩, trivial⟩, ⟨⟨.inr ⟨4, .head _, _, rfl, rfl, rfl⟩,  trivial⟩, trivial⟩, ⟨⟨.inl rfl, .inr ⟨5, .head _, _, rfl, rfl, rfl⟩,  trivial⟩, ⟨.inl rfl,  trivial⟩⟩, ⟨⟨.inr ⟨6, .tail _ (.head _), _, rfl, rfl, rfl⟩, .inr ⟨5, .head _, _, rfl, rfl, rfl⟩,  trivial⟩, trivial⟩, ⟨⟨.inr ⟨7, .tail _ (.head _), _, rfl, rfl, rfl⟩, .inr ⟨5, .head _, _, rfl, rfl, rfl⟩,  trivial⟩, trivial⟩, ⟨⟨.inr ⟨8, .tail _ (.head _), _, rfl, rfl, rfl⟩, .inr ⟨5, .head _, _, rfl, rfl, rfl⟩,  trivial⟩, trivial⟩, ⟨⟨.inl rfl, .inr ⟨9, .head _, _, rfl, rfl, rfl⟩,  trivial⟩, trivial⟩, ⟨⟨.inr ⟨10, .tail _ (.head _), _, rfl, rfl, rfl⟩, .inr ⟨9, .head _, _, rfl, rfl, rfl⟩,  trivial⟩, trivial⟩, ⟨⟨.inl rfl, .inr ⟨9, .head _, _, rfl, rfl, rfl⟩,  trivial⟩, trivial⟩, ⟨⟨.inr ⟨12, .tail _ (.head _), _, rfl, rfl, rfl⟩, .inr ⟨9, .head _, _, rfl, rfl, rfl⟩,  trivial⟩, trivial⟩, ⟨⟨.inl rfl, .inr ⟨9, .head _, _, rfl, rfl, rfl⟩,  trivial⟩, trivial⟩, ⟨⟨.inr ⟨14, .tail _ (.head _), _, rfl, rfl, rfl⟩, .inr ⟨9, .head _, _, rfl, rfl, rfl⟩,  trivial⟩, trivial⟩, ⟨⟨.inr ⟨13, .tail _ (.head _), _, rfl, rfl, rfl⟩, .inr ⟨15, .tail _ (.tail _ (.head _)), _, rfl, rfl, rfl⟩, .inr ⟨9, .head _, _, rfl, rfl, rfl⟩,  trivial⟩, trivial⟩, ⟨⟨.inr ⟨11, .tail _ (.head _), _, rfl, rfl, rfl⟩, .inr ⟨16, .tail _ (.tail _ (.head _)), _, rfl, rfl, rfl⟩, .inr ⟨9, .head _, _, rfl, rfl, rfl⟩,  trivial⟩, trivial⟩, ⟨⟨.inr ⟨9, .tail _ (.head _), _, rfl, rfl, rfl⟩, .inr ⟨17, .tail _ (.tail _ (.head _)), _, rfl, rfl, rfl⟩, .inr ⟨5, .head _, _, rfl, rfl, rfl⟩,  trivial⟩, trivial⟩, ⟨⟨.inr ⟨5, .head _, _, rfl, rfl, rfl⟩, .inr ⟨18, .tail _ (.head _), _, rfl, rfl, rfl⟩,  trivial⟩, trivial⟩,  trivial⟩
    · exact ⟨⟨.inl rfl, .inl rfl, .inl rfl, .inl rfl, .inl rfl, .inr ⟨19, _, rfl, rfl, rfl⟩,  trivial⟩, ⟨.inl rfl,  trivial⟩⟩
    ·
      refine AL.nil ?_
      refine then_ok ?_
      refine AC.cond rfl (fun hno => by cases hno) (fun _ => ?_)
      refine AC.skip ?_
      refine then_ok ?_
      refine AC.seq ?_
      refine AC.region ?_
      refine AL.val (Wanted.plain rfl) (g_loadBs rfl rfl rfl Try.underlying92 rfl sz92 rfl rfl) rfl rfl ?_
      refine AL.fast 2 rfl ?_
      obtain ⟨x8, e8, hr8⟩ : ∃ (x8 : Card) (e8 : Int), allowC c n time = (x8, e8) := ⟨_, _, rfl⟩
      refine AL.call (n' := 2) (h' := [(1, (.arr 44 2 ((x8.uses).map rUse))), (0, (.box 92 [(cI c.money), (cI c.held), (cI c.pace.ticks), (cI c.pace.count), (cI c.pace.sum), (cR 2 ((c.uses).map rUse))]))]) (Wanted.plain rfl) (g_call 1 (c_card_Allow c n time  x8 e8 hr8) en69 rfl rfl ⟨⟨_, rfl, .g ⟨.d _, .d _, .d _, .d _, .d _, .d _,  trivial⟩⟩, ⟨_, rfl, .c (.d _)⟩, ⟨_, rfl, .c (.d _)⟩,  trivial⟩ ⟨⟨trivial, trivial, trivial, trivial, trivial, trivial,  trivial⟩, trivial,  trivial⟩ ⟨(fun _ _ _ _ => trivial),  trivial⟩ rfl rfl rfl rfl) rfl rfl rfl rfl rfl ?_
      refine AL.fast 1 rfl ?_
      refine AL.val (Wanted.plain rfl) (g_extract rfl rfl rfl) rfl rfl ?_
      refine AL.val (Wanted.plain rfl) (g_extract rfl rfl rfl) rfl rfl ?_
      refine AL.new (n' := 3) (Wanted.plain rfl) (g_alloc 2 rfl zv92 rfl rfl rfl) rfl rfl rfl ?_
      refine AL.sto (h' := [(2, (.box 92 [(cI x8.money), (cI x8.held), (cI x8.pace.ticks), (cI x8.pace.count), (cI x8.pace.sum), (.s 1 0 2 x8.uses.length)])), (1, (.arr 44 2 ((x8.uses).map rUse))), (0, (.box 92 [(cI c.money), (cI c.held), (cI c.pace.ticks), (cI c.pace.count), (cI c.pace.sum), (cR 2 ((c.uses).map rUse))]))]) (Wanted.plain rfl) (g_storeB rfl rfl rfl rfl rfl sz92 rfl (Nat.le_of_ble_eq_true rfl) rfl) rfl rfl rfl rfl ?_
      refine AL.fast 1 rfl ?_
      refine AL.nil ?_
      refine then_ok ?_
      refine AC.seq ?_
      refine AC.region ?_
      refine AL.val (Wanted.plain rfl) (g_loadBs rfl rfl rfl Try.underlying92 rfl sz92 rfl rfl) rfl rfl ?_
      refine AL.fast 2 rfl ?_
      refine AL.call (n' := 4) (h' := [(3, (.arr 44 2 ((x8.uses).map rUse))), (2, (.box 92 [(cI x8.money), (cI x8.held), (cI x8.pace.ticks), (cI x8.pace.count), (cI x8.pace.sum), (.s 1 0 2 x8.uses.length)])), (1, (.arr 44 2 ((x8.uses).map rUse))), (0, (.box 92 [(cI c.money), (cI c.held), (cI c.pace.ticks), (cI c.pace.count), (cI c.pace.sum), (cR 2 ((c.uses).map rUse))]))]) (Wanted.plain rfl) (g_call 3 (c_ref_Allow c n time  x8 e8 hr8) en76 rfl rfl ⟨⟨_, rfl, .g ⟨.d _, .d _, .d _, .d _, .d _, .d _,  trivial⟩⟩, ⟨_, rfl, .c (.d _)⟩, ⟨_, rfl, .c (.d _)⟩,  trivial⟩ ⟨⟨trivial, trivial, trivial, trivial, trivial, trivial,  trivial⟩, trivial,  trivial⟩ ⟨(fun _ _ _ _ => trivial),  trivial⟩ rfl rfl rfl rfl) rfl rfl rfl rfl rfl ?_
      refine AL.fast 1 rfl ?_
      refine AL.val (Wanted.plain rfl) (g_extract rfl rfl rfl) rfl rfl ?_
      refine AL.val (Wanted.plain rfl) (g_extract rfl rfl rfl) rfl rfl ?_
      refine AL.new (n' := 5) (Wanted.plain rfl) (g_alloc 4 rfl zv92 rfl rfl rfl) rfl rfl rfl ?_
      refine AL.sto (h' := [(4, (.box 92 [(cI x8.money), (cI x8.held), (cI x8.pace.ticks), (cI x8.pace.count), (cI x8.pace.sum), (.s 3 0 2 x8.uses.length)])), (3, (.arr 44 2 ((x8.uses).map rUse))), (2, (.box 92 [(cI x8.money), (cI x8.held), (cI x8.pace.ticks), (cI x8.pace.count), (cI x8.pace.sum), (.s 1 0 2 x8.uses.length)])), (1, (.arr 44 2 ((x8.uses).map rUse))), (0, (.box 92 [(cI c.money), (cI c.held), (cI c.pace.ticks), (cI c.pace.count), (cI c.pace.sum), (cR 2 ((c.uses).map rUse))]))]) (Wanted.plain rfl) (g_storeB rfl rfl rfl rfl rfl sz92 rfl (Nat.le_of_ble_eq_true rfl) rfl) rfl rfl rfl rfl ?_
      refine AL.fast 1 rfl ?_
      refine AL.nil ?_
      refine then_ok ?_
      refine AC.seq ?_
      obtain ⟨r9, hr9⟩ : ∃ (r9 : Bool), sameC x8 x8 = r9 := ⟨_, rfl⟩
      refine AC.cutB 57 (false || (!r9)) ?_ ?_
      ·
        refine AC.region ?_
        refine AL.fast 2 rfl ?_
        refine AL.val (Wanted.plain rfl) (g_binI rfl rfl rfl (congrArg (fun b => some (Value.bool b)) (decide_eq_false (fun h => h rfl)))) rfl rfl ?_
        refine AL.fast 1 rfl ?_
        refine AL.val (Wanted.yes rfl rfl rfl) (g_loadBs rfl rfl rfl Try.underlying92 rfl sz92 rfl rfl) rfl rfl ?_
        refine AL.val (Wanted.yes rfl rfl rfl) (g_loadBs rfl rfl rfl Try.underlying92 rfl sz92 rfl rfl) rfl rfl ?_
        refine AL.call (n' := 5) (h' := [(4, (.box 92 [(cI x8.money), (cI x8.held), (cI x8.pace.ticks), (cI x8.pace.count), (cI x8.pace.sum), (.s 3 0 2 x8.uses.length)])), (3, (.arr 44 2 ((x8.uses).map rUse))), (2, (.box 92 [(cI x8.money), (cI x8.held), (cI x8.pace.ticks), (cI x8.pace.count), (cI x8.pace.sum), (.s 1 0 2 x8.uses.length)])), (1, (.arr 44 2 ((x8.uses).map rUse))), (0, (.box 92 [(cI c.money), (cI c.held), (cI c.pace.ticks), (cI c.pace.count), (cI c.pace.sum), (cR 2 ((c.uses).map rUse))]))]) (Wanted.yes rfl rfl rfl) (g_callE 5 [1, 3] (c_SameCard x8 x8  r9 hr9) en70 rfl rfl ⟨⟨_, rfl, .g ⟨.d _, .d _, .d _, .d _, .d _, .s rfl (by decide) (by first | omega | (simp; done) | (simp; omega)),  trivial⟩⟩, ⟨_, rfl, .g ⟨.d _, .d _, .d _, .d _, .d _, .s rfl (by decide) (by first | omega | (simp; done) | (simp; omega)),  trivial⟩⟩,  trivial⟩ rfl trivial rfl rfl rfl rfl) rfl rfl rfl rfl rfl ?_
        refine AL.val (Wanted.yes rfl rfl rfl) (g_notB rfl rfl) rfl rfl ?_
        refine AL.fast 1 rfl ?_
        refine AL.nil ?_
        refine then_ok ?_
        exact Weak.popB 9 rfl rfl (by first | (simp []; done) | (simp_all; done) | (exfalso; simp_all; done) | (simp_all; omega)) rfl
      ·
        refine AC.cond rfl (fun hc6 => ?_) (fun hc6 => ?_)
        ·
          have hc6' := hc6; try simp only [sumB, Bool.not_eq_true', Bool.not_eq_false', Bool.or_eq_true, Bool.or_eq_false_iff, Bool.and_eq_true, Bool.and_eq_false_imp, decide_eq_true_eq, decide_eq_false_iff_not, Bool.not_not, Bool.not_true, Bool.not_false] at hc6'
          refine AC.seq ?_
          refine AC.region ?_
          refine AL.fast 1 rfl ?_
          refine AL.nil ?_
          refine then_ok ?_
          refine AC.ret ?_
          refine then_ret ?_
          refine retQ_mk (av' := outOf [(.c (cB false))]) (nb' := []) (retQ_ret ⟨[(10, (aB false))], [], 0⟩ [.tmp 10] [(.c (cB false))] (Weak.ren id (⟨by first | rfl | (simp only [AV.map, GV.map, CV.map, AB.map', id]; done) | (congr 3; omega) | (congr 4; omega) | (simp only [List.length_append, List.length_cons, List.length_nil, List.length_set]; rfl),  trivial⟩) (trivial) rfl) rfl ⟨.tmp rfl, trivial⟩ trivial) ?_ ?_
          · exact congrArg aB (show (false) = true by (exfalso; have h9 := hr9; rw [sameC_self] at h9; subst h9; simp at hc6'))
          · rfl
        ·
          have hc6' := hc6; try simp only [sumB, Bool.not_eq_true', Bool.not_eq_false', Bool.or_eq_true, Bool.or_eq_false_iff, Bool.and_eq_true, Bool.and_eq_false_imp, decide_eq_true_eq, decide_eq_false_iff_not, Bool.not_not, Bool.not_true, Bool.not_false] at hc6'
          refine AC.skip ?_
          refine then_ok ?_
          refine AC.seq ?_
          refine AC.region ?_
          refine AL.val (Wanted.plain rfl) (g_loadBs rfl rfl rfl Try.underlying92 rfl sz92 rfl rfl) rfl rfl ?_
          refine AL.fast 1 rfl ?_
          obtain ⟨x10, e10, hr10⟩ : ∃ (x10 : Card) (e10 : Int), forceC c n = (x10, e10) := ⟨_, _, rfl⟩
          refine AL.call (n' := 6) (h' := [(5, (.arr 44 2 ((x10.uses).map rUse))), (4, (.box 92 [(cI x8.money), (cI x8.held), (cI x8.pace.ticks), (cI x8.pace.count), (cI x8.pace.sum), (.s 3 0 2 x8.uses.length)])), (3, (.arr 44 2 ((x8.uses).map rUse))), (2, (.box 92 [(cI x8.money), (cI x8.held), (cI x8.pace.ticks), (cI x8.pace.count), (cI x8.pace.sum), (.s 1 0 2 x8.uses.length)])), (1, (.arr 44 2 ((x8.uses).map rUse))), (0, (.box 92 [(cI c.money), (cI c.held), (cI c.pace.ticks), (cI c.pace.count), (cI c.pace.sum), (cR 2 ((c.uses).map rUse))]))]) (Wanted.plain rfl) (g_call 5 (c_card_Force c n  x10 e10 hr10) en73 rfl rfl ⟨⟨_, rfl, .g ⟨.d _, .d _, .d _, .d _, .d _, .d _,  trivial⟩⟩, ⟨_, rfl, .c (.d _)⟩,  trivial⟩ ⟨⟨trivial, trivial, trivial, trivial, trivial, trivial,  trivial⟩, trivial,  trivial⟩ ⟨(fun _ _ _ _ => trivial),  trivial⟩ rfl rfl rfl rfl) rfl rfl rfl rfl rfl ?_
          refine AL.fast 1 rfl ?_
          refine AL.val (Wanted.plain rfl) (g_extract rfl rfl rfl) rfl rfl ?_
          refine AL.val (Wanted.plain rfl) (g_extract rfl rfl rfl) rfl rfl ?_
          refine AL.sto (h' := [(5, (.arr 44 2 ((x10.uses).map rUse))), (4, (.box 92 [(cI x8.money), (cI x8.held), (cI x8.pace.ticks), (cI x8.pace.count), (cI x8.pace.sum), (.s 3 0 2 x8.uses.length)])), (3, (.arr 44 2 ((x8.uses).map rUse))), (2, (.box 92 [(cI x10.money), (cI x10.held), (cI x10.pace.ticks), (cI x10.pace.count), (cI x10.pace.sum), (.s 5 0 2 x10.uses.length)])), (1, (.arr 44 2 ((x8.uses).map rUse))), (0, (.box 92 [(cI c.money), (cI c.held), (cI c.pace.ticks), (cI c.pace.count), (cI c.pace.sum), (cR 2 ((c.uses).map rUse))]))]) (Wanted.plain rfl) (g_storeB rfl rfl rfl rfl rfl sz92 rfl (Nat.le_of_ble_eq_true rfl) rfl) rfl rfl rfl rfl ?_
          refine AL.fast 1 rfl ?_
          refine AL.nil ?_
          refine then_ok ?_
          refine AC.seq ?_
          refine AC.region ?_
          refine AL.val (Wanted.plain rfl) (g_loadBs rfl rfl rfl Try.underlying92 rfl sz92 rfl rfl) rfl rfl ?_
          refine AL.fast 1 rfl ?_
          refine AL.call (n' := 6) (h' := [(5, (.arr 44 2 ((x10.uses).map rUse))), (4, (.box 92 [(cI x8.money), (cI x8.held), (cI x8.pace.ticks), (cI x8.pace.count), (cI x8.pace.sum), (.s 3 0 2 x8.uses.length)])), (3, (.arr 44 2 ((x8.uses).map rUse))), (2, (.box 92 [(cI x10.money), (cI x10.held), (cI x10.pace.ticks), (cI x10.pace.count), (cI x10.pace.sum), (.s 5 0 2 x10.uses.length)])), (1, (.arr 44 2 ((x8.uses).map rUse))), (0, (.box 92 [(cI c.money), (cI c.held), (cI c.pace.ticks), (cI c.pace.count), (cI c.pace.sum), (cR 2 ((c.uses).map rUse))]))]) (Wanted.plain rfl) (g_call 6 (c_ref_Force c n  x10 e10 hr10) en77 rfl rfl ⟨⟨_, rfl, .g ⟨.d _, .d _, .d _, .d _, .d _, .d _,  trivial⟩⟩, ⟨_, rfl, .c (.d _)⟩,  trivial⟩ ⟨⟨trivial, trivial, trivial, trivial, trivial, trivial,  trivial⟩, trivial,  trivial⟩ trivial rfl rfl rfl rfl) rfl rfl rfl rfl rfl ?_
          refine AL.fast 1 rfl ?_
          refine AL.val (Wanted.plain rfl) (g_extract rfl rfl rfl) rfl rfl ?_
          refine AL.val (Wanted.plain rfl) (g_extract rfl rfl rfl) rfl rfl ?_
          refine AL.sto (h' := [(5, (.arr 44 2 ((x10.uses).map rUse))), (4, (.box 92 [(cI x10.money), (cI x10.held), (cI x10.pace.ticks), (cI x10.pace.count), (cI x10.pace.sum), (cR 2 ((x10.uses).map rUse))])), (3, (.arr 44 2 ((x8.uses).map rUse))), (2, (.box 92 [(cI x10.money), (cI x10.held), (cI x10.pace.ticks), (cI x10.pace.count), (cI x10.pace.sum), (.s 5 0 2 x10.uses.length)])), (1, (.arr 44 2 ((x8.uses).map rUse))), (0, (.box 92 [(cI c.money), (cI c.held), (cI c.pace.ticks), (cI c.pace.count), (cI c.pace.sum), (cR 2 ((c.uses).map rUse))]))]) (Wanted.plain rfl) (g_storeB rfl rfl rfl rfl rfl sz92 rfl (Nat.le_of_ble_eq_true rfl) rfl) rfl rfl rfl rfl ?_
          refine AL.fast 1 rfl ?_
          refine AL.nil ?_
          refine then_ok ?_
          refine AC.seq ?_
          obtain ⟨r11, hr11⟩ : ∃ (r11 : Bool), sameC x10 x10 = r11 := ⟨_, rfl⟩
          refine AC.cutB 78 (false || (!r11)) ?_ ?_
          ·
            refine AC.region ?_
            refine AL.fast 2 rfl ?_
            refine AL.val (Wanted.plain rfl) (g_binI rfl rfl rfl (congrArg (fun b => some (Value.bool b)) (decide_eq_false (fun h => h rfl)))) rfl rfl ?_
            refine AL.fast 1 rfl ?_
            refine AL.val (Wanted.yes rfl rfl rfl) (g_loadBs rfl rfl rfl Try.underlying92 rfl sz92 rfl rfl) rfl rfl ?_
            refine AL.val (Wanted.yes rfl rfl rfl) (g_loadBs rfl rfl rfl Try.underlying92 rfl sz92 rfl rfl) rfl rfl ?_
            refine AL.call (n' := 6) (h' := [(5, (.arr 44 2 ((x10.uses).map rUse))), (4, (.box 92 [(cI x10.money), (cI x10.held), (cI x10.pace.ticks), (cI x10.pace.count), (cI x10.pace.sum), (cR 2 ((x10.uses).map rUse))])), (3, (.arr 44 2 ((x8.uses).map rUse))), (2, (.box 92 [(cI x10.money), (cI x10.held), (cI x10.pace.ticks), (cI x10.pace.count), (cI x10.pace.sum), (.s 5 0 2 x10.uses.length)])), (1, (.arr 44 2 ((x8.uses).map rUse))), (0, (.box 92 [(cI c.money), (cI c.held), (cI c.pace.ticks), (cI c.pace.count), (cI c.pace.sum), (cR 2 ((c.uses).map rUse))]))]) (Wanted.yes rfl rfl rfl) (g_callE 6 [5] (c_SameCard x10 x10  r11 hr11) en70 rfl rfl ⟨⟨_, rfl, .g ⟨.d _, .d _, .d _, .d _, .d _, .s rfl (by decide) (by first | omega | (simp; done) | (simp; omega)),  trivial⟩⟩, ⟨_, rfl, .g ⟨.d _, .d _, .d _, .d _, .d _, .d _,  trivial⟩⟩,  trivial⟩ rfl trivial rfl rfl rfl rfl) rfl rfl rfl rfl rfl ?_
            refine AL.val (Wanted.yes rfl rfl rfl) (g_notB rfl rfl) rfl rfl ?_
            refine AL.fast 1 rfl ?_
            refine AL.nil ?_
            refine then_ok ?_
            exact Weak.popB 9 rfl rfl (by first | (simp []; done) | (simp_all; done) | (exfalso; simp_all; done) | (simp_all; omega)) rfl
          ·
            refine AC.cond rfl (fun hc7 => ?_) (fun hc7 => ?_)
            ·
              have hc7' := hc7; try simp only [sumB, Bool.not_eq_true', Bool.not_eq_false', Bool.or_eq_true, Bool.or_eq_false_iff, Bool.and_eq_true, Bool.and_eq_false_imp, decide_eq_true_eq, decide_eq_false_iff_not, Bool.not_not, Bool.not_true, Bool.not_false] at hc7'
              refine AC.seq ?_
              refine AC.region ?_
              refine AL.fast 1 rfl ?_
              refine AL.nil ?_
              refine then_ok ?_
              refine AC.ret ?_
              refine then_ret ?_
              refine retQ_mk (av' := outOf [(.c (cB false))]) (nb' := []) (retQ_ret ⟨[(10, (aB false))], [], 0⟩ [.tmp 10] [(.c (cB false))] (Weak.ren id (⟨by first | rfl | (simp only [AV.map, GV.map, CV.map, AB.map', id]; done) | (congr 3; omega) | (congr 4; omega) | (simp only [List.length_append, List.length_cons, List.length_nil, List.length_set]; rfl),  trivial⟩) (trivial) rfl) rfl ⟨.tmp rfl, trivial⟩ trivial) ?_ ?_
              · exact congrArg aB (show (false) = true by (exfalso; have h9 := hr11; rw [sameC_self] at h9; subst h9; simp at hc7'))
              · rfl
            ·
              have hc7' := hc7; try simp only [sumB, Bool.not_eq_true', Bool.not_eq_false', Bool.or_eq_true, Bool.or_eq_false_iff, Bool.and_eq_true, Bool.and_eq_false_imp, decide_eq_true_eq, decide_eq_false_iff_not, Bool.not_not, Bool.not_true, Bool.not_false] at hc7'
              refine AC.skip ?_
              refine then_ok ?_
              refine AC.seq ?_
              refine AC.region ?_
              refine AL.val (Wanted.plain rfl) (g_loadBs rfl rfl rfl Try.underlying92 rfl sz92 rfl rfl) rfl rfl ?_
              refine AL.fast 2 rfl ?_
              obtain ⟨x12, e12, hr12⟩ : ∃ (x12 : Card) (e12 : Int), shiftC c held money = (x12, e12) := ⟨_, _, rfl⟩
              refine AL.call (n' := 7) (h' := [(6, (.arr 44 2 ((x12.uses).map rUse))), (5, (.arr 44 2 ((x10.uses).map rUse))), (4, (.box 92 [(cI x10.money), (cI x10.held), (cI x10.pace.ticks), (cI x10.pace.count), (cI x10.pace.sum), (cR 2 ((x10.uses).map rUse))])), (3, (.arr 44 2 ((x8.uses).map rUse))), (2, (.box 92 [(cI x10.money), (cI x10.held), (cI x10.pace.ticks), (cI x10.pace.count), (cI x10.pace.sum), (.s 5 0 2 x10.uses.length)])), (1, (.arr 44 2 ((x8.uses).map rUse))), (0, (.box 92 [(cI c.money), (cI c.held), (cI c.pace.ticks), (cI c.pace.count), (cI c.pace.sum), (cR 2 ((c.uses).map rUse))]))]) (Wanted.plain rfl) (g_call 6 (c_card_Shift c held money  x12 e12 hr12) en74 rfl rfl ⟨⟨_, rfl, .g ⟨.d _, .d _, .d _, .d _, .d _, .d _,  trivial⟩⟩, ⟨_, rfl, .c (.d _)⟩, ⟨_, rfl, .c (.d _)⟩,  trivial⟩ ⟨⟨trivial, trivial, trivial, trivial, trivial, trivial,  trivial⟩, trivial,  trivial⟩ ⟨(fun _ _ _ _ => trivial),  trivial⟩ rfl rfl rfl rfl) rfl rfl rfl rfl rfl ?_
              refine AL.fast 1 rfl ?_
              refine AL.val (Wanted.plain rfl) (g_extract rfl rfl rfl) rfl rfl ?_
              refine AL.val (Wanted.plain rfl) (g_extract rfl rfl rfl) rfl rfl ?_
              refine AL.sto (h' := [(6, (.arr 44 2 ((x12.uses).map rUse))), (5, (.arr 44 2 ((x10.uses).map rUse))), (4, (.box 92 [(cI x10.money), (cI x10.held), (cI x10.pace.ticks), (cI x10.pace.count), (cI x10.pace.sum), (cR 2 ((x10.uses).map rUse))])), (3, (.arr 44 2 ((x8.uses).map rUse))), (2, (.box 92 [(cI x12.money), (cI x12.held), (cI x12.pace.ticks), (cI x12.pace.count), (cI x12.pace.sum), (.s 6 0 2 x12.uses.length)])), (1, (.arr 44 2 ((x8.uses).map rUse))), (0, (.box 92 [(cI c.money), (cI c.held), (cI c.pace.ticks), (cI c.pace.count), (cI c.pace.sum), (cR 2 ((c.uses).map rUse))]))]) (Wanted.plain rfl) (g_storeB rfl rfl rfl rfl rfl sz92 rfl (Nat.le_of_ble_eq_true rfl) rfl) rfl rfl rfl rfl ?_
              refine AL.fast 1 rfl ?_
              refine AL.nil ?_
              refine then_ok ?_
              refine AC.seq ?_
              refine AC.region ?_
              refine AL.val (Wanted.plain rfl) (g_loadBs rfl rfl rfl Try.underlying92 rfl sz92 rfl rfl) rfl rfl ?_
              refine AL.fast 2 rfl ?_
              refine AL.call (n' := 7) (h' := [(6, (.arr 44 2 ((x12.uses).map rUse))), (5, (.arr 44 2 ((x10.uses).map rUse))), (4, (.box 92 [(cI x10.money), (cI x10.held), (cI x10.pace.ticks), (cI x10.pace.count), (cI x10.pace.sum), (cR 2 ((x10.uses).map rUse))])), (3, (.arr 44 2 ((x8.uses).map rUse))), (2, (.box 92 [(cI x12.money), (cI x12.held), (cI x12.pace.ticks), (cI x12.pace.count), (cI x12.pace.sum), (.s 6 0 2 x12.uses.length)])), (1, (.arr 44 2 ((x8.uses).map rUse))), (0, (.box 92 [(cI c.money), (cI c.held), (cI c.pace.ticks), (cI c.pace.count), (cI c.pace.sum), (cR 2 ((c.uses).map rUse))]))]) (Wanted.plain rfl) (g_call 7 (c_ref_Shift c held money  x12 e12 hr12) en78 rfl rfl ⟨⟨_, rfl, .g ⟨.d _, .d _, .d _, .d _, .d _, .d _,  trivial⟩⟩, ⟨_, rfl, .c (.d _)⟩, ⟨_, rfl, .c (.d _)⟩,  trivial⟩ ⟨⟨trivial, trivial, trivial, trivial, trivial, trivial,  trivial⟩, trivial,  trivial⟩ trivial rfl rfl rfl rfl) rfl rfl rfl rfl rfl ?_
              refine AL.fast 1 rfl ?_
              refine AL.val (Wanted.plain rfl) (g_extract rfl rfl rfl) rfl rfl ?_
              refine AL.val (Wanted.plain rfl) (g_extract rfl rfl rfl) rfl rfl ?_
              refine AL.sto (h' := [(6, (.arr 44 2 ((x12.uses).map rUse))), (5, (.arr 44 2 ((x10.uses).map rUse))), (4, (.box 92 [(cI x12.money), (cI x12.held), (cI x12.pace.ticks), (cI x12.pace.count), (cI x12.pace.sum), (cR 2 ((x12.uses).map rUse))])), (3, (.arr 44 2 ((x8.uses).map rUse))), (2, (.box 92 [(cI x12.money), (cI x12.held), (cI x12.pace.ticks), (cI x12.pace.count), (cI x12.pace.sum), (.s 6 0 2 x12.uses.length)])), (1, (.arr 44 2 ((x8.uses).map rUse))), (0, (.box 92 [(cI c.money), (cI c.held), (cI c.pace.ticks), (cI c.pace.count), (cI c.pace.sum), (cR 2 ((c.uses).map rUse))]))]) (Wanted.plain rfl) (g_storeB rfl rfl rfl rfl rfl sz92 rfl (Nat.le_of_ble_eq_true rfl) rfl) rfl rfl rfl rfl ?_
              refine AL.fast 1 rfl ?_
              refine AL.nil ?_
              refine then_ok ?_
              obtain ⟨r13, hr13⟩ : ∃ (r13 : Bool), sameC x12 x12 = r13 := ⟨_, rfl⟩
              refine AC.cutB 10 (true && r13) ?_ ?_
              ·
                refine AC.region ?_
                refine AL.fast 2 rfl ?_
                refine AL.val (Wanted.plain rfl) (g_binI rfl rfl rfl (congrArg (fun b => some (Value.bool b)) (decide_eq_true rfl))) rfl rfl ?_
                refine AL.fast 1 rfl ?_
                refine AL.val (Wanted.yes rfl rfl rfl) (g_loadBs rfl rfl rfl Try.underlying92 rfl sz92 rfl rfl) rfl rfl ?_
                refine AL.val (Wanted.yes rfl rfl rfl) (g_loadBs rfl rfl rfl Try.underlying92 rfl sz92 rfl rfl) rfl rfl ?_
                refine AL.call (n' := 7) (h' := [(6, (.arr 44 2 ((x12.uses).map rUse))), (5, (.arr 44 2 ((x10.uses).map rUse))), (4, (.box 92 [(cI x12.money), (cI x12.held), (cI x12.pace.ticks), (cI x12.pace.count), (cI x12.pace.sum), (cR 2 ((x12.uses).map rUse))])), (3, (.arr 44 2 ((x8.uses).map rUse))), (2, (.box 92 [(cI x12.money), (cI x12.held), (cI x12.pace.ticks), (cI x12.pace.count), (cI x12.pace.sum), (.s 6 0 2 x12.uses.length)])), (1, (.arr 44 2 ((x8.uses).map rUse))), (0, (.box 92 [(cI c.money), (cI c.held), (cI c.pace.ticks), (cI c.pace.count), (cI c.pace.sum), (cR 2 ((c.uses).map rUse))]))]) (Wanted.yes rfl rfl rfl) (g_callE 7 [6] (c_SameCard x12 x12  r13 hr13) en70 rfl rfl ⟨⟨_, rfl, .g ⟨.d _, .d _, .d _, .d _, .d _, .s rfl (by decide) (by first | omega | (simp; done) | (simp; omega)),  trivial⟩⟩, ⟨_, rfl, .g ⟨.d _, .d _, .d _, .d _, .d _, .d _,  trivial⟩⟩,  trivial⟩ rfl trivial rfl rfl rfl rfl) rfl rfl rfl rfl rfl ?_
                refine AL.fast 2 rfl ?_
                refine AL.nil ?_
                refine then_ok ?_
                exact Weak.popB 9 rfl rfl (by first | (simp []; done) | (simp_all; done) | (exfalso; simp_all; done) | (simp_all; omega)) rfl
              ·
                refine AC.ret ?_
                refine retQ_mk (av' := outOf [(.c (cB (true && r13)))]) (nb' := []) (retQ_ret ⟨[(10, (aB (true && r13)))], [], 0⟩ [.tmp 10] [(.c (cB (true && r13)))] (Weak.ren id (⟨by first | rfl | (simp only [AV.map, GV.map, CV.map, AB.map', id]; done) | (congr 3; omega) | (congr 4; omega) | (simp only [List.length_append, List.length_cons, List.length_nil, List.length_set]; rfl),  trivial⟩) (trivial) rfl) rfl ⟨.tmp rfl, trivial⟩ trivial) ?_ ?_
                · exact congrArg aB (show (true && r13) = true by (have h9 := hr13; rw [sameC_self] at h9; subst h9; simp))
                · rfl
end Go.Proofs.Ytgmcdlfmifijlaa.Dev
