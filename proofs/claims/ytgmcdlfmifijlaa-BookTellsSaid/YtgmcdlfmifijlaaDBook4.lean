/- book.put. -/
import Derived.Test.YtgmcdlfmifijlaaDBook3
set_option linter.unusedVariables false
set_option linter.unusedSimpArgs false
namespace Go.Proofs.Ytgmcdlfmifijlaa.Dev
open Go.RowKit


theorem c_Search_N (l : List Entry) (t : Int) (fn : FuncId) (caps : List (List D)) (hp : ∀ x : Entry, Fn Try.prog fn ([.g [cI x.account, cI x.sum], .c (cI t)] ++ caps.map fun r => GV.c (.q r 0)) (aI (cmpI x.account t)) []) (hen : Enters Try.prog fn) (hu : Up l) (hl : l.length * 16 ≤ 140737488355328) (k : Nat) (f : Bool) (hr : (posE l t, hasE l t) = (k, f)) : Fn Try.prog 126 [.c (cR 2 (l.map rEntry)), .c (cI t), .c (.d (.f fn caps))] (.t [.c (cI (k : Int)), .c (cB f)]) [] := by
  obtain ⟨h1, h2⟩ := Prod.mk.inj hr
  exact c_Search_Entry l t fn caps hp hen hu hl (k : Int) f (by unfold bsE; rw [h1, h2])
/-- what an account has -/
def getE : List Entry → Int → Int
  | [], _ => 0
  | x :: l, a => if x.account = a then x.sum else getE l a
/-- an account has so much now -/
def setE (l : List Entry) (a s : Int) : List Entry := l.take (posE l a) ++ (if s = 0 then [] else [⟨a, s⟩]) ++ l.drop (if hasE l a = true then posE l a + 1 else posE l a)
def goodE (s : Int) : Bool := decide (s ≥ -1000000000000) && decide (s ≤ 1000000000000)
def putE (l : List Entry) (e : Entry) : List Entry × Bool := (setE l e.account (getE l e.account + e.sum), goodE (getE l e.account + e.sum))
theorem hasE_cons {x : Entry} {l : List Entry} {a : Int} (h : x.account < a) : hasE (x :: l) a = hasE l a := by
  have h1 : posE (x :: l) a = posE l a + 1 := by simp [posE, h]
  unfold hasE; rw [h1, List.getElem?_cons_succ]
theorem hasE_head {x : Entry} {l : List Entry} {a : Int} (h : ¬ x.account < a) : hasE (x :: l) a = decide (x.account = a) := by
  unfold hasE posE; rw [if_neg h]; rfl
theorem getE_absent {a : Int} : ∀ {l : List Entry}, (∀ x ∈ l, a < x.account) → getE l a = 0
  | [], _ => rfl
  | x :: l, h => by
    unfold getE
    rw [if_neg (by have := h x List.mem_cons_self; omega)]
    exact getE_absent fun y hy => h y (List.mem_cons_of_mem _ hy)
theorem getE_has {a : Int} : ∀ {l : List Entry} {x : Entry}, Up l → hasE l a = true → l[posE l a]? = some x → x.account = a ∧ getE l a = x.sum
  | [], x, _, _, h => by simp at h
  | y :: l, x, hu, hh, h => by
    obtain ⟨h1, h2⟩ := List.pairwise_cons.1 hu
    by_cases hy : y.account < a
    · rw [hasE_cons hy] at hh
      unfold posE at h; rw [if_pos hy] at h
      obtain ⟨h3, h4⟩ := getE_has h2 hh (by simpa using h)
      refine ⟨h3, ?_⟩
      unfold getE; rw [if_neg (by omega)]; exact h4
    · rw [hasE_head hy] at hh
      unfold posE at h; rw [if_neg hy] at h
      simp at h hh
      subst h
      exact ⟨hh, by unfold getE; rw [if_pos hh]⟩
theorem getE_not {a : Int} : ∀ {l : List Entry}, Up l → hasE l a = false → getE l a = 0
  | [], _, _ => rfl
  | y :: l, hu, hh => by
    obtain ⟨h1, h2⟩ := List.pairwise_cons.1 hu
    by_cases hy : y.account < a
    · rw [hasE_cons hy] at hh
      unfold getE; rw [if_neg (by omega)]; exact getE_not h2 hh
    · rw [hasE_head hy] at hh
      simp at hh
      unfold getE; rw [if_neg hh]
      exact getE_absent fun x hx => by have := h1 x hx; omega
theorem hasE_lt {a : Int} {l : List Entry} (h : hasE l a = true) : posE l a < l.length := by
  by_cases hl : posE l a < l.length
  · exact hl
  · unfold hasE at h
    rw [List.getElem?_eq_none (by omega)] at h
    cases h
theorem take_pos {a : Int} (l : List Entry) : (l.take (posE l a)).length = posE l a := by rw [List.length_take]; have := posE_le a l; omega
theorem ins_at {l : List Entry} {k : Nat} {x y : Entry} (hk : k ≤ l.length) (h : (insL l k x)[k]? = some y) : y = x := by
  have h1 : (l.take k).length = k := by rw [List.length_take]; omega
  unfold insL at h
  rw [List.append_assoc, List.getElem?_append_right (by omega), h1, Nat.sub_self] at h
  simp at h
  exact h.symm
theorem ins_set {l : List Entry} {k : Nat} {x y : Entry} (hk : k ≤ l.length) : (insL l k x).set k y = l.take k ++ [y] ++ l.drop k := by
  have h1 : (l.take k).length = k := by rw [List.length_take]; omega
  unfold insL
  rw [List.append_assoc, List.set_append_right _ _ (by omega), h1, Nat.sub_self]
  simp
theorem has_set {l : List Entry} {k : Nat} {y : Entry} (hk : k < l.length) : l.set k y = l.take k ++ [y] ++ l.drop (k + 1) := by
  rw [List.set_eq_take_append_cons_drop, if_pos hk]; simp
theorem del_at {A B : List Entry} {y : Entry} {k : Nat} (h : A.length = k) : delL (A ++ [y] ++ B) k (k + 1) = A ++ B := by
  subst h
  unfold delL
  simp
/-- what the walk of put makes is what putE says -/
theorem putE_has {l : List Entry} {e x y : Entry} {k : Nat} (hu : Up l) (hk : posE l e.account = k) (hh : hasE l e.account = true) (hx : l[k]? = some x) (hy : y = ⟨x.account, x.sum + e.sum⟩) :
    putE l e = (if x.sum + e.sum = 0 then delL (l.set k y) k (k + 1) else l.set k y, goodE (x.sum + e.sum)) := by
  subst hk hy
  obtain ⟨h1, h2⟩ := getE_has hu hh hx
  have hlt := (List.getElem?_eq_some_iff.1 hx).1
  unfold putE setE
  rw [h2, if_pos hh, has_set hlt, h1]
  split
  · rw [del_at (take_pos l)]; simp
  · rfl
theorem putE_ins {l : List Entry} {e x y : Entry} {k : Nat} {r : List Entry} (hu : Up l) (hk : posE l e.account = k) (hh : hasE l e.account = false) (hr : insL l k ⟨e.account, 0⟩ = r) (hx : r[k]? = some x) (hy : y = ⟨x.account, x.sum + e.sum⟩) :
    putE l e = (if x.sum + e.sum = 0 then delL (r.set k y) k (k + 1) else r.set k y, goodE (x.sum + e.sum)) := by
  subst hk hr
  have h0 := posE_le e.account l
  have h1 := ins_at h0 hx
  subst h1 hy
  have h2 := getE_not hu hh
  unfold putE setE
  rw [h2, ins_set h0, if_neg (show ¬ hasE l e.account = true by rw [hh]; exact Bool.false_ne_true)]
  split
  · rw [del_at (take_pos l)]; simp
  · rfl
theorem set_at {l : List Entry} {k : Nat} {y z : Entry} (h : (l.set k y)[k]? = some z) : z = y := by
  have hlt := (List.getElem?_eq_some_iff.1 h).1
  rw [List.length_set] at hlt
  rw [List.getElem?_set_self hlt] at h
  exact (Option.some.inj h).symm
theorem getE_bound {l : List Entry} {a : Int} (h : ∀ x ∈ l, -1000000000000 ≤ x.sum ∧ x.sum ≤ 1000000000000) : -1000000000000 ≤ getE l a ∧ getE l a ≤ 1000000000000 := by
  induction l with
  | nil => unfold getE; omega
  | cons x l ih =>
    unfold getE
    split
    · exact h x List.mem_cons_self
    · exact ih fun y hy => h y (List.mem_cons_of_mem _ hy)

set_option maxRecDepth 100000 in
set_option maxHeartbeats 1000000 in
theorem c_put (l : List Entry) (e : Entry) (hu : Up l) (hl : (l.length + 1) * 16 ≤ 140737488355328) (hb : ∀ x ∈ l, -1000000000000 ≤ x.sum ∧ x.sum ≤ 1000000000000) (he : -1000000000000 ≤ e.sum ∧ e.sum ≤ 1000000000000) (r : List Entry) (g : Bool) (hr : putE l e = (r, g)) : FnE Try.prog 116 [(.c (.s 0 0 2 l.length)), (.g [(cI e.account), (cI e.sum)])] [(0, (.arr 111 2 ((l).map rEntry)))] [] (.t [(.c (.s 0 0 2 r.length)), (.c (cB g))]) [(0, (.arr 111 2 ((r).map rEntry)))] := by
  refine FnE.mk 62 [(0, (aC (.s 0 0 2 l.length))), (1, (aG [(cI e.account), (cI e.sum)]))] 1 Try.func116 rfl rfl rfl rfl rfl rfl rfl rfl rfl ?_
  intro W0 F0 T0 pg
  refine AC.lenS 0 rfl (fun hlen0 => ?_)
  refine AC.seq ?_
  refine AC.region ?_
  refine AL.new (n' := 2) (Wanted.plain rfl) (g_boxS 1 rfl rfl) rfl rfl rfl ?_
  refine AL.fast 2 rfl ?_
  refine AL.nil ?_
  refine then_ok ?_
  refine AC.seq ?_
  refine AC.region ?_
  refine AL.fast 1 rfl ?_
  refine AL.val (Wanted.plain rfl) (g_fieldP rfl rfl Try.underlying111 rfl sz3 (by decide)) rfl rfl ?_
  refine AL.val (Wanted.plain rfl) (g_loadB rfl rfl rfl Try.underlying3 rfl rfl) rfl rfl ?_
  obtain ⟨k0, f0, hr0⟩ : ∃ (k0 : Nat) (f0 : Bool), (posE l e.account, hasE l e.account) = (k0, f0) := ⟨_, _, rfl⟩
  obtain ⟨hk0, hf0⟩ := Prod.mk.inj hr0
  have hkl := posE_le e.account l
  rw [hk0] at hkl
  refine AL.call (n' := 2) (h' := [(1, (.box 111 [(cI e.account), (cI e.sum)])), (0, (.arr 111 2 ((l).map rEntry)))]) (Wanted.plain rfl) (g_callE 2 [0] (c_Search_N l e.account 127 ([]) (fun x => c_put1 x e.account) en127 (by first | assumption) (by omega) k0 f0 hr0) en126 rfl rfl ⟨⟨_, rfl, .c (.s rfl (by decide) (by first | omega | (simp; done) | (simp; omega)))⟩, ⟨_, rfl, .c (.d _)⟩, ⟨_, rfl, .c (.fn trivial)⟩,  trivial⟩ ⟨rfl, rfl,  trivial⟩ trivial rfl rfl rfl rfl) rfl rfl rfl rfl rfl ?_
  refine AL.fast 1 rfl ?_
  refine AL.val (Wanted.plain rfl) (g_extract rfl rfl rfl) rfl rfl ?_
  refine AL.val (Wanted.plain rfl) (g_extract rfl rfl rfl) rfl rfl ?_
  refine AL.fast 2 rfl ?_
  refine AL.nil ?_
  refine then_ok ?_
  refine AC.seq ?_
  refine AC.seq ?_
  refine AC.region ?_
  refine AL.fast 1 rfl ?_
  refine AL.val (Wanted.plain rfl) (g_notB rfl rfl) rfl rfl ?_
  refine AL.nil ?_
  refine then_ok ?_
  refine AC.cond rfl (fun hc1 => ?_) (fun hc1 => ?_)
  ·
    have hc1' := hc1; try simp only [sumB, Bool.not_eq_true', Bool.not_eq_false', Bool.or_eq_true, Bool.or_eq_false_iff, Bool.and_eq_true, Bool.and_eq_false_imp, decide_eq_true_eq, decide_eq_false_iff_not, Bool.not_not, Bool.not_true, Bool.not_false] at hc1'
    refine AC.region ?_
    refine AL.fast 2 rfl ?_
    refine AL.val (Wanted.plain rfl) (g_fieldP rfl rfl Try.underlying111 rfl sz3 (by decide)) rfl rfl ?_
    refine AL.val (Wanted.plain rfl) (g_loadB rfl rfl rfl Try.underlying3 rfl rfl) rfl rfl ?_
    refine AL.val (Wanted.plain rfl) (g_build (ys := [(0, (.c (cI e.account)))]) rfl bld111 rfl ⟨⟨rfl, rfl⟩,  trivial⟩ rfl rfl) rfl rfl ?_
    refine AL.new (n' := 3) (Wanted.plain rfl) (g_lit (ys := [(0, (.g [(cI e.account), (cI 0)]))]) (rows := ([(⟨e.account, 0⟩ : Entry)]).map rEntry) 2 sl102 rfl (by decide) ⟨⟨rfl, rfl⟩,  trivial⟩ rfl rfl rfl rfl) rfl rfl rfl ?_
    obtain ⟨r1, hr1⟩ : ∃ (r1 : List Entry), insL l k0 (⟨e.account, 0⟩ : Entry) = r1 := ⟨_, rfl⟩
    have hl1 : r1.length = l.length + 1 := by rw [← hr1]; exact insL_len hkl
    refine AL.callM (n' := 4) (h' := [(3, (.arr 111 2 ((r1).map rEntry))), (1, (.box 111 [(cI e.account), (cI e.sum)]))]) (Wanted.plain rfl) (g_callM (fun k => if k = 1 then 2 else k) (fun k => if k = 1 then 2 else if k = 0 then 3 else k) (c_Insert_Entry l k0 (⟨e.account, 0⟩ : Entry) (by first | omega | (simp; done) | (simp; omega)) (by first | omega | (simp; done) | (simp; omega)) r1 hr1) en129 rfl rfl ⟨⟨_, rfl, .inl ⟨rfl, rfl⟩⟩, ⟨_, rfl, .inr (.c (.d _))⟩, ⟨_, rfl, .inl ⟨rfl, rfl⟩⟩,  trivial⟩ ⟨rfl, rfl,  trivial⟩ rfl rfl rfl rfl rfl rfl trivial ⟨(fun _ _ _ _ => trivial),  trivial⟩ rfl rfl rfl rfl) rfl rfl rfl rfl rfl rfl ?_
    refine AL.fast 1 rfl ?_
    refine AL.nil ?_
    refine then_ok ?_
    refine AC.seq ?_
    obtain ⟨x1, hx1⟩ := exget (xs := r1) (i := k0) (by first | omega | (simp; done) | (simp; omega))
    have hx1q := ins_at hkl (show (insL l k0 ⟨e.account, 0⟩)[k0]? = some x1 by rw [hr1]; exact hx1)
    have hx1b : x1.sum = 0 := by rw [hx1q]
    refine AC.weak (st' := ⟨[(0, (aC (.s 3 0 2 r1.length))), (3, (aC (.p 1 0 0 0))), (6, (aI (↑k0 : Int)))], [(3, (.arr 111 2 ((r1).map rEntry))), (1, (.box 111 [(cI e.account), (cI e.sum)]))], 4⟩) (Weak.ren id (⟨by first | rfl | (simp only [AV.map, GV.map, CV.map, AB.map', id]; done) | (congr 3; omega) | (congr 4; omega) | (simp only [List.length_append, List.length_cons, List.length_nil, List.length_set]; rfl), by first | rfl | (simp only [AV.map, GV.map, CV.map, AB.map', id]; done) | (congr 3; omega) | (congr 4; omega) | (simp only [List.length_append, List.length_cons, List.length_nil, List.length_set]; rfl), by first | rfl | (simp only [AV.map, GV.map, CV.map, AB.map', id]; done) | (congr 3; omega) | (congr 4; omega) | (simp only [List.length_append, List.length_cons, List.length_nil, List.length_set]; rfl),  trivial⟩) (⟨by first | rfl | (simp only [AV.map, GV.map, CV.map, AB.map', id]; done) | (congr 3; omega) | (congr 4; omega) | (simp only [List.length_append, List.length_cons, List.length_nil, List.length_set]; rfl), by first | rfl | (simp only [AV.map, GV.map, CV.map, AB.map', id]; done) | (congr 3; omega) | (congr 4; omega) | (simp only [List.length_append, List.length_cons, List.length_nil, List.length_set]; rfl),  trivial⟩) rfl) ?_
    refine AC.draw [⟨some 25, (aC (.s 3 0 2 r1.length)), [], [], [], [(0, (aC (.s 3 0 2 r1.length)))], [(3, (.arr 111 2 ((r1).map rEntry)))]⟩,
      ⟨some 26, (aI (↑k0 : Int)), [], [], [], [(6, (aI (↑k0 : Int)))], []⟩,
      ⟨some 27, (aC (.p 3 k0 2 0)), [], [], [0, 1], [(25, (aC (.s 3 0 2 r1.length))), (26, (aI (↑k0 : Int)))], [(3, (.arr 111 2 ((r1).map rEntry)))]⟩,
      ⟨some 28, (aC (.p 3 k0 2 1)), [], [], [2], [(27, (aC (.p 3 k0 2 0)))], [(3, (.arr 111 2 ((r1).map rEntry)))]⟩,
      ⟨some 29, (aI x1.sum), [], [], [3], [(28, (aC (.p 3 k0 2 1)))], [(3, (.arr 111 2 ((r1).map rEntry)))]⟩,
      ⟨some 30, (aC (.p 1 0 0 1)), [], [], [], [(3, (aC (.p 1 0 0 0)))], [(1, (.box 111 [(cI e.account), (cI e.sum)]))]⟩,
      ⟨some 31, (aI e.sum), [], [], [5], [(30, (aC (.p 1 0 0 1)))], [(1, (.box 111 [(cI e.account), (cI e.sum)]))]⟩,
      ⟨some 32, (aI (x1.sum + e.sum)), [], [], [4, 6], [(29, (aI x1.sum)), (31, (aI e.sum))], []⟩,
      ⟨some 33, (aC (.p 3 k0 2 0)), [], [], [0, 1], [(25, (aC (.s 3 0 2 r1.length))), (26, (aI (↑k0 : Int)))], [(3, (.arr 111 2 ((r1).map rEntry)))]⟩,
      ⟨some 34, (aC (.p 3 k0 2 1)), [], [], [8], [(33, (aC (.p 3 k0 2 0)))], [(3, (.arr 111 2 ((r1).map rEntry)))]⟩] ⟨[(0, (aC (.s 3 0 2 r1.length))), (3, (aC (.p 1 0 0 0))), (6, (aI (↑k0 : Int))), (32, (aI (x1.sum + e.sum))), (34, (aC (.p 3 k0 2 1)))], [(3, (.arr 111 2 ((r1).map rEntry))), (1, (.box 111 [(cI e.account), (cI e.sum)]))], 4⟩ mixed (by kernel_rfl) ?_ ?_ ?_ ?_
    · exact ⟨.inl ⟨(Wanted.plain rfl), GOp.cast (g_move rfl rfl) rfl⟩,
      .inl ⟨(Wanted.plain rfl), GOp.cast (g_move rfl rfl) rfl⟩,
      .inl ⟨(Wanted.plain rfl), GOp.cast (g_indexP0 (i := k0) rfl rfl rfl Try.underlying102 sz111 (by first | omega | (simp; done) | (simp; omega)) (by first | omega | (simp; done) | (simp; omega))) rfl⟩,
      .inl ⟨(Wanted.plain rfl), GOp.cast (g_fieldP rfl rfl Try.underlying111 rfl sz3 (by decide)) rfl⟩,
      .inl ⟨(Wanted.plain rfl), GOp.cast (g_loadA rfl rfl rfl Try.underlying3 rfl (getmap hx1) rfl) rfl⟩,
      .inl ⟨(Wanted.plain rfl), GOp.cast (g_fieldP rfl rfl Try.underlying111 rfl sz3 (by decide)) rfl⟩,
      .inl ⟨(Wanted.plain rfl), GOp.cast (g_loadB rfl rfl rfl Try.underlying3 rfl rfl) rfl⟩,
      .inl ⟨(Wanted.plain rfl), GOp.cast (g_binI rfl rfl rfl (wrap_ok (by first | omega | (simp; done) | (simp; omega)))) rfl⟩,
      .inl ⟨(Wanted.plain rfl), GOp.cast (g_indexP0 (i := k0) rfl rfl rfl Try.underlying102 sz111 (by first | omega | (simp; done) | (simp; omega)) (by first | omega | (simp; done) | (simp; omega))) rfl⟩,
      .inl ⟨(Wanted.plain rfl), GOp.cast (g_fieldP rfl rfl Try.underlying111 rfl sz3 (by decide)) rfl⟩,
       trivial⟩
    · exact ⟨⟨⟨.inl rfl,  trivial⟩, ⟨.inl rfl,  trivial⟩⟩, ⟨⟨.inl rfl,  trivial⟩, trivial⟩, ⟨⟨.inr ⟨0, .head _, _, rfl, rfl, rfl⟩, .inr ⟨1, .tail _ (.head _), _, rfl, rfl, rfl⟩,  trivial⟩, ⟨.inl rfl,  trivial⟩⟩, ⟨⟨.inr ⟨2, .head _, _, rfl, rfl, rfl⟩,  trivial⟩, ⟨.inl rfl,  trivial⟩⟩, ⟨⟨.inr ⟨3, .head _, _, rfl, rfl, rfl⟩,  trivial⟩, ⟨.inl rfl,  trivial⟩⟩, ⟨⟨.inl rfl,  trivial⟩, ⟨.inl rfl,  trivial⟩⟩, ⟨⟨.inr ⟨5, .head _, _, rfl, rfl, rfl⟩,  trivial⟩, ⟨.inl rfl,  trivial⟩⟩, ⟨⟨.inr ⟨4, .head _, _, rfl, rfl, rfl⟩, .inr ⟨6, .tail _ (.head _), _, rfl, rfl, rfl⟩,  trivial⟩, trivial⟩, ⟨⟨.inr ⟨0, .head _, _, rfl, rfl, rfl⟩, .inr ⟨1, .tail _ (.head _), _, rfl, rfl, rfl⟩,  trivial⟩, ⟨.inl rfl,  trivial⟩⟩, ⟨⟨.inr ⟨8, .head _, _, rfl, rfl, rfl⟩,  trivial⟩, ⟨.inl rfl,  trivial⟩⟩,  trivial⟩
    · exact ⟨⟨.inl rfl, .inl rfl, .inl rfl, .inr ⟨7, _, rfl, rfl, rfl⟩, .inr ⟨9, _, rfl, rfl, rfl⟩,  trivial⟩, ⟨.inl rfl, .inl rfl,  trivial⟩⟩
    ·
      refine AL.sto (h' := [(3, (.arr 111 2 (((r1).set k0 (⟨x1.account, x1.sum + e.sum⟩ : Entry)).map rEntry))), (1, (.box 111 [(cI e.account), (cI e.sum)]))]) (Wanted.plain rfl) (g_storeA (ds := [(dI (x1.sum + e.sum))]) rfl rfl rfl rfl rfl sz3 rfl (Nat.le_of_ble_eq_true rfl) (getmap hx1) rfl (setmap (x' := (⟨x1.account, x1.sum + e.sum⟩ : Entry)) rfl)) rfl rfl rfl rfl ?_
      refine AL.nil ?_
      refine then_ok ?_
      refine AC.seq ?_
      refine AC.region ?_
      refine AL.fast 2 rfl ?_
      refine AL.val (Wanted.plain rfl) (g_indexP0 (i := k0) rfl rfl rfl Try.underlying102 sz111 (by first | omega | (simp; done) | (simp; omega)) (by first | omega | (simp; done) | (simp; omega))) rfl rfl ?_
      refine AL.val (Wanted.plain rfl) (g_fieldP rfl rfl Try.underlying111 rfl sz3 (by decide)) rfl rfl ?_
      obtain ⟨x2, hx2⟩ := exget (xs := ((r1).set k0 (⟨x1.account, x1.sum + e.sum⟩ : Entry))) (i := k0) (by first | omega | (simp; done) | (simp; omega))
      have hx2e := set_at hx2
      have hx2s : x2.sum = x1.sum + e.sum := by rw [hx2e]
      refine AL.val (Wanted.plain rfl) (g_loadA rfl rfl rfl Try.underlying3 rfl (getmap hx2) rfl) rfl rfl ?_
      refine AL.val (Wanted.plain rfl) (g_binI rfl rfl rfl rfl) rfl rfl ?_
      refine AL.fast 1 rfl ?_
      refine AL.dec (t := 41) rfl (fun hb2 => ?_) (fun hb2 => ?_)
      ·
        have hb2' := hb2; try simp only [sumB, Bool.not_eq_true', Bool.not_eq_false', Bool.or_eq_true, Bool.or_eq_false_iff, Bool.and_eq_true, Bool.and_eq_false_imp, decide_eq_true_eq, decide_eq_false_iff_not, Bool.not_not, Bool.not_true, Bool.not_false] at hb2'
        refine AL.fast 2 rfl ?_
        refine AL.val (Wanted.yes rfl rfl rfl) (g_indexP0 (i := k0) rfl rfl rfl Try.underlying102 sz111 (by first | omega | (simp; done) | (simp; omega)) (by first | omega | (simp; done) | (simp; omega))) rfl rfl ?_
        refine AL.val (Wanted.yes rfl rfl rfl) (g_fieldP rfl rfl Try.underlying111 rfl sz3 (by decide)) rfl rfl ?_
        refine AL.val (Wanted.yes rfl rfl rfl) (g_loadA rfl rfl rfl Try.underlying3 rfl (getmap hx2) rfl) rfl rfl ?_
        refine AL.val (Wanted.yes rfl rfl rfl) (g_binI rfl rfl rfl rfl) rfl rfl ?_
        refine AL.fast 2 rfl ?_
        refine AL.nil ?_
        refine then_ok ?_
        refine AC.seq ?_
        refine AC.seq ?_
        refine AC.region ?_
        refine AL.fast 2 rfl ?_
        refine AL.val (Wanted.plain rfl) (g_indexP0 (i := k0) rfl rfl rfl Try.underlying102 sz111 (by first | omega | (simp; done) | (simp; omega)) (by first | omega | (simp; done) | (simp; omega))) rfl rfl ?_
        refine AL.val (Wanted.plain rfl) (g_fieldP rfl rfl Try.underlying111 rfl sz3 (by decide)) rfl rfl ?_
        refine AL.val (Wanted.plain rfl) (g_loadA rfl rfl rfl Try.underlying3 rfl (getmap hx2) rfl) rfl rfl ?_
        refine AL.val (Wanted.plain rfl) (g_binI rfl rfl rfl rfl) rfl rfl ?_
        refine AL.nil ?_
        refine then_ok ?_
        refine AC.cond rfl (fun hc3 => ?_) (fun hc3 => ?_)
        ·
          have hc3' := hc3; try simp only [sumB, Bool.not_eq_true', Bool.not_eq_false', Bool.or_eq_true, Bool.or_eq_false_iff, Bool.and_eq_true, Bool.and_eq_false_imp, decide_eq_true_eq, decide_eq_false_iff_not, Bool.not_not, Bool.not_true, Bool.not_false] at hc3'
          refine AC.weak (st' := ⟨[(0, (aC (.s 3 0 2 (((r1).set k0 (⟨x1.account, x1.sum + e.sum⟩ : Entry)).length)))), (3, (aC (.p 1 0 0 0))), (6, (aI (↑k0 : Int))), (32, (aI (x1.sum + e.sum))), (34, (aC (.p 3 k0 2 1))), (35, (aC (.s 3 0 2 r1.length))), (36, (aI (↑k0 : Int))), (37, (aC (.p 3 k0 2 0))), (38, (aC (.p 3 k0 2 1))), (39, (aI x2.sum)), (40, (aB (decide (x2.sum ≥ (-1000000000000))))), (41, (aB true)), (42, (aC (.s 3 0 2 r1.length))), (43, (aI (↑k0 : Int))), (44, (aC (.p 3 k0 2 0))), (45, (aC (.p 3 k0 2 1))), (46, (aI x2.sum)), (47, (aB (decide (x2.sum ≤ 1000000000000)))), (48, (aB (decide (x2.sum ≤ 1000000000000)))), (8, (aB (decide (x2.sum ≤ 1000000000000)))), (49, (aC (.s 3 0 2 r1.length))), (50, (aI (↑k0 : Int))), (51, (aC (.p 3 k0 2 0))), (52, (aC (.p 3 k0 2 1))), (53, (aI x2.sum)), (54, (aB (decide (x2.sum = 0))))], [(3, (.arr 111 2 (((r1).set k0 (⟨x1.account, x1.sum + e.sum⟩ : Entry)).map rEntry))), (1, (.box 111 [(cI e.account), (cI e.sum)]))], 4⟩) (Weak.ren id (⟨by first | rfl | (simp only [AV.map, GV.map, CV.map, AB.map', id]; done) | (congr 3; omega) | (congr 4; omega) | (simp only [List.length_append, List.length_cons, List.length_nil, List.length_set]; rfl), by first | rfl | (simp only [AV.map, GV.map, CV.map, AB.map', id]; done) | (congr 3; omega) | (congr 4; omega) | (simp only [List.length_append, List.length_cons, List.length_nil, List.length_set]; rfl), by first | rfl | (simp only [AV.map, GV.map, CV.map, AB.map', id]; done) | (congr 3; omega) | (congr 4; omega) | (simp only [List.length_append, List.length_cons, List.length_nil, List.length_set]; rfl), by first | rfl | (simp only [AV.map, GV.map, CV.map, AB.map', id]; done) | (congr 3; omega) | (congr 4; omega) | (simp only [List.length_append, List.length_cons, List.length_nil, List.length_set]; rfl), by first | rfl | (simp only [AV.map, GV.map, CV.map, AB.map', id]; done) | (congr 3; omega) | (congr 4; omega) | (simp only [List.length_append, List.length_cons, List.length_nil, List.length_set]; rfl), by first | rfl | (simp only [AV.map, GV.map, CV.map, AB.map', id]; done) | (congr 3; omega) | (congr 4; omega) | (simp only [List.length_append, List.length_cons, List.length_nil, List.length_set]; rfl), by first | rfl | (simp only [AV.map, GV.map, CV.map, AB.map', id]; done) | (congr 3; omega) | (congr 4; omega) | (simp only [List.length_append, List.length_cons, List.length_nil, List.length_set]; rfl), by first | rfl | (simp only [AV.map, GV.map, CV.map, AB.map', id]; done) | (congr 3; omega) | (congr 4; omega) | (simp only [List.length_append, List.length_cons, List.length_nil, List.length_set]; rfl), by first | rfl | (simp only [AV.map, GV.map, CV.map, AB.map', id]; done) | (congr 3; omega) | (congr 4; omega) | (simp only [List.length_append, List.length_cons, List.length_nil, List.length_set]; rfl), by first | rfl | (simp only [AV.map, GV.map, CV.map, AB.map', id]; done) | (congr 3; omega) | (congr 4; omega) | (simp only [List.length_append, List.length_cons, List.length_nil, List.length_set]; rfl), by first | rfl | (simp only [AV.map, GV.map, CV.map, AB.map', id]; done) | (congr 3; omega) | (congr 4; omega) | (simp only [List.length_append, List.length_cons, List.length_nil, List.length_set]; rfl), by first | rfl | (simp only [AV.map, GV.map, CV.map, AB.map', id]; done) | (congr 3; omega) | (congr 4; omega) | (simp only [List.length_append, List.length_cons, List.length_nil, List.length_set]; rfl), by first | rfl | (simp only [AV.map, GV.map, CV.map, AB.map', id]; done) | (congr 3; omega) | (congr 4; omega) | (simp only [List.length_append, List.length_cons, List.length_nil, List.length_set]; rfl), by first | rfl | (simp only [AV.map, GV.map, CV.map, AB.map', id]; done) | (congr 3; omega) | (congr 4; omega) | (simp only [List.length_append, List.length_cons, List.length_nil, List.length_set]; rfl), by first | rfl | (simp only [AV.map, GV.map, CV.map, AB.map', id]; done) | (congr 3; omega) | (congr 4; omega) | (simp only [List.length_append, List.length_cons, List.length_nil, List.length_set]; rfl), by first | rfl | (simp only [AV.map, GV.map, CV.map, AB.map', id]; done) | (congr 3; omega) | (congr 4; omega) | (simp only [List.length_append, List.length_cons, List.length_nil, List.length_set]; rfl), by first | rfl | (simp only [AV.map, GV.map, CV.map, AB.map', id]; done) | (congr 3; omega) | (congr 4; omega) | (simp only [List.length_append, List.length_cons, List.length_nil, List.length_set]; rfl), by first | rfl | (simp only [AV.map, GV.map, CV.map, AB.map', id]; done) | (congr 3; omega) | (congr 4; omega) | (simp only [List.length_append, List.length_cons, List.length_nil, List.length_set]; rfl), by first | rfl | (simp only [AV.map, GV.map, CV.map, AB.map', id]; done) | (congr 3; omega) | (congr 4; omega) | (simp only [List.length_append, List.length_cons, List.length_nil, List.length_set]; rfl), by first | rfl | (simp only [AV.map, GV.map, CV.map, AB.map', id]; done) | (congr 3; omega) | (congr 4; omega) | (simp only [List.length_append, List.length_cons, List.length_nil, List.length_set]; rfl), by first | rfl | (simp only [AV.map, GV.map, CV.map, AB.map', id]; done) | (congr 3; omega) | (congr 4; omega) | (simp only [List.length_append, List.length_cons, List.length_nil, List.length_set]; rfl), by first | rfl | (simp only [AV.map, GV.map, CV.map, AB.map', id]; done) | (congr 3; omega) | (congr 4; omega) | (simp only [List.length_append, List.length_cons, List.length_nil, List.length_set]; rfl), by first | rfl | (simp only [AV.map, GV.map, CV.map, AB.map', id]; done) | (congr 3; omega) | (congr 4; omega) | (simp only [List.length_append, List.length_cons, List.length_nil, List.length_set]; rfl), by first | rfl | (simp only [AV.map, GV.map, CV.map, AB.map', id]; done) | (congr 3; omega) | (congr 4; omega) | (simp only [List.length_append, List.length_cons, List.length_nil, List.length_set]; rfl), by first | rfl | (simp only [AV.map, GV.map, CV.map, AB.map', id]; done) | (congr 3; omega) | (congr 4; omega) | (simp only [List.length_append, List.length_cons, List.length_nil, List.length_set]; rfl), by first | rfl | (simp only [AV.map, GV.map, CV.map, AB.map', id]; done) | (congr 3; omega) | (congr 4; omega) | (simp only [List.length_append, List.length_cons, List.length_nil, List.length_set]; rfl),  trivial⟩) (⟨by first | rfl | (simp only [AV.map, GV.map, CV.map, AB.map', id]; done) | (congr 3; omega) | (congr 4; omega) | (simp only [List.length_append, List.length_cons, List.length_nil, List.length_set]; rfl), by first | rfl | (simp only [AV.map, GV.map, CV.map, AB.map', id]; done) | (congr 3; omega) | (congr 4; omega) | (simp only [List.length_append, List.length_cons, List.length_nil, List.length_set]; rfl),  trivial⟩) rfl) ?_
          refine AC.region ?_
          refine AL.fast 3 rfl ?_
          refine AL.val (Wanted.plain rfl) (g_binI rfl rfl rfl (wrap_ok (by first | omega | (simp; done) | (simp; omega)))) rfl rfl ?_
          obtain ⟨r2, hr2⟩ : ∃ (r2 : List Entry), delL ((r1).set k0 (⟨x1.account, x1.sum + e.sum⟩ : Entry)) k0 ((k0) + 1) = r2 := ⟨_, rfl⟩
          refine AL.callM (n' := 5) (h' := [(4, (.arr 111 2 ((r2).map rEntry))), (1, (.box 111 [(cI e.account), (cI e.sum)]))]) (Wanted.plain rfl) (g_callM (fun k => if k = 0 then 3 else k) (fun k => if k = 0 then 4 else k) (c_Delete_Entry ((r1).set k0 (⟨x1.account, x1.sum + e.sum⟩ : Entry)) k0 ((k0) + 1) (by first | omega | (simp; done) | (simp; omega)) (by first | omega | (simp; done) | (simp; omega)) r2 hr2) en130 rfl rfl ⟨⟨_, rfl, .inl ⟨rfl, rfl⟩⟩, ⟨_, rfl, .inr (.c (.d _))⟩, ⟨_, rfl, .inr (.c (.d _))⟩,  trivial⟩ ⟨rfl,  trivial⟩ rfl rfl rfl rfl rfl rfl trivial ⟨(fun _ _ _ _ => trivial),  trivial⟩ rfl rfl rfl rfl) rfl rfl rfl rfl rfl rfl ?_
          refine AL.fast 1 rfl ?_
          refine AL.nil ?_
          refine then_ok ?_
          refine AC.seq ?_
          refine AC.region ?_
          refine AL.fast 4 rfl ?_
          refine AL.nil ?_
          refine then_ok ?_
          refine AC.ret ?_
          have hX : putE l e = (r2, decide (x2.sum ≤ 1000000000000)) := by
            rw [putE_ins hu hk0 (show hasE l e.account = false by simp_all) hr1 hx1 rfl]; unfold goodE; rw [if_pos (by omega), hr2]; refine Prod.ext rfl ?_; first | (simp; omega) | (simp_all; done) | (simp_all; omega)
          rw [hX] at hr; clear hX
          simp only [Prod.mk.injEq] at hr; obtain ⟨rfl, rfl⟩ := hr
          refine retQ_mk (av' := outOf [(.c (.s 0 0 2 r2.length)), (.c (cB (decide (x2.sum ≤ 1000000000000))))]) (nb' := [(0, (.arr 111 2 ((r2).map rEntry)))]) (retQ_ret ⟨[(4, (aC (.s 0 0 2 r2.length))), (5, (aB (decide (x2.sum ≤ 1000000000000))))], [(0, (.arr 111 2 ((r2).map rEntry)))], 1⟩ [.tmp 4, .tmp 5] [(.c (.s 0 0 2 r2.length)), (.c (cB (decide (x2.sum ≤ 1000000000000))))] (Weak.ren (fun k => if k = 0 then 4 else k) (⟨by first | rfl | (simp only [AV.map, GV.map, CV.map, AB.map', id]; done) | (congr 3; omega) | (congr 4; omega) | (simp only [List.length_append, List.length_cons, List.length_nil, List.length_set]; rfl), by first | rfl | (simp only [AV.map, GV.map, CV.map, AB.map', id]; done) | (congr 3; omega) | (congr 4; omega) | (simp only [List.length_append, List.length_cons, List.length_nil, List.length_set]; rfl),  trivial⟩) (⟨by first | rfl | (simp only [AV.map, GV.map, CV.map, AB.map', id]; done) | (congr 3; omega) | (congr 4; omega) | (simp only [List.length_append, List.length_cons, List.length_nil, List.length_set]; rfl),  trivial⟩) rfl) rfl ⟨.tmp rfl, .tmp rfl, trivial⟩ ⟨by first | rfl | (simp only [AV.map, GV.map, CV.map, AB.map', id]; done) | (congr 3; omega) | (congr 4; omega) | (simp only [List.length_append, List.length_cons, List.length_nil, List.length_set]; rfl),  trivial⟩) ?_ ?_
          · first | rfl | (simp [outOf, aC]; done) | (simp [outOf, aC]; omega)
          · first | rfl | (simp; done) | (simp; omega)
        ·
          have hc3' := hc3; try simp only [sumB, Bool.not_eq_true', Bool.not_eq_false', Bool.or_eq_true, Bool.or_eq_false_iff, Bool.and_eq_true, Bool.and_eq_false_imp, decide_eq_true_eq, decide_eq_false_iff_not, Bool.not_not, Bool.not_true, Bool.not_false] at hc3'
          refine AC.skip ?_
          refine then_ok ?_
          refine AC.seq ?_
          refine AC.region ?_
          refine AL.fast 4 rfl ?_
          refine AL.nil ?_
          refine then_ok ?_
          refine AC.ret ?_
          have hX : putE l e = ((r1).set k0 (⟨x1.account, x1.sum + e.sum⟩ : Entry), decide (x2.sum ≤ 1000000000000)) := by
            rw [putE_ins hu hk0 (show hasE l e.account = false by simp_all) hr1 hx1 rfl]; unfold goodE; rw [if_neg (by omega)]; refine Prod.ext rfl ?_; first | (simp; omega) | (simp_all; done) | (simp_all; omega)
          rw [hX] at hr; clear hX
          simp only [Prod.mk.injEq] at hr; obtain ⟨rfl, rfl⟩ := hr
          refine retQ_mk (av' := outOf [(.c (.s 0 0 2 r1.length)), (.c (cB (decide (x2.sum ≤ 1000000000000))))]) (nb' := [(0, (.arr 111 2 (((r1).set k0 (⟨x1.account, x1.sum + e.sum⟩ : Entry)).map rEntry)))]) (retQ_ret ⟨[(4, (aC (.s 0 0 2 r1.length))), (5, (aB (decide (x2.sum ≤ 1000000000000))))], [(0, (.arr 111 2 (((r1).set k0 (⟨x1.account, x1.sum + e.sum⟩ : Entry)).map rEntry)))], 1⟩ [.tmp 4, .tmp 5] [(.c (.s 0 0 2 r1.length)), (.c (cB (decide (x2.sum ≤ 1000000000000))))] (Weak.ren (fun k => if k = 0 then 3 else k) (⟨by first | rfl | (simp only [AV.map, GV.map, CV.map, AB.map', id]; done) | (congr 3; omega) | (congr 4; omega) | (simp only [List.length_append, List.length_cons, List.length_nil, List.length_set]; rfl), by first | rfl | (simp only [AV.map, GV.map, CV.map, AB.map', id]; done) | (congr 3; omega) | (congr 4; omega) | (simp only [List.length_append, List.length_cons, List.length_nil, List.length_set]; rfl),  trivial⟩) (⟨by first | rfl | (simp only [AV.map, GV.map, CV.map, AB.map', id]; done) | (congr 3; omega) | (congr 4; omega) | (simp only [List.length_append, List.length_cons, List.length_nil, List.length_set]; rfl),  trivial⟩) rfl) rfl ⟨.tmp rfl, .tmp rfl, trivial⟩ ⟨by first | rfl | (simp only [AV.map, GV.map, CV.map, AB.map', id]; done) | (congr 3; omega) | (congr 4; omega) | (simp only [List.length_append, List.length_cons, List.length_nil, List.length_set]; rfl),  trivial⟩) ?_ ?_
          · first | rfl | (simp [outOf, aC]; done) | (simp [outOf, aC]; omega)
          · first | rfl | (simp; done) | (simp; omega)
      ·
        have hb2' := hb2; try simp only [sumB, Bool.not_eq_true', Bool.not_eq_false', Bool.or_eq_true, Bool.or_eq_false_iff, Bool.and_eq_true, Bool.and_eq_false_imp, decide_eq_true_eq, decide_eq_false_iff_not, Bool.not_not, Bool.not_true, Bool.not_false] at hb2'
        refine AL.fast 8 rfl ?_
        refine AL.nil ?_
        refine then_ok ?_
        refine AC.seq ?_
        refine AC.seq ?_
        refine AC.region ?_
        refine AL.fast 2 rfl ?_
        refine AL.val (Wanted.plain rfl) (g_indexP0 (i := k0) rfl rfl rfl Try.underlying102 sz111 (by first | omega | (simp; done) | (simp; omega)) (by first | omega | (simp; done) | (simp; omega))) rfl rfl ?_
        refine AL.val (Wanted.plain rfl) (g_fieldP rfl rfl Try.underlying111 rfl sz3 (by decide)) rfl rfl ?_
        refine AL.val (Wanted.plain rfl) (g_loadA rfl rfl rfl Try.underlying3 rfl (getmap hx2) rfl) rfl rfl ?_
        refine AL.val (Wanted.plain rfl) (g_binI rfl rfl rfl rfl) rfl rfl ?_
        refine AL.nil ?_
        refine then_ok ?_
        refine AC.cond rfl (fun hc4 => ?_) (fun hc4 => ?_)
        ·
          have hc4' := hc4; try simp only [sumB, Bool.not_eq_true', Bool.not_eq_false', Bool.or_eq_true, Bool.or_eq_false_iff, Bool.and_eq_true, Bool.and_eq_false_imp, decide_eq_true_eq, decide_eq_false_iff_not, Bool.not_not, Bool.not_true, Bool.not_false] at hc4'
          refine AC.weak (st' := ⟨[(0, (aC (.s 3 0 2 (((r1).set k0 (⟨x1.account, x1.sum + e.sum⟩ : Entry)).length)))), (3, (aC (.p 1 0 0 0))), (6, (aI (↑k0 : Int))), (32, (aI (x1.sum + e.sum))), (34, (aC (.p 3 k0 2 1))), (35, (aC (.s 3 0 2 r1.length))), (36, (aI (↑k0 : Int))), (37, (aC (.p 3 k0 2 0))), (38, (aC (.p 3 k0 2 1))), (39, (aI x2.sum)), (40, (aB (decide (x2.sum ≥ (-1000000000000))))), (41, (aB false)), (48, (aB false)), (8, (aB false)), (49, (aC (.s 3 0 2 r1.length))), (50, (aI (↑k0 : Int))), (51, (aC (.p 3 k0 2 0))), (52, (aC (.p 3 k0 2 1))), (53, (aI x2.sum)), (54, (aB (decide (x2.sum = 0))))], [(3, (.arr 111 2 (((r1).set k0 (⟨x1.account, x1.sum + e.sum⟩ : Entry)).map rEntry))), (1, (.box 111 [(cI e.account), (cI e.sum)]))], 4⟩) (Weak.ren id (⟨by first | rfl | (simp only [AV.map, GV.map, CV.map, AB.map', id]; done) | (congr 3; omega) | (congr 4; omega) | (simp only [List.length_append, List.length_cons, List.length_nil, List.length_set]; rfl), by first | rfl | (simp only [AV.map, GV.map, CV.map, AB.map', id]; done) | (congr 3; omega) | (congr 4; omega) | (simp only [List.length_append, List.length_cons, List.length_nil, List.length_set]; rfl), by first | rfl | (simp only [AV.map, GV.map, CV.map, AB.map', id]; done) | (congr 3; omega) | (congr 4; omega) | (simp only [List.length_append, List.length_cons, List.length_nil, List.length_set]; rfl), by first | rfl | (simp only [AV.map, GV.map, CV.map, AB.map', id]; done) | (congr 3; omega) | (congr 4; omega) | (simp only [List.length_append, List.length_cons, List.length_nil, List.length_set]; rfl), by first | rfl | (simp only [AV.map, GV.map, CV.map, AB.map', id]; done) | (congr 3; omega) | (congr 4; omega) | (simp only [List.length_append, List.length_cons, List.length_nil, List.length_set]; rfl), by first | rfl | (simp only [AV.map, GV.map, CV.map, AB.map', id]; done) | (congr 3; omega) | (congr 4; omega) | (simp only [List.length_append, List.length_cons, List.length_nil, List.length_set]; rfl), by first | rfl | (simp only [AV.map, GV.map, CV.map, AB.map', id]; done) | (congr 3; omega) | (congr 4; omega) | (simp only [List.length_append, List.length_cons, List.length_nil, List.length_set]; rfl), by first | rfl | (simp only [AV.map, GV.map, CV.map, AB.map', id]; done) | (congr 3; omega) | (congr 4; omega) | (simp only [List.length_append, List.length_cons, List.length_nil, List.length_set]; rfl), by first | rfl | (simp only [AV.map, GV.map, CV.map, AB.map', id]; done) | (congr 3; omega) | (congr 4; omega) | (simp only [List.length_append, List.length_cons, List.length_nil, List.length_set]; rfl), by first | rfl | (simp only [AV.map, GV.map, CV.map, AB.map', id]; done) | (congr 3; omega) | (congr 4; omega) | (simp only [List.length_append, List.length_cons, List.length_nil, List.length_set]; rfl), by first | rfl | (simp only [AV.map, GV.map, CV.map, AB.map', id]; done) | (congr 3; omega) | (congr 4; omega) | (simp only [List.length_append, List.length_cons, List.length_nil, List.length_set]; rfl), by first | rfl | (simp only [AV.map, GV.map, CV.map, AB.map', id]; done) | (congr 3; omega) | (congr 4; omega) | (simp only [List.length_append, List.length_cons, List.length_nil, List.length_set]; rfl), by first | rfl | (simp only [AV.map, GV.map, CV.map, AB.map', id]; done) | (congr 3; omega) | (congr 4; omega) | (simp only [List.length_append, List.length_cons, List.length_nil, List.length_set]; rfl), by first | rfl | (simp only [AV.map, GV.map, CV.map, AB.map', id]; done) | (congr 3; omega) | (congr 4; omega) | (simp only [List.length_append, List.length_cons, List.length_nil, List.length_set]; rfl), by first | rfl | (simp only [AV.map, GV.map, CV.map, AB.map', id]; done) | (congr 3; omega) | (congr 4; omega) | (simp only [List.length_append, List.length_cons, List.length_nil, List.length_set]; rfl), by first | rfl | (simp only [AV.map, GV.map, CV.map, AB.map', id]; done) | (congr 3; omega) | (congr 4; omega) | (simp only [List.length_append, List.length_cons, List.length_nil, List.length_set]; rfl), by first | rfl | (simp only [AV.map, GV.map, CV.map, AB.map', id]; done) | (congr 3; omega) | (congr 4; omega) | (simp only [List.length_append, List.length_cons, List.length_nil, List.length_set]; rfl), by first | rfl | (simp only [AV.map, GV.map, CV.map, AB.map', id]; done) | (congr 3; omega) | (congr 4; omega) | (simp only [List.length_append, List.length_cons, List.length_nil, List.length_set]; rfl), by first | rfl | (simp only [AV.map, GV.map, CV.map, AB.map', id]; done) | (congr 3; omega) | (congr 4; omega) | (simp only [List.length_append, List.length_cons, List.length_nil, List.length_set]; rfl), by first | rfl | (simp only [AV.map, GV.map, CV.map, AB.map', id]; done) | (congr 3; omega) | (congr 4; omega) | (simp only [List.length_append, List.length_cons, List.length_nil, List.length_set]; rfl),  trivial⟩) (⟨by first | rfl | (simp only [AV.map, GV.map, CV.map, AB.map', id]; done) | (congr 3; omega) | (congr 4; omega) | (simp only [List.length_append, List.length_cons, List.length_nil, List.length_set]; rfl), by first | rfl | (simp only [AV.map, GV.map, CV.map, AB.map', id]; done) | (congr 3; omega) | (congr 4; omega) | (simp only [List.length_append, List.length_cons, List.length_nil, List.length_set]; rfl),  trivial⟩) rfl) ?_
          refine AC.region ?_
          refine AL.fast 3 rfl ?_
          refine AL.val (Wanted.plain rfl) (g_binI rfl rfl rfl (wrap_ok (by first | omega | (simp; done) | (simp; omega)))) rfl rfl ?_
          obtain ⟨r3, hr3⟩ : ∃ (r3 : List Entry), delL ((r1).set k0 (⟨x1.account, x1.sum + e.sum⟩ : Entry)) k0 ((k0) + 1) = r3 := ⟨_, rfl⟩
          refine AL.callM (n' := 5) (h' := [(4, (.arr 111 2 ((r3).map rEntry))), (1, (.box 111 [(cI e.account), (cI e.sum)]))]) (Wanted.plain rfl) (g_callM (fun k => if k = 0 then 3 else k) (fun k => if k = 0 then 4 else k) (c_Delete_Entry ((r1).set k0 (⟨x1.account, x1.sum + e.sum⟩ : Entry)) k0 ((k0) + 1) (by first | omega | (simp; done) | (simp; omega)) (by first | omega | (simp; done) | (simp; omega)) r3 hr3) en130 rfl rfl ⟨⟨_, rfl, .inl ⟨rfl, rfl⟩⟩, ⟨_, rfl, .inr (.c (.d _))⟩, ⟨_, rfl, .inr (.c (.d _))⟩,  trivial⟩ ⟨rfl,  trivial⟩ rfl rfl rfl rfl rfl rfl trivial ⟨(fun _ _ _ _ => trivial),  trivial⟩ rfl rfl rfl rfl) rfl rfl rfl rfl rfl rfl ?_
          refine AL.fast 1 rfl ?_
          refine AL.nil ?_
          refine then_ok ?_
          refine AC.seq ?_
          refine AC.region ?_
          refine AL.fast 4 rfl ?_
          refine AL.nil ?_
          refine then_ok ?_
          refine AC.ret ?_
          have hX : putE l e = (r3, false) := by
            rw [putE_ins hu hk0 (show hasE l e.account = false by simp_all) hr1 hx1 rfl]; unfold goodE; rw [if_pos (by omega), hr3]; refine Prod.ext rfl ?_; first | (simp; omega) | (simp_all; done) | (simp_all; omega)
          rw [hX] at hr; clear hX
          simp only [Prod.mk.injEq] at hr; obtain ⟨rfl, rfl⟩ := hr
          refine retQ_mk (av' := outOf [(.c (.s 0 0 2 r3.length)), (.c (cB false))]) (nb' := [(0, (.arr 111 2 ((r3).map rEntry)))]) (retQ_ret ⟨[(4, (aC (.s 0 0 2 r3.length))), (5, (aB false))], [(0, (.arr 111 2 ((r3).map rEntry)))], 1⟩ [.tmp 4, .tmp 5] [(.c (.s 0 0 2 r3.length)), (.c (cB false))] (Weak.ren (fun k => if k = 0 then 4 else k) (⟨by first | rfl | (simp only [AV.map, GV.map, CV.map, AB.map', id]; done) | (congr 3; omega) | (congr 4; omega) | (simp only [List.length_append, List.length_cons, List.length_nil, List.length_set]; rfl), by first | rfl | (simp only [AV.map, GV.map, CV.map, AB.map', id]; done) | (congr 3; omega) | (congr 4; omega) | (simp only [List.length_append, List.length_cons, List.length_nil, List.length_set]; rfl),  trivial⟩) (⟨by first | rfl | (simp only [AV.map, GV.map, CV.map, AB.map', id]; done) | (congr 3; omega) | (congr 4; omega) | (simp only [List.length_append, List.length_cons, List.length_nil, List.length_set]; rfl),  trivial⟩) rfl) rfl ⟨.tmp rfl, .tmp rfl, trivial⟩ ⟨by first | rfl | (simp only [AV.map, GV.map, CV.map, AB.map', id]; done) | (congr 3; omega) | (congr 4; omega) | (simp only [List.length_append, List.length_cons, List.length_nil, List.length_set]; rfl),  trivial⟩) ?_ ?_
          · first | rfl | (simp [outOf, aC]; done) | (simp [outOf, aC]; omega)
          · first | rfl | (simp; done) | (simp; omega)
        ·
          have hc4' := hc4; try simp only [sumB, Bool.not_eq_true', Bool.not_eq_false', Bool.or_eq_true, Bool.or_eq_false_iff, Bool.and_eq_true, Bool.and_eq_false_imp, decide_eq_true_eq, decide_eq_false_iff_not, Bool.not_not, Bool.not_true, Bool.not_false] at hc4'
          refine AC.skip ?_
          refine then_ok ?_
          refine AC.seq ?_
          refine AC.region ?_
          refine AL.fast 4 rfl ?_
          refine AL.nil ?_
          refine then_ok ?_
          refine AC.ret ?_
          have hX : putE l e = ((r1).set k0 (⟨x1.account, x1.sum + e.sum⟩ : Entry), false) := by
            rw [putE_ins hu hk0 (show hasE l e.account = false by simp_all) hr1 hx1 rfl]; unfold goodE; rw [if_neg (by omega)]; refine Prod.ext rfl ?_; first | (simp; omega) | (simp_all; done) | (simp_all; omega)
          rw [hX] at hr; clear hX
          simp only [Prod.mk.injEq] at hr; obtain ⟨rfl, rfl⟩ := hr
          refine retQ_mk (av' := outOf [(.c (.s 0 0 2 r1.length)), (.c (cB false))]) (nb' := [(0, (.arr 111 2 (((r1).set k0 (⟨x1.account, x1.sum + e.sum⟩ : Entry)).map rEntry)))]) (retQ_ret ⟨[(4, (aC (.s 0 0 2 r1.length))), (5, (aB false))], [(0, (.arr 111 2 (((r1).set k0 (⟨x1.account, x1.sum + e.sum⟩ : Entry)).map rEntry)))], 1⟩ [.tmp 4, .tmp 5] [(.c (.s 0 0 2 r1.length)), (.c (cB false))] (Weak.ren (fun k => if k = 0 then 3 else k) (⟨by first | rfl | (simp only [AV.map, GV.map, CV.map, AB.map', id]; done) | (congr 3; omega) | (congr 4; omega) | (simp only [List.length_append, List.length_cons, List.length_nil, List.length_set]; rfl), by first | rfl | (simp only [AV.map, GV.map, CV.map, AB.map', id]; done) | (congr 3; omega) | (congr 4; omega) | (simp only [List.length_append, List.length_cons, List.length_nil, List.length_set]; rfl),  trivial⟩) (⟨by first | rfl | (simp only [AV.map, GV.map, CV.map, AB.map', id]; done) | (congr 3; omega) | (congr 4; omega) | (simp only [List.length_append, List.length_cons, List.length_nil, List.length_set]; rfl),  trivial⟩) rfl) rfl ⟨.tmp rfl, .tmp rfl, trivial⟩ ⟨by first | rfl | (simp only [AV.map, GV.map, CV.map, AB.map', id]; done) | (congr 3; omega) | (congr 4; omega) | (simp only [List.length_append, List.length_cons, List.length_nil, List.length_set]; rfl),  trivial⟩) ?_ ?_
          · first | rfl | (simp [outOf, aC]; done) | (simp [outOf, aC]; omega)
          · first | rfl | (simp; done) | (simp; omega)
  ·
    have hc1' := hc1; try simp only [sumB, Bool.not_eq_true', Bool.not_eq_false', Bool.or_eq_true, Bool.or_eq_false_iff, Bool.and_eq_true, Bool.and_eq_false_imp, decide_eq_true_eq, decide_eq_false_iff_not, Bool.not_not, Bool.not_true, Bool.not_false] at hc1'
    refine AC.skip ?_
    refine then_ok ?_
    have hk0lt : k0 < l.length := by have := hasE_lt (l := l) (a := e.account) (by simp_all); omega
    refine AC.seq ?_
    obtain ⟨x1, hx1⟩ := exget (xs := l) (i := k0) (by first | omega | (simp; done) | (simp; omega))
    have hx1b := hb x1 (List.mem_of_getElem? hx1)
    refine AC.weak (st' := ⟨[(0, (aC (.s 0 0 2 l.length))), (3, (aC (.p 1 0 0 0))), (6, (aI (↑k0 : Int)))], [(1, (.box 111 [(cI e.account), (cI e.sum)])), (0, (.arr 111 2 ((l).map rEntry)))], 2⟩) (Weak.ren id (⟨by first | rfl | (simp only [AV.map, GV.map, CV.map, AB.map', id]; done) | (congr 3; omega) | (congr 4; omega) | (simp only [List.length_append, List.length_cons, List.length_nil, List.length_set]; rfl), by first | rfl | (simp only [AV.map, GV.map, CV.map, AB.map', id]; done) | (congr 3; omega) | (congr 4; omega) | (simp only [List.length_append, List.length_cons, List.length_nil, List.length_set]; rfl), by first | rfl | (simp only [AV.map, GV.map, CV.map, AB.map', id]; done) | (congr 3; omega) | (congr 4; omega) | (simp only [List.length_append, List.length_cons, List.length_nil, List.length_set]; rfl),  trivial⟩) (⟨by first | rfl | (simp only [AV.map, GV.map, CV.map, AB.map', id]; done) | (congr 3; omega) | (congr 4; omega) | (simp only [List.length_append, List.length_cons, List.length_nil, List.length_set]; rfl), by first | rfl | (simp only [AV.map, GV.map, CV.map, AB.map', id]; done) | (congr 3; omega) | (congr 4; omega) | (simp only [List.length_append, List.length_cons, List.length_nil, List.length_set]; rfl),  trivial⟩) rfl) ?_
    refine AC.draw [⟨some 25, (aC (.s 0 0 2 l.length)), [], [], [], [(0, (aC (.s 0 0 2 l.length)))], [(0, (.arr 111 2 ((l).map rEntry)))]⟩,
      ⟨some 26, (aI (↑k0 : Int)), [], [], [], [(6, (aI (↑k0 : Int)))], []⟩,
      ⟨some 27, (aC (.p 0 k0 2 0)), [], [], [0, 1], [(25, (aC (.s 0 0 2 l.length))), (26, (aI (↑k0 : Int)))], [(0, (.arr 111 2 ((l).map rEntry)))]⟩,
      ⟨some 28, (aC (.p 0 k0 2 1)), [], [], [2], [(27, (aC (.p 0 k0 2 0)))], [(0, (.arr 111 2 ((l).map rEntry)))]⟩,
      ⟨some 29, (aI x1.sum), [], [], [3], [(28, (aC (.p 0 k0 2 1)))], [(0, (.arr 111 2 ((l).map rEntry)))]⟩,
      ⟨some 30, (aC (.p 1 0 0 1)), [], [], [], [(3, (aC (.p 1 0 0 0)))], [(1, (.box 111 [(cI e.account), (cI e.sum)]))]⟩,
      ⟨some 31, (aI e.sum), [], [], [5], [(30, (aC (.p 1 0 0 1)))], [(1, (.box 111 [(cI e.account), (cI e.sum)]))]⟩,
      ⟨some 32, (aI (x1.sum + e.sum)), [], [], [4, 6], [(29, (aI x1.sum)), (31, (aI e.sum))], []⟩,
      ⟨some 33, (aC (.p 0 k0 2 0)), [], [], [0, 1], [(25, (aC (.s 0 0 2 l.length))), (26, (aI (↑k0 : Int)))], [(0, (.arr 111 2 ((l).map rEntry)))]⟩,
      ⟨some 34, (aC (.p 0 k0 2 1)), [], [], [8], [(33, (aC (.p 0 k0 2 0)))], [(0, (.arr 111 2 ((l).map rEntry)))]⟩] ⟨[(0, (aC (.s 0 0 2 l.length))), (3, (aC (.p 1 0 0 0))), (6, (aI (↑k0 : Int))), (32, (aI (x1.sum + e.sum))), (34, (aC (.p 0 k0 2 1)))], [(1, (.box 111 [(cI e.account), (cI e.sum)])), (0, (.arr 111 2 ((l).map rEntry)))], 2⟩ mixed (by kernel_rfl) ?_ ?_ ?_ ?_
    · exact ⟨.inl ⟨(Wanted.plain rfl), GOp.cast (g_move rfl rfl) rfl⟩,
      .inl ⟨(Wanted.plain rfl), GOp.cast (g_move rfl rfl) rfl⟩,
      .inl ⟨(Wanted.plain rfl), GOp.cast (g_indexP0 (i := k0) rfl rfl rfl Try.underlying102 sz111 (by first | omega | (simp; done) | (simp; omega)) (by first | omega | (simp; done) | (simp; omega))) rfl⟩,
      .inl ⟨(Wanted.plain rfl), GOp.cast (g_fieldP rfl rfl Try.underlying111 rfl sz3 (by decide)) rfl⟩,
      .inl ⟨(Wanted.plain rfl), GOp.cast (g_loadA rfl rfl rfl Try.underlying3 rfl (getmap hx1) rfl) rfl⟩,
      .inl ⟨(Wanted.plain rfl), GOp.cast (g_fieldP rfl rfl Try.underlying111 rfl sz3 (by decide)) rfl⟩,
      .inl ⟨(Wanted.plain rfl), GOp.cast (g_loadB rfl rfl rfl Try.underlying3 rfl rfl) rfl⟩,
      .inl ⟨(Wanted.plain rfl), GOp.cast (g_binI rfl rfl rfl (wrap_ok (by first | omega | (simp; done) | (simp; omega)))) rfl⟩,
      .inl ⟨(Wanted.plain rfl), GOp.cast (g_indexP0 (i := k0) rfl rfl rfl Try.underlying102 sz111 (by first | omega | (simp; done) | (simp; omega)) (by first | omega | (simp; done) | (simp; omega))) rfl⟩,
      .inl ⟨(Wanted.plain rfl), GOp.cast (g_fieldP rfl rfl Try.underlying111 rfl sz3 (by decide)) rfl⟩,
       trivial⟩
    · exact ⟨⟨⟨.inl rfl,  trivial⟩, ⟨.inl rfl,  trivial⟩⟩, ⟨⟨.inl rfl,  trivial⟩, trivial⟩, ⟨⟨.inr ⟨0, .head _, _, rfl, rfl, rfl⟩, .inr ⟨1, .tail _ (.head _), _, rfl, rfl, rfl⟩,  trivial⟩, ⟨.inl rfl,  trivial⟩⟩, ⟨⟨.inr ⟨2, .head _, _, rfl, rfl, rfl⟩,  trivial⟩, ⟨.inl rfl,  trivial⟩⟩, ⟨⟨.inr ⟨3, .head _, _, rfl, rfl, rfl⟩,  trivial⟩, ⟨.inl rfl,  trivial⟩⟩, ⟨⟨.inl rfl,  trivial⟩, ⟨.inl rfl,  trivial⟩⟩, ⟨⟨.inr ⟨5, .head _, _, rfl, rfl, rfl⟩,  trivial⟩, ⟨.inl rfl,  trivial⟩⟩, ⟨⟨.inr ⟨4, .head _, _, rfl, rfl, rfl⟩, .inr ⟨6, .tail _ (.head _), _, rfl, rfl, rfl⟩,  trivial⟩, trivial⟩, ⟨⟨.inr ⟨0, .head _, _, rfl, rfl, rfl⟩, .inr ⟨1, .tail _ (.head _), _, rfl, rfl, rfl⟩,  trivial⟩, ⟨.inl rfl,  trivial⟩⟩, ⟨⟨.inr ⟨8, .head _, _, rfl, rfl, rfl⟩,  trivial⟩, ⟨.inl rfl,  trivial⟩⟩,  trivial⟩
    · exact ⟨⟨.inl rfl, .inl rfl, .inl rfl, .inr ⟨7, _, rfl, rfl, rfl⟩, .inr ⟨9, _, rfl, rfl, rfl⟩,  trivial⟩, ⟨.inl rfl, .inl rfl,  trivial⟩⟩
    ·
      refine AL.sto (h' := [(1, (.box 111 [(cI e.account), (cI e.sum)])), (0, (.arr 111 2 (((l).set k0 (⟨x1.account, x1.sum + e.sum⟩ : Entry)).map rEntry)))]) (Wanted.plain rfl) (g_storeA (ds := [(dI (x1.sum + e.sum))]) rfl rfl rfl rfl rfl sz3 rfl (Nat.le_of_ble_eq_true rfl) (getmap hx1) rfl (setmap (x' := (⟨x1.account, x1.sum + e.sum⟩ : Entry)) rfl)) rfl rfl rfl rfl ?_
      refine AL.nil ?_
      refine then_ok ?_
      refine AC.seq ?_
      refine AC.region ?_
      refine AL.fast 2 rfl ?_
      refine AL.val (Wanted.plain rfl) (g_indexP0 (i := k0) rfl rfl rfl Try.underlying102 sz111 (by first | omega | (simp; done) | (simp; omega)) (by first | omega | (simp; done) | (simp; omega))) rfl rfl ?_
      refine AL.val (Wanted.plain rfl) (g_fieldP rfl rfl Try.underlying111 rfl sz3 (by decide)) rfl rfl ?_
      obtain ⟨x2, hx2⟩ := exget (xs := ((l).set k0 (⟨x1.account, x1.sum + e.sum⟩ : Entry))) (i := k0) (by first | omega | (simp; done) | (simp; omega))
      have hx2e := set_at hx2
      have hx2s : x2.sum = x1.sum + e.sum := by rw [hx2e]
      refine AL.val (Wanted.plain rfl) (g_loadA rfl rfl rfl Try.underlying3 rfl (getmap hx2) rfl) rfl rfl ?_
      refine AL.val (Wanted.plain rfl) (g_binI rfl rfl rfl rfl) rfl rfl ?_
      refine AL.fast 1 rfl ?_
      refine AL.dec (t := 41) rfl (fun hb5 => ?_) (fun hb5 => ?_)
      ·
        have hb5' := hb5; try simp only [sumB, Bool.not_eq_true', Bool.not_eq_false', Bool.or_eq_true, Bool.or_eq_false_iff, Bool.and_eq_true, Bool.and_eq_false_imp, decide_eq_true_eq, decide_eq_false_iff_not, Bool.not_not, Bool.not_true, Bool.not_false] at hb5'
        refine AL.fast 2 rfl ?_
        refine AL.val (Wanted.yes rfl rfl rfl) (g_indexP0 (i := k0) rfl rfl rfl Try.underlying102 sz111 (by first | omega | (simp; done) | (simp; omega)) (by first | omega | (simp; done) | (simp; omega))) rfl rfl ?_
        refine AL.val (Wanted.yes rfl rfl rfl) (g_fieldP rfl rfl Try.underlying111 rfl sz3 (by decide)) rfl rfl ?_
        refine AL.val (Wanted.yes rfl rfl rfl) (g_loadA rfl rfl rfl Try.underlying3 rfl (getmap hx2) rfl) rfl rfl ?_
        refine AL.val (Wanted.yes rfl rfl rfl) (g_binI rfl rfl rfl rfl) rfl rfl ?_
        refine AL.fast 2 rfl ?_
        refine AL.nil ?_
        refine then_ok ?_
        refine AC.seq ?_
        refine AC.seq ?_
        refine AC.region ?_
        refine AL.fast 2 rfl ?_
        refine AL.val (Wanted.plain rfl) (g_indexP0 (i := k0) rfl rfl rfl Try.underlying102 sz111 (by first | omega | (simp; done) | (simp; omega)) (by first | omega | (simp; done) | (simp; omega))) rfl rfl ?_
        refine AL.val (Wanted.plain rfl) (g_fieldP rfl rfl Try.underlying111 rfl sz3 (by decide)) rfl rfl ?_
        refine AL.val (Wanted.plain rfl) (g_loadA rfl rfl rfl Try.underlying3 rfl (getmap hx2) rfl) rfl rfl ?_
        refine AL.val (Wanted.plain rfl) (g_binI rfl rfl rfl rfl) rfl rfl ?_
        refine AL.nil ?_
        refine then_ok ?_
        refine AC.cond rfl (fun hc6 => ?_) (fun hc6 => ?_)
        ·
          have hc6' := hc6; try simp only [sumB, Bool.not_eq_true', Bool.not_eq_false', Bool.or_eq_true, Bool.or_eq_false_iff, Bool.and_eq_true, Bool.and_eq_false_imp, decide_eq_true_eq, decide_eq_false_iff_not, Bool.not_not, Bool.not_true, Bool.not_false] at hc6'
          refine AC.weak (st' := ⟨[(0, (aC (.s 0 0 2 (((l).set k0 (⟨x1.account, x1.sum + e.sum⟩ : Entry)).length)))), (3, (aC (.p 1 0 0 0))), (6, (aI (↑k0 : Int))), (32, (aI (x1.sum + e.sum))), (34, (aC (.p 0 k0 2 1))), (35, (aC (.s 0 0 2 l.length))), (36, (aI (↑k0 : Int))), (37, (aC (.p 0 k0 2 0))), (38, (aC (.p 0 k0 2 1))), (39, (aI x2.sum)), (40, (aB (decide (x2.sum ≥ (-1000000000000))))), (41, (aB true)), (42, (aC (.s 0 0 2 l.length))), (43, (aI (↑k0 : Int))), (44, (aC (.p 0 k0 2 0))), (45, (aC (.p 0 k0 2 1))), (46, (aI x2.sum)), (47, (aB (decide (x2.sum ≤ 1000000000000)))), (48, (aB (decide (x2.sum ≤ 1000000000000)))), (8, (aB (decide (x2.sum ≤ 1000000000000)))), (49, (aC (.s 0 0 2 l.length))), (50, (aI (↑k0 : Int))), (51, (aC (.p 0 k0 2 0))), (52, (aC (.p 0 k0 2 1))), (53, (aI x2.sum)), (54, (aB (decide (x2.sum = 0))))], [(1, (.box 111 [(cI e.account), (cI e.sum)])), (0, (.arr 111 2 (((l).set k0 (⟨x1.account, x1.sum + e.sum⟩ : Entry)).map rEntry)))], 2⟩) (Weak.ren id (⟨by first | rfl | (simp only [AV.map, GV.map, CV.map, AB.map', id]; done) | (congr 3; omega) | (congr 4; omega) | (simp only [List.length_append, List.length_cons, List.length_nil, List.length_set]; rfl), by first | rfl | (simp only [AV.map, GV.map, CV.map, AB.map', id]; done) | (congr 3; omega) | (congr 4; omega) | (simp only [List.length_append, List.length_cons, List.length_nil, List.length_set]; rfl), by first | rfl | (simp only [AV.map, GV.map, CV.map, AB.map', id]; done) | (congr 3; omega) | (congr 4; omega) | (simp only [List.length_append, List.length_cons, List.length_nil, List.length_set]; rfl), by first | rfl | (simp only [AV.map, GV.map, CV.map, AB.map', id]; done) | (congr 3; omega) | (congr 4; omega) | (simp only [List.length_append, List.length_cons, List.length_nil, List.length_set]; rfl), by first | rfl | (simp only [AV.map, GV.map, CV.map, AB.map', id]; done) | (congr 3; omega) | (congr 4; omega) | (simp only [List.length_append, List.length_cons, List.length_nil, List.length_set]; rfl), by first | rfl | (simp only [AV.map, GV.map, CV.map, AB.map', id]; done) | (congr 3; omega) | (congr 4; omega) | (simp only [List.length_append, List.length_cons, List.length_nil, List.length_set]; rfl), by first | rfl | (simp only [AV.map, GV.map, CV.map, AB.map', id]; done) | (congr 3; omega) | (congr 4; omega) | (simp only [List.length_append, List.length_cons, List.length_nil, List.length_set]; rfl), by first | rfl | (simp only [AV.map, GV.map, CV.map, AB.map', id]; done) | (congr 3; omega) | (congr 4; omega) | (simp only [List.length_append, List.length_cons, List.length_nil, List.length_set]; rfl), by first | rfl | (simp only [AV.map, GV.map, CV.map, AB.map', id]; done) | (congr 3; omega) | (congr 4; omega) | (simp only [List.length_append, List.length_cons, List.length_nil, List.length_set]; rfl), by first | rfl | (simp only [AV.map, GV.map, CV.map, AB.map', id]; done) | (congr 3; omega) | (congr 4; omega) | (simp only [List.length_append, List.length_cons, List.length_nil, List.length_set]; rfl), by first | rfl | (simp only [AV.map, GV.map, CV.map, AB.map', id]; done) | (congr 3; omega) | (congr 4; omega) | (simp only [List.length_append, List.length_cons, List.length_nil, List.length_set]; rfl), by first | rfl | (simp only [AV.map, GV.map, CV.map, AB.map', id]; done) | (congr 3; omega) | (congr 4; omega) | (simp only [List.length_append, List.length_cons, List.length_nil, List.length_set]; rfl), by first | rfl | (simp only [AV.map, GV.map, CV.map, AB.map', id]; done) | (congr 3; omega) | (congr 4; omega) | (simp only [List.length_append, List.length_cons, List.length_nil, List.length_set]; rfl), by first | rfl | (simp only [AV.map, GV.map, CV.map, AB.map', id]; done) | (congr 3; omega) | (congr 4; omega) | (simp only [List.length_append, List.length_cons, List.length_nil, List.length_set]; rfl), by first | rfl | (simp only [AV.map, GV.map, CV.map, AB.map', id]; done) | (congr 3; omega) | (congr 4; omega) | (simp only [List.length_append, List.length_cons, List.length_nil, List.length_set]; rfl), by first | rfl | (simp only [AV.map, GV.map, CV.map, AB.map', id]; done) | (congr 3; omega) | (congr 4; omega) | (simp only [List.length_append, List.length_cons, List.length_nil, List.length_set]; rfl), by first | rfl | (simp only [AV.map, GV.map, CV.map, AB.map', id]; done) | (congr 3; omega) | (congr 4; omega) | (simp only [List.length_append, List.length_cons, List.length_nil, List.length_set]; rfl), by first | rfl | (simp only [AV.map, GV.map, CV.map, AB.map', id]; done) | (congr 3; omega) | (congr 4; omega) | (simp only [List.length_append, List.length_cons, List.length_nil, List.length_set]; rfl), by first | rfl | (simp only [AV.map, GV.map, CV.map, AB.map', id]; done) | (congr 3; omega) | (congr 4; omega) | (simp only [List.length_append, List.length_cons, List.length_nil, List.length_set]; rfl), by first | rfl | (simp only [AV.map, GV.map, CV.map, AB.map', id]; done) | (congr 3; omega) | (congr 4; omega) | (simp only [List.length_append, List.length_cons, List.length_nil, List.length_set]; rfl), by first | rfl | (simp only [AV.map, GV.map, CV.map, AB.map', id]; done) | (congr 3; omega) | (congr 4; omega) | (simp only [List.length_append, List.length_cons, List.length_nil, List.length_set]; rfl), by first | rfl | (simp only [AV.map, GV.map, CV.map, AB.map', id]; done) | (congr 3; omega) | (congr 4; omega) | (simp only [List.length_append, List.length_cons, List.length_nil, List.length_set]; rfl), by first | rfl | (simp only [AV.map, GV.map, CV.map, AB.map', id]; done) | (congr 3; omega) | (congr 4; omega) | (simp only [List.length_append, List.length_cons, List.length_nil, List.length_set]; rfl), by first | rfl | (simp only [AV.map, GV.map, CV.map, AB.map', id]; done) | (congr 3; omega) | (congr 4; omega) | (simp only [List.length_append, List.length_cons, List.length_nil, List.length_set]; rfl), by first | rfl | (simp only [AV.map, GV.map, CV.map, AB.map', id]; done) | (congr 3; omega) | (congr 4; omega) | (simp only [List.length_append, List.length_cons, List.length_nil, List.length_set]; rfl), by first | rfl | (simp only [AV.map, GV.map, CV.map, AB.map', id]; done) | (congr 3; omega) | (congr 4; omega) | (simp only [List.length_append, List.length_cons, List.length_nil, List.length_set]; rfl),  trivial⟩) (⟨by first | rfl | (simp only [AV.map, GV.map, CV.map, AB.map', id]; done) | (congr 3; omega) | (congr 4; omega) | (simp only [List.length_append, List.length_cons, List.length_nil, List.length_set]; rfl), by first | rfl | (simp only [AV.map, GV.map, CV.map, AB.map', id]; done) | (congr 3; omega) | (congr 4; omega) | (simp only [List.length_append, List.length_cons, List.length_nil, List.length_set]; rfl),  trivial⟩) rfl) ?_
          refine AC.region ?_
          refine AL.fast 3 rfl ?_
          refine AL.val (Wanted.plain rfl) (g_binI rfl rfl rfl (wrap_ok (by first | omega | (simp; done) | (simp; omega)))) rfl rfl ?_
          obtain ⟨r4, hr4⟩ : ∃ (r4 : List Entry), delL ((l).set k0 (⟨x1.account, x1.sum + e.sum⟩ : Entry)) k0 ((k0) + 1) = r4 := ⟨_, rfl⟩
          refine AL.callM (n' := 3) (h' := [(2, (.arr 111 2 ((r4).map rEntry))), (1, (.box 111 [(cI e.account), (cI e.sum)]))]) (Wanted.plain rfl) (g_callM (fun k => k) (fun k => if k = 0 then 2 else k) (c_Delete_Entry ((l).set k0 (⟨x1.account, x1.sum + e.sum⟩ : Entry)) k0 ((k0) + 1) (by first | omega | (simp; done) | (simp; omega)) (by first | omega | (simp; done) | (simp; omega)) r4 hr4) en130 rfl rfl ⟨⟨_, rfl, .inl ⟨rfl, rfl⟩⟩, ⟨_, rfl, .inr (.c (.d _))⟩, ⟨_, rfl, .inr (.c (.d _))⟩,  trivial⟩ ⟨rfl,  trivial⟩ rfl rfl rfl rfl rfl rfl trivial ⟨(fun _ _ _ _ => trivial),  trivial⟩ rfl rfl rfl rfl) rfl rfl rfl rfl rfl rfl ?_
          refine AL.fast 1 rfl ?_
          refine AL.nil ?_
          refine then_ok ?_
          refine AC.seq ?_
          refine AC.region ?_
          refine AL.fast 4 rfl ?_
          refine AL.nil ?_
          refine then_ok ?_
          refine AC.ret ?_
          have hX : putE l e = (r4, decide (x2.sum ≤ 1000000000000)) := by
            rw [putE_has hu hk0 (show hasE l e.account = true by simp_all) hx1 rfl]; unfold goodE; rw [if_pos (by omega), hr4]; refine Prod.ext rfl ?_; first | (simp; omega) | (simp_all; done) | (simp_all; omega)
          rw [hX] at hr; clear hX
          simp only [Prod.mk.injEq] at hr; obtain ⟨rfl, rfl⟩ := hr
          refine retQ_mk (av' := outOf [(.c (.s 0 0 2 r4.length)), (.c (cB (decide (x2.sum ≤ 1000000000000))))]) (nb' := [(0, (.arr 111 2 ((r4).map rEntry)))]) (retQ_ret ⟨[(4, (aC (.s 0 0 2 r4.length))), (5, (aB (decide (x2.sum ≤ 1000000000000))))], [(0, (.arr 111 2 ((r4).map rEntry)))], 1⟩ [.tmp 4, .tmp 5] [(.c (.s 0 0 2 r4.length)), (.c (cB (decide (x2.sum ≤ 1000000000000))))] (Weak.ren (fun k => if k = 0 then 2 else k) (⟨by first | rfl | (simp only [AV.map, GV.map, CV.map, AB.map', id]; done) | (congr 3; omega) | (congr 4; omega) | (simp only [List.length_append, List.length_cons, List.length_nil, List.length_set]; rfl), by first | rfl | (simp only [AV.map, GV.map, CV.map, AB.map', id]; done) | (congr 3; omega) | (congr 4; omega) | (simp only [List.length_append, List.length_cons, List.length_nil, List.length_set]; rfl),  trivial⟩) (⟨by first | rfl | (simp only [AV.map, GV.map, CV.map, AB.map', id]; done) | (congr 3; omega) | (congr 4; omega) | (simp only [List.length_append, List.length_cons, List.length_nil, List.length_set]; rfl),  trivial⟩) rfl) rfl ⟨.tmp rfl, .tmp rfl, trivial⟩ ⟨by first | rfl | (simp only [AV.map, GV.map, CV.map, AB.map', id]; done) | (congr 3; omega) | (congr 4; omega) | (simp only [List.length_append, List.length_cons, List.length_nil, List.length_set]; rfl),  trivial⟩) ?_ ?_
          · first | rfl | (simp [outOf, aC]; done) | (simp [outOf, aC]; omega)
          · first | rfl | (simp; done) | (simp; omega)
        ·
          have hc6' := hc6; try simp only [sumB, Bool.not_eq_true', Bool.not_eq_false', Bool.or_eq_true, Bool.or_eq_false_iff, Bool.and_eq_true, Bool.and_eq_false_imp, decide_eq_true_eq, decide_eq_false_iff_not, Bool.not_not, Bool.not_true, Bool.not_false] at hc6'
          refine AC.skip ?_
          refine then_ok ?_
          refine AC.seq ?_
          refine AC.region ?_
          refine AL.fast 4 rfl ?_
          refine AL.nil ?_
          refine then_ok ?_
          refine AC.ret ?_
          have hX : putE l e = ((l).set k0 (⟨x1.account, x1.sum + e.sum⟩ : Entry), decide (x2.sum ≤ 1000000000000)) := by
            rw [putE_has hu hk0 (show hasE l e.account = true by simp_all) hx1 rfl]; unfold goodE; rw [if_neg (by omega)]; refine Prod.ext rfl ?_; first | (simp; omega) | (simp_all; done) | (simp_all; omega)
          rw [hX] at hr; clear hX
          simp only [Prod.mk.injEq] at hr; obtain ⟨rfl, rfl⟩ := hr
          refine retQ_mk (av' := outOf [(.c (.s 0 0 2 l.length)), (.c (cB (decide (x2.sum ≤ 1000000000000))))]) (nb' := [(0, (.arr 111 2 (((l).set k0 (⟨x1.account, x1.sum + e.sum⟩ : Entry)).map rEntry)))]) (retQ_ret ⟨[(4, (aC (.s 0 0 2 l.length))), (5, (aB (decide (x2.sum ≤ 1000000000000))))], [(0, (.arr 111 2 (((l).set k0 (⟨x1.account, x1.sum + e.sum⟩ : Entry)).map rEntry)))], 1⟩ [.tmp 4, .tmp 5] [(.c (.s 0 0 2 l.length)), (.c (cB (decide (x2.sum ≤ 1000000000000))))] (Weak.ren (fun k => if k = 0 then 0 else k) (⟨by first | rfl | (simp only [AV.map, GV.map, CV.map, AB.map', id]; done) | (congr 3; omega) | (congr 4; omega) | (simp only [List.length_append, List.length_cons, List.length_nil, List.length_set]; rfl), by first | rfl | (simp only [AV.map, GV.map, CV.map, AB.map', id]; done) | (congr 3; omega) | (congr 4; omega) | (simp only [List.length_append, List.length_cons, List.length_nil, List.length_set]; rfl),  trivial⟩) (⟨by first | rfl | (simp only [AV.map, GV.map, CV.map, AB.map', id]; done) | (congr 3; omega) | (congr 4; omega) | (simp only [List.length_append, List.length_cons, List.length_nil, List.length_set]; rfl),  trivial⟩) rfl) rfl ⟨.tmp rfl, .tmp rfl, trivial⟩ ⟨by first | rfl | (simp only [AV.map, GV.map, CV.map, AB.map', id]; done) | (congr 3; omega) | (congr 4; omega) | (simp only [List.length_append, List.length_cons, List.length_nil, List.length_set]; rfl),  trivial⟩) ?_ ?_
          · first | rfl | (simp [outOf, aC]; done) | (simp [outOf, aC]; omega)
          · first | rfl | (simp; done) | (simp; omega)
      ·
        have hb5' := hb5; try simp only [sumB, Bool.not_eq_true', Bool.not_eq_false', Bool.or_eq_true, Bool.or_eq_false_iff, Bool.and_eq_true, Bool.and_eq_false_imp, decide_eq_true_eq, decide_eq_false_iff_not, Bool.not_not, Bool.not_true, Bool.not_false] at hb5'
        refine AL.fast 8 rfl ?_
        refine AL.nil ?_
        refine then_ok ?_
        refine AC.seq ?_
        refine AC.seq ?_
        refine AC.region ?_
        refine AL.fast 2 rfl ?_
        refine AL.val (Wanted.plain rfl) (g_indexP0 (i := k0) rfl rfl rfl Try.underlying102 sz111 (by first | omega | (simp; done) | (simp; omega)) (by first | omega | (simp; done) | (simp; omega))) rfl rfl ?_
        refine AL.val (Wanted.plain rfl) (g_fieldP rfl rfl Try.underlying111 rfl sz3 (by decide)) rfl rfl ?_
        refine AL.val (Wanted.plain rfl) (g_loadA rfl rfl rfl Try.underlying3 rfl (getmap hx2) rfl) rfl rfl ?_
        refine AL.val (Wanted.plain rfl) (g_binI rfl rfl rfl rfl) rfl rfl ?_
        refine AL.nil ?_
        refine then_ok ?_
        refine AC.cond rfl (fun hc7 => ?_) (fun hc7 => ?_)
        ·
          have hc7' := hc7; try simp only [sumB, Bool.not_eq_true', Bool.not_eq_false', Bool.or_eq_true, Bool.or_eq_false_iff, Bool.and_eq_true, Bool.and_eq_false_imp, decide_eq_true_eq, decide_eq_false_iff_not, Bool.not_not, Bool.not_true, Bool.not_false] at hc7'
          refine AC.weak (st' := ⟨[(0, (aC (.s 0 0 2 (((l).set k0 (⟨x1.account, x1.sum + e.sum⟩ : Entry)).length)))), (3, (aC (.p 1 0 0 0))), (6, (aI (↑k0 : Int))), (32, (aI (x1.sum + e.sum))), (34, (aC (.p 0 k0 2 1))), (35, (aC (.s 0 0 2 l.length))), (36, (aI (↑k0 : Int))), (37, (aC (.p 0 k0 2 0))), (38, (aC (.p 0 k0 2 1))), (39, (aI x2.sum)), (40, (aB (decide (x2.sum ≥ (-1000000000000))))), (41, (aB false)), (48, (aB false)), (8, (aB false)), (49, (aC (.s 0 0 2 l.length))), (50, (aI (↑k0 : Int))), (51, (aC (.p 0 k0 2 0))), (52, (aC (.p 0 k0 2 1))), (53, (aI x2.sum)), (54, (aB (decide (x2.sum = 0))))], [(1, (.box 111 [(cI e.account), (cI e.sum)])), (0, (.arr 111 2 (((l).set k0 (⟨x1.account, x1.sum + e.sum⟩ : Entry)).map rEntry)))], 2⟩) (Weak.ren id (⟨by first | rfl | (simp only [AV.map, GV.map, CV.map, AB.map', id]; done) | (congr 3; omega) | (congr 4; omega) | (simp only [List.length_append, List.length_cons, List.length_nil, List.length_set]; rfl), by first | rfl | (simp only [AV.map, GV.map, CV.map, AB.map', id]; done) | (congr 3; omega) | (congr 4; omega) | (simp only [List.length_append, List.length_cons, List.length_nil, List.length_set]; rfl), by first | rfl | (simp only [AV.map, GV.map, CV.map, AB.map', id]; done) | (congr 3; omega) | (congr 4; omega) | (simp only [List.length_append, List.length_cons, List.length_nil, List.length_set]; rfl), by first | rfl | (simp only [AV.map, GV.map, CV.map, AB.map', id]; done) | (congr 3; omega) | (congr 4; omega) | (simp only [List.length_append, List.length_cons, List.length_nil, List.length_set]; rfl), by first | rfl | (simp only [AV.map, GV.map, CV.map, AB.map', id]; done) | (congr 3; omega) | (congr 4; omega) | (simp only [List.length_append, List.length_cons, List.length_nil, List.length_set]; rfl), by first | rfl | (simp only [AV.map, GV.map, CV.map, AB.map', id]; done) | (congr 3; omega) | (congr 4; omega) | (simp only [List.length_append, List.length_cons, List.length_nil, List.length_set]; rfl), by first | rfl | (simp only [AV.map, GV.map, CV.map, AB.map', id]; done) | (congr 3; omega) | (congr 4; omega) | (simp only [List.length_append, List.length_cons, List.length_nil, List.length_set]; rfl), by first | rfl | (simp only [AV.map, GV.map, CV.map, AB.map', id]; done) | (congr 3; omega) | (congr 4; omega) | (simp only [List.length_append, List.length_cons, List.length_nil, List.length_set]; rfl), by first | rfl | (simp only [AV.map, GV.map, CV.map, AB.map', id]; done) | (congr 3; omega) | (congr 4; omega) | (simp only [List.length_append, List.length_cons, List.length_nil, List.length_set]; rfl), by first | rfl | (simp only [AV.map, GV.map, CV.map, AB.map', id]; done) | (congr 3; omega) | (congr 4; omega) | (simp only [List.length_append, List.length_cons, List.length_nil, List.length_set]; rfl), by first | rfl | (simp only [AV.map, GV.map, CV.map, AB.map', id]; done) | (congr 3; omega) | (congr 4; omega) | (simp only [List.length_append, List.length_cons, List.length_nil, List.length_set]; rfl), by first | rfl | (simp only [AV.map, GV.map, CV.map, AB.map', id]; done) | (congr 3; omega) | (congr 4; omega) | (simp only [List.length_append, List.length_cons, List.length_nil, List.length_set]; rfl), by first | rfl | (simp only [AV.map, GV.map, CV.map, AB.map', id]; done) | (congr 3; omega) | (congr 4; omega) | (simp only [List.length_append, List.length_cons, List.length_nil, List.length_set]; rfl), by first | rfl | (simp only [AV.map, GV.map, CV.map, AB.map', id]; done) | (congr 3; omega) | (congr 4; omega) | (simp only [List.length_append, List.length_cons, List.length_nil, List.length_set]; rfl), by first | rfl | (simp only [AV.map, GV.map, CV.map, AB.map', id]; done) | (congr 3; omega) | (congr 4; omega) | (simp only [List.length_append, List.length_cons, List.length_nil, List.length_set]; rfl), by first | rfl | (simp only [AV.map, GV.map, CV.map, AB.map', id]; done) | (congr 3; omega) | (congr 4; omega) | (simp only [List.length_append, List.length_cons, List.length_nil, List.length_set]; rfl), by first | rfl | (simp only [AV.map, GV.map, CV.map, AB.map', id]; done) | (congr 3; omega) | (congr 4; omega) | (simp only [List.length_append, List.length_cons, List.length_nil, List.length_set]; rfl), by first | rfl | (simp only [AV.map, GV.map, CV.map, AB.map', id]; done) | (congr 3; omega) | (congr 4; omega) | (simp only [List.length_append, List.length_cons, List.length_nil, List.length_set]; rfl), by first | rfl | (simp only [AV.map, GV.map, CV.map, AB.map', id]; done) | (congr 3; omega) | (congr 4; omega) | (simp only [List.length_append, List.length_cons, List.length_nil, List.length_set]; rfl), by first | rfl | (simp only [AV.map, GV.map, CV.map, AB.map', id]; done) | (congr 3; omega) | (congr 4; omega) | (simp only [List.length_append, List.length_cons, List.length_nil, List.length_set]; rfl),  trivial⟩) (⟨by first | rfl | (simp only [AV.map, GV.map, CV.map, AB.map', id]; done) | (congr 3; omega) | (congr 4; omega) | (simp only [List.length_append, List.length_cons, List.length_nil, List.length_set]; rfl), by first | rfl | (simp only [AV.map, GV.map, CV.map, AB.map', id]; done) | (congr 3; omega) | (congr 4; omega) | (simp only [List.length_append, List.length_cons, List.length_nil, List.length_set]; rfl),  trivial⟩) rfl) ?_
          refine AC.region ?_
          refine AL.fast 3 rfl ?_
          refine AL.val (Wanted.plain rfl) (g_binI rfl rfl rfl (wrap_ok (by first | omega | (simp; done) | (simp; omega)))) rfl rfl ?_
          obtain ⟨r5, hr5⟩ : ∃ (r5 : List Entry), delL ((l).set k0 (⟨x1.account, x1.sum + e.sum⟩ : Entry)) k0 ((k0) + 1) = r5 := ⟨_, rfl⟩
          refine AL.callM (n' := 3) (h' := [(2, (.arr 111 2 ((r5).map rEntry))), (1, (.box 111 [(cI e.account), (cI e.sum)]))]) (Wanted.plain rfl) (g_callM (fun k => k) (fun k => if k = 0 then 2 else k) (c_Delete_Entry ((l).set k0 (⟨x1.account, x1.sum + e.sum⟩ : Entry)) k0 ((k0) + 1) (by first | omega | (simp; done) | (simp; omega)) (by first | omega | (simp; done) | (simp; omega)) r5 hr5) en130 rfl rfl ⟨⟨_, rfl, .inl ⟨rfl, rfl⟩⟩, ⟨_, rfl, .inr (.c (.d _))⟩, ⟨_, rfl, .inr (.c (.d _))⟩,  trivial⟩ ⟨rfl,  trivial⟩ rfl rfl rfl rfl rfl rfl trivial ⟨(fun _ _ _ _ => trivial),  trivial⟩ rfl rfl rfl rfl) rfl rfl rfl rfl rfl rfl ?_
          refine AL.fast 1 rfl ?_
          refine AL.nil ?_
          refine then_ok ?_
          refine AC.seq ?_
          refine AC.region ?_
          refine AL.fast 4 rfl ?_
          refine AL.nil ?_
          refine then_ok ?_
          refine AC.ret ?_
          have hX : putE l e = (r5, false) := by
            rw [putE_has hu hk0 (show hasE l e.account = true by simp_all) hx1 rfl]; unfold goodE; rw [if_pos (by omega), hr5]; refine Prod.ext rfl ?_; first | (simp; omega) | (simp_all; done) | (simp_all; omega)
          rw [hX] at hr; clear hX
          simp only [Prod.mk.injEq] at hr; obtain ⟨rfl, rfl⟩ := hr
          refine retQ_mk (av' := outOf [(.c (.s 0 0 2 r5.length)), (.c (cB false))]) (nb' := [(0, (.arr 111 2 ((r5).map rEntry)))]) (retQ_ret ⟨[(4, (aC (.s 0 0 2 r5.length))), (5, (aB false))], [(0, (.arr 111 2 ((r5).map rEntry)))], 1⟩ [.tmp 4, .tmp 5] [(.c (.s 0 0 2 r5.length)), (.c (cB false))] (Weak.ren (fun k => if k = 0 then 2 else k) (⟨by first | rfl | (simp only [AV.map, GV.map, CV.map, AB.map', id]; done) | (congr 3; omega) | (congr 4; omega) | (simp only [List.length_append, List.length_cons, List.length_nil, List.length_set]; rfl), by first | rfl | (simp only [AV.map, GV.map, CV.map, AB.map', id]; done) | (congr 3; omega) | (congr 4; omega) | (simp only [List.length_append, List.length_cons, List.length_nil, List.length_set]; rfl),  trivial⟩) (⟨by first | rfl | (simp only [AV.map, GV.map, CV.map, AB.map', id]; done) | (congr 3; omega) | (congr 4; omega) | (simp only [List.length_append, List.length_cons, List.length_nil, List.length_set]; rfl),  trivial⟩) rfl) rfl ⟨.tmp rfl, .tmp rfl, trivial⟩ ⟨by first | rfl | (simp only [AV.map, GV.map, CV.map, AB.map', id]; done) | (congr 3; omega) | (congr 4; omega) | (simp only [List.length_append, List.length_cons, List.length_nil, List.length_set]; rfl),  trivial⟩) ?_ ?_
          · first | rfl | (simp [outOf, aC]; done) | (simp [outOf, aC]; omega)
          · first | rfl | (simp; done) | (simp; omega)
        ·
          have hc7' := hc7; try simp only [sumB, Bool.not_eq_true', Bool.not_eq_false', Bool.or_eq_true, Bool.or_eq_false_iff, Bool.and_eq_true, Bool.and_eq_false_imp, decide_eq_true_eq, decide_eq_false_iff_not, Bool.not_not, Bool.not_true, Bool.not_false] at hc7'
          refine AC.skip ?_
          refine then_ok ?_
          refine AC.seq ?_
          refine AC.region ?_
          refine AL.fast 4 rfl ?_
          refine AL.nil ?_
          refine then_ok ?_
          refine AC.ret ?_
          have hX : putE l e = ((l).set k0 (⟨x1.account, x1.sum + e.sum⟩ : Entry), false) := by
            rw [putE_has hu hk0 (show hasE l e.account = true by simp_all) hx1 rfl]; unfold goodE; rw [if_neg (by omega)]; refine Prod.ext rfl ?_; first | (simp; omega) | (simp_all; done) | (simp_all; omega)
          rw [hX] at hr; clear hX
          simp only [Prod.mk.injEq] at hr; obtain ⟨rfl, rfl⟩ := hr
          refine retQ_mk (av' := outOf [(.c (.s 0 0 2 l.length)), (.c (cB false))]) (nb' := [(0, (.arr 111 2 (((l).set k0 (⟨x1.account, x1.sum + e.sum⟩ : Entry)).map rEntry)))]) (retQ_ret ⟨[(4, (aC (.s 0 0 2 l.length))), (5, (aB false))], [(0, (.arr 111 2 (((l).set k0 (⟨x1.account, x1.sum + e.sum⟩ : Entry)).map rEntry)))], 1⟩ [.tmp 4, .tmp 5] [(.c (.s 0 0 2 l.length)), (.c (cB false))] (Weak.ren (fun k => if k = 0 then 0 else k) (⟨by first | rfl | (simp only [AV.map, GV.map, CV.map, AB.map', id]; done) | (congr 3; omega) | (congr 4; omega) | (simp only [List.length_append, List.length_cons, List.length_nil, List.length_set]; rfl), by first | rfl | (simp only [AV.map, GV.map, CV.map, AB.map', id]; done) | (congr 3; omega) | (congr 4; omega) | (simp only [List.length_append, List.length_cons, List.length_nil, List.length_set]; rfl),  trivial⟩) (⟨by first | rfl | (simp only [AV.map, GV.map, CV.map, AB.map', id]; done) | (congr 3; omega) | (congr 4; omega) | (simp only [List.length_append, List.length_cons, List.length_nil, List.length_set]; rfl),  trivial⟩) rfl) rfl ⟨.tmp rfl, .tmp rfl, trivial⟩ ⟨by first | rfl | (simp only [AV.map, GV.map, CV.map, AB.map', id]; done) | (congr 3; omega) | (congr 4; omega) | (simp only [List.length_append, List.length_cons, List.length_nil, List.length_set]; rfl),  trivial⟩) ?_ ?_
          · first | rfl | (simp [outOf, aC]; done) | (simp [outOf, aC]; omega)
          · first | rfl | (simp; done) | (simp; omega)
end Go.Proofs.Ytgmcdlfmifijlaa.Dev
