/- The symbolic heap: a statement whose operations come in whatever order; no condition. -/
import Derived.Test.YtgmcdlfmifijlaaDSh8
import Derived.StillTail
set_option linter.unusedVariables false
set_option linter.unusedSimpArgs false
namespace Go.Proofs.Ytgmcdlfmifijlaa.Dev
open Go.RowKit

/-- One operation of such a statement: what it answers and makes and eats, whose answers it sees (pre), and the part of the state that it looks at. -/
structure ORow where
  dst : Option Tmp
  v : AV
  nb : List (Nat × AB)
  E : List Nat
  pre : List Nat
  s : List (Nat × AV)
  h : List (Nat × AB)
def ORow.st (r : ORow) : AState := { s := r.s, h := r.h, n := 0 }
def RowOK (P : Program) (ops : Array Oper) (r : ORow) (o : Oper) : Prop :=
  (Wanted ops o r.st ∧ GOp P o r.st r.v r.nb r.E) ∨ (Unwanted ops o r.st ∧ r.v = .t [] ∧ r.nb = [] ∧ r.E = [])
def RowsOK (P : Program) (ops : Array Oper) : List ORow → List Oper → Prop
  | [], _ => True
  | r :: rs, o :: os => RowOK P ops r o ∧ RowsOK P ops rs os
  | _ :: _, [] => False
theorem RowsOK.get {P : Program} {ops : Array Oper} : ∀ {rs : List ORow} {os : List Oper}, RowsOK P ops rs os → ∀ {i : Nat} {r : ORow}, rs[i]? = some r → ∃ o, os[i]? = some o ∧ RowOK P ops r o
  | r :: rs, o :: os, h, 0, r', hr => by simp at hr; subst hr; exact ⟨o, rfl, h.1⟩
  | r :: rs, o :: os, h, i + 1, r', hr => by simpa using RowsOK.get (rs := rs) (os := os) h.2 (i := i) (by simpa using hr)
  | [], _, _, _, _, hr => by simp at hr
  | _ :: _, [], h, _, _, _ => h.elim
/-- What the operations look at is there: ahead of the statement, or as an answer that they wait for. -/
def SeesOK (st : AState) (tbl : List ORow) : List ORow → Prop
  | [] => True
  | r :: rs => (AllL (fun x => look st.s x.1 = some x.2 ∨ ∃ j, j ∈ r.pre ∧ ∃ q, tbl[j]? = some q ∧ q.dst = some x.1 ∧ q.v = x.2) r.s ∧ AllL (fun x => look st.h x.1 = some x.2 ∨ ∃ j, j ∈ r.pre ∧ ∃ q, tbl[j]? = some q ∧ x ∈ q.nb) r.h) ∧ SeesOK st tbl rs
theorem SeesOK.get {st : AState} {tbl : List ORow} : ∀ {rs : List ORow}, SeesOK st tbl rs → ∀ {r : ORow}, r ∈ rs →
    (∀ x ∈ r.s, look st.s x.1 = some x.2 ∨ ∃ j, j ∈ r.pre ∧ ∃ q, tbl[j]? = some q ∧ q.dst = some x.1 ∧ q.v = x.2) ∧ (∀ x ∈ r.h, look st.h x.1 = some x.2 ∨ ∃ j, j ∈ r.pre ∧ ∃ q, tbl[j]? = some q ∧ x ∈ q.nb)
  | r :: rs, h, r', hr => by
    rcases List.mem_cons.1 hr with rfl | hr
    · exact ⟨h.1.1.mem, h.1.2.mem⟩
    · exact SeesOK.get (rs := rs) h.2 hr
def FinOK (st : AState) (tbl : List ORow) (fin : AState) : Prop :=
  AllL (fun x => look st.s x.1 = some x.2 ∨ ∃ (j : Nat) (q : ORow), tbl[j]? = some q ∧ q.dst = some x.1 ∧ q.v = x.2) fin.s ∧ AllL (fun x => look st.h x.1 = some x.2 ∨ ∃ (j : Nat) (q : ORow), tbl[j]? = some q ∧ x ∈ q.nb) fin.h
def keys (l : List (Nat × AB)) : List Nat := l.map (·.1)
def ids (tbl : List ORow) : List Nat := tbl.flatMap fun r => keys r.nb
def eats (tbl : List ORow) : List Nat := tbl.flatMap (·.E)
def memB (k : Nat) : List Nat → Bool
  | [] => false
  | j :: l => Nat.beq j k || memB k l
theorem memB_iff {k : Nat} {l : List Nat} : memB k l = true ↔ k ∈ l := by
  induction l with
  | nil => simp [memB]
  | cons j l ih => 
    simp only [memB, Bool.or_eq_true, ih, List.mem_cons]
    constructor
    · rintro (h | h)
      · exact .inl (Nat.eq_of_beq_eq_true h).symm
      · exact .inr h
    · rintro (h | h)
      · subst h; exact .inl (Nat.beq_refl _)
      · exact .inr h
def waitsT (ops : Array Oper) : Nat → Nat → Nat → Bool
  | 0, i, j => Region.waitsFor .any ops i j
  | f + 1, i, j => match ops[i]? with
    | some o => o.after.any fun e => Region.binds .any e && (Nat.beq e.on j || waitsT ops f e.on j)
    | none => false
def waitsB (ops : Array Oper) (i j : Nat) : Bool := Region.waitsFor .any ops i j || waitsT ops 3 i j
theorem waitsT_listed {ops : Array Oper} {n : Nat} {listed : Array Bool} (H : HeadInv .any ops n listed) : ∀ (f i j : Nat) (oi : Oper), ops[i]? = some oi → (∀ e ∈ oi.after, Region.binds .any e = true → listed.getD e.on false = true) → waitsT ops f i j = true → listed.getD j false = true
  | 0, i, j, oi, hi, ha, h => by
    obtain ⟨oj, hoj, e, he, hb, hon⟩ := Region.waitsFor_spec h
    have : oj = oi := Option.some.inj (hoj.symm.trans hi)
    subst this
    rw [← hon]; exact ha e he hb
  | f + 1, i, j, oi, hi, ha, h => by
    unfold waitsT at h
    rw [hi] at h
    obtain ⟨e, he, hb⟩ := Array.any_eq_true'.1 h
    simp only [Bool.and_eq_true, Bool.or_eq_true] at hb
    have hl := ha e he hb.1
    rcases hb.2 with h1 | h1
    · rw [← Nat.eq_of_beq_eq_true h1]; exact hl
    · cases ho : ops[e.on]? with
      | none => cases f <;> simp [waitsT, Region.waitsFor, ho] at h1
      | some o' => exact waitsT_listed H f e.on j o' ho (fun e' he' hb' => H.closed e.on o' ho hl e' he' hb') h1
theorem waitsB_listed {ops : Array Oper} {n : Nat} {listed : Array Bool} (H : HeadInv .any ops n listed) {i j : Nat} {oi : Oper} (hi : ops[i]? = some oi) (ha : ∀ e ∈ oi.after, Region.binds .any e = true → listed.getD e.on false = true) (h : waitsB ops i j = true) : listed.getD j false = true := by
  unfold waitsB at h
  rcases Bool.or_eq_true_iff.1 h with h | h
  · exact waitsT_listed H 0 i j oi hi ha h
  · exact waitsT_listed H 3 i j oi hi ha h
/-- each row but for the first i: its own dst is nobody else's, what it sees nobody else eats -/
def rowB (ops : Array Oper) (tbl : List ORow) (N : Nat) (st : AState) (i : Nat) (r : ORow) : Bool :=
  (match ops[i]? with
   | some o => (match o.dst, r.dst with
      | some d, some d' => Nat.beq d d' && Nat.blt d N && (look st.s d).isNone
      | none, none => true
      | _, _ => false) && o.after.all (fun e => !Region.binds .any e || Nat.blt e.on i)
   | none => false) &&
  r.pre.all (fun j => Nat.blt j tbl.length && waitsB ops i j) &&
  r.E.all (fun k => memB k (keys r.h)) &&
  tbl.zipIdx.all (fun q => Nat.beq q.2 i || ((match q.1.dst, r.dst with
      | some d, some d' => !Nat.beq d d'
      | _, _ => true) && (keys r.h).all fun k => !memB k q.1.E))
def allB (ops : Array Oper) (tbl : List ORow) (N : Nat) (st : AState) : Nat → List ORow → Bool
  | _, [] => true
  | i, r :: rs => rowB ops tbl N st i r && allB ops tbl N st (i + 1) rs
def drawB (ops : Array Oper) (tbl : List ORow) (N : Nat) (st fin : AState) : Bool :=
  allB ops tbl N st 0 tbl && nodupB (ids tbl) && (ids tbl).all (fun k => Nat.ble st.n k && Nat.blt k fin.n) && nodupB (eats tbl) &&
  Nat.ble st.n fin.n && fin.h.all (fun x => !memB x.1 (eats tbl) && Nat.blt x.1 fin.n) &&
  (if tbl.length < ops.size then Region.sinkB .any ops tbl.length && Region.chainB .any ops tbl.length && Region.seqB .any ops (ops.size - tbl.length) tbl.length ((List.range tbl.length).foldl (fun l i => l.setIfInBounds i true) (Array.replicate ops.size false))
   else Nat.beq tbl.length ops.size)
theorem allB_get {ops : Array Oper} {tbl : List ORow} {N : Nat} {st : AState} : ∀ {rs : List ORow} {i : Nat}, allB ops tbl N st i rs = true → ∀ {j : Nat} {r : ORow}, rs[j]? = some r → rowB ops tbl N st (i + j) r = true
  | r :: rs, i, h, 0, r', hr => by simp at hr; subst hr; simp only [allB, Bool.and_eq_true] at h; exact h.1
  | r :: rs, i, h, j + 1, r', hr => by
    simp only [allB, Bool.and_eq_true] at h
    have := allB_get (rs := rs) (i := i + 1) h.2 (j := j) (by simpa using hr)
    rwa [show i + 1 + j = i + (j + 1) by omega] at this
  | [], _, _, _, _, hr => by simp at hr
theorem nodupB_iff {l : List Nat} (h : nodupB l = true) : l.Nodup := by
  induction l with
  | nil => exact .nil
  | cons k l ih =>
    simp only [nodupB, Bool.and_eq_true, Bool.not_eq_true', List.any_eq_false] at h
    exact List.nodup_cons.2 ⟨fun hm => h.1 k hm (Nat.beq_refl _), ih h.2⟩

/-- the state behind the operations d, the last one first -/
def seqS (st : AState) (tbl : List ORow) : List Nat → AState
  | [] => st
  | i :: d => match tbl[i]? with
    | some r => ((seqS st tbl d).add r.nb r.E).put r.dst r.v
    | none => seqS st tbl d
theorem seq_some {st : AState} {tbl : List ORow} {i : Nat} {r : ORow} {d : List Nat} (h : tbl[i]? = some r) : seqS st tbl (i :: d) = ((seqS st tbl d).add r.nb r.E).put r.dst r.v := by simp [seqS, h]
theorem seq_none {st : AState} {tbl : List ORow} {i : Nat} {d : List Nat} (h : tbl[i]? = none) : seqS st tbl (i :: d) = seqS st tbl d := by simp [seqS, h]
theorem put_h (st : AState) (dst : Option Tmp) (v : AV) : (st.put dst v).h = st.h := by cases dst <;> rfl
section
variable {st : AState} {tbl : List ORow}
theorem seq_base {d : List Nat} {t : Nat} (h : ∀ i ∈ d, ∀ r, tbl[i]? = some r → r.dst ≠ some t) : look (seqS st tbl d).s t = look st.s t := by
  induction d with
  | nil => rfl
  | cons i d ih =>
    have ih := ih fun j hj => h j (List.mem_cons_of_mem _ hj)
    cases hr : tbl[i]? with
    | none => rw [seq_none hr]; exact ih
    | some r =>
      rw [seq_some hr]
      have hne := h i List.mem_cons_self r hr
      cases hd : r.dst with
      | none => exact ih
      | some d' =>
        show look ((d', r.v) :: (seqS st tbl d).s) t = _
        rw [look_cons, if_neg (fun e => hne (by rw [hd, e]))]
        exact ih
theorem seq_dst (hu : ∀ (i j : Nat) (ri rj : ORow) (t : Nat), tbl[i]? = some ri → tbl[j]? = some rj → ri.dst = some t → rj.dst = some t → i = j) {d : List Nat} {i : Nat} {r : ORow} {t : Nat} (hi : i ∈ d) (hr : tbl[i]? = some r) (ht : r.dst = some t) : look (seqS st tbl d).s t = some r.v := by
  induction d with
  | nil => cases hi
  | cons j d ih =>
    cases hq : tbl[j]? with
    | none =>
      rw [seq_none hq]
      rcases List.mem_cons.1 hi with rfl | hi
      · rw [hr] at hq; cases hq
      · exact ih hi
    | some q =>
      rw [seq_some hq]
      by_cases e : j = i
      · subst e
        rw [hr] at hq; injection hq with hq; subst hq
        rw [ht]
        show look ((t, r.v) :: (seqS st tbl d).s) t = _
        rw [look_cons, if_pos rfl]
      · have hi' : i ∈ d := (List.mem_cons.1 hi).resolve_left (Ne.symm e)
        have := ih hi'
        cases hd : q.dst with
        | none => exact this
        | some d' =>
          show look ((d', q.v) :: (seqS st tbl d).s) t = _
          rw [look_cons, if_neg (fun e' => e (hu j i q r t hq hr (by rw [hd, e']) ht))]
          exact this
theorem look_del_ne {E : List Nat} {h : List (Nat × AB)} {k : Nat} (hk : k ∉ E) : look (del E h) k = look h k := by
  induction h with
  | nil => rfl
  | cons y l ih =>
    obtain ⟨j, z⟩ := y
    unfold del
    rw [List.filter_cons]
    split
    · rw [look_cons, look_cons]; split
      · rfl
      · exact ih
    · rename_i hc
      rw [look_cons, if_neg (fun e => by subst e; simp at hc; exact hk hc)]
      exact ih
theorem look_of_mem {l : List (Nat × AB)} (hn : (keys l).Nodup) {k : Nat} {b : AB} (h : (k, b) ∈ l) : look l k = some b := by
  induction l with
  | nil => cases h
  | cons y l ih =>
    obtain ⟨j, z⟩ := y
    have hn' : (j :: keys l).Nodup := hn
    rw [List.nodup_cons] at hn'
    rw [look_cons]
    rcases List.mem_cons.1 h with h | h
    · injection h with h1 h2; subst h1; subst h2; rw [if_pos rfl]
    · rw [if_neg (fun e => hn'.1 (List.mem_map.2 ⟨(k, b), h, e.symm⟩))]
      exact ih hn'.2 h
theorem seq_heap_base {d : List Nat} {k : Nat} (h1 : ∀ i ∈ d, ∀ r, tbl[i]? = some r → k ∉ keys r.nb ∧ k ∉ r.E) : look (seqS st tbl d).h k = look st.h k := by
  induction d with
  | nil => rfl
  | cons i d ih =>
    have ih := ih fun j hj => h1 j (List.mem_cons_of_mem _ hj)
    cases hr : tbl[i]? with
    | none => rw [seq_none hr]; exact ih
    | some r =>
      rw [seq_some hr]
      obtain ⟨h2, h3⟩ := h1 i List.mem_cons_self r hr
      have hnone : look r.nb k = none := by
        cases hl : look r.nb k with
        | none => rfl
        | some b => exact absurd (List.mem_map.2 ⟨(k, b), look_mem hl, rfl⟩) h2
      rw [put_h]
      show look (r.nb ++ del r.E (seqS st tbl d).h) k = _
      rw [look_append, hnone, Option.none_or, look_del_ne h3]
      exact ih
theorem seq_heap_nb (hu : ∀ (i j : Nat) (ri rj : ORow) (k : Nat), tbl[i]? = some ri → tbl[j]? = some rj → k ∈ keys ri.nb → k ∈ keys rj.nb → i = j) (hn : ∀ (i : Nat) (r : ORow), tbl[i]? = some r → (keys r.nb).Nodup) {d : List Nat} {i : Nat} {r : ORow} {k : Nat} {b : AB} (hi : i ∈ d) (hr : tbl[i]? = some r) (hk : (k, b) ∈ r.nb)
    (hE : ∀ j ∈ d, ∀ q, tbl[j]? = some q → k ∉ q.E) : look (seqS st tbl d).h k = some b := by
  induction d with
  | nil => cases hi
  | cons j d ih =>
    have ih := fun h => ih h fun j hj => hE j (List.mem_cons_of_mem _ hj)
    cases hq : tbl[j]? with
    | none =>
      rw [seq_none hq]
      rcases List.mem_cons.1 hi with rfl | hi
      · rw [hr] at hq; cases hq
      · exact ih hi
    | some q =>
      rw [seq_some hq, put_h]
      show look (q.nb ++ del q.E (seqS st tbl d).h) k = _
      rw [look_append]
      by_cases e : j = i
      · subst e
        rw [hr] at hq; injection hq with hq; subst hq
        rw [look_of_mem (hn j r hr) hk, Option.some_or]
      · have hi' : i ∈ d := (List.mem_cons.1 hi).resolve_left (Ne.symm e)
        have hnone : look q.nb k = none := by
          cases hl : look q.nb k with
          | none => rfl
          | some b' => exact absurd (hu j i q r k hq hr (List.mem_map.2 ⟨(k, b'), look_mem hl, rfl⟩) (List.mem_map.2 ⟨(k, b), hk, rfl⟩)) e
        rw [hnone, Option.none_or, look_del_ne (hE j List.mem_cons_self q hq)]
        exact ih hi'
end
theorem Core.sub {σ : Nat → Option Adr} {T : Nat → Prop} {s1 s2 : AState} {a : Act} {w : World} (C : Core σ T s2 a w) (hs : ∀ i v, look s1.s i = some v → look s2.s i = some v) (hh : ∀ k b, look s1.h k = some b → look s2.h k = some b) : Core σ T s1 a w :=
  ⟨fun i v h => C.slots i v (hs i v h), fun k b h => C.heap k b (hh k b h), fun k k' b b' g g' h h' => C.inj k k' b b' g g' (hh k b h) (hh k' b' h'), C.Tlt⟩
theorem nodup_flat {α : Type} {f : α → List Nat} : ∀ {l : List α}, (l.flatMap f).Nodup → (∀ (i j : Nat) (x y : α) (k : Nat), l[i]? = some x → l[j]? = some y → k ∈ f x → k ∈ f y → i = j) ∧ ∀ (i : Nat) (x : α), l[i]? = some x → (f x).Nodup
  | [], _ => ⟨fun i j x y k h => by simp at h, fun i x h => by simp at h⟩
  | a :: l, h => by
    rw [List.flatMap_cons, List.nodup_append] at h
    obtain ⟨h1, h2, h3⟩ := h
    obtain ⟨h4, h5⟩ := nodup_flat h2
    have far : ∀ j y k, l[j]? = some y → k ∈ f a → k ∈ f y → False := fun j y k hy hk hk' => h3 k hk k (List.mem_flatMap.2 ⟨y, List.mem_of_getElem? hy, hk'⟩) rfl
    refine ⟨fun i j x y k hx hy hk hk' => ?_, fun i x hx => ?_⟩
    · rcases i with _ | i <;> rcases j with _ | j
      · rfl
      · simp at hx hy; subst hx; exact (far j y k hy hk hk').elim
      · simp at hx hy; subst hy; exact (far i x k hx hk' hk).elim
      · rw [h4 i j x y k (by simpa using hx) (by simpa using hy) hk hk']
    · rcases i with _ | i
      · simp at hx; subst hx; exact h1
      · exact h5 i x (by simpa using hx)

theorem foldl_set_get (n : Nat) : ∀ (l : Array Bool) (j : Nat), ((List.range n).foldl (fun l i => l.setIfInBounds i true) l)[j]? = if j < n ∧ j < l.size then some true else l[j]? := by
  induction n with
  | zero => intro l j; simp
  | succ n ih =>
    intro l j
    have hsz : ∀ (xs : List Nat) (l : Array Bool), (xs.foldl (fun l i => l.setIfInBounds i true) l).size = l.size := by
      intro xs
      induction xs with
      | nil => intro l; rfl
      | cons x xs ih => intro l; rw [List.foldl_cons, ih, Array.size_setIfInBounds]
    rw [List.range_succ, List.foldl_append, List.foldl_cons, List.foldl_nil, Array.getElem?_setIfInBounds, hsz, ih]
    by_cases h1 : n = j
    · subst h1
      by_cases h2 : n < l.size
      · rw [if_pos rfl, if_pos h2, if_pos ⟨by omega, h2⟩]
      · rw [if_pos rfl, if_neg h2, if_neg (by omega)]; simp [Nat.le_of_not_lt h2]
    · rw [if_neg h1]
      by_cases h2 : j < n ∧ j < l.size
      · rw [if_pos h2, if_pos ⟨by omega, h2.2⟩]
      · rw [if_neg h2, if_neg (by omega)]


theorem count_set {p q : Nat → Bool} {i : Nat} (hp : p i = true) (hq : q i = false) (h : ∀ j, j ≠ i → p j = q j) : ∀ (l : List Nat), l.Nodup → i ∈ l → (l.filter p).length = (l.filter q).length + 1
  | [], _, hi => by cases hi
  | x :: l, hn, hi => by
    obtain ⟨h1, h2⟩ := List.nodup_cons.1 hn
    by_cases hx : x = i
    · subst hx
      have e : l.filter p = l.filter q := List.filter_congr fun j hj => h j (fun e => h1 (e ▸ hj))
      simp [hp, hq, e]
    · have hi' : i ∈ l := by
        rcases List.mem_cons.1 hi with e | e
        · exact absurd e.symm hx
        · exact e
      have ih := count_set hp hq h l h2 hi'
      rw [List.filter_cons, List.filter_cons, h x hx]
      split <;> simp [ih]

def unlisted (n : Nat) (listed : Array Bool) : Nat := ((List.range n).filter fun i => !listed.getD i false).length

theorem Core.drew {σ : Nat → Option Adr} {T : Nat → Prop} {st : AState} {a : Act} {w : World} (C : Core σ T st a w) : Core σ T st a { w with drawn := w.drawn + 1 } := by
  have G : Grow σ σ T T w { w with drawn := w.drawn + 1 } (fun _ => False) := ⟨Nat.le_refl _, fun _ _ _ => rfl, fun _ h => h.elim, fun _ _ h => h, fun _ _ h => h⟩
  exact ⟨fun i v h => (C.slots i v h).grow G, fun k b h => (C.heap k b h).grow G (fun _ _ => ⟨fun h => h, fun h => h⟩) (fun h => h), C.inj, C.Tlt⟩
theorem wpOp_of_wp {P : Program} {ops : Array Oper} {Q : Exit → Act → World → Prop} {i : Nat} {o : Oper} {K : Act → World → Prop} {a : Act} {w : World} (ho : ops[i]? = some o) (hw : Region.wanted o (yielded ops a.tmps) = true) (h : o.wp P a w K Q) : wpOp P ops Q i K a w := by
  unfold wpOp; rw [ho]; simp only [hw, if_true]; exact .inl h
theorem wpOp_of_skip {P : Program} {ops : Array Oper} {Q : Exit → Act → World → Prop} {i : Nat} {o : Oper} {K : Act → World → Prop} {a : Act} {w : World} (ho : ops[i]? = some o) (hw : Region.wanted o (yielded ops a.tmps) = false) (h : K (a.put o.dst undef) w) : wpOp P ops Q i K a w := by
  unfold wpOp; rw [ho]; simp only [hw]; exact h
section
variable {P : Program} {W0 : World} {F : Nat → Prop} {N : NT} {T0 : Nat → Prop} {pin : List (Nat × Adr)} {Q : Exit → AState → Prop} {st : AState}
structure TabF (ops : Array Oper) (tbl : List ORow) (N : Nat) (st : AState) (i : Nat) (r : ORow) : Prop where
  dst : ∀ o, ops[i]? = some o → o.dst = r.dst
  lt : ∀ d, r.dst = some d → d < N ∧ look st.s d = none
  back : ∀ o, ops[i]? = some o → ∀ e ∈ o.after, Region.binds .any e = true → e.on < i
  pre : ∀ j ∈ r.pre, j < tbl.length ∧ waitsB ops i j = true
  E : ∀ k ∈ r.E, k ∈ keys r.h
  dif : ∀ j q, tbl[j]? = some q → j ≠ i → (∀ t, r.dst = some t → q.dst ≠ some t) ∧ ∀ k ∈ keys r.h, k ∉ q.E
theorem rowB_spec {N : Nat} {ops : Array Oper} {tbl : List ORow} {i : Nat} {r : ORow} (h : rowB ops tbl N st i r = true) : TabF ops tbl N st i r := by
  simp only [rowB, Bool.and_eq_true] at h
  obtain ⟨⟨⟨h1, h2⟩, h3⟩, h4⟩ := h
  rw [List.all_eq_true] at h2 h3 h4
  cases ho : ops[i]? with
  | none => rw [ho] at h1; cases h1
  | some o =>
    rw [ho] at h1
    simp only [Bool.and_eq_true] at h1
    obtain ⟨h5, h6⟩ := h1
    have hd : o.dst = r.dst ∧ ∀ d, r.dst = some d → d < N ∧ look st.s d = none := by
      cases hod : o.dst with
      | none => cases hrd : r.dst with
        | none => exact ⟨rfl, fun d h => by cases h⟩
        | some d => rw [hod, hrd] at h5; cases h5
      | some d => cases hrd : r.dst with
        | none => rw [hod, hrd] at h5; cases h5
        | some d' =>
          rw [hod, hrd] at h5
          simp only [Bool.and_eq_true] at h5
          have e := Nat.eq_of_beq_eq_true h5.1.1
          subst e
          refine ⟨rfl, fun d' h => ?_⟩
          injection h with h; subst h
          exact ⟨by have := h5.1.2; rw [Nat.blt_eq] at this; exact this, by simpa using h5.2⟩
    refine ⟨fun o' ho' => ?_, hd.2, fun o' ho' e he hb => ?_, fun j hj => ?_, fun k hk => memB_iff.1 (h3 k hk), fun j q hq hne => ?_⟩
    · rw [ho] at ho'; injection ho' with ho'; subst ho'; exact hd.1
    · rw [ho] at ho'; injection ho' with ho'; subst ho'
      have := Array.all_eq_true_iff_forall_mem.1 h6 e he
      simp only [hb, Bool.not_true, Bool.false_or] at this
      rw [Nat.blt_eq] at this; exact this
    · have := h2 j hj
      simp only [Bool.and_eq_true] at this
      exact ⟨by have := this.1; rw [Nat.blt_eq] at this; exact this, this.2⟩
    · have := h4 (q, j) (by rw [List.mem_zipIdx_iff_getElem?]; exact hq)
      simp only [Bool.or_eq_true, Bool.and_eq_true] at this
      rcases this with h | ⟨h, h'⟩
      · exact absurd (Nat.eq_of_beq_eq_true h) hne
      · refine ⟨fun t ht e => ?_, fun k hk => ?_⟩
        · rw [ht, e] at h; simp at h
        · have := List.all_eq_true.1 h' k hk
          simp only [Bool.not_eq_true'] at this
          exact fun hm => by rw [memB_iff.2 hm] at this; cases this
theorem AC.draw_any {l : List Oper} (tbl : List ORow) (fin : AState) (hm : P.follows .mixedOrders = true) (hB : drawB l.toArray tbl N.1 st fin = true) (hrows : RowsOK P l.toArray tbl l) (hsee : SeesOK st tbl tbl) (hfin : FinOK st tbl fin)
    (h : AL P W0 F N T0 pin l.toArray Q (l.drop tbl.length) fin) : ∀ a w, Inv W0 F N T0 pin st a w → wpAny P .any l.toArray (QX W0 F N T0 pin Q) l.toArray.size (Array.replicate l.toArray.size false) a { w with drawn := w.drawn + 1 } := by
  rintro a w ⟨σ0, T1, hT1, S0, hp0⟩
  simp only [drawB, Bool.and_eq_true] at hB
  obtain ⟨⟨⟨⟨⟨⟨hall, hnid⟩, hids⟩, hneat⟩, hfn⟩, hfh⟩, htail⟩ := hB
  have tab : ∀ i r, tbl[i]? = some r → TabF l.toArray tbl N.1 st i r := fun i r hr => rowB_spec (by have := allB_get hall hr; rwa [Nat.zero_add] at this)
  obtain ⟨idu, idn⟩ := nodup_flat (f := fun r : ORow => keys r.nb) (nodupB_iff hnid)
  obtain ⟨eatu, _⟩ := nodup_flat (f := fun r : ORow => r.E) (nodupB_iff hneat)
  have idge : ∀ (i : Nat) (r : ORow) k, tbl[i]? = some r → k ∈ keys r.nb → st.n ≤ k ∧ k < fin.n := fun i r k hr hk => by
    have := List.all_eq_true.1 hids k (List.mem_flatMap.2 ⟨r, List.mem_of_getElem? hr, hk⟩)
    simp only [Bool.and_eq_true, Nat.blt_eq] at this
    exact ⟨Nat.le_of_ble_eq_true this.1, this.2⟩
  have dstu : ∀ (i j : Nat) (ri rj : ORow) (t : Nat), tbl[i]? = some ri → tbl[j]? = some rj → ri.dst = some t → rj.dst = some t → i = j := fun i j ri rj t hi hj h1 h2 => by
    by_cases e : i = j
    · exact e
    · exact absurd h2 (((tab i ri hi).dif j rj hj (Ne.symm e)).1 t h1)
  have hnle : tbl.length ≤ l.toArray.size := by
    split at htail
    · omega
    · have := Nat.eq_of_beq_eq_true htail; omega
  let InvD : Array Bool → Act → World → Prop := fun listed a w => HeadInv .any l.toArray tbl.length listed ∧ ∃ done : List Nat, (∀ i, i ∈ done ↔ i < tbl.length ∧ listed.getD i false = true) ∧ ∃ σ T, (∀ b, b < W0.heap.size → (T b → T0 b) ∧ (T0 b → T b)) ∧ Sim W0 F N σ T (seqS st tbl done) a w ∧ (∀ k g, look pin k = some g → σ k = some g) ∧
    ∀ k, st.n ≤ k → (∀ i ∈ done, ∀ r, tbl[i]? = some r → k ∉ keys r.nb) → σ k = none
  have step : ∀ listed a w i o, InvD listed a w → l.toArray[i]? = some o → i < tbl.length → i ∈ Region.ready .any l.toArray listed → wpOp P l.toArray (QX W0 F N T0 pin Q) i (InvD (listed.setIfInBounds i true)) a w := by
    rintro listed a w i o ⟨H, done, hdone, σ, T, hT, S, hp, hfresh⟩ ho hi hr
    obtain ⟨r, hri⟩ : ∃ r, tbl[i]? = some r := ⟨_, List.getElem?_eq_getElem hi⟩
    have t := tab i r hri
    obtain ⟨hun, o', ho', hallr⟩ := mem_ready.1 hr
    have hoo : o' = o := Option.some.inj (ho'.symm.trans ho)
    subst hoo
    have hnot : i ∉ done := fun hm => by have := ((hdone i).1 hm).2; rw [getD_both hun] at this; cases this
    have hdst := t.dst _ ho
    have preIn : ∀ j ∈ r.pre, j ∈ done := fun j hj => by
      obtain ⟨hj1, hj2⟩ := t.pre j hj
      exact (hdone j).2 ⟨hj1, waitsB_listed H ho hallr hj2⟩
    obtain ⟨hsS, hsH⟩ := hsee.get (List.mem_of_getElem? hri)
    have hs : ∀ t x, look r.st.s t = some x → look (seqS st tbl done).s t = some x := fun t x hx => by
      rcases hsS (t, x) (look_mem hx) with h1 | ⟨j, hj, q, hq, hqd, hqv⟩
      · rw [seq_base fun j hj q hq e => ?_]; exact h1
        have := ((tab j q hq).lt t e).2
        have h1 : look st.s t = some x := h1
        rw [h1] at this; cases this
      · have hqv : q.v = x := hqv
        subst hqv
        exact seq_dst dstu (preIn j hj) hq hqd
    have hh : ∀ k b, look r.st.h k = some b → look (seqS st tbl done).h k = some b := fun k b hb => by
      have hkm := look_mem hb
      have hkk : k ∈ keys r.h := List.mem_map.2 ⟨(k, b), hkm, rfl⟩
      have hne : ∀ j ∈ done, j ≠ i := fun j hj e => hnot (e ▸ hj)
      rcases hsH (k, b) hkm with h1 | ⟨j, hj, q, hq, hqm⟩
      · rw [seq_heap_base fun j hj q hq => ⟨fun hk => ?_, ((t.dif j q hq (hne j hj)).2 k hkk)⟩]; exact h1
        have := S0.hn k b h1
        have := (idge j q k hq hk).1
        omega
      · exact seq_heap_nb idu idn (preIn j hj) hq hqm fun j' hj' q' hq' => (t.dif j' q' hq' (hne j' hj')).2 k hkk
    have Cr : Core σ T r.st a w := S.core.sub hs hh
    have fin' : ∀ σ' T' w' u, Ext σ T w σ' T' w' r.nb r.E → ARel σ' T' w' r.v u → InvD (listed.setIfInBounds i true) (a.put o'.dst u) w' := by
      intro σ' T' w' u X hv
      refine ⟨H.set hr hi, i :: done, fun j => ?_, σ', T', fun b hb => ⟨fun hb' => (hT b hb).1 (X.grow.Tle b (Nat.lt_of_lt_of_le hb S.size) hb'), fun h0 => X.Tge b ((hT b hb).2 h0)⟩, ?_, fun k g hk => X.grow.σle _ _ (hp k g hk), fun k hk hkn => ?_⟩
      · rw [List.mem_cons]
        by_cases e : j = i
        · subst e
          have hsz : j < listed.size := by rw [H.size]; omega
          simp [hi, hsz]
        · rw [getD_set_ne false (Ne.symm e)]
          simp [e, hdone]
      · rw [seq_some hri, hdst]
        refine S.step (fun e he => ?_) (fun d hd => (t.lt d hd).1) X hv
        obtain ⟨⟨e', b⟩, hm, rfl⟩ := List.mem_map.1 (t.E e he)
        cases hl : look r.h e' with
        | none => exact absurd hl (look_ne_none hm)
        | some b' => exact ⟨b', hh e' b' hl⟩
      · rw [X.dom k fun b hb => hkn i List.mem_cons_self r hri (List.mem_map.2 ⟨(k, b), hb, rfl⟩)]
        exact hfresh k hk fun j hj => hkn j (List.mem_cons_of_mem _ hj)
    obtain ⟨o2, ho2, hro⟩ := hrows.get hri
    have : o2 = o' := by
      have h1 : l.toArray[i]? = some o2 := by simpa using ho2
      exact Option.some.inj (h1.symm.trans ho)
    subst this
    rcases hro with ⟨hw, hg⟩ | ⟨hw, hv, hnb, hE⟩
    · refine wpOp_of_wp ho (hw σ T a w Cr) (wp_monoQ (operMono (hg σ T a w Cr fun k b hk hkE => hfresh k (idge i r k hri (List.mem_map.2 ⟨(k, b), hk, rfl⟩)).1 fun j hj q hq hkq => hnot (idu j i q r k hq hri hkq (List.mem_map.2 ⟨(k, b), hk, rfl⟩) ▸ hj)) ?_))
      rintro a' w' ⟨u, σ', T', rfl, X, hv⟩
      exact fin' σ' T' w' u X hv
    · refine wpOp_of_skip ho (hw σ T a w Cr) (fin' σ T w undef ?_ ?_)
      · rw [hnb, hE]; exact Ext.same S.core.Tlt
      · rw [hv]; exact ⟨[], rfl, trivial⟩
  -- all of the head is done
  have atEnd : ∀ listed a w, InvD listed a w → (∀ i, i < tbl.length → listed.getD i false = true) → Inv W0 F N T0 pin fin a w := by
    rintro listed a w ⟨H, done, hdone, σ, T, hT, S, hp, hfresh⟩ hl
    have hin : ∀ i r, tbl[i]? = some r → i ∈ done := fun i r hr => (hdone i).2 ⟨(List.getElem?_eq_some_iff.1 hr).1, hl i (List.getElem?_eq_some_iff.1 hr).1⟩
    have hs : ∀ t x, look fin.s t = some x → look (seqS st tbl done).s t = some x := fun t x hx => by
      rcases hfin.1.mem (t, x) (look_mem hx) with h1 | ⟨j, q, hq, hqd, hqv⟩
      · rw [seq_base fun j hj q hq e => ?_]; exact h1
        have := ((tab j q hq).lt t e).2
        have h1 : look st.s t = some x := h1
        rw [h1] at this; cases this
      · have hqv : q.v = x := hqv
        subst hqv
        exact seq_dst dstu (hin j q hq) hq hqd
    have hfhx := List.all_eq_true.1 hfh
    have hh : ∀ k b, look fin.h k = some b → look (seqS st tbl done).h k = some b := fun k b hb => by
      have hkm := look_mem hb
      have hno := hfhx _ hkm
      simp only [Bool.and_eq_true, Bool.not_eq_true'] at hno
      have hne : ∀ (j : Nat) (q : ORow), tbl[j]? = some q → k ∉ q.E := fun j q hq hk => by
        have := memB_iff.2 (show k ∈ eats tbl from List.mem_flatMap.2 ⟨q, List.mem_of_getElem? hq, hk⟩)
        rw [hno.1] at this; cases this
      rcases hfin.2.mem (k, b) hkm with h1 | ⟨j, q, hq, hqm⟩
      · rw [seq_heap_base fun j hj q hq => ⟨fun hk => ?_, hne j q hq⟩]; exact h1
        have := S0.hn k b h1
        have := (idge j q k hq hk).1
        omega
      · exact seq_heap_nb idu idn (hin j q hq) hq hqm fun j' hj' q' hq' => hne j' q' hq'
    refine ⟨σ, T, hT, ⟨S.core.sub hs hh, S.os, S.tape, S.output, S.size, S.old, fun k b g hk => S.own k b g (hh k b hk), fun k hk => ?_, fun k b hk => ?_, S.tsz, S.dfr⟩, hp⟩
    · have hk1 := Nat.le_of_ble_eq_true hfn
      exact hfresh k (by omega) fun i _ r hr hkr => by have := (idge i r k hr hkr).2; omega
    · have := hfhx _ (look_mem hk)
      simp only [Bool.and_eq_true, Nat.blt_eq] at this
      exact this.2
  have main : ∀ k listed a1 w1, InvD listed a1 w1 → unlisted tbl.length listed = k → wpAny P .any l.toArray (QX W0 F N T0 pin Q) (k + (l.toArray.size - tbl.length)) listed a1 w1 := by
    intro k
    induction k with
    | zero =>
      intro listed a1 w1 I hk
      have hl : ∀ i, i < tbl.length → listed.getD i false = true := fun i hi => by
        have h := List.eq_nil_of_length_eq_zero hk
        have h2 := List.filter_eq_nil_iff.1 h i (List.mem_range.2 hi)
        simpa using h2
      have hIf := atEnd listed a1 w1 I hl
      have el : listed = (List.range tbl.length).foldl (fun l i => l.setIfInBounds i true) (Array.replicate l.toArray.size false) := by
        apply Array.ext_getElem?
        intro j
        rw [foldl_set_get]
        by_cases hj : j < tbl.length
        · have hjs : j < listed.size := by rw [I.1.size]; omega
          rw [if_pos ⟨hj, by rw [Array.size_replicate]; omega⟩]
          have := hl j hj
          simp [hjs] at this
          simp [hjs, this]
        · rw [if_neg (by omega)]
          by_cases hjs : j < l.toArray.size
          · have h1 := I.1.tail j (by omega) hjs
            have hjs' : j < listed.size := by rw [I.1.size]; exact hjs
            simp [hjs'] at h1
            simp at hjs
            simp [hjs', h1, hjs]
          · have : listed.size ≤ j := by rw [I.1.size]; omega
            simp at hjs
            rw [Array.getElem?_eq_none this, Array.getElem?_eq_none (by simpa using hjs)]
      have hdl : (l.drop tbl.length).length = l.toArray.size - tbl.length := by simp
      by_cases hlt : tbl.length < l.toArray.size
      · rw [if_pos hlt] at htail
        simp only [Bool.and_eq_true] at htail
        have := wpAny_of_seq (md := .any) (Q' := QX W0 F N T0 pin Q) (l.drop tbl.length) tbl.length listed a1 w1 (fun j => by simp [List.getElem?_drop]) (by rw [hdl, el]; exact htail.2) (h a1 w1 hIf)
        rw [hdl] at this
        rw [Nat.zero_add]
        exact this
      · have e0 : l.toArray.size - tbl.length = 0 := by omega
        rw [e0]
        have hnil : l.drop tbl.length = [] := List.eq_nil_of_length_eq_zero (by rw [hdl, e0])
        rw [hnil] at h
        refine ⟨List.eq_nil_iff_forall_not_mem.2 fun i hi => ?_, h a1 w1 hIf⟩
        obtain ⟨h1, o, ho, _⟩ := mem_ready.1 hi
        have hi' : i < l.toArray.size := (Array.getElem?_eq_some_iff.1 ho).1
        have := hl i (by omega)
        rw [getD_both h1] at this; cases this
    | succ k ih =>
      intro listed a1 w1 I hk
      have hex : ∃ i, i < tbl.length ∧ listed.getD i false = false ∧ ∀ j, j < i → listed.getD j false = true := by
        have h1 : ∃ i, i < tbl.length ∧ listed.getD i false = false := by
          have hne : ((List.range tbl.length).filter fun i => !listed.getD i false) ≠ [] := fun e => by unfold unlisted at hk; rw [e] at hk; cases hk
          obtain ⟨x, hx⟩ := List.exists_mem_of_ne_nil _ hne
          obtain ⟨hx1, hx2⟩ := List.mem_filter.1 hx
          exact ⟨x, List.mem_range.1 hx1, by simpa using hx2⟩
        obtain ⟨i, hi, hmin⟩ := exists_least h1
        refine ⟨i, hi.1, hi.2, fun j hj => ?_⟩
        cases hjl : listed.getD j false with
        | true => rfl
        | false => exact absurd (hmin j ⟨by omega, hjl⟩) (by omega)
      obtain ⟨i0, hi0, hun0, hlow⟩ := hex
      have hopi : ∀ i, i < tbl.length → ∃ o, l.toArray[i]? = some o := fun i hi => ⟨_, Array.getElem?_eq_getElem (by omega)⟩
      have hin : ∀ i, i < tbl.length → listed.getD i false = false → listed.getD i true = false := fun i hi h => getD_in (by rw [I.1.size]; omega) h
      have hready : i0 ∈ Region.ready .any l.toArray listed := by
        obtain ⟨o, ho⟩ := hopi i0 hi0
        obtain ⟨r, hr⟩ : ∃ r, tbl[i0]? = some r := ⟨_, List.getElem?_eq_getElem hi0⟩
        exact mem_ready.2 ⟨hin i0 hi0 hun0, o, ho, fun e he hb => hlow _ ((tab i0 r hr).back o ho e he hb)⟩
      rw [show k + 1 + (l.toArray.size - tbl.length) = (k + (l.toArray.size - tbl.length)) + 1 by omega]
      refine ⟨fun h => (by rw [h] at hready; cases hready), fun i hi => ?_⟩
      have hilt : i < tbl.length := by
        rcases Nat.lt_or_ge i tbl.length with h | h
        · exact h
        · by_cases hlt : tbl.length < l.toArray.size
          · rw [if_pos hlt] at htail
            simp only [Bool.and_eq_true] at htail
            exact absurd hi (tail_waits htail.1.1 htail.1.2 hlt I.1 _ i0 rfl hi0 (hin i0 hi0 hun0) i h)
          · obtain ⟨_, o, ho, _⟩ := mem_ready.1 hi
            have hi' : i < l.toArray.size := (Array.getElem?_eq_some_iff.1 ho).1
            omega
      obtain ⟨o, ho⟩ := hopi i hilt
      refine wpOp_mono (fun a' w' I' => ih _ a' w' I' ?_) (step listed a1 w1 i o I ho hilt hi)
      have hunl := getD_both (mem_ready.1 hi).1
      have hset : (listed.setIfInBounds i true).getD i false = true := by
        have : i < listed.size := by rw [I.1.size]; omega
        simp [this]
      have := count_set (p := fun j => !listed.getD j false) (q := fun j => !(listed.setIfInBounds i true).getD j false) (i := i) (by simp only [hunl]; rfl) (by simp only [hset]; rfl)
        (fun j hj => by simp only [getD_set_ne false (Ne.symm hj)]) (List.range tbl.length) List.nodup_range (List.mem_range.2 hilt)
      unfold unlisted at hk ⊢
      omega
  have inv0 : HeadInv .any l.toArray tbl.length (Array.replicate l.toArray.size false) :=
    ⟨by simp, fun j oj _ hl => (by rw [getD_replicate_false] at hl; cases hl), fun t _ ht => getD_in (by simpa using ht) (getD_replicate_false _ _)⟩
  have hw0 : Sim W0 F N σ0 T1 st a { w with drawn := w.drawn + 1 } :=
    ⟨S0.core.drew, S0.os, S0.tape, S0.output, S0.size, S0.old, S0.own, S0.next, S0.hn, S0.tsz, S0.dfr⟩
  have I0 : InvD (Array.replicate l.toArray.size false) a { w with drawn := w.drawn + 1 } :=
    ⟨inv0, [], fun i => by rw [getD_replicate_false]; simp, σ0, T1, hT1, hw0, hp0, fun k hk _ => S0.next k hk⟩
  have := main tbl.length _ a _ I0 (by
    unfold unlisted
    rw [List.filter_eq_self.2 (fun i _ => by rw [getD_replicate_false]; rfl), List.length_range])
  rw [show tbl.length + (l.toArray.size - tbl.length) = l.toArray.size by omega] at this
  exact this
theorem AC.draw {id : Nat} {l : List Oper} (tbl : List ORow) (fin : AState) (hm : P.follows .mixedOrders = true) (hB : drawB l.toArray tbl N.1 st fin = true) (hrows : RowsOK P l.toArray tbl l) (hsee : SeesOK st tbl tbl) (hfin : FinOK st tbl fin)
    (h : AL P W0 F N T0 pin l.toArray Q (l.drop tbl.length) fin) : AC P W0 F N T0 pin Q (.region id l.toArray true) st := fun a w hI => wp_region_any hm (AC.draw_any tbl fin hm hB hrows hsee hfin h a w hI)
end
end Go.Proofs.Ytgmcdlfmifijlaa.Dev
