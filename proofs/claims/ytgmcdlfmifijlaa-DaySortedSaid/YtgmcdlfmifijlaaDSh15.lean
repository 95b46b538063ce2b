/- The symbolic heap: a drawn region, with what it writes again; no condition. -/
import Derived.Test.YtgmcdlfmifijlaaDSh14
set_option linter.unusedVariables false
set_option linter.unusedSimpArgs false
namespace Go.Proofs.Ytgmcdlfmifijlaa.Dev
open Go.RowKit

def wrS (tbl : List ORow) (x : Nat) (q : Nat) : Bool := match tbl[q]? with
  | some r => (match r.dst with
    | some d => Nat.beq d x
    | none => false)
  | none => false
def wrH (tbl : List ORow) (k : Nat) (q : Nat) : Bool := match tbl[q]? with
  | some r => memB k r.E || memB k (keys r.nb)
  | none => false
def nbH (tbl : List ORow) (k : Nat) (q : Nat) : Bool := match tbl[q]? with
  | some r => memB k (keys r.nb)
  | none => false
/-- where row i's view of something is from: the writer j, or from ahead of the region -/
def okSrc (ops : Array Oper) (n : Nat) (wr : Nat → Bool) (i : Nat) : Option Nat → Bool
  | none => (List.range n).all fun q => Nat.beq q i || !wr q || waitsB ops q i
  | some j => Nat.blt j n && waitsB ops i j && (List.range n).all fun q => Nat.beq q i || Nat.beq q j || !wr q || waitsB ops q i || waitsB ops j q
def okFin (ops : Array Oper) (n : Nat) (wr : Nat → Bool) : Option Nat → Bool
  | none => (List.range n).all fun q => !wr q
  | some j => Nat.blt j n && (List.range n).all fun q => Nat.beq q j || !wr q || waitsB ops j q
def srcS (tbl : List ORow) (pre : List Nat) (x : Nat) : Option Nat := pre.find? (wrS tbl x)
def srcH (tbl : List ORow) (pre : List Nat) (k : Nat) : Option Nat := pre.find? (nbH tbl k)
def rowWB (ops : Array Oper) (tbl : List ORow) (N : Nat) (st fin : AState) (i : Nat) (r : ORow) : Bool :=
  (match ops[i]? with
   | some o => (match o.dst, r.dst with
      | some d, some d' => Nat.beq d d' && Nat.blt d N
      | none, none => true
      | _, _ => false) && o.after.all (fun e => !Region.binds .any e || Nat.blt e.on i)
   | none => false) &&
  r.E.all (fun k => memB k (keys r.h)) && nodupB (keys r.nb) &&
  r.nb.all (fun x => Nat.blt x.1 fin.n && (memB x.1 r.E || (Nat.ble st.n x.1 && (List.range tbl.length).all fun q => Nat.beq q i || !wrH tbl x.1 q || waitsB ops q i))) &&
  r.s.all (fun x => okSrc ops tbl.length (wrS tbl x.1) i (srcS tbl r.pre x.1)) && r.h.all (fun x => okSrc ops tbl.length (wrH tbl x.1) i (srcH tbl r.pre x.1))
def allWB (ops : Array Oper) (tbl : List ORow) (N : Nat) (st fin : AState) : Nat → List ORow → Bool
  | _, [] => true
  | i, r :: rs => rowWB ops tbl N st fin i r && allWB ops tbl N st fin (i + 1) rs
def drawWB (ops : Array Oper) (tbl : List ORow) (N : Nat) (st fin : AState) (fp : List Nat) : Bool :=
  allWB ops tbl N st fin 0 tbl && Nat.beq tbl.length ops.size && Nat.ble st.n fin.n &&
  fin.s.all (fun x => okFin ops tbl.length (wrS tbl x.1) (srcS tbl fp x.1)) && fin.h.all (fun x => Nat.blt x.1 fin.n && okFin ops tbl.length (wrH tbl x.1) (srcH tbl fp x.1))
theorem allWB_get {ops : Array Oper} {tbl : List ORow} {N : Nat} {st fin : AState} : ∀ {rs : List ORow} {i : Nat}, allWB ops tbl N st fin i rs = true → ∀ {j : Nat} {r : ORow}, rs[j]? = some r → rowWB ops tbl N st fin (i + j) r = true
  | r :: rs, i, h, 0, r', hr => by simp at hr; subst hr; simp only [allWB, Bool.and_eq_true] at h; exact h.1
  | r :: rs, i, h, j + 1, r', hr => by
    simp only [allWB, Bool.and_eq_true] at h
    have := allWB_get (rs := rs) (i := i + 1) h.2 (j := j) (by simpa using hr)
    rwa [show i + 1 + j = i + (j + 1) by omega] at this
  | [], _, _, _, _, hr => by simp at hr
def SrcS (st : AState) (tbl : List ORow) (x : Nat) (v : AV) : Option Nat → Prop
  | none => look st.s x = some v
  | some j => ∃ q, tbl[j]? = some q ∧ q.dst = some x ∧ q.v = v
def SrcH (st : AState) (tbl : List ORow) (k : Nat) (b : AB) : Option Nat → Prop
  | none => look st.h k = some b
  | some j => ∃ q, tbl[j]? = some q ∧ (k, b) ∈ q.nb
def SeesW (st : AState) (tbl : List ORow) : List ORow → Prop
  | [] => True
  | r :: rs => (AllL (fun x => SrcS st tbl x.1 x.2 (srcS tbl r.pre x.1)) r.s ∧ AllL (fun x => SrcH st tbl x.1 x.2 (srcH tbl r.pre x.1)) r.h) ∧ SeesW st tbl rs
theorem SeesW.get {st : AState} {tbl : List ORow} : ∀ {rs : List ORow}, SeesW st tbl rs → ∀ {r : ORow}, r ∈ rs → AllL (fun x => SrcS st tbl x.1 x.2 (srcS tbl r.pre x.1)) r.s ∧ AllL (fun x => SrcH st tbl x.1 x.2 (srcH tbl r.pre x.1)) r.h
  | r :: rs, h, r', hr => by
    rcases List.mem_cons.1 hr with rfl | hr
    · exact h.1
    · exact SeesW.get (rs := rs) h.2 hr
/-- what is done came in an order that fits -/
def OrdD (ops : Array Oper) (n : Nat) : List Nat → Prop
  | [] => True
  | j :: ys => (∀ q, q < n → waitsB ops j q = true → q ∈ ys) ∧ j ∉ ys ∧ OrdD ops n ys
theorem OrdD.wait {ops : Array Oper} {n : Nat} : ∀ {d : List Nat}, OrdD ops n d → ∀ {q i : Nat}, q ∈ d → i < n → waitsB ops q i = true → i ∈ d
  | j :: ys, h, q, i, hq, hi, hw => by
    rcases List.mem_cons.1 hq with rfl | hq
    · exact List.mem_cons_of_mem _ (h.1 i hi hw)
    · exact List.mem_cons_of_mem _ (h.2.2.wait hq hi hw)
/-- j is done; what came behind it wrote nothing of that -/
theorem OrdD.split {ops : Array Oper} {n : Nat} {wr : Nat → Bool} {j : Nat} : ∀ {d : List Nat}, OrdD ops n d → j ∈ d → (∀ q ∈ d, q < n) → (∀ q ∈ d, q ≠ j → wr q = true → waitsB ops j q = true) → ∃ xs ys, d = xs ++ j :: ys ∧ ∀ q ∈ xs, wr q = false
  | k :: ys, h, hj, hn, hc => by
    by_cases e : k = j
    · subst e; exact ⟨[], ys, rfl, fun q hq => by cases hq⟩
    · have hj' : j ∈ ys := (List.mem_cons.1 hj).resolve_left (Ne.symm e)
      obtain ⟨xs, zs, h1, h2⟩ := h.2.2.split hj' (fun q hq => hn q (List.mem_cons_of_mem _ hq)) (fun q hq => hc q (List.mem_cons_of_mem _ hq))
      refine ⟨k :: xs, zs, by rw [h1]; rfl, fun q hq => ?_⟩
      rcases List.mem_cons.1 hq with rfl | hq
      · cases hw : wr q with
        | false => rfl
        | true => exact absurd (h.2.2.wait hj' (hn q List.mem_cons_self) (hc q List.mem_cons_self e hw)) h.2.1
      · exact h2 q hq
section
variable {st : AState} {tbl : List ORow}
theorem wrS_of {x q : Nat} {r : ORow} (hr : tbl[q]? = some r) (h : wrS tbl x q = false) : r.dst ≠ some x := fun e => by
  unfold wrS at h; rw [hr] at h; simp only [e] at h; rw [Nat.beq_refl] at h; cases h
theorem wrH_of {k q : Nat} {r : ORow} (hr : tbl[q]? = some r) (h : wrH tbl k q = false) : k ∉ keys r.nb ∧ k ∉ r.E := by
  unfold wrH at h; rw [hr] at h
  simp only [Bool.or_eq_false_iff] at h
  exact ⟨fun hk => (Bool.eq_false_iff.1 h.2) (memB_iff.2 hk), fun hk => (Bool.eq_false_iff.1 h.1) (memB_iff.2 hk)⟩
theorem seqW_s {xs ys : List Nat} {j x : Nat} {r : ORow} (hx : ∀ q ∈ xs, wrS tbl x q = false) (hr : tbl[j]? = some r) (hd : r.dst = some x) : look (seqS st tbl (xs ++ j :: ys)).s x = some r.v := by
  induction xs with
  | nil =>
    rw [List.nil_append, seq_some hr, hd]
    show look ((x, r.v) :: (seqS st tbl ys).s) x = _
    rw [look_cons, if_pos rfl]
  | cons q xs ih =>
    have ih := ih fun p hp => hx p (List.mem_cons_of_mem _ hp)
    rw [List.cons_append]
    cases hq : tbl[q]? with
    | none => rw [seq_none hq]; exact ih
    | some r' =>
      rw [seq_some hq]
      have hne := wrS_of hq (hx q List.mem_cons_self)
      cases hd' : r'.dst with
      | none => exact ih
      | some d =>
        show look ((d, r'.v) :: (seqS st tbl (xs ++ j :: ys)).s) x = _
        rw [look_cons, if_neg (fun e => hne (by rw [hd', e]))]
        exact ih
theorem look_none_keys {l : List (Nat × AB)} {k : Nat} (h : k ∉ keys l) : look l k = none := by
  cases hl : look l k with
  | none => rfl
  | some b => exact absurd (List.mem_map.2 ⟨(k, b), look_mem hl, rfl⟩) h
theorem seqW_h {xs ys : List Nat} {j k : Nat} {b : AB} {r : ORow} (hx : ∀ q ∈ xs, wrH tbl k q = false) (hr : tbl[j]? = some r) (hn : (keys r.nb).Nodup) (hb : (k, b) ∈ r.nb) : look (seqS st tbl (xs ++ j :: ys)).h k = some b := by
  induction xs with
  | nil =>
    rw [List.nil_append, seq_some hr, put_h]
    show look (r.nb ++ del r.E (seqS st tbl ys).h) k = _
    rw [look_append, look_of_mem hn hb, Option.some_or]
  | cons q xs ih =>
    have ih := ih fun p hp => hx p (List.mem_cons_of_mem _ hp)
    rw [List.cons_append]
    cases hq : tbl[q]? with
    | none => rw [seq_none hq]; exact ih
    | some r' =>
      rw [seq_some hq, put_h]
      obtain ⟨h1, h2⟩ := wrH_of hq (hx q List.mem_cons_self)
      show look (r'.nb ++ del r'.E (seqS st tbl (xs ++ j :: ys)).h) k = _
      rw [look_append, look_none_keys h1, Option.none_or, look_del_ne h2]
      exact ih
end
theorem range_all {n : Nat} {p : Nat → Bool} (h : (List.range n).all p = true) {q : Nat} (hq : q < n) : p q = true := List.all_eq_true.1 h q (List.mem_range.2 hq)
section
variable {P : Program} {W0 : World} {F : Nat → Prop} {N : NT} {T0 : Nat → Prop} {pin : List (Nat × Adr)} {Q : Exit → AState → Prop} {st : AState}
/-- A region whose order is open, all of it. -/
theorem AC.drawW {id : Nat} {l : List Oper} (tbl : List ORow) (fin : AState) (fp : List Nat) (hm : P.follows .mixedOrders = true) (hB : drawWB l.toArray tbl N.1 st fin fp = true) (hrows : RowsOK P l.toArray tbl l) (hsee : SeesW st tbl tbl)
    (hfin : AllL (fun x => SrcS st tbl x.1 x.2 (srcS tbl fp x.1)) fin.s ∧ AllL (fun x => SrcH st tbl x.1 x.2 (srcH tbl fp x.1)) fin.h) (hk : Q .normal fin) : AC P W0 F N T0 pin Q (.region id l.toArray true) st := by
  rintro a w ⟨σ0, T1, hT1, S0, hp0⟩
  unfold drawWB at hB
  simp only [Bool.and_eq_true] at hB
  obtain ⟨⟨⟨⟨hall, hlen⟩, hfn⟩, hfs⟩, hfh⟩ := hB
  have hlen := Nat.eq_of_beq_eq_true hlen
  have tab : ∀ i r, tbl[i]? = some r → rowWB l.toArray tbl N.1 st fin i r = true := fun i r hr => by have := allWB_get hall hr; rwa [Nat.zero_add] at this
  have nbnd : ∀ (i : Nat) (r : ORow), tbl[i]? = some r → (keys r.nb).Nodup := fun i r hr => by
    have := tab i r hr
    simp only [rowWB, Bool.and_eq_true] at this
    exact nodupB_iff this.1.1.1.2
  have nbk : ∀ (i : Nat) (r : ORow) k, tbl[i]? = some r → k ∈ keys r.nb → k < fin.n ∧ (k ∈ r.E ∨ (st.n ≤ k ∧ ∀ q, q < tbl.length → q ≠ i → wrH tbl k q = true → waitsB l.toArray q i = true)) := fun i r k hr hk => by
    have := tab i r hr
    simp only [rowWB, Bool.and_eq_true] at this
    obtain ⟨x, hx, rfl⟩ := List.mem_map.1 hk
    have h1 := List.all_eq_true.1 this.1.1.2 x hx
    simp only [Bool.and_eq_true, Bool.or_eq_true, Nat.blt_eq] at h1
    refine ⟨h1.1, ?_⟩
    rcases h1.2 with h2 | ⟨h2, h3⟩
    · exact .inl (memB_iff.1 h2)
    · refine .inr ⟨Nat.le_of_ble_eq_true h2, fun q hq hne hw => ?_⟩
      have h4 := range_all h3 hq
      simp only [Bool.or_eq_true, Bool.not_eq_true'] at h4
      rcases h4 with (h4 | h4) | h4
      · exact absurd (Nat.eq_of_beq_eq_true h4) hne
      · rw [hw] at h4; cases h4
      · exact h4
  -- what a row that isn't done sees
  have srcOK : ∀ (wr : Nat → Bool) (i : Nat) (src : Option Nat), okSrc l.toArray tbl.length wr i src = true → ∀ (done : List Nat), OrdD l.toArray tbl.length done → (∀ q ∈ done, q < tbl.length) → i ∉ done → i < tbl.length → (∀ j, j < tbl.length → waitsB l.toArray i j = true → j ∈ done) →
      (src = none ∧ ∀ q ∈ done, wr q = false) ∨ ∃ j xs ys, src = some j ∧ done = xs ++ j :: ys ∧ ∀ q ∈ xs, wr q = false := by
    intro wr i src hok done hord hdn hi hilt hwait
    cases src with
    | none =>
      refine .inl ⟨rfl, fun q hq => ?_⟩
      cases hw : wr q with
      | false => rfl
      | true =>
        have h := range_all hok (hdn q hq)
        simp only [Bool.or_eq_true, Bool.not_eq_true'] at h
        rcases h with (h | h) | h
        · exact absurd (Nat.eq_of_beq_eq_true h ▸ hq) hi
        · rw [hw] at h; cases h
        · exact absurd (hord.wait hq hilt h) hi
    | some j =>
      simp only [okSrc, Bool.and_eq_true, Nat.blt_eq] at hok
      obtain ⟨⟨h1, h2⟩, h3⟩ := hok
      have hj := hwait j h1 h2
      obtain ⟨xs, ys, h4, h5⟩ := hord.split (wr := wr) hj hdn (fun q hq hne hw => by
        have h := range_all h3 (hdn q hq)
        simp only [Bool.or_eq_true, Bool.not_eq_true'] at h
        rcases h with (((h | h) | h) | h) | h
        · exact absurd (Nat.eq_of_beq_eq_true h ▸ hq) hi
        · exact absurd (Nat.eq_of_beq_eq_true h) hne
        · rw [hw] at h; cases h
        · exact absurd (hord.wait hq hilt h) hi
        · exact h)
      exact .inr ⟨j, xs, ys, rfl, h4, h5⟩
  have finOK : ∀ (wr : Nat → Bool) (src : Option Nat), okFin l.toArray tbl.length wr src = true → ∀ (done : List Nat), OrdD l.toArray tbl.length done → (∀ q ∈ done, q < tbl.length) → (∀ q, q < tbl.length → q ∈ done) →
      (src = none ∧ ∀ q ∈ done, wr q = false) ∨ ∃ j xs ys, src = some j ∧ done = xs ++ j :: ys ∧ ∀ q ∈ xs, wr q = false := by
    intro wr src hok done hord hdn hall'
    cases src with
    | none =>
      refine .inl ⟨rfl, fun q hq => ?_⟩
      have h := range_all hok (hdn q hq)
      simpa using h
    | some j =>
      simp only [okFin, Bool.and_eq_true, Nat.blt_eq] at hok
      obtain ⟨h1, h3⟩ := hok
      obtain ⟨xs, ys, h4, h5⟩ := hord.split (wr := wr) (hall' j h1) hdn (fun q hq hne hw => by
        have h := range_all h3 (hdn q hq)
        simp only [Bool.or_eq_true, Bool.not_eq_true'] at h
        rcases h with (h | h) | h
        · exact absurd (Nat.eq_of_beq_eq_true h) hne
        · rw [hw] at h; cases h
        · exact h)
      exact .inr ⟨j, xs, ys, rfl, h4, h5⟩
  have viewS : ∀ (done : List Nat) x v src, SrcS st tbl x v src → ((src = none ∧ ∀ q ∈ done, wrS tbl x q = false) ∨ ∃ j xs ys, src = some j ∧ done = xs ++ j :: ys ∧ ∀ q ∈ xs, wrS tbl x q = false) → look (seqS st tbl done).s x = some v := by
    intro done x v src hs hc
    rcases hc with ⟨rfl, hc⟩ | ⟨j, xs, ys, rfl, rfl, hc⟩
    · rw [seq_base fun i hi r hr => wrS_of hr (hc i hi)]; exact hs
    · obtain ⟨q, h1, h2, rfl⟩ := hs
      exact seqW_s hc h1 h2
  have viewH : ∀ (done : List Nat) k b src, SrcH st tbl k b src → ((src = none ∧ ∀ q ∈ done, wrH tbl k q = false) ∨ ∃ j xs ys, src = some j ∧ done = xs ++ j :: ys ∧ ∀ q ∈ xs, wrH tbl k q = false) → look (seqS st tbl done).h k = some b := by
    intro done k b src hs hc
    rcases hc with ⟨rfl, hc⟩ | ⟨j, xs, ys, rfl, rfl, hc⟩
    · rw [seq_heap_base fun i hi r hr => wrH_of hr (hc i hi)]; exact hs
    · obtain ⟨q, h1, h2⟩ := hs
      exact seqW_h hc h1 (nbnd j q h1) h2
  let InvD : Array Bool → Act → World → Prop := fun listed a w => HeadInv .any l.toArray tbl.length listed ∧ ∃ done : List Nat, (∀ i, i ∈ done ↔ i < tbl.length ∧ listed.getD i false = true) ∧ OrdD l.toArray tbl.length done ∧ ∃ σ T, (∀ b, b < W0.heap.size → (T b → T0 b) ∧ (T0 b → T b)) ∧ Sim W0 F N σ T (seqS st tbl done) a w ∧ (∀ k g, look pin k = some g → σ k = some g) ∧
    ∀ k, st.n ≤ k → (∀ i ∈ done, ∀ r, tbl[i]? = some r → k ∉ keys r.nb) → σ k = none
  have step : ∀ listed a w i o, InvD listed a w → l.toArray[i]? = some o → i < tbl.length → i ∈ Region.ready .any l.toArray listed → wpOp P l.toArray (QX W0 F N T0 pin Q) i (InvD (listed.setIfInBounds i true)) a w := by
    rintro listed a w i o ⟨H, done, hdone, hord, σ, T, hT, S, hp, hfresh⟩ ho hi hr
    obtain ⟨r, hri⟩ : ∃ r, tbl[i]? = some r := ⟨_, List.getElem?_eq_getElem hi⟩
    have t := tab i r hri
    simp only [rowWB, Bool.and_eq_true] at t
    obtain ⟨⟨⟨⟨⟨t1, t2⟩, _⟩, _⟩, t5⟩, t6⟩ := t
    obtain ⟨hun, o', ho', hallr⟩ := mem_ready.1 hr
    have hoo : o' = o := Option.some.inj (ho'.symm.trans ho)
    subst hoo
    rw [ho] at t1
    simp only [Bool.and_eq_true] at t1
    have hnot : i ∉ done := fun hm => by have := ((hdone i).1 hm).2; rw [getD_both hun] at this; cases this
    have hdst : o'.dst = r.dst ∧ ∀ d, o'.dst = some d → d < N.1 := by
      cases h1 : o'.dst with
      | none => cases h2 : r.dst with
        | none => exact ⟨rfl, fun d h => by cases h⟩
        | some d => rw [h1, h2] at t1; cases t1.1
      | some d => cases h2 : r.dst with
        | none => rw [h1, h2] at t1; cases t1.1
        | some d' =>
          rw [h1, h2] at t1
          simp only [Bool.and_eq_true, Nat.blt_eq] at t1
          obtain rfl := Nat.eq_of_beq_eq_true t1.1.1
          exact ⟨rfl, fun d'' h => by injection h with h; subst h; exact t1.1.2⟩
    have hdn : ∀ q ∈ done, q < tbl.length := fun q hq => ((hdone q).1 hq).1
    have hwait : ∀ j, j < tbl.length → waitsB l.toArray i j = true → j ∈ done := fun j hj hw => (hdone j).2 ⟨hj, waitsB_listed H ho hallr hw⟩
    obtain ⟨hsS, hsH⟩ := hsee.get (List.mem_of_getElem? hri)
    have hs : ∀ t x, look r.st.s t = some x → look (seqS st tbl done).s t = some x := fun t x hx =>
      viewS done t x _ (hsS.mem (t, x) (look_mem hx)) (srcOK _ i _ (List.all_eq_true.1 t5 (t, x) (look_mem hx)) done hord hdn hnot hi hwait)
    have hh : ∀ k b, look r.st.h k = some b → look (seqS st tbl done).h k = some b := fun k b hb =>
      viewH done k b _ (hsH.mem (k, b) (look_mem hb)) (srcOK _ i _ (List.all_eq_true.1 t6 (k, b) (look_mem hb)) done hord hdn hnot hi hwait)
    have Cr : Core σ T r.st a w := S.core.sub hs hh
    have fin' : ∀ σ' T' w' u, Ext σ T w σ' T' w' r.nb r.E → ARel σ' T' w' r.v u → InvD (listed.setIfInBounds i true) (a.put o'.dst u) w' := by
      intro σ' T' w' u X hv
      refine ⟨H.set hr hi, i :: done, fun j => ?_, ⟨hwait, hnot, hord⟩, σ', T', fun b hb => ⟨fun hb' => (hT b hb).1 (X.grow.Tle b (Nat.lt_of_lt_of_le hb S.size) hb'), fun h0 => X.Tge b ((hT b hb).2 h0)⟩, ?_, fun k g hk => X.grow.σle _ _ (hp k g hk), fun k hk hkn => ?_⟩
      · rw [List.mem_cons]
        by_cases e : j = i
        · subst e
          have hsz : j < listed.size := by rw [H.size]; omega
          simp [hi, hsz]
        · rw [getD_set_ne false (Ne.symm e)]
          simp [e, hdone]
      · rw [seq_some hri, hdst.1]
        refine S.step (fun e he => ?_) (fun d hd => hdst.2 d (hdst.1 ▸ hd)) X hv
        obtain ⟨⟨e', b⟩, hm, rfl⟩ := List.mem_map.1 (memB_iff.1 (List.all_eq_true.1 t2 e he))
        cases hl : look r.h e' with
        | none => exact absurd hl (look_ne_none hm)
        | some b' => exact ⟨b', hh e' b' hl⟩
      · rw [X.dom k fun b hb => hkn i List.mem_cons_self r hri (List.mem_map.2 ⟨(k, b), hb, rfl⟩)]
        exact hfresh k hk fun j hj => hkn j (List.mem_cons_of_mem _ hj)
    obtain ⟨o2, ho2, hro⟩ := hrows.get hri
    have : o2 = o' := by
      have h1 : l.toArray[i]? = some o2 := by simpa using ho2
      exact Option.some.inj (h1.symm.trans ho)
    subst this
    rcases hro with ⟨hw, hg⟩ | ⟨hw, hv, hnb, hE⟩
    · refine wpOp_of_wp ho (hw σ T a w Cr) (wp_monoQ (operMono (hg σ T a w Cr fun k b hk hkE => ?_) ?_))
      · obtain ⟨_, h1 | ⟨h1, h2⟩⟩ := nbk i r k hri (List.mem_map.2 ⟨(k, b), hk, rfl⟩)
        · exact absurd h1 hkE
        · refine hfresh k h1 fun j hj q hq hkq => ?_
          have hne : j ≠ i := fun e => hnot (e ▸ hj)
          have hwq : wrH tbl k j = true := by
            unfold wrH; rw [hq]; simp only [Bool.or_eq_true]; exact .inr (memB_iff.2 hkq)
          exact hnot (hord.wait hj hi (h2 j (hdn j hj) hne hwq))
      · rintro a' w' ⟨u, σ', T', rfl, X, hv⟩
        exact fin' σ' T' w' u X hv
    · refine wpOp_of_skip ho (hw σ T a w Cr) (fin' σ T w undef ?_ ?_)
      · rw [hnb, hE]; exact Ext.same S.core.Tlt
      · rw [hv]; exact ⟨[], rfl, trivial⟩
  have atEnd : ∀ listed a w, InvD listed a w → (∀ i, i < tbl.length → listed.getD i false = true) → Inv W0 F N T0 pin fin a w := by
    rintro listed a w ⟨H, done, hdone, hord, σ, T, hT, S, hp, hfresh⟩ hl
    have hdn : ∀ q ∈ done, q < tbl.length := fun q hq => ((hdone q).1 hq).1
    have hin : ∀ q, q < tbl.length → q ∈ done := fun q hq => (hdone q).2 ⟨hq, hl q hq⟩
    have hs : ∀ t x, look fin.s t = some x → look (seqS st tbl done).s t = some x := fun t x hx =>
      viewS done t x _ (hfin.1.mem (t, x) (look_mem hx)) (finOK _ _ (List.all_eq_true.1 hfs (t, x) (look_mem hx)) done hord hdn hin)
    have hfhx : ∀ k b, look fin.h k = some b → k < fin.n ∧ okFin l.toArray tbl.length (wrH tbl k) (srcH tbl fp k) = true := fun k b hb => by
      have := List.all_eq_true.1 hfh _ (look_mem hb)
      simpa only [Bool.and_eq_true, Nat.blt_eq] using this
    have hh : ∀ k b, look fin.h k = some b → look (seqS st tbl done).h k = some b := fun k b hb =>
      viewH done k b _ (hfin.2.mem (k, b) (look_mem hb)) (finOK _ _ (hfhx k b hb).2 done hord hdn hin)
    refine ⟨σ, T, hT, ⟨S.core.sub hs hh, S.os, S.tape, S.output, S.size, S.old, fun k b g hk => S.own k b g (hh k b hk), fun k hk => ?_, fun k b hk => (hfhx k b hk).1, S.tsz, S.dfr⟩, hp⟩
    have hk1 := Nat.le_of_ble_eq_true hfn
    exact hfresh k (by omega) fun i _ r hr hkr => by have := (nbk i r k hr hkr).1; omega
  have main : ∀ k listed a1 w1, InvD listed a1 w1 → unlisted tbl.length listed = k → wpAny P .any l.toArray (QX W0 F N T0 pin Q) k listed a1 w1 := by
    intro k
    induction k with
    | zero =>
      intro listed a1 w1 I hk'
      have hl : ∀ i, i < tbl.length → listed.getD i false = true := fun i hi => by
        have h := List.eq_nil_of_length_eq_zero hk'
        have h2 := List.filter_eq_nil_iff.1 h i (List.mem_range.2 hi)
        simpa using h2
      have hIf := atEnd listed a1 w1 I hl
      refine ⟨List.eq_nil_iff_forall_not_mem.2 fun i hi => ?_, fin, hk, hIf⟩
      obtain ⟨h1, o, ho, _⟩ := mem_ready.1 hi
      have hi' : i < l.toArray.size := (Array.getElem?_eq_some_iff.1 ho).1
      have := hl i (by omega)
      rw [getD_both h1] at this; cases this
    | succ k ih =>
      intro listed a1 w1 I hk'
      have hex : ∃ i, i < tbl.length ∧ listed.getD i false = false ∧ ∀ j, j < i → listed.getD j false = true := by
        have h1 : ∃ i, i < tbl.length ∧ listed.getD i false = false := by
          have hne : ((List.range tbl.length).filter fun i => !listed.getD i false) ≠ [] := fun e => by unfold unlisted at hk'; rw [e] at hk'; cases hk'
          obtain ⟨x, hx⟩ := List.exists_mem_of_ne_nil _ hne
          obtain ⟨hx1, hx2⟩ := List.mem_filter.1 hx
          exact ⟨x, List.mem_range.1 hx1, by simpa using hx2⟩
        obtain ⟨i, hi, hmin⟩ := exists_least h1
        refine ⟨i, hi.1, hi.2, fun j hj => ?_⟩
        cases hjl : listed.getD j false with
        | true => rfl
        | false => exact absurd (hmin j ⟨by omega, hjl⟩) (by omega)
      obtain ⟨i0, hi0, hun0, hlow⟩ := hex
      have hopi : ∀ i, i < tbl.length → ∃ o, l.toArray[i]? = some o := fun i hi => ⟨_, Array.getElem?_eq_getElem (by omega)⟩
      have hin : ∀ i, i < tbl.length → listed.getD i false = false → listed.getD i true = false := fun i hi h => getD_in (by rw [I.1.size]; omega) h
      have hready : i0 ∈ Region.ready .any l.toArray listed := by
        obtain ⟨o, ho⟩ := hopi i0 hi0
        obtain ⟨r, hr⟩ : ∃ r, tbl[i0]? = some r := ⟨_, List.getElem?_eq_getElem hi0⟩
        have t := tab i0 r hr
        simp only [rowWB, Bool.and_eq_true] at t
        have t1 := t.1.1.1.1.1
        rw [ho] at t1
        simp only [Bool.and_eq_true] at t1
        refine mem_ready.2 ⟨hin i0 hi0 hun0, o, ho, fun e he hb => hlow _ ?_⟩
        have h3 := Array.all_eq_true'.1 t1.2 e he
        simp only [Bool.or_eq_true, Bool.not_eq_true', Nat.blt_eq] at h3
        exact h3.resolve_left (by rw [hb]; simp)
      refine ⟨fun h => (by rw [h] at hready; cases hready), fun i hi => ?_⟩
      have hilt : i < tbl.length := by
        obtain ⟨_, o, ho, _⟩ := mem_ready.1 hi
        have hi' : i < l.toArray.size := (Array.getElem?_eq_some_iff.1 ho).1
        omega
      obtain ⟨o, ho⟩ := hopi i hilt
      refine wpOp_mono (fun a' w' I' => ih _ a' w' I' ?_) (step listed a1 w1 i o I ho hilt hi)
      have hunl := getD_both (mem_ready.1 hi).1
      have hset : (listed.setIfInBounds i true).getD i false = true := by
        have : i < listed.size := by rw [I.1.size]; omega
        simp [this]
      have := count_set (p := fun j => !listed.getD j false) (q := fun j => !(listed.setIfInBounds i true).getD j false) (i := i) (by simp only [hunl]; rfl) (by simp only [hset]; rfl)
        (fun j hj => by simp only [getD_set_ne false (Ne.symm hj)]) (List.range tbl.length) List.nodup_range (List.mem_range.2 hilt)
      unfold unlisted at hk' ⊢
      omega
  refine wp_region_any hm ?_
  have inv0 : HeadInv .any l.toArray tbl.length (Array.replicate l.toArray.size false) :=
    ⟨by simp, fun j oj _ hl => (by rw [getD_replicate_false] at hl; cases hl), fun t _ ht => getD_in (by simpa using ht) (getD_replicate_false _ _)⟩
  have hw0 : Sim W0 F N σ0 T1 st a { w with drawn := w.drawn + 1 } :=
    ⟨S0.core.drew, S0.os, S0.tape, S0.output, S0.size, S0.old, S0.own, S0.next, S0.hn, S0.tsz, S0.dfr⟩
  have I0 : InvD (Array.replicate l.toArray.size false) a { w with drawn := w.drawn + 1 } :=
    ⟨inv0, [], fun i => by rw [getD_replicate_false]; simp, trivial, σ0, T1, hT1, hw0, hp0, fun k hk _ => S0.next k hk⟩
  have := main tbl.length _ a _ I0 (by
    unfold unlisted
    rw [List.filter_eq_self.2 (fun i _ => by rw [getD_replicate_false]; rfl), List.length_range])
  rw [hlen] at this
  exact this
end
end Go.Proofs.Ytgmcdlfmifijlaa.Dev
