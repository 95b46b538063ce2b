/- The symbolic heap: a drawn region whose stores' places are drawn, too; no condition. -/
import Derived.Test.YtgmcdlfmifijlaaDSh13
set_option linter.unusedVariables false
set_option linter.unusedSimpArgs false
namespace Go.Proofs.Ytgmcdlfmifijlaa.Dev
open Go.RowKit

section
variable {P : Program} {W0 : World} {F : Nat → Prop} {N : NT} {T0 : Nat → Prop} {pin : List (Nat × Adr)} {Q : Exit → AState → Prop} {st : AState} {ops : Array Oper}
/-- what is left of a region, in each of its orders -/
def AR (P : Program) (W0 : World) (F : Nat → Prop) (N : NT) (T0 : Nat → Prop) (pin : List (Nat × Adr)) (ops : Array Oper) (Q : Exit → AState → Prop) : Nat → Array Bool → AState → Prop
  | 0, listed, st => Region.ready .any ops listed = [] ∧ Q .normal st
  | f + 1, listed, st => Region.ready .any ops listed ≠ [] ∧ ∀ i ∈ Region.ready .any ops listed, ∀ a w, Inv W0 F N T0 pin st a w → wpOp P ops (QX W0 F N T0 pin Q) i (fun a' w' => ∃ st', AR P W0 F N T0 pin ops Q f (listed.setIfInBounds i true) st' ∧ Inv W0 F N T0 pin st' a' w') a w
theorem AR.sound : ∀ (f : Nat) (listed : Array Bool) (st : AState) (a : Act) (w : World), AR P W0 F N T0 pin ops Q f listed st → Inv W0 F N T0 pin st a w → wpAny P .any ops (QX W0 F N T0 pin Q) f listed a w
  | 0, _, st, _, _, h, hI => ⟨h.1, st, h.2, hI⟩
  | f + 1, _, _, _, _, h, hI => ⟨fun e => absurd e h.1, fun i hi => wpOp_mono (fun a' w' ⟨st', h1, h2⟩ => AR.sound f _ st' a' w' h1 h2) (h.2 i hi _ _ hI)⟩
def nQ (K : AState → Prop) : Exit → AState → Prop := fun e st' => e = .normal ∧ K st'
theorem upon_off {o : Oper} {a : Act} {K : Act → World → Prop} {R S : Exit → Act → World → Prop} {r : Result Next} (hR : ∀ e a w, e ≠ .normal → ¬ R e a w) (h : o.upon P a K R r) : o.upon P a K S r := by
  cases r with
  | ok n w' =>
    cases n <;> simp only [Oper.upon] at h ⊢ <;> try exact h
    refine h.mono fun e w'' he => ?_
    cases e with
    | returned v => exact he
    | panicked c => exact absurd he (hR _ _ _ (fun e => by cases e))
    | outgrown => obtain ⟨_, _, h⟩ := he; exact absurd h (hR _ _ _ (fun e => by cases e))
  | halt x w' => cases x <;> simp only [Oper.upon] at h ⊢ <;> first | exact h | exact absurd h (hR _ _ _ (fun e => by cases e))
theorem AR.step {K : AState → Prop} {i : Nat} {o : Oper} (ho : ops[i]? = some o) (hal : AL P W0 F N T0 pin ops (nQ K) [o] st) : ∀ a w, Inv W0 F N T0 pin st a w → wpOp P ops (QX W0 F N T0 pin Q) i (fun a' w' => ∃ st', K st' ∧ Inv W0 F N T0 pin st' a' w') a w := by
  intro a w hI
  have hR : ∀ e a w, e ≠ .normal → ¬ QX W0 F N T0 pin (nQ K) e a w := by
    rintro e a w he ⟨st', ⟨h1, _⟩, _⟩; exact he h1
  have hN : ∀ a w, QX W0 F N T0 pin (nQ K) .normal a w → ∃ st', K st' ∧ Inv W0 F N T0 pin st' a w := by
    rintro a w ⟨st', ⟨_, h1⟩, h2⟩; exact ⟨st', h1, h2⟩
  have h := hal a w hI
  unfold wpList at h
  unfold wpOp
  rw [ho]
  dsimp only
  split at h
  · rename_i hw
    rw [if_pos hw]
    rcases h with h | ⟨_, a1, w1, h⟩
    · exact .inl (upon_off hR (operMono h fun a w h => hN a w h))
    · exact absurd h (hR _ _ _ (fun e => by cases e))
  · rename_i hw
    rw [if_neg hw]
    exact hN _ _ h
theorem AR.more {f : Nat} {listed : Array Bool} {is : List Nat} (hr : Region.ready .any ops listed = is) (hne : is.isEmpty = false) (h : AllL (fun i => ∀ a w, Inv W0 F N T0 pin st a w → wpOp P ops (QX W0 F N T0 pin Q) i (fun a' w' => ∃ st', AR P W0 F N T0 pin ops Q f (listed.setIfInBounds i true) st' ∧ Inv W0 F N T0 pin st' a' w') a w) is) : AR P W0 F N T0 pin ops Q (f + 1) listed st := by
  refine ⟨fun e => ?_, fun i hi => h.mem i (hr ▸ hi)⟩
  rw [hr] at e; subst e; cases hne
def drawTB (ops : Array Oper) (tbl : List ORow) (N : Nat) (st fin : AState) : Bool :=
  allB ops tbl N st 0 tbl && nodupB (ids tbl) && (ids tbl).all (fun k => Nat.ble st.n k && Nat.blt k fin.n) && nodupB (eats tbl) &&
  Nat.ble st.n fin.n && fin.h.all (fun x => !memB x.1 (eats tbl) && Nat.blt x.1 fin.n) &&
  (Nat.ble tbl.length ops.size && (List.range ops.size).all fun t => Nat.blt t tbl.length || (List.range tbl.length).all fun i => waitsB ops t i)
theorem AC.drawT {id : Nat} {l : List Oper} (tbl : List ORow) (fin : AState) (hm : P.follows .mixedOrders = true) (hB : drawTB l.toArray tbl N.1 st fin = true) (hrows : RowsOK P l.toArray tbl l) (hsee : SeesOK st tbl tbl) (hfin : FinOK st tbl fin)
    (h : AR P W0 F N T0 pin l.toArray Q (l.toArray.size - tbl.length) ((List.range tbl.length).foldl (fun l i => l.setIfInBounds i true) (Array.replicate l.toArray.size false)) fin) : AC P W0 F N T0 pin Q (.region id l.toArray true) st := by
  rintro a w ⟨σ0, T1, hT1, S0, hp0⟩
  unfold drawTB at hB
  simp only [Bool.and_eq_true] at hB
  obtain ⟨⟨⟨⟨⟨⟨hall, hnid⟩, hids⟩, hneat⟩, hfn⟩, hfh⟩, htail⟩ := hB
  have tab : ∀ i r, tbl[i]? = some r → TabF l.toArray tbl N.1 st i r := fun i r hr => rowB_spec (by have := allB_get hall hr; rwa [Nat.zero_add] at this)
  obtain ⟨idu, idn⟩ := nodup_flat (f := fun r : ORow => keys r.nb) (nodupB_iff hnid)
  obtain ⟨eatu, _⟩ := nodup_flat (f := fun r : ORow => r.E) (nodupB_iff hneat)
  have idge : ∀ (i : Nat) (r : ORow) k, tbl[i]? = some r → k ∈ keys r.nb → st.n ≤ k ∧ k < fin.n := fun i r k hr hk => by
    have := List.all_eq_true.1 hids k (List.mem_flatMap.2 ⟨r, List.mem_of_getElem? hr, hk⟩)
    simp only [Bool.and_eq_true, Nat.blt_eq] at this
    exact ⟨Nat.le_of_ble_eq_true this.1, this.2⟩
  have dstu : ∀ (i j : Nat) (ri rj : ORow) (t : Nat), tbl[i]? = some ri → tbl[j]? = some rj → ri.dst = some t → rj.dst = some t → i = j := fun i j ri rj t hi hj h1 h2 => by
    by_cases e : i = j
    · exact e
    · exact absurd h2 (((tab i ri hi).dif j rj hj (Ne.symm e)).1 t h1)
  have hnle : tbl.length ≤ l.toArray.size := by
    exact Nat.le_of_ble_eq_true htail.1
  let InvD : Array Bool → Act → World → Prop := fun listed a w => HeadInv .any l.toArray tbl.length listed ∧ ∃ done : List Nat, (∀ i, i ∈ done ↔ i < tbl.length ∧ listed.getD i false = true) ∧ ∃ σ T, (∀ b, b < W0.heap.size → (T b → T0 b) ∧ (T0 b → T b)) ∧ Sim W0 F N σ T (seqS st tbl done) a w ∧ (∀ k g, look pin k = some g → σ k = some g) ∧
    ∀ k, st.n ≤ k → (∀ i ∈ done, ∀ r, tbl[i]? = some r → k ∉ keys r.nb) → σ k = none
  have step : ∀ listed a w i o, InvD listed a w → l.toArray[i]? = some o → i < tbl.length → i ∈ Region.ready .any l.toArray listed → wpOp P l.toArray (QX W0 F N T0 pin Q) i (InvD (listed.setIfInBounds i true)) a w := by
    rintro listed a w i o ⟨H, done, hdone, σ, T, hT, S, hp, hfresh⟩ ho hi hr
    obtain ⟨r, hri⟩ : ∃ r, tbl[i]? = some r := ⟨_, List.getElem?_eq_getElem hi⟩
    have t := tab i r hri
    obtain ⟨hun, o', ho', hallr⟩ := mem_ready.1 hr
    have hoo : o' = o := Option.some.inj (ho'.symm.trans ho)
    subst hoo
    have hnot : i ∉ done := fun hm => by have := ((hdone i).1 hm).2; rw [getD_both hun] at this; cases this
    have hdst := t.dst _ ho
    have preIn : ∀ j ∈ r.pre, j ∈ done := fun j hj => by
      obtain ⟨hj1, hj2⟩ := t.pre j hj
      exact (hdone j).2 ⟨hj1, waitsB_listed H ho hallr hj2⟩
    obtain ⟨hsS, hsH⟩ := hsee.get (List.mem_of_getElem? hri)
    have hs : ∀ t x, look r.st.s t = some x → look (seqS st tbl done).s t = some x := fun t x hx => by
      rcases hsS (t, x) (look_mem hx) with h1 | ⟨j, hj, q, hq, hqd, hqv⟩
      · rw [seq_base fun j hj q hq e => ?_]; exact h1
        have := ((tab j q hq).lt t e).2
        have h1 : look st.s t = some x := h1
        rw [h1] at this; cases this
      · have hqv : q.v = x := hqv
        subst hqv
        exact seq_dst dstu (preIn j hj) hq hqd
    have hh : ∀ k b, look r.st.h k = some b → look (seqS st tbl done).h k = some b := fun k b hb => by
      have hkm := look_mem hb
      have hkk : k ∈ keys r.h := List.mem_map.2 ⟨(k, b), hkm, rfl⟩
      have hne : ∀ j ∈ done, j ≠ i := fun j hj e => hnot (e ▸ hj)
      rcases hsH (k, b) hkm with h1 | ⟨j, hj, q, hq, hqm⟩
      · rw [seq_heap_base fun j hj q hq => ⟨fun hk => ?_, ((t.dif j q hq (hne j hj)).2 k hkk)⟩]; exact h1
        have := S0.hn k b h1
        have := (idge j q k hq hk).1
        omega
      · exact seq_heap_nb idu idn (preIn j hj) hq hqm fun j' hj' q' hq' => (t.dif j' q' hq' (hne j' hj')).2 k hkk
    have Cr : Core σ T r.st a w := S.core.sub hs hh
    have fin' : ∀ σ' T' w' u, Ext σ T w σ' T' w' r.nb r.E → ARel σ' T' w' r.v u → InvD (listed.setIfInBounds i true) (a.put o'.dst u) w' := by
      intro σ' T' w' u X hv
      refine ⟨H.set hr hi, i :: done, fun j => ?_, σ', T', fun b hb => ⟨fun hb' => (hT b hb).1 (X.grow.Tle b (Nat.lt_of_lt_of_le hb S.size) hb'), fun h0 => X.Tge b ((hT b hb).2 h0)⟩, ?_, fun k g hk => X.grow.σle _ _ (hp k g hk), fun k hk hkn => ?_⟩
      · rw [List.mem_cons]
        by_cases e : j = i
        · subst e
          have hsz : j < listed.size := by rw [H.size]; omega
          simp [hi, hsz]
        · rw [getD_set_ne false (Ne.symm e)]
          simp [e, hdone]
      · rw [seq_some hri, hdst]
        refine S.step (fun e he => ?_) (fun d hd => (t.lt d hd).1) X hv
        obtain ⟨⟨e', b⟩, hm, rfl⟩ := List.mem_map.1 (t.E e he)
        cases hl : look r.h e' with
        | none => exact absurd hl (look_ne_none hm)
        | some b' => exact ⟨b', hh e' b' hl⟩
      · rw [X.dom k fun b hb => hkn i List.mem_cons_self r hri (List.mem_map.2 ⟨(k, b), hb, rfl⟩)]
        exact hfresh k hk fun j hj => hkn j (List.mem_cons_of_mem _ hj)
    obtain ⟨o2, ho2, hro⟩ := hrows.get hri
    have : o2 = o' := by
      have h1 : l.toArray[i]? = some o2 := by simpa using ho2
      exact Option.some.inj (h1.symm.trans ho)
    subst this
    rcases hro with ⟨hw, hg⟩ | ⟨hw, hv, hnb, hE⟩
    · refine wpOp_of_wp ho (hw σ T a w Cr) (wp_monoQ (operMono (hg σ T a w Cr fun k b hk hkE => hfresh k (idge i r k hri (List.mem_map.2 ⟨(k, b), hk, rfl⟩)).1 fun j hj q hq hkq => hnot (idu j i q r k hq hri hkq (List.mem_map.2 ⟨(k, b), hk, rfl⟩) ▸ hj)) ?_))
      rintro a' w' ⟨u, σ', T', rfl, X, hv⟩
      exact fin' σ' T' w' u X hv
    · refine wpOp_of_skip ho (hw σ T a w Cr) (fin' σ T w undef ?_ ?_)
      · rw [hnb, hE]; exact Ext.same S.core.Tlt
      · rw [hv]; exact ⟨[], rfl, trivial⟩
  -- all of the head is done
  have atEnd : ∀ listed a w, InvD listed a w → (∀ i, i < tbl.length → listed.getD i false = true) → Inv W0 F N T0 pin fin a w := by
    rintro listed a w ⟨H, done, hdone, σ, T, hT, S, hp, hfresh⟩ hl
    have hin : ∀ i r, tbl[i]? = some r → i ∈ done := fun i r hr => (hdone i).2 ⟨(List.getElem?_eq_some_iff.1 hr).1, hl i (List.getElem?_eq_some_iff.1 hr).1⟩
    have hs : ∀ t x, look fin.s t = some x → look (seqS st tbl done).s t = some x := fun t x hx => by
      rcases hfin.1.mem (t, x) (look_mem hx) with h1 | ⟨j, q, hq, hqd, hqv⟩
      · rw [seq_base fun j hj q hq e => ?_]; exact h1
        have := ((tab j q hq).lt t e).2
        have h1 : look st.s t = some x := h1
        rw [h1] at this; cases this
      · have hqv : q.v = x := hqv
        subst hqv
        exact seq_dst dstu (hin j q hq) hq hqd
    have hfhx := List.all_eq_true.1 hfh
    have hh : ∀ k b, look fin.h k = some b → look (seqS st tbl done).h k = some b := fun k b hb => by
      have hkm := look_mem hb
      have hno := hfhx _ hkm
      simp only [Bool.and_eq_true, Bool.not_eq_true'] at hno
      have hne : ∀ (j : Nat) (q : ORow), tbl[j]? = some q → k ∉ q.E := fun j q hq hk => by
        have := memB_iff.2 (show k ∈ eats tbl from List.mem_flatMap.2 ⟨q, List.mem_of_getElem? hq, hk⟩)
        rw [hno.1] at this; cases this
      rcases hfin.2.mem (k, b) hkm with h1 | ⟨j, q, hq, hqm⟩
      · rw [seq_heap_base fun j hj q hq => ⟨fun hk => ?_, hne j q hq⟩]; exact h1
        have := S0.hn k b h1
        have := (idge j q k hq hk).1
        omega
      · exact seq_heap_nb idu idn (hin j q hq) hq hqm fun j' hj' q' hq' => hne j' q' hq'
    refine ⟨σ, T, hT, ⟨S.core.sub hs hh, S.os, S.tape, S.output, S.size, S.old, fun k b g hk => S.own k b g (hh k b hk), fun k hk => ?_, fun k b hk => ?_, S.tsz, S.dfr⟩, hp⟩
    · have hk1 := Nat.le_of_ble_eq_true hfn
      exact hfresh k (by omega) fun i _ r hr hkr => by have := (idge i r k hr hkr).2; omega
    · have := hfhx _ (look_mem hk)
      simp only [Bool.and_eq_true, Nat.blt_eq] at this
      exact this.2
  have main : ∀ k listed a1 w1, InvD listed a1 w1 → unlisted tbl.length listed = k → wpAny P .any l.toArray (QX W0 F N T0 pin Q) (k + (l.toArray.size - tbl.length)) listed a1 w1 := by
    intro k
    induction k with
    | zero =>
      intro listed a1 w1 I hk
      have hl : ∀ i, i < tbl.length → listed.getD i false = true := fun i hi => by
        have h := List.eq_nil_of_length_eq_zero hk
        have h2 := List.filter_eq_nil_iff.1 h i (List.mem_range.2 hi)
        simpa using h2
      have hIf := atEnd listed a1 w1 I hl
      have el : listed = (List.range tbl.length).foldl (fun l i => l.setIfInBounds i true) (Array.replicate l.toArray.size false) := by
        apply Array.ext_getElem?
        intro j
        rw [foldl_set_get]
        by_cases hj : j < tbl.length
        · have hjs : j < listed.size := by rw [I.1.size]; omega
          rw [if_pos ⟨hj, by rw [Array.size_replicate]; omega⟩]
          have := hl j hj
          simp [hjs] at this
          simp [hjs, this]
        · rw [if_neg (by omega)]
          by_cases hjs : j < l.toArray.size
          · have h1 := I.1.tail j (by omega) hjs
            have hjs' : j < listed.size := by rw [I.1.size]; exact hjs
            simp [hjs'] at h1
            simp at hjs
            simp [hjs', h1, hjs]
          · have : listed.size ≤ j := by rw [I.1.size]; omega
            simp at hjs
            rw [Array.getElem?_eq_none this, Array.getElem?_eq_none (by simpa using hjs)]
      rw [Nat.zero_add]
      rw [← el] at h
      exact AR.sound _ _ _ _ _ h hIf
    | succ k ih =>
      intro listed a1 w1 I hk
      have hex : ∃ i, i < tbl.length ∧ listed.getD i false = false ∧ ∀ j, j < i → listed.getD j false = true := by
        have h1 : ∃ i, i < tbl.length ∧ listed.getD i false = false := by
          have hne : ((List.range tbl.length).filter fun i => !listed.getD i false) ≠ [] := fun e => by unfold unlisted at hk; rw [e] at hk; cases hk
          obtain ⟨x, hx⟩ := List.exists_mem_of_ne_nil _ hne
          obtain ⟨hx1, hx2⟩ := List.mem_filter.1 hx
          exact ⟨x, List.mem_range.1 hx1, by simpa using hx2⟩
        obtain ⟨i, hi, hmin⟩ := exists_least h1
        refine ⟨i, hi.1, hi.2, fun j hj => ?_⟩
        cases hjl : listed.getD j false with
        | true => rfl
        | false => exact absurd (hmin j ⟨by omega, hjl⟩) (by omega)
      obtain ⟨i0, hi0, hun0, hlow⟩ := hex
      have hopi : ∀ i, i < tbl.length → ∃ o, l.toArray[i]? = some o := fun i hi => ⟨_, Array.getElem?_eq_getElem (by omega)⟩
      have hin : ∀ i, i < tbl.length → listed.getD i false = false → listed.getD i true = false := fun i hi h => getD_in (by rw [I.1.size]; omega) h
      have hready : i0 ∈ Region.ready .any l.toArray listed := by
        obtain ⟨o, ho⟩ := hopi i0 hi0
        obtain ⟨r, hr⟩ : ∃ r, tbl[i0]? = some r := ⟨_, List.getElem?_eq_getElem hi0⟩
        exact mem_ready.2 ⟨hin i0 hi0 hun0, o, ho, fun e he hb => hlow _ ((tab i0 r hr).back o ho e he hb)⟩
      rw [show k + 1 + (l.toArray.size - tbl.length) = (k + (l.toArray.size - tbl.length)) + 1 by omega]
      refine ⟨fun h => (by rw [h] at hready; cases hready), fun i hi => ?_⟩
      have hilt : i < tbl.length := by
        rcases Nat.lt_or_ge i tbl.length with h | h
        · exact h
        · obtain ⟨hun, o, ho, hall'⟩ := mem_ready.1 hi
          have hi' : i < l.toArray.size := (Array.getElem?_eq_some_iff.1 ho).1
          have h1 := List.all_eq_true.1 htail.2 i (List.mem_range.2 hi')
          simp only [Bool.or_eq_true, Nat.blt_eq] at h1
          have h2 := List.all_eq_true.1 (h1.resolve_left (by omega)) i0 (List.mem_range.2 hi0)
          have h3 := waitsB_listed I.1 ho hall' h2
          rw [hun0] at h3; cases h3
      obtain ⟨o, ho⟩ := hopi i hilt
      refine wpOp_mono (fun a' w' I' => ih _ a' w' I' ?_) (step listed a1 w1 i o I ho hilt hi)
      have hunl := getD_both (mem_ready.1 hi).1
      have hset : (listed.setIfInBounds i true).getD i false = true := by
        have : i < listed.size := by rw [I.1.size]; omega
        simp [this]
      have := count_set (p := fun j => !listed.getD j false) (q := fun j => !(listed.setIfInBounds i true).getD j false) (i := i) (by simp only [hunl]; rfl) (by simp only [hset]; rfl)
        (fun j hj => by simp only [getD_set_ne false (Ne.symm hj)]) (List.range tbl.length) List.nodup_range (List.mem_range.2 hilt)
      unfold unlisted at hk ⊢
      omega
  refine wp_region_any hm ?_
  have inv0 : HeadInv .any l.toArray tbl.length (Array.replicate l.toArray.size false) :=
    ⟨by simp, fun j oj _ hl => (by rw [getD_replicate_false] at hl; cases hl), fun t _ ht => getD_in (by simpa using ht) (getD_replicate_false _ _)⟩
  have hw0 : Sim W0 F N σ0 T1 st a { w with drawn := w.drawn + 1 } :=
    ⟨S0.core.drew, S0.os, S0.tape, S0.output, S0.size, S0.old, S0.own, S0.next, S0.hn, S0.tsz, S0.dfr⟩
  have I0 : InvD (Array.replicate l.toArray.size false) a { w with drawn := w.drawn + 1 } :=
    ⟨inv0, [], fun i => by rw [getD_replicate_false]; simp, σ0, T1, hT1, hw0, hp0, fun k hk _ => S0.next k hk⟩
  have := main tbl.length _ a _ I0 (by
    unfold unlisted
    rw [List.filter_eq_self.2 (fun i _ => by rw [getD_replicate_false]; rfl), List.length_range])
  rw [show tbl.length + (l.toArray.size - tbl.length) = l.toArray.size by omega] at this
  exact this
end
end Go.Proofs.Ytgmcdlfmifijlaa.Dev
