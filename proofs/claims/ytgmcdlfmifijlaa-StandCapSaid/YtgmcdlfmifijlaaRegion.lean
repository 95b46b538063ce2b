/- A statement whose order is open and that makes memory: the operations of its head are each shown to do their part, in whatever order; its tail comes behind them. No condition. -/
import Derived.Test.YtgmcdlfmifijlaaBase
import Derived.StillTail
namespace Go.Proofs.Ytgmcdlfmifijlaa
open Go.RowKit

def bl1 : Value → List Nat
  | .slice (some a) _ _ => [a.block]
  | .pointer (some a) => [a.block]
  | _ => []
/-- The blocks that a value leads to. -/
def bl : Value → List Nat
  | .agg cs => cs.toList.flatMap bl1
  | v => bl1 v
def slotOf (ops : Array Oper) (i : Nat) : Tmp := ((ops[i]?).bind (·.dst)).getD 0
def slotV (ops : Array Oper) (a : Act) (i : Nat) : Value := a.tmps.getD (slotOf ops i) undef

/-- What is told of a head of n operations: G: what operation i's value is; lin: does it lead to memory of the statement's own; ins: of which operations' values it asks; uses: which of these it uses up. -/
structure Makers where
  n : Nat
  G : Nat → Value → World → Prop
  lin : Nat → Bool
  ins : Nat → List Nat
  uses : Nat → List Nat

section
variable {P : Program} {Q : Exit → Act → World → Prop}

def Makers.live (M : Makers) (listed : Array Bool) (i : Nat) : Prop := listed.getD i false = true ∧ ∀ c, c < M.n → i ∈ M.uses c → listed.getD c false = false
def SameBut (ops : Array Oper) (n : Nat) (a0 a : Act) : Prop :=
  a.defers = a0.defers ∧ a.tmps.size = a0.tmps.size ∧ ∀ s, (∀ i, i < n → slotOf ops i ≠ s) → a.tmps.getD s undef = a0.tmps.getD s undef
structure Makers.Inv (M : Makers) (ops : Array Oper) (W : World) (a0 : Act) (listed : Array Bool) (a : Act) (w : World) : Prop where
  head : HeadInv .any ops M.n listed
  below : Below W.heap.size W w
  same : SameBut ops M.n a0 a
  facts : ∀ i, i < M.n → M.live listed i → M.G i (slotV ops a i) w
  apart : ∀ i j, i < M.n → j < M.n → i ≠ j → M.live listed i → M.live listed j → M.lin i = true → M.lin j = true → ∀ g ∈ bl (slotV ops a i), g ∉ bl (slotV ops a j)

/-- What is asked of operation i. -/
def Makers.Step (M : Makers) (P : Program) (Q : Exit → Act → World → Prop) (ops : Array Oper) (W : World) (a0 : Act) (i : Nat) (o : Oper) : Prop :=
  ∀ (a : Act) (w : World), Below W.heap.size W w → SameBut ops M.n a0 a → (∀ j, j ∈ M.ins i → M.G j (slotV ops a j) w) →
    (∀ j k, j ∈ M.uses i → k ∈ M.uses i → j ≠ k → ∀ g ∈ bl (slotV ops a j), g ∉ bl (slotV ops a k)) →
    ∀ K : Act → World → Prop, (∀ v w' row, M.G i v w' → w.grownBy w' row → (∀ g, row = some g → ∃ j, j ∈ M.uses i ∧ g ∈ bl (slotV ops a j)) →
      (M.lin i = true → ∀ g ∈ bl v, w.heap.size ≤ g ∨ ∃ j, j ∈ M.uses i ∧ g ∈ bl (slotV ops a j)) → K (a.put o.dst v) w') → o.wp P a w K Q

/-- The closed facts, as one test. -/
def Makers.ok (n : Nat) (lin : Nat → Bool) (ins uses : Nat → List Nat) (ops : Array Oper) (m : Nat) : Bool :=
  Region.sinkB .any ops n && Region.chainB .any ops n && decide (n < ops.size) &&
  (List.range n).all (fun i => (match ops[i]? with | some o => o.guard.isNone && o.dst.isSome && decide (o.dst.getD 0 < m) | none => false) &&
    (List.range n).all (fun j => i == j || (slotOf ops i != slotOf ops j && (uses i).all fun k => !(uses j).contains k)) &&
    (ins i).all (fun j => decide (j < n) && Region.waitsFor .any ops i j && (!lin j || (uses i).contains j)) &&
    (uses i).all (fun j => (ins i).contains j && lin j) &&
    (match ops[i]? with | some o => o.after.all (fun e => decide (e.on < i)) | none => false)) &&
  Region.seqB .any ops (ops.size - n) n ((List.range n).foldl (fun l i => l.setIfInBounds i true) (Array.replicate ops.size false))

theorem foldl_set_get (n : Nat) : ∀ (l : Array Bool) (j : Nat), ((List.range n).foldl (fun l i => l.setIfInBounds i true) l)[j]? = if j < n ∧ j < l.size then some true else l[j]? := by
  induction n with
  | zero => intro l j; simp
  | succ n ih =>
    intro l j
    have hsz : ∀ (xs : List Nat) (l : Array Bool), (xs.foldl (fun l i => l.setIfInBounds i true) l).size = l.size := by
      intro xs
      induction xs with
      | nil => intro l; rfl
      | cons x xs ih => intro l; rw [List.foldl_cons, ih, Array.size_setIfInBounds]
    rw [List.range_succ, List.foldl_append, List.foldl_cons, List.foldl_nil, Array.getElem?_setIfInBounds, hsz, ih]
    by_cases h1 : n = j
    · subst h1
      by_cases h2 : n < l.size
      · rw [if_pos rfl, if_pos h2, if_pos ⟨by omega, h2⟩]
      · rw [if_pos rfl, if_neg h2, if_neg (by omega)]; simp [Nat.le_of_not_lt h2]
    · rw [if_neg h1]
      by_cases h2 : j < n ∧ j < l.size
      · rw [if_pos h2, if_pos ⟨by omega, h2.2⟩]
      · rw [if_neg h2, if_neg (by omega)]

variable (M : Makers) {ops : Array Oper} {W : World} {a0 : Act}

theorem Makers.Inv.step {listed : Array Bool} {a : Act} {w : World} (I : M.Inv ops W a0 listed a w)
    (hdist : ∀ i j, i < M.n → j < M.n → i ≠ j → slotOf ops i ≠ slotOf ops j) (huniq : ∀ i j, i < M.n → j < M.n → i ≠ j → ∀ k ∈ M.uses i, k ∉ M.uses j)
    (hins : ∀ i, i < M.n → ∀ j ∈ M.ins i, j < M.n ∧ Region.waitsFor .any ops i j = true ∧ (M.lin j = true → j ∈ M.uses i))
    (huse : ∀ i, i < M.n → ∀ j ∈ M.uses i, j ∈ M.ins i ∧ M.lin j = true)
    (hst : ∀ i, i < M.n → M.lin i = true → ∀ v w w' row, M.G i v w → w.grownBy w' row → (∀ g, row = some g → g ∉ bl v) → M.G i v w')
    (hco : ∀ i, i < M.n → M.lin i = false → ∀ v w w', M.G i v w → M.G i v w')
    (hlt : ∀ i, i < M.n → M.lin i = true → ∀ v w, M.G i v w → ∀ g ∈ bl v, W.heap.size ≤ g ∧ g < w.heap.size)
    {i : Nat} {o : Oper} (ho : ops[i]? = some o) (hi : i < M.n) (hr : i ∈ Region.ready .any ops listed) (hg : o.guard = none) {d : Tmp} (hd : o.dst = some d) (hdm : d < a0.tmps.size)
    (hs : M.Step P Q ops W a0 i o) : wpOp P ops Q i (fun a' w' => M.Inv ops W a0 (listed.setIfInBounds i true) a' w') a w := by
  obtain ⟨hun, o', ho', hall⟩ := mem_ready.1 hr
  have hoo : o' = o := Option.some.inj (ho'.symm.trans ho)
  subst hoo
  have hsl : slotOf ops i = d := by unfold slotOf; rw [ho]; simp [hd]
  have hli : listed.getD i false = false := getD_both hun
  have listedOf : ∀ j ∈ M.ins i, listed.getD j false = true := fun j hj => by
    obtain ⟨oj, hoj, e, he, hb, hon⟩ := Region.waitsFor_spec (hins i hi j hj).2.1
    have : oj = o' := Option.some.inj (hoj.symm.trans ho)
    subst this
    rw [← hon]; exact hall e he hb
  have liveOf : ∀ j ∈ M.ins i, M.live listed j := fun j hj => ⟨listedOf j hj, fun c hc hu => by
    by_cases hci : c = i
    · subst hci; exact hli
    · have hl := (huse c hc j hu).2
      exact absurd ((hins i hi j hj).2.2 hl) (huniq c i hc hi hci j hu)⟩
  have useIn : ∀ j ∈ M.uses i, j < M.n := fun j hj => (hins i hi j (huse i hi j hj).1).1
  unfold wpOp
  rw [ho]
  simp only [Region.wanted, hg, if_true]
  refine .inl (hs a w I.below I.same (fun j hj => I.facts j (hins i hi j hj).1 (liveOf j hj))
    (fun j k hj hk hne => I.apart j k (useIn j hj) (useIn k hk) hne (liveOf j (huse i hi j hj).1) (liveOf k (huse i hi k hk).1) (huse i hi j hj).2 (huse i hi k hk).2) _ ?_)
  intro v w' row hG hgr hrow hbl
  have slotNew : slotV ops (a.put o'.dst v) i = v := by
    unfold slotV; rw [hsl, hd]; simp only [Act.put]
    have : d < a.tmps.size := by rw [I.same.2.1]; exact hdm
    simp [this]
  have slotOld : ∀ k, k < M.n → k ≠ i → slotV ops (a.put o'.dst v) k = slotV ops a k := fun k hk hne => by
    unfold slotV; rw [hd]; simp only [Act.put]
    have hne2 : d ≠ slotOf ops k := by rw [← hsl]; exact hdist i k hi hk (Ne.symm hne)
    simp [Array.getElem?_setIfInBounds_ne hne2]
  have hli' : (listed.setIfInBounds i true).getD i false = true := by
    have : i < listed.size := by rw [I.head.size]; exact (Array.getElem?_eq_some_iff.1 ho).1
    simp [this]
  have liveOld : ∀ k, k ≠ i → M.live (listed.setIfInBounds i true) k → M.live listed k ∧ k ∉ M.uses i := fun k hne h => by
    refine ⟨⟨by rw [← getD_set_ne false (Ne.symm hne)]; exact h.1, fun c hc hu => ?_⟩, fun hu => ?_⟩
    · by_cases hci : c = i
      · subst hci; exact hli
      · rw [← getD_set_ne false (Ne.symm hci)]; exact h.2 c hc hu
    · have := h.2 i hi hu
      rw [hli'] at this; cases this
  have far : ∀ k, k < M.n → k ≠ i → M.live (listed.setIfInBounds i true) k → M.lin k = true → ∀ g j, j ∈ M.uses i → g ∈ bl (slotV ops a j) → g ∉ bl (slotV ops a k) := fun k hk hne h hl g j hj hgj => by
    obtain ⟨h1, h2⟩ := liveOld k hne h
    exact I.apart j k (useIn j hj) hk (fun e => h2 (e ▸ hj)) (liveOf j (huse i hi j hj).1) h1 (huse i hi j hj).2 hl g hgj
  have newApart : ∀ k, k < M.n → k ≠ i → M.live (listed.setIfInBounds i true) k → M.lin k = true → M.lin i = true → ∀ g ∈ bl v, g ∉ bl (slotV ops a k) := fun k hk hne h hl hli g hgv hgk => by
    rcases hbl hli g hgv with h1 | ⟨j, hj, hgj⟩
    · have := (hlt k hk hl _ w (I.facts k hk (liveOld k hne h).1) g hgk).2
      omega
    · exact far k hk hne h hl g j hj hgj hgk
  refine ⟨I.head.set hr hi, ?_, ?_, ?_, ?_⟩
  · refine I.below.grown hgr I.below.size (fun g hgg => ?_)
    obtain ⟨j, hj, hgj⟩ := hrow g hgg
    exact (hlt j (useIn j hj) (huse i hi j hj).2 _ w (I.facts j (useIn j hj) (liveOf j (huse i hi j hj).1)) g hgj).1
  · refine ⟨?_, ?_, ?_⟩
    · rw [hd]; exact I.same.1
    · rw [hd]; simp only [Act.put, Array.size_setIfInBounds]; exact I.same.2.1
    · intro s hs'
      have hne : d ≠ s := by rw [← hsl]; exact hs' i hi
      rw [hd]; simp only [Act.put]
      rw [← I.same.2.2 s hs']
      simp [Array.getElem?_setIfInBounds_ne hne]
  · intro k hk hlk
    by_cases hki : k = i
    · subst hki; rw [slotNew]; exact hG
    · rw [slotOld k hk hki]
      have h0 := I.facts k hk (liveOld k hki hlk).1
      cases hl : M.lin k with
      | false => exact hco k hk hl _ _ _ h0
      | true =>
        refine hst k hk hl _ _ _ row h0 hgr (fun g hgg => ?_)
        obtain ⟨j, hj, hgj⟩ := hrow g hgg
        exact far k hk hki hlk hl g j hj hgj
  · intro k l hk hl hne hlk hll hnk hnl g hgk hgl
    by_cases hki : k = i
    · subst hki
      rw [slotNew] at hgk
      rw [slotOld l hl (Ne.symm hne)] at hgl
      exact newApart l hl (Ne.symm hne) hll hnl hnk g hgk hgl
    · rw [slotOld k hk hki] at hgk
      by_cases hli2 : l = i
      · subst hli2
        rw [slotNew] at hgl
        exact newApart k hk hki hlk hnk hnl g hgl hgk
      · rw [slotOld l hl hli2] at hgl
        exact I.apart k l hk hl hne (liveOld k hki hlk).1 (liveOld l hli2 hll).1 hnk hnl g hgk hgl

theorem count_set {p q : Nat → Bool} {i : Nat} (hp : p i = true) (hq : q i = false) (h : ∀ j, j ≠ i → p j = q j) : ∀ (l : List Nat), l.Nodup → i ∈ l → (l.filter p).length = (l.filter q).length + 1
  | [], _, hi => by cases hi
  | x :: l, hn, hi => by
    obtain ⟨h1, h2⟩ := List.nodup_cons.1 hn
    by_cases hx : x = i
    · subst hx
      have e : l.filter p = l.filter q := List.filter_congr fun j hj => h j (fun e => h1 (e ▸ hj))
      simp [hp, hq, e]
    · have hi' : i ∈ l := by
        rcases List.mem_cons.1 hi with e | e
        · exact absurd e.symm hx
        · exact e
      have ih := count_set hp hq h l h2 hi'
      rw [List.filter_cons, List.filter_cons, h x hx]
      split <;> simp [ih]

def unlisted (n : Nat) (listed : Array Bool) : Nat := ((List.range n).filter fun i => !listed.getD i false).length

theorem wp_region_makers {id : Nat} {a : Act} {w : World} {l : List Oper} (M : Makers) (hm : P.follows .mixedOrders = true) (hok : Makers.ok M.n M.lin M.ins M.uses l.toArray a.tmps.size = true)
    (hst : ∀ i, i < M.n → M.lin i = true → ∀ v w1 w2 row, M.G i v w1 → w1.grownBy w2 row → (∀ g, row = some g → g ∉ bl v) → M.G i v w2)
    (hco : ∀ i, i < M.n → M.lin i = false → ∀ v w1 w2, M.G i v w1 → M.G i v w2)
    (hlt : ∀ i, i < M.n → M.lin i = true → ∀ v w1, M.G i v w1 → ∀ g ∈ bl v, w.heap.size ≤ g ∧ g < w1.heap.size)
    (hs : ∀ i, i < M.n → ∀ o, l.toArray[i]? = some o → M.Step P Q l.toArray w.drew a i o)
    (ht : ∀ a' w', Below w.heap.size w.drew w' → SameBut l.toArray M.n a a' → (∀ i, i < M.n → (∀ c, c < M.n → i ∉ M.uses c) → M.G i (slotV l.toArray a' i) w') →
      (∀ i j, i < M.n → j < M.n → i ≠ j → (∀ c, c < M.n → i ∉ M.uses c) → (∀ c, c < M.n → j ∉ M.uses c) → M.lin i = true → M.lin j = true → ∀ g ∈ bl (slotV l.toArray a' i), g ∉ bl (slotV l.toArray a' j)) →
      wpList P l.toArray Q (l.drop M.n) a' w') :
    (Code.region id l.toArray true).wp P Q a w := by
  simp only [Makers.ok, Bool.and_eq_true, decide_eq_true_eq] at hok
  obtain ⟨⟨⟨⟨hsink, hchain⟩, hn⟩, hall⟩, hseq⟩ := hok
  have hall' := fun i (hi : i < M.n) => List.all_eq_true.1 hall i (List.mem_range.2 hi)
  simp only [Bool.and_eq_true] at hall'
  have hop : ∀ i, i < M.n → ∃ o d, l.toArray[i]? = some o ∧ o.guard = none ∧ o.dst = some d ∧ d < a.tmps.size := fun i hi => by
    have h := (hall' i hi).1.1.1.1
    split at h
    · rename_i o ho
      simp only [Bool.and_eq_true, Option.isNone_iff_eq_none, decide_eq_true_eq] at h
      obtain ⟨d, hd⟩ := Option.isSome_iff_exists.1 h.1.2
      exact ⟨o, d, ho, h.1.1, hd, by simpa [hd] using h.2⟩
    · cases h
  have hback : ∀ i, i < M.n → ∀ o, l.toArray[i]? = some o → ∀ e ∈ o.after, e.on < i := fun i hi o ho e he => by
    have h := (hall' i hi).2
    rw [ho] at h
    simpa using Array.all_eq_true_iff_forall_mem.1 h e he
  have hdist : ∀ i j, i < M.n → j < M.n → i ≠ j → slotOf l.toArray i ≠ slotOf l.toArray j := fun i j hi hj hne => by
    have h := List.all_eq_true.1 (hall' i hi).1.1.1.2 j (List.mem_range.2 hj)
    simp only [Bool.or_eq_true, beq_iff_eq, Bool.and_eq_true, bne_iff_ne, ne_eq] at h
    exact (h.resolve_left hne).1
  have huniq : ∀ i j, i < M.n → j < M.n → i ≠ j → ∀ k ∈ M.uses i, k ∉ M.uses j := fun i j hi hj hne k hk => by
    have h := List.all_eq_true.1 (hall' i hi).1.1.1.2 j (List.mem_range.2 hj)
    simp only [Bool.or_eq_true, beq_iff_eq, Bool.and_eq_true] at h
    have := List.all_eq_true.1 (h.resolve_left hne).2 k hk
    simpa using this
  have hins : ∀ i, i < M.n → ∀ j ∈ M.ins i, j < M.n ∧ Region.waitsFor .any l.toArray i j = true ∧ (M.lin j = true → j ∈ M.uses i) := fun i hi j hj => by
    have h := List.all_eq_true.1 (hall' i hi).1.1.2 j hj
    simp only [Bool.and_eq_true, decide_eq_true_eq, Bool.or_eq_true, Bool.not_eq_true'] at h
    exact ⟨h.1.1, h.1.2, fun hl => by
      rcases h.2 with e | e
      · rw [hl] at e; cases e
      · simpa using e⟩
  have huse : ∀ i, i < M.n → ∀ j ∈ M.uses i, j ∈ M.ins i ∧ M.lin j = true := fun i hi j hj => by
    have h := List.all_eq_true.1 (hall' i hi).1.2 j hj
    simp only [Bool.and_eq_true] at h
    exact ⟨by simpa using h.1, h.2⟩
  have main : ∀ k listed a1 w1, M.Inv l.toArray w.drew a listed a1 w1 → unlisted M.n listed = k → wpAny P .any l.toArray Q (k + (l.toArray.size - M.n)) listed a1 w1 := by
    intro k
    induction k with
    | zero =>
      intro listed a1 w1 I hk
      have hl : ∀ i, i < M.n → listed.getD i false = true := fun i hi => by
        have h := List.eq_nil_of_length_eq_zero hk
        have h2 := List.filter_eq_nil_iff.1 h i (List.mem_range.2 hi)
        simpa using h2
      have el : listed = (List.range M.n).foldl (fun l i => l.setIfInBounds i true) (Array.replicate l.toArray.size false) := by
        apply Array.ext_getElem?
        intro j
        rw [foldl_set_get]
        by_cases hj : j < M.n
        · have hjs : j < listed.size := by rw [I.head.size]; omega
          rw [if_pos ⟨hj, by simpa using (by omega : j < l.toArray.size)⟩]
          have := hl j hj
          simp [hjs] at this
          simp [hjs, this]
        · rw [if_neg (by omega)]
          by_cases hjs : j < l.toArray.size
          · have h1 := I.head.tail j (by omega) hjs
            have hjs' : j < listed.size := by rw [I.head.size]; exact hjs
            simp [hjs'] at h1
            simp at hjs
            simp [hjs', h1, hjs]
          · have : listed.size ≤ j := by rw [I.head.size]; omega
            simp at hjs
            rw [Array.getElem?_eq_none this, Array.getElem?_eq_none (by simpa using hjs)]
      have hlive : ∀ i, i < M.n → (∀ c, c < M.n → i ∉ M.uses c) → M.live listed i := fun i hi hc => ⟨hl i hi, fun c hcn hu => absurd hu (hc c hcn)⟩
      have hdl : (l.drop M.n).length = l.toArray.size - M.n := by simp
      have := wpAny_of_seq (md := .any) (Q' := Q) (l.drop M.n) M.n listed a1 w1 (fun j => by simp [List.getElem?_drop]) (by rw [hdl, el]; exact hseq)
        (ht a1 w1 I.below I.same (fun i hi hc => I.facts i hi (hlive i hi hc)) (fun i j hi hj hne hci hcj => I.apart i j hi hj hne (hlive i hi hci) (hlive j hj hcj)))
      rw [hdl] at this
      rw [Nat.zero_add]
      exact this
    | succ k ih =>
      intro listed a1 w1 I hk
      have hex : ∃ i, i < M.n ∧ listed.getD i false = false ∧ ∀ j, j < i → listed.getD j false = true := by
        have h1 : ∃ i, i < M.n ∧ listed.getD i false = false := by
          have hne : ((List.range M.n).filter fun i => !listed.getD i false) ≠ [] := fun e => by unfold unlisted at hk; rw [e] at hk; cases hk
          obtain ⟨x, hx⟩ := List.exists_mem_of_ne_nil _ hne
          obtain ⟨hx1, hx2⟩ := List.mem_filter.1 hx
          exact ⟨x, List.mem_range.1 hx1, by simpa using hx2⟩
        obtain ⟨i, hi, hmin⟩ := exists_least h1
        refine ⟨i, hi.1, hi.2, fun j hj => ?_⟩
        cases hjl : listed.getD j false with
        | true => rfl
        | false => exact absurd (hmin j ⟨by omega, hjl⟩) (by omega)
      obtain ⟨i0, hi0, hun0, hlow⟩ := hex
      have hin : ∀ i, i < M.n → listed.getD i false = false → listed.getD i true = false := fun i hi h => getD_in (by rw [I.head.size]; omega) h
      have hready : i0 ∈ Region.ready .any l.toArray listed := by
        obtain ⟨o, d, ho, _⟩ := hop i0 hi0
        exact mem_ready.2 ⟨hin i0 hi0 hun0, o, ho, fun e he _ => hlow _ (hback i0 hi0 o ho e he)⟩
      rw [show k + 1 + (l.toArray.size - M.n) = (k + (l.toArray.size - M.n)) + 1 by omega]
      refine ⟨fun h => (by rw [h] at hready; cases hready), fun i hi => ?_⟩
      have hilt : i < M.n := by
        rcases Nat.lt_or_ge i M.n with h | h
        · exact h
        · exact absurd hi (tail_waits hsink hchain hn I.head _ i0 rfl hi0 (hin i0 hi0 hun0) i h)
      obtain ⟨o, d, ho, hg, hd, hdm⟩ := hop i hilt
      refine wpOp_mono (fun a' w' I' => ih _ a' w' I' ?_) (I.step M hdist huniq hins huse hst hco hlt ho hilt hi hg hd hdm (hs i hilt o ho))
      have hunl := getD_both (mem_ready.1 hi).1
      have hset : (listed.setIfInBounds i true).getD i false = true := by
        have : i < listed.size := by rw [I.head.size]; omega
        simp [this]
      have := count_set (p := fun j => !listed.getD j false) (q := fun j => !(listed.setIfInBounds i true).getD j false) (i := i) (by simp only [hunl]; rfl) (by simp only [hset]; rfl)
        (fun j hj => by simp only [getD_set_ne false (Ne.symm hj)]) (List.range M.n) List.nodup_range (List.mem_range.2 hilt)
      unfold unlisted at hk ⊢
      omega
  refine wp_region_any hm ?_
  have inv0 : HeadInv .any l.toArray M.n (Array.replicate l.toArray.size false) :=
    ⟨by simp, fun j oj _ hl => (by rw [getD_replicate_false] at hl; cases hl), fun t _ ht => getD_in (by simpa using ht) (getD_replicate_false _ _)⟩
  have I0 : M.Inv l.toArray w.drew a (Array.replicate l.toArray.size false) a w.drew :=
    ⟨inv0, Below.refl _ _, ⟨rfl, rfl, fun _ _ => rfl⟩, fun i _ hl => (by have := hl.1; rw [getD_replicate_false] at this; cases this), fun i _ _ _ _ hl => (by have := hl.1; rw [getD_replicate_false] at this; cases this)⟩
  have := main M.n _ a w.drew I0 (by
    unfold unlisted
    rw [List.filter_eq_self.2 (fun i _ => by rw [getD_replicate_false]; rfl), List.length_range])
  rw [show M.n + (l.toArray.size - M.n) = l.toArray.size by omega] at this
  exact this

end
end Go.Proofs.Ytgmcdlfmifijlaa
