/- What a parameter reads as: plain data of the symbolic heap; no condition. -/
import Derived.Test.YtgmcdlfmifijlaaDSh12
import Derived.Deep.Slices
import Derived.Deep.Fields
import Derived.ChangeSame
import Derived.Lib.SmallJoins
import Derived.OpenShut
set_option linter.unusedVariables false
set_option linter.unusedSimpArgs false
namespace Go.Proofs.Ytgmcdlfmifijlaa.Dev
open Go.RowKit Go.ChangeShapes Go.WideShapes Go.Deep Go.Joins

def InI (n : Int) : Prop := -9223372036854775808 ≤ n ∧ n ≤ 9223372036854775807
theorem list_upto {α : Type} {p : Nat → α → Prop} (n : Nat) (h : ∀ i, i < n → ∃ x, p i x) : ∃ xs : List α, xs.length = n ∧ ∀ q x, xs[q]? = some x → p q x := by
  induction n with
  | zero => exact ⟨[], rfl, fun q x hx => by simp at hx⟩
  | succ n ih =>
    obtain ⟨xs, hl, hx⟩ := ih fun i hi => h i (by omega)
    obtain ⟨y, hy⟩ := h n (by omega)
    refine ⟨xs ++ [y], by simp [hl], fun q x hq => ?_⟩
    by_cases hqn : q < n
    · rw [List.getElem?_append_left (by omega)] at hq
      exact hx q x hq
    · have hlt := (List.getElem?_eq_some_iff.1 hq).1
      simp [hl] at hlt
      obtain rfl : q = n := by omega
      rw [List.getElem?_append_right (by omega), hl] at hq
      simp at hq
      exact hq ▸ hy
def NoT : Nat → Prop := fun _ => False
/-- That what reads at type t is some a's cells. -/
def Opens {α : Type} (P : Program) (t : TypeId) (K : Nat) (f : α → List D) (Q : α → Prop) : Prop :=
  (∀ a, (f a).length = K) ∧ ∀ (H : Type) (enc : TypeId × Value → H) (w : World) (base : Nat) (spare : Nat → Bool) (held : Bool) (n : Nat) (cs : List Value) (y : DataW H × List MemPlace),
    DataW.trod enc P w base spare held n t cs = some y → ∃ a, All2 (DRel NoT w) (f a) cs ∧ Q a
section
variable {P : Program} {t e : TypeId}
theorem opens_int (ht : P.underlying t = some (.int .i64)) : Opens P t 1 (fun n : Int => [dI n]) InI := ⟨fun _ => rfl, fun H enc w base spare held n cs y h => by
  obtain ⟨a, rfl, _, hw⟩ := DataW.trod_int ht h
  exact ⟨a, ⟨DRel.v _ rfl, trivial⟩, bounds_i64 hw⟩⟩
theorem opens_u8 (ht : P.underlying t = some (.int .u8)) : Opens P t 1 (fun n : Int => [.v (.int .u8 n)]) (fun n => 0 ≤ n ∧ n ≤ 255) := ⟨fun _ => rfl, fun H enc w base spare held n cs y h => by
  obtain ⟨a, rfl, _, hw⟩ := DataW.trod_int ht h
  refine ⟨a, ⟨DRel.v _ rfl, trivial⟩, ?_⟩
  simp only [Lit.wf, Bool.and_eq_true, decide_eq_true_eq] at hw
  exact ⟨hw.1, hw.2⟩⟩
theorem opens_bool (ht : P.underlying t = some .bool) : Opens P t 1 (fun b : Bool => [dB b]) (fun _ => True) := ⟨fun _ => rfl, fun H enc w base spare held n cs y h => by
  obtain ⟨a, rfl, _⟩ := DataW.trod_bool ht h
  exact ⟨a, ⟨DRel.v _ rfl, trivial⟩, trivial⟩⟩
theorem opens_slice {α : Type} {K : Nat} {f : α → List D} {Q : α → Prop} (ht : P.underlying t = some (.slice e)) (hC : P.cellsOf e = K) (hK : 0 < K) (ho : Opens P e K f Q) : Opens P t 1 (fun xs : List α => [.r K (xs.map f)]) (fun xs => (∀ x ∈ xs, Q x) ∧ xs.length ≤ 9223372036854775807) := ⟨fun _ => rfl, fun H enc w base spare held fuel cs x h => by
  rcases open_slice ht h with ⟨rfl, _⟩ | ⟨a, len, cap, m, n, DD, Pl, rfl, hb, hl, hm, hmm, hx, hi⟩
  · exact ⟨[], ⟨DRel.nil _ _ _, trivial⟩, fun x hx => by simp at hx, by simp⟩
  · have hlm : len ≤ m := by rw [hmm]; split <;> omega
    obtain ⟨xs, hxl, hxs⟩ := list_upto (p := fun i x => Q x ∧ a.spot = none ∧ a.block < w.heap.size ∧ ∃ cs', All2 (DRel NoT w) (f x) cs' ∧ ∀ j v, cs'[j]? = some v → w.cell? ⟨a.block, a.off + i * K + j, none⟩ = some v) len fun i hil => by
      obtain ⟨cs', hc, ht'⟩ := hi i (by omega)
      obtain ⟨y, hrel, hq⟩ := ho.2 _ _ _ _ _ _ _ _ _ ht'
      rw [hC] at hc
      obtain ⟨_, hlen, hcell⟩ := World.cells?_some hc
      have h0 : ∀ (i : Nat) cs', w.cells? base (a.add (i * K)) K = some cs' → i = 0 → a.spot = none ∧ a.block < w.heap.size := by
        rintro i cs' hc rfl
        obtain ⟨_, hl0, hcell⟩ := World.cells?_some hc
        have h := hcell 0 hK
        rw [Nat.zero_mul] at h
        have ha : (a.add 0).add 0 = a := rfl
        rw [ha, List.getElem?_eq_getElem (by omega)] at h
        unfold World.cell? at h
        split at h
        · rename_i he
          split at h
          · simp at h
          · rename_i hs
            exact ⟨by simpa using hs, (Array.getElem?_eq_some_iff.1 he).1⟩
        · simp at h
      obtain ⟨cs0, hc0, _⟩ := hi 0 (by omega)
      rw [hC] at hc0
      obtain ⟨hs, hbk⟩ := h0 0 cs0 hc0 rfl
      refine ⟨y, hq, hs, hbk, cs', hrel, fun j v hv => ?_⟩
      have hj := (List.getElem?_eq_some_iff.1 hv).1
      rw [hlen] at hj
      rw [← hv, ← hcell j hj]
      congr 1
      obtain ⟨ab, ao, asp⟩ := a
      simp only at hs
      subst hs
      simp only [Addr.add]
      split <;> split <;> simp_all
    refine ⟨xs, ⟨?_, trivial⟩, fun x hx => ?_, by rw [hxl]; simp only [maxLen] at hm; omega⟩
    · by_cases hn : len = 0
      · subst hn
        have := List.eq_nil_of_length_eq_zero hxl
        subst this
        exact DRel.nil _ _ _
      · have hlt : 0 < xs.length := by omega
        obtain ⟨_, hs, hbk, _⟩ := hxs 0 _ (List.getElem?_eq_getElem hlt)
        obtain ⟨ab, ao, asp⟩ := a
        simp only at hs
        subst hs
        have key : ∀ (i : Nat) (row : List D) (j : Nat) (d : D), (xs.map f)[i]? = some row → row[j]? = some d → ∃ u, w.cell? ⟨ab, ao + (i * K + j), none⟩ = some u ∧ DRel NoT w d u := by
          intro i row j d hr hd
          rw [List.getElem?_map, Option.map_eq_some_iff] at hr
          obtain ⟨z, hz, rfl⟩ := hr
          obtain ⟨_, _, _, cs', hrel, hcell⟩ := hxs i z hz
          obtain ⟨u, hu, hdr⟩ := hrel.get hd
          exact ⟨u, by rw [← Nat.add_assoc]; exact hcell j u hu, hdr⟩
        have hlen : len = (xs.map f).length := by rw [List.length_map, hxl]
        rw [hlen]
        refine DRel.r K (xs.map f) ab ao cap (fun i j => (w.cell? ⟨ab, ao + (i * K + j), none⟩).getD undef) hbk (fun h => h) (by rw [← hlen]; omega) (by simp only [maxLen] at hm; omega) (fun i row hr => ?_) (fun i row j d hr hd => ?_) (fun i row j d hr hd => ?_)
        · rw [List.getElem?_map, Option.map_eq_some_iff] at hr
          obtain ⟨z, _, rfl⟩ := hr
          exact ho.1 z
        · obtain ⟨u, hu, _⟩ := key i row j d hr hd
          rw [hu]; rfl
        · obtain ⟨u, hu, hdr⟩ := key i row j d hr hd
          rw [hu]; exact hdr
    · obtain ⟨q, hq⟩ := List.getElem?_of_mem hx
      exact (hxs q x hq).1⟩
/-- the cells of a struct, field by field: from cell o on -/
def Fields (P : Program) {H : Type} (enc : TypeId × Value → H) (w : World) (base : Nat) (spare : Nat → Bool) (held : Bool) (n : Nat) (fs : List Field) (cs : List Value) : Prop :=
  ∀ f ∈ fs, ∃ z, DataW.trod enc P w base spare held n f.type ((cs.drop f.offset).take (P.cellsOf f.type)) = some z
theorem fields_of {H : Type} {enc : TypeId × Value → H} {w : World} {base : Nat} {spare : Nat → Bool} {held : Bool} {fuel : Nat} {fs : Array Field} {cs : List Value} {y : DataW H × List MemPlace} (ht : P.underlying t = some (.struct fs)) (h : DataW.trod enc P w base spare held fuel t cs = some y) :
    cs.length = P.cellsOf t ∧ ∃ n, Fields P enc w base spare held n fs.toList cs := by
  obtain ⟨ys, n, _, _, hlen, hyl, hf⟩ := DataW.trod_struct ht h
  refine ⟨hlen, n, fun f hm => ?_⟩
  obtain ⟨i, hi⟩ := List.getElem?_of_mem hm
  rw [Array.getElem?_toList] at hi
  have hlt : i < ys.length := by rw [hyl]; exact (Array.getElem?_eq_some_iff.1 hi).1
  exact ⟨_, (hf i f hi).trans (List.getElem?_eq_getElem hlt)⟩
theorem take_more {α : Type} (l : List α) (o k : Nat) : (l.drop o) = (l.drop o).take k ++ l.drop (o + k) := by
  rw [← List.drop_drop, List.take_append_drop]
/-- fields that lie one behind the other -/
theorem fields_cons {H : Type} {enc : TypeId × Value → H} {w : World} {base : Nat} {spare : Nat → Bool} {held : Bool} {n : Nat} {f : Field} {fs : List Field} {cs : List Value} (h : Fields P enc w base spare held n (f :: fs) cs) {α : Type} {K o o' : Nat} {g : α → List D} {Q : α → Prop} (ho : Opens P f.type K g Q) (hoff : f.offset = o) (hC : P.cellsOf f.type = K) (ho' : o + K = o') :
    (∃ a, Q a ∧ ∀ ds, All2 (DRel NoT w) ds (cs.drop o') → All2 (DRel NoT w) (g a ++ ds) (cs.drop o)) ∧ Fields P enc w base spare held n fs cs := by
  refine ⟨?_, fun f hf => h f (List.mem_cons_of_mem _ hf)⟩
  obtain ⟨z, hz⟩ := h f List.mem_cons_self
  rw [hoff, hC] at hz
  obtain ⟨a, ha, hq⟩ := ho.2 _ _ _ _ _ _ _ _ _ hz
  refine ⟨a, hq, fun ds hds => ?_⟩
  subst ho'
  rw [take_more cs o K]
  exact ha.append hds
theorem fields_end {w : World} {cs : List Value} {o : Nat} (hl : cs.length = o) : All2 (DRel NoT w) [] (cs.drop o) := by
  rw [List.drop_of_length_le (by omega)]; trivial
end
section
variable {H : Type} {enc : TypeId × Value → H} {P : Program} {w : World} {base : Nat} {spare : Nat → Bool} {held : Bool} {t : TypeId}
theorem all2_c {ds : List D} {vs : List Value} (h : All2 (DRel NoT w) ds vs) : All2 (CRel (fun _ => none) NoT w) (ds.map .d) vs := by
  induction ds generalizing vs with
  | nil => cases vs with
    | nil => trivial
    | cons => exact h.elim
  | cons d ds ih => cases vs with
    | nil => exact h.elim
    | cons v vs => exact ⟨h.1, ih h.2⟩
/-- a parameter of one cell -/
theorem param_one {α : Type} {f : α → D} {Q : α → Prop} (ho : Opens P t 1 (fun a => [f a]) Q) {v : Value} {d : DataW H} {p : List MemPlace} (hv : v.cells = #[v]) (h : DataW.Trod enc P w base spare held t v d p) : ∃ a, GRel (fun _ => none) NoT w (.c (.d (f a))) v ∧ Q a := by
  obtain ⟨fuel, hf⟩ := h
  rw [hv] at hf
  obtain ⟨a, h1, h2⟩ := ho.2 _ _ _ _ _ _ _ _ _ hf
  exact ⟨a, h1.1, h2⟩
theorem param_slice {α : Type} {f : α → D} {Q : α → Prop} {e : TypeId} (ht : P.underlying t = some (.slice e)) (ho : Opens P t 1 (fun a => [f a]) Q) {r : Reach} {b0 : Nat} {v : Value} {d : DataW H} {p : List MemPlace} (hv : Value.okWide P w r b0 t v) (h : DataW.Trod enc P w base spare held t v d p) : ∃ a, GRel (fun _ => none) NoT w (.c (.d (f a))) v ∧ Q a := by
  obtain ⟨a, len, cap, rfl⟩ := okWide_slice ht hv
  exact param_one ho rfl h
theorem param_struct {α : Type} {f : α → List D} {Q : α → Prop} {K : Nat} {fs : Array Field} (ht : P.underlying t = some (.struct fs)) (ho : Opens P t K f Q) {r : Reach} {b0 : Nat} {v : Value} {d : DataW H} {p : List MemPlace} (hv : Value.okWide P w r b0 t v) (h : DataW.Trod enc P w base spare held t v d p) : ∃ a, GRel (fun _ => none) NoT w (.g ((f a).map .d)) v ∧ Q a := by
  obtain ⟨cs, rfl, _⟩ := okWide_struct ht hv
  obtain ⟨fuel, hf⟩ := h
  obtain ⟨a, h1, h2⟩ := ho.2 _ _ _ _ _ _ _ _ _ hf
  exact ⟨a, ⟨cs.toList, by simp, all2_c h1⟩, h2⟩
end
/-- a law's walk, as the frame asks it -/
theorem law_of {P : Program} {f : FuncId} {ins : List GV} (h : Fn P f ins (aB true) []) {w : World} {args : Array Value} (hargs : All2 (GRel (fun _ => none) NoT w) ins args.toList) : Calls P f args w fun e w' => e = .returned (.bool true) ∧ Below w.heap.size w w' :=
  (h NoT w args (fun _ h => h.elim) hargs).mono fun e w' ⟨v, σ, T', he, hb, R⟩ => ⟨by rw [he, DRel.inv R.rel], hb⟩
end Go.Proofs.Ytgmcdlfmifijlaa.Dev
