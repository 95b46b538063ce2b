/- The symbolic heap: code in a round of a range over a function; no condition. -/
import Derived.Test.YtgmcdlfmifijlaaDSh22
import Derived.OrdersIn
import Derived.TacticsIn
import Derived.RangeFuncFrom
import Derived.RangeFuncLeaves
set_option linter.unusedVariables false
set_option linter.unusedSimpArgs false
namespace Go.Proofs.Ytgmcdlfmifijlaa.Dev
open Go.RowKit
def isDefer : Op → Bool
  | .defer _ => true
  | _ => false
theorem rowsIn_wide {n l : Nat} {P : Program} {row : String} {args : Array Value} {w : World} {R : Value → World → Prop} (h : Go.Rows P row args w R) : RowsIn (Fence.wide.inRound l) n P row args w R := fun c cs _ => by
  obtain ⟨v, w', h1, h2⟩ := h c cs
  exact ⟨v, w', h1, stepsIn_wide.2 h2⟩
section
variable {P : Program} {l n : Nat}
theorem opIn {o : Oper} {a : Go.Act} {w : World} {K : Go.Act → World → Prop} {Q : Exit → Go.Act → World → Prop} (hd : isDefer o.op = false) (hQ : ¬ LetsOut Q) (h : o.wp P a w K Q ∨ (o.asks P a w ∧ LetsOut Q)) : o.wpIn (Fence.wide.inRound l) n P a w K Q := by
  have h := h.resolve_right fun h => hQ h.2
  have hd' : ∀ c, o.op ≠ .defer c := fun c hc => by rw [hc] at hd; cases hd
  refine ⟨fun f _ => trivial, ?_⟩
  rw [Fence.inRound_round, Oper.semAt_some l _ o hd']
  unfold Oper.wp at h
  generalize (execOp a.eval o).run P w = r at h
  cases r with
  | ok x w' =>
    cases x <;> simp only [Oper.upon, Oper.uponIn] at h ⊢ <;>
      first
        | exact h
        | exact h.elim
        | exact ⟨fun h => (by cases h), callsIn_wide.2 h⟩
        | exact ⟨fun h => (by cases h), rowsIn_wide h⟩
  | halt x w' => cases x <;> simp only [Oper.upon, Oper.uponIn] at h ⊢ <;> exact h
theorem wpList_in {ops : Array Oper} {Q : Exit → Go.Act → World → Prop} (hQ : ¬ LetsOut Q) : ∀ (k : List Oper) (a : Go.Act) (w : World), (k.all fun o => !isDefer o.op) = true → wpList P ops Q k a w → wpListIn (Fence.wide.inRound l) n P ops Q k a w
  | [], a, w, _, h => h
  | o :: k, a, w, hd, h => by
    simp only [List.all_cons, Bool.and_eq_true, Bool.not_eq_true'] at hd
    have ih := wpList_in (ops := ops) hQ k
    unfold wpList at h
    unfold wpListIn
    split at h
    · rename_i hw
      rw [if_pos hw]
      exact opIn hd.1 hQ (h.imp (fun h => operMono h fun a w hk => ih a w hd.2 hk) id)
    · rename_i hw
      rw [if_neg hw]
      exact ⟨fun _ _ => trivial, ih _ _ hd.2 h⟩
theorem wpOp_in {ops : Array Oper} {Q : Exit → Go.Act → World → Prop} (hQ : ¬ LetsOut Q) (hd : (ops.toList.all fun o => !isDefer o.op) = true) {i : Nat} {K K' : Go.Act → World → Prop} {a : Go.Act} {w : World} (hK : ∀ a w, K a w → K' a w) (h : wpOp P ops Q i K a w) : wpOpIn (Fence.wide.inRound l) n P ops Q i K' a w := by
  unfold wpOp at h
  unfold wpOpIn
  cases ho : ops[i]? with
  | none => simp only [ho] at h ⊢; exact hK _ _ h
  | some o =>
    simp only [ho] at h ⊢
    have hdo : isDefer o.op = false := by
      have := List.all_eq_true.1 hd o (Array.mem_toList_iff.2 (Array.mem_of_getElem? ho))
      simpa using this
    split
    · rename_i hw
      simp only [hw, if_true] at h
      exact opIn hdo hQ (h.imp (fun h => operMono h hK) id)
    · rename_i hw
      simp only [hw] at h
      exact ⟨fun _ _ => trivial, hK _ _ h⟩
theorem wpAny_in {md : Region.Mode} {ops : Array Oper} {Q : Exit → Go.Act → World → Prop} (hQ : ¬ LetsOut Q) (hd : (ops.toList.all fun o => !isDefer o.op) = true) : ∀ (fuel : Nat) (listed : Array Bool) (a : Go.Act) (w : World), wpAny P md ops Q fuel listed a w → wpAnyIn (Fence.wide.inRound l) n P md ops Q fuel listed a w
  | 0, _, _, _, h => h
  | fuel + 1, listed, a, w, h => by
    unfold wpAny at h
    unfold wpAnyIn
    exact ⟨h.1, fun i hi => wpOp_in hQ hd (fun a w hk => wpAny_in hQ hd fuel _ a w hk) (h.2 i hi)⟩
end
section
variable {P : Program} {l n : Nat} {W0 : World} {F : Nat → Prop} {N : NT} {T0 : Nat → Prop} {pin : List (Nat × Adr)} {Q : Exit → AState → Prop} {st : AState}
/-- code in a round of the loop l -/
def ACR (P : Program) (l n : Nat) (W0 : World) (F : Nat → Prop) (N : NT) (T0 : Nat → Prop) (pin : List (Nat × Adr)) (Q : Exit → AState → Prop) (c : Code) (st : AState) : Prop :=
  (∀ st, ¬ Q .outgrown st) → ∀ a w, Inv W0 F N T0 pin st a w → c.wpIn (Fence.wide.inRound l) n P (QX W0 F N T0 pin Q) a w
theorem no_out (hq : ∀ st, ¬ Q .outgrown st) : ¬ LetsOut (QX W0 F N T0 pin Q) := fun ⟨_, _, st, h, _⟩ => hq st h
theorem ACR.seq {x y : Code} (h : ACR P l n W0 F N T0 pin (thenQ (ACR P l n W0 F N T0 pin Q y) Q) x st) : ACR P l n W0 F N T0 pin Q (.seq x y) st := fun hq a w hI =>
  wpIn_seq (Code.wpIn_mono (fun e a w q => by
    obtain ⟨st', hq', hi⟩ := q
    cases e <;> first | exact hq' hq a w hi | exact ⟨st', hq', hi⟩) (h hq a w hI))
theorem ACR.block {id : Nat} {c : Code} (h : ACR P l n W0 F N T0 pin (blockQ id Q) c st) : ACR P l n W0 F N T0 pin Q (.block id c) st := fun hq a w hI =>
  wpIn_block (Code.wpIn_mono (fun e a w q => by
    obtain ⟨st', hq, hi⟩ := q
    cases e <;> try exact ⟨st', hq, hi⟩
    rename_i id'
    simp only [Exit.inBlock]
    by_cases hid : id' = id
    · rw [if_pos hid]; subst hid; exact ⟨st', by simpa [blockQ] using hq, hi⟩
    · rw [if_neg hid]; exact ⟨st', by simpa [blockQ, hid] using hq, hi⟩) (h hq a w hI))
theorem ACR.region {id : Nat} {k : List Oper} (hd : (k.all fun o => !isDefer o.op) = true) (h : AL P W0 F N T0 pin k.toArray Q k st) : ACR P l n W0 F N T0 pin Q (.region id k.toArray false) st := fun hq a w hI =>
  wpIn_region_lit (wpList_in (no_out hq) k a w hd (h a w hI))
theorem ACR.weak {st' : AState} {c : Code} (hw : Weak pin st st') (h : ACR P l n W0 F N T0 pin Q c st') : ACR P l n W0 F N T0 pin Q c st := fun hq a w hI => h hq a w (hw _ _ _ _ a w hI)
theorem ACR.draw {id : Nat} {k : List Oper} (hd : (k.all fun o => !isDefer o.op) = true) (tbl : List ORow) (fin : AState) (hm : P.follows .mixedOrders = true) (hB : drawB k.toArray tbl N.1 st fin = true) (hrows : RowsOK P k.toArray tbl k) (hsee : SeesOK st tbl tbl) (hfin : FinOK st tbl fin)
    (h : AL P W0 F N T0 pin k.toArray Q (k.drop tbl.length) fin) : ACR P l n W0 F N T0 pin Q (.region id k.toArray true) st := fun hq a w hI =>
  wpIn_region_any hm (wpAny_in (no_out hq) (by simpa using hd) _ _ _ _ (AC.draw_any tbl fin hm hB hrows hsee hfin h a w hI))
end
end Go.Proofs.Ytgmcdlfmifijlaa.Dev
