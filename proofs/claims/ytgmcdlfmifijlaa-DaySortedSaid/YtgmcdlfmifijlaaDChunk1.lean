/- slices.Chunk at bytes, six at a time: the iterator's contract; no condition. -/
import Derived.RangeFuncNested
import Derived.RangeFuncBound
import Derived.RangeFuncCalls
import Derived.RangeFuncLeaves
import Derived.Shelf.Abstract
import Derived.Shelf.RegionOpen
import Derived.WalkKit
import Derived.OwnWalkIn
import Derived.TacticsInMore
import Derived.LoopNIn
import Derived.LoopIn
import Derived.StillTactics
import Derived.Test.YtgmcdlfmifijlaaProg
set_option linter.unusedVariables false
set_option linter.unusedSimpArgs false
namespace Go.Proofs.Ytgmcdlfmifijlaa.Dev
open Go Go.RowKit Go.Shelf
attribute [local go_sem] Oper.semAt_some
/-- the two boxes that the iterator has caught lie as they lay -/
def Kp2 (A1 A2 : Nat) (W W' : World) : Prop := (∀ v, W.cell? ⟨A1, 0, none⟩ = some v → W'.cell? ⟨A1, 0, none⟩ = some v) ∧ ∀ v, W.cell? ⟨A2, 0, none⟩ = some v → W'.cell? ⟨A2, 0, none⟩ = some v
theorem Try.mixed0 : Try.prog.follows .mixedOrders = true := by kernel_rfl
set_option maxRecDepth 100000 in
set_option maxHeartbeats 4000000 in
theorem chunk2_in (n l A1 A2 b off k cap : Nat) (A : Option Addr) (hA : 0 < k → A = some ⟨b, off, none⟩) (hk : k ≤ 255) (hcap : 6 * k ≤ cap) (J Jx : List (Fin k) → World → Prop) (W : World) (hJ : AbidesFrom W.heap.size J)
    (hY : ∀ pre (x : Fin k) W, J pre W → pre.length < k → YieldAt Fence.wide (n - 1) Try.prog l #[.slice (some ⟨b, off + 6 * x.val, none⟩) 6 6] W fun e W' =>
      (e = .returned (.bool true) ∧ J (pre ++ [x]) W' ∧ Kp2 A1 A2 W W') ∨ (e = .returned (.bool false) ∧ Jx (pre ++ [x]) W'))
    (h1 : W.cell? ⟨A1, 0, none⟩ = some (.slice A (6 * k) cap)) (h2 : W.cell? ⟨A2, 0, none⟩ = some (.int .i64 6)) (h0 : J [] W) :
    CallsIn Fence.wide n Try.prog 133 #[.func (.yield l) #[] #[], .pointer (some ⟨A1, 0, none⟩), .pointer (some ⟨A2, 0, none⟩)] W fun e W' => (∃ v, e = .returned v) ∧
      ((∃ ys : List (Fin k), ys.map Fin.val = List.range k ∧ J ys W') ∨ (∃ pre, True ∧ Jx pre W')) := by
  refine callsIn_of_wp Try.func133 rfl trivial ?_ rfl
  simp only [Try.ntmps133, List.size_toArray, List.length_cons, List.length_nil, Nat.reduceAdd, Nat.reduceSub, Array.replicate_succ, Array.replicate_zero, List.push_toArray, List.append_toArray, List.nil_append, List.cons_append]
  gi_wp2
  gi_loopw [4] (fun i wr => ∃ (j : Nat) (ys : List (Fin k)), j ≤ k ∧ i = .int .i64 (6 * j : Nat) ∧ ys.map Fin.val = List.range j ∧ J ys wr ∧ wr.cell? ⟨A1, 0, none⟩ = some (.slice A (6 * k) cap) ∧ wr.cell? ⟨A2, 0, none⟩ = some (.int .i64 6))
    (fun i _ => 6 * k - (intOf i).toNat)
  case atStart => exact ⟨0, [], Nat.zero_le _, rfl, rfl, h0, h1, h2⟩
  case round =>
    obtain ⟨j, ys, hjk, rfl, hys, hJs, hc1, hc2⟩ := hrel
    by_cases hlt : j < k
    · obtain rfl := hA (by omega)
      have hlen : (ys.length) = j := by have := congrArg List.length hys; simpa using this
      obtain ⟨fn, tmps, assign, body, hy, hR⟩ := hY ys ⟨j, hlt⟩ wr.drew (hJ _ _ _ none hJs ⟨rfl, rfl, rfl, Nat.le_refl _, fun _ _ _ => rfl⟩ (fun r e => by cases e)) (by omega)
      dsimp only at hy
      have hmm := Try.mixed0
      gi_wp2
      refine wpIn_wide.2 ?_
      refine wp_region_still_lit hmm (by kernel_rfl) ?_
      repeat still_step
      refine wpStill_step (fun K hK => ?_)
      go_simp
      have e0 : (0 : Int) ≤ 6 * (j : Int) := by omega
      have e1 : (6 * (j : Int)).toNat = 6 * j := by omega
      have e2 : ¬ cap = 6 * j := by omega
      rw [if_pos e0]
      simp only [e1, if_neg e2]
      refine ⟨trivial, hK _ ?_⟩
      clear hK K
      repeat still_step
      have e3 : ¬ (((6 * k - 6 * j : Nat) : Int) < 6) := by omega
      simp only [if_neg e3]
      refine wpStill_nil ?_
      simp only [Exit.then]
      go_at_K
      gi_wp2
      refine ⟨fun h => (by cases h), hR.mono ?_⟩
      rintro e W3 (⟨rfl, hJ3, hk3⟩ | ⟨rfl, hf⟩)
      · have hd1 : W3.cell? ⟨A1, 0, none⟩ = some (.slice (some ⟨b, off, none⟩) (6 * k) cap) := hk3.1 _ hc1
        have hd2 : W3.cell? ⟨A2, 0, none⟩ = some (.int .i64 6) := hk3.2 _ hc2
        gi_wp2
        go_roundw
        case rel => exact ⟨j + 1, ys ++ [⟨j, hlt⟩], by omega, by simp; omega, by rw [List.map_append, hys, List.range_succ]; rfl, hJ3, hd1, hd2⟩
        case measure => simp [intOf]; omega
      · gi_wp2
        refine bodyPost_ret (results_none rfl _ _ _) rfl ?_
        exact ⟨⟨_, rfl⟩, .inr ⟨_, trivial, hf⟩⟩
    · obtain rfl : j = k := by omega
      gi_wp2
      go_end0
      exact ⟨⟨_, rfl⟩, .inl ⟨ys, hys, hJs⟩⟩
theorem chunk_stops (n A1 A2 b off k cap : Nat) (A : Option Addr) (hA : 0 < k → A = some ⟨b, off, none⟩) (hk : k ≤ 255) (hcap : 6 * k ≤ cap) (w : World) (hA1 : A1 < w.heap.size) (hA2 : A2 < w.heap.size)
    (h1 : w.cell? ⟨A1, 0, none⟩ = some (.slice A (6 * k) cap)) (h2 : w.cell? ⟨A2, 0, none⟩ = some (.int .i64 6)) :
    SeqStopsK Fence.wide n Try.prog 133 #[.pointer (some ⟨A1, 0, none⟩), .pointer (some ⟨A2, 0, none⟩)] (fun i : Fin k => #[.slice (some ⟨b, off + 6 * i.val, none⟩) 6 6]) (Kp2 A1 A2) (fun ys => ys.map Fin.val = List.range k) (fun _ => True) k w :=
  fun l J Jx W hW hJ hJx hY h0 => by
    refine (chunk2_in n l A1 A2 b off k cap A hA hk hcap J Jx W hJ hY ((hW.cell (p := ⟨A1, 0, none⟩) hA1).trans h1) ((hW.cell (p := ⟨A2, 0, none⟩) hA2).trans h2) h0).mono ?_
    exact fun e W' h => h
end Go.Proofs.Ytgmcdlfmifijlaa.Dev
