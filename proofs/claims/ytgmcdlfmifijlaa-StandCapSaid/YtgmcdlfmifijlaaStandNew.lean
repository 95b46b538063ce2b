/- stand.New and payref1.NewStand compute newStand; no condition. -/
import Derived.Test.YtgmcdlfmifijlaaStandClone
import Derived.Test.YtgmcdlfmifijlaaStandPlain
import Derived.Test.YtgmcdlfmifijlaaStandSum
namespace Go.Proofs.Ytgmcdlfmifijlaa
open Go.RowKit Pay

set_option maxRecDepth 100000 in
theorem stand_New (l c : Int) (w : World) : Calls Try.prog 30 #[.int .i64 l, .int .i64 c] w fun e w' => StandRes w (newStand l c).1 (newStand l c).2 e w' := by
  by_cases h : c < 0 ∨ 8 < c
  · have HR := Lib.hid (newStand_many (l := l) h)
    go_enter Try.func30, Try.ntmps30
    rcases h with h | h
    all_goals
      go_wp2
      refine bodyPost_ret (v := .tuple #[.agg #[.int .i64 0, .slice none 0 0, .slice none 0 0], .int .i64 5]) (by simp [results, Try.results30, go_sem]) rfl ?_
      rw [HR.out]
      exact ⟨none, 0, 0, none, 0, 0, rfl, rfl, rfl, Own.nil_ _ _ _ _, Own.nil_ _ _ _ _, (by repeat (first | assumption | exact Below.refl _ _ | refine Below.alloc ?_ ?_ _ | refine Below.drew ?_ | refine below_drewN ?_ _ | refine Below.setCell ?_ ?_ _ | omega | (dsimp only; omega) | refine le_alloc ?_ | refine le_set ?_ | refine le_drew ?_ | refine le_drewN ?_))⟩
  by_cases h' : ¬ (0 ≤ l ∧ l ≤ 1000000)
  · have HR := Lib.hid (newStand_range h h')
    have hc : 0 ≤ c ∧ c ≤ 8 := by omega
    obtain ⟨c0, c1⟩ := hc
    have hl : l < 0 ∨ 1000000 < l := by omega
    have hs := Lib.hid (show sumB l = false by simpa [sumB] using h')
    clear h h'
    go_enter Try.func30, Try.ntmps30
    rcases hl with h | h
    all_goals
      go_wp2
      refine bodyPost_ret (v := .tuple #[.agg #[.int .i64 0, .slice none 0 0, .slice none 0 0], .int .i64 3]) (by simp [results, Try.results30, go_sem]) rfl ?_
      rw [HR.out]
      exact ⟨none, 0, 0, none, 0, 0, rfl, rfl, rfl, Own.nil_ _ _ _ _, Own.nil_ _ _ _ _, (by repeat (first | assumption | exact Below.refl _ _ | refine Below.alloc ?_ ?_ _ | refine Below.drew ?_ | refine below_drewN ?_ _ | refine Below.setCell ?_ ?_ _ | omega | (dsimp only; omega) | refine le_alloc ?_ | refine le_set ?_ | refine le_drew ?_ | refine le_drewN ?_))⟩
  obtain ⟨n, rfl⟩ := Int.eq_ofNat_of_zero_le (show 0 ≤ c by omega)
  have h' := Decidable.not_not.1 h'
  have hn : n ≤ 8 := by omega
  have HR := Lib.hid (newStand_ok hn h')
  have hs := Lib.hid (show sumB l = true by simpa [sumB] using h')
  obtain ⟨l0, l1⟩ := h'
  have hmk := run_make_row' (P := Try.prog) 24 3 (.int .i64 0) 8 Try.underlying24 info3 rfl .i64 .i64 n (by omega) (by omega)
  clear h
  go_enter Try.func30, Try.ntmps30
  go_wp2
  refine bodyPost_ret (v := .tuple #[.agg #[.int .i64 l, .slice (some ⟨w.heap.size + 1, 0, none⟩) n n, .slice none 0 0], .int .i64 0]) (by simp [results, Try.results30, go_sem]) rfl ?_
  rw [HR.out]
  exact ⟨_, n, n, none, 0, 0, rfl, (List.length_replicate).symm, rfl, Own.made0 (t := 3) (by repeat (first | assumption | refine Blk.drew ?_ | refine Blk.drewN ?_ _ | (refine Blk.new' ?_; simp; done) | refine Blk.alloc ?_ _ | refine blk_far ?_ ?_ | omega | (dsimp only; omega) | (simp; done) | (simp; omega))) (by omega) (by simp only [maxLen]; omega), Own.nil_ _ _ _ _, (by repeat (first | assumption | exact Below.refl _ _ | refine Below.alloc ?_ ?_ _ | refine Below.drew ?_ | refine below_drewN ?_ _ | refine Below.setCell ?_ ?_ _ | omega | (dsimp only; omega) | refine le_alloc ?_ | refine le_set ?_ | refine le_drew ?_ | refine le_drewN ?_))⟩

set_option maxRecDepth 100000 in
theorem ref_NewStand (l c : Int) (w : World) : Calls Try.prog 34 #[.int .i64 l, .int .i64 c] w fun e w' => StandRes w (newStand l c).1 (newStand l c).2 e w' := by
  by_cases h : c < 0 ∨ 8 < c
  · have HR := Lib.hid (newStand_many (l := l) h)
    go_enter Try.func34, Try.ntmps34
    rcases h with h | h
    all_goals
      go_wp2
      refine bodyPost_ret (v := .tuple #[.agg #[.int .i64 0, .slice none 0 0, .slice none 0 0], .int .i64 5]) (by simp [results, Try.results34, go_sem]) rfl ?_
      rw [HR.out]
      exact ⟨none, 0, 0, none, 0, 0, rfl, rfl, rfl, Own.nil_ _ _ _ _, Own.nil_ _ _ _ _, (by repeat (first | assumption | exact Below.refl _ _ | refine Below.alloc ?_ ?_ _ | refine Below.drew ?_ | refine below_drewN ?_ _ | refine Below.setCell ?_ ?_ _ | omega | (dsimp only; omega) | refine le_alloc ?_ | refine le_set ?_ | refine le_drew ?_ | refine le_drewN ?_))⟩
  by_cases h' : ¬ (0 ≤ l ∧ l ≤ 1000000)
  · have HR := Lib.hid (newStand_range h h')
    have hc : 0 ≤ c ∧ c ≤ 8 := by omega
    obtain ⟨c0, c1⟩ := hc
    have hl : l < 0 ∨ 1000000 < l := by omega
    have hs := Lib.hid (show sumB l = false by simpa [sumB] using h')
    clear h h'
    go_enter Try.func34, Try.ntmps34
    rcases hl with h | h
    all_goals
      go_wp2_with (go_at_call 103; refine (ref_sum _ _).mono ?_; rintro e w' ⟨rfl, rfl⟩; rw [hs.out])
      refine bodyPost_ret (v := .tuple #[.agg #[.int .i64 0, .slice none 0 0, .slice none 0 0], .int .i64 3]) (by simp [results, Try.results34, go_sem]) rfl ?_
      rw [HR.out]
      exact ⟨none, 0, 0, none, 0, 0, rfl, rfl, rfl, Own.nil_ _ _ _ _, Own.nil_ _ _ _ _, (by repeat (first | assumption | exact Below.refl _ _ | refine Below.alloc ?_ ?_ _ | refine Below.drew ?_ | refine below_drewN ?_ _ | refine Below.setCell ?_ ?_ _ | omega | (dsimp only; omega) | refine le_alloc ?_ | refine le_set ?_ | refine le_drew ?_ | refine le_drewN ?_))⟩
  obtain ⟨n, rfl⟩ := Int.eq_ofNat_of_zero_le (show 0 ≤ c by omega)
  have h' := Decidable.not_not.1 h'
  have hn : n ≤ 8 := by omega
  have HR := Lib.hid (newStand_ok hn h')
  have hs := Lib.hid (show sumB l = true by simpa [sumB] using h')
  obtain ⟨l0, l1⟩ := h'
  have hmk := run_make_row' (P := Try.prog) 24 3 (.int .i64 0) 8 Try.underlying24 info3 rfl .i64 .i64 n (by omega) (by omega)
  clear h
  go_enter Try.func34, Try.ntmps34
  go_wp2_with (go_at_call 103; refine (ref_sum _ _).mono ?_; rintro e w' ⟨rfl, rfl⟩; rw [hs.out])
  refine bodyPost_ret (v := .tuple #[.agg #[.int .i64 l, .slice (some ⟨w.heap.size + 1, 0, none⟩) n n, .slice none 0 0], .int .i64 0]) (by simp [results, Try.results34, go_sem]) rfl ?_
  rw [HR.out]
  exact ⟨_, n, n, none, 0, 0, rfl, (List.length_replicate).symm, rfl, Own.made0 (t := 3) (by repeat (first | assumption | refine Blk.drew ?_ | refine Blk.drewN ?_ _ | (refine Blk.new' ?_; simp; done) | refine Blk.alloc ?_ _ | refine blk_far ?_ ?_ | omega | (dsimp only; omega) | (simp; done) | (simp; omega))) (by omega) (by simp only [maxLen]; omega), Own.nil_ _ _ _ _, (by repeat (first | assumption | exact Below.refl _ _ | refine Below.alloc ?_ ?_ _ | refine Below.drew ?_ | refine below_drewN ?_ _ | refine Below.setCell ?_ ?_ _ | omega | (dsimp only; omega) | refine le_alloc ?_ | refine le_set ?_ | refine le_drew ?_ | refine le_drewN ?_))⟩

end Go.Proofs.Ytgmcdlfmifijlaa
