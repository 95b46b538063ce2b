/- slices.Clone of ints and advices; conditions: the row lies in memory and is no longer than memory bears. -/
import Derived.Test.YtgmcdlfmifijlaaRows
import Derived.Test.YtgmcdlfmifijlaaEnc
namespace Go.Proofs.Ytgmcdlfmifijlaa
open Go.RowKit Pay

theorem info3 : (Try.prog.info? 3).map (fun i => (i.zero, i.size, i.bytes)) = some (some (.int .i64 0), 1, 8) := by kernel_rfl
theorem infoAdv : (Try.prog.info? 32).map (fun i => (i.zero, i.size, i.bytes)) = some (some (.agg #[.int .i64 0, .int .i64 0, .int .i64 0, .int .i64 0]), 4, 32) := by kernel_rfl

set_option maxRecDepth 100000 in
theorem clone_int (A : Option Addr) (n c : Nat) (xs : List Int) (w : World) (h : Row w eI A n xs) (hn : n * 8 ≤ 140737488355328) :
    Calls Try.prog 101 #[.slice A n c] w fun e w' => ∃ A' c', e = .returned (.slice A' n c') ∧ Own w' w.heap.size 3 eI (.slice A' n c') xs ∧ Below w.heap.size w w' := by
  obtain ⟨i0, hi, hz0, hz1, hz2⟩ := info_parts info3
  have H := Lib.hid h
  have hl := h.len
  clear h
  rcases A with _ | ad
  · have hx : xs = [] := by
      rcases xs with _ | ⟨y, l⟩
      · rfl
      · obtain ⟨_, _, hh, _⟩ := H.out.2.2 0 y rfl
        cases hh
    subst hx
    obtain rfl : n = 0 := hl
    clear H
    have heq := fun w => Lib.run_eql_slice_nil (P := Try.prog) w 24 3 none 0 c 0 0 Try.underlying24
    go_enter Try.func101, Try.ntmps101
    go_wp2
    go_ret
    exact ⟨_, _, rfl, Own.nil_ _ _ _ _, Below.refl _ _⟩
  · have HL := Lib.hid hl
    clear hl
    have heq := fun w => Lib.run_eql_slice_nil (P := Try.prog) w 24 3 (some ad) n c 0 0 Try.underlying24
    go_enter Try.func101, Try.ntmps101
    go_wp2_with (at_builtin; refine wpList_append_row _ rfl (.tmp 5) (.tmp 6) 24 rfl w.heap.size 3 i0 _ 8 Try.underlying24 hi hz0 hz1 hz2 rfl (E := eI) (.slice (some ⟨w.heap.size, 0, none⟩) 0 0) [] rfl (Own.empty w 3 eI) (some ad) n c xs rfl (H.out.below ((Below.refl _ _).alloc (Nat.le_refl _) _)) (by simp only [List.length_nil, maxLen]; omega) (by simp only [List.length_nil]; omega) (by simp) n (by simp [HL.out]) ?_; intro A1 c1 w1 hown1 hg1 _)
    go_ret
    exact ⟨A1, c1, rfl, hown1, ((Below.refl _ _).alloc (Nat.le_refl _) _).grown hg1 (by simp) (by intro k hk; simp [Value.ownBlock] at hk; omega)⟩

set_option maxRecDepth 100000 in
theorem clone_adv (A : Option Addr) (n c : Nat) (xs : List Advice) (w : World) (h : Row w eAdv A n xs) (hn : n * 32 ≤ 140737488355328) :
    Calls Try.prog 102 #[.slice A n c] w fun e w' => ∃ A' c', e = .returned (.slice A' n c') ∧ Own w' w.heap.size 32 eAdv (.slice A' n c') xs ∧ Below w.heap.size w w' := by
  obtain ⟨i0, hi, hz0, hz1, hz2⟩ := info_parts infoAdv
  have H := Lib.hid h
  have hl := h.len
  clear h
  rcases A with _ | ad
  · have hx : xs = [] := by
      rcases xs with _ | ⟨y, l⟩
      · rfl
      · obtain ⟨_, _, hh, _⟩ := H.out.2.2 0 y rfl
        cases hh
    subst hx
    obtain rfl : n = 0 := hl
    clear H
    have heq := fun w => Lib.run_eql_slice_nil (P := Try.prog) w 22 32 none 0 c 0 0 Try.underlying22
    go_enter Try.func102, Try.ntmps102
    go_wp2
    go_ret
    exact ⟨_, _, rfl, Own.nil_ _ _ _ _, Below.refl _ _⟩
  · have HL := Lib.hid hl
    clear hl
    have heq := fun w => Lib.run_eql_slice_nil (P := Try.prog) w 22 32 (some ad) n c 0 0 Try.underlying22
    go_enter Try.func102, Try.ntmps102
    go_wp2_with (at_builtin; refine wpList_append_row _ rfl (.tmp 5) (.tmp 6) 22 rfl w.heap.size 32 i0 _ 32 Try.underlying22 hi hz0 hz1 hz2 rfl (E := eAdv) (.slice (some ⟨w.heap.size, 0, none⟩) 0 0) [] rfl (Own.empty w 32 eAdv) (some ad) n c xs rfl (H.out.below ((Below.refl _ _).alloc (Nat.le_refl _) _)) (by simp only [List.length_nil, maxLen]; omega) (by simp only [List.length_nil]; omega) (by simp) n (by simp [HL.out]) ?_; intro A1 c1 w1 hown1 hg1 _)
    go_ret
    exact ⟨A1, c1, rfl, hown1, ((Below.refl _ _).alloc (Nat.le_refl _) _).grown hg1 (by simp) (by intro k hk; simp [Value.ownBlock] at hk; omega)⟩

end Go.Proofs.Ytgmcdlfmifijlaa
