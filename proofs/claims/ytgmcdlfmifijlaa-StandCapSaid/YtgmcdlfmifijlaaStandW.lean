/- stand.Wrong computes wrongStand; conditions: the rows lie in memory. -/
import Derived.Test.YtgmcdlfmifijlaaStandClone
import Derived.Test.YtgmcdlfmifijlaaStandPlain
namespace Go.Proofs.Ytgmcdlfmifijlaa
open Go.RowKit Pay

set_option maxRecDepth 100000 in
set_option maxHeartbeats 1000000 in
theorem stand_Wrong (s : Stand) (U A : Option Addr) (n c m d : Nat) (w : World) (hU : Row w eI U n s.used) (hA : Row w eAdv A m s.advices) :
    Calls Try.prog 33 #[.agg #[.int .i64 s.cap, .slice U n c, .slice A m d]] w fun e w' => e = .returned (.int .i64 (wrongStand s)) ∧ Below w.heap.size w w' := by
  have hn := hU.len
  have hm := hA.len
  have HU := Lib.hid hU
  have HA := Lib.hid hA
  have Hn := Lib.hid hn
  have Hm := Lib.hid hm
  clear hU hA
  by_cases h1 : 8 < n ∨ 20 < m
  · have HR := Lib.hid (wrongStand_5 (s := s) (by omega))
    clear hn hm
    go_enter Try.func33, Try.ntmps33
    rcases h1 with h1 | h1
    all_goals
      go_wp2
      all_goals (go_ret; exact ⟨ret_int HR.out.symm, (by repeat (first | assumption | exact Below.refl _ _ | refine Below.alloc ?_ ?_ _ | refine Below.drew ?_ | refine below_drewN ?_ _ | refine Below.setCell ?_ ?_ _ | omega | (dsimp only; omega) | refine le_alloc ?_ | refine le_set ?_ | refine le_drew ?_ | refine le_drewN ?_))⟩)
  have H1 := Lib.hid (show ¬ (8 < s.used.length ∨ 20 < s.advices.length) by omega)
  have h1 : n ≤ 8 ∧ m ≤ 20 := by omega
  obtain ⟨hn8, hm20⟩ := h1
  clear hn hm h1
  by_cases hcap : ¬ (0 ≤ s.cap ∧ s.cap ≤ 1000000)
  · have HR := Lib.hid (wrongStand_cap H1.out (by simp only [sumB, decide_eq_false_iff_not]; exact hcap))
    have hc : s.cap < 0 ∨ 1000000 < s.cap := by omega
    clear hcap
    go_enter Try.func33, Try.ntmps33
    rcases hc with hc | hc
    all_goals
      go_wp2
      all_goals (go_ret; exact ⟨ret_int HR.out.symm, (by repeat (first | assumption | exact Below.refl _ _ | refine Below.alloc ?_ ?_ _ | refine Below.drew ?_ | refine below_drewN ?_ _ | refine Below.setCell ?_ ?_ _ | omega | (dsimp only; omega) | refine le_alloc ?_ | refine le_set ?_ | refine le_drew ?_ | refine le_drewN ?_))⟩)
  obtain ⟨hcap0, hcap1⟩ := Decidable.not_not.1 hcap
  clear hcap
  have HC := Lib.hid (show sumB s.cap = true by simp only [sumB, decide_eq_true_eq]; omega)
  have hmk := run_make_row' (P := Try.prog) 24 3 (.int .i64 0) 8 Try.underlying24 info3 rfl .i64 .i64 n (by omega) (by omega)
  go_enter Try.func33, Try.ntmps33
  go_wp2
  clear hmk
  go_loopg [33] m (fun k i wr => ∃ (q : Nat), q + k = m ∧ i = .int .i64 q ∧ Below w.heap.size w wr ∧ Blk wr w.heap.size 26 #[.int .i64 s.cap, .slice U n c, .slice A m d] ∧ Blk wr (w.heap.size + 1) 3 (sumsCells n (s.advices.take q)) ∧ Hid ((s.advices.take q).all (okAdv s.used.length) = true))
  case atStart => exact ⟨0, by omega, rfl, (by repeat (first | assumption | exact Below.refl _ _ | refine Below.alloc ?_ ?_ _ | refine Below.drew ?_ | refine below_drewN ?_ _ | refine Below.setCell ?_ ?_ _ | omega | (dsimp only; omega) | refine le_alloc ?_ | refine le_set ?_ | refine le_drew ?_ | refine le_drewN ?_)), (Blk.new _ _ _).alloc _, by rw [sumsCells_nil]; exact (by repeat (first | assumption | refine Blk.drew ?_ | refine Blk.drewN ?_ _ | (refine Blk.new' ?_; simp; done) | refine Blk.alloc ?_ _ | refine blk_far ?_ ?_ | omega | (dsimp only; omega) | (simp; done) | (simp; omega))), by simp [Hid]⟩
  case round =>
    obtain ⟨q, hq, rfl, hb, h0, h1, HD⟩ := hrel
    have hsz := hb.size
    have c0 := h0.cell
    have l1 := h1.lt
    have l0 := h0.lt
    have hg := fun p => given_bound _ p _ HD.out
    have hlq : (s.advices.take q).length ≤ q := List.length_take_le _ _
    by_cases hqm : q < m
    · obtain ⟨b, off, x, hx, rfl, hbr, e0, e1, e2, e3⟩ := (HA.out.below hb).get4 (fun _ => rfl) rfl hqm
      have HX := Lib.hid hx
      clear hx
      by_cases hok : 0 ≤ x.card ∧ x.card < (n : Int) ∧ 0 ≤ x.shop ∧ x.shop ≤ 7 ∧ 1 ≤ x.sum ∧ x.sum ≤ 1000000 ∧ 0 ≤ x.time ∧ x.time ≤ 1000000
      · obtain ⟨k0, k1, k2, k3, k4, k5, k6, k7⟩ := hok
        have HO := Lib.hid (show okAdv s.used.length x = true by have := Hn.out; simp only [okAdv, decide_eq_true_eq]; omega)
        have hgc := hg x.card
        have e5 : wr.cell? ⟨w.heap.size + 1, x.card.toNat, none⟩ = some (.int .i64 (given x.card (s.advices.take q))) := by
          rw [h1.cell, sumsCells_get _ _ _ (by omega), Int.toNat_of_nonneg k0]
        have f5 := h1.frozen
        clear hg
        go_wp2
        go_region
        go_wp2
        go_roundg (gk - 1)
        case measure => omega
        case rel =>
          have hx1 := h1.set_ x.card.toNat (.int .i64 (given x.card (s.advices.take q) + x.sum))
          rw [sumsCells_snoc _ _ _ k0 k1, ← take_get HX.out] at hx1
          exact ⟨q + 1, by omega, by go_num, (by repeat (first | assumption | exact Below.refl _ _ | refine Below.alloc ?_ ?_ _ | refine Below.drew ?_ | refine below_drewN ?_ _ | refine Below.setCell ?_ ?_ _ | omega | (dsimp only; omega) | refine le_alloc ?_ | refine le_set ?_ | refine le_drew ?_ | refine le_drewN ?_)), (by repeat (first | assumption | refine Blk.drew ?_ | refine Blk.drewN ?_ _ | (refine Blk.new' ?_; simp; done) | refine Blk.alloc ?_ _ | refine blk_far ?_ ?_ | omega | (dsimp only; omega) | (simp; done) | (simp; omega))), (by repeat (first | assumption | refine Blk.drew ?_ | refine Blk.drewN ?_ _ | (refine Blk.new' ?_; simp; done) | refine Blk.alloc ?_ _ | refine blk_far ?_ ?_ | omega | (dsimp only; omega) | (simp; done) | (simp; omega))), all_yes HD.out HX.out HO.out⟩
      · have HO := Lib.hid (show okAdv s.used.length x = false by have := Hn.out; simp only [okAdv, decide_eq_false_iff_not]; omega)
        clear hg
        go_wp2
        all_goals (go_ret; exact ⟨ret_int (by rw [wrongStand_adv H1.out HC.out (all_no HX.out HO.out)]), (by repeat (first | assumption | exact Below.refl _ _ | refine Below.alloc ?_ ?_ _ | refine Below.drew ?_ | refine below_drewN ?_ _ | refine Below.setCell ?_ ?_ _ | omega | (dsimp only; omega) | refine le_alloc ?_ | refine le_set ?_ | refine le_drew ?_ | refine le_drewN ?_))⟩)
    · have hqm : q = m := by omega
      have hta : s.advices.take q = s.advices := List.take_of_length_le (by have := Hm.out; omega)
      rw [hta] at hg h1 HD
      have HR := Lib.hid (wrongStand_fit H1.out HC.out HD.out)
      clear hqm hta hlq hg
      go_wp2
      clear c0 l0 l1
      go_loopg [91] n (fun k i wx => ∃ (q : Nat), q + k = n ∧ i = .int .i64 q ∧ Below w.heap.size w wx ∧ Blk wx w.heap.size 26 #[.int .i64 s.cap, .slice U n c, .slice A m d] ∧ Blk wx (w.heap.size + 1) 3 (sumsCells n s.advices) ∧ Hid (fitUsed s.cap s.advices 0 s.used = fitUsed s.cap s.advices q (s.used.drop q)))
      case atStart => exact ⟨0, by omega, rfl, hb, h0, h1, rfl⟩
      case round =>
        clear hb h0 h1 hsz
        obtain ⟨p, hp, rfl, hb, h0, h1, HF⟩ := hrel
        have hsz := hb.size
        have c0 := h0.cell
        have l0 := h0.lt
        have l1 := h1.lt
        by_cases hpn : p < n
        · obtain ⟨b, off, x, hx, rfl, hbr, e0⟩ := (HU.out.below hb).get1 (fun _ => rfl) rfl hpn
          have HX := Lib.hid hx
          clear hx
          have e5 := (h1.cell p).trans (sumsCells_get _ _ _ hpn)
          have HS := Lib.hid (show fitUsed s.cap s.advices 0 s.used = if x = given p s.advices ∧ x ≤ s.cap then fitUsed s.cap s.advices (p + 1) (s.used.drop (p + 1)) else 8 by rw [HF.out, drop_get HX.out, fitUsed])
          go_wp2
          all_goals first
            | (go_ret
               refine ⟨ret_int ?_, hb⟩
               rw [HR.out, HS.out, if_neg (by go_light; omega)])
            | (go_roundg (gk - 1)
               case measure => omega
               case rel => exact ⟨p + 1, by omega, by go_num, hb, h0, h1, by unfold Hid; rw [HS.out, if_pos (by go_light; omega), Int.natCast_add]; rfl⟩)
        · have HF := Lib.hid (show fitUsed s.cap s.advices 0 s.used = 0 by rw [HF.out, List.drop_of_length_le (by have := Hn.out; omega)]; rfl)
          go_wp2
          go_ret
          exact ⟨ret_int (by rw [HR.out, HF.out]), hb⟩

end Go.Proofs.Ytgmcdlfmifijlaa
