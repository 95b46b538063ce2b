/- stand.Give computes giveStand; conditions: the rows lie in memory. -/
import Derived.Test.YtgmcdlfmifijlaaStandW
import Derived.Test.YtgmcdlfmifijlaaRegionT
namespace Go.Proofs.Ytgmcdlfmifijlaa
open Go.RowKit Pay

theorem size26 : (Try.prog.info? 26).map (fun i => i.size) = some 3 := by kernel_rfl

set_option maxRecDepth 100000 in
set_option maxHeartbeats 2000000 in
theorem stand_Give (s : Stand) (a : Advice) (U A : Option Addr) (n c m d : Nat) (w : World) (hU : Row w eI U n s.used) (hA : Row w eAdv A m s.advices) :
    Calls Try.prog 32 #[.agg #[.int .i64 s.cap, .slice U n c, .slice A m d], .agg #[.int .i64 a.card, .int .i64 a.shop, .int .i64 a.sum, .int .i64 a.time]] w fun e w' => StandRes w (giveStand s a).1 (giveStand s a).2 e w' := by
  have HU := Lib.hid hU
  have HA := Lib.hid hA
  have hn := hU.len
  have hm := hA.len
  clear hU hA
  have hwr := fun w hU hA => stand_Wrong s U A n c m d w hU hA
  have HW := Lib.hid hwr
  clear hwr
  by_cases h0 : ¬ wrongStand s = 0
  · have HR := Lib.hid (give_wrong (a := a) h0)
    have hne' : (wrongStand s != 0) = true := by simpa using h0
    clear hn hm h0
    go_enter Try.func32, Try.ntmps32
    go_wp2_with (go_at_call 33; refine (HW.out _ (HU.out.below (by repeat (first | assumption | exact Below.refl _ _ | refine Below.alloc ?_ ?_ _ | refine Below.drew ?_ | refine below_drewN ?_ _ | refine Below.setCell ?_ ?_ _ | omega | (dsimp only; omega) | refine le_alloc ?_ | refine le_set ?_ | refine le_drew ?_ | refine le_drewN ?_))) (HA.out.below (by repeat (first | assumption | exact Below.refl _ _ | refine Below.alloc ?_ ?_ _ | refine Below.drew ?_ | refine below_drewN ?_ _ | refine Below.setCell ?_ ?_ _ | omega | (dsimp only; omega) | refine le_alloc ?_ | refine le_set ?_ | refine le_drew ?_ | refine le_drewN ?_)))).mono ?_; rintro e w1 ⟨rfl, hb1⟩; have k2 : Blk w1 (w.heap.size + 2) 26 #[.int .i64 0, .slice none 0 0, .slice none 0 0] := Blk.keep (by repeat (first | assumption | refine Blk.drew ?_ | refine Blk.drewN ?_ _ | (refine Blk.new' ?_; simp; done) | refine Blk.alloc ?_ _ | refine blk_far ?_ ?_ | omega | (dsimp only; omega) | (simp; done) | (simp; omega))) hb1; have hb : Below w.heap.size w w1 := Below.trans (b := World.alloc _ _) (by repeat (first | assumption | exact Below.refl _ _ | refine Below.alloc ?_ ?_ _ | refine Below.drew ?_ | refine below_drewN ?_ _ | refine Below.setCell ?_ ?_ _ | omega | (dsimp only; omega) | refine le_alloc ?_ | refine le_set ?_ | refine le_drew ?_ | refine le_drewN ?_)) (hb1.mono (by repeat (first | assumption | exact Below.refl _ _ | refine Below.alloc ?_ ?_ _ | refine Below.drew ?_ | refine below_drewN ?_ _ | refine Below.setCell ?_ ?_ _ | omega | (dsimp only; omega) | refine le_alloc ?_ | refine le_set ?_ | refine le_drew ?_ | refine le_drewN ?_))); have c2 := k2.cell; have l2 := k2.lt; have f2 := k2.frozen)
    refine bodyPost_ret (v := .tuple #[.agg #[.int .i64 0, .slice none 0 0, .slice none 0 0], .int .i64 (wrongStand s)]) (by simp [results, Try.results32, go_sem, c2]) rfl ?_
    rw [HR.out]
    exact ⟨none, 0, 0, none, 0, 0, rfl, rfl, rfl, Own.nil_ _ _ _ _, Own.nil_ _ _ _ _, (by repeat (first | assumption | exact Below.refl _ _ | refine Below.alloc ?_ ?_ _ | refine Below.drew ?_ | refine below_drewN ?_ _ | refine Below.setCell ?_ ?_ _ | omega | (dsimp only; omega) | refine le_alloc ?_ | refine le_set ?_ | refine le_drew ?_ | refine le_drewN ?_))⟩
  have h0 := Decidable.not_not.1 h0
  obtain ⟨i0, hi, iz0, iz1, iz2⟩ := info_parts infoAdv
  have h1 : n ≤ 8 ∧ m ≤ 20 := by have := right_parts h0; omega
  obtain ⟨hn8, hm20⟩ := h1
  have H0 := Lib.hid h0
  have Hn := Lib.hid hn
  have Hm := Lib.hid hm
  clear h0 hn hm
  by_cases hm2 : m = 20
  · have HR := Lib.hid (give_many (a := a) H0.out (by have := Hm.out; omega))
    subst hm2
    go_enter Try.func32, Try.ntmps32
    go_wp2_with (go_at_call 33; refine (HW.out _ (HU.out.below (by repeat (first | assumption | exact Below.refl _ _ | refine Below.alloc ?_ ?_ _ | refine Below.drew ?_ | refine below_drewN ?_ _ | refine Below.setCell ?_ ?_ _ | omega | (dsimp only; omega) | refine le_alloc ?_ | refine le_set ?_ | refine le_drew ?_ | refine le_drewN ?_))) (HA.out.below (by repeat (first | assumption | exact Below.refl _ _ | refine Below.alloc ?_ ?_ _ | refine Below.drew ?_ | refine below_drewN ?_ _ | refine Below.setCell ?_ ?_ _ | omega | (dsimp only; omega) | refine le_alloc ?_ | refine le_set ?_ | refine le_drew ?_ | refine le_drewN ?_)))).mono ?_; rintro e w1 ⟨rfl, hb1⟩; rw [H0.out]; have k0 : Blk w1 w.heap.size 26 #[.int .i64 s.cap, .slice U n c, .slice A 20 d] := Blk.keep (by repeat (first | assumption | refine Blk.drew ?_ | refine Blk.drewN ?_ _ | (refine Blk.new' ?_; simp; done) | refine Blk.alloc ?_ _ | refine blk_far ?_ ?_ | omega | (dsimp only; omega) | (simp; done) | (simp; omega))) hb1; have k2 : Blk w1 (w.heap.size + 2) 26 #[.int .i64 0, .slice none 0 0, .slice none 0 0] := Blk.keep (by repeat (first | assumption | refine Blk.drew ?_ | refine Blk.drewN ?_ _ | (refine Blk.new' ?_; simp; done) | refine Blk.alloc ?_ _ | refine blk_far ?_ ?_ | omega | (dsimp only; omega) | (simp; done) | (simp; omega))) hb1; have hb : Below w.heap.size w w1 := Below.trans (b := World.alloc _ _) (by repeat (first | assumption | exact Below.refl _ _ | refine Below.alloc ?_ ?_ _ | refine Below.drew ?_ | refine below_drewN ?_ _ | refine Below.setCell ?_ ?_ _ | omega | (dsimp only; omega) | refine le_alloc ?_ | refine le_set ?_ | refine le_drew ?_ | refine le_drewN ?_)) (hb1.mono (by repeat (first | assumption | exact Below.refl _ _ | refine Below.alloc ?_ ?_ _ | refine Below.drew ?_ | refine below_drewN ?_ _ | refine Below.setCell ?_ ?_ _ | omega | (dsimp only; omega) | refine le_alloc ?_ | refine le_set ?_ | refine le_drew ?_ | refine le_drewN ?_))); have c0 := k0.cell; have l0 := k0.lt; have c2 := k2.cell; have l2 := k2.lt; have f2 := k2.frozen)
    refine bodyPost_ret (v := .tuple #[.agg #[.int .i64 0, .slice none 0 0, .slice none 0 0], .int .i64 5]) (by simp [results, Try.results32, go_sem, c2]) rfl ?_
    rw [HR.out]
    exact ⟨none, 0, 0, none, 0, 0, rfl, rfl, rfl, Own.nil_ _ _ _ _, Own.nil_ _ _ _ _, (by repeat (first | assumption | exact Below.refl _ _ | refine Below.alloc ?_ ?_ _ | refine Below.drew ?_ | refine below_drewN ?_ _ | refine Below.setCell ?_ ?_ _ | omega | (dsimp only; omega) | refine le_alloc ?_ | refine le_set ?_ | refine le_drew ?_ | refine le_drewN ?_))⟩
  have hm3 : (m : Int) < 20 := by omega
  have hm4 : m < 20 := by omega
  have hmL : s.advices.length < 20 := by have := Hm.out; omega
  clear hm2
  go_enter Try.func32, Try.ntmps32
  go_wp2_with (go_at_call 33; refine (HW.out _ (HU.out.below (by repeat (first | assumption | exact Below.refl _ _ | refine Below.alloc ?_ ?_ _ | refine Below.drew ?_ | refine below_drewN ?_ _ | refine Below.setCell ?_ ?_ _ | omega | (dsimp only; omega) | refine le_alloc ?_ | refine le_set ?_ | refine le_drew ?_ | refine le_drewN ?_))) (HA.out.below (by repeat (first | assumption | exact Below.refl _ _ | refine Below.alloc ?_ ?_ _ | refine Below.drew ?_ | refine below_drewN ?_ _ | refine Below.setCell ?_ ?_ _ | omega | (dsimp only; omega) | refine le_alloc ?_ | refine le_set ?_ | refine le_drew ?_ | refine le_drewN ?_)))).mono ?_; rintro e w1 ⟨rfl, hb1⟩; rw [H0.out]; have k0 : Blk w1 w.heap.size 26 #[.int .i64 s.cap, .slice U n c, .slice A m d] := Blk.keep (by repeat (first | assumption | refine Blk.drew ?_ | refine Blk.drewN ?_ _ | (refine Blk.new' ?_; simp; done) | refine Blk.alloc ?_ _ | refine blk_far ?_ ?_ | omega | (dsimp only; omega) | (simp; done) | (simp; omega))) hb1; have k1 : Blk w1 (w.heap.size + 1) 32 #[.int .i64 a.card, .int .i64 a.shop, .int .i64 a.sum, .int .i64 a.time] := Blk.keep (by repeat (first | assumption | refine Blk.drew ?_ | refine Blk.drewN ?_ _ | (refine Blk.new' ?_; simp; done) | refine Blk.alloc ?_ _ | refine blk_far ?_ ?_ | omega | (dsimp only; omega) | (simp; done) | (simp; omega))) hb1; have k2 : Blk w1 (w.heap.size + 2) 26 #[.int .i64 0, .slice none 0 0, .slice none 0 0] := Blk.keep (by repeat (first | assumption | refine Blk.drew ?_ | refine Blk.drewN ?_ _ | (refine Blk.new' ?_; simp; done) | refine Blk.alloc ?_ _ | refine blk_far ?_ ?_ | omega | (dsimp only; omega) | (simp; done) | (simp; omega))) hb1; have hb : Below w.heap.size w w1 := Below.trans (b := World.alloc _ _) (by repeat (first | assumption | exact Below.refl _ _ | refine Below.alloc ?_ ?_ _ | refine Below.drew ?_ | refine below_drewN ?_ _ | refine Below.setCell ?_ ?_ _ | omega | (dsimp only; omega) | refine le_alloc ?_ | refine le_set ?_ | refine le_drew ?_ | refine le_drewN ?_)) (hb1.mono (by repeat (first | assumption | exact Below.refl _ _ | refine Below.alloc ?_ ?_ _ | refine Below.drew ?_ | refine below_drewN ?_ _ | refine Below.setCell ?_ ?_ _ | omega | (dsimp only; omega) | refine le_alloc ?_ | refine le_set ?_ | refine le_drew ?_ | refine le_drewN ?_))); have c0 := k0.cell; have c1 := k1.cell; have c2 := k2.cell; have l2 := k2.lt; have l1 := k1.lt; have l0 := k0.lt; have f2 := k2.frozen)
  have HU1 := HU.out.below hb
  have HA1 := HA.out.below hb
  refine wp_region_tbl' 13 [.val (.pointer (some ⟨w.heap.size, 0, none⟩)), .val (.int .i64 s.cap), .val (.pointer (some ⟨w.heap.size, 1, none⟩)), .val (.slice U n c), .lin (LK.own _ 3 eI n s.used), .val (.pointer (some ⟨w.heap.size, 2, none⟩)), .val (.slice A m d), .lin (LK.own _ 32 eAdv m s.advices), .val (.agg #[.int .i64 a.card, .int .i64 a.shop, .int .i64 a.sum, .int .i64 a.time]), .lin (LK.own _ 32 eAdv 1 [a]), .lin (LK.own _ 32 eAdv (m + 1) (s.advices ++ [a])), .lin (LK.agg [.c (.int .i64 s.cap), .l (LK.own _ 3 eI n s.used), .l (LK.own _ 32 eAdv (m + 1) (s.advices ++ [a]))]), .lin (LK.box _ 26 #[.int .i64 0, .slice none 0 0, .slice none 0 0])]
    [[], [0], [], [2], [3], [], [5], [6], [], [8], [7, 9], [1, 4, 10], []] [[], [], [], [], [], [], [], [], [], [], [7, 9], [4, 10], []] [20, 21, 22, 23, 24, 25, 26, 27, 28, 29, 30, 31, 7] rfl (by kernel_rfl) (by kernel_rfl) (by rfl) ?_ ?_
  · intro i hi o ho
    have hi' : i < 13 := hi
    clear hi
    rcases i with _ | i
    · obtain rfl := Option.some.inj ho
      intro a1 w2 hb2 hs hin hap K hK
      have g2 : a1.tmps[2]?.getD undef = _ := (hs.get 2 (by kernel_rfl)).trans rfl
      refine wp_of_run (w' := w2) (v := .pointer (some ⟨w.heap.size, 0, none⟩)) ?_ (hK _ _ none rfl (World.grownBy.refl _ _) (by simp) (by intro h; cases h))
      go_simp
    rcases i with _ | i
    · obtain rfl := Option.some.inj ho
      intro a1 w2 hb2 hs hin hap K hK
      have g20 : a1.tmps[20]?.getD undef = .pointer (some ⟨w.heap.size, 0, none⟩) := slot_get (hin 0 (by simp [Makers.of]))
      have e0 := (hb2.cell (p := ⟨w.heap.size, 0, none⟩) l0).trans (c0 0)
      refine wp_of_run (w' := w2) (v := .int .i64 s.cap) ?_ (hK _ _ none rfl (World.grownBy.refl _ _) (by simp) (by intro h; cases h))
      go_simp
    rcases i with _ | i
    · obtain rfl := Option.some.inj ho
      intro a1 w2 hb2 hs hin hap K hK
      have g2 : a1.tmps[2]?.getD undef = _ := (hs.get 2 (by kernel_rfl)).trans rfl
      refine wp_of_run (w' := w2) (v := .pointer (some ⟨w.heap.size, 1, none⟩)) ?_ (hK _ _ none rfl (World.grownBy.refl _ _) (by simp) (by intro h; cases h))
      go_simp
    rcases i with _ | i
    · obtain rfl := Option.some.inj ho
      intro a1 w2 hb2 hs hin hap K hK
      have g22 : a1.tmps[22]?.getD undef = .pointer (some ⟨w.heap.size, 1, none⟩) := slot_get (hin 2 (by simp [Makers.of]))
      have e1 := (hb2.cell (p := ⟨w.heap.size, 1, none⟩) l0).trans (c0 1)
      refine wp_of_run (w' := w2) (v := .slice U n c) ?_ (hK _ _ none rfl (World.grownBy.refl _ _) (by simp) (by intro h; cases h))
      go_simp
    rcases i with _ | i
    · obtain rfl := Option.some.inj ho
      intro a1 w2 hb2 hs hin hap K hK
      have g23 : a1.tmps[23]?.getD undef = .slice U n c := slot_get (hin 3 (by simp [Makers.of]))
      refine wp_of_enter (w' := w2) (f := _) (args := #[.slice U n c]) (by go_simp) ((clone_int U n c s.used w2 (HU1.below (of_drew hb2)) (by omega)).mono ?_)
      rintro e w3 ⟨A3, c3, rfl, hO3, hb3⟩
      exact ⟨_, rfl, hK _ _ none ⟨A3, c3, rfl, hO3.base_ hb2.size⟩ (grown_of_below hb3) (by simp) fun _ g hg => .inl (new_of_own hO3 g hg)⟩
    rcases i with _ | i
    · obtain rfl := Option.some.inj ho
      intro a1 w2 hb2 hs hin hap K hK
      have g2 : a1.tmps[2]?.getD undef = _ := (hs.get 2 (by kernel_rfl)).trans rfl
      refine wp_of_run (w' := w2) (v := .pointer (some ⟨w.heap.size, 2, none⟩)) ?_ (hK _ _ none rfl (World.grownBy.refl _ _) (by simp) (by intro h; cases h))
      go_simp
    rcases i with _ | i
    · obtain rfl := Option.some.inj ho
      intro a1 w2 hb2 hs hin hap K hK
      have g25 : a1.tmps[25]?.getD undef = .pointer (some ⟨w.heap.size, 2, none⟩) := slot_get (hin 5 (by simp [Makers.of]))
      have e2 := (hb2.cell (p := ⟨w.heap.size, 2, none⟩) l0).trans (c0 2)
      refine wp_of_run (w' := w2) (v := .slice A m d) ?_ (hK _ _ none rfl (World.grownBy.refl _ _) (by simp) (by intro h; cases h))
      go_simp
    rcases i with _ | i
    · obtain rfl := Option.some.inj ho
      intro a1 w2 hb2 hs hin hap K hK
      have g26 : a1.tmps[26]?.getD undef = .slice A m d := slot_get (hin 6 (by simp [Makers.of]))
      refine wp_of_enter (w' := w2) (f := _) (args := #[.slice A m d]) (by go_simp) ((clone_adv A m d s.advices w2 (HA1.below (of_drew hb2)) (by omega)).mono ?_)
      rintro e w3 ⟨A3, c3, rfl, hO3, hb3⟩
      exact ⟨_, rfl, hK _ _ none ⟨A3, c3, rfl, hO3.base_ hb2.size⟩ (grown_of_below hb3) (by simp) fun _ g hg => .inl (new_of_own hO3 g hg)⟩
    rcases i with _ | i
    · obtain rfl := Option.some.inj ho
      intro a1 w2 hb2 hs hin hap K hK
      have g3 : a1.tmps[3]?.getD undef = _ := (hs.get 3 (by kernel_rfl)).trans rfl
      have e0 := (hb2.cell (p := ⟨w.heap.size + 1, 0, none⟩) l1).trans (c1 0)
      have e1 := (hb2.cell (p := ⟨w.heap.size + 1, 1, none⟩) l1).trans (c1 1)
      have e2 := (hb2.cell (p := ⟨w.heap.size + 1, 2, none⟩) l1).trans (c1 2)
      have e3 := (hb2.cell (p := ⟨w.heap.size + 1, 3, none⟩) l1).trans (c1 3)
      refine wp_of_run (w' := w2) (v := .agg #[.int .i64 a.card, .int .i64 a.shop, .int .i64 a.sum, .int .i64 a.time]) ?_ (hK _ _ none rfl (World.grownBy.refl _ _) (by simp) (by intro h; cases h))
      go_simp
    rcases i with _ | i
    · obtain rfl := Option.some.inj ho
      intro a1 w2 hb2 hs hin hap K hK
      have g28 : a1.tmps[28]?.getD undef = .agg #[.int .i64 a.card, .int .i64 a.shop, .int .i64 a.sum, .int .i64 a.time] := slot_get (hin 8 (by simp [Makers.of]))
      refine wp_of_run (w' := w2.alloc (.cells (eAdv.cells a).toArray 32)) (v := .slice (some ⟨w2.heap.size, 0, none⟩) 1 1) (by go_simp; rfl) (hK _ _ none ⟨_, _, rfl, (Own.one w2 eAdv a 32).base_ hb2.size⟩ (World.grownBy_alloc _ _ _) (by simp) fun _ g hg => .inl (new_of_own (Own.one w2 eAdv a 32) g hg))
    rcases i with _ | i
    · obtain rfl := Option.some.inj ho
      intro a1 w2 hb2 hs hin hap K hK
      have g27 := hin 7 (by simp [Makers.of])
      have g29 := hin 9 (by simp [Makers.of])
      obtain ⟨As, cs, es, hOs⟩ := g27
      obtain ⟨Ax, cx, ex, hOx⟩ := g29
      have hap1 := hap
      refine wp_append_row w2 _ _ 22 rfl _ 32 i0 _ 32 Try.underlying22 hi iz0 iz1 iz2 rfl (E := eAdv) (.slice As m cs) (s.advices) es hOs Ax 1 cx ([a]) ex hOx.row (by simp only [maxLen]; (have := Hm.out; omega)) (by (have := Hm.out; omega)) hb2.size (m + 1) (by (have := Hm.out; omega)) ?_
      intro A4 c4 w4 hO4 hg4 ho4
      refine hK _ _ _ ⟨A4, c4, rfl, hO4⟩ hg4 (fun g hg => ⟨7, by simp [Makers.of], by rw [show slotV _ a1 7 = _ from es]; exact (bl_slice _ _ _ g).2 hg⟩) fun _ g hg => ?_
      rcases ho4 with h4 | h4
      · exact .inr ⟨7, by simp [Makers.of], by rw [show slotV _ a1 7 = _ from es]; exact (bl_slice _ _ _ g).2 (h4.symm.trans ((bl_slice _ _ _ g).1 hg))⟩
      · have h5 := h4.symm.trans ((bl_slice _ _ _ g).1 hg)
        injection h5 with h5
        exact .inl (by omega)
    rcases i with _ | i
    · obtain rfl := Option.some.inj ho
      intro a1 w2 hb2 hs hin hap K hK
      have g21 : a1.tmps[21]?.getD undef = .int .i64 s.cap := slot_get (hin 1 (by simp [Makers.of]))
      have g24 := hin 4 (by simp [Makers.of])
      have g30 := hin 10 (by simp [Makers.of])
      obtain ⟨B0, d0, e0, hP0⟩ := g24
      have g24 : a1.tmps[24]?.getD undef = _ := slot_get e0
      obtain ⟨B1, d1, e1, hP1⟩ := g30
      have g30 : a1.tmps[30]?.getD undef = _ := slot_get e1
      refine wp_of_run (w' := w2) (v := .agg #[.int .i64 s.cap, .slice B0 n d0, .slice B1 (m + 1 : Nat) d1]) (by go_simp) (hK _ _ none ⟨[_, _, _], rfl, rfl, rfl, ⟨_, _, rfl, hP0⟩, rfl, ⟨_, _, rfl, hP1⟩, rfl, trivial⟩ (World.grownBy.refl _ _) (by simp) fun _ g hg => .inr ?_)
      have hg' : g ∈ bl (.slice B0 (n) d0) ∨ g ∈ bl (.slice B1 (m + 1) d1) := by simpa [bl, bl1] using hg
      rcases hg' with hg | hg
      · exact ⟨4, by simp [Makers.of], by rw [show slotV _ a1 4 = _ from e0]; exact hg⟩
      · exact ⟨10, by simp [Makers.of], by rw [show slotV _ a1 10 = _ from e1]; exact hg⟩
    rcases i with _ | i
    · obtain rfl := Option.some.inj ho
      intro a1 w2 hb2 hs hin hap K hK
      refine wp_of_run (w' := w2.alloc (.cells #[.int .i64 0, .slice none 0 0, .slice none 0 0] 26)) (v := .pointer (some ⟨w2.heap.size, 0, none⟩)) (by go_simp) (hK _ _ none ⟨_, rfl, hb2.size, Blk.new _ _ _⟩ (World.grownBy_alloc _ _ _) (by simp) fun _ g hg => .inl (by simp [bl, bl1] at hg; omega))
    omega
  · -- TAIL
    intro vs w9 hv hb9 hF hA
    have h11 := hF 11 (by decide) (by decide)
    have h12 := hF 12 (by decide) (by decide)
    have hap := hA 11 12 (by decide) (by decide) (by decide) (by decide) (by decide) rfl rfl
    clear hF hA
    match vs, hv, h11, h12, hap with
    | [x0, x1, x2, x3, x4, x5, x6, x7, x8, x9, x10, x11, x12], _, h11, h12, hap =>
      obtain ⟨xs, e11, hgood⟩ := h11
      obtain ⟨g, e12, hgB, hBg⟩ := h12
      have hlen := APart.good_length _ _ hgood
      match xs, hlen, hgood, e11 with
      | [y0, y1, y2], _, hgood, e11 =>
        obtain ⟨rfl, _, ⟨B0, d0, rfl, hO1⟩, _, ⟨B1, d1, rfl, hO2⟩, _, _⟩ := hgood
        have e11 : x11 = .agg #[.int .i64 s.cap, .slice B0 n d0, .slice B1 (m + 1) d1] := e11
        have e12 : x12 = .pointer (some ⟨g, 0, none⟩) := e12
        subst e11 e12
        simp only [putAll, Act.put, List.setIfInBounds_toArray, List.set_cons_succ, List.set_cons_zero]
        refine wpList_store_blk rfl 26 (.tmp 7) (.tmp 31) rfl _ rfl rfl hBg size26 rfl (by simp [Value.oneCell']) ?_
        intro w10 hB10 hg10
        have hgl : w1.heap.size ≤ g := hgB
        have K0 : Blk w10 w.heap.size 26 _ := (k0.keep hb9).grown hg10 (by intro e; injection e with e; omega)
        have K1 : Blk w10 (w.heap.size + 1) 32 _ := (k1.keep hb9).grown hg10 (by intro e; injection e with e; omega)
        have K2 : Blk w10 (w.heap.size + 2) 26 _ := (k2.keep hb9).grown hg10 (by intro e; injection e with e; omega)
        have hP1 := hO1.far_blk hBg (by decide) hg10
        have hP2 := hO2.far_blk hBg (by decide) hg10
        have hb10 : Below w1.heap.size w1 w10 := hb9.grown hg10 hb9.size (fun k hk => by injection hk; omega)
        have hbw : Below w.heap.size w w10 := hb.trans (hb10.mono hb.size)
        have hlw : w.heap.size + 2 < w1.heap.size := l2
        have hbs : w.heap.size ≤ w1.heap.size := by omega
        have HP1 := Lib.hid hP1
        have HP2 := Lib.hid hP2
        have Hap := Lib.hid hap
        clear hO1 hO2 hP1 hP2 hap hBg hb9 hg10 hb10 k0 k1 k2 c0 c1 c2 f2 l0 l1 l2 HU1 HA1 hb hb1 hgB
        have c0 := K0.cell
        have c1 := K1.cell
        have c2 := K2.cell
        have f2 := K2.frozen
        have cg := hB10.cell
        have l0 := K0.lt
        have l1 := K1.lt
        have l2 := K2.lt
        have lg := hB10.lt
        by_cases hc : ¬ (0 ≤ a.card ∧ a.card < (n : Int) ∧ 1 ≤ a.sum ∧ a.sum ≤ 1000000)
        · have HO := Lib.hid (give_off (s := s) (a := a) H0.out hmL (by rw [← Hn.out]; exact hc))
          have hout := Lib.hid (fun w hU hA => stand_Wrong { cap := s.cap, used := s.used, advices := s.advices ++ [a] } B0 B1 n d0 (m + 1) d1 w hU hA)
          go_wp2_with (go_at_call 33; refine (hout.out _ HP1.out.row HP2.out.row).mono ?_; rintro e w11 ⟨rfl, hb11⟩; rw [HO.out.1]; have c2' := fun i => (hb11.cell (p := ⟨w.heap.size + 2, i, none⟩) l2).trans (c2 i); have f2' := fun i => (hb11.frozen (p := ⟨w.heap.size + 2, i, none⟩) l2).trans (f2 i); have l2' := Nat.lt_of_lt_of_le l2 hb11.size; have hbw' := hbw.trans (hb11.mono hbw.size))
          all_goals
            refine bodyPost_ret (v := .tuple #[.agg #[.int .i64 0, .slice none 0 0, .slice none 0 0], .int .i64 3]) (by simp [results, Try.results32, go_sem, c2']) rfl ?_
            rw [HO.out.2]
            exact ⟨none, 0, 0, none, 0, 0, rfl, rfl, rfl, Own.nil_ _ _ _ _, Own.nil_ _ _ _ _, (by repeat (first | assumption | exact Below.refl _ _ | refine Below.alloc ?_ ?_ _ | refine Below.drew ?_ | refine below_drewN ?_ _ | refine Below.setCell ?_ ?_ _ | omega | (dsimp only; omega) | refine le_alloc ?_ | refine le_set ?_ | refine le_drew ?_ | refine le_drewN ?_))⟩
        · have hc := Decidable.not_not.1 hc
          have hlt : a.card.toNat < s.used.length := by have := Hn.out; omega
          obtain ⟨gb, rfl, hgb0, hgb1, e5, f5, hst⟩ := HP1.out.setI hlt (s.used.getD a.card.toNat 0 + a.sum)
          have hub := used_bound H0.out (List.getElem?_eq_getElem hlt)
          have hgd : s.used[a.card.toNat] = s.used.getD a.card.toNat 0 := by simp [hlt]
          rw [hgd] at e5 hub
          have hgne : gb ≠ g := fun e => Hap.out g (by subst e; simp [bl, bl1]) (by simp [bl, bl1])
          have HST := Lib.hid hst
          have HP2' := Lib.hid (HP2.out.far_own HP1.out (by decide) (grownBy_setCell _ ⟨gb, a.card.toNat, none⟩ (.int .i64 (s.used.getD a.card.toNat 0 + a.sum))))
          obtain ⟨p0, p1, p2, p3⟩ := hc
          have hG := give_cases (a := a) H0.out hmL
          generalize hu : s.used.getD a.card.toNat 0 = u at *
          clear hgd hlt hu hst
          go_wp2_with fail
          go_region
          have HS := Lib.hid HST.out
          rcases hG with ⟨hR, hF⟩ | ⟨hR, hF⟩ | ⟨hR, hF⟩
          all_goals
            have HR := Lib.hid hR
            have HF := Lib.hid hF
            clear hR hF
          ·
            go_wp2_with (go_at_call 33; refine (stand_Wrong { cap := s.cap, used := s.used.set a.card.toNat (u + a.sum), advices := s.advices ++ [a] } (some ⟨gb, 0, none⟩) B1 n d0 (m + 1) d1 _ HST.out.drew.row HP2'.out.drew.row).mono ?_; rintro e w11 ⟨rfl, hb11⟩; rw [HR.out]; have K2' := ((blk_far (p := ⟨gb, a.card.toNat, none⟩) (u := .int .i64 (u + a.sum)) K2 (by show _ ≠ gb; omega)).drew).keep hb11; have KG' := ((blk_far (p := ⟨gb, a.card.toNat, none⟩) (u := .int .i64 (u + a.sum)) hB10 (by show _ ≠ gb; exact Ne.symm hgne)).drew).keep hb11; have hst' := (Own.drew HST.out).keep hb11; have hp2' := (Own.drew HP2'.out).keep hb11; have hbw' : Below w.heap.size w w11 := (((hbw.setCell (p := ⟨gb, a.card.toNat, none⟩) (by show _ ≤ gb; omega) (.int .i64 (u + a.sum))).drew).trans (hb11.mono (by show w.heap.size ≤ (World.setCell w10 _ _).heap.size; rw [World.size_setCell]; exact hbw.size))); have HST' := Lib.hid hst'; have HP3 := Lib.hid hp2'; clear hst' hp2'; have c2' := K2'.cell; have cg' := KG'.cell; have f2' := K2'.frozen; have l2' := K2'.lt; have lg' := KG'.lt)
            refine bodyPost_ret (v := .tuple #[.agg #[.int .i64 0, .slice none 0 0, .slice none 0 0], .int .i64 3]) (by simp [results, Try.results32, go_sem, c2']) rfl ?_
            rw [HF.out]
            exact ⟨none, 0, 0, none, 0, 0, rfl, rfl, rfl, Own.nil_ _ _ _ _, Own.nil_ _ _ _ _, (by repeat (first | assumption | exact Below.refl _ _ | refine Below.alloc ?_ ?_ _ | refine Below.drew ?_ | refine below_drewN ?_ _ | refine Below.setCell ?_ ?_ _ | omega | (dsimp only; omega) | refine le_alloc ?_ | refine le_set ?_ | refine le_drew ?_ | refine le_drewN ?_))⟩
          ·
            go_wp2_with (go_at_call 33; refine (stand_Wrong { cap := s.cap, used := s.used.set a.card.toNat (u + a.sum), advices := s.advices ++ [a] } (some ⟨gb, 0, none⟩) B1 n d0 (m + 1) d1 _ HST.out.drew.row HP2'.out.drew.row).mono ?_; rintro e w11 ⟨rfl, hb11⟩; rw [HR.out]; have K2' := ((blk_far (p := ⟨gb, a.card.toNat, none⟩) (u := .int .i64 (u + a.sum)) K2 (by show _ ≠ gb; omega)).drew).keep hb11; have KG' := ((blk_far (p := ⟨gb, a.card.toNat, none⟩) (u := .int .i64 (u + a.sum)) hB10 (by show _ ≠ gb; exact Ne.symm hgne)).drew).keep hb11; have hst' := (Own.drew HST.out).keep hb11; have hp2' := (Own.drew HP2'.out).keep hb11; have hbw' : Below w.heap.size w w11 := (((hbw.setCell (p := ⟨gb, a.card.toNat, none⟩) (by show _ ≤ gb; omega) (.int .i64 (u + a.sum))).drew).trans (hb11.mono (by show w.heap.size ≤ (World.setCell w10 _ _).heap.size; rw [World.size_setCell]; exact hbw.size))); have HST' := Lib.hid hst'; have HP3 := Lib.hid hp2'; clear hst' hp2'; have c2' := K2'.cell; have cg' := KG'.cell; have f2' := K2'.frozen; have l2' := K2'.lt; have lg' := KG'.lt)
            refine bodyPost_ret (v := .tuple #[.agg #[.int .i64 0, .slice none 0 0, .slice none 0 0], .int .i64 10]) (by simp [results, Try.results32, go_sem, c2']) rfl ?_
            rw [HF.out]
            exact ⟨none, 0, 0, none, 0, 0, rfl, rfl, rfl, Own.nil_ _ _ _ _, Own.nil_ _ _ _ _, (by repeat (first | assumption | exact Below.refl _ _ | refine Below.alloc ?_ ?_ _ | refine Below.drew ?_ | refine below_drewN ?_ _ | refine Below.setCell ?_ ?_ _ | omega | (dsimp only; omega) | refine le_alloc ?_ | refine le_set ?_ | refine le_drew ?_ | refine le_drewN ?_))⟩
          ·
            go_wp2_with (go_at_call 33; refine (stand_Wrong { cap := s.cap, used := s.used.set a.card.toNat (u + a.sum), advices := s.advices ++ [a] } (some ⟨gb, 0, none⟩) B1 n d0 (m + 1) d1 _ HST.out.drew.row HP2'.out.drew.row).mono ?_; rintro e w11 ⟨rfl, hb11⟩; rw [HR.out]; have K2' := ((blk_far (p := ⟨gb, a.card.toNat, none⟩) (u := .int .i64 (u + a.sum)) K2 (by show _ ≠ gb; omega)).drew).keep hb11; have KG' := ((blk_far (p := ⟨gb, a.card.toNat, none⟩) (u := .int .i64 (u + a.sum)) hB10 (by show _ ≠ gb; exact Ne.symm hgne)).drew).keep hb11; have hst' := (Own.drew HST.out).keep hb11; have hp2' := (Own.drew HP2'.out).keep hb11; have hbw' : Below w.heap.size w w11 := (((hbw.setCell (p := ⟨gb, a.card.toNat, none⟩) (by show _ ≤ gb; omega) (.int .i64 (u + a.sum))).drew).trans (hb11.mono (by show w.heap.size ≤ (World.setCell w10 _ _).heap.size; rw [World.size_setCell]; exact hbw.size))); have HST' := Lib.hid hst'; have HP3 := Lib.hid hp2'; clear hst' hp2'; have c2' := K2'.cell; have cg' := KG'.cell; have f2' := K2'.frozen; have l2' := K2'.lt; have lg' := KG'.lt)
            refine bodyPost_ret (v := .tuple #[.agg #[.int .i64 s.cap, .slice (some ⟨gb, 0, none⟩) n d0, .slice B1 (m + 1) d1], .int .i64 0]) (by simp [results, Try.results32, go_sem, c2']) rfl ?_
            rw [HF.out]
            exact ⟨_, n, d0, B1, m + 1, d1, rfl, by rw [List.length_set]; exact Hn.out, by rw [List.length_append, ← Hm.out]; rfl, (own_set3 HST'.out K2' (by decide) _ _ _).base_ hbs, (own_set3 HP3.out K2' (by decide) _ _ _).base_ hbs, (by repeat (first | assumption | exact Below.refl _ _ | refine Below.alloc ?_ ?_ _ | refine Below.drew ?_ | refine below_drewN ?_ _ | refine Below.setCell ?_ ?_ _ | omega | (dsimp only; omega) | refine le_alloc ?_ | refine le_set ?_ | refine le_drew ?_ | refine le_drewN ?_))⟩

end Go.Proofs.Ytgmcdlfmifijlaa
