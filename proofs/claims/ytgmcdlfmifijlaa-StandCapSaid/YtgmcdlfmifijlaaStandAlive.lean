/- paylaw6.alive returns true; no condition. -/
import Derived.Test.YtgmcdlfmifijlaaStandGive
import Derived.Test.YtgmcdlfmifijlaaStandNew
namespace Go.Proofs.Ytgmcdlfmifijlaa
open Go.RowKit Pay

set_option maxRecDepth 100000 in
set_option maxHeartbeats 1000000 in
theorem stand_alive (w : World) : Calls Try.prog 29 #[] w fun e w' => e = .returned (.bool true) ∧ Below w.heap.size w w' := by
  have hN : newStand 100 2 = ({ cap := 100, used := [0, 0], advices := [] }, 0) := by decide
  have hG1 : giveStand { cap := 100, used := [0, 0], advices := [] } { card := 1, shop := 0, sum := 70, time := 0 } = ({ cap := 100, used := [0, 70], advices := [{ card := 1, shop := 0, sum := 70, time := 0 }] }, 0) := by decide
  have hG2 : giveStand { cap := 100, used := [0, 70], advices := [{ card := 1, shop := 0, sum := 70, time := 0 }] } { card := 1, shop := 0, sum := 31, time := 0 } = (noStand, 10) := by decide
  have cN := fun w => stand_New 100 2 w
  rw [hN] at cN
  have cG1 := fun U n c A m d w hU hA => stand_Give { cap := 100, used := [0, 0], advices := [] } { card := 1, shop := 0, sum := 70, time := 0 } U A n c m d w hU hA
  rw [hG1] at cG1
  have cG2 := fun U n c A m d w hU hA => stand_Give { cap := 100, used := [0, 70], advices := [{ card := 1, shop := 0, sum := 70, time := 0 }] } { card := 1, shop := 0, sum := 31, time := 0 } U A n c m d w hU hA
  rw [hG2] at cG2
  have CN := Lib.hid cN
  have CG1 := Lib.hid cG1
  have CG2 := Lib.hid cG2
  clear hN hG1 hG2 cN cG1 cG2
  go_enter Try.func29, Try.ntmps29
  go_wp2_with fail
  refine (CN.out _).mono ?_
  rintro e w1 ⟨U, n, c, A, m, d, rfl, rfl, rfl, hU, hA, hb1⟩
  have HU := Lib.hid hU
  have HA := Lib.hid hA
  clear hU hA
  go_wp2_with fail
  refine (CG1.out U 2 c A 0 d _ (HU.out.alloc _).row (HA.out.alloc _).row).mono ?_
  rintro e w2 ⟨V, n', c', B, m', d', rfl, rfl, rfl, hV, hB, hb2⟩
  have hV1 := hV.row.get1 (fun _ => rfl) rfl (show 1 < 2 by decide)
  obtain ⟨b, off, x, hx, rfl, hbl, hcell⟩ := hV1
  obtain rfl : 70 = x := by simpa using hx
  have HV := Lib.hid hV
  have HB := Lib.hid hB
  clear hV hB hx
  go_wp2_with fail
  refine (CG2.out (some ⟨b, off, none⟩) 2 c' B 1 d' _ (HV.out.alloc _).row (HB.out.alloc _).row).mono ?_
  rintro e w3 ⟨V', n'', c'', B', m'', d'', rfl, rfl, rfl, hV', hB', hb3⟩
  have K3 := (Blk.new w2 26 #[.int .i64 100, .slice (some ⟨b, off, none⟩) 2 c', .slice B 1 d']).keep hb3
  have c3 := K3.cell
  have l3 := K3.lt
  have e3 := (hb3.cell (p := ⟨b, off + 1, none⟩) (by rw [World.size_alloc]; exact Nat.lt_succ_of_lt hbl)).trans ((World.cell?_alloc_lt w2 _ _ hbl).trans hcell)
  have hbb : Below w.heap.size w w3 := below_call1 (below_call1 hb1 hb2) hb3
  have hbs := hbb.size
  have hbl3 : b < w3.heap.size := by have := hb3.size; rw [World.size_alloc] at this; omega
  clear hV' hB' hb1 hb2 hb3 K3 hcell hbl
  go_wp2
  go_ret
  exact ⟨rfl, (by repeat (first | assumption | exact Below.refl _ _ | refine Below.alloc ?_ ?_ _ | refine Below.drew ?_ | refine below_drewN ?_ _ | refine Below.setCell ?_ ?_ _ | omega | (dsimp only; omega) | refine le_alloc ?_ | refine le_set ?_ | refine le_drew ?_ | refine le_drewN ?_))⟩
end Go.Proofs.Ytgmcdlfmifijlaa
