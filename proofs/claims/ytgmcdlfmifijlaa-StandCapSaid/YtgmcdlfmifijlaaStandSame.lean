/- payref1.SameStand says whether two stands are the same; conditions: the rows lie in memory. -/
import Derived.Test.YtgmcdlfmifijlaaRows
import Derived.Test.YtgmcdlfmifijlaaEnc
namespace Go.Proofs.Ytgmcdlfmifijlaa
open Go.RowKit Pay

theorem eql_adv (x0 x1 x2 x3 y0 y1 y2 y3 : Int) (w : World) : (binOp .neq 32 (.agg #[.int .i64 x0, .int .i64 x1, .int .i64 x2, .int .i64 x3]) (.agg #[.int .i64 y0, .int .i64 y1, .int .i64 y2, .int .i64 y3])).run Try.prog w = .ok (.bool (!decide (x0 = y0 ∧ x1 = y1 ∧ x2 = y2 ∧ x3 = y3))) w := by
  have u3 := Try.underlying3
  have a3 := Try.isAgg3
  have z3 := Try.sizeOf3
  have hS : Try.prog.underlying 32 = some (.struct (Try.prog.fieldsOf 32)) := by kernel_rfl
  have hp : Try.prog.stoodInHeld 32 = false := by kernel_rfl
  rw [run_neq_struct, show (10000 : Nat) = 9999 + 1 from rfl, run_equalIn_agg w 9999 32 _ _ hS hp]
  simp only [Program.fieldsOf, Try.underlying32]
  go_simp
  by_cases h0 : x0 = y0 <;> by_cases h1 : x1 = y1 <;> by_cases h2 : x2 = y2 <;> by_cases h3 : x3 = y3 <;> simp [h0, h1, h2, h3]
theorem guard_adv (op : BinOp) (x y : Operand) (xs ys : Array Value) (w : World) : (eqGuard op 32 x y (.agg xs) (.agg ys)).run Try.prog w = .ok () w := run_eqGuard_agg w op _ x y xs ys (by kernel_rfl)
theorem eq_stand {s t : Stand} (h1 : s.cap = t.cap) (h2 : s.used = t.used) (h3 : s.advices = t.advices) : decide (s = t) = true := by
  obtain ⟨_, _, _⟩ := s; obtain ⟨_, _, _⟩ := t
  simp at h1 h2 h3
  simp [h1, h2, h3]
theorem take_ne {α : Type} {l l' : List α} {q : Nat} {x y : α} (h : l[q]? = some x) (h' : l'[q]? = some y) (hne : x ≠ y) : l ≠ l' := by
  rintro rfl
  rw [h] at h'
  injection h' with h'
  exact hne h'

set_option maxRecDepth 100000 in
set_option maxHeartbeats 1000000 in
theorem ref_SameStand (s t : Stand) (U A : Option Addr) (n c m d : Nat) (V B : Option Addr) (n' c' m' d' : Nat) (w : World) (hU : Row w eI U n s.used) (hA : Row w eAdv A m s.advices) (hV : Row w eI V n' t.used) (hB : Row w eAdv B m' t.advices) :
    Calls Try.prog 31 #[.agg #[.int .i64 s.cap, .slice U n c, .slice A m d], .agg #[.int .i64 t.cap, .slice V n' c', .slice B m' d']] w fun e w' => e = .returned (.bool (decide (s = t))) ∧ Below w.heap.size w w' := by
  have hn := hU.len
  have hm := hA.len
  have hn' := hV.len
  have hm' := hB.len
  have nU := hU.max
  have nA := hA.max
  have HU := Lib.hid hU
  have HA := Lib.hid hA
  have HV := Lib.hid hV
  have HB := Lib.hid hB
  clear hU hA hV hB
  by_cases h1 : s.cap = t.cap ∧ n = n' ∧ m = m'
  · obtain ⟨h1, rfl, rfl⟩ := h1
    have H1 := Lib.hid h1
    have h1' := le_of_eq_int h1
    have Hn := Lib.hid hn
    have Hm := Lib.hid hm
    have Hn' := Lib.hid hn'
    have Hm' := Lib.hid hm'
    obtain ⟨p1, p2⟩ := h1'
    clear h1 hn hm hn' hm'
    go_enter Try.func31, Try.ntmps31
    go_wp2
    go_loopg [33] n (fun k i wr => ∃ (q : Nat), q + k = n ∧ i = .int .i64 q ∧ Below w.heap.size w wr ∧ Blk wr w.heap.size 26 #[.int .i64 t.cap, .slice U n c, .slice A m d] ∧ Blk wr (w.heap.size + 1) 26 #[.int .i64 t.cap, .slice V n c', .slice B m d'] ∧ Hid (s.used.take q = t.used.take q))
    case atStart => exact ⟨0, by omega, rfl, (by repeat (first | assumption | exact Below.refl _ _ | refine Below.alloc ?_ ?_ _ | refine Below.drew ?_ | refine below_drewN ?_ _ | refine Below.setCell ?_ ?_ _ | omega | (dsimp only; omega) | refine le_alloc ?_ | refine le_set ?_ | refine le_drew ?_ | refine le_drewN ?_)), (by repeat (first | assumption | refine Blk.drew ?_ | refine Blk.drewN ?_ _ | (refine Blk.new' ?_; simp; done) | refine Blk.alloc ?_ _ | refine blk_far ?_ ?_ | omega | (dsimp only; omega) | (simp; done) | (simp; omega))), (by repeat (first | assumption | refine Blk.drew ?_ | refine Blk.drewN ?_ _ | (refine Blk.new' ?_; simp; done) | refine Blk.alloc ?_ _ | refine blk_far ?_ ?_ | omega | (dsimp only; omega) | (simp; done) | (simp; omega))), by simp [Hid]⟩
    case round =>
      obtain ⟨q, hq, rfl, hb, h0, h1, HE⟩ := hrel
      have hsz := hb.size
      have c0 := h0.cell
      have c1 := h1.cell
      have l0 := h0.lt
      have l1 := h1.lt
      by_cases hqn : q < n
      · obtain ⟨b, off, x, hx, rfl, hbr, e0⟩ := (HU.out.below hb).get1 (fun _ => rfl) rfl hqn
        obtain ⟨b', off', y, hy, rfl, hbr', e0'⟩ := (HV.out.below hb).get1 (fun _ => rfl) rfl hqn
        have HX := Lib.hid hx
        have HY := Lib.hid hy
        clear hx hy
        have hqn' : (q : Int) < n := by omega
        go_wp2
        go_quiet (fail)
        go_wp2
        all_goals first
          | (go_ret
             refine ⟨ret_bool ?_, (by repeat (first | assumption | exact Below.refl _ _ | refine Below.alloc ?_ ?_ _ | refine Below.drew ?_ | refine below_drewN ?_ _ | refine Below.setCell ?_ ?_ _ | omega | (dsimp only; omega) | refine le_alloc ?_ | refine le_set ?_ | refine le_drew ?_ | refine le_drewN ?_))⟩
             have hne : s.used ≠ t.used := take_ne HX.out HY.out (by simpa using ‹(x != y) = true›)
             symm
             rw [decide_eq_false_iff_not]
             rintro rfl
             exact hne rfl)
          | (have hxy : x = y := by simpa using ‹(x != y) = false›
             go_roundg (gk - 1)
             case measure => omega
             case rel => exact ⟨q + 1, by omega, by go_num, (by repeat (first | assumption | exact Below.refl _ _ | refine Below.alloc ?_ ?_ _ | refine Below.drew ?_ | refine below_drewN ?_ _ | refine Below.setCell ?_ ?_ _ | omega | (dsimp only; omega) | refine le_alloc ?_ | refine le_set ?_ | refine le_drew ?_ | refine le_drewN ?_)), (by repeat (first | assumption | refine Blk.drew ?_ | refine Blk.drewN ?_ _ | (refine Blk.new' ?_; simp; done) | refine Blk.alloc ?_ _ | refine blk_far ?_ ?_ | omega | (dsimp only; omega) | (simp; done) | (simp; omega))), (by repeat (first | assumption | refine Blk.drew ?_ | refine Blk.drewN ?_ _ | (refine Blk.new' ?_; simp; done) | refine Blk.alloc ?_ _ | refine blk_far ?_ ?_ | omega | (dsimp only; omega) | (simp; done) | (simp; omega))), by unfold Hid; rw [take_get HX.out, take_get HY.out, HE.out, hxy]⟩)
      · have hqn : q = n := by omega
        have HE := Lib.hid (show s.used = t.used by have h := HE.out; rwa [List.take_of_length_le (by have := Hn.out; omega), List.take_of_length_le (by have := Hn'.out; omega)] at h)
        clear hqn
        go_wp2
        clear c0 c1 l0 l1
        go_loopg [51] m (fun k i wx => ∃ (q : Nat), q + k = m ∧ i = .int .i64 q ∧ Below w.heap.size w wx ∧ Blk wx w.heap.size 26 #[.int .i64 t.cap, .slice U n c, .slice A m d] ∧ Blk wx (w.heap.size + 1) 26 #[.int .i64 t.cap, .slice V n c', .slice B m d'] ∧ Hid (s.advices.take q = t.advices.take q))
        case atStart => exact ⟨0, by omega, rfl, hb, h0, h1, by simp [Hid]⟩
        case round =>
          clear hb h0 h1 hsz
          obtain ⟨p, hp, rfl, hb, h0, h1, HF⟩ := hrel
          have hsz := hb.size
          have c0 := h0.cell
          have c1 := h1.cell
          have l0 := h0.lt
          have l1 := h1.lt
          by_cases hpm : p < m
          · obtain ⟨b, off, x, hx, rfl, hbr, e0, e1, e2, e3⟩ := (HA.out.below hb).get4 (fun _ => rfl) rfl hpm
            obtain ⟨b', off', y, hy, rfl, hbr', e0', e1', e2', e3'⟩ := (HB.out.below hb).get4 (fun _ => rfl) rfl hpm
            have HX := Lib.hid hx
            have HY := Lib.hid hy
            clear hx hy
            have hpm' : (p : Int) < m := by omega
            have hea := eql_adv x.card x.shop x.sum x.time y.card y.shop y.sum y.time
            have hga := guard_adv
            by_cases hxy : x.card = y.card ∧ x.shop = y.shop ∧ x.sum = y.sum ∧ x.time = y.time
            · have HXY := Lib.hid (show x = y by obtain ⟨_, _, _, _⟩ := x; obtain ⟨_, _, _, _⟩ := y; simp at hxy; simp [hxy])
              rw [decide_eq_true hxy] at hea
              clear hxy
              go_wp2
              go_quiet (fail)
              go_wp2
              go_roundg (gk - 1)
              case measure => omega
              case rel => exact ⟨p + 1, by omega, by go_num, (by repeat (first | assumption | exact Below.refl _ _ | refine Below.alloc ?_ ?_ _ | refine Below.drew ?_ | refine below_drewN ?_ _ | refine Below.setCell ?_ ?_ _ | omega | (dsimp only; omega) | refine le_alloc ?_ | refine le_set ?_ | refine le_drew ?_ | refine le_drewN ?_)), (by repeat (first | assumption | refine Blk.drew ?_ | refine Blk.drewN ?_ _ | (refine Blk.new' ?_; simp; done) | refine Blk.alloc ?_ _ | refine blk_far ?_ ?_ | omega | (dsimp only; omega) | (simp; done) | (simp; omega))), (by repeat (first | assumption | refine Blk.drew ?_ | refine Blk.drewN ?_ _ | (refine Blk.new' ?_; simp; done) | refine Blk.alloc ?_ _ | refine blk_far ?_ ?_ | omega | (dsimp only; omega) | (simp; done) | (simp; omega))), by unfold Hid; rw [take_get HX.out, take_get HY.out, HF.out, HXY.out]⟩
            · have HXY := Lib.hid (show x ≠ y by rintro rfl; exact hxy ⟨rfl, rfl, rfl, rfl⟩)
              rw [decide_eq_false hxy] at hea
              clear hxy
              go_wp2
              go_quiet (fail)
              go_wp2
              go_ret
              refine ⟨ret_bool ?_, (by repeat (first | assumption | exact Below.refl _ _ | refine Below.alloc ?_ ?_ _ | refine Below.drew ?_ | refine below_drewN ?_ _ | refine Below.setCell ?_ ?_ _ | omega | (dsimp only; omega) | refine le_alloc ?_ | refine le_set ?_ | refine le_drew ?_ | refine le_drewN ?_))⟩
              symm
              rw [decide_eq_false_iff_not]
              rintro rfl
              exact take_ne HX.out HY.out HXY.out rfl
          · have HF := Lib.hid (show s.advices = t.advices by have h := HF.out; rwa [List.take_of_length_le (by have := Hm.out; omega), List.take_of_length_le (by have := Hm'.out; omega)] at h)
            go_wp2
            go_ret
            exact ⟨ret_bool (eq_stand H1.out HE.out HF.out).symm, hb⟩
  · have HR := Lib.hid (show decide (s = t) = false by rw [decide_eq_false_iff_not]; rintro rfl; exact h1 ⟨rfl, by omega, by omega⟩)
    clear HU HA HV HB hn hm hn' hm'
    by_cases h2 : s.cap = t.cap
    · have h2' := le_of_eq_int h2
      have h3 : (n < n' ∨ n' < n) ∨ n = n' ∧ (m < m' ∨ m' < m) := by omega
      clear h1 h2
      obtain ⟨p1, p2⟩ := h2'
      go_enter Try.func31, Try.ntmps31
      rcases h3 with (h3 | h3) | ⟨rfl, h3 | h3⟩
      all_goals
        go_wp2
        all_goals (go_ret; exact ⟨ret_bool HR.out.symm, (by repeat (first | assumption | exact Below.refl _ _ | refine Below.alloc ?_ ?_ _ | refine Below.drew ?_ | refine below_drewN ?_ _ | refine Below.setCell ?_ ?_ _ | omega | (dsimp only; omega) | refine le_alloc ?_ | refine le_set ?_ | refine le_drew ?_ | refine le_drewN ?_))⟩)
    · have h2' : s.cap < t.cap ∨ t.cap < s.cap := by omega
      clear h1 h2
      go_enter Try.func31, Try.ntmps31
      rcases h2' with h2 | h2
      all_goals
        go_wp2
        all_goals (go_ret; exact ⟨ret_bool HR.out.symm, (by repeat (first | assumption | exact Below.refl _ _ | refine Below.alloc ?_ ?_ _ | refine Below.drew ?_ | refine below_drewN ?_ _ | refine Below.setCell ?_ ?_ _ | omega | (dsimp only; omega) | refine le_alloc ?_ | refine le_set ?_ | refine le_drew ?_ | refine le_drewN ?_))⟩)

end Go.Proofs.Ytgmcdlfmifijlaa
