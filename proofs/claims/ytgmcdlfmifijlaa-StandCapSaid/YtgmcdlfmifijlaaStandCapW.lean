/- paylaw6.StandCap returns true; conditions: the row of advices lies in memory. -/
import Derived.Test.YtgmcdlfmifijlaaStandAlive
import Derived.Test.YtgmcdlfmifijlaaStandSame
namespace Go.Proofs.Ytgmcdlfmifijlaa
open Go.RowKit Pay

structure CapInv (w wr : World) (s : Stand) (U A G : Option Addr) (n c m d gc : Nat) (limit : Int) : Prop where
  U_ : Own wr w.heap.size 3 eI (.slice U n c) s.used
  A_ : Own wr w.heap.size 32 eAdv (.slice A m d) s.advices
  G_ : Own wr w.heap.size 32 eAdv (.slice G m gc) s.advices
  ne_ : ∀ g ∈ bl (.slice A m d), g ∉ bl (.slice G m gc)
  right_ : wrongStand s = 0
  cap_ : s.cap = limit
  used_ : s.used.length = n
  len_ : s.advices.length = m
theorem CapInv.keep {w wr w' : World} {s : Stand} {U A G : Option Addr} {n c m d gc : Nat} {limit : Int} (h : CapInv w wr s U A G n c m d gc limit) (hb : Below wr.heap.size wr w') : CapInv w w' s U A G n c m d gc limit :=
  ⟨h.U_.keep hb, h.A_.keep hb, h.G_.keep hb, h.ne_, h.right_, h.cap_, h.used_, h.len_⟩

theorem cap_round {w w3 w4 : World} {g7 n c m d gc c' d' gc4 B : Nat} {limit : Int} {U A G U' A' G4 : Option Addr} {s r : Stand} {x : Advice} {o1 o2 : Obj}
    (hb : Below w.heap.size w w3) (hB : w.heap.size ≤ B) (h7 : Blk w3 g7 26 #[.int .i64 limit, .slice U n c, .slice A m d]) (hg7 : w.heap.size ≤ g7)
    (hG : Own w3 w.heap.size 32 eAdv (.slice G m gc) s.advices) (hU : Own w3 B 3 eI (.slice U' n c') r.used) (hA : Own w3 B 32 eAdv (.slice A' (m + 1) d') r.advices)
    (hGl : ∀ k, (Value.slice G m gc).ownBlock = some k → w.heap.size ≤ k ∧ k < B)
    (hK : r.cap = limit ∧ r.used.length = n ∧ r.advices = s.advices ++ [x] ∧ r.advices.length = m + 1 ∧ wrongStand r = 0)
    (hO : Own w4 w.heap.size 32 eAdv (.slice G4 (m + 1) gc4) (s.advices ++ [x]))
    (hg4 : World.grownBy (((((w3.setCell ⟨g7, 0, none⟩ (.int .i64 limit)).setCell ⟨g7, 1, none⟩ (.slice U' n c')).setCell ⟨g7, 2, none⟩ (.slice A' (m + 1) d')).alloc o1).alloc o2) w4 (Value.slice G m gc).ownBlock)
    (ho4 : (Value.slice G4 (m + 1) gc4).ownBlock = (Value.slice G m gc).ownBlock ∨ (Value.slice G4 (m + 1) gc4).ownBlock = some (((((w3.setCell ⟨g7, 0, none⟩ (.int .i64 limit)).setCell ⟨g7, 1, none⟩ (.slice U' n c')).setCell ⟨g7, 2, none⟩ (.slice A' (m + 1) d')).alloc o1).alloc o2).heap.size) :
    Below w.heap.size w w4 ∧ Blk w4 g7 26 #[.int .i64 limit, .slice U' n c', .slice A' (m + 1) d'] ∧ CapInv w w4 r U' A' G4 n c' (m + 1) d' gc4 limit := by
  have hsz := hb.size
  have sz : (((((w3.setCell ⟨g7, 0, none⟩ (.int .i64 limit)).setCell ⟨g7, 1, none⟩ (.slice U' n c')).setCell ⟨g7, 2, none⟩ (.slice A' (m + 1) d')).alloc o1).alloc o2).heap.size = w3.heap.size + 2 := by simp only [World.size_alloc, World.size_setCell]
  have GW := ((own_set3 hG h7 (by decide) (.int .i64 limit) (.slice U' n c') (.slice A' (m + 1) d')).alloc o1).alloc o2
  have UW := ((own_set3 hU h7 (by decide) (.int .i64 limit) (.slice U' n c') (.slice A' (m + 1) d')).alloc o1).alloc o2
  have AW := ((own_set3 hA h7 (by decide) (.int .i64 limit) (.slice U' n c') (.slice A' (m + 1) d')).alloc o1).alloc o2
  have KW := ((((h7.set_ 0 (.int .i64 limit)).set_ 1 (.slice U' n c')).set_ 2 (.slice A' (m + 1) d')).alloc o1).alloc o2
  have KW : Blk _ g7 26 #[.int .i64 limit, .slice U' n c', .slice A' (m + 1) d'] := KW
  have hbW : Below w.heap.size w (((((w3.setCell ⟨g7, 0, none⟩ (.int .i64 limit)).setCell ⟨g7, 1, none⟩ (.slice U' n c')).setCell ⟨g7, 2, none⟩ (.slice A' (m + 1) d')).alloc o1).alloc o2) :=
    ((((hb.setCell (p := ⟨g7, 0, none⟩) hg7 _).setCell (p := ⟨g7, 1, none⟩) hg7 _).setCell (p := ⟨g7, 2, none⟩) hg7 _).alloc (by simp only [World.size_setCell]; exact hsz) o1).alloc (by simp only [World.size_alloc, World.size_setCell]; omega) o2
  have far : (Value.slice A' (m + 1) d').ownBlock = none ∨ (Value.slice A' (m + 1) d').ownBlock ≠ (Value.slice G m gc).ownBlock := by
    rcases hx : (Value.slice A' (m + 1) d').ownBlock with _ | k
    · exact .inl rfl
    · refine .inr fun e => ?_
      have h1 := (hA.lt k hx).1
      have h2 := (hGl k e.symm).2
      omega
  refine ⟨hbW.grown hg4 (by rw [sz]; omega) (fun k hk => (hGl k hk).1), KW.far_own GW (by decide) hg4, ?_⟩
  refine ⟨(UW.far_own GW (by decide) hg4).base_ hB, (AW.far hg4 far).base_ hB |> fun h => h, by rw [hK.2.2.1]; exact hO, ?_, hK.2.2.2.2, hK.1, hK.2.1, hK.2.2.2.1⟩
  intro g hgA hgG
  have hA1 := hA.lt g ((bl_slice _ _ _ g).1 hgA)
  rcases ho4 with h | h
  · have := (hGl g (h.symm.trans ((bl_slice _ _ _ g).1 hgG))).2
    omega
  · have e := h.symm.trans ((bl_slice _ _ _ g).1 hgG)
    injection e with e
    rw [sz] at e
    omega

set_option maxRecDepth 100000 in
set_option maxHeartbeats 2000000 in
theorem walk_StandCap (limit cards : Int) (L : Option Addr) (k x : Nat) (l : List Advice) (w : World) (hL : Row w eAdv L k l) :
    Calls Try.prog 3 #[.int .i64 limit, .int .i64 cards, .slice L k x] w fun e w' => e = .returned (.bool true) ∧ Below w.heap.size w w' := by
  have HL := Lib.hid hL
  have Hk := Lib.hid hL.len
  have hkm := hL.max
  have CN := Lib.hid (fun w => stand_New limit cards w)
  clear hL
  rcases newStand_cases limit cards with ⟨hs, he⟩ | ⟨n, rfl, hn8, hl0, hl1, hs⟩
  · have HS := Lib.hid hs
    have he' : ((newStand limit cards).2 != 0) = true := by rcases he with h | h <;> rw [h] <;> rfl
    clear hs he
    go_enter Try.func3, Try.ntmps3
    go_wp2_with (go_at_call 29; refine (stand_alive _).mono ?_; rintro e w1 ⟨rfl, hb1⟩)
    refine (CN.out _).mono ?_
    rintro e w2 ⟨U, n, c, A, m, d, rfl, hn, hm, hU, hA, hb2⟩
    rw [HS.out] at hn hm hU hA ⊢
    obtain rfl : n = 0 := hn
    obtain rfl : m = 0 := hm
    have HU := Lib.hid hU
    have HA := Lib.hid hA
    clear hU hA
    go_wp2_with (go_at_call 31; refine (ref_SameStand noStand noStand U A 0 c 0 d none none 0 0 0 0 _ (HU.out.alloc _).row (HA.out.alloc _).row (Row.nil_ _ _ _) (Row.nil_ _ _ _)).mono ?_; rintro e w3 ⟨rfl, hb3⟩)
    go_ret
    exact ⟨ret_bool (by simp), below_call1 (below_call hb1 hb2) hb3⟩
  · have CN := Lib.hid (by have h := CN.out; rw [hs] at h; exact h)
    have HR0 := Lib.hid (new_right limit n hn8 hl0 hl1)
    clear hs
    go_enter Try.func3, Try.ntmps3
    go_wp2_with (go_at_call 29; refine (stand_alive _).mono ?_; rintro e w1 ⟨rfl, hb1⟩)
    refine (CN.out _).mono ?_
    rintro e w2 ⟨U, n', c, A, m, d, rfl, hn', hm, hU, hA, hb2⟩
    obtain rfl : n' = n := hn'.trans (List.length_replicate)
    obtain rfl : m = 0 := hm
    clear hn'
    have hbb := below_call hb1 hb2
    have HU := Lib.hid (hU.base_ hb1.size)
    have HA := Lib.hid (hA.base_ hb1.size)
    clear hU hA hb1 hb2
    have hbs := hbb.size
    go_wp2
    go_loopg [9, 33] k (fun k' gv i wr => ∃ (q m : Nat) (s : Stand) (U : Option Addr) (c : Nat) (A : Option Addr) (d : Nat) (G : Option Addr) (gc : Nat), q + k' = k ∧ i = .int .i64 q ∧ gv = .slice G m gc ∧ Below w.heap.size w wr ∧ Blk wr w2.heap.size 26 #[.int .i64 limit, .slice U n' c, .slice A m d] ∧ Hid (CapInv w wr s U A G n' c m d gc limit))
    case atStart => exact ⟨0, 0, { cap := limit, used := List.replicate n' 0, advices := [] }, U, c, A, d, none, 0, by omega, rfl, rfl, (by repeat (first | assumption | exact Below.refl _ _ | refine Below.alloc ?_ ?_ _ | refine Below.drew ?_ | refine below_drewN ?_ _ | refine Below.setCell ?_ ?_ _ | omega | (dsimp only; omega) | refine le_alloc ?_ | refine le_set ?_ | refine le_drew ?_ | refine le_drewN ?_)), Blk.new _ _ _, ⟨HU.out.alloc _, HA.out.alloc _, Own.nil_ _ _ _ _, by simp [bl, bl1], HR0.out, rfl, by simp, rfl⟩⟩
    case round =>
      clear hbb HU HA
      obtain ⟨q, m, s, U, c, A, d, G, gc, hq, rfl, rfl, hb, h7, HI⟩ := hrel
      have hsz := hb.size
      have c7 := h7.cell
      have l7 := h7.lt
      have f7 := h7.frozen
      have hm20 : m ≤ 20 := by have h := HI.out; have := right_parts h.right_; have := h.len_; omega
      by_cases hqk : q < k
      · obtain ⟨b, off, x, hx, rfl, hbr, e0, e1, e2, e3⟩ := (HL.out.below hb).get4 (fun _ => rfl) rfl hqk
        clear hx
        obtain ⟨i0, hi, iz0, iz1, iz2⟩ := info_parts infoAdv
        have CG := Lib.hid (fun W hU hA => stand_Give s x U A n' c m d W hU hA)
        have hcap : s.cap = limit := HI.out.cap_
        rw [hcap] at CG
        have CG := Lib.hid CG.out
        rcases give_errs s x with hg | ⟨hg, hno⟩
        · have hkp := give_keeps HI.out.right_ hg
          obtain ⟨hr, hrc, hru, hra, hml⟩ := hkp
          have hm19 : m < 20 := by have := HI.out.len_; omega
          generalize hR : giveStand s x = R at *
          obtain ⟨r, er⟩ := R
          simp only at hg hr hrc hru hra
          subst hg
          have HK := Lib.hid (show r.cap = limit ∧ r.used.length = n' ∧ r.advices = s.advices ++ [x] ∧ r.advices.length = m + 1 ∧ wrongStand r = 0 from ⟨hrc.trans hcap, hru.trans HI.out.used_, hra, by rw [hra, List.length_append, HI.out.len_]; rfl, hr⟩)
          have CG := Lib.hid (show ∀ W, Row W eI U n' s.used → Row W eAdv A m s.advices → Calls Try.prog 32 #[.agg #[.int .i64 limit, .slice U n' c, .slice A m d], .agg #[.int .i64 x.card, .int .i64 x.shop, .int .i64 x.sum, .int .i64 x.time]] W (fun e w' => StandRes W r 0 e w') from CG.out)
          clear hr hrc hru hra hcap hR hml
          go_wp2_with fail
          refine (CG.out _ (HI.out.U_.alloc _).row (HI.out.A_.alloc _).row).mono ?_
          rintro e w3 ⟨U', n3, c', A', m', d', rfl, hn3, hm3, hU', hA', hb3⟩
          rw [HK.out.1]
          obtain rfl : n3 = n' := hn3.trans HK.out.2.1
          obtain rfl : m' = m + 1 := hm3.trans HK.out.2.2.2.1
          clear hn3 hm3
          have hb' := below_call1 hb hb3
          have h7' := (h7.alloc (.cells #[.int .i64 x.card, .int .i64 x.shop, .int .i64 x.sum, .int .i64 x.time] 32)).keep hb3
          have h11' := (Blk.new wr 32 #[.int .i64 x.card, .int .i64 x.shop, .int .i64 x.sum, .int .i64 x.time]).keep hb3
          have hsz' := hb'.size
          have hG3 := (HI.out.G_.alloc (.cells #[.int .i64 x.card, .int .i64 x.shop, .int .i64 x.sum, .int .i64 x.time] 32)).keep hb3
          have l7r : w2.heap.size < wr.heap.size := l7
          have hGl := HI.out.G_.lt
          have hAl := hA'.lt
          have HU' := Lib.hid hU'
          have HA' := Lib.hid hA'
          have HG3 := Lib.hid hG3
          have HGl := Lib.hid hGl
          have HAl := Lib.hid hAl
          have hsl : s.advices.length = m := HI.out.len_
          have HSL := Lib.hid hsl
          have hWs : ∀ u0 u1 u2 o1 o2, w.heap.size ≤ ((((((w3.setCell ⟨w2.heap.size, 0, none⟩ u0).setCell ⟨w2.heap.size, 1, none⟩ u1).setCell ⟨w2.heap.size, 2, none⟩ u2)).alloc o1).alloc o2).heap.size := fun _ _ _ _ _ => by simp only [World.size_alloc, World.size_setCell]; omega
          have hszr := hb3.size
          rw [World.size_alloc] at hszr
          clear hb hb3 h7 c7 l7 f7 e0 e1 e2 e3 hU' hA' hG3 hGl hAl hsl HI
          have c7 := h7'.cell
          have l7 := h7'.lt
          have f7 := h7'.frozen
          have c11 := h11'.cell
          have l11 := h11'.lt
          go_wp2_with (at_builtin; refine wpList_append_row _ rfl (.tmp 46) (.tmp 48) 22 rfl w.heap.size 32 i0 _ 32 Try.underlying22 hi iz0 iz1 iz2 rfl (E := eAdv) (.slice G m gc) s.advices rfl (((own_set3 HG3.out h7' (by decide) _ _ _).alloc _).alloc _) _ 1 1 [x] rfl (row_one eAdv x 32 (by simp only [World.size_alloc, World.size_setCell])) (by simp only [maxLen]; have := HSL.out; omega) (by have := HSL.out; omega) (hWs _ _ _ _ _) (m + 1) (by have := HSL.out; omega) ?_; intro G4 gc4 w4 hO4 hg4 ho4)
          have hcr := cap_round (x := x) hb' (show w.heap.size ≤ wr.heap.size + 1 by omega) h7' hbs HG3.out (by have h := HU'.out; rwa [World.size_alloc] at h) (by have h := HA'.out; rwa [World.size_alloc] at h) (fun k hk => ⟨(HGl.out k hk).1, by have := (HGl.out k hk).2; omega⟩) HK.out hO4 hg4 ho4
          have HCR := Lib.hid hcr
          clear hcr hO4 hg4 ho4 h7' h11' c7 c11 hb' hWs
          go_wp2
          go_roundg (gk - 1)
          case measure => omega
          case rel => exact ⟨q + 1, m + 1, r, U', c', A', d', G4, gc4, by omega, by go_num, rfl, HCR.out.1, HCR.out.2.1, HCR.out.2.2⟩
        · have hne : ((giveStand s x).2 != 0) = true := by simpa using hg
          have HN := Lib.hid hno
          clear hg hno hcap
          go_wp2_with fail
          refine (CG.out _ (HI.out.U_.alloc _).row (HI.out.A_.alloc _).row).mono ?_
          rintro e w3 ⟨U', n3, c', A', m', d', rfl, hn3, hm3, hU', hA', hb3⟩
          rw [HN.out] at hn3 hm3 ⊢
          obtain rfl : n3 = 0 := hn3
          obtain rfl : m' = 0 := hm3
          clear hU' hA'
          have hb' := below_call1 hb hb3
          have h7' := (h7.alloc (.cells #[.int .i64 x.card, .int .i64 x.shop, .int .i64 x.sum, .int .i64 x.time] 32)).keep hb3
          have hsz' := hb'.size
          have HI' := Lib.hid (HI.out.keep ((Below.refl _ _).alloc (Nat.le_refl _) _ |>.trans (hb3.mono (by rw [World.size_alloc]; omega))))
          clear hb hb3 h7 c7 l7 f7 e0 e1 e2 e3
          go_wp2
          go_roundg (gk - 1)
          case measure => omega
          case rel => exact ⟨q + 1, m, s, U, c, A, d, G, gc, by omega, by go_num, rfl, (by repeat (first | assumption | exact Below.refl _ _ | refine Below.alloc ?_ ?_ _ | refine Below.drew ?_ | refine below_drewN ?_ _ | refine Below.setCell ?_ ?_ _ | omega | (dsimp only; omega) | refine le_alloc ?_ | refine le_set ?_ | refine le_drew ?_ | refine le_drewN ?_)), h7'.alloc _, HI'.out.keep ((Below.refl _ _).alloc (Nat.le_refl _) _)⟩
      · have hqk : q = k := by omega
        obtain ⟨hn8, hm20', hcs, hall, hfit⟩ := right_parts HI.out.right_
        have HF := Lib.hid ((fitUsed_iff _ _ _ _).1 hfit)
        have HALL := Lib.hid hall
        have hsz0 := hsz
        have hlm : s.advices.length = m := HI.out.len_
        have hln : s.used.length = n' := HI.out.used_
        have hcap : s.cap = limit := HI.out.cap_
        have Hlm := Lib.hid hlm
        have Hln := Lib.hid hln
        have Hcap := Lib.hid hcap
        clear hqk hall hfit hcs hm20' hlm hln hcap c7 l7 f7
        go_wp2_with fail
        go_loopg [14, 15, 52] n' (fun k' a b i wx => ∃ p : Nat, p + k' = n' ∧ i = .int .i64 p ∧ Below w.heap.size w wx ∧ Blk wx w2.heap.size 26 #[.int .i64 limit, .slice U n' c, .slice A m d] ∧ Hid (CapInv w wx s U A G n' c m d gc limit))
        case atStart => exact ⟨0, by omega, rfl, hb, h7, HI⟩
        case round =>
          clear hb h7 hsz HI
          obtain ⟨p, hp, rfl, hb, h7, HI⟩ := hrel
          have hsz := hb.size
          have c7 := h7.cell
          have l7 := h7.lt
          by_cases hpn : p < n'
          · go_wp2_with fail
            go_loopg [15, 57] m (fun k' a i wz => ∃ r : Nat, r + k' = m ∧ i = .int .i64 r ∧ a = .int .i64 (given p (s.advices.take r)) ∧ Below w.heap.size w wz ∧ Blk wz w2.heap.size 26 #[.int .i64 limit, .slice U n' c, .slice A m d] ∧ Hid (CapInv w wz s U A G n' c m d gc limit))
            case atStart => exact ⟨0, by omega, rfl, rfl, hb, h7, HI⟩
            case round =>
              clear hb h7 hsz c7 l7 HI
              obtain ⟨r, hr, rfl, rfl, hb, h7, HI⟩ := hrel
              have hsz := hb.size
              have c7 := h7.cell
              have l7 := h7.lt
              have hgl : (s.advices.take r).length ≤ r := List.length_take_le _ _
              have hg0 := given_bound s.used.length p _ (all_take _ _ r HALL.out)
              by_cases hrm : r < m
              · obtain ⟨b, off, x, hx, rfl, hbr, e0, e1, e2, e3⟩ := HI.out.G_.row.get4 (fun _ => rfl) rfl hrm
                have HS := Lib.hid (show given p (s.advices.take (r + 1)) = given p (s.advices.take r) + if x.card = p then x.sum else 0 by rw [take_get hx, given_snoc])
                have hok : okAdv s.used.length x = true := by have h := HALL.out; rw [List.all_eq_true] at h; exact h x (List.mem_of_getElem? hx)
                simp only [okAdv, decide_eq_true_eq] at hok
                have hx2 : 0 ≤ x.sum ∧ x.sum ≤ 1000000 := by omega
                clear hok hx
                by_cases hcard : x.card = (p : Int)
                · have HS := Lib.hid (show given p (s.advices.take (r + 1)) = given p (s.advices.take r) + x.sum by rw [HS.out, if_pos hcard])
                  go_wp2_with fail
                  go_roundg (gk - 1)
                  case measure => omega
                  case rel => exact ⟨r + 1, by omega, by go_num, by rw [HS.out], (by repeat (first | assumption | exact Below.refl _ _ | refine Below.alloc ?_ ?_ _ | refine Below.drew ?_ | refine below_drewN ?_ _ | refine Below.setCell ?_ ?_ _ | omega | (dsimp only; omega) | refine le_alloc ?_ | refine le_set ?_ | refine le_drew ?_ | refine le_drewN ?_)), (by repeat (first | assumption | refine Blk.drew ?_ | refine Blk.drewN ?_ _ | (refine Blk.new' ?_; simp; done) | refine Blk.alloc ?_ _ | refine blk_far ?_ ?_ | omega | (dsimp only; omega) | (simp; done) | (simp; omega))), HI.out.keep ((Below.refl _ _).alloc (Nat.le_refl _) _)⟩
                · have HS := Lib.hid (show given p (s.advices.take (r + 1)) = given p (s.advices.take r) by rw [HS.out, if_neg hcard]; omega)
                  go_wp2_with fail
                  go_roundg (gk - 1)
                  case measure => omega
                  case rel => exact ⟨r + 1, by omega, by go_num, by rw [HS.out], (by repeat (first | assumption | exact Below.refl _ _ | refine Below.alloc ?_ ?_ _ | refine Below.drew ?_ | refine below_drewN ?_ _ | refine Below.setCell ?_ ?_ _ | omega | (dsimp only; omega) | refine le_alloc ?_ | refine le_set ?_ | refine le_drew ?_ | refine le_drewN ?_)), (by repeat (first | assumption | refine Blk.drew ?_ | refine Blk.drewN ?_ _ | (refine Blk.new' ?_; simp; done) | refine Blk.alloc ?_ _ | refine blk_far ?_ ?_ | omega | (dsimp only; omega) | (simp; done) | (simp; omega))), HI.out.keep ((Below.refl _ _).alloc (Nat.le_refl _) _)⟩
              · have hta : s.advices.take r = s.advices := List.take_of_length_le (by have := Hlm.out; omega)
                rw [hta] at hg0 ⊢
                clear hta hgl
                obtain ⟨b, off, x, hx, rfl, hbr, e0⟩ := HI.out.U_.row.get1 (fun _ => rfl) rfl hpn
                have hF := HF.out p x hx
                rw [Hcap.out, Int.zero_add] at hF
                obtain ⟨rfl, hF2⟩ := hF
                have HF2 := hF2
                clear hx
                go_wp2_with fail
                go_roundg (n' - (p + 1))
                case measure => omega
                case rel => exact ⟨p + 1, by omega, by go_num, hb, h7, HI⟩
          · have CS := Lib.hid (fun W h1 h2 => ref_SameStand { cap := 0, used := [], advices := s.advices } { cap := 0, used := [], advices := s.advices } none G 0 0 m gc none A 0 0 m d W (Row.nil_ _ _ _) h1 (Row.nil_ _ _ _) h2)
            rw [eq_stand rfl rfl rfl] at CS
            have CW := Lib.hid (fun W h1 h2 => stand_Wrong s U A n' c m d W h1 h2)
            rw [HI.out.right_, Hcap.out] at CW
            go_wp2_with (first
              | (go_at_call 31; refine (CS.out _ HI.out.G_.row HI.out.A_.row).mono ?_; rintro e w5 ⟨rfl, hb5⟩; have h75 := h7.keep hb5; have c75 := h75.cell; have l75 := h75.lt)
              | (go_at_call 33; refine (CW.out _ (HI.out.U_.keep hb5).row (HI.out.A_.keep hb5).row).mono ?_; rintro e w6 ⟨rfl, hb6⟩)
              | fail)
            go_ret
            exact ⟨ret_bool (by simp), below_call (below_call hb hb5) hb6⟩
end Go.Proofs.Ytgmcdlfmifijlaa
