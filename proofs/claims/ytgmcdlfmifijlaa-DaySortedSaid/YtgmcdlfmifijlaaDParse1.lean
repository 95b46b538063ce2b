/- day.Parse: what its range over slices.Chunk's answer makes; no condition. -/
import Derived.Test.YtgmcdlfmifijlaaDSh24
import Derived.Test.YtgmcdlfmifijlaaDChunk1
import Derived.Test.YtgmcdlfmifijlaaDPlSorts
import Derived.Test.YtgmcdlfmifijlaaDTy
set_option linter.unusedVariables false
set_option linter.unusedSimpArgs false
namespace Go.Proofs.Ytgmcdlfmifijlaa.Dev
open Go.RowKit
def recC : List Int → Record
  | [s, a, k, x, y, z] => ⟨s, a, k, 65536 * x + 256 * y + z⟩
  | _ => ⟨0, 0, 0, 0⟩
def chunkAt (L : List Int) (i : Nat) : List Int := (L.drop (6 * i)).take 6
theorem chunkAt_len {L : List Int} {i : Nat} (h : 6 * (i + 1) ≤ L.length) : (chunkAt L i).length = 6 := by
  unfold chunkAt; rw [List.length_take, List.length_drop]; omega
theorem recsB_chunk {L : List Int} : ∀ (k : Nat), 6 * k ≤ L.length → recsB (L.take (6 * k)) = (List.range k).map fun i => recC (chunkAt L i)
  | 0, _ => rfl
  | k + 1, h => by
    rw [List.range_succ, List.map_append, ← recsB_chunk k (by omega), show 6 * (k + 1) = 6 * k + 6 by omega, List.take_add, recsB_app k _ _ (by rw [List.length_take]; omega)]
    congr 1
    have hl := chunkAt_len (L := L) (i := k) (by omega)
    unfold chunkAt at hl
    show _ = [recC ((L.drop (6 * k)).take 6)]
    generalize (L.drop (6 * k)).take 6 = e at hl
    match e, hl with
    | [s, a, k', x, y, z], _ => rfl
def heapI (m : List Record) (all : Int) : List (Nat × AB) := [(2, .arr 127 4 (m.map rRecord)), (1, .box 3 [cI all]), (0, .box 114 [.s 2 0 4 m.length])]
theorem drel_sub {T : Nat → Prop} {w : World} {L : List Int} {b off c s : Nat} (h : DRel T w (.r 1 (L.map rU8)) (.slice (some ⟨b, off, none⟩) L.length c)) (hs : 6 * (s + 1) ≤ L.length) : DRel T w (.r 1 ((chunkAt L s).map rU8)) (.slice (some ⟨b, off + 6 * s, none⟩) 6 6) := by
  have hl := chunkAt_len hs
  have hlen : ((chunkAt L s).map rU8).length = 6 := by rw [List.length_map, hl]
  have get : ∀ i row, ((chunkAt L s).map rU8)[i]? = some row → (L.map rU8)[6 * s + i]? = some row := fun i row hr => by
    unfold chunkAt at hr
    rw [List.map_take, List.map_drop, List.getElem?_take] at hr
    split at hr
    · rwa [List.getElem?_drop] at hr
    · cases hr
  generalize hR : L.map rU8 = R at h get
  generalize hn : L.length = n at h
  cases h with
  | nil => 
    have := congrArg List.length hR
    rw [List.length_map] at this
    simp at this
    omega
  | r _ _ _ _ _ cs hb hT hc hm hK hcell hd =>
    have := DRel.r (T := T) (w := w) 1 ((chunkAt L s).map rU8) b (off + 6 * s) 6 (fun i j => cs (6 * s + i) j) hb hT (by omega) (by omega) (fun i row hr => hK _ row (get i row hr)) (fun i row j d hr hj => by
      have := hcell _ row j d (get i row hr) hj
      rwa [show off + ((6 * s + i) * 1 + j) = off + 6 * s + (i * 1 + j) by omega] at this) (fun i row j d hr hj => hd _ row j d (get i row hr) hj)
    rwa [hlen] at this
/-- data of a slot, told of the base's own blocks -/
theorem Inv.data {F : Nat → Prop} {N : NT} {T0 : Nat → Prop} {pin : List (Nat × Adr)} {st : AState} {a : Go.Act} {W : World} {i : Nat} {d : D} (hT : ∀ b, T0 b → b < W.heap.size) (hI : Inv W F N T0 pin st a W) (h : look st.s i = some (.v (.c (.d d)))) : DRel T0 W d (a.tmps.getD i undef) := by
  obtain ⟨σ, T, hT', S, _⟩ := hI
  exact DRel.anti (fun b hb => (hT' b (hT b hb)).2 hb) (S.core.slots i _ h)
theorem Inv.nopin {W0 : World} {F : Nat → Prop} {N : NT} {T0 : Nat → Prop} {pin : List (Nat × Adr)} {st : AState} {a : Go.Act} {W : World} (h : Inv W0 F N T0 pin st a W) : Inv W0 F N T0 [] st a W := by
  obtain ⟨σ, T, hT, S, _⟩ := h
  exact ⟨σ, T, hT, S, fun k g h => by cases h⟩
set_option maxHeartbeats 1000000 in
theorem parse_loop {assign body rest : Code} {id : Nat} (b L : List Int) (k : Nat) (v6 : Int) (hk : k ≤ 255) (hLk : L.length = 6 * k) (hb : ∀ x ∈ L, 0 ≤ x ∧ x ≤ 255) {W0 : World} {T0 : Nat → Prop} (hT0 : ∀ b, T0 b → b < W0.heap.size) {av : AV} {nb : List (Nat × AB)} {a : Go.Act} {w : World}
    (hI : Inv W0 (fun _ => False) (75, []) T0 [] ⟨[(0, aC (cR 1 (b.map rU8))), (4, aC (.p 0 0 0 0)), (5, aC (.p 1 0 0 0)), (6, aI v6), (30, aC (.fn 133 [2, 3]))], [(3, .box 3 [cI 6]), (2, .box 115 [cR 1 (L.map rU8)]), (1, .box 3 [cI 0]), (0, .box 114 [cN])], 4⟩ a w)
    (hassign : ∀ (l n : Nat) (a : Go.Act) (w : World) (K : Go.Act → World → Prop), K (a.put (some 7) (a.eval (.tmp 31))) w → assign.wpIn (Fence.wide.inRound l) n Try.prog (Exit.then K (fun _ _ _ => False)) a w)
    (hbody : ∀ (l n : Nat) (W : World) (F T : Nat → Prop) (g0 g1 : Adr) (m : List Record) (all : Int) (c : List Int), c.length = 6 → (∀ x ∈ c, 0 ≤ x ∧ x ≤ 255) → m.length ≤ 254 → (0 ≤ all ∧ all ≤ 16777215 * (m.length : Int)) →
      ACR Try.prog l n W F (75, []) T [(0, g0), (1, g1)] (fun e st => e = .normal ∧ Weak [(0, g0), (1, g1)] st ⟨[], heapI (m ++ [recC c]) (all + (recC c).sum), 3⟩) body ⟨[(7, aC (cR 1 (c.map rU8))), (4, aC (.p 0 0 0 0)), (5, aC (.p 1 0 0 0))], heapI m all, 3⟩)
    (hrest : ∀ (W : World) (F : Nat → Prop) (ds : List Deferred) (T : Nat → Prop), AC Try.prog W F (75, ds) T [] (retQ Try.prog Try.f98 [] av nb) rest ⟨[(0, aC (cR 1 (b.map rU8))), (4, aC (.p 0 0 0 0)), (5, aC (.p 1 0 0 0)), (6, aI v6)], heapI (recsB L) (sumR (recsB L)), 3⟩) :
    (Code.block id (Code.rangeFunc (.tmp 30) #[31] assign body)).wp Try.prog (Exit.then (rest.wp Try.prog (bodyPostM Fence.wide 0 Try.prog Try.f98 (postFn W0 T0 av nb))) (bodyPostM Fence.wide 0 Try.prog Try.f98 (postFn W0 T0 av nb))) a w := by
  obtain ⟨σ, T, hT, S, _⟩ := hI
  obtain ⟨gl, vl, e0, tl, hl0, cl0⟩ := S.core.heap 0 _ rfl
  obtain ⟨ga, va, e1, ta, ha0, ca0⟩ := S.core.heap 1 _ rfl
  obtain ⟨g1, v1, e2, t1, h10, c1⟩ := S.core.heap 2 _ rfl
  obtain ⟨g2, v2, e3, t2, h20, c2⟩ := S.core.heap 3 _ rfl
  have hne : ∀ k k' x y gx gy, look (⟨[(0, aC (cR 1 (b.map rU8))), (4, aC (.p 0 0 0 0)), (5, aC (.p 1 0 0 0)), (6, aI v6), (30, aC (.fn 133 [2, 3]))], [(3, .box 3 [cI 6]), (2, .box 115 [cR 1 (L.map rU8)]), (1, .box 3 [cI 0]), (0, .box 114 [cN])], 4⟩ : AState).h k = some x → look (⟨[(0, aC (cR 1 (b.map rU8))), (4, aC (.p 0 0 0 0)), (5, aC (.p 1 0 0 0)), (6, aI v6), (30, aC (.fn 133 [2, 3]))], [(3, .box 3 [cI 6]), (2, .box 115 [cR 1 (L.map rU8)]), (1, .box 3 [cI 0]), (0, .box 114 [cN])], 4⟩ : AState).h k' = some y → σ k = some gx → σ k' = some gy → k ≠ k' → gx.g ≠ gy.g :=
    fun k k' x y gx gy h1 h2 h3 h4 hne e => hne (S.core.inj k k' x y gx gy h1 h2 h3 h4 e)
  have n01 := hne 0 1 _ _ _ _ rfl rfl e0 e1 (by decide)
  have n02 := hne 0 2 _ _ _ _ rfl rfl e0 e2 (by decide)
  have n03 := hne 0 3 _ _ _ _ rfl rfl e0 e3 (by decide)
  have n12 := hne 1 2 _ _ _ _ rfl rfl e1 e2 (by decide)
  have n13 := hne 1 3 _ _ _ _ rfl rfl e1 e3 (by decide)
  -- the boxes' cells
  obtain ⟨x1, rfl, hx1⟩ : ∃ x, v1 = [x] ∧ DRel T w (.r 1 (L.map rU8)) x := by
    match v1, c1 with
    | [x], c => exact ⟨x, rfl, c.1⟩
  obtain ⟨x2, rfl, hx2⟩ : ∃ x, v2 = [x] ∧ x = .int .i64 6 := by
    match v2, c2 with
    | [x], c => exact ⟨x, rfl, DRel.inv c.1⟩
  subst hx2
  obtain ⟨xl, rfl, hxl⟩ : ∃ x, vl = [x] ∧ x = .slice none 0 0 := by
    match vl, cl0 with
    | [x], c => exact ⟨x, rfl, DRel.inv c.1⟩
  subst hxl
  have cell1 : w.cell? ⟨g1.g, 0, none⟩ = some x1 := by rw [cell_of_row w g1.g 0 _ _ (0, 0) h10]; rfl
  have cell2 : w.cell? ⟨g2.g, 0, none⟩ = some (.int .i64 6) := by rw [cell_of_row w g2.g 0 _ _ (0, 0) h20]; rfl
  have lt1 : g1.g < w.heap.size := S.core.Tlt _ t1
  have lt2 : g2.g < w.heap.size := S.core.Tlt _ t2
  have ltl : gl.g < w.heap.size := S.core.Tlt _ tl
  have lta : ga.g < w.heap.size := S.core.Tlt _ ta
  -- what was chunked
  obtain ⟨A, blk, off, cap, hA, hcap, hx1v⟩ : ∃ (A : Option Addr) (blk off cap : Nat), (0 < k → A = some ⟨blk, off, none⟩) ∧ 6 * k ≤ cap ∧ x1 = .slice A (6 * k) cap := by
    generalize hR : L.map rU8 = R at hx1
    have hRl : R.length = 6 * k := by rw [← hR, List.length_map, hLk]
    cases hx1 with
    | nil _ A c =>
      have : k = 0 := by simp at hRl; omega
      subst this
      exact ⟨A, 0, 0, c, fun h => by omega, by omega, rfl⟩
    | r _ _ bb oo cc cs _ _ hc _ _ _ _ => exact ⟨_, bb, oo, cc, fun _ => rfl, by omega, by rw [hRl]⟩
  subst hx1v
  -- the slots
  have s0 : DRel T w (.r 1 (b.map rU8)) (a.tmps.getD 0 undef) := S.core.slots 0 _ rfl
  have s4 : a.tmps.getD 4 undef = .pointer (some ⟨gl.g, 0, none⟩) := by obtain ⟨g, h1, h2⟩ := S.core.slots 4 _ rfl; rw [e0] at h1; injection h1 with h1; subst h1; exact h2
  have s5 : a.tmps.getD 5 undef = .pointer (some ⟨ga.g, 0, none⟩) := by obtain ⟨g, h1, h2⟩ := S.core.slots 5 _ rfl; rw [e1] at h1; injection h1 with h1; subst h1; exact h2
  have s6 : DRel T w (.v (.int .i64 v6)) (a.tmps.getD 6 undef) := S.core.slots 6 _ rfl
  have s30 : a.tmps.getD 30 undef = .func (.func 133) #[] #[.pointer (some ⟨g1.g, 0, none⟩), .pointer (some ⟨g2.g, 0, none⟩)] := by
    obtain ⟨gs, h1, h2⟩ := S.core.slots 30 _ rfl
    have h1 : [σ 2, σ 3] = gs.map some := h1
    rw [e2, e3] at h1
    match gs, h1 with
    | [x, y], h1 => simp at h1; obtain ⟨rfl, rfl⟩ := h1; exact h2
  have sz : a.tmps.size = 75 := S.tsz
  have dfr : a.defers = [] := S.dfr
  -- the loop's own state
  obtain ⟨F', hF'⟩ : ∃ F' : Nat → Prop, F' = fun b => b = gl.g ∨ b = ga.g := ⟨_, rfl⟩
  have hFT : ∀ b, F' b → T b := fun x hx => by rw [hF'] at hx; rcases hx with rfl | rfl; exact tl; exact ta
  let pins : List (Nat × Adr) := [(0, gl), (1, ga)]
  have fix4 : FixOne T w pins a (4, aC (.p 0 0 0 0)) := .inr ⟨0, gl, rfl, rfl, s4⟩
  have fix5 : FixOne T w pins a (5, aC (.p 1 0 0 0)) := .inr ⟨1, ga, rfl, rfl, s5⟩
  have fix0 : FixOne T w pins a (0, aC (cR 1 (b.map rU8))) := .inl ⟨_, rfl, s0⟩
  have fix6 : FixOne T w pins a (6, aI v6) := .inl ⟨_, rfl, s6⟩
  have start : Inv w F' (75, []) T pins ⟨[], heapI [] 0, 3⟩ a w := by
    refine ⟨fun k => if k = 0 then some gl else if k = 1 then some ga else none, T, fun _ _ => ⟨fun h => h, fun h => h⟩, ⟨⟨(fun i v h => by cases h), (fun k x h => ?_), (fun k k' x y gx gy h1 h2 h3 h4 e => ?_), S.core.Tlt⟩, rfl, rfl, rfl, Nat.le_refl _, fun _ _ _ => rfl, fun k x g hk hg => ?_, fun k hk => ?_, fun k x hk => ?_, sz, dfr⟩, fun k g hk => ?_⟩
    · unfold heapI at h
      rw [look_cons] at h
      split at h
      · rename_i e; subst e; injection h with h; subst h; exact ⟨by decide, .inl ⟨rfl, rfl⟩⟩
      · rw [look_cons] at h
        split at h
        · rename_i e; subst e; injection h with h; subst h; exact ⟨ga, va, rfl, ta, ha0, by
            match va, ca0 with
            | [x], c => exact ⟨c.1, trivial⟩⟩
        · rw [look_cons] at h
          split at h
          · rename_i e; subst e; injection h with h; subst h; exact ⟨gl, _, rfl, tl, hl0, .inl ⟨rfl, rfl⟩, trivial⟩
          · cases h
    · have h3 : (if k = 0 then some gl else if k = 1 then some ga else none) = some gx := h3
      have h4 : (if k' = 0 then some gl else if k' = 1 then some ga else none) = some gy := h4
      by_cases k0 : k = 0
      · subst k0
        by_cases k0' : k' = 0
        · exact k0'.symm
        · by_cases k1' : k' = 1
          · subst k1'; simp at h3 h4; subst h3 h4; exact absurd e n01
          · simp [k0', k1'] at h4
      · by_cases k1 : k = 1
        · subst k1
          by_cases k0' : k' = 0
          · subst k0'; simp at h3 h4; subst h3 h4; exact absurd e.symm n01
          · by_cases k1' : k' = 1
            · exact k1'.symm
            · simp [k0', k1'] at h4
        · simp [k0, k1] at h3
    · right
      have hg : (if k = 0 then some gl else if k = 1 then some ga else none) = some g := hg
      rw [hF']
      by_cases k0 : k = 0
      · simp [k0] at hg; exact .inl (by rw [hg])
      · by_cases k1 : k = 1
        · simp [k1] at hg; exact .inr (by rw [hg])
        · simp [k0, k1] at hg
    · have : 3 ≤ k := hk
      show (if k = 0 then some gl else if k = 1 then some ga else none) = none
      rw [if_neg (by omega), if_neg (by omega)]
    · show k < 3
      unfold heapI at hk
      simp only [look_cons] at hk
      split at hk
      · omega
      · split at hk
        · omega
        · split at hk
          · omega
          · cases hk
    · simp only [pins, look_cons] at hk
      split at hk
      · rename_i e; subst e; simpa using hk
      · split at hk
        · rename_i e; subst e; simpa using hk
        · cases hk
  have back : ∀ {N' : NT} {pin' : List (Nat × Adr)} {st' : AState} {a' : Go.Act} {W' : World}, Inv w F' N' T pin' st' a' W' → Inv W0 (fun _ => False) N' T0 pin' st' a' W' := by
    rintro N' pin' st' a' W' ⟨σ', T', hT', S', hp'⟩
    have hFw : ∀ b, F' b → W0.heap.size ≤ b := fun x hx => by
      rw [hF'] at hx
      rcases hx with rfl | rfl
      · exact (S.own 0 _ gl rfl e0).resolve_right fun h => h
      · exact (S.own 1 _ ga rfl e1).resolve_right fun h => h
    refine ⟨σ', T', fun x hx => ?_, ⟨S'.core, S'.os.trans S.os, S'.tape.trans S.tape, S'.output.trans S.output, Nat.le_trans S.size S'.size, fun x hx hF => ?_, fun k x g hk hg => ?_, S'.next, S'.hn, S'.tsz, S'.dfr⟩, hp'⟩
    · have h1 := hT' x (Nat.lt_of_lt_of_le hx S.size)
      have h2 := hT x hx
      exact ⟨fun h => h2.1 (h1.1 h), fun h => h1.2 (h2.2 h)⟩
    · rw [S'.old x (Nat.lt_of_lt_of_le hx S.size) fun h => by have := hFw x h; omega, S.old x hx hF]
    · rcases S'.own k x g hk hg with h | h
      · exact .inl (Nat.le_trans S.size h)
      · exact .inl (hFw _ h)
  have hTlt := S.core.Tlt
  have hsz0 := S.size
  -- the invariant
  let rc : Fin k → Record := fun i => recC (chunkAt L i.val)
  let I : List (Fin k) → World → Prop := fun pre W => Inv w F' (75, []) T pins ⟨[], heapI (pre.map rc) (sumR (pre.map rc)), 3⟩ a W
  have hchunk : ∀ i : Fin k, (chunkAt L i.val).length = 6 ∧ ∀ x ∈ chunkAt L i.val, 0 ≤ x ∧ x ≤ 255 := fun i => ⟨chunkAt_len (by have := i.isLt; omega), fun x hx => hb x (List.mem_of_mem_drop (List.mem_of_mem_take hx))⟩
  have hsumc : ∀ i : Fin k, 0 ≤ (rc i).sum ∧ (rc i).sum ≤ 16777215 := fun i => by
    obtain ⟨h1, h2⟩ := hchunk i
    show 0 ≤ (recC (chunkAt L i.val)).sum ∧ (recC (chunkAt L i.val)).sum ≤ 16777215
    generalize chunkAt L i.val = e at h1 h2
    match e, h1 with
    | [s, a, k', x, y, z], _ =>
      have hx := h2 x (by simp); have hy := h2 y (by simp); have hz := h2 z (by simp)
      show 0 ≤ 65536 * x + 256 * y + z ∧ 65536 * x + 256 * y + z ≤ 16777215
      omega
  have hsum : ∀ pre : List (Fin k), 0 ≤ sumR (pre.map rc) ∧ sumR (pre.map rc) ≤ 16777215 * ((pre.map rc).length : Int) := fun pre => by
    induction pre with
    | nil => simp [sumR]
    | cons i pre ih => have := hsumc i; simp only [List.map_cons, sumR, List.length_cons]; omega
  have hnm : ∀ m all, noMaps ⟨[], heapI m all, 3⟩ = true := fun m all => rfl
  have hIown : OwnFrom w.heap.size I := fun pre A B row hs hg hr => Inv.own (hnm _ _) hs hg hr
  have eg : ∀ args w, (callFunc 133 args).run Try.prog w = .ok (.enter 133 args) w := en133
  refine wpIn_wide.1 (wpIn_block (n := 3) ?_)
  refine wpIn_rangeFunc_ownF (α := Fin k) rfl (by decide) (gf := 133) (lb := #[.pointer (some ⟨g1.g, 0, none⟩), .pointer (some ⟨g2.g, 0, none⟩)]) s30 trivial eg
    (chunk_stops 2 g1.g g2.g blk off k cap A hA hk hcap w lt1 lt2 cell1 cell2) ?_ ?_ (Below.refl _ w) (fun _ => rfl) I (fun _ _ _ => False) hIown (fun _ _ _ _ _ hs _ _ => hs) start
    (fun x => ({ tmps := a.tmps.setIfInBounds 31 (.slice (some ⟨blk, off + 6 * x.val, none⟩) 6 6), defers := [] } : Go.Act).put (some 7) (.slice (some ⟨blk, off + 6 * x.val, none⟩) 6 6)) ?assign ?body ?done ?stop
  · exact fun h1 h2 => ⟨fun v h => h2.1 v (h1.1 v h), fun v h => h2.2 v (h1.2 v h)⟩
  · intro W l o o' hl ho hc _
    have keep : ∀ g : Nat, g < w.heap.size → ∀ v, W.cell? ⟨g, 0, none⟩ = some v → (W.putObj l o').cell? ⟨g, 0, none⟩ = some v := fun g hg v h => by
      rw [cell_of_heap (w := W) (World.putObj_heap_other (by omega)) 0]; exact h
    exact ⟨keep _ lt1, keep _ lt2⟩
  case assign =>
    intro l x W K hK
    refine hassign l _ _ _ _ ?_
    have e : ({ tmps := (#[31].zip #[Value.slice (some ⟨blk, off + 6 * x.val, none⟩) 6 6]).foldl (fun t (p, v) => t.setIfInBounds p v) a.tmps, defers := [] } : Go.Act) = { tmps := a.tmps.setIfInBounds 31 (.slice (some ⟨blk, off + 6 * x.val, none⟩) 6 6), defers := [] } := by simp
    rw [e]
    have ev_ : Go.Act.eval { tmps := a.tmps.setIfInBounds 31 (.slice (some ⟨blk, off + 6 * x.val, none⟩) 6 6), defers := [] } (.tmp 31) = .slice (some ⟨blk, off + 6 * x.val, none⟩) 6 6 := by
      show (a.tmps.setIfInBounds 31 _).getD 31 undef = _
      rw [Array.getD_eq_getD_getElem?, Array.getElem?_setIfInBounds_self_of_lt (by omega)]; rfl
    rw [ev_]; exact hK
  case body =>
    intro l pre x W hIp hlen
    obtain ⟨hc1, hc2⟩ := hchunk x
    have hpos : 0 < k := Nat.lt_of_le_of_lt (Nat.zero_le _) x.isLt
    have hAv := hA hpos
    subst hAv
    have hdx : DRel T w (.r 1 ((chunkAt L x.val).map rU8)) (.slice (some ⟨blk, off + 6 * x.val, none⟩) 6 6) := drel_sub (c := cap) (by rw [hLk]; exact hx1) (by have := x.isLt; omega)
    let a1 : Go.Act := ({ tmps := a.tmps.setIfInBounds 31 (.slice (some ⟨blk, off + 6 * x.val, none⟩) 6 6), defers := [] } : Go.Act).put (some 7) (.slice (some ⟨blk, off + 6 * x.val, none⟩) 6 6)
    have t7 : a1.tmps.getD 7 undef = .slice (some ⟨blk, off + 6 * x.val, none⟩) 6 6 := by
      show ((a.tmps.setIfInBounds 31 _).setIfInBounds 7 _).getD 7 undef = _
      rw [Array.getD_eq_getD_getElem?, Array.getElem?_setIfInBounds_self_of_lt (by rw [Array.size_setIfInBounds]; omega)]; rfl
    have tj : ∀ j, j ≠ 7 → j ≠ 31 → a1.tmps.getD j undef = a.tmps.getD j undef := fun j h7 h31 => by
      show ((a.tmps.setIfInBounds 31 _).setIfInBounds 7 _).getD j undef = _
      rw [Array.getD_eq_getD_getElem?, Array.getElem?_setIfInBounds_ne (by omega), Array.getElem?_setIfInBounds_ne (by omega), Array.getD_eq_getD_getElem?]
    have hI1 : Inv w F' (75, []) T pins ⟨[(7, aC (cR 1 ((chunkAt L x.val).map rU8))), (4, aC (.p 0 0 0 0)), (5, aC (.p 1 0 0 0))], heapI (pre.map rc) (sumR (pre.map rc)), 3⟩ a1 W := by
      refine Inv.fix hFT ⟨.inl ⟨_, rfl, by rw [t7]; exact hdx⟩, .inr ⟨0, gl, rfl, rfl, by rw [tj 4 (by decide) (by decide)]; exact s4⟩, .inr ⟨1, ga, rfl, rfl, by rw [tj 5 (by decide) (by decide)]; exact s5⟩, trivial⟩ hIp ?_ rfl
      show ((a.tmps.setIfInBounds 31 _).setIfInBounds 7 _).size = 75
      rw [Array.size_setIfInBounds, Array.size_setIfInBounds]; exact sz
    obtain ⟨F2, T2, hI2, f1, f2, f3, bk⟩ := Inv.rebase rfl hI1
    have hml : (pre.map rc).length ≤ 254 := by rw [List.length_map]; omega
    have hB := hbody l (3 - 1 - 1) W F2 T2 gl ga (pre.map rc) (sumR (pre.map rc)) (chunkAt L x.val) hc1 hc2 hml (hsum pre) (fun _ h => by cases h.1) a1 W hI2
    refine Code.wpIn_mono (fun e a' W' q => ?_) hB
    obtain ⟨st', ⟨rfl, hw⟩, hI3⟩ := q
    have hI4 := hw _ _ _ _ _ _ hI3
    have hI4' := hI4
    obtain ⟨σ4, T4, hT4, S4, hp4⟩ := hI4'
    have hnotF : ∀ g : Nat, g < w.heap.size → g ≠ gl.g → g ≠ ga.g → ¬ F2 g := fun g hg h1 h2 hf => by
      rcases f2 g hf with h | h
      · omega
      · rw [hF'] at h; rcases h with h | h; exact h1 h; exact h2 h
    have hWsz : w.heap.size ≤ W.heap.size := by obtain ⟨_, _, _, S5, _⟩ := hIp; exact S5.size
    have kc : ∀ g : Nat, g < w.heap.size → g ≠ gl.g → g ≠ ga.g → ∀ v, W.cell? ⟨g, 0, none⟩ = some v → W'.cell? ⟨g, 0, none⟩ = some v := fun g hg h1 h2 v h => by
      rw [cell_of_heap (S4.old g (by omega) (hnotF g hg h1 h2)) 0]; exact h
    refine ⟨⟨S4.size, fun g o ho hc => ?_⟩, ⟨kc _ lt1 (Ne.symm n02) (Ne.symm n12), kc _ lt2 (Ne.symm n03) (Ne.symm n13)⟩, ?_⟩
    · have hlt := (Array.getElem?_eq_some_iff.1 ho).1
      refine (S4.old g hlt fun hf => ?_).trans ho
      obtain ⟨_, o', ho', hc'⟩ := f1 g hf
      rw [ho] at ho'; injection ho' with ho'; subst ho'; rw [hc] at hc'; cases hc'
    · have h5 := bk hI4
      have h6 : Inv w F' (75, []) T pins ⟨[], heapI ((pre ++ [x]).map rc) (sumR ((pre ++ [x]).map rc)), 3⟩ a W' := by
        have e1 : (pre ++ [x]).map rc = pre.map rc ++ [recC (chunkAt L x.val)] := by simp [rc]
        have e2 : sumR ((pre ++ [x]).map rc) = sumR (pre.map rc) + (recC (chunkAt L x.val)).sum := by rw [e1, sumR_app]; simp [sumR]
        rw [e2, e1]
        exact Inv.fix hFT trivial h5 sz dfr
      exact h6
  case done =>
    intro D xs W hD hS hIx hobj
    have hm : xs.map rc = recsB L := by
      have h1 : xs.map rc = (xs.map Fin.val).map fun i => recC (chunkAt L i) := by rw [List.map_map]; rfl
      rw [h1, hS, ← recsB_chunk k (by omega), List.take_of_length_le (by omega)]
    have hIx : Inv w F' (75, []) T pins ⟨[], heapI (xs.map rc) (sumR (xs.map rc)), 3⟩ a W := hIx
    rw [hm] at hIx
    let ar : Go.Act := { a with defers := { target := .collected D, args := #[] } :: a.defers }
    have hI1 : Inv w F' (75, [{ target := .collected D, args := #[] }]) T pins ⟨[(0, aC (cR 1 (b.map rU8))), (4, aC (.p 0 0 0 0)), (5, aC (.p 1 0 0 0)), (6, aI v6)], heapI (recsB L) (sumR (recsB L)), 3⟩ ar W :=
      Inv.fix hFT ⟨fix0, fix4, fix5, fix6, trivial⟩ hIx sz (by show _ :: a.defers = _; rw [dfr])
    obtain ⟨F2, T2, hI2, f1, f2, f3, bk⟩ := Inv.rebase rfl hI1
    have hR := hrest W F2 _ T2 ar W hI2.nopin
    show rest.wp Try.prog _ ar W
    refine Code.wp_mono (fun e a' W' q => ?_) hR
    obtain ⟨st', hq, hI3⟩ := q
    have hobj' : W'.heap[D]? = some (.deferred (some [])) := by
      obtain ⟨_, _, _, S4, _⟩ := hI3
      refine (S4.old D (Array.getElem?_eq_some_iff.1 hobj).1 fun hf => ?_).trans hobj
      obtain ⟨_, o', ho', hc'⟩ := f1 D hf
      rw [hobj] at ho'; injection ho' with ho'; subst ho'; cases hc'
    exact ret_marks hT0 hq (back (bk hI3)) (.inr ⟨D, rfl, by omega, hobj'⟩)
  case stop =>
    intro D c pre W _ _ h _
    exact h.elim
end Go.Proofs.Ytgmcdlfmifijlaa.Dev
