/- The symbolic heap: shifts by a number, division, bytes as a string; no condition. -/
import Derived.Test.YtgmcdlfmifijlaaDSh21
import Derived.Test.YtgmcdlfmifijlaaDDat
import Derived.Laws.Shifts
import Derived.Laws.BytesString
set_option linter.unusedVariables false
set_option linter.unusedSimpArgs false
namespace Go.Proofs.Ytgmcdlfmifijlaa.Dev
open Go.RowKit
theorem conv_m8 {a : Int} : Value.int .u8 (IntKind.u8.wrap a) = .int .u8 (a % 256) := by
  have : IntKind.u8.wrap a = a % 256 := by simp [IntKind.wrap, IntKind.bits, IntKind.signed]
  rw [this]
/-- a string of bytes -/
def strB (l : List Int) : ByteArray := l.foldl (fun r n => r.push (UInt8.ofNat n.toNat)) ByteArray.empty
def strE (a b : List Int) : Bool := (strB a).toList == (strB b).toList
theorem strE_same (a : List Int) : strE a a = true := by unfold strE; exact beq_self_eq_true _
section
variable {P : Program} {st : AState} {o : Oper}
theorem g_shrV {xt yt : TypeId} {x y : Operand} {k : IntKind} {a b r : Int} (ho : o.op = .binOp .shr xt x y yt) (hx : ev st x (.v (.c (.d (.v (.int k a)))))) (hy : ev st y (.v (.c (.d (.v (.int .i64 b))))))
    (h0 : 0 ≤ b ∧ b ≤ 64) (hk : k = .i64) (hr : a / 2 ^ b.toNat = r) : GOp P o st (.v (.c (.d (.v (.int k r))))) [] [] :=
  GOp.val fun σ T ac w C => by
    have h1 := DRel.inv (ev_rel C hx)
    have h2 := DRel.inv (ev_rel C hy)
    subst hr hk
    refine ⟨_, ?_, DRel.v _ rfl⟩
    unfold execOp
    have h3 := shift_shr .i64 .i64 a b h0.1 (by simpa [IntKind.bits] using h0.2)
    simp [ho, h1, h2, binOp, eqGuard, h3]
theorem g_shl8 {xt yt : TypeId} {x y : Operand} {a r : Int} (ho : o.op = .binOp .shl xt x y yt) (hx : ev st x (.v (.c (.d (.v (.int .i64 a)))))) (hy : ev st y (.v (.c (.d (.v (.int .u64 8))))))
    (hr : some (Value.int .i64 (IntKind.i64.wrap (a * 256))) = some (.int .i64 r)) : GOp P o st (.v (.c (.d (.v (.int .i64 r))))) [] [] :=
  GOp.val fun σ T ac w C => by
    have h1 := DRel.inv (ev_rel C hx)
    have h2 := DRel.inv (ev_rel C hy)
    injection hr with hr
    injection hr with _ hr
    subst hr
    refine ⟨_, ?_, DRel.v _ rfl⟩
    unfold execOp
    have h3 := shift_shl_any .i64 .u64 a 8 (by decide)
    simp [ho, h1, h2, binOp, eqGuard, h3, IntKind.bits]
theorem g_quo {xt yt : TypeId} {x y : Operand} {a b r : Int} (ho : o.op = .binOp .quo xt x y yt) (hx : ev st x (.v (.c (.d (.v (.int .i64 a)))))) (hy : ev st y (.v (.c (.d (.v (.int .i64 b))))))
    (hb : 0 < b) (h0 : 0 ≤ a ∧ a ≤ 9223372036854775807) (hr : a / b = r) : GOp P o st (.v (.c (.d (.v (.int .i64 r))))) [] [] :=
  GOp.val fun σ T ac w C => by
    have h1 := DRel.inv (ev_rel C hx)
    have h2 := DRel.inv (ev_rel C hy)
    subst hr
    refine ⟨_, ?_, DRel.v _ rfl⟩
    unfold execOp
    have h3 : a.tdiv b = a / b := Int.tdiv_eq_ediv_of_nonneg h0.1
    have h4 : 0 ≤ a / b := Int.ediv_nonneg h0.1 (by omega)
    have h5 : a / b ≤ a := Int.ediv_le_self b h0.1
    have h6 : IntKind.i64.wrap (a / b) = a / b := IntWalk.i64_in _ (by omega)
    have h7 : ¬ b = 0 := by omega
    simp [ho, h1, h2, binOp, eqGuard, Op.intDiv, h7, h3, h6]
theorem g_rem {xt yt : TypeId} {x y : Operand} {a b r : Int} (ho : o.op = .binOp .rem xt x y yt) (hx : ev st x (.v (.c (.d (.v (.int .i64 a)))))) (hy : ev st y (.v (.c (.d (.v (.int .i64 b))))))
    (hb : 0 < b) (h0 : 0 ≤ a) (hr : a % b = r) : GOp P o st (.v (.c (.d (.v (.int .i64 r))))) [] [] :=
  GOp.val fun σ T ac w C => by
    have h1 := DRel.inv (ev_rel C hx)
    have h2 := DRel.inv (ev_rel C hy)
    subst hr
    refine ⟨_, ?_, DRel.v _ rfl⟩
    unfold execOp
    have h3 : a.tmod b = a % b := Int.tmod_eq_emod_of_nonneg h0
    have h7 : ¬ b = 0 := by omega
    simp [ho, h1, h2, binOp, eqGuard, Op.intDiv, h7, h3]
theorem or_low (m c : Nat) (hc : c < 256) : 256 * m ||| c = 256 * m + c := by
  have h := Nat.shiftLeft_add_eq_or_of_lt (i := 8) (b := c) hc m
  rw [Nat.shiftLeft_eq] at h
  rw [show 256 * m = m * 2 ^ 8 by omega]
  exact h.symm
theorem g_or8 {xt yt : TypeId} {x y : Operand} {a c r n : Int} (ho : o.op = .binOp .or xt x y yt) (hx : ev st x (.v (.c (.d (.v (.int .i64 a)))))) (hy : ev st y (.v (.c (.d (.v (.int .i64 c))))))
    (ha : a = n * 256) (hn : 0 ≤ n ∧ n ≤ 1000000000000) (hc : 0 ≤ c ∧ c ≤ 255) (hr : a + c = r) : GOp P o st (.v (.c (.d (.v (.int .i64 r))))) [] [] :=
  GOp.val fun σ T ac w C => by
    have h1 := DRel.inv (ev_rel C hx)
    have h2 := DRel.inv (ev_rel C hy)
    subst hr ha
    obtain ⟨m, rfl⟩ := Int.eq_ofNat_of_zero_le hn.1
    obtain ⟨d, rfl⟩ := Int.eq_ofNat_of_zero_le hc.1
    refine ⟨_, ?_, DRel.v _ rfl⟩
    unfold execOp
    have e1 : BitVec.ofInt 64 ((m : Int) * 256) = BitVec.ofNat 64 (256 * m) := by
      rw [show (m : Int) * 256 = ((256 * m : Nat) : Int) by omega]; exact BitVec.ofInt_natCast _ _
    have e2 : BitVec.ofInt 64 (d : Int) = BitVec.ofNat 64 d := BitVec.ofInt_natCast _ _
    have h3 : (BitVec.ofInt 64 ((m : Int) * 256) ||| BitVec.ofInt 64 (d : Int)).toNat = 256 * m + d := by
      rw [e1, e2, BitVec.toNat_or, BitVec.toNat_ofNat, BitVec.toNat_ofNat, Nat.mod_eq_of_lt (by omega), Nat.mod_eq_of_lt (by omega), or_low m d (by omega)]
    have h6 : IntKind.i64.wrap ((256 * m + d : Nat) : Int) = (m : Int) * 256 + d := by rw [IntWalk.i64_in _ (by omega)]; omega
    have h8 : Op.intBits .or .i64 ((m : Int) * 256) d = pure (.int .i64 ((m : Int) * 256 + d)) := by
      show (pure (Value.int .i64 (IntKind.i64.wrap ((BitVec.ofInt 64 ((m : Int) * 256) ||| BitVec.ofInt 64 (d : Int)).toNat : Int))) : Sem Value) = _
      rw [h3, h6]
    simp [ho, h1, h2, binOp, eqGuard, h8]
theorem flat_bytes {T : Nat → Prop} {w : World} {a : Addr} {l : List Int} {vs : List Value} (h : Flat T w 1 (l.map rU8) a vs) : vs = l.map (Value.int .u8) := by
  have hl := h.len
  rw [List.length_map, Nat.mul_one] at hl
  refine List.ext_getElem? fun j => ?_
  by_cases hj : j < l.length
  · have hr : (l.map rU8)[j]? = some (rU8 l[j]) := getmap (List.getElem?_eq_getElem hj)
    obtain ⟨u, hu, hrel⟩ := (h.rows_.2 j _ hr).2 0 (.v (.int .u8 l[j])) rfl
    rw [Nat.mul_one, Nat.add_zero] at hu
    rw [hu, DRel.inv hrel, List.getElem?_map, List.getElem?_eq_getElem hj]
    rfl
  · rw [List.getElem?_eq_none (by omega), List.getElem?_eq_none (by rw [List.length_map]; omega)]
theorem SrcP.empty0 {v : AV} {K m : Nat} {ys : List (List D)} (h : SrcP st v K 0 m ys) : Empty0 v := by
  cases h with
  | d hl => exact .d _ _ hl
  | s => exact .s _ _ _ _ rfl
  | x => exact .x _ _ _ _ _ _ rfl
theorem g_bytesStr {sT dT eT : TypeId} {x : Operand} {v : AV} {n : Nat} {l : List Int} (ho : o.op = .convert sT dT x) (hs : P.underlying sT = some (.slice eT)) (he : P.underlying eT = some (.int .u8)) (hd : P.underlying dT = some .string)
    (hx : ev st x v) (hsrc : SrcP st v 1 n n (l.map rU8)) (hl : l.length = n) : GOp P o st (.v (.c (.d (.v (.string (strB l)))))) [] [] :=
  GOp.val fun σ T ac w C => by
    have hxv := ev_rel C hx
    refine ⟨.string (strB l), ?_, DRel.v _ rfl⟩
    unfold execOp
    by_cases h0 : n = 0
    · subst h0
      obtain rfl := List.eq_nil_of_length_eq_zero hl
      obtain ⟨A, c, hA⟩ := hsrc.empty0.read hxv
      have hcv := run_convert_bytes_string (P := P) w sT dT eT A 0 c hs he hd
      have h9 : (Conv.bytesToString (.slice A 0 c)).run P w = .ok (.string (strB [])) w := by
        cases A with
        | none => rfl
        | some a => exact run_bytesToString w a 0 c [] (run_loadCells_list (P := P) w a [] (fun j v hj => by simp at hj))
      simp [ho, hA, hcv, h9]
    · obtain ⟨hyl, b, off, c, vs, hv, hf⟩ := hsrc.read C (by decide) (.inl (by omega)) hxv
      have hvs := flat_bytes hf
      have hld := run_load_flat (P := P) hf
      rw [hyl, Nat.mul_one, hvs] at hld
      have hcv := run_convert_bytes_string (P := P) w sT dT eT (some ⟨b, off, none⟩) n c hs he hd
      have h9 := run_bytesToString (P := P) w ⟨b, off, none⟩ n c l hld
      simp only [ho, hv]
      simp [hcv, h9, strB]
theorem g_neqStr {t yt : TypeId} {x y : Operand} {a b : List Int} (ho : o.op = .binOp .neq t x y yt) (hx : ev st x (.v (.c (.d (.v (.string (strB a))))))) (hy : ev st y (.v (.c (.d (.v (.string (strB b))))))) : GOp P o st (.v (.c (.d (.v (.bool (!strE a b)))))) [] [] :=
  GOp.val fun σ T ac w C => by
    have h1 := DRel.inv (ev_rel C hx)
    have h2 := DRel.inv (ev_rel C hy)
    refine ⟨_, ?_, DRel.v _ rfl⟩
    unfold execOp
    simp [ho, h1, h2, binOp, eqGuard, Op.stringOp, strE]
theorem g_eqStr {t yt : TypeId} {x y : Operand} {a b : List Int} (ho : o.op = .binOp .eql t x y yt) (hx : ev st x (.v (.c (.d (.v (.string (strB a))))))) (hy : ev st y (.v (.c (.d (.v (.string (strB b))))))) : GOp P o st (.v (.c (.d (.v (.bool (strE a b)))))) [] [] :=
  GOp.val fun σ T ac w C => by
    have h1 := DRel.inv (ev_rel C hx)
    have h2 := DRel.inv (ev_rel C hy)
    refine ⟨_, ?_, DRel.v _ rfl⟩
    unfold execOp
    simp [ho, h1, h2, binOp, eqGuard, Op.stringOp, strE]
/-- a slice's end: nothing -/
theorem g_sliceE {t e K k i n : Nat} {x y : Operand} (ho : o.op = .slice t x (some y) none none) (hu : P.underlying t = some (.slice e)) (hz : (P.info? e).map (·.size) = some K) (hx : ev st x (.v (.c (.s k i K n)))) (hy : ev st y (.v (.c (.d (.v (.int .i64 n)))))) : GOp P o st (.v (.c (.d (.r K [])))) [] [] :=
  GOp.val fun σ T ac w C => by
    have hv := ev_rel C hx
    have hyv := DRel.inv (ev_rel C hy)
    have key : ∀ A c, n ≤ c → ac.eval x = .slice A n c → (execOp ac.eval o).run P w = .ok (.value (.slice (if c = n then A else A.map (·.add (n * K))) (n - n) (c - n))) w := by
      intro A c hc hA
      have := run_sliceL (P := P) (w := w) (A := A) (len := n) (cap := c) hu hz (some (ac.eval y)) none n n (.inr (by rw [hyv])) (.inl ⟨rfl, rfl⟩) (Nat.le_refl _) (by omega) hc
      unfold execOp
      simp only [ho, hA, Option.map_none, Option.map_some, Sem.run_bind, this, Result.andThen_ok]
      rfl
    rcases hv with ⟨h0, hv⟩ | ⟨g, hg, hv, hle, hmx⟩
    · refine ⟨_, key none 0 (by omega) (by rw [hv, h0]), ?_⟩
      rw [Nat.sub_self]
      exact DRel.nil K _ _
    · refine ⟨_, key _ _ (by omega) hv, ?_⟩
      rw [Nat.sub_self]
      exact DRel.nil K _ _
end
end Go.Proofs.Ytgmcdlfmifijlaa.Dev
