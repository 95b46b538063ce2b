/- The symbolic heap: the rules as they are typed in a walk; no condition. -/
import Derived.Test.YtgmcdlfmifijlaaDSh9
import Derived.Laws.StructEq
set_option linter.unusedVariables false
set_option linter.unusedSimpArgs false
namespace Go.Proofs.Ytgmcdlfmifijlaa.Dev
open Go.RowKit

/-! spellings -/
def cI (n : Int) : CV := .d (.v (.int .i64 n))
def cB (b : Bool) : CV := .d (.v (.bool b))
def cN : CV := .d (.v (.slice none 0 0))
def cR (K : Nat) (rows : List (List D)) : CV := .d (.r K rows)
def dI (n : Int) : D := .v (.int .i64 n)
def dB (b : Bool) : D := .v (.bool b)
def aI (n : Int) : AV := .v (.c (.d (.v (.int .i64 n))))
def aB (b : Bool) : AV := .v (.c (.d (.v (.bool b))))
def aC (c : CV) : AV := .v (.c c)
def aG (xs : List CV) : AV := .v (.g xs)

section
variable {P : Program} {W0 : World} {F : Nat → Prop} {N : NT} {T0 : Nat → Prop} {pin : List (Nat × Adr)} {ops : Array Oper} {Q : Exit → AState → Prop} {s : List (Nat × AV)} {h : List (Nat × AB)} {n : Nat}
theorem add_nil (st : AState) : st.add [] [] = st := by
  have : del [] st.h = st.h := List.filter_eq_self.2 fun _ _ => rfl
  simp [AState.add, this, maxId]
theorem AL.val {o : Oper} {rest : List Oper} {d : Nat} {av : AV} (hw : Wanted ops o ⟨s, h, n⟩) (g : GOp P o ⟨s, h, n⟩ av [] []) (hd : o.dst = some d) (hN : Nat.blt d N.1 = true) (k : AL P W0 F N T0 pin ops Q rest ⟨(d, av) :: s, h, n⟩) : AL P W0 F N T0 pin ops Q (o :: rest) ⟨s, h, n⟩ :=
  AL.op hw g (fun d' h' => by rw [hd] at h'; injection h' with h'; subst h'; rw [Nat.blt_eq] at hN; exact hN) (fun _ h => by cases h) (fun _ _ h => by cases h) (by rw [add_nil, hd]; exact k)
theorem AL.new {o : Oper} {rest : List Oper} {d n' : Nat} {av : AV} {b : AB} (hw : Wanted ops o ⟨s, h, n⟩) (g : GOp P o ⟨s, h, n⟩ av [(n, b)] []) (hd : o.dst = some d) (hN : Nat.blt d N.1 = true) (hn : n + 1 = n') (k : AL P W0 F N T0 pin ops Q rest ⟨(d, av) :: s, (n, b) :: h, n'⟩) : AL P W0 F N T0 pin ops Q (o :: rest) ⟨s, h, n⟩ :=
  AL.op hw g (fun d' h' => by rw [hd] at h'; injection h' with h'; subst h'; rw [Nat.blt_eq] at hN; exact hN) (fun _ h => by cases h) (fun k b hk _ => by obtain ⟨rfl, _⟩ := Prod.mk.inj (List.mem_singleton.1 hk); exact Nat.le_refl _) (by
    have hdel : del [] h = h := List.filter_eq_self.2 fun _ _ => rfl
    have e : (AState.add ⟨s, h, n⟩ [(n, b)] []) = ⟨s, (n, b) :: h, n'⟩ := by simp [AState.add, hdel, maxId, ← hn]
    rw [e, hd]; exact k)
def upH : List (Nat × AB) → Nat → AB → List (Nat × AB)
  | [], _, _ => []
  | (j, x) :: l, k, b => bif Nat.beq j k then (j, b) :: l else (j, x) :: upH l k b
theorem look_upH {l : List (Nat × AB)} {k : Nat} {b x : AB} {j : Nat} (hj : look (upH l k b) j = some x) : (j = k ∧ x = b) ∨ (j ≠ k ∧ look l j = some x) ∨ (j ≠ k ∧ False) := by
  induction l with
  | nil => cases hj
  | cons y l ih =>
    obtain ⟨i, z⟩ := y
    by_cases e : i = k
    · subst e
      have : upH ((i, z) :: l) i b = (i, b) :: l := by show (bif Nat.beq i i then _ else _) = _; rw [Nat.beq_refl]; rfl
      rw [this, look_cons] at hj
      split at hj
      · rename_i e; subst e; injection hj with hj; exact .inl ⟨rfl, hj.symm⟩
      · rename_i e; exact .inr (.inl ⟨Ne.symm e, by rw [look_cons, if_neg e]; exact hj⟩)
    · have : upH ((i, z) :: l) k b = (i, z) :: upH l k b := by
        show (bif Nat.beq i k then _ else _) = _
        rw [Bool.eq_false_iff.2 fun h => e (Nat.eq_of_beq_eq_true h)]; rfl
      rw [this, look_cons] at hj
      split at hj
      · rename_i e2; subst e2; exact .inr (.inl ⟨e, by rw [look_cons, if_pos rfl]; exact hj⟩)
      · rename_i e2
        rcases ih hj with h | h | h
        · exact .inl h
        · exact .inr (.inl ⟨h.1, by rw [look_cons, if_neg e2]; exact h.2⟩)
        · exact h.2.elim
theorem AL.sto {o : Oper} {rest : List Oper} {k0 : Nat} {b b0 : AB} {h' : List (Nat × AB)} (hw : Wanted ops o ⟨s, h, n⟩) (g : GOp P o ⟨s, h, n⟩ (.v (.c .any)) [(k0, b)] [k0]) (hd : o.dst = none) (hb : look h k0 = some b0) (hk : Nat.blt k0 n = true) (hh : upH h k0 b = h') (k : AL P W0 F N T0 pin ops Q rest ⟨s, h', n⟩) : AL P W0 F N T0 pin ops Q (o :: rest) ⟨s, h, n⟩ := by
  refine AL.op hw g (fun d' h' => by rw [hd] at h'; cases h') (fun e he => ⟨b0, by rw [List.mem_singleton.1 he]; exact hb⟩) (fun k b hk hE => absurd (List.mem_singleton.2 (Prod.mk.inj (List.mem_singleton.1 hk)).1) hE) ?_
  rw [hd]
  refine AL.weak (fun W0 F N T0 a w hI => ?_) k
  obtain ⟨σ, T, hT, S, hp⟩ := hI
  rw [Nat.blt_eq] at hk
  have hk : k0 < n := hk
  have hs : ∀ j x, look h' j = some x → look ((AState.add ⟨s, h, n⟩ [(k0, b)] [k0])).h j = some x := fun j x hj => by
    subst hh
    show look ((k0, b) :: del [k0] h) j = some x
    rcases look_upH hj with ⟨rfl, rfl⟩ | ⟨hne, hj⟩ | h
    · rw [look_cons, if_pos rfl]
    · rw [look_cons, if_neg (Ne.symm hne), look_del_ne (by simpa using hne)]; exact hj
    · exact h.2.elim
  have hmax : (AState.add ⟨s, h, n⟩ [(k0, b)] [k0]).n = n := by
    show Nat.max n (k0 + 1) = n
    exact Nat.max_eq_left hk
  exact ⟨σ, T, hT, ⟨S.core.sub (fun _ _ h => h) hs, S.os, S.tape, S.output, S.size, S.old, fun j x g hj => S.own j x g (hs j x hj), fun j hj => S.next j (Nat.le_trans (Nat.le_of_eq hmax) hj), fun j x hj => Nat.lt_of_lt_of_le (S.hn j x (hs j x hj)) (Nat.le_of_eq hmax), S.tsz, S.dfr⟩, hp⟩
theorem AL.eat {o : Oper} {rest : List Oper} {d n' k0 : Nat} {av : AV} {b b0 : AB} {h' : List (Nat × AB)} (hw : Wanted ops o ⟨s, h, n⟩) (g : GOp P o ⟨s, h, n⟩ av [(n, b)] [k0]) (hd : o.dst = some d) (hN : Nat.blt d N.1 = true) (hb : look h k0 = some b0) (hn : n + 1 = n') (hh : (n, b) :: del [k0] h = h') (k : AL P W0 F N T0 pin ops Q rest ⟨(d, av) :: s, h', n'⟩) : AL P W0 F N T0 pin ops Q (o :: rest) ⟨s, h, n⟩ :=
  AL.op hw g (fun d' h' => by rw [hd] at h'; injection h' with h'; subst h'; rw [Nat.blt_eq] at hN; exact hN) (fun e he => ⟨b0, by rw [List.mem_singleton.1 he]; exact hb⟩) (fun k b hk _ => by obtain ⟨rfl, _⟩ := Prod.mk.inj (List.mem_singleton.1 hk); exact Nat.le_refl _) (by
    have e : (AState.add ⟨s, h, n⟩ [(n, b)] [k0]) = ⟨s, h', n'⟩ := by simp [AState.add, maxId, ← hn, ← hh]
    rw [e, hd]; exact k)
/-- a call's answer -/
theorem AL.call {o : Oper} {rest : List Oper} {d n' : Nat} {av : AV} {nb h' : List (Nat × AB)} (hw : Wanted ops o ⟨s, h, n⟩) (g : GOp P o ⟨s, h, n⟩ av nb []) (hd : o.dst = some d) (hN : Nat.blt d N.1 = true) (hnb : nb.all (fun x => Nat.ble n x.1) = true) (hn : maxId nb n = n') (hh : nb ++ h = h') (k : AL P W0 F N T0 pin ops Q rest ⟨(d, av) :: s, h', n'⟩) : AL P W0 F N T0 pin ops Q (o :: rest) ⟨s, h, n⟩ :=
  AL.op hw g (fun d' h' => by rw [hd] at h'; injection h' with h'; subst h'; rw [Nat.blt_eq] at hN; exact hN) (fun _ h => by cases h) (fun k b hk _ => Nat.le_of_ble_eq_true (List.all_eq_true.1 hnb _ hk)) (by
    have hdel : del [] h = h := List.filter_eq_self.2 fun _ _ => rfl
    have e : (AState.add ⟨s, h, n⟩ nb []) = ⟨s, h', n'⟩ := by simp [AState.add, hdel, ← hn, ← hh]
    rw [e, hd]; exact k)
theorem AL.no {o : Oper} {rest : List Oper} {d : Nat} (hw : Unwanted ops o ⟨s, h, n⟩) (hd : o.dst = some d) (hN : Nat.blt d N.1 = true) (k : AL P W0 F N T0 pin ops Q rest ⟨(d, .t []) :: s, h, n⟩) : AL P W0 F N T0 pin ops Q (o :: rest) ⟨s, h, n⟩ :=
  AL.skip hw (fun d' h' => by rw [hd] at h'; injection h' with h'; subst h'; rw [Nat.blt_eq] at hN; exact hN) (by rw [hd]; exact k)
/-- a slot's Bool is decided -/
theorem AL.dec {l : List Oper} {t : Nat} {b : Bool} (hs : look s t = some (.v (.c (.d (.v (.bool b)))))) (ht : b = true → AL P W0 F N T0 pin ops Q l ⟨(t, .v (.c (.d (.v (.bool true))))) :: s, h, n⟩) (hf : b = false → AL P W0 F N T0 pin ops Q l ⟨(t, .v (.c (.d (.v (.bool false))))) :: s, h, n⟩) : AL P W0 F N T0 pin ops Q l ⟨s, h, n⟩ := by
  have key : ∀ c, b = c → Weak pin ⟨s, h, n⟩ ⟨(t, .v (.c (.d (.v (.bool c))))) :: s, h, n⟩ := fun c hc W0 F N T0 a w hI => by
    obtain ⟨σ, T, hT, S, hp⟩ := hI
    refine ⟨σ, T, hT, ⟨S.core.sub (fun i v hi => ?_) (fun _ _ h => h), S.os, S.tape, S.output, S.size, S.old, S.own, S.next, S.hn, S.tsz, S.dfr⟩, hp⟩
    have hi' : look ((t, AV.v (.c (.d (.v (.bool c))))) :: s) i = some v := hi
    rw [look_cons] at hi'
    split at hi'
    · rename_i e; subst e; injection hi' with hi'; subst hi'; subst hc; exact hs
    · exact hi'
  cases hb : b with
  | true => exact AL.weak (key true hb) (ht hb)
  | false => exact AL.weak (key false hb) (hf hb)

/-! many small operations at once: moves, picks, and what is passed over -/
def evF (s : List (Nat × AV)) : Operand → Option AV
  | .tmp t => look s t
  | .const v => some (cst v)
  | .func f => some (.v (.c (.fn f [])))
  | .global _ => none
theorem evF_ev {s : List (Nat × AV)} {h : List (Nat × AB)} {n : Nat} {x : Operand} {v : AV} (he : evF s x = some v) : ev ⟨s, h, n⟩ x v := by
  cases x with
  | tmp t => exact he
  | const c => exact (Option.some.inj he).symm
  | func f => exact (Option.some.inj he).symm
  | global g => cases he
def guardF (ops : Array Oper) (s : List (Nat × AV)) (o : Oper) : Option Bool :=
  match o.guard with
  | none => some true
  | some (j, want) =>
    match (ops[j]?).bind (·.dst) with
    | some t => match look s t with
      | some (.v (.c (.d (.v (.bool b))))) => some (b == want)
      | some (.t []) => some false
      | _ => none
    | none => none
def fast1 (ops : Array Oper) (o : Oper) (s : List (Nat × AV)) : Option AV :=
  match guardF ops s o with
  | some false => some (.t [])
  | some true => match o.op with
    | .move x => evF s x
    | .assign x => evF s x
    | .pick c x y => match evF s c with
      | some (.v (.c (.d (.v (.bool b))))) => evF s (bif b then x else y)
      | _ => none
    | _ => none
  | none => none
def fastRun (ops : Array Oper) (N : Nat) : Nat → List Oper → List (Nat × AV) → Option (List Oper × List (Nat × AV))
  | 0, l, s => some (l, s)
  | _ + 1, [], s => some ([], s)
  | k + 1, o :: l, s => match o.dst, fast1 ops o s with
    | some d, some v => bif Nat.blt d N then fastRun ops N k l ((d, v) :: s) else none
    | _, _ => none
theorem guardF_spec {o : Oper} {b : Bool} (hg : guardF ops s o = some b) : (b = true → Wanted ops o ⟨s, h, n⟩) ∧ (b = false → Unwanted ops o ⟨s, h, n⟩) := by
  unfold guardF at hg
  split at hg
  · rename_i hn; injection hg with hg; subst hg; exact ⟨fun _ => Wanted.plain hn, (fun h => by cases h)⟩
  · rename_i j want hn
    split at hg
    · rename_i t ht
      split at hg
      · rename_i b' hs
        injection hg with hg
        constructor
        · intro hb
          have : b' = want := by rw [hb] at hg; exact eq_of_beq hg
          subst this
          exact Wanted.yes hn ht hs
        · intro hb
          have : b' = !want := by rw [hb] at hg; revert hg; cases b' <;> cases want <;> simp
          subst this
          exact Unwanted.no hn ht hs
      · rename_i hs; injection hg with hg; subst hg
        exact ⟨(fun h => by cases h), fun _ => Unwanted.un hn ht hs⟩
      · cases hg
    · cases hg
theorem fast_step {o : Oper} {rest : List Oper} {d : Nat} {v : AV} (hf : fast1 ops o s = some v) (hd : o.dst = some d) (hN : Nat.blt d N.1 = true) (k : AL P W0 F N T0 pin ops Q rest ⟨(d, v) :: s, h, n⟩) : AL P W0 F N T0 pin ops Q (o :: rest) ⟨s, h, n⟩ := by
  unfold fast1 at hf
  split at hf
  · rename_i hg; injection hf with hf; subst hf
    exact AL.no ((guardF_spec hg).2 rfl) hd hN k
  · rename_i hg
    have hw := (guardF_spec (h := h) (n := n) hg).1 rfl
    split at hf
    · rename_i x ho; exact AL.val hw (g_move ho (evF_ev hf)) hd hN k
    · rename_i x ho; exact AL.val hw (g_assign ho (evF_ev hf)) hd hN k
    · rename_i c x y ho
      split at hf
      · rename_i b hc
        exact AL.val hw (g_pick ho (evF_ev hc) (by cases b <;> exact evF_ev hf)) hd hN k
      · cases hf
    · cases hf
  · cases hf
theorem AL.fast (m : Nat) {l l' : List Oper} {s' : List (Nat × AV)} (hf : fastRun ops N.1 m l s = some (l', s')) (k : AL P W0 F N T0 pin ops Q l' ⟨s', h, n⟩) : AL P W0 F N T0 pin ops Q l ⟨s, h, n⟩ := by
  induction m generalizing l s with
  | zero => simp only [fastRun, Option.some.injEq, Prod.mk.injEq] at hf; obtain ⟨rfl, rfl⟩ := hf; exact k
  | succ m ih =>
    cases l with
    | nil => simp only [fastRun, Option.some.injEq, Prod.mk.injEq] at hf; obtain ⟨rfl, rfl⟩ := hf; exact k
    | cons o l =>
      simp only [fastRun] at hf
      cases hd : o.dst with
      | none => simp [hd] at hf
      | some d =>
        cases h1 : fast1 ops o s with
        | none => simp [hd, h1] at hf
        | some v =>
          simp only [hd, h1] at hf
          cases hN : Nat.blt d N.1 with
          | false => rw [hN] at hf; cases hf
          | true => rw [hN] at hf; exact fast_step h1 hd hN (ih hf)
theorem then_ok {next : AState → Prop} {st : AState} (h : next st) : thenQ next Q .normal st := h
theorem then_ret {next : AState → Prop} {st : AState} (h : Q .ret st) : thenQ next Q .ret st := h
theorem then_exit {next : AState → Prop} {st : AState} {id : Nat} (h : Q (.exit id) st) : thenQ next Q (.exit id) st := h
theorem block_ok {st : AState} {id : Nat} (h : Q .normal st) : blockQ id Q .normal st := h
theorem block_ret {st : AState} {id : Nat} (h : Q .ret st) : blockQ id Q .ret st := h
theorem block_hit {st : AState} {id : Nat} (h : Q .normal st) : blockQ id Q (.exit id) st := by simpa [blockQ] using h
theorem block_pass {st : AState} {id id' : Nat} (hne : Nat.beq id' id = false) (h : Q (.exit id') st) : blockQ id Q (.exit id') st := by
  have : ¬ id' = id := fun e => by subst e; rw [Nat.beq_refl] at hne; cases hne
  simpa [blockQ, this] using h
/-- a piece of code that ends in one state -/
theorem AC.cut {x y : Code} {st J : AState} (hx : AC P W0 F N T0 pin (thenQ (fun st' => Weak pin st' J) Q) x st) (hy : AC P W0 F N T0 pin Q y J) : AC P W0 F N T0 pin Q (.seq x y) st := fun a w hI =>
  wp_seq (Code.wp_mono (fun e a w q => by
    obtain ⟨st', hq, hi⟩ := q
    cases e <;> first | exact hy a w (hq _ _ _ _ a w hi) | exact ⟨st', hq, hi⟩) (hx a w hI))
end
/-! structs that are compared -/
def sameV : Value → Value → Bool
  | .int _ a, .int _ b => decide (a = b)
  | .bool a, .bool b => a == b
  | _, _ => false
def sameL : List Value → List Value → Bool
  | [], [] => true
  | x :: xs, y :: ys => sameV x y && sameL xs ys
  | _, _ => false
def CmpV (P : Program) (t : TypeId) (x y : Value) : Prop := (∃ k k' a b, P.underlying t = some (.int k') ∧ x = .int k a ∧ y = .int k b) ∨ ∃ a b, P.underlying t = some .bool ∧ x = .bool a ∧ y = .bool b
def CmpL (P : Program) : List Field → Nat → List Value → List Value → Prop
  | [], _, [], [] => True
  | f :: fs, k, x :: xs, y :: ys => (f.name ≠ "_" ∧ f.offset = k ∧ CmpV P f.type x y) ∧ CmpL P fs (k + 1) xs ys
  | _, _, _, _ => False
def CmpS (P : Program) (t : TypeId) (xs ys : List Value) : Prop := ∃ fs, P.underlying t = some (.struct fs) ∧ P.eqGuardType P.depth t = false ∧ P.stoodInHeld t = false ∧ CmpL P fs.toList 0 xs ys
theorem run_eqL {P : Program} (w : World) (X Y : Array Value) : ∀ (fs : List Field) (k : Nat) (xs ys : List Value), CmpL P fs k xs ys → (∀ (i : Nat) (x : Value), xs[i]? = some x → X[k + i]? = some x) → (∀ (i : Nat) (y : Value), ys[i]? = some y → Y[k + i]? = some y) → (Op.eqFields 9999 X Y fs).run P w = .ok (sameL xs ys) w
  | [], k, [], [], _, _, _ => by simp [Op.eqFields, sameL]
  | f :: fs, k, x :: xs, y :: ys, h, hX, hY => by
    obtain ⟨⟨h1, h2, h3⟩, h4⟩ := h
    have ih := run_eqL w X Y fs (k + 1) xs ys h4 (fun i x hx => by have := hX (i + 1) x (by simpa using hx); rwa [show k + (i + 1) = k + 1 + i by omega] at this) (fun i y hy => by have := hY (i + 1) y (by simpa using hy); rwa [show k + (i + 1) = k + 1 + i by omega] at this)
    have hx := hX 0 x rfl
    have hy := hY 0 y rfl
    rw [Nat.add_zero] at hx hy
    have hpart : ∀ (Z : Array Value) (z : Value) (d : TypeDesc), P.underlying f.type = some d → aggD d = false → Z[k]? = some z → (part f.type Z f.offset).run P w = .ok z w := fun Z z d hu hd hz => by
      simp [part, run_isAgg hu, hd, h2, hz]
    rcases h3 with ⟨kk, kk', a, b, hu, rfl, rfl⟩ | ⟨a, b, hu, rfl, rfl⟩
    · simp only [Op.eqFields, h1, ne_eq, not_false_eq_true, if_true, Sem.run_bind, hpart X _ _ hu rfl hx, hpart Y _ _ hu rfl hy, Result.andThen_ok, run_equalIn_int w 9998 f.type kk kk' a b hu]
      by_cases e : a = b
      · simp [e, sameL, sameV, ih]
      · simp [e, sameL, sameV]
    · simp only [Op.eqFields, h1, ne_eq, not_false_eq_true, if_true, Sem.run_bind, hpart X _ _ hu rfl hx, hpart Y _ _ hu rfl hy, Result.andThen_ok, run_equalIn_bool w 9998 f.type a b hu]
      by_cases e : a = b
      · simp [e, sameL, sameV, ih]
      · simp [e, sameL, sameV]
  | [], _, _ :: _, _, h, _, _ => by simp [CmpL] at h
  | [], _, [], _ :: _, h, _, _ => by simp [CmpL] at h
  | _ :: _, _, [], _, h, _, _ => by simp [CmpL] at h
  | _ :: _, _, _ :: _, [], h, _, _ => by simp [CmpL] at h
theorem all2_vals {σ : Nat → Option Adr} {T : Nat → Prop} {w : World} : ∀ {xs vs : List Value}, All2 (CRel σ T w) (xs.map fun x => .d (.v x)) vs → vs = xs
  | [], [], _ => rfl
  | x :: xs, v :: vs, h => by rw [DRel.inv h.1, all2_vals h.2]
  | [], _ :: _, h => h.elim
  | _ :: _, [], h => h.elim
theorem run_cmpS {P : Program} {w : World} {t : TypeId} {xs ys : List Value} (hc : CmpS P t xs ys) : (Op.equalIn 10000 t (.agg xs.toArray) (.agg ys.toArray)).run P w = .ok (sameL xs ys) w := by
  obtain ⟨fs, hu, _, hp, hl⟩ := hc
  have hfs : Go.Program.fieldsOf P t = fs := by simp [Go.Program.fieldsOf, hu]
  have := run_equalIn_struct (P := P) w 9999 t xs.toArray ys.toArray (by rw [hfs]; exact hu) hp
  rw [show (10000 : Nat) = 9999 + 1 from rfl, this, hfs]
  exact run_eqL w _ _ fs.toList 0 xs ys hl (fun i x hx => by simpa using hx) (fun i y hy => by simpa using hy)
theorem g_eql {P : Program} {st : AState} {o : Oper} {t yt : TypeId} {x y : Operand} {xs ys : List Value} {cx cy : List CV} {r : Bool} (hc : CmpS P t xs ys) (hr : sameL xs ys = r) (ho : o.op = .binOp .eql t x y yt) (hx : ev st x (.v (.g cx))) (hy : ev st y (.v (.g cy))) (hcx : (xs.map fun x => CV.d (.v x)) = cx) (hcy : (ys.map fun x => CV.d (.v x)) = cy) : GOp P o st (aB r) [] [] :=
  GOp.val fun σ T a w C => by
    subst hcx hcy hr
    obtain ⟨vs, h1, h2⟩ := ev_rel C hx
    obtain ⟨us, h3, h4⟩ := ev_rel C hy
    rw [all2_vals h2] at h1
    rw [all2_vals h4] at h3
    obtain ⟨_, _, hg, _⟩ := id hc
    refine ⟨.bool (sameL xs ys), ?_, DRel.v _ rfl⟩
    unfold execOp
    simp only [ho, h1, h3, Sem.run_bind, run_eqGuard_agg w .eql t x y _ _ hg, Result.andThen_ok, run_eql_struct, run_cmpS hc]
    rfl
theorem g_neq {P : Program} {st : AState} {o : Oper} {t yt : TypeId} {x y : Operand} {xs ys : List Value} {cx cy : List CV} {r : Bool} (hc : CmpS P t xs ys) (hr : sameL xs ys = r) (ho : o.op = .binOp .neq t x y yt) (hx : ev st x (.v (.g cx))) (hy : ev st y (.v (.g cy))) (hcx : (xs.map fun x => CV.d (.v x)) = cx) (hcy : (ys.map fun x => CV.d (.v x)) = cy) : GOp P o st (aB (!r)) [] [] :=
  GOp.val fun σ T a w C => by
    subst hcx hcy hr
    obtain ⟨vs, h1, h2⟩ := ev_rel C hx
    obtain ⟨us, h3, h4⟩ := ev_rel C hy
    rw [all2_vals h2] at h1
    rw [all2_vals h4] at h3
    obtain ⟨_, _, hg, _⟩ := id hc
    refine ⟨.bool (!sameL xs ys), ?_, DRel.v _ rfl⟩
    unfold execOp
    simp only [ho, h1, h3, Sem.run_bind, run_eqGuard_agg w .neq t x y _ _ hg, Result.andThen_ok, run_neq_struct, run_cmpS hc]
    rfl
/-! the rest -/
theorem g_indexP0 {P : Program} {st : AState} {o : Oper} {t e : TypeId} {x y : Operand} {k K n : Nat} {i : Nat} {j : Int} (ho : o.op = .indexAddr t x y) (hx : ev st x (.v (.c (.s k 0 K n)))) (hy : ev st y (.v (.c (.d (.v (.int .i64 j))))))
    (hu : P.underlying t = some (.slice e)) (hz : (P.info? e).map (·.size) = some K) (hj : j = (i : Int)) (hi : i < n) : GOp P o st (.v (.c (.p k i K 0))) [] [] := by
  have := g_indexP ho hx hy hu hz hj hi
  rwa [Nat.zero_add] at this
theorem GOp.cast {P : Program} {o : Oper} {st : AState} {av av' : AV} {nb : List (Nat × AB)} {E : List Nat} (g : GOp P o st av nb E) (h : av = av') : GOp P o st av' nb E := h ▸ g
theorem g_lenM {P : Program} {st : AState} {o : Oper} {α : Type} {xs : List α} {f : α → List D} {x : Operand} {c : Call} {t e : TypeId} {K : Nat} (ho : o.op = .call c) (hc : c.callee = .builtin .len) (ha : c.args = #[x]) (hat : c.argTypes = #[t]) (hx : ev st x (.v (.c (.d (.r K (xs.map f)))))) (hu : P.underlying t = some (.slice e)) : GOp P o st (.v (.c (.d (.v (.int .i64 xs.length))))) [] [] := by
  have := g_lenD ho hc ha hat hx hu
  rwa [List.length_map] at this
theorem slT_mk {P : Program} {t e K bytes : Nat} {z : Value} (u : P.underlying t = some (.slice e)) (h : (P.info? e).map (fun i => (i.zero, i.size, i.bytes)) = some (some z, K, bytes)) (hz : z.cells.size = K) (hK : 0 < K) : SlT P t e K bytes := by
  obtain ⟨i, hi, hzz⟩ := Option.map_eq_some_iff.1 h
  simp only [Prod.mk.injEq] at hzz
  exact ⟨u, ⟨i, z, hi, hzz.1, hzz.2.1, hzz.2.2, hz⟩, hK⟩
theorem evI {st : AState} {x : Operand} {a b : Int} (h : ev st x (.v (.c (.d (.v (.int .i64 a)))))) (e : a = b) : ev st x (.v (.c (.d (.v (.int .i64 b))))) := e ▸ h
theorem conv_u8 {a : Int} (h : 0 ≤ a ∧ a ≤ 255) : Value.int .u8 (IntKind.u8.wrap a) = .int .u8 a := by
  have : IntKind.u8.wrap a = a := by simp [IntKind.wrap, IntKind.bits, IntKind.signed]; omega
  rw [this]
theorem conv_i64 {a : Int} (h : -9223372036854775808 ≤ a ∧ a ≤ 9223372036854775807) : Value.int .i64 (IntKind.i64.wrap a) = .int .i64 a := by rw [IntWalk.i64_in _ (by omega)]
theorem g_field1 {P : Program} {st : AState} {o : Oper} {t : TypeId} {x : Operand} {i : Nat} {fs : Array Field} {f : Field} {d : TypeDesc} {cs : List CV} {c : CV} (ho : o.op = .field t x i) (hx : ev st x (.v (.g cs))) (hu : P.underlying t = some (.struct fs)) (hf : fs[i]? = some f) (hd : P.underlying f.type = some d) (ha : aggD d = false) (hc : cs[f.offset]? = some c) : GOp P o st (.v (.c c)) [] [] :=
  GOp.val fun σ T a w C => by
    obtain ⟨vs, h1, h2⟩ := ev_rel C hx
    obtain ⟨v, hv, hr⟩ := h2.get hc
    refine ⟨v, ?_, hr⟩
    have hv' : vs.toArray[f.offset]? = some v := by simpa using hv
    unfold execOp
    simp [ho, h1, Instr.field, run_underlying hu, hf, asAgg, part, run_isAgg hd, ha]
    simp at hv'
    simp [hv']
theorem AC.cutB {P : Program} {W0 : World} {F : Nat → Prop} {N : NT} {T0 : Nat → Prop} {pin : List (Nat × Adr)} {Q : Exit → AState → Prop} {x y : Code} {s : List (Nat × AV)} {h : List (Nat × AB)} {n : Nat} (t : Nat) (e : Bool) (hx : AC P W0 F N T0 pin (thenQ (fun st' => Weak pin st' ⟨(t, aB e) :: s, h, n⟩) Q) x ⟨s, h, n⟩) (hy : AC P W0 F N T0 pin Q y ⟨(t, aB e) :: s, h, n⟩) : AC P W0 F N T0 pin Q (.seq x y) ⟨s, h, n⟩ := AC.cut hx hy
theorem Weak.sub {pin : List (Nat × Adr)} {st st' : AState} (hs : ∀ i v, look st'.s i = some v → look st.s i = some v) (hh : ∀ k b, look st'.h k = some b → look st.h k = some b) (hn : st'.n = st.n) : Weak pin st st' := by
  rintro W0 F N T0 a w ⟨σ, T, hT, S, hp⟩
  exact ⟨σ, T, hT, ⟨S.core.sub hs hh, S.os, S.tape, S.output, S.size, S.old, fun j x g hj => S.own j x g (hh j x hj), fun j hj => S.next j (hn ▸ hj), fun j x hj => hn ▸ S.hn j x (hh j x hj), S.tsz, S.dfr⟩, hp⟩
theorem look_drop {l l' : List (Nat × AV)} {k t : Nat} (hs : l.drop k = l') (hd : (l.take k).all (fun x => Nat.beq x.1 t || (look l' x.1).isNone) = true) {i : Nat} {v : AV} (hi : i ≠ t) (h : look l' i = some v) : look l i = some v := by
  rw [← List.take_append_drop k l, look_append, hs]
  cases hl : look (l.take k) i with
  | none => rw [Option.none_or]; exact h
  | some u =>
    have := List.all_eq_true.1 hd _ (look_mem hl)
    simp only [Bool.or_eq_true] at this
    rcases this with e | e
    · exact absurd (Nat.eq_of_beq_eq_true e) hi
    · rw [h] at e; cases e
theorem Weak.popB {pin : List (Nat × Adr)} (k : Nat) {s' s : List (Nat × AV)} {h : List (Nat × AB)} {n t : Nat} {b e : Bool} (hs : s'.drop k = s) (hl : look s' t = some (.v (.c (.d (.v (.bool b)))))) (he : b = e) (hd : (s'.take k).all (fun x => Nat.beq x.1 t || (look s x.1).isNone) = true) : Weak pin ⟨s', h, n⟩ ⟨(t, aB e) :: s, h, n⟩ := by
  subst he
  refine Weak.sub (fun i v hi => ?_) (fun _ _ h => h) rfl
  have hi' : look ((t, aB b) :: s) i = some v := hi
  rw [look_cons] at hi'
  split at hi'
  · rename_i e; subst e; injection hi' with hi'; subst hi'; exact hl
  · rename_i e; exact look_drop hs hd (Ne.symm e) hi'
theorem retQ_mk {P : Program} {fn : Func} {pin : List (Nat × Adr)} {av av' : AV} {nb nb' : List (Nat × AB)} {e : Exit} {st : AState} (h : retQ P fn pin av' nb' e st) (hav : av' = av) (hnb : nb' = nb) : retQ P fn pin av nb e st := by subst hav hnb; exact h
theorem retQ_ret {P : Program} {fn : Func} {pin : List (Nat × Adr)} {st : AState} (st' : AState) (rs : List ResultVar) (gs : List GV) {nb : List (Nat × AB)} (hw : Weak pin st st') (hr : fn.results.toList = rs) (hv : RVs P st' rs gs) (hb : AllL (fun x => look st'.h x.1 = some x.2) nb) : retQ P fn pin (outOf gs) nb .ret st :=
  ⟨.inl rfl, st', gs, hw, hr ▸ hv, rfl, hb⟩
theorem Fn.mk' {P : Program} {f : FuncId} {fn : Func} {c : Code} {ins : List GV} {av : AV} {nb : List (Nat × AB)} (N : Nat) (s : List (Nat × AV)) (hf : P.funcs[f]? = some fn) (hb : fn.body = some c) (hn : fn.ntmps = N) (hN : Nat.ble ins.length N = true) (hs : slotsOf 0 ins = s)
    (h : ∀ (W0 : World) (T : Nat → Prop), AC P W0 (fun _ => False) (N, []) T [] (retQ P fn [] av nb) c ⟨s, [], 0⟩) : Fn P f ins av nb := by
  subst hn hs
  exact Fn.mk hf hb (Nat.le_of_ble_eq_true hN) h
theorem getmap {α : Type} {xs : List α} {f : α → List D} {i : Nat} {x : α} (h : xs[i]? = some x) : (xs.map f)[i]? = some (f x) := by rw [List.getElem?_map, h]; rfl
theorem setmap {α : Type} {xs : List α} {f : α → List D} {i : Nat} {x' : α} {row' : List D} (h : row' = f x') : (xs.map f).set i row' = (xs.set i x').map f := by rw [h, List.map_set]
theorem appmap {α : Type} {xs ys : List α} {f : α → List D} : xs.map f ++ ys.map f = (xs ++ ys).map f := List.map_append.symm
theorem exget {α : Type} {xs : List α} {i : Nat} (h : i < xs.length) : ∃ x, xs[i]? = some x := ⟨_, List.getElem?_eq_getElem h⟩
theorem dec_t {p : Prop} [Decidable p] (h : p) : some (Value.bool (decide p)) = some (.bool true) := by rw [decide_eq_true h]
theorem dec_f {p : Prop} [Decidable p] (h : ¬ p) : some (Value.bool (decide p)) = some (.bool false) := by rw [decide_eq_false h]
end Go.Proofs.Ytgmcdlfmifijlaa.Dev
