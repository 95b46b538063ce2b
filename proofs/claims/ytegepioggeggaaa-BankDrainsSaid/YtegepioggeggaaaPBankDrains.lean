/- paylaw8.BankDrains returns true whatever its input, and the input reads as it did. No conditions. -/
import Derived.Test.YtegepioggeggaaaFacts
import Derived.Test.YtegepioggeggaaaD16
set_option linter.unusedVariables false
set_option linter.unusedSimpArgs false
set_option maxRecDepth 100000
namespace Go.Proofs.Ytegepioggeggaaa.bankDrains
open Go.ChangeShapes Go.WideShapes Go.ChangeAt Go.RowKit Go.Proofs.Ytegepioggeggaaa Go.Proofs.Ytegepioggeggaaa.Dev Go.Proofs
set_option linter.unusedVariables false

theorem own:ownKnob Try.prog.godebug=none:=by kernel_rfl
theorem laidOut:laidOutB Try.prog=true:=by kernel_rfl

theorem lifted (os:Os) (started:os.Started) (H:Type) (enc:TypeId×Value->H):
    ReturnsInHanded {} Try.checked os 10 .any (Rows.bankDrainsSpec.pre6 enc Try.prog Try.f10 Rows.bankDrainsRow.domain false) (Rows.bankDrainsSpec.post enc Try.prog Try.f10 false true false false):=by
  refine returnsInHanded_of_change (C:=Try.checked) own started (by kernel_rfl) Try.func10
    (ChangeSpec.witness6 (enc:=enc) (C:=Try.checked) false ⟨#[],#[.agg #[.slice none 0 0,.int .i64 0,.int .i64 0],.slice none 0 0],[]⟩ 8 (by kernel_rfl) (by kernel_rfl) (by kernel_rfl) (by kernel_rfl)) ?_
  intro W base args ds gs before hval0 hW hcnd _
  have hval:∀ (j:Nat) t v,Try.f10.params[j]?=some t->args[j]?=some v->Value.okWide Try.prog W .any base t v:=hval0
  have hW':=hW
  obtain ⟨p,q,hA0,hV,rfl,hfz,hnd⟩:=hW
  have hA:DataW.TrodAll enc Try.prog W 0 (fun _=>true) true Try.f10.params.toList args.toList ds p:=hA0
  rw [Try.params10] at hA hval
  obtain ⟨v0,vs0,d0,ds0,p0,pq0,hargs,rfl,rfl,h0,r0⟩:=trodAll_cons hA
  obtain ⟨v1,vs1,d1,ds1,p1,pq1,rfl,rfl,rfl,h1,r1⟩:=trodAll_cons r0
  obtain ⟨rfl,rfl,rfl⟩:=trodAll_nil r1
  obtain rfl:args=#[v0,v1]:=by cases args;simp_all
  obtain ⟨rfl,rfl⟩:=trodVars_none hV
  have k0:=h0
  have lt0:∀ x∈p0,x.block < W.heap.size:=by obtain ⟨m,hm⟩:=k0;exact DataW.trod_lt m _ _ _ hm
  obtain ⟨a0,g0,q0⟩:=wD Try.underlying55 xX (hval 0 55 v0 rfl rfl) h0
  have k1:=h1
  have lt1:∀ x∈p1,x.block < W.heap.size:=by obtain ⟨m,hm⟩:=k1;exact DataW.trod_lt m _ _ _ hm
  obtain ⟨a1,g1,q1⟩:=xW Try.underlying24 (qW Try.underlying24 (by kernel_rfl) (by decide) DS) (hval 1 24 v1 rfl rfl) h1
  clear hA0 hval0
  refine (GQ (xF a0 a1) (args:=#[v0,v1]) ⟨g0,g1,trivial⟩).mono fun e W' ⟨he,bel⟩=>?_
  subst he
  exact ⟨_,rfl,_,_,_,[],_,[],hW',trodAll_mk1 (shut_bool Try.underlying4 _),(trodAll_cons_mk (Below.trod laidOut (by kernel_rfl) (of_decide_eq_true (by kernel_rfl)) k0 bel lt0) (trodAll_cons_mk (Below.trod laidOut (by kernel_rfl) (of_decide_eq_true (by kernel_rfl)) k1 bel lt1) trodAll_mk0)),rfl,bel.frame _,fun h=>by cases h⟩

theorem Gd:Try.pinned.checked.prog.funcNamed Rows.bankDrainsRow.func=some 10:=by kernel_rfl
theorem Et:joinedFacts Try.prog 10 Try.f10 Rows.bankDrainsSpec Rows.bankDrainsRow=true:=by
  unfold joinedFacts
  rw [sign_may,sign_lifts,sign_make]
  kernel_rfl
theorem Hk:Try.f10.isInstance Try.pinned.checked.prog Rows.bankDrainsRow.origin Rows.bankDrainsRow.targs:=of_decide_eq_true (by kernel_rfl)
theorem Hj:Try.f10.isWrapper Try.pinned.checked.prog Rows.bankDrainsRow.wrapper Rows.bankDrainsRow.mainSum:=by unfold Func.isWrapper;rw [if_neg (of_decide_eq_false (by kernel_rfl))];exact ⟨rfl,rfl⟩
theorem over:Rows.bankDrainsRow.holds Try.pinned (OpenSpec.ofChange Rows.bankDrainsSpec):=
  OpenClaim.holds_of_wide 10 Try.f10 rfl rfl rfl rfl rfl rfl rfl ⟨rfl,rfl,rfl,rfl,rfl⟩ rfl rfl rfl rfl rfl Gd Try.func10 Et Hk Hj (fun os started H enc _=>lifted os started H enc)

theorem proved:Rows.BankDrainsSaid:=over
#print axioms proved
end Go.Proofs.Ytegepioggeggaaa.bankDrains
