/- paytop.TopReturn returns true whatever its input, and the input reads as it did. No conditions. -/
import Derived.Test.YtegepioggeggaaaFacts
import Derived.Test.YtegepioggeggaaaD16
set_option linter.unusedVariables false
set_option linter.unusedSimpArgs false
set_option maxRecDepth 100000
namespace Go.Proofs.Ytegepioggeggaaa.topReturn
open Go.ChangeShapes Go.WideShapes Go.ChangeAt Go.RowKit Go.Proofs.Ytegepioggeggaaa Go.Proofs.Ytegepioggeggaaa.Dev Go.Proofs
set_option linter.unusedVariables false

theorem own:ownKnob Try.prog.godebug=none:=by kernel_rfl
theorem laidOut:laidOutB Try.prog=true:=by kernel_rfl

theorem lifted (os:Os) (started:os.Started) (H:Type) (enc:TypeId×Value->H):
    ReturnsInHanded {} Try.checked os 3 .any (Rows.topReturnSpec.pre6 enc Try.prog Try.f3 Rows.topReturnRow.domain false) (Rows.topReturnSpec.post enc Try.prog Try.f3 false true false false):=by
  refine returnsInHanded_of_change (C:=Try.checked) own started (by kernel_rfl) Try.func3
    (ChangeSpec.witness6 (enc:=enc) (C:=Try.checked) false ⟨#[],#[.int .i64 0,.int .i64 0,.int .i64 0],[]⟩ 8 (by kernel_rfl) (by kernel_rfl) (by kernel_rfl) (by kernel_rfl)) ?_
  intro W base args ds gs before hval0 hW hcnd _
  have hval:∀ (j:Nat) t v,Try.f3.params[j]?=some t->args[j]?=some v->Value.okWide Try.prog W .any base t v:=hval0
  have hW':=hW
  obtain ⟨p,q,hA0,hV,rfl,hfz,hnd⟩:=hW
  have hA:DataW.TrodAll enc Try.prog W 0 (fun _=>true) true Try.f3.params.toList args.toList ds p:=hA0
  rw [Try.params3] at hA hval
  obtain ⟨v0,vs0,d0,ds0,p0,pq0,hargs,rfl,rfl,h0,r0⟩:=trodAll_cons hA
  obtain ⟨v1,vs1,d1,ds1,p1,pq1,rfl,rfl,rfl,h1,r1⟩:=trodAll_cons r0
  obtain ⟨v2,vs2,d2,ds2,p2,pq2,rfl,rfl,rfl,h2,r2⟩:=trodAll_cons r1
  obtain ⟨rfl,rfl,rfl⟩:=trodAll_nil r2
  obtain rfl:args=#[v0,v1,v2]:=by cases args;simp_all
  obtain ⟨rfl,rfl⟩:=trodVars_none hV
  obtain ⟨a0,rfl,rfl,rfl,w0⟩:=open_int Try.underlying3 (hval 0 3 v0 rfl rfl) h0
  have q0:fF a0:=bounds_i64 w0
  obtain ⟨a1,rfl,rfl,rfl,w1⟩:=open_int Try.underlying3 (hval 1 3 v1 rfl rfl) h1
  have q1:fF a1:=bounds_i64 w1
  obtain ⟨a2,rfl,rfl,rfl,w2⟩:=open_int Try.underlying3 (hval 2 3 v2 rfl rfl) h2
  have q2:fF a2:=bounds_i64 w2
  clear hA0 hval0
  refine (El (wY a0 a1 a2) (args:=#[.int .i64 a0,.int .i64 a1,.int .i64 a2]) ⟨bp.v _ rfl,bp.v _ rfl,bp.v _ rfl,trivial⟩).mono fun e W' ⟨he,bel⟩=>?_
  subst he
  exact ⟨_,rfl,_,_,_,[],_,[],hW',trodAll_mk1 (shut_bool Try.underlying4 _),(trodAll_cons_mk (shut_int Try.underlying3 w0) (trodAll_cons_mk (shut_int Try.underlying3 w1) (trodAll_cons_mk (shut_int Try.underlying3 w2) trodAll_mk0))),rfl,bel.frame _,fun h=>by cases h⟩

theorem Dx:Try.pinned.checked.prog.funcNamed Rows.topReturnRow.func=some 3:=by kernel_rfl
theorem BX:joinedFacts Try.prog 3 Try.f3 Rows.topReturnSpec Rows.topReturnRow=true:=by
  unfold joinedFacts
  rw [sign_may,sign_lifts,sign_make]
  kernel_rfl
theorem EF:Try.f3.isInstance Try.pinned.checked.prog Rows.topReturnRow.origin Rows.topReturnRow.targs:=of_decide_eq_true (by kernel_rfl)
theorem ED:Try.f3.isWrapper Try.pinned.checked.prog Rows.topReturnRow.wrapper Rows.topReturnRow.mainSum:=by unfold Func.isWrapper;rw [if_neg (of_decide_eq_false (by kernel_rfl))];exact ⟨rfl,rfl⟩
theorem over:Rows.topReturnRow.holds Try.pinned (OpenSpec.ofChange Rows.topReturnSpec):=
  OpenClaim.holds_of_wide 3 Try.f3 rfl rfl rfl rfl rfl rfl rfl ⟨rfl,rfl,rfl,rfl,rfl⟩ rfl rfl rfl rfl rfl Dx Try.func3 BX EF ED (fun os started H enc _=>lifted os started H enc)

theorem proved:Rows.TopReturnSaid:=over
#print axioms proved
end Go.Proofs.Ytegepioggeggaaa.topReturn
