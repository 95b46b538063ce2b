/- paytop.TopDispute returns true whatever its input, and the input reads as it did. No conditions. -/
import Derived.Test.YtegepioggeggaaaFacts
import Derived.Test.YtegepioggeggaaaD16
set_option linter.unusedVariables false
set_option linter.unusedSimpArgs false
set_option maxRecDepth 100000
namespace Go.Proofs.Ytegepioggeggaaa.topDispute
open Go.ChangeShapes Go.WideShapes Go.ChangeAt Go.RowKit Go.Proofs.Ytegepioggeggaaa Go.Proofs.Ytegepioggeggaaa.Dev Go.Proofs
set_option linter.unusedVariables false

theorem own:ownKnob Try.prog.godebug=none:=by kernel_rfl
theorem laidOut:laidOutB Try.prog=true:=by kernel_rfl

theorem lifted (os:Os) (started:os.Started) (H:Type) (enc:TypeId×Value->H):
    ReturnsInHanded {} Try.checked os 15 .any (Rows.topDisputeSpec.pre6 enc Try.prog Try.f15 Rows.topDisputeRow.domain false) (Rows.topDisputeSpec.post enc Try.prog Try.f15 false true false false):=by
  refine returnsInHanded_of_change (C:=Try.checked) own started (by kernel_rfl) Try.func15
    (ChangeSpec.witness6 (enc:=enc) (C:=Try.checked) false ⟨#[],#[.int .i64 0,.int .i64 0,.int .i64 0,.bool false],[]⟩ 8 (by kernel_rfl) (by kernel_rfl) (by kernel_rfl) (by kernel_rfl)) ?_
  intro W base args ds gs before hval0 hW hcnd _
  have hval:∀ (j:Nat) t v,Try.f15.params[j]?=some t->args[j]?=some v->Value.okWide Try.prog W .any base t v:=hval0
  have hW':=hW
  obtain ⟨p,q,hA0,hV,rfl,hfz,hnd⟩:=hW
  have hA:DataW.TrodAll enc Try.prog W 0 (fun _=>true) true Try.f15.params.toList args.toList ds p:=hA0
  rw [Try.params15] at hA hval
  obtain ⟨v0,vs0,d0,ds0,p0,pq0,hargs,rfl,rfl,h0,r0⟩:=trodAll_cons hA
  obtain ⟨v1,vs1,d1,ds1,p1,pq1,rfl,rfl,rfl,h1,r1⟩:=trodAll_cons r0
  obtain ⟨v2,vs2,d2,ds2,p2,pq2,rfl,rfl,rfl,h2,r2⟩:=trodAll_cons r1
  obtain ⟨v3,vs3,d3,ds3,p3,pq3,rfl,rfl,rfl,h3,r3⟩:=trodAll_cons r2
  obtain ⟨rfl,rfl,rfl⟩:=trodAll_nil r3
  obtain rfl:args=#[v0,v1,v2,v3]:=by cases args;simp_all
  obtain ⟨rfl,rfl⟩:=trodVars_none hV
  obtain ⟨a0,rfl,rfl,rfl,w0⟩:=open_int Try.underlying3 (hval 0 3 v0 rfl rfl) h0
  have q0:fG a0:=bounds_i64 w0
  obtain ⟨a1,rfl,rfl,rfl,w1⟩:=open_int Try.underlying3 (hval 1 3 v1 rfl rfl) h1
  have q1:fG a1:=bounds_i64 w1
  obtain ⟨a2,rfl,rfl,rfl,w2⟩:=open_int Try.underlying3 (hval 2 3 v2 rfl rfl) h2
  have q2:fG a2:=bounds_i64 w2
  obtain ⟨a3,rfl,rfl,rfl⟩:=open_bool Try.underlying4 (hval 3 4 v3 rfl rfl) h3
  clear hA0 hval0
  refine (Ee (vV a0 a1 a2 a3) (args:=#[.int .i64 a0,.int .i64 a1,.int .i64 a2,.bool a3]) ⟨bl.v _ rfl,bl.v _ rfl,bl.v _ rfl,bl.v _ rfl,trivial⟩).mono fun e W' ⟨he,bel⟩=>?_
  subst he
  exact ⟨_,rfl,_,_,_,[],_,[],hW',trodAll_mk1 (shut_bool Try.underlying4 _),(trodAll_cons_mk (shut_int Try.underlying3 w0) (trodAll_cons_mk (shut_int Try.underlying3 w1) (trodAll_cons_mk (shut_int Try.underlying3 w2) (trodAll_cons_mk (shut_bool Try.underlying4 a3) trodAll_mk0)))),rfl,bel.frame _,fun h=>by cases h⟩

theorem Dt:Try.pinned.checked.prog.funcNamed Rows.topDisputeRow.func=some 15:=by kernel_rfl
theorem BR:joinedFacts Try.prog 15 Try.f15 Rows.topDisputeSpec Rows.topDisputeRow=true:=by
  unfold joinedFacts
  rw [sign_may,sign_lifts,sign_make]
  kernel_rfl
theorem Ex:Try.f15.isInstance Try.pinned.checked.prog Rows.topDisputeRow.origin Rows.topDisputeRow.targs:=of_decide_eq_true (by kernel_rfl)
theorem Ew:Try.f15.isWrapper Try.pinned.checked.prog Rows.topDisputeRow.wrapper Rows.topDisputeRow.mainSum:=by unfold Func.isWrapper;rw [if_neg (of_decide_eq_false (by kernel_rfl))];exact ⟨rfl,rfl⟩
theorem over:Rows.topDisputeRow.holds Try.pinned (OpenSpec.ofChange Rows.topDisputeSpec):=
  OpenClaim.holds_of_wide 15 Try.f15 rfl rfl rfl rfl rfl rfl rfl ⟨rfl,rfl,rfl,rfl,rfl⟩ rfl rfl rfl rfl rfl Dt Try.func15 BR Ex Ew (fun os started H enc _=>lifted os started H enc)

theorem proved:Rows.TopDisputeSaid:=over
#print axioms proved
end Go.Proofs.Ytegepioggeggaaa.topDispute
