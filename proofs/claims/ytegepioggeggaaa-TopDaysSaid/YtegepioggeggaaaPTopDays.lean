/- paytop.TopDays returns true whatever its input, and the input reads as it did. No conditions. -/
import Derived.Test.YtegepioggeggaaaFacts
import Derived.Test.YtegepioggeggaaaD17
set_option linter.unusedVariables false
set_option linter.unusedSimpArgs false
set_option maxRecDepth 100000
namespace Go.Proofs.Ytegepioggeggaaa.topDays
open Go.ChangeShapes Go.WideShapes Go.ChangeAt Go.RowKit Go.Proofs.Ytegepioggeggaaa Go.Proofs.Ytegepioggeggaaa.Dev Go.Proofs
set_option linter.unusedVariables false

theorem own:ownKnob Try.prog.godebug=none:=by kernel_rfl
theorem laidOut:laidOutB Try.prog=true:=by kernel_rfl

theorem lifted (os:Os) (started:os.Started) (H:Type) (enc:TypeId×Value->H):
    ReturnsInHanded {} Try.checked os 16 .any (Rows.topDaysSpec.pre6 enc Try.prog Try.f16 Rows.topDaysRow.domain false) (Rows.topDaysSpec.post enc Try.prog Try.f16 false true false false):=by
  refine returnsInHanded_of_change (C:=Try.checked) own started (by kernel_rfl) Try.func16
    (ChangeSpec.witness6 (enc:=enc) (C:=Try.checked) false ⟨#[],#[.int .i64 0,.slice none 0 0],[]⟩ 8 (by kernel_rfl) (by kernel_rfl) (by kernel_rfl) (by kernel_rfl)) ?_
  intro W base args ds gs before hval0 hW hcnd _
  have hval:∀ (j:Nat) t v,Try.f16.params[j]?=some t->args[j]?=some v->Value.okWide Try.prog W .any base t v:=hval0
  have hW':=hW
  obtain ⟨p,q,hA0,hV,rfl,hfz,hnd⟩:=hW
  have hA:DataW.TrodAll enc Try.prog W 0 (fun _=>true) true Try.f16.params.toList args.toList ds p:=hA0
  rw [Try.params16] at hA hval
  obtain ⟨v0,vs0,d0,ds0,p0,pq0,hargs,rfl,rfl,h0,r0⟩:=trodAll_cons hA
  obtain ⟨v1,vs1,d1,ds1,p1,pq1,rfl,rfl,rfl,h1,r1⟩:=trodAll_cons r0
  obtain ⟨rfl,rfl,rfl⟩:=trodAll_nil r1
  obtain rfl:args=#[v0,v1]:=by cases args;simp_all
  obtain ⟨rfl,rfl⟩:=trodVars_none hV
  obtain ⟨a0,rfl,rfl,rfl,w0⟩:=open_int Try.underlying3 (hval 0 3 v0 rfl rfl) h0
  have q0:gi a0:=bounds_i64 w0
  have k1:=h1
  have lt1:∀ x∈p1,x.block < W.heap.size:=by obtain ⟨m,hm⟩:=k1;exact DataW.trod_lt m _ _ _ hm
  obtain ⟨a1,g1,q1⟩:=xU Try.underlying30 (xV Try.underlying30 (by kernel_rfl) (by decide) (Bd Try.underlying3)) (hval 1 30 v1 rfl rfl) h1
  clear hA0 hval0
  refine (Gd (Cf a0 a1) (args:=#[.int .i64 a0,v1]) ⟨bo.v _ rfl,g1,trivial⟩).mono fun e W' ⟨he,bel⟩=>?_
  subst he
  exact ⟨_,rfl,_,_,_,[],_,[],hW',trodAll_mk1 (shut_bool Try.underlying4 _),(trodAll_cons_mk (shut_int Try.underlying3 w0) (trodAll_cons_mk (Below.trod laidOut (by kernel_rfl) (of_decide_eq_true (by kernel_rfl)) k1 bel lt1) trodAll_mk0)),rfl,bel.frame _,fun h=>by cases h⟩

theorem Fi:Try.pinned.checked.prog.funcNamed Rows.topDaysRow.func=some 16:=by kernel_rfl
theorem Dx:joinedFacts Try.prog 16 Try.f16 Rows.topDaysSpec Rows.topDaysRow=true:=by
  unfold joinedFacts
  rw [sign_may,sign_lifts,sign_make]
  kernel_rfl
theorem Gz:Try.f16.isInstance Try.pinned.checked.prog Rows.topDaysRow.origin Rows.topDaysRow.targs:=of_decide_eq_true (by kernel_rfl)
theorem Gy:Try.f16.isWrapper Try.pinned.checked.prog Rows.topDaysRow.wrapper Rows.topDaysRow.mainSum:=by unfold Func.isWrapper;rw [if_neg (of_decide_eq_false (by kernel_rfl))];exact ⟨rfl,rfl⟩
theorem over:Rows.topDaysRow.holds Try.pinned (OpenSpec.ofChange Rows.topDaysSpec):=
  OpenClaim.holds_of_wide 16 Try.f16 rfl rfl rfl rfl rfl rfl rfl ⟨rfl,rfl,rfl,rfl,rfl⟩ rfl rfl rfl rfl rfl Fi Try.func16 Dx Gz Gy (fun os started H enc _=>lifted os started H enc)

theorem proved:Rows.TopDaysSaid:=over
#print axioms proved
end Go.Proofs.Ytegepioggeggaaa.topDays
