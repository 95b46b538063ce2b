/- paylaw8.BankTells returns true whatever its input, and the input reads as it did. No conditions. -/
import Derived.Test.YtnfopdlnboeheaaGreatFacts
import Derived.Test.YtnfopdlnboeheaaGreatD16
set_option linter.unusedVariables false
set_option linter.unusedSimpArgs false
set_option maxRecDepth 100000
namespace Go.Proofs.YtnfopdlnboeheaaGreat.bankTells
open Go.ChangeShapes Go.WideShapes Go.ChangeAt Go.RowKit Go.Proofs.YtnfopdlnboeheaaGreat Go.Proofs.YtnfopdlnboeheaaGreat.Dev Go.Proofs
set_option linter.unusedVariables false

theorem own:ownKnob Tryz.prog.godebug=none:=by kernel_rfl
theorem laidOut:laidOutB Tryz.prog=true:=by kernel_rfl

theorem lifted (os:Os) (started:os.Started) (H:Type) (enc:TypeId×Value->H):
    ReturnsInHanded {} Tryz.checked os 3 .any (Rows.bankTellsSpec.pre6 enc Tryz.prog Tryz.f3 Rows.bankTellsRow.domain false) (Rows.bankTellsSpec.post enc Tryz.prog Tryz.f3 false true false false):=by
  refine returnsInHanded_of_change (C:=Tryz.checked) own started aJ Tryz.func3
    (ChangeSpec.witness6 (enc:=enc) (C:=Tryz.checked) false ⟨#[],#[.agg #[.slice none 0 0,.int .i64 0,.int .i64 0],.slice none 0 0],[]⟩ 8 aJ aJ aJ aJ) ?_
  intro W base args ds gs before hval0 hW hcnd _
  have hval:∀ (j:Nat) t v,Tryz.f3.params[j]?=some t->args[j]?=some v->Value.okWide Tryz.prog W .any base t v:=hval0
  have hW':=hW
  obtain ⟨p,q,hA0,hV,rfl,hfz,hnd⟩:=hW
  have hA:DataW.TrodAll enc Tryz.prog W 0 (fun _=>true) true Tryz.f3.params.toList args.toList ds p:=hA0
  rw [Tryz.params3] at hA hval
  obtain ⟨v0,vs0,d0,ds0,p0,pq0,hargs,rfl,rfl,h0,r0⟩:=trodAll_cons hA
  obtain ⟨v1,vs1,d1,ds1,p1,pq1,rfl,rfl,rfl,h1,r1⟩:=trodAll_cons r0
  obtain ⟨rfl,rfl,rfl⟩:=trodAll_nil r1
  obtain rfl:args=#[v0,v1]:=by cases args;simp_all
  obtain ⟨rfl,rfl⟩:=trodVars_none hV
  have k0:=h0
  have lt0:∀ x∈p0,x.block < W.heap.size:=by obtain ⟨m,hm⟩:=k0;exact DataW.trod_lt m _ _ _ hm
  obtain ⟨a0,g0,q0⟩:=yw Tryz.underlying24 Aa (hval 0 24 v0 rfl rfl) h0
  have k1:=h1
  have lt1:∀ x∈p1,x.block < W.heap.size:=by obtain ⟨m,hm⟩:=k1;exact DataW.trod_lt m _ _ _ hm
  obtain ⟨a1,g1,q1⟩:=zZ qy (tk qy aJ cm EU) (hval 1 25 v1 rfl rfl) h1
  clear hA0 hval0
  refine (HZ (AA a0 a1) (args:=#[v0,v1]) ⟨g0,g1,trivial⟩).mono fun e W' ⟨he,bel⟩=>?_
  subst he
  exact ⟨_,rfl,_,_,_,[],_,[],hW',trodAll_mk1 (shut_bool Tryz.underlying4 _),(trodAll_cons_mk (Below.trod laidOut aJ (of_decide_eq_true aJ) k0 bel lt0) (trodAll_cons_mk (Below.trod laidOut aJ (of_decide_eq_true aJ) k1 bel lt1) trodAll_mk0)),rfl,bel.frame _,fun h=>by cases h⟩

theorem Hj:Tryz.pinned.checked.prog.funcNamed Rows.bankTellsRow.func=some 3:=by kernel_rfl
theorem FA:joinedFacts Tryz.prog 3 Tryz.f3 Rows.bankTellsSpec Rows.bankTellsRow=true:=by
  unfold joinedFacts
  rw [sign_may,sign_lifts,sign_make]
  kernel_rfl
theorem Iv:Tryz.f3.isInstance Tryz.pinned.checked.prog Rows.bankTellsRow.origin Rows.bankTellsRow.targs:=of_decide_eq_true aJ
theorem Iu:Tryz.f3.isWrapper Tryz.pinned.checked.prog Rows.bankTellsRow.wrapper Rows.bankTellsRow.mainSum:=by unfold Func.isWrapper;rw [if_neg (of_decide_eq_false aJ)];exact ⟨rfl,rfl⟩
theorem over:Rows.bankTellsRow.holds Tryz.pinned (OpenSpec.ofChange Rows.bankTellsSpec):=
  OpenClaim.holds_of_wide 3 Tryz.f3 rfl rfl rfl rfl rfl rfl rfl ⟨rfl,rfl,rfl,rfl,rfl⟩ rfl rfl rfl rfl rfl Hj Tryz.func3 FA Iv Iu (fun os started H enc _=>lifted os started H enc)

theorem proved:Rows.BankTellsSaid:=over
#print axioms proved
end Go.Proofs.YtnfopdlnboeheaaGreat.bankTells
