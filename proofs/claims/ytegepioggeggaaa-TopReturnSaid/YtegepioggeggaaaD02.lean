/- A part of the proof: Sh12, Opn, Sh13, Sh14, Sh15, Dat, PlAuth, PlStand, Dat2, Abb, Ty, Sh16. No condition. -/
import Derived.Test.YtegepioggeggaaaD01
import Derived.Lib.SmallJoins
import Derived.Test.YtegepioggeggaaaProg
set_option linter.unusedVariables false
set_option linter.unusedSimpArgs false
namespace Go.Proofs.Ytegepioggeggaaa.Dev
open Go.RowKit
open Go.RowKit Go.ChangeShapes Go.WideShapes Go.Deep Go.Joins
section

section
variable {P:Program} {st:aE} {o:Oper}
theorem cJ.fv {σ:Nat->Option bK} {T T':Nat->Prop} {w:World} (h:∀ b,T' b->T b) {x:CV} {v:Value} (hx:cJ σ T w x v):cJ σ T' w x v:=by
 cases x with
 |any=>trivial
 |d x=>exact bp.fv h hx
 |p k i K o=>exact hx
 |q row o=>
  obtain ⟨b,off,h1,h2,h3,h4⟩:=hx
  refine ⟨b,off,h1,h2,fun hb=>h3 (h b hb),fun j d hj=>?_⟩
  obtain ⟨u,hu,hr⟩:=h4 j d hj
  exact ⟨u,hu,hr.fv h⟩
 |s k i K n=>exact hx
 |sx k i K n c e=>exact hx
 |m k=>exact hx
 |fn f bc=>exact hx
theorem df.fv {σ:Nat->Option bK} {T T':Nat->Prop} {w:World} (h:∀ b,T' b->T b) {x:GV} {v:Value} (hx:df σ T w x v):df σ T' w x v:=by
 cases x with
 |c x=>exact cJ.fv h (x:=x) hx
 |g xs=>obtain ⟨vs,h1,h2⟩:=hx;exact ⟨vs,h1,h2.mono fun _ _ hh=>hh.fv h⟩
theorem cZ.fv {σ:Nat->Option bK} {T T':Nat->Prop} {w:World} (h:∀ b,T' b->T b) {og:Option bK} (bJ:∀ g,og=some g->T g.g->T' g.g) {b:AB} (hx:cZ σ T w og b):cZ σ T' w og b:=by
 cases b with
 |box t cs=>obtain ⟨g,vs,h1,h2,h3,h4⟩:=hx;exact ⟨g,vs,h1,bJ g h1 h2,h3,h4.mono fun _ _ hh=>hh.fv h⟩
 |arr t K rows=>
  refine ⟨hx.1,?_⟩
  rcases hx.2 with h1|⟨g,vs,h1,h2,h3,h4,h5,h6⟩
  ·exact .inl h1
  ·exact .inr ⟨g,vs,h1,bJ g h1 h2,h3,h4,h5,h6.1,fun i row hi=>⟨(h6.2 i row hi).1,fun j d hj=>by
    obtain ⟨u,hu,hr⟩:=(h6.2 i row hi).2 j d hj
    exact ⟨u,hu,hr.fv h⟩⟩⟩
 |map es cl=>obtain ⟨g,ms,h1,h2,h3⟩:=hx;exact ⟨g,ms,h1,bJ g h1 h2,h3⟩
theorem cJ.up {σ : Nat → Option bK} {T : Nat → Prop} {w : World} {x : CV} {v : Value} (hx : cJ (fun _ => none) T w x v) : cJ σ T w x v := by
  cases x with
  | any => trivial
  | d x => exact hx
  | p k i K o => obtain ⟨g, h, _⟩ := hx; cases h
  | q row o => exact hx
  | s k i K n => rcases hx with h | ⟨g, h, _⟩
                 · exact .inl h
                 · cases h
  | sx k i K n c e => obtain ⟨g, off, h, _⟩ := hx; cases h
  | m k => obtain ⟨g, h, _⟩ := hx; cases h
  | fn f bc =>
    obtain ⟨gs, h1, h2⟩ := hx
    cases bc with
    | nil => cases gs with
      | nil => exact ⟨[], rfl, h2⟩
      | cons => cases h1
    | cons => cases gs with
      | nil => cases h1
      | cons => rw [List.map_cons, List.map_cons, List.cons.injEq] at h1; cases h1.1
theorem df.up {σ:Nat->Option bK} {T:Nat->Prop} {w:World} {x:GV} {v:Value} (hx:df (fun _=>none) T w x v):df σ T w x v:=by
 cases x with
 |c x=>exact cJ.up (x:=x) hx
 |g xs=>obtain ⟨vs,h1,h2⟩:=hx;exact ⟨vs,h1,h2.mono fun _ _ hh=>hh.up⟩
def Hv (st:aE) (E:List Nat) (ρ:Nat->Nat) (p:Nat->Bool) (g y:GV):Prop:=(g=y.map ρ/\y.ok p=true)\/sQ st E g y
def qa (st:aE) (E:List Nat) (ρ:Nat->Nat) (p:Nat->Bool):List Operand->List GV->Prop
 |[],[]=>True
 |x::xs,y::ys=>(∃ g,ev st x (.v g)/\Hv st E ρ p g y)/\qa st E ρ p xs ys
 |_,_=>False
def nJ (h:List (Nat×AB)) (k:Nat):Bool:=match look h k with|some (.box _ _)=>true|_=>false
def pA (h:List (Nat×AB)) (k:Nat):Prop:=nJ h k=true\/∃ t K rows,look h k=some (.arr t K rows)/\0 < rows.length
theorem tw {h:List (Nat×AB)} {cF:List Nat} (hk:cF.all (fun k=>nJ h k)=true):∀ k∈cF,pA h k:=fun k hm=>.inl (List.all_eq_true.1 hk k hm)
theorem lT {l:List Nat} {ρ:Nat->Nat} (h:eg (l.map ρ)=true):∀ k k',k∈l->k'∈l->ρ k=ρ k'->k=k':=by
 induction l with
 |nil=>intro _ _ h;cases h
 |cons j l ih=>
  simp only [List.map_cons,eg,Bool.and_eq_true,Bool.not_eq_true',List.any_eq_false] at h
  have far:∀ k,k∈l->ρ j≠ρ k:=fun k hm e=>h.1 (ρ k) (List.mem_map.2 ⟨k,hm,rfl⟩) (by rw [e];exact Nat.beq_refl _)
  intro k k' hk hk' he
  rcases List.mem_cons.1 hk with rfl|h1
  ·rcases List.mem_cons.1 hk' with h2|h2
   ·exact h2.symm
   ·exact absurd he (far _ h2)
  ·rcases List.mem_cons.1 hk' with rfl|h2
   ·exact absurd he.symm (far _ h1)
   ·exact ih h.2 k k' h1 h2 he
def pull (μ:Nat->Nat) (σ' σ:Nat->Option bK):List Nat->Nat->Option bK
 |[],j=>σ j
 |k::l,j=>if μ k=j then σ' k else pull μ σ' σ l j
theorem nt {μ:Nat->Nat} {σ' σ:Nat->Option bK} {l:List Nat} (hi:∀ k k',k∈l->k'∈l->μ k=μ k'->k=k') {k:Nat} (hk:k∈l):pull μ σ' σ l (μ k)=σ' k:=by
 induction l with
 |nil=>cases hk
 |cons j l ih=>
  show (if μ j=μ k then σ' j else pull μ σ' σ l (μ k))=σ' k
  by_cases e:μ j=μ k
  ·rw [if_pos e,hi j k List.mem_cons_self hk e]
  ·rw [if_neg e]
   exact ih (fun a b ha hb=>hi a b (List.mem_cons_of_mem _ ha) (List.mem_cons_of_mem _ hb)) ((List.mem_cons.1 hk).resolve_left fun h=>e (by rw [h]))
theorem lR {μ:Nat->Nat} {σ' σ:Nat->Option bK} {l:List Nat} {j:Nat} (h:∀ k∈l,μ k≠j):pull μ σ' σ l j=σ j:=by
 induction l with
 |nil=>rfl
 |cons k l ih=>
  show (if μ k=j then σ' k else pull μ σ' σ l j)=σ j
  rw [if_neg (h k List.mem_cons_self)]
  exact ih fun k hk=>h k (List.mem_cons_of_mem _ hk)
theorem lA {f:FuncId} {c:Call} {ins:List GV} {bJ:List (Nat×AB)} {cF:List Nat} {av av':AV} {nb nb':List (Nat×AB)} {EE:List Nat} {p:D->Prop} (ρ μ:Nat->Nat) (E:List Nat) (hF:cC P f ins bJ cF av nb) (hen:bd P f) (ho:o.op=.call c) (hc:c.callee=.value (.func f))
  (hargs:qa st E ρ (bj bJ) c.args.toList ins) (hheap:dg (fun x=>look st.h (ρ x.1)=some (x.2.map' ρ)) bJ) (hokin:bJ.all (fun x=>x.2.ok (bj bJ))=true) (hinj:eg ((keys bJ).map ρ)=true) (hE:bJ.all (fun x=>!dJ (ρ x.1) E)=true) (hEl:E.all (fun e=>bj st.h e)=true)
  (hkeep:∀ k∈cF,pA bJ k) (hEE:(keys bJ).map ρ=EE) (hμ:eg ((keys nb).map μ)=true) (hμk:(keys nb).all (fun k=>(dJ k cF && Nat.beq (μ k) (ρ k))||(!dJ k cF && !dJ (μ k) EE))=true)
  (hg:av.eb p) (hgb:dg (fun x=>x.2.eb p) nb) (hok:av.ok (bj nb)=true) (hokb:nb.all (fun x=>x.2.ok (bj nb))=true) (hav:av.map μ=av') (hnb:fL μ nb=nb')
  (hD:∀ (σ:Nat->Option bK) (T Tc T':Nat->Prop) (w':World) d v,(∀ b,T' b->T b\/Tc b)->(∀ b,fB σ T E b->Tc b)->p d->bp Tc w' d v->bp T' w' d v):aH P o st av' nb' EE:=by
 intro σ T a w C hnew
 subst hav hnb hEE
 have hinj':=lT hinj
 have hin_mem:∀ k,bj bJ k=true->k∈keys bJ:=fun k hk=>by
  obtain ⟨b,hb⟩:=gi hk
  exact List.mem_map.2 ⟨(k,b),hb,rfl⟩
 have mem_in:∀ k,k∈keys bJ->bj bJ k=true:=fun k hk=>by
  obtain ⟨x,hx,rfl⟩:=List.mem_map.1 hk
  exact cK (b:=x.2) hx
 let σc:Nat->Option bK:=fun k=>if bj bJ k=true then σ (ρ k) else none
 have hσc:∀ k,bj bJ k=true->σc k=σ (ρ k):=fun k hk=>if_pos hk
 let Tc:=fB σ T E
 have hlow:∀ b,Tc b->T b:=fun b h=>h.1
 have hsep:∀ k b g,(k,b)∈bJ->σ (ρ k)=some g->Tc g.g:=by
  intro k b g hk hg
  refine ⟨(C.heap _ _ (hheap.mem _ hk)).nW hg,fun e he g' hg' hgg=>?_⟩
  obtain ⟨b',hb'⟩:=gi (List.all_eq_true.1 hEl e he)
  have hb':∃ b',look st.h e=some b':=by
   have:=List.all_eq_true.1 hEl e he
   cases hl:look st.h e with
   |none=>simp [bj,hl] at this
   |some b'=>exact ⟨b',rfl⟩
  obtain ⟨b',hb'⟩:=hb'
  have heq:=C.inj e (ρ k) b' _ g' g hb' (hheap.mem _ hk) hg' hg hgg
  have:=List.all_eq_true.1 hE _ hk
  simp only [Bool.not_eq_true'] at this
  rw [<-heq,eE.2 he] at this
  cases this
 have hh:∀ k b,(k,b)∈bJ->cZ σc Tc w (σc k) b:=by
  intro k b hk
  have hkin:=cK hk
  rw [hσc k hkin]
  refine cZ.fv hlow (fun g hg _=>hsep k b g hk hg) ?_
  exact cZ.bZ (ρ:=ρ) hσc (C.heap _ _ (hheap.mem _ hk)) (List.all_eq_true.1 hokin _ hk)
 have hij:∀ k k' b b' g g',(k,b)∈bJ->(k',b')∈bJ->σc k=some g->σc k'=some g'->g.g=g'.g->k=k':=by
  intro k k' b b' g g' hk hk' hg hg' hgg
  rw [hσc k (cK hk)] at hg
  rw [hσc k' (cK hk')] at hg'
  exact hinj' k k' (hin_mem _ (cK hk)) (hin_mem _ (cK hk')) (C.inj _ _ _ _ g g' (hheap.mem _ hk) (hheap.mem _ hk') hg hg' hgg)
 have hkp:∀ k∈cF,bj bJ k=true/\∃ g,σ (ρ k)=some g:=by
  intro k hk
  rcases hkeep k hk with this|⟨t,K,rows,hl,hpos⟩
  ·unfold nJ at this
   cases hl:look bJ k with
   |none=>simp [hl] at this
   |some b=>
    cases b with
    |box t cs=>
     refine ⟨by simp [bj,hl],?_⟩
     obtain ⟨g,_,h1,_⟩:=C.heap _ _ (hheap.mem _ (bH hl))
     exact ⟨g,h1⟩
    |arr=>simp [hl] at this
    |map=>simp [hl] at this
  ·refine ⟨by simp [bj,hl],?_⟩
   obtain ⟨_,h1|⟨g,_,h1,_⟩⟩:=C.heap _ _ (hheap.mem _ (bH hl))
   ·obtain ⟨h1,_⟩:=h1
    rw [h1] at hpos;cases hpos
   ·exact ⟨g,h1⟩
 have hrel:cj (df σc Tc w) ins (c.args.map a.eval).toList:=by
  rw [Array.toList_map]
  have gen:∀ (xs:List Operand) (ys:List GV),qa st E ρ (bj bJ) xs ys->cj (df σc Tc w) ys (xs.map a.eval):=by
   intro xs
   induction xs with
   |nil=>intro ys h;cases ys with
    |nil=>trivial
    |cons=>exact h.elim
   |cons x xs ih=>
    intro ys h
    cases ys with
    |nil=>exact h.elim
    |cons y ys=>
     refine ⟨?_,ih ys h.2⟩
     obtain ⟨g,h1,h2|h2⟩:=h.1
     ·obtain ⟨h2,h3⟩:=h2
      subst h2
      exact df.fv hlow (df.bZ (ρ:=ρ) hσc (x:=y) (bI C h1) h3)
     ·exact df.up (h2.rel C (bI C h1))
  exact gen _ _ hargs
 refine mE ho hc hen ((hF Tc σc w _ (fun b h=>C.ew b h.1) hh hij (fun k hk=>?_) hrel).mono ?_)
 ·obtain ⟨h1,g,h2⟩:=hkp k hk
  exact ⟨g,by rw [hσc k h1,h2]⟩
 rintro e w' ⟨v,σ',T',rfl,R⟩
 let T2:Nat->Prop:=fun b=>T b\/T' b
 let σ2:=pull μ σ' σ (keys nb)
 have hμ':=lT hμ
 have hσ2:∀ k,bj nb k=true->σ2 (μ k)=σ' k:=fun k hk=>by
  obtain ⟨b,hb⟩:=gi hk
  exact nt hμ' (List.mem_map.2 ⟨(k,b),hb,rfl⟩)
 have hD':∀ d v,p d->bp T' w' d v->bp T2 w' d v:=fun d v=>hD σ T T' T2 w' d v (fun b h=>h) R.mb
 have hmem:∀ k b,(k,b)∈fL μ nb->∃ k0 b0,(k0,b0)∈nb/\k=μ k0/\b=b0.map' μ:=by
  intro k b h
  obtain ⟨⟨k0,b0⟩,h1,h2⟩:=List.mem_map.1 h
  injection h2 with h2 h3
  exact ⟨k0,b0,h1,h2.symm,h3.symm⟩
 have hcase:∀ k∈keys nb,(k∈cF/\μ k=ρ k)\/(k ∉ cF/\μ k ∉ (keys bJ).map ρ):=by
  intro k hk
  have:=List.all_eq_true.1 hμk k hk
  simp only [Bool.or_eq_true,Bool.and_eq_true,Bool.not_eq_true'] at this
  rcases this with ⟨h1,h2⟩|⟨h1,h2⟩
  ·exact .inl ⟨eE.1 h1,Nat.eq_of_beq_eq_true h2⟩
  ·exact .inr ⟨fun h=>(Bool.eq_false_iff.1 h1) (eE.2 h),fun h=>(Bool.eq_false_iff.1 h2) (eE.2 h)⟩
 have C2:∀ b,(∃ k∈(keys bJ).map ρ,∃ g,σ k=some g/\g.g=b)↔∃ k∈keys bJ,∃ g,σc k=some g/\g.g=b:=by
  intro b
  constructor
  ·rintro ⟨k,hk,g,hg,hgb⟩
   obtain ⟨k0,hk0,rfl⟩:=List.mem_map.1 hk
   exact ⟨k0,hk0,g,by rw [hσc k0 (mem_in k0 hk0)];exact hg,hgb⟩
  ·rintro ⟨k,hk,g,hg,hgb⟩
   rw [hσc k (mem_in k hk)] at hg
   exact ⟨ρ k,List.mem_map.2 ⟨k,hk,rfl⟩,g,hg,hgb⟩
 refine ⟨v,rfl,v,σ2,T2,rfl,⟨R.os,R.tape,R.output,⟨R.size,fun b hb hno=>R.cz b hb fun k hk g hg hgb=>hno ((C2 b).2 ⟨k,hk,g,hg,hgb⟩),fun b hb=>?_,fun b hb h=>?_,fun j g hj=>?_⟩,fun b h=>.inl h,fun b h=>?_,fun j hj=>?_,?_,?_,?_⟩,R.rel.back hD' hσ2 hg hok⟩
 ·obtain ⟨k,hk,g,hg,rfl⟩:=hb
  obtain ⟨k0,hk0,rfl⟩:=List.mem_map.1 hk
  obtain ⟨x,hx,rfl⟩:=List.mem_map.1 hk0
  exact (C.heap _ _ (hheap.mem x hx)).nW hg
 ·rcases h with h|h
  ·exact h
  ·exact (R.kU b hb h).1
 ·show pull μ σ' σ (keys nb) j=some g
  by_cases hex:∃ k∈keys nb,μ k=j
  ·obtain ⟨k,hk,rfl⟩:=hex
   rw [nt hμ' hk]
   rcases hcase k hk with ⟨h1,h2⟩|⟨h1,h2⟩
   ·rw [R.kept k h1,hσc k (hkp k h1).1,<-h2];exact hj
   ·obtain ⟨x,hx,rfl⟩:=List.mem_map.1 hk
    have:=hnew (μ x.1) (x.2.map' μ) (List.mem_map.2 ⟨x,hx,rfl⟩) h2
    rw [this] at hj;cases hj
  ·rw [lR fun k hk e=>hex ⟨k,hk,e⟩];exact hj
 ·rcases h with h|h
  ·exact Nat.lt_of_lt_of_le (C.ew b h) R.size
  ·exact R.ew b h
 ·exact lR fun k hk e=>by
   obtain ⟨x,hx,rfl⟩:=List.mem_map.1 hk
   exact hj (x.2.map' μ) (List.mem_map.2 ⟨x,hx,by rw [e]⟩)
 ·intro k b h
  obtain ⟨k0,b0,h1,rfl,rfl⟩:=hmem k b h
  rw [hσ2 k0 (cK h1)]
  exact (R.heap k0 b0 h1).back hD' hσ2 (fun b h=>.inr h) (hgb.mem _ h1) (List.all_eq_true.1 hokb _ h1)
 ·intro k b g h hg
  obtain ⟨k0,b0,h1,rfl,rfl⟩:=hmem k b h
  rw [hσ2 k0 (cK h1)] at hg
  rcases R.fresh k0 b0 g h1 hg with h2|⟨e,he,g',hg',hgg⟩
  ·exact .inl h2
  ·exact .inr ((C2 g.g).2 ⟨e,he,g',hg',hgg⟩)
 ·intro k k' b b' g g' h h' hg hg' hgg
  obtain ⟨k0,b0,h1,rfl,rfl⟩:=hmem k b h
  obtain ⟨k1,b1,h2,rfl,rfl⟩:=hmem k' b' h'
  rw [hσ2 k0 (cK h1)] at hg
  rw [hσ2 k1 (cK h2)] at hg'
  rw [R.inj k0 k1 b0 b1 g g' h1 h2 hg hg' hgg]
theorem cw {f:FuncId} {c:Call} {ins:List GV} {bJ:List (Nat×AB)} {cF:List Nat} {av av':AV} {nb nb':List (Nat×AB)} {EE:List Nat} (ρ μ:Nat->Nat) (hF:cC P f ins bJ cF av nb) (hen:bd P f) (ho:o.op=.call c) (hc:c.callee=.value (.func f))
  (hargs:qa st [] ρ (bj bJ) c.args.toList ins) (hheap:dg (fun x=>look st.h (ρ x.1)=some (x.2.map' ρ)) bJ) (hokin:bJ.all (fun x=>x.2.ok (bj bJ))=true) (hinj:eg ((keys bJ).map ρ)=true)
  (hkeep:cF.all (fun k=>nJ bJ k)=true) (hEE:(keys bJ).map ρ=EE) (hμ:eg ((keys nb).map μ)=true) (hμk:(keys nb).all (fun k=>(dJ k cF && Nat.beq (μ k) (ρ k))||(!dJ k cF && !dJ (μ k) EE))=true)
  (hg:av.eb (fun _=>True)) (hgb:dg (fun x=>x.2.eb fun _=>True) nb) (hok:av.ok (bj nb)=true) (hokb:nb.all (fun x=>x.2.ok (bj nb))=true) (hav:av.map μ=av') (hnb:fL μ nb=nb'):aH P o st av' nb' EE:=
 lA ρ μ [] hF hen ho hc hargs hheap hokin hinj (by simp [dJ]) rfl (tw hkeep) hEE hμ hμk hg hgb hok hokb hav hnb fun σ T Tc T' w' d v h1 h2 _ h=>h.fv fun b hb=>by
  rcases h1 b hb with h|h
  ·exact h2 b ⟨h,fun k hk=>by cases hk⟩
  ·exact h
theorem vB {f:FuncId} {c:Call} {ins:List GV} {bJ:List (Nat×AB)} {cF:List Nat} {av av':AV} {nb nb':List (Nat×AB)} {EE:List Nat} (ρ μ:Nat->Nat) (E:List Nat) (hF:cC P f ins bJ cF av nb) (hen:bd P f) (ho:o.op=.call c) (hc:c.callee=.value (.func f))
  (hargs:qa st E ρ (bj bJ) c.args.toList ins) (hheap:dg (fun x=>look st.h (ρ x.1)=some (x.2.map' ρ)) bJ) (hokin:bJ.all (fun x=>x.2.ok (bj bJ))=true) (hinj:eg ((keys bJ).map ρ)=true) (hE:bJ.all (fun x=>!dJ (ρ x.1) E)=true) (hEl:E.all (fun e=>bj st.h e)=true)
  (hkeep:cF.all (fun k=>nJ bJ k)=true) (hEE:(keys bJ).map ρ=EE) (hμ:eg ((keys nb).map μ)=true) (hμk:(keys nb).all (fun k=>(dJ k cF && Nat.beq (μ k) (ρ k))||(!dJ k cF && !dJ (μ k) EE))=true)
  (hg:av.eb (fun d=>d.oI=true)) (hgb:dg (fun x=>x.2.eb fun d=>d.oI=true) nb) (hok:av.ok (bj nb)=true) (hokb:nb.all (fun x=>x.2.ok (bj nb))=true) (hav:av.map μ=av') (hnb:fL μ nb=nb'):aH P o st av' nb' EE:=
 lA ρ μ E hF hen ho hc hargs hheap hokin hinj hE hEl (tw hkeep) hEE hμ hμk hg hgb hok hokb hav hnb fun σ T Tc T' w' d v h1 h2 hp h=>by
  cases d with
  |v x=>cases h;exact .v _ (by assumption)
  |r=>cases hp
  |f=>cases hp
theorem dN {f:FuncId} {c:Call} {ins:List GV} {bJ:List (Nat×AB)} {cF:List Nat} {av av':AV} {nb nb':List (Nat×AB)} {EE:List Nat} (ρ μ:Nat->Nat) (hF:cC P f ins bJ cF av nb) (hen:bd P f) (ho:o.op=.call c) (hc:c.callee=.value (.func f))
  (hargs:qa st [] ρ (bj bJ) c.args.toList ins) (hheap:dg (fun x=>look st.h (ρ x.1)=some (x.2.map' ρ)) bJ) (hokin:bJ.all (fun x=>x.2.ok (bj bJ))=true) (hinj:eg ((keys bJ).map ρ)=true)
  (hkeep:dg (pA bJ) cF) (hEE:(keys bJ).map ρ=EE) (hμ:eg ((keys nb).map μ)=true) (hμk:(keys nb).all (fun k=>(dJ k cF && Nat.beq (μ k) (ρ k))||(!dJ k cF && !dJ (μ k) EE))=true)
  (hg:av.eb (fun _=>True)) (hgb:dg (fun x=>x.2.eb fun _=>True) nb) (hok:av.ok (bj nb)=true) (hokb:nb.all (fun x=>x.2.ok (bj nb))=true) (hav:av.map μ=av') (hnb:fL μ nb=nb'):aH P o st av' nb' EE:=
 lA ρ μ [] hF hen ho hc hargs hheap hokin hinj (by simp [dJ]) rfl (fun k hk=>hkeep.mem k hk) hEE hμ hμk hg hgb hok hokb hav hnb fun σ T Tc T' w' d v h1 h2 _ h=>h.fv fun b hb=>by
  rcases h1 b hb with h|h
  ·exact h2 b ⟨h,fun k hk=>by cases hk⟩
  ·exact h
end
section
variable {P:Program} {W0:World} {F:Nat->Prop} {N:NT} {T0:Nat->Prop} {pin:List (Nat×bK)} {ops:Array Oper} {Q:Exit->aE->Prop} {s:List (Nat×AV)} {h:List (Nat×AB)} {n:Nat}
theorem jM {h:List (Nat×AB)} {k:Nat} (hk:bj h k=true):∃ b,look h k=some b:=by
 cases hl:look h k with
 |none=>simp [bj,hl] at hk
 |some b=>exact ⟨b,rfl⟩
theorem CE {o:Oper} {rest:List Oper} {d n':Nat} {av:AV} {nb h':List (Nat×AB)} {E:List Nat} (hw:al ops o ⟨s,h,n⟩) (g:aH P o ⟨s,h,n⟩ av nb E) (hd:o.dst=some d) (hN:Nat.blt d N.1=true) (hE:E.all (fun e=>bj h e)=true) (hnb:nb.all (fun x=>dJ x.1 E||Nat.ble n x.1)=true) (hn:iF nb n=n') (hh:nb++del E h=h') (k:AL P W0 F N T0 pin ops Q rest ⟨(d,av)::s,h',n'⟩):AL P W0 F N T0 pin ops Q (o::rest) ⟨s,h,n⟩:=
 sa hw g (fun d' h'=>by rw [hd] at h';injection h' with h';subst h';rw [Nat.blt_eq] at hN;exact hN) (fun e he=>jM (List.all_eq_true.1 hE e he)) (fun k b hk hkE=>by
  have:=List.all_eq_true.1 hnb _ hk
  simp only [Bool.or_eq_true] at this
  rcases this with h|h
  ·exact absurd (eE.1 h) hkE
  ·exact Nat.le_of_ble_eq_true h) (by
  have e:(aE.add ⟨s,h,n⟩ nb E)=⟨s,h',n'⟩:=by simp [aE.add,<-hn,<-hh]
  rw [e,hd];exact k)
theorem aD.cut {s:List (Nat×AV)} {h h':List (Nat×AB)} {n:Nat} (k m:Nat) {t K:Nat} {rows rows':List (List D)} (hb:look h k=some (.arr t K rows)) (hr:rows.take m=rows') (hh:ky h k (.arr t K rows')=h'):aD pin ⟨s,h,n⟩ ⟨s,h',n⟩:=by
 subst hr hh
 rintro W0 F N T0 a w ⟨σ,T,hT,S,hp⟩
 have cases_:∀ i b,look (ky h k (.arr t K (rows.take m))) i=some b->(i=k/\b=.arr t K (rows.take m))\/(i≠k/\look h i=some b):=by
  intro i b hi
  rcases kb hi with h1|h1|h1
  ·exact .inl h1
  ·exact .inr h1
  ·exact h1.2.elim
 have cz:∀ i b,look (ky h k (.arr t K (rows.take m))) i=some b->∃ b0,look h i=some b0:=fun i b hi=>by
  rcases cases_ i b hi with ⟨rfl,_⟩|⟨_,h1⟩
  ·exact ⟨_,hb⟩
  ·exact ⟨_,h1⟩
 refine ⟨σ,T,hT,⟨⟨S.core.fo,?_,?_,S.core.ew⟩,S.os,S.tape,S.output,S.size,S.cz,?_,S.next,?_,S.jA,S.jj⟩,hp⟩
 ·intro i b hi
  rcases cases_ i b hi with ⟨rfl,rfl⟩|⟨_,h1⟩
  ·obtain ⟨hK,h1⟩:=S.core.heap _ _ hb
   refine ⟨hK,?_⟩
   rcases h1 with ⟨h1,h2⟩|⟨g,vs,h1,h2,h3,h4,h5,h6⟩
   ·exact .inl ⟨by rw [h1];simp,h2⟩
   ·refine .inr ⟨g,vs,h1,h2,h3,h4,h5,?_,fun i row hi=>?_⟩
    ·refine Nat.le_trans (Nat.mul_le_mul_right K ?_) h6.1
     rw [List.length_take];omega
    ·rw [List.getElem?_take] at hi
     split at hi
     ·exact h6.2 i row hi
     ·cases hi
  ·exact S.core.heap i b h1
 ·intro i i' b b' g g' hi hi' hg hg' hgg
  obtain ⟨b0,h0⟩:=cz i b hi
  obtain ⟨b1,h1⟩:=cz i' b' hi'
  exact S.core.inj i i' b0 b1 g g' h0 h1 hg hg' hgg
 ·intro i b g hi hg
  obtain ⟨b0,h0⟩:=cz i b hi
  exact S.own i b0 g h0 hg
 ·intro i b hi
  obtain ⟨b0,h0⟩:=cz i b hi
  exact S.hn i b0 h0
end
end
section

def fF (n:Int):Prop:=-9223372036854775808<=n/\n<=9223372036854775807
def Gu:Nat->Prop:=fun _=>False
section
variable {P:Program} {t e:TypeId}
end
section
variable {H:Type} {enc:TypeId×Value->H} {P:Program} {w:World} {base:Nat} {spare:Nat->Bool} {held:Bool} {t:TypeId}
end
theorem El {P:Program} {f:FuncId} {ins:List GV} (h:Fn P f ins (aB true) []) {w:World} {args:Array Value} (hargs:cj (df (fun _=>none) Gu w) ins args.toList):Calls P f args w fun e w'=>e=.returned (.bool true)/\Below w.heap.size w w':=
 (h Gu w args (fun _ h=>h.elim) hargs).mono fun e w' ⟨v,σ,T',he,hb,R⟩=>⟨by rw [he,bp.inv R.rel],hb⟩
end
section

theorem bp.len {T:Nat->Prop} {w:World} {K:Nat} {rows:List (List D)} {v:Value} (h:bp T w (.r K rows) v):rows.length<=9223372036854775807:=by
 cases h with
 |nil=>simp
 |r=>omega
section
variable {P:Program} {W0:World} {F:Nat->Prop} {N:NT} {T0:Nat->Prop} {pin:List (Nat×bK)} {Q:Exit->aE->Prop} {s:List (Nat×AV)} {h:List (Nat×AB)} {n:Nat}
theorem dH {c:Code} {α:Type} {f:α->List D} {xs:List α} {K:Nat} (i:Nat) (hs:look s i=some (.v (.c (.d (.r K (xs.map f)))))) (k:xs.length<=9223372036854775807->AC P W0 F N T0 pin Q c ⟨s,h,n⟩):AC P W0 F N T0 pin Q c ⟨s,h,n⟩:=fun a w hI=>by
 obtain ⟨σ,T,hT,S,hp⟩:=hI
 have h1:=bp.len (show bp T w (.r K (xs.map f)) _ from S.core.fo i _ hs)
 rw [List.length_map] at h1
 exact k h1 a w ⟨σ,T,hT,S,hp⟩
theorem fP {c:Code} {k r K m:Nat} (i:Nat) (hs:look s i=some (.v (.c (.s k r K m)))) (hk:m<=9223372036854775807->AC P W0 F N T0 pin Q c ⟨s,h,n⟩):AC P W0 F N T0 pin Q c ⟨s,h,n⟩:=fun a w hI=>by
 obtain ⟨σ,T,hT,S,hp⟩:=hI
 have h1:cJ σ T w (.s k r K m) _:=S.core.fo i _ hs
 refine hk ?_ a w ⟨σ,T,hT,S,hp⟩
 rcases h1 with ⟨h0,_⟩|⟨g,_,_,h2,h3⟩<;>omega
theorem fl {c:Code} {α:Type} {f:α->List D} {xs:List α} {K:Nat} {cs:List CV} (i j:Nat) (hs:look s i=some (.v (.g cs))) (hj:cs[j]?=some (.d (.r K (xs.map f)))) (k:xs.length<=9223372036854775807->AC P W0 F N T0 pin Q c ⟨s,h,n⟩):AC P W0 F N T0 pin Q c ⟨s,h,n⟩:=fun a w hI=>by
 obtain ⟨σ,T,hT,S,hp⟩:=hI
 obtain ⟨vs,h1,h2⟩:=S.core.fo i _ hs
 obtain ⟨y,hy,hr⟩:=h2.get hj
 have h1:=bp.len (show bp T w (.r K (xs.map f)) _ from hr)
 rw [List.length_map] at h1
 exact k h1 a w ⟨σ,T,hT,S,hp⟩
end
theorem cZ.cut {σ:Nat->Option bK} {T:Nat->Prop} {w:World} {og:Option bK} {t K:Nat} {rows:List (List D)} (m:Nat) (h:cZ σ T w og (.arr t K rows)):cZ σ T w og (.arr t K (rows.take m)):=by
 obtain ⟨hK,h1⟩:=h
 refine ⟨hK,?_⟩
 rcases h1 with ⟨h1,h2⟩|⟨g,vs,h1,h2,h3,h4,h5,h6⟩
 ·exact .inl ⟨by rw [h1];simp,h2⟩
 ·refine .inr ⟨g,vs,h1,h2,h3,h4,h5,?_,fun i row hi=>?_⟩
  ·refine Nat.le_trans (Nat.mul_le_mul_right K ?_) h6.1
   rw [List.length_take];omega
  ·rw [List.getElem?_take] at hi
   split at hi
   ·exact h6.2 i row hi
   ·cases hi
theorem Ext.stay {σ:Nat->Option bK} {T:Nat->Prop} {st:aE} {a:Act} {w:World} (C:Core σ T st a w) {k:Nat} {b b0:AB} (hb0:look st.h k=some b0) (hr:cZ σ T w (σ k) b):Ext σ T w σ T w [(k,b)] [k]:=by
 refine ⟨rfl,rfl,rfl,⟨Nat.le_refl _,fun _ _ _=>rfl,?_,fun _ _ h=>h,fun _ _ h=>h⟩,fun _ h=>h,C.ew,fun _ _=>rfl,?_,?_,?_⟩
 ·rintro b' ⟨k',hk',g',hg',rfl⟩
  rw [List.mem_singleton.1 hk'] at hg'
  exact (C.heap k b0 hb0).nW hg'
 ·intro j b' h
  obtain ⟨rfl,rfl⟩:=Prod.mk.inj (List.mem_singleton.1 h)
  exact hr
 ·intro j b' g' h hg'
  obtain ⟨rfl,rfl⟩:=Prod.mk.inj (List.mem_singleton.1 h)
  exact .inr ⟨j,List.mem_singleton.2 rfl,g',hg',rfl⟩
 ·intro j j' b1 b2 g1 g2 h h' _ _ _
  obtain ⟨rfl,_⟩:=Prod.mk.inj (List.mem_singleton.1 h)
  obtain ⟨rfl,_⟩:=Prod.mk.inj (List.mem_singleton.1 h')
  rfl
theorem sC {P:Program} {st:aE} {o:Oper} {x:Operand} {c:Call} {t e bt K bytes k i n:Nat} {z:Value} {zs:List Value} {rows rows':List (List D)} (hT:hO P t e K bytes) (hz:(P.info? e).bind (fun i=>i.zero)=some z) (hzs:z.cells.toList=zs) (h1:zs.all (·.oneCell')=true)
  (ho:o.op=.call c) (hc:c.callee=.builtin .clear) (ha:c.args=#[x]) (hat:c.argTypes=#[t]) (hd:o.dst=none) (hx:ev st x (.v (.c (.s k i K n)))) (hb:look st.h k=some (.arr bt K rows)) (hr:rows.take i=rows'):aH P o st (.v (.c .any)) [(k,.arr bt K rows')] [k]:=by
 subst hr
 intro σ T a w C _
 have hxv:=bI C hx
 have hh:=C.heap k _ hb
 have quiet:∀ A c',a.eval x=.slice A 0 c'->o.wp P a w (fun a' w'=>∃ u σ' T',a'=a.put o.dst u/\Ext σ T w σ' T' w' [(k,.arr bt K (rows.take i))] [k]/\eD σ' T' w' (.v (.c .any)) u) xw:=fun A c' hv=>by
  refine gE (v:=.tuple #[]) ?_ ⟨_,σ,T,rfl,Ext.stay C hb (hh.cut i),trivial⟩
  unfold execOp
  cases A<;>simp [ho,resolve,hc,ha,hat,invoke,builtin,hv,Builtin.clear_,run_underlying hT.u]
 rcases hxv with ⟨h0,hv⟩|⟨g,hg,hv,bJ,h63⟩
 ·exact quiet none 0 hv
 ·by_cases hn:n=0
  ·subst hn;exact quiet _ _ hv
  ·obtain ⟨hK,hh'⟩:=hh
   rcases hh' with ⟨_,h⟩|⟨g',vs,e1,e2,e3,e4,e5,e6⟩
   ·rw [hg] at h;cases h
   rw [hg] at e1;injection e1 with e1;subst e1
   obtain ⟨ii,z',hii,hzz,hs,hby,hzc⟩:=hT.i
   have hz':z'=z:=by simpa [hii,hzz] using hz
   subst hz'
   have hlen:(Builtin.zeroCells z'.cells n).toList.length=n * K:=by simp [Builtin.zeroCells,hzc]
   have hone:∀ u∈(Builtin.zeroCells z'.cells n).toList,u.oneCell'=true:=by
    intro u hu
    simp only [Builtin.zeroCells,Array.toList_map,List.mem_map] at hu
    obtain ⟨q,_,rfl⟩:=hu
    have hlt:q % z'.cells.size < z'.cells.size:=Nat.mod_lt _ (by rw [hzc];exact hK)
    rw [getElem!_pos z'.cells (q % z'.cells.size) hlt]
    subst hzs
    exact List.all_eq_true.1 h1 _ (by simp)
   have hfit:i * K+n * K<=vs.length:=by rw [e4,<-Nat.add_mul];exact Nat.mul_le_mul_right _ bJ
   have hst:=run_storeCells_at (P:=P) g.g (i * K) bt (Builtin.zeroCells z'.cells n).toList 0 vs.toArray w e3 (by rw [hlen];simpa using hfit) hone
   obtain ⟨m,rfl⟩:∃ m,n=m+1:=⟨n - 1,by omega⟩
   have hzv:(zeroValue e).run P w=.ok z' w:=by simp [zeroValue,typeInfo,hii,hzz]
   refine gE (v:=.tuple #[]) (w':=w.setRow g.g (vs.take (i * K)++(Builtin.zeroCells z'.cells (m+1)).toList++vs.drop (i * K+(Builtin.zeroCells z'.cells (m+1)).toList.length)).toArray) ?_ ⟨_,σ,T,rfl,Ext.write C hb hg rfl rfl rfl (setRow_size w _ _) (fun j hj=>setRow_other w g.g j _ hj) fun G=>?_,trivial⟩
   ·unfold execOp
    simp only [Nat.add_zero] at hst
    simp [ho,resolve,hc,ha,hat,invoke,builtin,hv,Builtin.clear_,run_underlying hT.u,hzv,hst]
   ·refine ⟨hK,.inr ⟨g,_,rfl,e2,setRow_heap w g.g _ _ bt (0,0) e3,?_,e5,?_⟩⟩
    ·rw [<-e4];simp only [List.length_append,List.length_take,List.length_drop,hlen];omega
    ·have e7:=e6.grow G
     refine ⟨?_,fun r row hrow=>?_⟩
     ·simp only [List.length_append,List.length_take,List.length_drop,hlen]
      refine Nat.le_trans (Nat.mul_le_mul_right K (Nat.min_le_left i rows.length)) ?_
      omega
     ·rw [List.getElem?_take] at hrow
      split at hrow
      ·rename_i hri
       obtain ⟨q1,q2⟩:=e7.2 r row hrow
       refine ⟨q1,fun j d hj=>?_⟩
       obtain ⟨u,hu,hd'⟩:=q2 j d hj
       have hjK:j < K:=by rw [<-q1];exact (List.getElem?_eq_some_iff.1 hj).1
       have hlt:r * K+j < i * K:=by
        have:(r+1) * K<=i * K:=Nat.mul_le_mul_right _ hri
        rw [Nat.succ_mul] at this
        omega
       refine ⟨u,?_,hd'⟩
       rw [List.append_assoc,List.getElem?_append_left (by rw [List.length_take];omega),List.getElem?_take,if_pos hlt]
       exact hu
      ·cases hrow
theorem aD.nv {pin:List (Nat×bK)} {s:List (Nat×AV)} {h h':List (Nat×AB)} {n:Nat} (k j K bt:Nat) {cs:List CV} (hb:look h k=some (.box bt cs)) (hc:cs[j]?=some cN) (hh:ky h k (.box bt (cs.set j (cR K [])))=h'):aD pin ⟨s,h,n⟩ ⟨s,h',n⟩:=by
 subst hh
 rintro W0 F N T0 a w ⟨σ,T,hT,S,hp⟩
 have cz:∀ i b,look (ky h k (.box bt (cs.set j (cR K [])))) i=some b->∃ b0,look h i=some b0:=fun i b hi=>by
  rcases kb hi with ⟨rfl,_⟩|⟨_,h1⟩|⟨_,h1⟩
  ·exact ⟨_,hb⟩
  ·exact ⟨_,h1⟩
  ·exact h1.elim
 refine ⟨σ,T,hT,⟨⟨S.core.fo,?_,?_,S.core.ew⟩,S.os,S.tape,S.output,S.size,S.cz,?_,S.next,?_,S.jA,S.jj⟩,hp⟩
 ·intro i b hi
  rcases kb hi with ⟨rfl,rfl⟩|⟨_,h1⟩|⟨_,h1⟩
  ·obtain ⟨g,vs,h1,h2,h3,h4⟩:=S.core.heap _ _ hb
   refine ⟨g,vs,h1,h2,h3,?_⟩
   obtain ⟨y,hy,hr⟩:=h4.get hc
   have hy':y=.slice none 0 0:=bp.inv hr
   subst hy'
   have:=h4.set (x:=cR K []) (y:=.slice none 0 0) (bp.nil _ _ _) j
   have e:vs.set j (.slice none 0 0)=vs:=by
    apply List.ext_getElem?
    intro q
    rw [List.getElem?_set]
    split
    ·rename_i hq;subst hq
     split
     ·exact hy.symm
     ·rename_i hlt;rw [List.getElem?_eq_none (by omega)]
    ·rfl
   rw [e] at this
   exact this
  ·exact S.core.heap i b h1
  ·exact h1.elim
 ·intro i i' b b' g g' hi hi' hg hg' hgg
  obtain ⟨b0,h0⟩:=cz i b hi
  obtain ⟨b1,h1⟩:=cz i' b' hi'
  exact S.core.inj i i' b0 b1 g g' h0 h1 hg hg' hgg
 ·intro i b g hi hg
  obtain ⟨b0,h0⟩:=cz i b hi
  exact S.own i b0 g h0 hg
 ·intro i b hi
  obtain ⟨b0,h0⟩:=cz i b hi
  exact S.hn i b0 h0
def xW (st:aE) (k:Nat) (p:Nat->Bool) (y x:AV):Prop:=(y=x/\x.ok p=true)\/∃ c d,y=.v (.c c)/\x=.v (.c d)/\kT st [k] c d
theorem Core.freeze {σ:Nat->Option bK} {T:Nat->Prop} {st st':aE} {a:Act} {w:World} (C:Core σ T st a w) (k:Nat) (hn:∀ i v,look st'.s i=some v->∃ y,look st.s i=some y/\xW st k (bj st'.h) y v)
  (hh:∀ j b,look st'.h j=some b->look st.h j=some b/\j≠k/\b.ok (bj st'.h)=true) (hk:∃ b,look st.h k=some b):Core (fun j=>if bj st'.h j=true then σ j else none) (fB σ T [k]) st' a w:=by
 have hlow:∀ b,fB σ T [k] b->T b:=fun b h=>h.1
 obtain ⟨b0,hb0⟩:=hk
 have hσ:∀ j,bj st'.h j=true->(fun j=>if bj st'.h j=true then σ j else none) j=σ (id j):=fun j hj=>if_pos hj
 have idA:∀ v:AV,v.map id=v:=fun v=>by
  have hz:∀ c:CV,c.map id=c:=fun c=>by cases c<;>simp [CV.map]
  have hg:∀ g:GV,g.map id=g:=fun g=>by
   cases g with
   |c x=>simp [GV.map,hz]
   |g xs=>simp only [GV.map];congr 1;exact (List.map_congr_left fun c _=>hz c).trans (List.map_id _)
  cases v with
  |v x=>simp [AV.map,hg]
  |t xs=>simp only [AV.map];congr 1;exact (List.map_congr_left fun c _=>hg c).trans (List.map_id _)
 have idB:∀ b:AB,b.map' id=b:=fun b=>by
  have hz:∀ c:CV,c.map id=c:=fun c=>by cases c<;>simp [CV.map]
  cases b with
  |box t cs=>simp only [AB.map'];congr 1;exact (List.map_congr_left (fun c _=>hz c)).trans (List.map_id _)
  |arr=>rfl
  |map=>rfl
 have inT':∀ j b g,look st'.h j=some b->σ j=some g->T g.g->fB σ T [k] g.g:=fun j b g hj hg hT=>⟨hT,fun e he g' hg' hgg=>by
  rw [List.mem_singleton.1 he] at hg'
  exact (hh j b hj).2.1 (C.inj k j b0 b g' g hb0 (hh j b hj).1 hg' hg hgg).symm⟩
 refine ⟨fun i v hi=>?_,fun j b hj=>?_,fun j j' b b' g g' hj hj' hg hg' hgg=>?_,fun b h=>C.ew b h.1⟩
 ·obtain ⟨y,hy,hf⟩:=hn i v hi
  have hr:=C.fo i y hy
  rcases hf with ⟨rfl,hok⟩|⟨c,d,rfl,rfl,harg⟩
  ·have hr:eD σ T w (y.map id) (a.tmps.getD i undef):=by rw [idA];exact hr
   have h2:=eD.bZ hσ hr hok
   cases y with
   |v x=>exact df.fv (x:=x) hlow h2
   |t xs=>obtain ⟨vs,q1,q2⟩:=h2;exact ⟨vs,q1,q2.mono fun _ _ h=>h.fv hlow⟩
  ·exact cJ.up (x:=d) (kT.rel C harg hr)
 ·obtain ⟨h1,h2,h3⟩:=hh j b hj
  have hkin:bj st'.h j=true:=by simp [bj,hj]
  show cZ _ _ _ (if bj st'.h j=true then σ j else none) b
  rw [if_pos hkin]
  have h4:cZ σ T w (σ j) (b.map' id):=by rw [idB];exact C.heap j b h1
  exact cZ.fv hlow (fun g hg hT=>inT' j b g hj hg hT) (cZ.bZ hσ h4 h3)
 ·obtain ⟨h1,_,_⟩:=hh j b hj
  obtain ⟨h1',_,_⟩:=hh j' b' hj'
  have e1:bj st'.h j=true:=by simp [bj,hj]
  have e2:bj st'.h j'=true:=by simp [bj,hj']
  have hg:(if bj st'.h j=true then σ j else none)=some g:=hg
  have hg':(if bj st'.h j'=true then σ j' else none)=some g':=hg'
  rw [if_pos e1] at hg
  rw [if_pos e2] at hg'
  exact C.inj j j' b b' g g' h1 h1' hg hg' hgg
section
variable {P:Program} {W0:World} {N:NT} {T0:Nat->Prop} {Q:Exit->aE->Prop} {s s':List (Nat×AV)} {h h':List (Nat×AB)} {n:Nat}
theorem rE {a:Act} {w:World} (k:Nat) (hk:bj h k=true) (hs:dg (fun x=>∃ y,look s x.1=some y/\xW ⟨s,h,n⟩ k (bj h') y x.2) s') (hh:dg (fun x=>look h x.1=some x.2) h') (hok:h'.all (fun x=>!Nat.beq x.1 k && x.2.ok (bj h'))=true)
  (hI:Inv W0 (fun _=>False) N T0 [] ⟨s,h,n⟩ a w):Inv W0 (fun _=>False) N T0 [] ⟨s',h',n⟩ a w:=by
 obtain ⟨σ,T,hT,S,hp⟩:=hI
 obtain ⟨b0,hb0⟩:=jM hk
 have hh':∀ j b,look h' j=some b->look h j=some b/\j≠k/\b.ok (bj h')=true:=fun j b hj=>by
  have h1:=List.all_eq_true.1 hok _ (bH hj)
  simp only [Bool.and_eq_true,Bool.not_eq_true'] at h1
  exact ⟨hh.mem _ (bH hj),(fun e=>by subst e;rw [Nat.beq_refl] at h1;exact absurd h1.1 (by simp)),h1.2⟩
 have C:=S.core.freeze (st':=⟨s',h',n⟩) k (fun i v hi=>hs.mem _ (bH hi)) hh' ⟨b0,hb0⟩
 have q1:∀ b,b < W0.heap.size->(fB σ T [k] b->T0 b)/\(T0 b->fB σ T [k] b):=fun b hb=>⟨fun hb'=>(hT b hb).1 hb'.1,fun h0=>⟨(hT b hb).2 h0,fun e he g hg hgb=>by
  rw [List.mem_singleton.1 he] at hg
  rcases S.own k b0 g hb0 hg with h1|h1
  ·omega
  ·exact h1⟩⟩
 have q2:∀ j b g,look h' j=some b->(if bj h' j=true then σ j else none)=some g->W0.heap.size<=g.g\/False:=fun j b g hj hg=>by
  split at hg
  ·exact S.own j b g (hh' j b hj).1 hg
  ·cases hg
 have q3:∀ j,n<=j->(if bj h' j=true then σ j else none)=none:=fun j hj=>by
  split
  ·exact S.next j hj
  ·rfl
 exact ⟨_,_,q1,⟨C,S.os,S.tape,S.output,S.size,S.cz,q2,q3,fun j b hj=>S.hn j b (hh' j b hj).1,S.jA,S.jj⟩,fun j g hj=>by cases hj⟩
theorem mf {ops:Array Oper} {l:List Oper} (k:Nat) (hk:bj h k=true) (hs:dg (fun x=>∃ y,look s x.1=some y/\xW ⟨s,h,n⟩ k (bj h') y x.2) s') (hh:dg (fun x=>look h x.1=some x.2) h') (hok:h'.all (fun x=>!Nat.beq x.1 k && x.2.ok (bj h'))=true)
  (hn:AL P W0 (fun _=>False) N T0 [] ops Q l ⟨s',h',n⟩):AL P W0 (fun _=>False) N T0 [] ops Q l ⟨s,h,n⟩:=fun a w hI=>hn a w (rE k hk hs hh hok hI)
theorem Gx {c:Code} (k:Nat) (hk:bj h k=true) (hs:dg (fun x=>∃ y,look s x.1=some y/\xW ⟨s,h,n⟩ k (bj h') y x.2) s') (hh:dg (fun x=>look h x.1=some x.2) h') (hok:h'.all (fun x=>!Nat.beq x.1 k && x.2.ok (bj h'))=true)
  (hn:AC P W0 (fun _=>False) N T0 [] Q c ⟨s',h',n⟩):AC P W0 (fun _=>False) N T0 [] Q c ⟨s,h,n⟩:=fun a w hI=>hn a w (rE k hk hs hh hok hI)
end
end
section

section
variable {P:Program} {W0:World} {F:Nat->Prop} {N:NT} {T0:Nat->Prop} {pin:List (Nat×bK)} {Q:Exit->aE->Prop} {st:aE} {ops:Array Oper}
def AR (P:Program) (W0:World) (F:Nat->Prop) (N:NT) (T0:Nat->Prop) (pin:List (Nat×bK)) (ops:Array Oper) (Q:Exit->aE->Prop):Nat->Array Bool->aE->Prop
 |0,listed,st=>Region.ready .any ops listed=[]/\Q .normal st
 |f+1,listed,st=>Region.ready .any ops listed≠[]/\∀ i∈Region.ready .any ops listed,∀ a w,Inv W0 F N T0 pin st a w->wpOp P ops (QX W0 F N T0 pin Q) i (fun a' w'=>∃ st',AR P W0 F N T0 pin ops Q f (listed.setIfInBounds i true) st'/\Inv W0 F N T0 pin st' a' w') a w
def nQ (K:aE->Prop):Exit->aE->Prop:=fun e st'=>e=.normal/\K st'
theorem Bc {o:Oper} {a:Act} {K:Act->World->Prop} {R S:Exit->Act->World->Prop} {r:Result Next} (hR:∀ e a w,e≠.normal->¬R e a w) (h:o.upon P a K R r):o.upon P a K S r:=by
 cases r with
 |ok n w'=>
  cases n<;>simp only [Oper.upon] at h ⊢<;>try exact h
  refine h.mono fun e w'' he=>?_
  cases e with
  |returned v=>exact he
  |panicked c=>exact absurd he (hR _ _ _ (fun e=>by cases e))
  |outgrown=>obtain ⟨_,_,h⟩:=he;exact absurd h (hR _ _ _ (fun e=>by cases e))
 |halt x w'=>cases x<;>simp only [Oper.upon] at h ⊢<;>first|exact h|exact absurd h (hR _ _ _ (fun e=>by cases e))
theorem AR.step {K:aE->Prop} {i:Nat} {o:Oper} (ho:ops[i]?=some o) (hal:AL P W0 F N T0 pin ops (nQ K) [o] st):∀ a w,Inv W0 F N T0 pin st a w->wpOp P ops (QX W0 F N T0 pin Q) i (fun a' w'=>∃ st',K st'/\Inv W0 F N T0 pin st' a' w') a w:=by
 intro a w hI
 have hR:∀ e a w,e≠.normal->¬QX W0 F N T0 pin (nQ K) e a w:=by
  rintro e a w he ⟨st',⟨h1,_⟩,_⟩;exact he h1
 have hN:∀ a w,QX W0 F N T0 pin (nQ K) .normal a w->∃ st',K st'/\Inv W0 F N T0 pin st' a w:=by
  rintro a w ⟨st',⟨_,h1⟩,h2⟩;exact ⟨st',h1,h2⟩
 have h:=hal a w hI
 unfold wpList at h
 unfold wpOp
 rw [ho]
 dsimp only
 split at h
 ·rename_i hw
  rw [if_pos hw]
  rcases h with h|⟨_,a1,w1,h⟩
  ·exact .inl (Bc hR (il h fun a w h=>hN a w h))
  ·exact absurd h (hR _ _ _ (fun e=>by cases e))
 ·rename_i hw
  rw [if_neg hw]
  exact hN _ _ h
theorem AR.more {f:Nat} {listed:Array Bool} {is:List Nat} (hr:Region.ready .any ops listed=is) (hne:is.isEmpty=false) (h:dg (fun i=>∀ a w,Inv W0 F N T0 pin st a w->wpOp P ops (QX W0 F N T0 pin Q) i (fun a' w'=>∃ st',AR P W0 F N T0 pin ops Q f (listed.setIfInBounds i true) st'/\Inv W0 F N T0 pin st' a' w') a w) is):AR P W0 F N T0 pin ops Q (f+1) listed st:=by
 refine ⟨fun e=>?_,fun i hi=>h.mem i (hr▸hi)⟩
 rw [hr] at e;subst e;cases hne
end
end
section

def pE (aM:List bC) (x:Nat) (q:Nat):Bool:=match aM[q]? with
 |some r=>(match r.dst with
  |some d=>Nat.beq d x
  |none=>false)
 |none=>false
def nP (aM:List bC) (k:Nat) (q:Nat):Bool:=match aM[q]? with
 |some r=>dJ k r.E||dJ k (keys r.nb)
 |none=>false
def Ej (aM:List bC) (k:Nat) (q:Nat):Bool:=match aM[q]? with
 |some r=>dJ k (keys r.nb)
 |none=>false
def uu (ops:Array Oper) (n:Nat) (wr:Nat->Bool) (i:Nat):Option Nat->Bool
 |none=>(List.range n).all fun q=>Nat.beq q i||!wr q||fU ops q i
 |some j=>Nat.blt j n && fU ops i j && (List.range n).all fun q=>Nat.beq q i||Nat.beq q j||!wr q||fU ops q i||fU ops j q
def ru (ops:Array Oper) (n:Nat) (wr:Nat->Bool):Option Nat->Bool
 |none=>(List.range n).all fun q=>!wr q
 |some j=>Nat.blt j n && (List.range n).all fun q=>Nat.beq q j||!wr q||fU ops j q
def jU (aM:List bC) (pre:List Nat) (x:Nat):Option Nat:=pre.find? (pE aM x)
def jB (aM:List bC) (pre:List Nat) (k:Nat):Option Nat:=pre.find? (Ej aM k)
def nk (ops:Array Oper) (aM:List bC) (N:Nat) (st fin:aE) (i:Nat) (r:bC):Bool:=
 (match ops[i]? with
  |some o=>(match o.dst,r.dst with
   |some d,some d'=>Nat.beq d d' && Nat.blt d N
   |none,none=>true
   |_,_=>false) && o.after.all (fun e=>!Region.binds .any e||Nat.blt e.on i)
  |none=>false) &&
 r.E.all (fun k=>dJ k (keys r.h)) && eg (keys r.nb) &&
 r.nb.all (fun x=>Nat.blt x.1 fin.n && (dJ x.1 r.E||(Nat.ble st.n x.1 && (List.range aM.length).all fun q=>Nat.beq q i||!nP aM x.1 q||fU ops q i))) &&
 r.s.all (fun x=>uu ops aM.length (pE aM x.1) i (jU aM r.pre x.1)) && r.h.all (fun x=>uu ops aM.length (nP aM x.1) i (jB aM r.pre x.1))
def rX (ops:Array Oper) (aM:List bC) (N:Nat) (st fin:aE):Nat->List bC->Bool
 |_,[]=>true
 |i,r::rs=>nk ops aM N st fin i r && rX ops aM N st fin (i+1) rs
def rK (ops:Array Oper) (aM:List bC) (N:Nat) (st fin:aE) (fp:List Nat):Bool:=
 rX ops aM N st fin 0 aM && Nat.beq aM.length ops.size && Nat.ble st.n fin.n &&
 fin.s.all (fun x=>ru ops aM.length (pE aM x.1) (jU aM fp x.1)) && fin.h.all (fun x=>Nat.blt x.1 fin.n && ru ops aM.length (nP aM x.1) (jB aM fp x.1))
theorem tY {ops:Array Oper} {aM:List bC} {N:Nat} {st fin:aE}:∀ {rs:List bC} {i:Nat},rX ops aM N st fin i rs=true->∀ {j:Nat} {r:bC},rs[j]?=some r->nk ops aM N st fin (i+j) r=true
 |r::rs,i,h,0,r',hr=>by simp at hr;subst hr;simp only [rX,Bool.and_eq_true] at h;exact h.1
 |r::rs,i,h,j+1,r',hr=>by
  simp only [rX,Bool.and_eq_true] at h
  have:=tY (rs:=rs) (i:=i+1) h.2 (j:=j) (by simpa using hr)
  rwa [show i+1+j=i+(j+1) by omega] at this
 |[],_,_,_,_,hr=>by simp at hr
def lI (st:aE) (aM:List bC) (x:Nat) (v:AV):Option Nat->Prop
 |none=>look st.s x=some v
 |some j=>∃ q,aM[j]?=some q/\q.dst=some x/\q.v=v
def lJ (st:aE) (aM:List bC) (k:Nat) (b:AB):Option Nat->Prop
 |none=>look st.h k=some b
 |some j=>∃ q,aM[j]?=some q/\(k,b)∈q.nb
def nO (st:aE) (aM:List bC):List bC->Prop
 |[]=>True
 |r::rs=>(dg (fun x=>lI st aM x.1 x.2 (jU aM r.pre x.1)) r.s/\dg (fun x=>lJ st aM x.1 x.2 (jB aM r.pre x.1)) r.h)/\nO st aM rs
theorem nO.get {st:aE} {aM:List bC}:∀ {rs:List bC},nO st aM rs->∀ {r:bC},r∈rs->dg (fun x=>lI st aM x.1 x.2 (jU aM r.pre x.1)) r.s/\dg (fun x=>lJ st aM x.1 x.2 (jB aM r.pre x.1)) r.h
 |r::rs,h,r',hr=>by
  rcases List.mem_cons.1 hr with rfl|hr
  ·exact h.1
  ·exact nO.get (rs:=rs) h.2 hr
def pa (ops:Array Oper) (n:Nat):List Nat->Prop
 |[]=>True
 |j::ys=>(∀ q,q < n->fU ops j q=true->q∈ys)/\j ∉ ys/\pa ops n ys
theorem pa.wait {ops:Array Oper} {n:Nat}:∀ {d:List Nat},pa ops n d->∀ {q i:Nat},q∈d->i < n->fU ops q i=true->i∈d
 |j::ys,h,q,i,hq,hi,hw=>by
  rcases List.mem_cons.1 hq with rfl|hq
  ·exact List.mem_cons_of_mem _ (h.1 i hi hw)
  ·exact List.mem_cons_of_mem _ (h.2.2.wait hq hi hw)
theorem pa.split {ops:Array Oper} {n:Nat} {wr:Nat->Bool} {j:Nat}:∀ {d:List Nat},pa ops n d->j∈d->(∀ q∈d,q < n)->(∀ q∈d,q≠j->wr q=true->fU ops j q=true)->∃ xs ys,d=xs++j::ys/\∀ q∈xs,wr q=false
 |k::ys,h,hj,hn,hc=>by
  by_cases e:k=j
  ·subst e;exact ⟨[],ys,rfl,fun q hq=>by cases hq⟩
  ·have hj':j∈ys:=(List.mem_cons.1 hj).resolve_left (Ne.symm e)
   obtain ⟨xs,zs,h1,h2⟩:=h.2.2.split hj' (fun q hq=>hn q (List.mem_cons_of_mem _ hq)) (fun q hq=>hc q (List.mem_cons_of_mem _ hq))
   refine ⟨k::xs,zs,by rw [h1];rfl,fun q hq=>?_⟩
   rcases List.mem_cons.1 hq with rfl|hq
   ·cases hw:wr q with
    |false=>rfl
    |true=>exact absurd (h.2.2.wait hj' (hn q List.mem_cons_self) (hc q List.mem_cons_self e hw)) h.2.1
   ·exact h2 q hq
section
variable {st:aE} {aM:List bC}
theorem ze {x q:Nat} {r:bC} (hr:aM[q]?=some r) (h:pE aM x q=false):r.dst≠some x:=fun e=>by
 unfold pE at h;rw [hr] at h;simp only [e] at h;rw [Nat.beq_refl] at h;cases h
theorem zf {k q:Nat} {r:bC} (hr:aM[q]?=some r) (h:nP aM k q=false):k ∉ keys r.nb/\k ∉ r.E:=by
 unfold nP at h;rw [hr] at h
 simp only [Bool.or_eq_false_iff] at h
 exact ⟨fun hk=>(Bool.eq_false_iff.1 h.2) (eE.2 hk),fun hk=>(Bool.eq_false_iff.1 h.1) (eE.2 hk)⟩
theorem DW {xs ys:List Nat} {j x:Nat} {r:bC} (hx:∀ q∈xs,pE aM x q=false) (hr:aM[j]?=some r) (hd:r.dst=some x):look (eM st aM (xs++j::ys)).s x=some r.v:=by
 induction xs with
 |nil=>
  rw [List.nil_append,gI hr,hd]
  show look ((x,r.v)::(eM st aM ys).s) x=_
  rw [bS,if_pos rfl]
 |cons q xs ih=>
  have ih:=ih fun p hp=>hx p (List.mem_cons_of_mem _ hp)
  rw [List.cons_append]
  cases hq:aM[q]? with
  |none=>rw [jY hq];exact ih
  |some r'=>
   rw [gI hq]
   have hne:=ze hq (hx q List.mem_cons_self)
   cases hd':r'.dst with
   |none=>exact ih
   |some d=>
    show look ((d,r'.v)::(eM st aM (xs++j::ys)).s) x=_
    rw [bS,if_neg (fun e=>hne (by rw [hd',e]))]
    exact ih
theorem sw {l:List (Nat×AB)} {k:Nat} (h:k ∉ keys l):look l k=none:=by
 cases hl:look l k with
 |none=>rfl
 |some b=>exact absurd (List.mem_map.2 ⟨(k,b),bH hl,rfl⟩) h
theorem DX {xs ys:List Nat} {j k:Nat} {b:AB} {r:bC} (hx:∀ q∈xs,nP aM k q=false) (hr:aM[j]?=some r) (hn:(keys r.nb).Nodup) (hb:(k,b)∈r.nb):look (eM st aM (xs++j::ys)).h k=some b:=by
 induction xs with
 |nil=>
  rw [List.nil_append,gI hr,ur]
  show look (r.nb++del r.E (eM st aM ys).h) k=_
  rw [gK,pP hn hb,Option.some_or]
 |cons q xs ih=>
  have ih:=ih fun p hp=>hx p (List.mem_cons_of_mem _ hp)
  rw [List.cons_append]
  cases hq:aM[q]? with
  |none=>rw [jY hq];exact ih
  |some r'=>
   rw [gI hq,ur]
   obtain ⟨h1,h2⟩:=zf hq (hx q List.mem_cons_self)
   show look (r'.nb++del r'.E (eM st aM (xs++j::ys)).h) k=_
   rw [gK,sw h1,Option.none_or,kp h2]
   exact ih
end
theorem kC {n:Nat} {p:Nat->Bool} (h:(List.range n).all p=true) {q:Nat} (hq:q < n):p q=true:=List.all_eq_true.1 h q (List.mem_range.2 hq)
section
variable {P:Program} {W0:World} {F:Nat->Prop} {N:NT} {T0:Nat->Prop} {pin:List (Nat×bK)} {Q:Exit->aE->Prop} {st:aE}
theorem CF {id:Nat} {l:List Oper} (aM:List bC) (fin:aE) (fp:List Nat) (hm:P.follows .mixedOrders=true) (hB:rK l.toArray aM N.1 st fin fp=true) (hrows:jm P l.toArray aM l) (hsee:nO st aM aM)
  (hfin:dg (fun x=>lI st aM x.1 x.2 (jU aM fp x.1)) fin.s/\dg (fun x=>lJ st aM x.1 x.2 (jB aM fp x.1)) fin.h) (hk:Q .normal fin):AC P W0 F N T0 pin Q (.region id l.toArray true) st:=by
 rintro a w ⟨σ0,T1,hT1,S0,hp0⟩
 unfold rK at hB
 simp only [Bool.and_eq_true] at hB
 obtain ⟨⟨⟨⟨hall,hlen⟩,hfn⟩,hfs⟩,hfh⟩:=hB
 have hlen:=Nat.eq_of_beq_eq_true hlen
 have tab:∀ i r,aM[i]?=some r->nk l.toArray aM N.1 st fin i r=true:=fun i r hr=>by have:=tY hall hr;rwa [Nat.zero_add] at this
 have nbnd:∀ (i:Nat) (r:bC),aM[i]?=some r->(keys r.nb).Nodup:=fun i r hr=>by
  have:=tab i r hr
  simp only [nk,Bool.and_eq_true] at this
  exact jH this.1.1.1.2
 have nbk:∀ (i:Nat) (r:bC) k,aM[i]?=some r->k∈keys r.nb->k < fin.n/\(k∈r.E\/(st.n<=k/\∀ q,q < aM.length->q≠i->nP aM k q=true->fU l.toArray q i=true)):=fun i r k hr hk=>by
  have:=tab i r hr
  simp only [nk,Bool.and_eq_true] at this
  obtain ⟨x,hx,rfl⟩:=List.mem_map.1 hk
  have h1:=List.all_eq_true.1 this.1.1.2 x hx
  simp only [Bool.and_eq_true,Bool.or_eq_true,Nat.blt_eq] at h1
  refine ⟨h1.1,?_⟩
  rcases h1.2 with h2|⟨h2,h3⟩
  ·exact .inl (eE.1 h2)
  ·refine .inr ⟨Nat.le_of_ble_eq_true h2,fun q hq hne hw=>?_⟩
   have h4:=kC h3 hq
   simp only [Bool.or_eq_true,Bool.not_eq_true'] at h4
   rcases h4 with (h4|h4)|h4
   ·exact absurd (Nat.eq_of_beq_eq_true h4) hne
   ·rw [hw] at h4;cases h4
   ·exact h4
 have srcOK:∀ (wr:Nat->Bool) (i:Nat) (src:Option Nat),uu l.toArray aM.length wr i src=true->∀ (done:List Nat),pa l.toArray aM.length done->(∀ q∈done,q < aM.length)->i ∉ done->i < aM.length->(∀ j,j < aM.length->fU l.toArray i j=true->j∈done)->
   (src=none/\∀ q∈done,wr q=false)\/∃ j xs ys,src=some j/\done=xs++j::ys/\∀ q∈xs,wr q=false:=by
  intro wr i src hok done hord hdn hi hilt hwait
  cases src with
  |none=>
   refine .inl ⟨rfl,fun q hq=>?_⟩
   cases hw:wr q with
   |false=>rfl
   |true=>
    have h:=kC hok (hdn q hq)
    simp only [Bool.or_eq_true,Bool.not_eq_true'] at h
    rcases h with (h|h)|h
    ·exact absurd (Nat.eq_of_beq_eq_true h▸hq) hi
    ·rw [hw] at h;cases h
    ·exact absurd (hord.wait hq hilt h) hi
  |some j=>
   simp only [uu,Bool.and_eq_true,Nat.blt_eq] at hok
   obtain ⟨⟨h1,h2⟩,h3⟩:=hok
   have hj:=hwait j h1 h2
   obtain ⟨xs,ys,h4,h5⟩:=hord.split (wr:=wr) hj hdn (fun q hq hne hw=>by
    have h:=kC h3 (hdn q hq)
    simp only [Bool.or_eq_true,Bool.not_eq_true'] at h
    rcases h with (((h|h)|h)|h)|h
    ·exact absurd (Nat.eq_of_beq_eq_true h▸hq) hi
    ·exact absurd (Nat.eq_of_beq_eq_true h) hne
    ·rw [hw] at h;cases h
    ·exact absurd (hord.wait hq hilt h) hi
    ·exact h)
   exact .inr ⟨j,xs,ys,rfl,h4,h5⟩
 have finOK:∀ (wr:Nat->Bool) (src:Option Nat),ru l.toArray aM.length wr src=true->∀ (done:List Nat),pa l.toArray aM.length done->(∀ q∈done,q < aM.length)->(∀ q,q < aM.length->q∈done)->
   (src=none/\∀ q∈done,wr q=false)\/∃ j xs ys,src=some j/\done=xs++j::ys/\∀ q∈xs,wr q=false:=by
  intro wr src hok done hord hdn hall'
  cases src with
  |none=>
   refine .inl ⟨rfl,fun q hq=>?_⟩
   have h:=kC hok (hdn q hq)
   simpa using h
  |some j=>
   simp only [ru,Bool.and_eq_true,Nat.blt_eq] at hok
   obtain ⟨h1,h3⟩:=hok
   obtain ⟨xs,ys,h4,h5⟩:=hord.split (wr:=wr) (hall' j h1) hdn (fun q hq hne hw=>by
    have h:=kC h3 (hdn q hq)
    simp only [Bool.or_eq_true,Bool.not_eq_true'] at h
    rcases h with (h|h)|h
    ·exact absurd (Nat.eq_of_beq_eq_true h) hne
    ·rw [hw] at h;cases h
    ·exact h)
   exact .inr ⟨j,xs,ys,rfl,h4,h5⟩
 have gu:∀ (done:List Nat) x v src,lI st aM x v src->((src=none/\∀ q∈done,pE aM x q=false)\/∃ j xs ys,src=some j/\done=xs++j::ys/\∀ q∈xs,pE aM x q=false)->look (eM st aM done).s x=some v:=by
  intro done x v src hs hc
  rcases hc with ⟨rfl,hc⟩|⟨j,xs,ys,rfl,rfl,hc⟩
  ·rw [ql fun i hi r hr=>ze hr (hc i hi)];exact hs
  ·obtain ⟨q,h1,h2,rfl⟩:=hs
   exact DW hc h1 h2
 have fX:∀ (done:List Nat) k b src,lJ st aM k b src->((src=none/\∀ q∈done,nP aM k q=false)\/∃ j xs ys,src=some j/\done=xs++j::ys/\∀ q∈xs,nP aM k q=false)->look (eM st aM done).h k=some b:=by
  intro done k b src hs hc
  rcases hc with ⟨rfl,hc⟩|⟨j,xs,ys,rfl,rfl,hc⟩
  ·rw [kM fun i hi r hr=>zf hr (hc i hi)];exact hs
  ·obtain ⟨q,h1,h2⟩:=hs
   exact DX hc h1 (nbnd j q h1) h2
 let InvD:Array Bool->Act->World->Prop:=fun listed a w=>HeadInv .any l.toArray aM.length listed/\∃ done:List Nat,(∀ i,i∈done↔i < aM.length/\listed.getD i false=true)/\pa l.toArray aM.length done/\∃ σ T,(∀ b,b < W0.heap.size->(T b->T0 b)/\(T0 b->T b))/\rZ W0 F N σ T (eM st aM done) a w/\(∀ k g,look pin k=some g->σ k=some g)/\
  ∀ k,st.n<=k->(∀ i∈done,∀ r,aM[i]?=some r->k ∉ keys r.nb)->σ k=none
 have step:∀ listed a w i o,InvD listed a w->l.toArray[i]?=some o->i < aM.length->i∈Region.ready .any l.toArray listed->wpOp P l.toArray (QX W0 F N T0 pin Q) i (InvD (listed.setIfInBounds i true)) a w:=by
  rintro listed a w i o ⟨H,done,hdone,hord,σ,T,hT,S,hp,hfresh⟩ ho hi hr
  obtain ⟨r,hri⟩:∃ r,aM[i]?=some r:=⟨_,List.getElem?_eq_getElem hi⟩
  have t:=tab i r hri
  simp only [nk,Bool.and_eq_true] at t
  obtain ⟨⟨⟨⟨⟨t1,t2⟩,_⟩,_⟩,t5⟩,t6⟩:=t
  obtain ⟨hun,o',ho',hallr⟩:=mem_ready.1 hr
  have hoo:o'=o:=Option.some.inj (ho'.symm.trans ho)
  subst hoo
  rw [ho] at t1
  simp only [Bool.and_eq_true] at t1
  have hnot:i ∉ done:=fun hm=>by have:=((hdone i).1 hm).2;rw [getD_both hun] at this;cases this
  have hdst:o'.dst=r.dst/\∀ d,o'.dst=some d->d < N.1:=by
   cases h1:o'.dst with
   |none=>cases h2:r.dst with
    |none=>exact ⟨rfl,fun d h=>by cases h⟩
    |some d=>rw [h1,h2] at t1;cases t1.1
   |some d=>cases h2:r.dst with
    |none=>rw [h1,h2] at t1;cases t1.1
    |some d'=>
     rw [h1,h2] at t1
     simp only [Bool.and_eq_true,Nat.blt_eq] at t1
     obtain rfl:=Nat.eq_of_beq_eq_true t1.1.1
     exact ⟨rfl,fun d'' h=>by injection h with h;subst h;exact t1.1.2⟩
  have hdn:∀ q∈done,q < aM.length:=fun q hq=>((hdone q).1 hq).1
  have hwait:∀ j,j < aM.length->fU l.toArray i j=true->j∈done:=fun j hj hw=>(hdone j).2 ⟨hj,nR H ho hallr hw⟩
  obtain ⟨hsS,hsH⟩:=hsee.get (List.mem_of_getElem? hri)
  have hs:∀ t x,look r.st.s t=some x->look (eM st aM done).s t=some x:=fun t x hx=>
   gu done t x _ (hsS.mem (t,x) (bH hx)) (srcOK _ i _ (List.all_eq_true.1 t5 (t,x) (bH hx)) done hord hdn hnot hi hwait)
  have hh:∀ k b,look r.st.h k=some b->look (eM st aM done).h k=some b:=fun k b hb=>
   fX done k b _ (hsH.mem (k,b) (bH hb)) (srcOK _ i _ (List.all_eq_true.1 t6 (k,b) (bH hb)) done hord hdn hnot hi hwait)
  have Cr:Core σ T r.st a w:=S.core.sub hs hh
  have fin':∀ σ' T' w' u,Ext σ T w σ' T' w' r.nb r.E->eD σ' T' w' r.v u->InvD (listed.setIfInBounds i true) (a.put o'.dst u) w':=by
   intro σ' T' w' u X hv
   refine ⟨H.set hr hi,i::done,fun j=>?_,⟨hwait,hnot,hord⟩,σ',T',fun b hb=>⟨fun hb'=>(hT b hb).1 (X.grow.kU b (Nat.lt_of_lt_of_le hb S.size) hb'),fun h0=>X.mb b ((hT b hb).2 h0)⟩,?_,fun k g hk=>X.grow.σle _ _ (hp k g hk),fun k hk hkn=>?_⟩
   ·rw [List.mem_cons]
    by_cases e:j=i
    ·subst e
     have hsz:j < listed.size:=by rw [H.size];omega
     simp [hi,hsz]
    ·rw [getD_set_ne false (Ne.symm e)]
     simp [e,hdone]
   ·rw [gI hri,hdst.1]
    refine S.step (fun e he=>?_) (fun d hd=>hdst.2 d (hdst.1▸hd)) X hv
    obtain ⟨⟨e',b⟩,hm,rfl⟩:=List.mem_map.1 (eE.1 (List.all_eq_true.1 t2 e he))
    cases hl:look r.h e' with
    |none=>exact absurd hl (jJ hm)
    |some b'=>exact ⟨b',hh e' b' hl⟩
   ·rw [X.xL k fun b hb=>hkn i List.mem_cons_self r hri (List.mem_map.2 ⟨(k,b),hb,rfl⟩)]
    exact hfresh k hk fun j hj=>hkn j (List.mem_cons_of_mem _ hj)
  obtain ⟨o2,ho2,hro⟩:=hrows.get hri
  have:o2=o':=by
   have h1:l.toArray[i]?=some o2:=by simpa using ho2
   exact Option.some.inj (h1.symm.trans ho)
  subst this
  rcases hro with ⟨hw,hg⟩|⟨hw,hv,hnb,hE⟩
  ·refine qP ho (hw σ T a w Cr) (mY (il (hg σ T a w Cr fun k b hk hkE=>?_) ?_))
   ·obtain ⟨_,h1|⟨h1,h2⟩⟩:=nbk i r k hri (List.mem_map.2 ⟨(k,b),hk,rfl⟩)
    ·exact absurd h1 hkE
    ·refine hfresh k h1 fun j hj q hq hkq=>?_
     have hne:j≠i:=fun e=>hnot (e▸hj)
     have hwq:nP aM k j=true:=by
      unfold nP;rw [hq];simp only [Bool.or_eq_true];exact .inr (eE.2 hkq)
     exact hnot (hord.wait hj hi (h2 j (hdn j hj) hne hwq))
   ·rintro a' w' ⟨u,σ',T',rfl,X,hv⟩
    exact fin' σ' T' w' u X hv
  ·refine oc ho (hw σ T a w Cr) (fin' σ T w undef ?_ ?_)
   ·rw [hnb,hE];exact Ext.same S.core.ew
   ·rw [hv];exact ⟨[],rfl,trivial⟩
 have atEnd:∀ listed a w,InvD listed a w->(∀ i,i < aM.length->listed.getD i false=true)->Inv W0 F N T0 pin fin a w:=by
  rintro listed a w ⟨H,done,hdone,hord,σ,T,hT,S,hp,hfresh⟩ hl
  have hdn:∀ q∈done,q < aM.length:=fun q hq=>((hdone q).1 hq).1
  have bJ:∀ q,q < aM.length->q∈done:=fun q hq=>(hdone q).2 ⟨hq,hl q hq⟩
  have hs:∀ t x,look fin.s t=some x->look (eM st aM done).s t=some x:=fun t x hx=>
   gu done t x _ (hfin.1.mem (t,x) (bH hx)) (finOK _ _ (List.all_eq_true.1 hfs (t,x) (bH hx)) done hord hdn bJ)
  have hfhx:∀ k b,look fin.h k=some b->k < fin.n/\ru l.toArray aM.length (nP aM k) (jB aM fp k)=true:=fun k b hb=>by
   have:=List.all_eq_true.1 hfh _ (bH hb)
   simpa only [Bool.and_eq_true,Nat.blt_eq] using this
  have hh:∀ k b,look fin.h k=some b->look (eM st aM done).h k=some b:=fun k b hb=>
   fX done k b _ (hfin.2.mem (k,b) (bH hb)) (finOK _ _ (hfhx k b hb).2 done hord hdn bJ)
  refine ⟨σ,T,hT,⟨S.core.sub hs hh,S.os,S.tape,S.output,S.size,S.cz,fun k b g hk=>S.own k b g (hh k b hk),fun k hk=>?_,fun k b hk=>(hfhx k b hk).1,S.jA,S.jj⟩,hp⟩
  have hk1:=Nat.le_of_ble_eq_true hfn
  exact hfresh k (by omega) fun i _ r hr hkr=>by have:=(nbk i r k hr hkr).1;omega
 have main:∀ k listed a1 w1,InvD listed a1 w1->iH aM.length listed=k->wpAny P .any l.toArray (QX W0 F N T0 pin Q) k listed a1 w1:=by
  intro k
  induction k with
  |zero=>
   intro listed a1 w1 I hk'
   have hl:∀ i,i < aM.length->listed.getD i false=true:=fun i hi=>by
    have h:=List.eq_nil_of_length_eq_zero hk'
    have h2:=List.filter_eq_nil_iff.1 h i (List.mem_range.2 hi)
    simpa using h2
   have hIf:=atEnd listed a1 w1 I hl
   refine ⟨List.eq_nil_iff_forall_not_mem.2 fun i hi=>?_,fin,hk,hIf⟩
   obtain ⟨h1,o,ho,_⟩:=mem_ready.1 hi
   have hi':i < l.toArray.size:=(Array.getElem?_eq_some_iff.1 ho).1
   have:=hl i (by omega)
   rw [getD_both h1] at this;cases this
  |succ k ih=>
   intro listed a1 w1 I hk'
   have hex:∃ i,i < aM.length/\listed.getD i false=false/\∀ j,j < i->listed.getD j false=true:=by
    have h1:∃ i,i < aM.length/\listed.getD i false=false:=by
     have hne:((List.range aM.length).filter fun i=>!listed.getD i false)≠[]:=fun e=>by unfold iH at hk';rw [e] at hk';cases hk'
     obtain ⟨x,hx⟩:=List.exists_mem_of_ne_nil _ hne
     obtain ⟨hx1,hx2⟩:=List.mem_filter.1 hx
     exact ⟨x,List.mem_range.1 hx1,by simpa using hx2⟩
    obtain ⟨i,hi,hmin⟩:=exists_least h1
    refine ⟨i,hi.1,hi.2,fun j hj=>?_⟩
    cases hjl:listed.getD j false with
    |true=>rfl
    |false=>exact absurd (hmin j ⟨by omega,hjl⟩) (by omega)
   obtain ⟨i0,hi0,hun0,hlow⟩:=hex
   have hopi:∀ i,i < aM.length->∃ o,l.toArray[i]?=some o:=fun i hi=>⟨_,Array.getElem?_eq_getElem (by omega)⟩
   have bJ:∀ i,i < aM.length->listed.getD i false=false->listed.getD i true=false:=fun i hi h=>getD_in (by rw [I.1.size];omega) h
   have hready:i0∈Region.ready .any l.toArray listed:=by
    obtain ⟨o,ho⟩:=hopi i0 hi0
    obtain ⟨r,hr⟩:∃ r,aM[i0]?=some r:=⟨_,List.getElem?_eq_getElem hi0⟩
    have t:=tab i0 r hr
    simp only [nk,Bool.and_eq_true] at t
    have t1:=t.1.1.1.1.1
    rw [ho] at t1
    simp only [Bool.and_eq_true] at t1
    refine mem_ready.2 ⟨bJ i0 hi0 hun0,o,ho,fun e he hb=>hlow _ ?_⟩
    have h3:=Array.all_eq_true'.1 t1.2 e he
    simp only [Bool.or_eq_true,Bool.not_eq_true',Nat.blt_eq] at h3
    exact h3.resolve_left (by rw [hb];simp)
   refine ⟨fun h=>(by rw [h] at hready;cases hready),fun i hi=>?_⟩
   have hilt:i < aM.length:=by
    obtain ⟨_,o,ho,_⟩:=mem_ready.1 hi
    have hi':i < l.toArray.size:=(Array.getElem?_eq_some_iff.1 ho).1
    omega
   obtain ⟨o,ho⟩:=hopi i hilt
   refine wpOp_mono (fun a' w' I'=>ih _ a' w' I' ?_) (step listed a1 w1 i o I ho hilt hi)
   have hunl:=getD_both (mem_ready.1 hi).1
   have hset:(listed.setIfInBounds i true).getD i false=true:=by
    have:i < listed.size:=by rw [I.1.size];omega
    simp [this]
   have:=count_set (p:=fun j=>!listed.getD j false) (q:=fun j=>!(listed.setIfInBounds i true).getD j false) (i:=i) (by simp only [hunl];rfl) (by simp only [hset];rfl)
    (fun j hj=>by simp only [getD_set_ne false (Ne.symm hj)]) (List.range aM.length) List.nodup_range (List.mem_range.2 hilt)
   unfold iH at hk' ⊢
   omega
 refine wp_region_any hm ?_
 have inv0:HeadInv .any l.toArray aM.length (Array.replicate l.toArray.size false):=
  ⟨by simp,fun j oj _ hl=>(by rw [getD_replicate_false] at hl;cases hl),fun t _ ht=>getD_in (by simpa using ht) (getD_replicate_false _ _)⟩
 have hw0:rZ W0 F N σ0 T1 st a {w with drawn:=w.drawn+1}:=
  ⟨S0.core.drew,S0.os,S0.tape,S0.output,S0.size,S0.cz,S0.own,S0.next,S0.hn,S0.jA,S0.jj⟩
 have I0:InvD (Array.replicate l.toArray.size false) a {w with drawn:=w.drawn+1}:=
  ⟨inv0,[],fun i=>by rw [getD_replicate_false];simp,trivial,σ0,T1,hT1,hw0,hp0,fun k hk _=>S0.next k hk⟩
 have:=main aM.length _ a _ I0 (by
  unfold iH
  rw [List.filter_eq_self.2 (fun i _=>by rw [getD_replicate_false];rfl),List.length_range])
 rw [hlen] at this
 exact this
end
end

structure ca where (aJ ax sum time:Int)
 deriving DecidableEq
structure cS where (time sum:Int)
 deriving DecidableEq
structure aR where (number kind ba sum:Int)
 deriving DecidableEq
structure Entry where (aN sum:Int)
 deriving DecidableEq
structure aj where (ax ba kind sum:Int)
 deriving DecidableEq
structure dk where (cH count sum:Int)
 deriving DecidableEq
structure cT where (err at_:Int)
 deriving DecidableEq
structure bx where (bf held:Int) (bY:dk) (cD:List cS)
 deriving DecidableEq
structure bP where (bF:Int) (kept:List aR)
 deriving DecidableEq
def rI (n:Int):List D:=[dI n]
def nT (n:Int):List D:=[.v (.int .u8 n)]
def iy (x:ca):List D:=[dI x.aJ,dI x.ax,dI x.sum,dI x.time]
def gS (x:cS):List D:=[dI x.time,dI x.sum]
def fw (x:aR):List D:=[dI x.number,dI x.kind,dI x.ba,dI x.sum]
def eC (x:Entry):List D:=[dI x.aN,dI x.sum]
def gT (x:aj):List D:=[dI x.ax,dI x.ba,dI x.kind,dI x.sum]
def uq (l:List cS):List D:=[.r 2 (l.map gS)]
theorem Em (l:List Int):∀ row∈l.map rI,∀ d∈row,d.oI=true:=by
 intro row hr d hd
 obtain ⟨x,_,rfl⟩:=List.mem_map.1 hr
 simp [rI] at hd
 subst hd;rfl
theorem Dp (l:List Int):∀ row∈l.map nT,∀ d∈row,d.oI=true:=by
 intro row hr d hd
 obtain ⟨x,_,rfl⟩:=List.mem_map.1 hr
 simp [nT] at hd
 subst hd;rfl
theorem BE (l:List cS):∀ row∈l.map gS,∀ d∈row,d.oI=true:=by
 intro row hr d hd
 obtain ⟨x,_,rfl⟩:=List.mem_map.1 hr
 simp [gS] at hd
 rcases hd with rfl|rfl<;>rfl
theorem ud (l:List aR):∀ row∈l.map fw,∀ d∈row,d.oI=true:=by
 intro row hr d hd
 obtain ⟨x,_,rfl⟩:=List.mem_map.1 hr
 simp [fw] at hd
 rcases hd with rfl|rfl|rfl|rfl<;>rfl
theorem yw (l:List Entry):∀ row∈l.map eC,∀ d∈row,d.oI=true:=by
 intro row hr d hd
 obtain ⟨x,_,rfl⟩:=List.mem_map.1 hr
 simp [eC] at hd
 rcases hd with rfl|rfl<;>rfl
theorem wI (l:List aj):∀ row∈l.map gT,∀ d∈row,d.oI=true:=by
 intro row hr d hd
 obtain ⟨x,_,rfl⟩:=List.mem_map.1 hr
 simp [gT] at hd
 rcases hd with rfl|rfl|rfl|rfl<;>rfl
def bm (n:Int):Bool:=decide (n>=0) && decide (n<=1000000)
structure bz where (aJ ax sum captured bu bh cM:Int) (shut:Bool)
 deriving DecidableEq
def iN:bz:=⟨0,0,0,0,0,0,0,false⟩
def bE (a:bz):Int:=
 if a.sum < 0\/a.sum > 1000000\/a.captured < 0\/a.captured > 1000000\/a.bu < 0\/a.bu > 1000000\/a.bh < 0\/a.bh > 1000000\/a.aJ < 0\/a.aJ > 7\/a.ax < 0\/a.ax > 7\/a.cM < 0\/a.cM > 1000100 then 3
 else if a.sum < a.captured\/a.captured < a.bu+a.bh then 8 else 0
def cY (aJ ax n time:Int):bz×Int:=
 if n < 1\/n > 1000000\/time < 0\/time > 1000000\/aJ < 0\/aJ > 7\/ax < 0\/ax > 7 then (iN,3) else (⟨aJ,ax,n,0,0,0,time+100,false⟩,0)
def br (a:bz):Int:=if a.shut=true then 0 else a.sum - a.captured
def eh (a:bz) (t:Int):bz:=⟨a.aJ,a.ax,a.sum,a.captured,a.bu,a.bh,a.cM,a.shut||decide (a.cM<=t)⟩
def dh (a:bz) (kind n:Int):bz×Int:=
 if a.shut=true then (a,9)
 else if kind=1 then (if n > 1000000 - a.sum then (a,4) else (⟨a.aJ,a.ax,a.sum+n,a.captured,a.bu,a.bh,a.cM,false⟩,0))
 else if n > a.sum - a.captured then (a,10)
 else if kind=4 then (⟨a.aJ,a.ax,a.sum - n,a.captured,a.bu,a.bh,a.cM,decide (a.sum - n=a.captured)⟩,0)
 else (⟨a.aJ,a.ax,a.sum,a.captured+n,a.bu,a.bh,a.cM,decide (kind=3)||decide (a.captured+n=a.sum)⟩,0)
def bW (a:bz) (kind n:Int):bz×Int:=
 if bE a≠0 then (iN,bE a)
 else if kind < 1\/kind > 8 then (iN,1)
 else if n < 1\/n > 1000000 then (iN,3)
 else if kind=5 then (if n > a.captured - a.bu - a.bh then (iN,10) else (⟨a.aJ,a.ax,a.sum,a.captured,a.bu+n,a.bh,a.cM,a.shut⟩,0))
 else if kind=6 then (if n > a.captured - a.bu - a.bh then (iN,10) else (⟨a.aJ,a.ax,a.sum,a.captured,a.bu,a.bh+n,a.cM,a.shut⟩,0))
 else if kind=7 then (if n > a.bh then (iN,10) else (⟨a.aJ,a.ax,a.sum,a.captured,a.bu+n,a.bh - n,a.cM,a.shut⟩,0))
 else if kind=8 then (if n > a.bh then (iN,10) else (⟨a.aJ,a.ax,a.sum,a.captured,a.bu,a.bh - n,a.cM,a.shut⟩,0))
 else if (dh a kind n).2≠0 then (iN,(dh a kind n).2) else dh a kind n
theorem eN {a:bz} (h:bE a=0):0<=a.sum/\a.sum<=1000000/\0<=a.captured/\a.captured<=a.sum/\0<=a.bu/\0<=a.bh/\a.bu+a.bh<=a.captured/\0<=a.aJ/\a.aJ<=7/\0<=a.ax/\a.ax<=7/\0<=a.cM/\a.cM<=1000100:=by
 unfold bE at h
 split at h
 ·cases h
 ·split at h
  ·cases h
  ·omega
theorem rk {a:bz} (h:0<=a.sum/\a.sum<=1000000/\0<=a.captured/\a.captured<=a.sum/\0<=a.bu/\0<=a.bh/\a.bu+a.bh<=a.captured/\0<=a.aJ/\a.aJ<=7/\0<=a.ax/\a.ax<=7/\0<=a.cM/\a.cM<=1000100):bE a=0:=by
 unfold bE
 rw [if_neg (by omega),if_neg (by omega)]
inductive jR (a:bz) (kind n:Int):bz->Prop
 |more (h:kind=1) (hs:a.shut=false) (hn:n<=1000000 - a.sum):jR a kind n ⟨a.aJ,a.ax,a.sum+n,a.captured,a.bu,a.bh,a.cM,false⟩
 |take (h:kind=2\/kind=3) (hs:a.shut=false) (hn:n<=a.sum - a.captured):jR a kind n ⟨a.aJ,a.ax,a.sum,a.captured+n,a.bu,a.bh,a.cM,decide (kind=3)||decide (a.captured+n=a.sum)⟩
 |less (h:kind=4) (hs:a.shut=false) (hn:n<=a.sum - a.captured):jR a kind n ⟨a.aJ,a.ax,a.sum - n,a.captured,a.bu,a.bh,a.cM,decide (a.sum - n=a.captured)⟩
 |uW (h:kind=5) (hn:n<=a.captured - a.bu - a.bh):jR a kind n ⟨a.aJ,a.ax,a.sum,a.captured,a.bu+n,a.bh,a.cM,a.shut⟩
 |sI (h:kind=6) (hn:n<=a.captured - a.bu - a.bh):jR a kind n ⟨a.aJ,a.ax,a.sum,a.captured,a.bu,a.bh+n,a.cM,a.shut⟩
 |sF (h:kind=7) (hn:n<=a.bh):jR a kind n ⟨a.aJ,a.ax,a.sum,a.captured,a.bu+n,a.bh - n,a.cM,a.shut⟩
 |sE (h:kind=8) (hn:n<=a.bh):jR a kind n ⟨a.aJ,a.ax,a.sum,a.captured,a.bu,a.bh - n,a.cM,a.shut⟩
theorem qp {a:bz} {kind n:Int} {b:bz} {e:Int} (h:bW a kind n=(b,e)):(e≠0/\b=iN)\/(e=0/\bE a=0/\1<=n/\n<=1000000/\jR a kind n b):=by
 unfold bW at h
 split at h
 ·rename_i h1;injection h with h2 h3;exact .inl ⟨h3▸h1,h2.symm⟩
 rename_i h1
 have h1:bE a=0:=by omega
 split at h
 ·injection h with h2 h3;exact .inl ⟨by omega,h2.symm⟩
 split at h
 ·injection h with h2 h3;exact .inl ⟨by omega,h2.symm⟩
 split at h
 ·split at h
  ·injection h with h2 h3;exact .inl ⟨by omega,h2.symm⟩
  ·injection h with h2 h3;subst h2;exact .inr ⟨h3.symm,h1,by omega,by omega,.uW (by omega) (by omega)⟩
 split at h
 ·split at h
  ·injection h with h2 h3;exact .inl ⟨by omega,h2.symm⟩
  ·injection h with h2 h3;subst h2;exact .inr ⟨h3.symm,h1,by omega,by omega,.sI (by omega) (by omega)⟩
 split at h
 ·split at h
  ·injection h with h2 h3;exact .inl ⟨by omega,h2.symm⟩
  ·injection h with h2 h3;subst h2;exact .inr ⟨h3.symm,h1,by omega,by omega,.sF (by omega) (by omega)⟩
 split at h
 ·split at h
  ·injection h with h2 h3;exact .inl ⟨by omega,h2.symm⟩
  ·injection h with h2 h3;subst h2;exact .inr ⟨h3.symm,h1,by omega,by omega,.sE (by omega) (by omega)⟩
 split at h
 ·rename_i h4;injection h with h2 h3;exact .inl ⟨h3▸h4,h2.symm⟩
 ·rename_i h4
  unfold dh at h h4
  split at h
  ·rename_i h5;rw [if_pos h5] at h4;simp at h4
  rename_i h5
  rw [if_neg h5] at h4
  have h5:a.shut=false:=by simpa using h5
  split at h
  ·rename_i h6;rw [if_pos h6] at h4
   split at h
   ·rename_i h7;rw [if_pos h7] at h4;simp at h4
   ·injection h with h2 h3;subst h2;exact .inr ⟨h3.symm,h1,by omega,by omega,.more (by omega) h5 (by omega)⟩
  rename_i h6;rw [if_neg h6] at h4
  split at h
  ·rename_i h7;rw [if_pos h7] at h4;simp at h4
  split at h
  ·injection h with h2 h3;subst h2;exact .inr ⟨h3.symm,h1,by omega,by omega,.less (by omega) h5 (by omega)⟩
  ·injection h with h2 h3;subst h2;exact .inr ⟨h3.symm,h1,by omega,by omega,.take (by omega) h5 (by omega)⟩
theorem wH {a b:bz} {kind n:Int} (h:bE a=0) (h1:1<=n) (h2:n<=1000000) (hm:jR a kind n b):bE b=0:=by
 have hr:=eN h
 cases hm<;>exact rk (by dsimp only;omega)
theorem wh {a b:bz} (h1:a.aJ=b.aJ) (h2:a.ax=b.ax) (h3:a.sum=b.sum) (h4:a.captured=b.captured) (h5:a.bu=b.bu) (h6:a.bh=b.bh) (h7:a.cM=b.cM) (h8:a.shut=b.shut):a=b:=by
 cases a;cases b;simp_all
theorem pN {a b:bz} {kind n:Int} (h:bW a kind n=(b,0)):bE b=0/\b.aJ=a.aJ/\b.ax=a.ax/\b.cM=a.cM/\(a.shut=true->b.shut=true)/\0<=b.sum - b.captured/\b.bu+b.bh<=b.captured/\a.captured<=b.captured/\a.bu<=b.bu:=by
 rcases qp h with ⟨h1,_⟩|⟨_,hw,h1,h2,hm⟩
 ·exact absurd rfl h1
 have hb:=wH hw h1 h2 hm
 have hr:=eN hw
 have hrb:=eN hb
 cases hm<;>refine ⟨hb,rfl,rfl,rfl,?_⟩<;>simp_all<;>omega
theorem qD {α:Type} {l:List α} {q:Nat} {x:α} (h:l[q]?=some x):l.drop q=x::l.drop (q+1):=by
 obtain ⟨hq,rfl⟩:=List.getElem?_eq_some_iff.1 h
 exact List.drop_eq_getElem_cons hq
theorem iJ {α:Type} {l:List α} {q:Nat} {x:α} (h:l[q]?=some x):l.take (q+1)=l.take q++[x]:=by
 obtain ⟨hq,rfl⟩:=List.getElem?_eq_some_iff.1 h
 exact List.take_succ_eq_append_getElem hq
structure cu where (cap:Int) (used:List Int) (aZ:List ca)
 deriving DecidableEq

def gb (n:Int):Bool:=decide (0<=n/\n<=1000000)
def gp (an:Nat) (a:ca):Bool:=
 decide (0<=a.aJ/\a.aJ < an/\0<=a.ax/\a.ax<=7/\1<=a.sum/\a.sum<=1000000/\0<=a.time/\a.time<=1000000)
def given (k:Int):List ca->Int
 |[]=>0
 |a::l=>(if a.aJ=k then a.sum else 0)+given k l
def eQ (cap:Int) (advs:List ca):Int->List Int->Int
 |_,[]=>0
 |k,n::l=>if n=given k advs/\n<=cap then eQ cap advs (k+1) l else 8
def bT (s:cu):Int:=
 if 8 < s.used.length\/20 < s.aZ.length then 5
 else if ¬gb s.cap then 3
 else if ¬s.aZ.all (gp s.used.length) then 3
 else eQ s.cap s.aZ 0 s.used
def fC:cu:={cap:=0,used:=[],aZ:=[]}
def dw (limit an:Int):cu×Int:=
 if an < 0\/8 < an then (fC,5) else if ¬gb limit then (fC,3) else ({cap:=limit,used:=List.replicate an.toNat 0,aZ:=[]},0)
def ch (s:cu) (a:ca):cu×Int:=
 if bT s≠0 then (fC,bT s)
 else if 20<=s.aZ.length then (fC,5)
 else if ¬gp s.used.length a then (fC,3)
 else if s.cap < s.used.getD a.aJ.toNat 0+a.sum then (fC,10)
 else ({cap:=s.cap,used:=s.used.set a.aJ.toNat (s.used.getD a.aJ.toNat 0+a.sum),aZ:=s.aZ++[a]},0)
def cQ (s:cu):cu×List ca×Int:=
 if bT s≠0 then (fC,[],bT s) else ({cap:=s.cap,used:=List.replicate s.used.length 0,aZ:=[]},s.aZ,0)

theorem rG (k:Int) (l:List ca) (a:ca):given k (l++[a])=given k l+if a.aJ=k then a.sum else 0:=by
 induction l with
 |nil=>simp [given]
 |cons x l ih=>simp only [List.cons_append,given,ih];omega
theorem pQ (c:Nat) (k:Int) (l:List ca) (h:l.all (gp c)=true):0<=given k l/\given k l<=1000000 * l.length:=by
 induction l with
 |nil=>simp [given]
 |cons x l ih=>
  simp only [List.all_cons,Bool.and_eq_true,gp,decide_eq_true_eq] at h
  have:=ih h.2
  simp only [given,List.length_cons]
  split<;>omega
theorem Fp {α:Type} {p:α->Bool} {l:List α} {q:Nat} {x:α} (h:l[q]?=some x) (hx:p x=false):l.all p=false:=by
 rw [List.all_eq_false]
 exact ⟨x,List.mem_of_getElem? h,by simp [hx]⟩
theorem xS {α:Type} {p:α->Bool} {l:List α} {q:Nat} {x:α} (ht:(l.take q).all p=true) (h:l[q]?=some x) (hx:p x=true):(l.take (q+1)).all p=true:=by
 rw [iJ h,List.all_append,ht];simp [hx]
theorem oa {s:cu} (h:8 < s.used.length\/20 < s.aZ.length):bT s=5:=by unfold bT;rw [if_pos h]
theorem mD {s:cu} (h:¬(8 < s.used.length\/20 < s.aZ.length)) (hc:gb s.cap=false):bT s=3:=by unfold bT;rw [if_neg h,hc];rfl
theorem jS {s:cu} (h:¬(8 < s.used.length\/20 < s.aZ.length)) (hc:gb s.cap=true) (ha:s.aZ.all (gp s.used.length)=false):bT s=3:=by
 unfold bT;rw [if_neg h,hc,ha];rfl
theorem gj {s:cu} (h:¬(8 < s.used.length\/20 < s.aZ.length)) (hc:gb s.cap=true) (ha:s.aZ.all (gp s.used.length)=true):bT s=eQ s.cap s.aZ 0 s.used:=by
 unfold bT;rw [if_neg h,hc,ha];rfl


theorem gM (cap:Int) (advs:List ca):∀ (l:List Int) (k:Int),eQ cap advs k l=0↔∀ (i:Nat) (x:Int),l[i]?=some x->x=given (k+i) advs/\x<=cap
 |[],k=>by simp [eQ]
 |n::l,k=>by
  rw [eQ]
  constructor
  ·intro h i x hx
   split at h
   ·rename_i hc
    rcases i with _|i
    ·simp at hx;subst hx;simpa using hc
    ·have:=(gM cap advs l (k+1)).1 h i x (by simpa using hx)
     rw [show k+((i+1:Nat):Int)=k+1+i by omega];exact this
   ·cases h
  ·intro h
   rw [if_pos (by simpa using h 0 n rfl)]
   exact (gM cap advs l (k+1)).2 fun i x hx=>by
    have:=h (i+1) x (by simpa using hx)
    rwa [show k+((i+1:Nat):Int)=k+1+i by omega] at this
theorem pR (cap:Int) (advs:List ca):∀ (l:List Int) (k:Int),eQ cap advs k l=0\/eQ cap advs k l=8
 |[],_=>.inl rfl
 |n::l,k=>by
  rw [eQ]
  split
  ·exact pR cap advs l (k+1)
  ·exact .inr rfl
theorem gJ {s:cu} (h:bT s=0):s.used.length<=8/\s.aZ.length<=20/\gb s.cap=true/\s.aZ.all (gp s.used.length)=true/\eQ s.cap s.aZ 0 s.used=0:=by
 by_cases h1:8 < s.used.length\/20 < s.aZ.length
 ·rw [oa h1] at h;omega
 ·cases hc:gb s.cap with
  |false=>rw [mD h1 hc] at h;omega
  |true=>
   cases ha:s.aZ.all (gp s.used.length) with
   |false=>rw [jS h1 hc ha] at h;omega
   |true=>rw [gj h1 hc ha] at h;exact ⟨by omega,by omega,rfl,rfl,h⟩
theorem vv {s:cu} {a:ca} (h:bT s=0) (hm:s.aZ.length < 20) (ha:gp s.used.length a=false) (u:List Int) (hu:u.length=s.used.length):bT {cap:=s.cap,used:=u,aZ:=s.aZ++[a]}=3:=by
 obtain ⟨h1,h2,h3,h4,h5⟩:=gJ h
 exact jS (by simp only [List.length_append,List.length_singleton];omega) h3 (by simp [hu,ha])
theorem BK {s:cu} {a:ca} (h:bT s=0) (hm:s.aZ.length < 20) (ha:gp s.used.length a=true):
  bT {cap:=s.cap,used:=s.used.set a.aJ.toNat (s.used.getD a.aJ.toNat 0+a.sum),aZ:=s.aZ++[a]}=if s.cap < s.used.getD a.aJ.toNat 0+a.sum then 8 else 0:=by
 obtain ⟨h1,h2,h3,h4,h5⟩:=gJ h
 have hok:=ha
 simp only [gp,decide_eq_true_eq] at hok
 have hlt:a.aJ.toNat < s.used.length:=by omega
 have hgx:s.used[a.aJ.toNat]?=some s.used[a.aJ.toNat]:=List.getElem?_eq_getElem hlt
 have hgd:s.used.getD a.aJ.toNat 0=s.used[a.aJ.toNat]:=by simp [hlt]
 have hu:(s.used.set a.aJ.toNat (s.used.getD a.aJ.toNat 0+a.sum)).length=s.used.length:=List.length_set
 have h6:bT {cap:=s.cap,used:=s.used.set a.aJ.toNat (s.used.getD a.aJ.toNat 0+a.sum),aZ:=s.aZ++[a]}=eQ s.cap (s.aZ++[a]) 0 (s.used.set a.aJ.toNat (s.used.getD a.aJ.toNat 0+a.sum)):=by
  refine gj ?_ h3 ?_
  ·simp only [List.length_append,List.length_singleton,hu];omega
  ·simp only [hu,List.all_append,h4,List.all_cons,ha,List.all_nil];rfl
 rw [h6]
 have key:=(gM s.cap s.aZ s.used 0).1 h5
 by_cases hc:s.cap < s.used.getD a.aJ.toNat 0+a.sum
 ·rw [if_pos hc]
  rcases pR s.cap (s.aZ++[a]) (s.used.set a.aJ.toNat (s.used.getD a.aJ.toNat 0+a.sum)) 0 with h0|h0
  ·have:=(gM _ _ _ _).1 h0 a.aJ.toNat (s.used.getD a.aJ.toNat 0+a.sum) (by simp [hlt])
   omega
  ·exact h0
 ·rw [if_neg hc]
  refine (gM _ _ _ _).2 fun i x hx=>?_
  rw [List.getElem?_set] at hx
  rw [rG]
  by_cases e:a.aJ.toNat=i
  ·rw [if_pos e,if_pos (by omega)] at hx
   injection hx with hx
   have:=key i s.used[a.aJ.toNat] (by rw [<-e];exact hgx)
   rw [if_pos (by omega)]
   omega
  ·rw [if_neg e] at hx
   have:=key i x hx
   rw [if_neg (by omega)]
   omega

theorem ld {s:cu} {a:ca} (h:bT s=0) (hm:s.aZ.length < 20):
  (bT {cap:=s.cap,used:=s.used.set a.aJ.toNat (s.used.getD a.aJ.toNat 0+a.sum),aZ:=s.aZ++[a]}=3/\ch s a=(fC,3))\/
  (bT {cap:=s.cap,used:=s.used.set a.aJ.toNat (s.used.getD a.aJ.toNat 0+a.sum),aZ:=s.aZ++[a]}=8/\ch s a=(fC,10))\/
  (bT {cap:=s.cap,used:=s.used.set a.aJ.toNat (s.used.getD a.aJ.toNat 0+a.sum),aZ:=s.aZ++[a]}=0/\
   ch s a=({cap:=s.cap,used:=s.used.set a.aJ.toNat (s.used.getD a.aJ.toNat 0+a.sum),aZ:=s.aZ++[a]},0)):=by
 cases ha:gp s.used.length a with
 |false=>exact .inl ⟨vv h hm ha _ List.length_set,by unfold ch;rw [if_neg (by simp [h]),if_neg (by omega),ha];rfl⟩
 |true=>
  rw [BK h hm ha]
  by_cases hc:s.cap < s.used.getD a.aJ.toNat 0+a.sum
  ·exact .inr (.inl ⟨if_pos hc,by unfold ch;rw [if_neg (by simp [h]),if_neg (by omega),if_neg (by simp [ha]),if_pos hc]⟩)
  ·exact .inr (.inr ⟨if_neg hc,by unfold ch;rw [if_neg (by simp [h]),if_neg (by omega),if_neg (by simp [ha]),if_neg hc]⟩)
theorem qu {s:cu} {a:ca} (h:bT s=0) (hm:s.aZ.length < 20) (ha:¬(0<=a.aJ/\a.aJ < s.used.length/\1<=a.sum/\a.sum<=1000000)):
  bT {cap:=s.cap,used:=s.used,aZ:=s.aZ++[a]}=3/\ch s a=(fC,3):=by
 have ha:gp s.used.length a=false:=by simp only [gp,decide_eq_false_iff_not];omega
 exact ⟨vv h hm ha _ rfl,by unfold ch;rw [if_neg (by simp [h]),if_neg (by omega),ha];rfl⟩
theorem yz {s:cu} {a:ca} (h:bT s≠0):ch s a=(fC,bT s):=by unfold ch;rw [if_pos h]
theorem tJ {s:cu} {a:ca} (h:bT s=0) (hm:s.aZ.length=20):ch s a=(fC,5):=by unfold ch;rw [if_neg (by simp [h]),if_pos (by omega)]
theorem qQ {s:cu} (h:bT s=0) {i:Nat} {x:Int} (hx:s.used[i]?=some x):0<=x/\x<=1000000:=by
 obtain ⟨h1,h2,h3,h4,h5⟩:=gJ h
 have:=(gM s.cap s.aZ s.used 0).1 h5 i x hx
 have hg:=pQ s.used.length (0+i) s.aZ h4
 simp only [gb,decide_eq_true_eq] at h3
 omega

theorem uc {l c:Int} (h:c < 0\/8 < c):dw l c=(fC,5):=by unfold dw;rw [if_pos h]
theorem su {l c:Int} (h:¬(c < 0\/8 < c)) (h':¬(0<=l/\l<=1000000)):dw l c=(fC,3):=by unfold dw;rw [if_neg h,if_pos (by simpa [gb] using h')]
theorem pO {l:Int} {c:Nat} (h:c<=8) (h':0<=l/\l<=1000000):dw l c=({cap:=l,used:=List.replicate c 0,aZ:=[]},0):=by
 unfold dw;rw [if_neg (by omega),if_neg (by simpa [gb] using h')];simp

theorem yA {s:cu} {a:ca} (h:bT s=0) (hg:(ch s a).2=0):
  bT (ch s a).1=0/\(ch s a).1.cap=s.cap/\(ch s a).1.used.length=s.used.length/\(ch s a).1.aZ=s.aZ++[a]/\s.aZ.length < 20:=by
 have hp:=gJ h
 by_cases hm:s.aZ.length=20
 ·rw [tJ h hm] at hg;cases hg
 ·have hm:s.aZ.length < 20:=by omega
  rcases ld (a:=a) h hm with ⟨_,h2⟩|⟨_,h2⟩|⟨h1,h2⟩
  ·rw [h2] at hg;cases hg
  ·rw [h2] at hg;cases hg
  ·rw [h2];exact ⟨h1,rfl,List.length_set,rfl,hm⟩
theorem tq (l:Int) (n:Nat) (hn:n<=8) (h0:0<=l) (h1:l<=1000000):bT {cap:=l,used:=List.replicate n 0,aZ:=[]}=0:=by
 rw [gj (by simp;omega) (by simp [gb];omega) (by simp)]
 refine (gM _ _ _ _).2 fun i x hx=>?_
 obtain ⟨_,rfl⟩:=List.getElem?_eq_some_iff.1 hx
 simp [given];omega


def iR (n:Nat) (l:List ca):List Int:=(List.range n).map fun (k:Nat)=>given (k:Int) l
theorem de (n:Nat) (l:List ca):(iR n l).length=n:=by simp [iR]
theorem zn (n:Nat):List.replicate n 0=iR n []:=by simp [iR,given,List.map_const']
theorem sV {n:Nat} {l:List ca} {i:Nat} {x:Int} (h:(iR n l)[i]?=some x):x=given (i:Int) l:=by
 simp only [iR,List.getElem?_map,Option.map_eq_some_iff] at h
 obtain ⟨k,hk,rfl⟩:=h
 obtain ⟨h1,rfl⟩:=List.getElem?_eq_some_iff.1 hk
 simp
theorem zm {n:Nat} {l:List ca} {a:ca} {i:Nat} {v:Int} (h0:a.aJ=(i:Int)) (h1:i < n) (hv:v=given a.aJ l+a.sum):(iR n l).set i v=iR n (l++[a]):=by
 apply List.ext_getElem?
 intro j
 rw [List.getElem?_set]
 simp only [iR,List.length_map,List.length_range,List.getElem?_map,rG]
 by_cases hj:j < n
 ·rw [List.getElem?_range hj,Option.map_some,Option.map_some]
  by_cases e:i=j
  ·rw [if_pos e,if_pos h1,if_pos (by omega),hv,h0,e]
  ·rw [if_neg e,if_neg (by omega),Int.add_zero]
 ·rw [if_neg (by omega),List.getElem?_eq_none (by simpa using hj)]
  rfl
structure aS where (id kind n ax move sum:Int)
 deriving DecidableEq
structure Answer where (err ba:Int)
 deriving DecidableEq
structure bU where (ct:aR) (seen:Int)
 deriving DecidableEq
def pj (x:bx):List D:=[dI x.bf,dI x.held,dI x.bY.cH,dI x.bY.count,dI x.bY.sum,.r 2 (x.cD.map gS)]
def iS (x:bz):List D:=[dI x.aJ,dI x.ax,dI x.sum,dI x.captured,dI x.bu,dI x.bh,dI x.cM,dB x.shut]
def fj (x:bU):List D:=[dI x.ct.number,dI x.ct.kind,dI x.ct.ba,dI x.ct.sum,dI x.seen]
def lh (x:Answer):List D:=[dI x.err,dI x.ba]
def cL (x:aS):List D:=[dI x.id,dI x.kind,dI x.n,dI x.ax,dI x.move,dI x.sum]
def ig (x:dk):List D:=[dI x.cH,dI x.count,dI x.sum]
def sq (x:List Int):List D:=[.r 1 (x.map nT)]
theorem zV (l:List bz):∀ row∈l.map iS,∀ d∈row,d.oI=true:=by
 intro row hr d hd
 obtain ⟨x,_,rfl⟩:=List.mem_map.1 hr
 simp only [iS,List.mem_cons,List.not_mem_nil,or_false] at hd
 rcases hd with rfl|rfl|rfl|rfl|rfl|rfl|rfl|rfl<;>rfl

def fV (l:List Int):CV:=cR 1 (l.map rI)
def dG (l:List Int):AB:=.arr 3 1 (l.map rI)
def ft (l:List cS):CV:=cR 2 (l.map gS)
def Fc (l:List cS):D:=.r 2 (l.map gS)
def oY (l:List cS):AB:=.arr 125 2 (l.map gS)
def gR (l:List ca):CV:=cR 4 (l.map iy)
def AP (l:List ca):AB:=.arr 107 4 (l.map iy)
def dd (l:List aR):CV:=cR 4 (l.map fw)
def xT (l:List aR):AB:=.arr 80 4 (l.map fw)
def dT (l:List Entry):CV:=cR 2 (l.map eC)
def lH (l:List Entry):AB:=.arr 115 2 (l.map eC)
def jf (l:List aj):CV:=cR 4 (l.map gT)
def cG (l:List aj):AB:=.arr 83 4 (l.map gT)
def DO (l:List bx):CV:=cR 6 (l.map pj)
def dO (l:List bx):AB:=.arr 61 6 (l.map pj)
def zg (l:List bz):CV:=cR 8 (l.map iS)
def dV (l:List bz):AB:=.arr 67 8 (l.map iS)
def eo (l:List bU):CV:=cR 5 (l.map fj)
def Fs (l:List bU):AB:=.arr 113 5 (l.map fj)
def DN (l:List Answer):CV:=cR 2 (l.map lh)
def Fq (l:List Answer):AB:=.arr 65 2 (l.map lh)
def uA (l:List aS):CV:=cR 6 (l.map cL)
def wu (l:List aS):AB:=.arr 27 6 (l.map cL)
def DP (l:List Int):CV:=cR 1 (l.map nT)
def xU (l:List Int):AB:=.arr 5 1 (l.map nT)
def DM (l:List (List Int)):CV:=cR 1 (l.map sq)
def pZ (l:List (List Int)):AB:=.arr 86 1 (l.map sq)

theorem fJ:(Try.prog.info? 3).map (fun i=>i.size)=some 1:=by kernel_rfl
theorem GB:(Try.prog.info? 27).map (fun i=>i.size)=some 6:=by kernel_rfl
theorem mm:(Try.prog.info? 34).map (fun i=>i.size)=some 2:=by kernel_rfl
theorem kL:(Try.prog.info? 37).map (fun i=>i.size)=some 1:=by kernel_rfl
theorem DS:(Try.prog.info? 58).map (fun i=>i.size)=some 3:=by kernel_rfl
theorem GA:(Try.prog.info? 59).map (fun i=>i.size)=some 1:=by kernel_rfl
theorem iB:(Try.prog.info? 61).map (fun i=>i.size)=some 6:=by kernel_rfl
theorem ml:(Try.prog.info? 67).map (fun i=>i.size)=some 8:=by kernel_rfl
theorem mj:(Try.prog.info? 80).map (fun i=>i.size)=some 4:=by kernel_rfl
theorem dm:(Try.prog.info? 83).map (fun i=>i.size)=some 4:=by kernel_rfl
theorem CJ:(Try.prog.info? 107).map (fun i=>i.size)=some 4:=by kernel_rfl
theorem uo:(Try.prog.info? 113).map (fun i=>i.size)=some 5:=by kernel_rfl
theorem ed:(Try.prog.info? 115).map (fun i=>i.size)=some 2:=by kernel_rfl
theorem iD:(Try.prog.info? 125).map (fun i=>i.size)=some 2:=by kernel_rfl
theorem CG:(Try.prog.info? 3).bind (fun i=>i.zero)=some (.int .i64 0):=by kernel_rfl
theorem Gm:Gv Try.prog 61 [.int .i64 0,.int .i64 0,.int .i64 0,.int .i64 0,.int .i64 0,.slice none 0 0] [(0,1),(1,1),(2,3),(5,1)]:=⟨by kernel_rfl,by kernel_rfl⟩
theorem Gz:(Try.prog.info? 65).bind (fun i=>i.zero)=some (.agg #[.int .i64 0,.int .i64 0]):=by kernel_rfl
theorem Gy:(Try.prog.info? 80).bind (fun i=>i.zero)=some (.agg #[.int .i64 0,.int .i64 0,.int .i64 0,.int .i64 0]):=by kernel_rfl
theorem CH:(Try.prog.info? 115).bind (fun i=>i.zero)=some (.agg #[.int .i64 0,.int .i64 0]):=by kernel_rfl
theorem Fz:(Try.prog.info? 125).bind (fun i=>i.zero)=some (.agg #[.int .i64 0,.int .i64 0]):=by kernel_rfl
theorem FP:(Try.prog.info? 27).map (fun i=>(i.zero,i.size,i.bytes))=some (some (.agg #[.int .i64 0,.int .i64 0,.int .i64 0,.int .i64 0,.int .i64 0,.int .i64 0]),6,48):=by kernel_rfl
theorem mr:hO Try.prog 24 27 6 48:=gl Try.underlying24 FP rfl (by decide)
theorem FM:(Try.prog.info? 61).map (fun i=>(i.zero,i.size,i.bytes))=some (some (.agg #[.int .i64 0,.int .i64 0,.int .i64 0,.int .i64 0,.int .i64 0,.slice none 0 0]),6,64):=by kernel_rfl
theorem yf:hO Try.prog 29 61 6 64:=gl Try.underlying29 FM rfl (by decide)
theorem GL:(Try.prog.info? 3).map (fun i=>(i.zero,i.size,i.bytes))=some (some (.int .i64 0),1,8):=by kernel_rfl
theorem mq:hO Try.prog 30 3 1 8:=gl Try.underlying30 GL rfl (by decide)
theorem FK:(Try.prog.info? 67).map (fun i=>(i.zero,i.size,i.bytes))=some (some (.agg #[.int .i64 0,.int .i64 0,.int .i64 0,.int .i64 0,.int .i64 0,.int .i64 0,.int .i64 0,.bool false]),8,64):=by kernel_rfl
theorem se:hO Try.prog 31 67 8 64:=gl Try.underlying31 FK rfl (by decide)
theorem FJ:(Try.prog.info? 80).map (fun i=>(i.zero,i.size,i.bytes))=some (some (.agg #[.int .i64 0,.int .i64 0,.int .i64 0,.int .i64 0]),4,32):=by kernel_rfl
theorem uM:hO Try.prog 32 80 4 32:=gl Try.underlying32 FJ rfl (by decide)
theorem Ep:(Try.prog.info? 113).map (fun i=>(i.zero,i.size,i.bytes))=some (some (.agg #[.int .i64 0,.int .i64 0,.int .i64 0,.int .i64 0,.int .i64 0]),5,40):=by kernel_rfl
theorem mo:hO Try.prog 37 113 5 40:=gl Try.underlying37 Ep rfl (by decide)
theorem Er:(Try.prog.info? 107).map (fun i=>(i.zero,i.size,i.bytes))=some (some (.agg #[.int .i64 0,.int .i64 0,.int .i64 0,.int .i64 0]),4,32):=by kernel_rfl
theorem ye:hO Try.prog 39 107 4 32:=gl Try.underlying39 Er rfl (by decide)
theorem FI:(Try.prog.info? 83).map (fun i=>(i.zero,i.size,i.bytes))=some (some (.agg #[.int .i64 0,.int .i64 0,.int .i64 0,.int .i64 0]),4,32):=by kernel_rfl
theorem yd:hO Try.prog 42 83 4 32:=gl Try.underlying42 FI rfl (by decide)
theorem FH:(Try.prog.info? 86).map (fun i=>(i.zero,i.size,i.bytes))=some (some (.slice none 0 0),1,24):=by kernel_rfl
theorem DV:hO Try.prog 43 86 1 24:=gl Try.underlying43 FH rfl (by decide)
theorem Eo:(Try.prog.info? 115).map (fun i=>(i.zero,i.size,i.bytes))=some (some (.agg #[.int .i64 0,.int .i64 0]),2,16):=by kernel_rfl
theorem jV:hO Try.prog 44 115 2 16:=gl Try.underlying44 Eo rfl (by decide)
theorem FL:(Try.prog.info? 65).map (fun i=>(i.zero,i.size,i.bytes))=some (some (.agg #[.int .i64 0,.int .i64 0]),2,16):=by kernel_rfl
theorem DU:hO Try.prog 47 65 2 16:=gl Try.underlying47 FL rfl (by decide)
theorem FO:(Try.prog.info? 58).map (fun i=>(i.zero,i.size,i.bytes))=some (some (.agg #[.int .i64 0,.int .i64 0,.int .i64 0]),3,24):=by kernel_rfl
theorem GC:hO Try.prog 53 58 3 24:=gl Try.underlying53 FO rfl (by decide)
theorem En:(Try.prog.info? 125).map (fun i=>(i.zero,i.size,i.bytes))=some (some (.agg #[.int .i64 0,.int .i64 0]),2,16):=by kernel_rfl
theorem oo:hO Try.prog 59 125 2 16:=gl Try.underlying59 En rfl (by decide)
theorem GK:(Try.prog.info? 5).map (fun i=>(i.zero,i.size,i.bytes))=some (some (.int .u8 0),1,1):=by kernel_rfl
theorem uL:hO Try.prog 86 5 1 1:=gl Try.underlying86 GK rfl (by decide)
theorem FN:(Try.prog.info? 59).map (fun i=>(i.zero,i.size,i.bytes))=some (some (.slice none 0 0),1,24):=by kernel_rfl
theorem FC:hO Try.prog 181 59 1 24:=gl Try.underlying181 FN rfl (by decide)
theorem Hr:bd Try.prog 17:=fun args w=>aY Try.func17 (by kernel_rfl) rfl args w
theorem Hq:bd Try.prog 18:=fun args w=>aY Try.func18 (by kernel_rfl) rfl args w
theorem Ce:bd Try.prog 19:=fun args w=>aY Try.func19 (by kernel_rfl) rfl args w
theorem qC:bd Try.prog 20:=fun args w=>aY Try.func20 (by kernel_rfl) rfl args w
theorem yM:bd Try.prog 21:=fun args w=>aY Try.func21 (by kernel_rfl) rfl args w
theorem Fb:bd Try.prog 22:=fun args w=>aY Try.func22 (by kernel_rfl) rfl args w
theorem Fa:bd Try.prog 23:=fun args w=>aY Try.func23 (by kernel_rfl) rfl args w
theorem Cd:bd Try.prog 24:=fun args w=>aY Try.func24 (by kernel_rfl) rfl args w
theorem EZ:bd Try.prog 26:=fun args w=>aY Try.func26 (by kernel_rfl) rfl args w
theorem yL:bd Try.prog 27:=fun args w=>aY Try.func27 (by kernel_rfl) rfl args w
theorem yK:bd Try.prog 28:=fun args w=>aY Try.func28 (by kernel_rfl) rfl args w
theorem Cc:bd Try.prog 29:=fun args w=>aY Try.func29 (by kernel_rfl) rfl args w
theorem yJ:bd Try.prog 30:=fun args w=>aY Try.func30 (by kernel_rfl) rfl args w
theorem Hp:bd Try.prog 31:=fun args w=>aY Try.func31 (by kernel_rfl) rfl args w
theorem Ho:bd Try.prog 33:=fun args w=>aY Try.func33 (by kernel_rfl) rfl args w
theorem Hn:bd Try.prog 37:=fun args w=>aY Try.func37 (by kernel_rfl) rfl args w
theorem Hm:bd Try.prog 40:=fun args w=>aY Try.func40 (by kernel_rfl) rfl args w
theorem Hl:bd Try.prog 41:=fun args w=>aY Try.func41 (by kernel_rfl) rfl args w
theorem Hk:bd Try.prog 42:=fun args w=>aY Try.func42 (by kernel_rfl) rfl args w
theorem Cb:bd Try.prog 44:=fun args w=>aY Try.func44 (by kernel_rfl) rfl args w
theorem EY:bd Try.prog 45:=fun args w=>aY Try.func45 (by kernel_rfl) rfl args w
theorem EX:bd Try.prog 53:=fun args w=>aY Try.func53 (by kernel_rfl) rfl args w
theorem EW:bd Try.prog 54:=fun args w=>aY Try.func54 (by kernel_rfl) rfl args w
theorem EV:bd Try.prog 55:=fun args w=>aY Try.func55 (by kernel_rfl) rfl args w
theorem Hj:bd Try.prog 56:=fun args w=>aY Try.func56 (by kernel_rfl) rfl args w
theorem Hi:bd Try.prog 59:=fun args w=>aY Try.func59 (by kernel_rfl) rfl args w
theorem Ca:bd Try.prog 60:=fun args w=>aY Try.func60 (by kernel_rfl) rfl args w
theorem EU:bd Try.prog 61:=fun args w=>aY Try.func61 (by kernel_rfl) rfl args w
theorem Hh:bd Try.prog 62:=fun args w=>aY Try.func62 (by kernel_rfl) rfl args w
theorem Hg:bd Try.prog 63:=fun args w=>aY Try.func63 (by kernel_rfl) rfl args w
theorem Hf:bd Try.prog 64:=fun args w=>aY Try.func64 (by kernel_rfl) rfl args w
theorem He:bd Try.prog 65:=fun args w=>aY Try.func65 (by kernel_rfl) rfl args w
theorem Hd:bd Try.prog 66:=fun args w=>aY Try.func66 (by kernel_rfl) rfl args w
theorem ET:bd Try.prog 67:=fun args w=>aY Try.func67 (by kernel_rfl) rfl args w
theorem Hc:bd Try.prog 68:=fun args w=>aY Try.func68 (by kernel_rfl) rfl args w
theorem Hb:bd Try.prog 69:=fun args w=>aY Try.func69 (by kernel_rfl) rfl args w
theorem Ha:bd Try.prog 70:=fun args w=>aY Try.func70 (by kernel_rfl) rfl args w
theorem ES:bd Try.prog 71:=fun args w=>aY Try.func71 (by kernel_rfl) rfl args w
theorem BZ:bd Try.prog 72:=fun args w=>aY Try.func72 (by kernel_rfl) rfl args w
theorem jN:bd Try.prog 73:=fun args w=>aY Try.func73 (by kernel_rfl) rfl args w
theorem qB:bd Try.prog 74:=fun args w=>aY Try.func74 (by kernel_rfl) rfl args w
theorem nE:bd Try.prog 75:=fun args w=>aY Try.func75 (by kernel_rfl) rfl args w
theorem mz:bd Try.prog 76:=fun args w=>aY Try.func76 (by kernel_rfl) rfl args w
theorem fD:bd Try.prog 77:=fun args w=>aY Try.func77 (by kernel_rfl) rfl args w
theorem GZ:bd Try.prog 78:=fun args w=>aY Try.func78 (by kernel_rfl) rfl args w
theorem ER:bd Try.prog 79:=fun args w=>aY Try.func79 (by kernel_rfl) rfl args w
theorem GY:bd Try.prog 80:=fun args w=>aY Try.func80 (by kernel_rfl) rfl args w
theorem GX:bd Try.prog 81:=fun args w=>aY Try.func81 (by kernel_rfl) rfl args w
theorem yI:bd Try.prog 82:=fun args w=>aY Try.func82 (by kernel_rfl) rfl args w
theorem GW:bd Try.prog 83:=fun args w=>aY Try.func83 (by kernel_rfl) rfl args w
theorem EP:bd Try.prog 84:=fun args w=>aY Try.func84 (by kernel_rfl) rfl args w
theorem EO:bd Try.prog 85:=fun args w=>aY Try.func85 (by kernel_rfl) rfl args w
theorem EN:bd Try.prog 86:=fun args w=>aY Try.func86 (by kernel_rfl) rfl args w
theorem nD:bd Try.prog 87:=fun args w=>aY Try.func87 (by kernel_rfl) rfl args w
theorem EM:bd Try.prog 88:=fun args w=>aY Try.func88 (by kernel_rfl) rfl args w
theorem EL:bd Try.prog 89:=fun args w=>aY Try.func89 (by kernel_rfl) rfl args w
theorem GU:bd Try.prog 90:=fun args w=>aY Try.func90 (by kernel_rfl) rfl args w
theorem GS:bd Try.prog 91:=fun args w=>aY Try.func91 (by kernel_rfl) rfl args w
theorem GR:bd Try.prog 92:=fun args w=>aY Try.func92 (by kernel_rfl) rfl args w
theorem EK:bd Try.prog 93:=fun args w=>aY Try.func93 (by kernel_rfl) rfl args w
theorem GQ:bd Try.prog 94:=fun args w=>aY Try.func94 (by kernel_rfl) rfl args w
theorem EJ:bd Try.prog 95:=fun args w=>aY Try.func95 (by kernel_rfl) rfl args w
theorem GP:bd Try.prog 96:=fun args w=>aY Try.func96 (by kernel_rfl) rfl args w
theorem GO:bd Try.prog 97:=fun args w=>aY Try.func97 (by kernel_rfl) rfl args w
theorem GN:bd Try.prog 98:=fun args w=>aY Try.func98 (by kernel_rfl) rfl args w
theorem EI:bd Try.prog 99:=fun args w=>aY Try.func99 (by kernel_rfl) rfl args w
theorem Gg:bd Try.prog 100:=fun args w=>aY Try.func100 (by kernel_rfl) rfl args w
theorem CW:bd Try.prog 101:=fun args w=>aY Try.func101 (by kernel_rfl) rfl args w
theorem Gf:bd Try.prog 102:=fun args w=>aY Try.func102 (by kernel_rfl) rfl args w
theorem CU:bd Try.prog 103:=fun args w=>aY Try.func103 (by kernel_rfl) rfl args w
theorem Ge:bd Try.prog 104:=fun args w=>aY Try.func104 (by kernel_rfl) rfl args w
theorem Gd:bd Try.prog 105:=fun args w=>aY Try.func105 (by kernel_rfl) rfl args w
theorem CS:bd Try.prog 106:=fun args w=>aY Try.func106 (by kernel_rfl) rfl args w
theorem Gc:bd Try.prog 107:=fun args w=>aY Try.func107 (by kernel_rfl) rfl args w
theorem CR:bd Try.prog 108:=fun args w=>aY Try.func108 (by kernel_rfl) rfl args w
theorem CQ:bd Try.prog 109:=fun args w=>aY Try.func109 (by kernel_rfl) rfl args w
theorem yN:bd Try.prog 110:=fun args w=>aY Try.func110 (by kernel_rfl) rfl args w
theorem Gb:bd Try.prog 111:=fun args w=>aY Try.func111 (by kernel_rfl) rfl args w
theorem CP:bd Try.prog 112:=fun args w=>aY Try.func112 (by kernel_rfl) rfl args w
theorem Ga:bd Try.prog 113:=fun args w=>aY Try.func113 (by kernel_rfl) rfl args w
theorem CO:bd Try.prog 114:=fun args w=>aY Try.func114 (by kernel_rfl) rfl args w
theorem FZ:bd Try.prog 115:=fun args w=>aY Try.func115 (by kernel_rfl) rfl args w
theorem FY:bd Try.prog 116:=fun args w=>aY Try.func116 (by kernel_rfl) rfl args w
theorem FX:bd Try.prog 117:=fun args w=>aY Try.func117 (by kernel_rfl) rfl args w
theorem FW:bd Try.prog 118:=fun args w=>aY Try.func118 (by kernel_rfl) rfl args w
theorem FV:bd Try.prog 119:=fun args w=>aY Try.func119 (by kernel_rfl) rfl args w
theorem FU:bd Try.prog 120:=fun args w=>aY Try.func120 (by kernel_rfl) rfl args w
theorem FT:bd Try.prog 121:=fun args w=>aY Try.func121 (by kernel_rfl) rfl args w
theorem uv:bd Try.prog 122:=fun args w=>aY Try.func122 (by kernel_rfl) rfl args w
theorem FR:bd Try.prog 123:=fun args w=>aY Try.func123 (by kernel_rfl) rfl args w
theorem mixed:Try.prog.follows .mixedOrders=true:=by kernel_rfl
theorem pn {P:Program} {st:aE} {o:Oper} {t e bytes n:Nat} {x y:Operand} {i j:Int} (k:Nat) (hT:hO P t e 1 bytes) (hz:(P.info? e).bind (fun i=>i.zero)=some (.int .i64 0)) (ho:o.op=.makeSlice t x y) (hx:ev st x (.v (.c (.d (.v (.int .i64 i)))))) (hy:ev st y (.v (.c (.d (.v (.int .i64 j))))))
    (hi:i=n) (hj:j=n) (hb:bytes * n<=281474976710656) (h63:n<=9223372036854775807):aH P o st (.v (.c (.s k 0 1 n))) [(k,.arr e 1 ((List.replicate n 0).map rI))] []:=by
  have h:=Ex k hT hz rfl rfl ho hx hy hi hj hb h63
  have e1:List.replicate n [D.v (.int .i64 0)]=(List.replicate n (0:Int)).map rI:=by rw [List.map_replicate];rfl
  rw [e1] at h
  exact h
section

def mV (ps:List (Int×Int)):List (Int×Value):=ps.map fun p=>(p.1,.int .i64 p.2)
section
variable {P:Program} {st:aE} {o:Oper}
theorem Ai {t:TypeId} (k:Nat) (ho:o.op=.makeMap t none):aH P o st (.v (.c (.m k))) [(k,.map (mV []) 0)] []:=
 aH.new (P:=P) fun σ T ac w C hk=>by
  refine ⟨.map (some w.heap.size),.map #[] 0,0,?_,⟨⟨w.heap.size,0⟩,#[],rfl,.inr rfl,heap_alloc_new w _,rfl⟩,⟨_,fQ _ _ _,rfl⟩⟩
  unfold execOp
  simp only [ho,Option.map_none,Sem.run_bind,(show ∀ t w,(Instr.makeMap t none).run P w=.ok (.map (some w.heap.size)) (w.alloc (.map #[] 0)) from fun _ _=>rfl),Result.andThen_ok]
  rfl
end
end
end Go.Proofs.Ytegepioggeggaaa.Dev
