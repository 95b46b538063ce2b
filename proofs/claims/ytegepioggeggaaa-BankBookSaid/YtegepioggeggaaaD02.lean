/- A part of the proof: Sh12, Opn, Sh13, Sh14, Sh15, Dat, PlAuth, PlStand, Dat2, Abb. No condition. -/
import Derived.Test.YtegepioggeggaaaD01
import Derived.Lib.SmallJoins
set_option linter.unusedVariables false
set_option linter.unusedSimpArgs false
namespace Go.Proofs.Ytegepioggeggaaa.Dev
open Go.RowKit
open Go.RowKit Go.ChangeShapes Go.WideShapes Go.Deep Go.Joins
section

section
variable {P:Program} {st:aM} {o:Oper}
theorem cU.fD {σ:Nat->Option bQ} {T T':Nat->Prop} {w:World} (h:∀ b,T' b->T b) {x:CV} {v:Value} (hx:cU σ T w x v):cU σ T' w x v:=by
 cases x with
 |any=>trivial
 |d x=>exact br.fD h hx
 |p k i K o=>exact hx
 |q row o=>
  obtain ⟨b,off,h1,h2,h3,h4⟩:=hx
  refine ⟨b,off,h1,h2,fun hb=>h3 (h b hb),fun j d hj=>?_⟩
  obtain ⟨u,hu,hr⟩:=h4 j d hj
  exact ⟨u,hu,hr.fD h⟩
 |s k i K n=>exact hx
 |sx k i K n c e=>exact hx
 |m k=>exact hx
 |fn f bn=>exact hx
theorem dp.fD {σ:Nat->Option bQ} {T T':Nat->Prop} {w:World} (h:∀ b,T' b->T b) {x:GV} {v:Value} (hx:dp σ T w x v):dp σ T' w x v:=by
 cases x with
 |c x=>exact cU.fD h (x:=x) hx
 |g xs=>obtain ⟨vs,h1,h2⟩:=hx;exact ⟨vs,h1,h2.mono fun _ _ hh=>hh.fD h⟩
theorem dn.fD {σ:Nat->Option bQ} {T T':Nat->Prop} {w:World} (h:∀ b,T' b->T b) {og:Option bQ} (bN:∀ g,og=some g->T g.g->T' g.g) {b:AB} (hx:dn σ T w og b):dn σ T' w og b:=by
 cases b with
 |box t cs=>obtain ⟨g,vs,h1,h2,h3,h4⟩:=hx;exact ⟨g,vs,h1,bN g h1 h2,h3,h4.mono fun _ _ hh=>hh.fD h⟩
 |arr t K rows=>
  refine ⟨hx.1,?_⟩
  rcases hx.2 with h1|⟨g,vs,h1,h2,h3,h4,h5,h6⟩
  ·exact .inl h1
  ·exact .inr ⟨g,vs,h1,bN g h1 h2,h3,h4,h5,h6.1,fun i row hi=>⟨(h6.2 i row hi).1,fun j d hj=>by
    obtain ⟨u,hu,hr⟩:=(h6.2 i row hi).2 j d hj
    exact ⟨u,hu,hr.fD h⟩⟩⟩
 |map es cl=>obtain ⟨g,ms,h1,h2,h3⟩:=hx;exact ⟨g,ms,h1,bN g h1 h2,h3⟩
theorem cU.up {σ : Nat → Option bQ} {T : Nat → Prop} {w : World} {x : CV} {v : Value} (hx : cU (fun _ => none) T w x v) : cU σ T w x v := by
  cases x with
  | any => trivial
  | d x => exact hx
  | p k i K o => obtain ⟨g, h, _⟩ := hx; cases h
  | q row o => exact hx
  | s k i K n => rcases hx with h | ⟨g, h, _⟩
                 · exact .inl h
                 · cases h
  | sx k i K n c e => obtain ⟨g, off, h, _⟩ := hx; cases h
  | m k => obtain ⟨g, h, _⟩ := hx; cases h
  | fn f bn =>
    obtain ⟨gs, h1, h2⟩ := hx
    cases bn with
    | nil => cases gs with
      | nil => exact ⟨[], rfl, h2⟩
      | cons => cases h1
    | cons => cases gs with
      | nil => cases h1
      | cons => rw [List.map_cons, List.map_cons, List.cons.injEq] at h1; cases h1.1
theorem dp.up {σ:Nat->Option bQ} {T:Nat->Prop} {w:World} {x:GV} {v:Value} (hx:dp (fun _=>none) T w x v):dp σ T w x v:=by
 cases x with
 |c x=>exact cU.up (x:=x) hx
 |g xs=>obtain ⟨vs,h1,h2⟩:=hx;exact ⟨vs,h1,h2.mono fun _ _ hh=>hh.up⟩
def HJ (st:aM) (E:List Nat) (ρ:Nat->Nat) (p:Nat->Bool) (g y:GV):Prop:=(g=y.map ρ/\y.ok p=true)\/tb st E g y
def qA (st:aM) (E:List Nat) (ρ:Nat->Nat) (p:Nat->Bool):List Operand->List GV->Prop
 |[],[]=>True
 |x::xs,y::ys=>(∃ g,ev st x (.v g)/\HJ st E ρ p g y)/\qA st E ρ p xs ys
 |_,_=>False
def oa (h:List (Nat×AB)) (k:Nat):Bool:=match look h k with|some (.box _ _)=>true|_=>false
def pU (h:List (Nat×AB)) (k:Nat):Prop:=oa h k=true\/∃ t K rows,look h k=some (.arr t K rows)/\0 < rows.length
theorem tK {h:List (Nat×AB)} {cS:List Nat} (hk:cS.all (fun k=>oa h k)=true):∀ k∈cS,pU h k:=fun k hm=>.inl (List.all_eq_true.1 hk k hm)
theorem ml {l:List Nat} {ρ:Nat->Nat} (h:eo (l.map ρ)=true):∀ k k',k∈l->k'∈l->ρ k=ρ k'->k=k':=by
 induction l with
 |nil=>intro _ _ h;cases h
 |cons j l ih=>
  simp only [List.map_cons,eo,Bool.and_eq_true,Bool.not_eq_true',List.any_eq_false] at h
  have far:∀ k,k∈l->ρ j≠ρ k:=fun k hm e=>h.1 (ρ k) (List.mem_map.2 ⟨k,hm,rfl⟩) (by rw [e];exact Nat.beq_refl _)
  intro k k' hk hk' he
  rcases List.mem_cons.1 hk with rfl|h1
  ·rcases List.mem_cons.1 hk' with h2|h2
   ·exact h2.symm
   ·exact absurd he (far _ h2)
  ·rcases List.mem_cons.1 hk' with rfl|h2
   ·exact absurd he.symm (far _ h1)
   ·exact ih h.2 k k' h1 h2 he
def pull (μ:Nat->Nat) (σ' σ:Nat->Option bQ):List Nat->Nat->Option bQ
 |[],j=>σ j
 |k::l,j=>if μ k=j then σ' k else pull μ σ' σ l j
theorem nE {μ:Nat->Nat} {σ' σ:Nat->Option bQ} {l:List Nat} (hi:∀ k k',k∈l->k'∈l->μ k=μ k'->k=k') {k:Nat} (hk:k∈l):pull μ σ' σ l (μ k)=σ' k:=by
 induction l with
 |nil=>cases hk
 |cons j l ih=>
  show (if μ j=μ k then σ' j else pull μ σ' σ l (μ k))=σ' k
  by_cases e:μ j=μ k
  ·rw [if_pos e,hi j k List.mem_cons_self hk e]
  ·rw [if_neg e]
   exact ih (fun a b ha hb=>hi a b (List.mem_cons_of_mem _ ha) (List.mem_cons_of_mem _ hb)) ((List.mem_cons.1 hk).resolve_left fun h=>e (by rw [h]))
theorem mh {μ:Nat->Nat} {σ' σ:Nat->Option bQ} {l:List Nat} {j:Nat} (h:∀ k∈l,μ k≠j):pull μ σ' σ l j=σ j:=by
 induction l with
 |nil=>rfl
 |cons k l ih=>
  show (if μ k=j then σ' k else pull μ σ' σ l j)=σ j
  rw [if_neg (h k List.mem_cons_self)]
  exact ih fun k hk=>h k (List.mem_cons_of_mem _ hk)
theorem lP {f:FuncId} {c:Call} {ins:List GV} {bN:List (Nat×AB)} {cS:List Nat} {av av':AV} {nb nb':List (Nat×AB)} {EE:List Nat} {p:D->Prop} (ρ μ:Nat->Nat) (E:List Nat) (hF:cM P f ins bN cS av nb) (hen:bo P f) (ho:o.op=.call c) (hc:c.callee=.value (.func f))
  (hargs:qA st E ρ (bu bN) c.args.toList ins) (hheap:du (fun x=>look st.h (ρ x.1)=some (x.2.map' ρ)) bN) (hokin:bN.all (fun x=>x.2.ok (bu bN))=true) (hinj:eo ((keys bN).map ρ)=true) (hE:bN.all (fun x=>!dO (ρ x.1) E)=true) (hEl:E.all (fun e=>bu st.h e)=true)
  (hkeep:∀ k∈cS,pU bN k) (hEE:(keys bN).map ρ=EE) (hμ:eo ((keys nb).map μ)=true) (hμk:(keys nb).all (fun k=>(dO k cS && Nat.beq (μ k) (ρ k))||(!dO k cS && !dO (μ k) EE))=true)
  (hg:av.ej p) (hgb:du (fun x=>x.2.ej p) nb) (hok:av.ok (bu nb)=true) (hokb:nb.all (fun x=>x.2.ok (bu nb))=true) (hav:av.map μ=av') (hnb:fX μ nb=nb')
  (hD:∀ (σ:Nat->Option bQ) (T Tc T':Nat->Prop) (w':World) d v,(∀ b,T' b->T b\/Tc b)->(∀ b,fJ σ T E b->Tc b)->p d->br Tc w' d v->br T' w' d v):aJ P o st av' nb' EE:=by
 intro σ T a w C hnew
 subst hav hnb hEE
 have hinj':=ml hinj
 have hin_mem:∀ k,bu bN k=true->k∈keys bN:=fun k hk=>by
  obtain ⟨b,hb⟩:=gz hk
  exact List.mem_map.2 ⟨(k,b),hb,rfl⟩
 have mem_in:∀ k,k∈keys bN->bu bN k=true:=fun k hk=>by
  obtain ⟨x,hx,rfl⟩:=List.mem_map.1 hk
  exact cY (b:=x.2) hx
 let σc:Nat->Option bQ:=fun k=>if bu bN k=true then σ (ρ k) else none
 have hσc:∀ k,bu bN k=true->σc k=σ (ρ k):=fun k hk=>if_pos hk
 let Tc:=fJ σ T E
 have hlow:∀ b,Tc b->T b:=fun b h=>h.1
 have hsep:∀ k b g,(k,b)∈bN->σ (ρ k)=some g->Tc g.g:=by
  intro k b g hk hg
  refine ⟨(C.heap _ _ (hheap.mem _ hk)).ox hg,fun e he g' hg' hgg=>?_⟩
  obtain ⟨b',hb'⟩:=gz (List.all_eq_true.1 hEl e he)
  have hb':∃ b',look st.h e=some b':=by
   have:=List.all_eq_true.1 hEl e he
   cases hl:look st.h e with
   |none=>simp [bu,hl] at this
   |some b'=>exact ⟨b',rfl⟩
  obtain ⟨b',hb'⟩:=hb'
  have heq:=C.inj e (ρ k) b' _ g' g hb' (hheap.mem _ hk) hg' hg hgg
  have:=List.all_eq_true.1 hE _ hk
  simp only [Bool.not_eq_true'] at this
  rw [<-heq,eN.2 he] at this
  cases this
 have hh:∀ k b,(k,b)∈bN->dn σc Tc w (σc k) b:=by
  intro k b hk
  have hkin:=cY hk
  rw [hσc k hkin]
  refine dn.fD hlow (fun g hg _=>hsep k b g hk hg) ?_
  exact dn.bL (ρ:=ρ) hσc (C.heap _ _ (hheap.mem _ hk)) (List.all_eq_true.1 hokin _ hk)
 have hij:∀ k k' b b' g g',(k,b)∈bN->(k',b')∈bN->σc k=some g->σc k'=some g'->g.g=g'.g->k=k':=by
  intro k k' b b' g g' hk hk' hg hg' hgg
  rw [hσc k (cY hk)] at hg
  rw [hσc k' (cY hk')] at hg'
  exact hinj' k k' (hin_mem _ (cY hk)) (hin_mem _ (cY hk')) (C.inj _ _ _ _ g g' (hheap.mem _ hk) (hheap.mem _ hk') hg hg' hgg)
 have hkp:∀ k∈cS,bu bN k=true/\∃ g,σ (ρ k)=some g:=by
  intro k hk
  rcases hkeep k hk with this|⟨t,K,rows,hl,hpos⟩
  ·unfold oa at this
   cases hl:look bN k with
   |none=>simp [hl] at this
   |some b=>
    cases b with
    |box t cs=>
     refine ⟨by simp [bu,hl],?_⟩
     obtain ⟨g,_,h1,_⟩:=C.heap _ _ (hheap.mem _ (bO hl))
     exact ⟨g,h1⟩
    |arr=>simp [hl] at this
    |map=>simp [hl] at this
  ·refine ⟨by simp [bu,hl],?_⟩
   obtain ⟨_,h1|⟨g,_,h1,_⟩⟩:=C.heap _ _ (hheap.mem _ (bO hl))
   ·obtain ⟨h1,_⟩:=h1
    rw [h1] at hpos;cases hpos
   ·exact ⟨g,h1⟩
 have hrel:cm (dp σc Tc w) ins (c.args.map a.eval).toList:=by
  rw [Array.toList_map]
  have gen:∀ (xs:List Operand) (ys:List GV),qA st E ρ (bu bN) xs ys->cm (dp σc Tc w) ys (xs.map a.eval):=by
   intro xs
   induction xs with
   |nil=>intro ys h;cases ys with
    |nil=>trivial
    |cons=>exact h.elim
   |cons x xs ih=>
    intro ys h
    cases ys with
    |nil=>exact h.elim
    |cons y ys=>
     refine ⟨?_,ih ys h.2⟩
     obtain ⟨g,h1,h2|h2⟩:=h.1
     ·obtain ⟨h2,h3⟩:=h2
      subst h2
      exact dp.fD hlow (dp.bL (ρ:=ρ) hσc (x:=y) (bG C h1) h3)
     ·exact dp.up (h2.rel C (bG C h1))
  exact gen _ _ hargs
 refine mN ho hc hen ((hF Tc σc w _ (fun b h=>C.eB b h.1) hh hij (fun k hk=>?_) hrel).mono ?_)
 ·obtain ⟨h1,g,h2⟩:=hkp k hk
  exact ⟨g,by rw [hσc k h1,h2]⟩
 rintro e w' ⟨v,σ',T',rfl,R⟩
 let T2:Nat->Prop:=fun b=>T b\/T' b
 let σ2:=pull μ σ' σ (keys nb)
 have hμ':=ml hμ
 have hσ2:∀ k,bu nb k=true->σ2 (μ k)=σ' k:=fun k hk=>by
  obtain ⟨b,hb⟩:=gz hk
  exact nE hμ' (List.mem_map.2 ⟨(k,b),hb,rfl⟩)
 have hD':∀ d v,p d->br T' w' d v->br T2 w' d v:=fun d v=>hD σ T T' T2 w' d v (fun b h=>h) R.mv
 have hmem:∀ k b,(k,b)∈fX μ nb->∃ k0 b0,(k0,b0)∈nb/\k=μ k0/\b=b0.map' μ:=by
  intro k b h
  obtain ⟨⟨k0,b0⟩,h1,h2⟩:=List.mem_map.1 h
  injection h2 with h2 h3
  exact ⟨k0,b0,h1,h2.symm,h3.symm⟩
 have hcase:∀ k∈keys nb,(k∈cS/\μ k=ρ k)\/(k ∉ cS/\μ k ∉ (keys bN).map ρ):=by
  intro k hk
  have:=List.all_eq_true.1 hμk k hk
  simp only [Bool.or_eq_true,Bool.and_eq_true,Bool.not_eq_true'] at this
  rcases this with ⟨h1,h2⟩|⟨h1,h2⟩
  ·exact .inl ⟨eN.1 h1,Nat.eq_of_beq_eq_true h2⟩
  ·exact .inr ⟨fun h=>(Bool.eq_false_iff.1 h1) (eN.2 h),fun h=>(Bool.eq_false_iff.1 h2) (eN.2 h)⟩
 have C2:∀ b,(∃ k∈(keys bN).map ρ,∃ g,σ k=some g/\g.g=b)↔∃ k∈keys bN,∃ g,σc k=some g/\g.g=b:=by
  intro b
  constructor
  ·rintro ⟨k,hk,g,hg,hgb⟩
   obtain ⟨k0,hk0,rfl⟩:=List.mem_map.1 hk
   exact ⟨k0,hk0,g,by rw [hσc k0 (mem_in k0 hk0)];exact hg,hgb⟩
  ·rintro ⟨k,hk,g,hg,hgb⟩
   rw [hσc k (mem_in k hk)] at hg
   exact ⟨ρ k,List.mem_map.2 ⟨k,hk,rfl⟩,g,hg,hgb⟩
 refine ⟨v,rfl,v,σ2,T2,rfl,⟨R.os,R.tape,R.output,⟨R.size,fun b hb hno=>R.cw b hb fun k hk g hg hgb=>hno ((C2 b).2 ⟨k,hk,g,hg,hgb⟩),fun b hb=>?_,fun b hb h=>?_,fun j g hj=>?_⟩,fun b h=>.inl h,fun b h=>?_,fun j hj=>?_,?_,?_,?_⟩,R.rel.back hD' hσ2 hg hok⟩
 ·obtain ⟨k,hk,g,hg,rfl⟩:=hb
  obtain ⟨k0,hk0,rfl⟩:=List.mem_map.1 hk
  obtain ⟨x,hx,rfl⟩:=List.mem_map.1 hk0
  exact (C.heap _ _ (hheap.mem x hx)).ox hg
 ·rcases h with h|h
  ·exact h
  ·exact (R.lk b hb h).1
 ·show pull μ σ' σ (keys nb) j=some g
  by_cases hex:∃ k∈keys nb,μ k=j
  ·obtain ⟨k,hk,rfl⟩:=hex
   rw [nE hμ' hk]
   rcases hcase k hk with ⟨h1,h2⟩|⟨h1,h2⟩
   ·rw [R.kept k h1,hσc k (hkp k h1).1,<-h2];exact hj
   ·obtain ⟨x,hx,rfl⟩:=List.mem_map.1 hk
    have:=hnew (μ x.1) (x.2.map' μ) (List.mem_map.2 ⟨x,hx,rfl⟩) h2
    rw [this] at hj;cases hj
  ·rw [mh fun k hk e=>hex ⟨k,hk,e⟩];exact hj
 ·rcases h with h|h
  ·exact Nat.lt_of_lt_of_le (C.eB b h) R.size
  ·exact R.eB b h
 ·exact mh fun k hk e=>by
   obtain ⟨x,hx,rfl⟩:=List.mem_map.1 hk
   exact hj (x.2.map' μ) (List.mem_map.2 ⟨x,hx,by rw [e]⟩)
 ·intro k b h
  obtain ⟨k0,b0,h1,rfl,rfl⟩:=hmem k b h
  rw [hσ2 k0 (cY h1)]
  exact (R.heap k0 b0 h1).back hD' hσ2 (fun b h=>.inr h) (hgb.mem _ h1) (List.all_eq_true.1 hokb _ h1)
 ·intro k b g h hg
  obtain ⟨k0,b0,h1,rfl,rfl⟩:=hmem k b h
  rw [hσ2 k0 (cY h1)] at hg
  rcases R.fresh k0 b0 g h1 hg with h2|⟨e,he,g',hg',hgg⟩
  ·exact .inl h2
  ·exact .inr ((C2 g.g).2 ⟨e,he,g',hg',hgg⟩)
 ·intro k k' b b' g g' h h' hg hg' hgg
  obtain ⟨k0,b0,h1,rfl,rfl⟩:=hmem k b h
  obtain ⟨k1,b1,h2,rfl,rfl⟩:=hmem k' b' h'
  rw [hσ2 k0 (cY h1)] at hg
  rw [hσ2 k1 (cY h2)] at hg'
  rw [R.inj k0 k1 b0 b1 g g' h1 h2 hg hg' hgg]
theorem cO {f:FuncId} {c:Call} {ins:List GV} {bN:List (Nat×AB)} {cS:List Nat} {av av':AV} {nb nb':List (Nat×AB)} {EE:List Nat} (ρ μ:Nat->Nat) (hF:cM P f ins bN cS av nb) (hen:bo P f) (ho:o.op=.call c) (hc:c.callee=.value (.func f))
  (hargs:qA st [] ρ (bu bN) c.args.toList ins) (hheap:du (fun x=>look st.h (ρ x.1)=some (x.2.map' ρ)) bN) (hokin:bN.all (fun x=>x.2.ok (bu bN))=true) (hinj:eo ((keys bN).map ρ)=true)
  (hkeep:cS.all (fun k=>oa bN k)=true) (hEE:(keys bN).map ρ=EE) (hμ:eo ((keys nb).map μ)=true) (hμk:(keys nb).all (fun k=>(dO k cS && Nat.beq (μ k) (ρ k))||(!dO k cS && !dO (μ k) EE))=true)
  (hg:av.ej (fun _=>True)) (hgb:du (fun x=>x.2.ej fun _=>True) nb) (hok:av.ok (bu nb)=true) (hokb:nb.all (fun x=>x.2.ok (bu nb))=true) (hav:av.map μ=av') (hnb:fX μ nb=nb'):aJ P o st av' nb' EE:=
 lP ρ μ [] hF hen ho hc hargs hheap hokin hinj (by simp [dO]) rfl (tK hkeep) hEE hμ hμk hg hgb hok hokb hav hnb fun σ T Tc T' w' d v h1 h2 _ h=>h.fD fun b hb=>by
  rcases h1 b hb with h|h
  ·exact h2 b ⟨h,fun k hk=>by cases hk⟩
  ·exact h
theorem vO {f:FuncId} {c:Call} {ins:List GV} {bN:List (Nat×AB)} {cS:List Nat} {av av':AV} {nb nb':List (Nat×AB)} {EE:List Nat} (ρ μ:Nat->Nat) (E:List Nat) (hF:cM P f ins bN cS av nb) (hen:bo P f) (ho:o.op=.call c) (hc:c.callee=.value (.func f))
  (hargs:qA st E ρ (bu bN) c.args.toList ins) (hheap:du (fun x=>look st.h (ρ x.1)=some (x.2.map' ρ)) bN) (hokin:bN.all (fun x=>x.2.ok (bu bN))=true) (hinj:eo ((keys bN).map ρ)=true) (hE:bN.all (fun x=>!dO (ρ x.1) E)=true) (hEl:E.all (fun e=>bu st.h e)=true)
  (hkeep:cS.all (fun k=>oa bN k)=true) (hEE:(keys bN).map ρ=EE) (hμ:eo ((keys nb).map μ)=true) (hμk:(keys nb).all (fun k=>(dO k cS && Nat.beq (μ k) (ρ k))||(!dO k cS && !dO (μ k) EE))=true)
  (hg:av.ej (fun d=>d.oW=true)) (hgb:du (fun x=>x.2.ej fun d=>d.oW=true) nb) (hok:av.ok (bu nb)=true) (hokb:nb.all (fun x=>x.2.ok (bu nb))=true) (hav:av.map μ=av') (hnb:fX μ nb=nb'):aJ P o st av' nb' EE:=
 lP ρ μ E hF hen ho hc hargs hheap hokin hinj hE hEl (tK hkeep) hEE hμ hμk hg hgb hok hokb hav hnb fun σ T Tc T' w' d v h1 h2 hp h=>by
  cases d with
  |v x=>cases h;exact .v _ (by assumption)
  |r=>cases hp
  |f=>cases hp
theorem dU {f:FuncId} {c:Call} {ins:List GV} {bN:List (Nat×AB)} {cS:List Nat} {av av':AV} {nb nb':List (Nat×AB)} {EE:List Nat} (ρ μ:Nat->Nat) (hF:cM P f ins bN cS av nb) (hen:bo P f) (ho:o.op=.call c) (hc:c.callee=.value (.func f))
  (hargs:qA st [] ρ (bu bN) c.args.toList ins) (hheap:du (fun x=>look st.h (ρ x.1)=some (x.2.map' ρ)) bN) (hokin:bN.all (fun x=>x.2.ok (bu bN))=true) (hinj:eo ((keys bN).map ρ)=true)
  (hkeep:du (pU bN) cS) (hEE:(keys bN).map ρ=EE) (hμ:eo ((keys nb).map μ)=true) (hμk:(keys nb).all (fun k=>(dO k cS && Nat.beq (μ k) (ρ k))||(!dO k cS && !dO (μ k) EE))=true)
  (hg:av.ej (fun _=>True)) (hgb:du (fun x=>x.2.ej fun _=>True) nb) (hok:av.ok (bu nb)=true) (hokb:nb.all (fun x=>x.2.ok (bu nb))=true) (hav:av.map μ=av') (hnb:fX μ nb=nb'):aJ P o st av' nb' EE:=
 lP ρ μ [] hF hen ho hc hargs hheap hokin hinj (by simp [dO]) rfl (fun k hk=>hkeep.mem k hk) hEE hμ hμk hg hgb hok hokb hav hnb fun σ T Tc T' w' d v h1 h2 _ h=>h.fD fun b hb=>by
  rcases h1 b hb with h|h
  ·exact h2 b ⟨h,fun k hk=>by cases hk⟩
  ·exact h
end
section
variable {P:Program} {W0:World} {F:Nat->Prop} {N:NT} {T0:Nat->Prop} {pin:List (Nat×bQ)} {ops:Array Oper} {Q:Exit->aM->Prop} {s:List (Nat×AV)} {h:List (Nat×AB)} {n:Nat}
theorem kb {h:List (Nat×AB)} {k:Nat} (hk:bu h k=true):∃ b,look h k=some b:=by
 cases hl:look h k with
 |none=>simp [bu,hl] at hk
 |some b=>exact ⟨b,rfl⟩
theorem CE {o:Oper} {rest:List Oper} {d n':Nat} {av:AV} {nb h':List (Nat×AB)} {E:List Nat} (hw:ah ops o ⟨s,h,n⟩) (g:aJ P o ⟨s,h,n⟩ av nb E) (hd:o.dst=some d) (hN:Nat.blt d N.1=true) (hE:E.all (fun e=>bu h e)=true) (hnb:nb.all (fun x=>dO x.1 E||Nat.ble n x.1)=true) (hn:iK nb n=n') (hh:nb++del E h=h') (k:AL P W0 F N T0 pin ops Q rest ⟨(d,av)::s,h',n'⟩):AL P W0 F N T0 pin ops Q (o::rest) ⟨s,h,n⟩:=
 sq hw g (fun d' h'=>by rw [hd] at h';injection h' with h';subst h';rw [Nat.blt_eq] at hN;exact hN) (fun e he=>kb (List.all_eq_true.1 hE e he)) (fun k b hk hkE=>by
  have:=List.all_eq_true.1 hnb _ hk
  simp only [Bool.or_eq_true] at this
  rcases this with h|h
  ·exact absurd (eN.1 h) hkE
  ·exact Nat.le_of_ble_eq_true h) (by
  have e:(aM.add ⟨s,h,n⟩ nb E)=⟨s,h',n'⟩:=by simp [aM.add,<-hn,<-hh]
  rw [e,hd];exact k)
theorem aF.cut {s:List (Nat×AV)} {h h':List (Nat×AB)} {n:Nat} (k m:Nat) {t K:Nat} {rows rows':List (List D)} (hb:look h k=some (.arr t K rows)) (hr:rows.take m=rows') (hh:kO h k (.arr t K rows')=h'):aF pin ⟨s,h,n⟩ ⟨s,h',n⟩:=by
 subst hr hh
 rintro W0 F N T0 a w ⟨σ,T,hT,S,hp⟩
 have cases_:∀ i b,look (kO h k (.arr t K (rows.take m))) i=some b->(i=k/\b=.arr t K (rows.take m))\/(i≠k/\look h i=some b):=by
  intro i b hi
  rcases kv hi with h1|h1|h1
  ·exact .inl h1
  ·exact .inr h1
  ·exact h1.2.elim
 have cw:∀ i b,look (kO h k (.arr t K (rows.take m))) i=some b->∃ b0,look h i=some b0:=fun i b hi=>by
  rcases cases_ i b hi with ⟨rfl,_⟩|⟨_,h1⟩
  ·exact ⟨_,hb⟩
  ·exact ⟨_,h1⟩
 refine ⟨σ,T,hT,⟨⟨S.core.fz,?_,?_,S.core.eB⟩,S.os,S.tape,S.output,S.size,S.cw,?_,S.next,?_,S.jR,S.jt⟩,hp⟩
 ·intro i b hi
  rcases cases_ i b hi with ⟨rfl,rfl⟩|⟨_,h1⟩
  ·obtain ⟨hK,h1⟩:=S.core.heap _ _ hb
   refine ⟨hK,?_⟩
   rcases h1 with ⟨h1,h2⟩|⟨g,vs,h1,h2,h3,h4,h5,h6⟩
   ·exact .inl ⟨by rw [h1];simp,h2⟩
   ·refine .inr ⟨g,vs,h1,h2,h3,h4,h5,?_,fun i row hi=>?_⟩
    ·refine Nat.le_trans (Nat.mul_le_mul_right K ?_) h6.1
     rw [List.length_take];omega
    ·rw [List.getElem?_take] at hi
     split at hi
     ·exact h6.2 i row hi
     ·cases hi
  ·exact S.core.heap i b h1
 ·intro i i' b b' g g' hi hi' hg hg' hgg
  obtain ⟨b0,h0⟩:=cw i b hi
  obtain ⟨b1,h1⟩:=cw i' b' hi'
  exact S.core.inj i i' b0 b1 g g' h0 h1 hg hg' hgg
 ·intro i b g hi hg
  obtain ⟨b0,h0⟩:=cw i b hi
  exact S.own i b0 g h0 hg
 ·intro i b hi
  obtain ⟨b0,h0⟩:=cw i b hi
  exact S.hn i b0 h0
end
end
section

def fj (n:Int):Prop:=-9223372036854775808<=n/\n<=9223372036854775807
theorem Af {α:Type} {p:Nat->α->Prop} (n:Nat) (h:∀ i,i < n->∃ x,p i x):∃ xs:List α,xs.length=n/\∀ q x,xs[q]?=some x->p q x:=by
 induction n with
 |zero=>exact ⟨[],rfl,fun q x hx=>by simp at hx⟩
 |succ n ih=>
  obtain ⟨xs,hl,hx⟩:=ih fun i hi=>h i (by omega)
  obtain ⟨y,hy⟩:=h n (by omega)
  refine ⟨xs++[y],by simp [hl],fun q x hq=>?_⟩
  by_cases hqn:q < n
  ·rw [List.getElem?_append_left (by omega)] at hq
   exact hx q x hq
  ·have hlt:=(List.getElem?_eq_some_iff.1 hq).1
   simp [hl] at hlt
   obtain rfl:q=n:=by omega
   rw [List.getElem?_append_right (by omega),hl] at hq
   simp at hq
   exact hq▸hy
def nd:Nat->Prop:=fun _=>False
def kg {α:Type} (P:Program) (t:TypeId) (K:Nat) (f:α->List D) (Q:α->Prop):Prop:=
 (∀ a,(f a).length=K)/\∀ (H:Type) (enc:TypeId×Value->H) (w:World) (base:Nat) (spare:Nat->Bool) (held:Bool) (n:Nat) (cs:List Value) (y:DataW H×List MemPlace),
  DataW.trod enc P w base spare held n t cs=some y->∃ a,cm (br nd w) (f a) cs/\Q a
section
variable {P:Program} {t e:TypeId}
theorem fT (ht:P.underlying t=some (.int .i64)):kg P t 1 (fun n:Int=>[dI n]) fj:=⟨fun _=>rfl,fun H enc w base spare held n cs y h=>by
 obtain ⟨a,rfl,_,hw⟩:=DataW.trod_int ht h
 exact ⟨a,⟨br.v _ rfl,trivial⟩,bounds_i64 hw⟩⟩
theorem qk {α:Type} {K:Nat} {f:α->List D} {Q:α->Prop} (ht:P.underlying t=some (.slice e)) (hC:P.cellsOf e=K) (hK:0 < K) (ho:kg P e K f Q):kg P t 1 (fun xs:List α=>[.r K (xs.map f)]) (fun xs=>(∀ x∈xs,Q x)/\xs.length<=9223372036854775807):=⟨fun _=>rfl,fun H enc w base spare held fuel cs x h=>by
 rcases open_slice ht h with ⟨rfl,_⟩|⟨a,len,cap,m,n,DD,Pl,rfl,hb,hl,hm,hmm,hx,hi⟩
 ·exact ⟨[],⟨br.nil _ _ _,trivial⟩,fun x hx=>by simp at hx,by simp⟩
 ·have hlm:len<=m:=by rw [hmm];split<;>omega
  obtain ⟨xs,hxl,hxs⟩:=Af (p:=fun i x=>Q x/\a.spot=none/\a.block < w.heap.size/\∃ cs',cm (br nd w) (f x) cs'/\∀ j v,cs'[j]?=some v->w.cell? ⟨a.block,a.off+i * K+j,none⟩=some v) len fun i hil=>by
   obtain ⟨cs',hc,ht'⟩:=hi i (by omega)
   obtain ⟨y,hrel,hq⟩:=ho.2 _ _ _ _ _ _ _ _ _ ht'
   rw [hC] at hc
   obtain ⟨_,hlen,eg⟩:=World.cells?_some hc
   have h0:∀ (i:Nat) cs',w.cells? base (a.add (i * K)) K=some cs'->i=0->a.spot=none/\a.block < w.heap.size:=by
    rintro i cs' hc rfl
    obtain ⟨_,hl0,eg⟩:=World.cells?_some hc
    have h:=eg 0 hK
    rw [Nat.zero_mul] at h
    have ha:(a.add 0).add 0=a:=rfl
    rw [ha,List.getElem?_eq_getElem (by omega)] at h
    unfold World.cell? at h
    split at h
    ·rename_i he
     split at h
     ·simp at h
     ·rename_i hs
      exact ⟨by simpa using hs,(Array.getElem?_eq_some_iff.1 he).1⟩
    ·simp at h
   obtain ⟨cs0,hc0,_⟩:=hi 0 (by omega)
   rw [hC] at hc0
   obtain ⟨hs,hbk⟩:=h0 0 cs0 hc0 rfl
   refine ⟨y,hq,hs,hbk,cs',hrel,fun j v hv=>?_⟩
   have hj:=(List.getElem?_eq_some_iff.1 hv).1
   rw [hlen] at hj
   rw [<-hv,<-eg j hj]
   congr 1
   obtain ⟨ab,ao,asp⟩:=a
   simp only at hs
   subst hs
   simp only [Addr.add]
   split<;>split<;>simp_all
  refine ⟨xs,⟨?_,trivial⟩,fun x hx=>?_,by rw [hxl];simp only [maxLen] at hm;omega⟩
  ·by_cases hn:len=0
   ·subst hn
    have:=List.eq_nil_of_length_eq_zero hxl
    subst this
    exact br.nil _ _ _
   ·have hlt:0 < xs.length:=by omega
    obtain ⟨_,hs,hbk,_⟩:=hxs 0 _ (List.getElem?_eq_getElem hlt)
    obtain ⟨ab,ao,asp⟩:=a
    simp only at hs
    subst hs
    have key:∀ (i:Nat) (row:List D) (j:Nat) (d:D),(xs.map f)[i]?=some row->row[j]?=some d->∃ u,w.cell? ⟨ab,ao+(i * K+j),none⟩=some u/\br nd w d u:=by
     intro i row j d hr hd
     rw [List.getElem?_map,Option.map_eq_some_iff] at hr
     obtain ⟨z,hz,rfl⟩:=hr
     obtain ⟨_,_,_,cs',hrel,eg⟩:=hxs i z hz
     obtain ⟨u,hu,hdr⟩:=hrel.get hd
     exact ⟨u,by rw [<-Nat.add_assoc];exact eg j u hu,hdr⟩
    have hlen:len=(xs.map f).length:=by rw [List.length_map,hxl]
    rw [hlen]
    refine br.r K (xs.map f) ab ao cap (fun i j=>(w.cell? ⟨ab,ao+(i * K+j),none⟩).getD undef) hbk (fun h=>h) (by rw [<-hlen];omega) (by simp only [maxLen] at hm;omega) (fun i row hr=>?_) (fun i row j d hr hd=>?_) (fun i row j d hr hd=>?_)
    ·rw [List.getElem?_map,Option.map_eq_some_iff] at hr
     obtain ⟨z,_,rfl⟩:=hr
     exact ho.1 z
    ·obtain ⟨u,hu,_⟩:=key i row j d hr hd
     rw [hu];rfl
    ·obtain ⟨u,hu,hdr⟩:=key i row j d hr hd
     rw [hu];exact hdr
  ·obtain ⟨q,hq⟩:=List.getElem?_of_mem hx
   exact (hxs q x hq).1⟩
def wA (P:Program) {H:Type} (enc:TypeId×Value->H) (w:World) (base:Nat) (spare:Nat->Bool) (held:Bool) (n:Nat) (fs:List Field) (cs:List Value):Prop:=
 ∀ f∈fs,∃ z,DataW.trod enc P w base spare held n f.type ((cs.drop f.offset).take (P.cellsOf f.type))=some z
theorem pe {H:Type} {enc:TypeId×Value->H} {w:World} {base:Nat} {spare:Nat->Bool} {held:Bool} {fuel:Nat} {fs:Array Field} {cs:List Value} {y:DataW H×List MemPlace} (ht:P.underlying t=some (.struct fs)) (h:DataW.trod enc P w base spare held fuel t cs=some y):
  cs.length=P.cellsOf t/\∃ n,wA P enc w base spare held n fs.toList cs:=by
 obtain ⟨ys,n,_,_,hlen,hyl,hf⟩:=DataW.trod_struct ht h
 refine ⟨hlen,n,fun f hm=>?_⟩
 obtain ⟨i,hi⟩:=List.getElem?_of_mem hm
 rw [Array.getElem?_toList] at hi
 have hlt:i < ys.length:=by rw [hyl];exact (Array.getElem?_eq_some_iff.1 hi).1
 exact ⟨_,(hf i f hi).trans (List.getElem?_eq_getElem hlt)⟩
theorem zA {α:Type} (l:List α) (o k:Nat):(l.drop o)=(l.drop o).take k++l.drop (o+k):=by
 rw [<-List.drop_drop,List.take_append_drop]
theorem eY {H:Type} {enc:TypeId×Value->H} {w:World} {base:Nat} {spare:Nat->Bool} {held:Bool} {n:Nat} {f:Field} {fs:List Field} {cs:List Value} (h:wA P enc w base spare held n (f::fs) cs) {α:Type} {K o o':Nat} {g:α->List D} {Q:α->Prop} (ho:kg P f.type K g Q) (hoff:f.offset=o) (hC:P.cellsOf f.type=K) (ho':o+K=o'):
  (∃ a,Q a/\∀ ds,cm (br nd w) ds (cs.drop o')->cm (br nd w) (g a++ds) (cs.drop o))/\wA P enc w base spare held n fs cs:=by
 refine ⟨?_,fun f hf=>h f (List.mem_cons_of_mem _ hf)⟩
 obtain ⟨z,hz⟩:=h f List.mem_cons_self
 rw [hoff,hC] at hz
 obtain ⟨a,ha,hq⟩:=ho.2 _ _ _ _ _ _ _ _ _ hz
 refine ⟨a,hq,fun ds hds=>?_⟩
 subst ho'
 rw [zA cs o K]
 exact ha.append hds
theorem nS {w:World} {cs:List Value} {o:Nat} (hl:cs.length=o):cm (br nd w) [] (cs.drop o):=by
 rw [List.drop_of_length_le (by omega)];trivial
end
section
variable {H:Type} {enc:TypeId×Value->H} {P:Program} {w:World} {base:Nat} {spare:Nat->Bool} {held:Bool} {t:TypeId}
theorem Fs {ds:List D} {vs:List Value} (h:cm (br nd w) ds vs):cm (cU (fun _=>none) nd w) (ds.map .d) vs:=by
 induction ds generalizing vs with
 |nil=>cases vs with
  |nil=>trivial
  |cons=>exact h.elim
 |cons d ds ih=>cases vs with
  |nil=>exact h.elim
  |cons v vs=>exact ⟨h.1,ih h.2⟩
theorem zS {α:Type} {f:α->D} {Q:α->Prop} (ho:kg P t 1 (fun a=>[f a]) Q) {v:Value} {d:DataW H} {p:List MemPlace} (hv:v.cells=#[v]) (h:DataW.Trod enc P w base spare held t v d p):∃ a,dp (fun _=>none) nd w (.c (.d (f a))) v/\Q a:=by
 obtain ⟨fuel,hf⟩:=h
 rw [hv] at hf
 obtain ⟨a,h1,h2⟩:=ho.2 _ _ _ _ _ _ _ _ _ hf
 exact ⟨a,h1.1,h2⟩
theorem wH {α:Type} {f:α->D} {Q:α->Prop} {e:TypeId} (ht:P.underlying t=some (.slice e)) (ho:kg P t 1 (fun a=>[f a]) Q) {r:Reach} {b0:Nat} {v:Value} {d:DataW H} {p:List MemPlace} (hv:Value.okWide P w r b0 t v) (h:DataW.Trod enc P w base spare held t v d p):∃ a,dp (fun _=>none) nd w (.c (.d (f a))) v/\Q a:=by
 obtain ⟨a,len,cap,rfl⟩:=okWide_slice ht hv
 exact zS ho rfl h
theorem vm {α:Type} {f:α->List D} {Q:α->Prop} {K:Nat} {fs:Array Field} (ht:P.underlying t=some (.struct fs)) (ho:kg P t K f Q) {r:Reach} {b0:Nat} {v:Value} {d:DataW H} {p:List MemPlace} (hv:Value.okWide P w r b0 t v) (h:DataW.Trod enc P w base spare held t v d p):∃ a,dp (fun _=>none) nd w (.g ((f a).map .d)) v/\Q a:=by
 obtain ⟨cs,rfl,_⟩:=okWide_struct ht hv
 obtain ⟨fuel,hf⟩:=h
 obtain ⟨a,h1,h2⟩:=ho.2 _ _ _ _ _ _ _ _ _ hf
 exact ⟨a,⟨cs.toList,by simp,Fs h1⟩,h2⟩
end
theorem Ee {P:Program} {f:FuncId} {ins:List GV} (h:Fn P f ins (aB true) []) {w:World} {args:Array Value} (hargs:cm (dp (fun _=>none) nd w) ins args.toList):Calls P f args w fun e w'=>e=.returned (.bool true)/\Below w.heap.size w w':=
 (h nd w args (fun _ h=>h.elim) hargs).mono fun e w' ⟨v,σ,T',he,hb,R⟩=>⟨by rw [he,br.inv R.rel],hb⟩
end
section

theorem br.len {T:Nat->Prop} {w:World} {K:Nat} {rows:List (List D)} {v:Value} (h:br T w (.r K rows) v):rows.length<=9223372036854775807:=by
 cases h with
 |nil=>simp
 |r=>omega
section
variable {P:Program} {W0:World} {F:Nat->Prop} {N:NT} {T0:Nat->Prop} {pin:List (Nat×bQ)} {Q:Exit->aM->Prop} {s:List (Nat×AV)} {h:List (Nat×AB)} {n:Nat}
theorem dq {c:Code} {α:Type} {f:α->List D} {xs:List α} {K:Nat} (i:Nat) (hs:look s i=some (.v (.c (.d (.r K (xs.map f)))))) (k:xs.length<=9223372036854775807->AC P W0 F N T0 pin Q c ⟨s,h,n⟩):AC P W0 F N T0 pin Q c ⟨s,h,n⟩:=fun a w hI=>by
 obtain ⟨σ,T,hT,S,hp⟩:=hI
 have h1:=br.len (show br T w (.r K (xs.map f)) _ from S.core.fz i _ hs)
 rw [List.length_map] at h1
 exact k h1 a w ⟨σ,T,hT,S,hp⟩
theorem gD {c:Code} {k r K m:Nat} (i:Nat) (hs:look s i=some (.v (.c (.s k r K m)))) (hk:m<=9223372036854775807->AC P W0 F N T0 pin Q c ⟨s,h,n⟩):AC P W0 F N T0 pin Q c ⟨s,h,n⟩:=fun a w hI=>by
 obtain ⟨σ,T,hT,S,hp⟩:=hI
 have h1:cU σ T w (.s k r K m) _:=S.core.fz i _ hs
 refine hk ?_ a w ⟨σ,T,hT,S,hp⟩
 rcases h1 with ⟨h0,_⟩|⟨g,_,_,h2,h3⟩<;>omega
theorem cF {c:Code} {α:Type} {f:α->List D} {xs:List α} {K:Nat} {cs:List CV} (i j:Nat) (hs:look s i=some (.v (.g cs))) (hj:cs[j]?=some (.d (.r K (xs.map f)))) (k:xs.length<=9223372036854775807->AC P W0 F N T0 pin Q c ⟨s,h,n⟩):AC P W0 F N T0 pin Q c ⟨s,h,n⟩:=fun a w hI=>by
 obtain ⟨σ,T,hT,S,hp⟩:=hI
 obtain ⟨vs,h1,h2⟩:=S.core.fz i _ hs
 obtain ⟨y,hy,hr⟩:=h2.get hj
 have h1:=br.len (show br T w (.r K (xs.map f)) _ from hr)
 rw [List.length_map] at h1
 exact k h1 a w ⟨σ,T,hT,S,hp⟩
end
theorem dn.cut {σ:Nat->Option bQ} {T:Nat->Prop} {w:World} {og:Option bQ} {t K:Nat} {rows:List (List D)} (m:Nat) (h:dn σ T w og (.arr t K rows)):dn σ T w og (.arr t K (rows.take m)):=by
 obtain ⟨hK,h1⟩:=h
 refine ⟨hK,?_⟩
 rcases h1 with ⟨h1,h2⟩|⟨g,vs,h1,h2,h3,h4,h5,h6⟩
 ·exact .inl ⟨by rw [h1];simp,h2⟩
 ·refine .inr ⟨g,vs,h1,h2,h3,h4,h5,?_,fun i row hi=>?_⟩
  ·refine Nat.le_trans (Nat.mul_le_mul_right K ?_) h6.1
   rw [List.length_take];omega
  ·rw [List.getElem?_take] at hi
   split at hi
   ·exact h6.2 i row hi
   ·cases hi
theorem Ext.stay {σ:Nat->Option bQ} {T:Nat->Prop} {st:aM} {a:Act} {w:World} (C:Core σ T st a w) {k:Nat} {b b0:AB} (hb0:look st.h k=some b0) (hr:dn σ T w (σ k) b):Ext σ T w σ T w [(k,b)] [k]:=by
 refine ⟨rfl,rfl,rfl,⟨Nat.le_refl _,fun _ _ _=>rfl,?_,fun _ _ h=>h,fun _ _ h=>h⟩,fun _ h=>h,C.eB,fun _ _=>rfl,?_,?_,?_⟩
 ·rintro b' ⟨k',hk',g',hg',rfl⟩
  rw [List.mem_singleton.1 hk'] at hg'
  exact (C.heap k b0 hb0).ox hg'
 ·intro j b' h
  obtain ⟨rfl,rfl⟩:=Prod.mk.inj (List.mem_singleton.1 h)
  exact hr
 ·intro j b' g' h hg'
  obtain ⟨rfl,rfl⟩:=Prod.mk.inj (List.mem_singleton.1 h)
  exact .inr ⟨j,List.mem_singleton.2 rfl,g',hg',rfl⟩
 ·intro j j' b1 b2 g1 g2 h h' _ _ _
  obtain ⟨rfl,_⟩:=Prod.mk.inj (List.mem_singleton.1 h)
  obtain ⟨rfl,_⟩:=Prod.mk.inj (List.mem_singleton.1 h')
  rfl
theorem sO {P:Program} {st:aM} {o:Oper} {x:Operand} {c:Call} {t e bt K bytes k i n:Nat} {z:Value} {zs:List Value} {rows rows':List (List D)} (hT:iq P t e K bytes) (hz:(P.info? e).bind (fun i=>i.zero)=some z) (hzs:z.cells.toList=zs) (h1:zs.all (·.oneCell')=true)
  (ho:o.op=.call c) (hc:c.callee=.builtin .clear) (ha:c.args=#[x]) (hat:c.argTypes=#[t]) (hd:o.dst=none) (hx:ev st x (.v (.c (.s k i K n)))) (hb:look st.h k=some (.arr bt K rows)) (hr:rows.take i=rows'):aJ P o st (.v (.c .any)) [(k,.arr bt K rows')] [k]:=by
 subst hr
 intro σ T a w C _
 have hxv:=bG C hx
 have hh:=C.heap k _ hb
 have quiet:∀ A c',a.eval x=.slice A 0 c'->o.wp P a w (fun a' w'=>∃ u σ' T',a'=a.put o.dst u/\Ext σ T w σ' T' w' [(k,.arr bt K (rows.take i))] [k]/\eI σ' T' w' (.v (.c .any)) u) xz:=fun A c' hv=>by
  refine gU (v:=.tuple #[]) ?_ ⟨_,σ,T,rfl,Ext.stay C hb (hh.cut i),trivial⟩
  unfold execOp
  cases A<;>simp [ho,resolve,hc,ha,hat,invoke,builtin,hv,Builtin.clear_,run_underlying hT.u]
 rcases hxv with ⟨h0,hv⟩|⟨g,hg,hv,bN,h63⟩
 ·exact quiet none 0 hv
 ·by_cases hn:n=0
  ·subst hn;exact quiet _ _ hv
  ·obtain ⟨hK,hh'⟩:=hh
   rcases hh' with ⟨_,h⟩|⟨g',vs,e1,e2,e3,e4,e5,e6⟩
   ·rw [hg] at h;cases h
   rw [hg] at e1;injection e1 with e1;subst e1
   obtain ⟨ii,z',hii,hzz,hs,hby,hzc⟩:=hT.i
   have hz':z'=z:=by simpa [hii,hzz] using hz
   subst hz'
   have hlen:(Builtin.zeroCells z'.cells n).toList.length=n * K:=by simp [Builtin.zeroCells,hzc]
   have hone:∀ u∈(Builtin.zeroCells z'.cells n).toList,u.oneCell'=true:=by
    intro u hu
    simp only [Builtin.zeroCells,Array.toList_map,List.mem_map] at hu
    obtain ⟨q,_,rfl⟩:=hu
    have hlt:q % z'.cells.size < z'.cells.size:=Nat.mod_lt _ (by rw [hzc];exact hK)
    rw [getElem!_pos z'.cells (q % z'.cells.size) hlt]
    subst hzs
    exact List.all_eq_true.1 h1 _ (by simp)
   have hfit:i * K+n * K<=vs.length:=by rw [e4,<-Nat.add_mul];exact Nat.mul_le_mul_right _ bN
   have hst:=run_storeCells_at (P:=P) g.g (i * K) bt (Builtin.zeroCells z'.cells n).toList 0 vs.toArray w e3 (by rw [hlen];simpa using hfit) hone
   obtain ⟨m,rfl⟩:∃ m,n=m+1:=⟨n - 1,by omega⟩
   have hzv:(zeroValue e).run P w=.ok z' w:=by simp [zeroValue,typeInfo,hii,hzz]
   refine gU (v:=.tuple #[]) (w':=w.setRow g.g (vs.take (i * K)++(Builtin.zeroCells z'.cells (m+1)).toList++vs.drop (i * K+(Builtin.zeroCells z'.cells (m+1)).toList.length)).toArray) ?_ ⟨_,σ,T,rfl,Ext.write C hb hg rfl rfl rfl (setRow_size w _ _) (fun j hj=>setRow_other w g.g j _ hj) fun G=>?_,trivial⟩
   ·unfold execOp
    simp only [Nat.add_zero] at hst
    simp [ho,resolve,hc,ha,hat,invoke,builtin,hv,Builtin.clear_,run_underlying hT.u,hzv,hst]
   ·refine ⟨hK,.inr ⟨g,_,rfl,e2,setRow_heap w g.g _ _ bt (0,0) e3,?_,e5,?_⟩⟩
    ·rw [<-e4];simp only [List.length_append,List.length_take,List.length_drop,hlen];omega
    ·have e7:=e6.grow G
     refine ⟨?_,fun r row hrow=>?_⟩
     ·simp only [List.length_append,List.length_take,List.length_drop,hlen]
      refine Nat.le_trans (Nat.mul_le_mul_right K (Nat.min_le_left i rows.length)) ?_
      omega
     ·rw [List.getElem?_take] at hrow
      split at hrow
      ·rename_i hri
       obtain ⟨q1,q2⟩:=e7.2 r row hrow
       refine ⟨q1,fun j d hj=>?_⟩
       obtain ⟨u,hu,hd'⟩:=q2 j d hj
       have hjK:j < K:=by rw [<-q1];exact (List.getElem?_eq_some_iff.1 hj).1
       have hlt:r * K+j < i * K:=by
        have:(r+1) * K<=i * K:=Nat.mul_le_mul_right _ hri
        rw [Nat.succ_mul] at this
        omega
       refine ⟨u,?_,hd'⟩
       rw [List.append_assoc,List.getElem?_append_left (by rw [List.length_take];omega),List.getElem?_take,if_pos hlt]
       exact hu
      ·cases hrow
theorem aF.nH {pin:List (Nat×bQ)} {s:List (Nat×AV)} {h h':List (Nat×AB)} {n:Nat} (k j K bt:Nat) {cs:List CV} (hb:look h k=some (.box bt cs)) (hc:cs[j]?=some cN) (hh:kO h k (.box bt (cs.set j (cR K [])))=h'):aF pin ⟨s,h,n⟩ ⟨s,h',n⟩:=by
 subst hh
 rintro W0 F N T0 a w ⟨σ,T,hT,S,hp⟩
 have cw:∀ i b,look (kO h k (.box bt (cs.set j (cR K [])))) i=some b->∃ b0,look h i=some b0:=fun i b hi=>by
  rcases kv hi with ⟨rfl,_⟩|⟨_,h1⟩|⟨_,h1⟩
  ·exact ⟨_,hb⟩
  ·exact ⟨_,h1⟩
  ·exact h1.elim
 refine ⟨σ,T,hT,⟨⟨S.core.fz,?_,?_,S.core.eB⟩,S.os,S.tape,S.output,S.size,S.cw,?_,S.next,?_,S.jR,S.jt⟩,hp⟩
 ·intro i b hi
  rcases kv hi with ⟨rfl,rfl⟩|⟨_,h1⟩|⟨_,h1⟩
  ·obtain ⟨g,vs,h1,h2,h3,h4⟩:=S.core.heap _ _ hb
   refine ⟨g,vs,h1,h2,h3,?_⟩
   obtain ⟨y,hy,hr⟩:=h4.get hc
   have hy':y=.slice none 0 0:=br.inv hr
   subst hy'
   have:=h4.set (x:=cR K []) (y:=.slice none 0 0) (br.nil _ _ _) j
   have e:vs.set j (.slice none 0 0)=vs:=by
    apply List.ext_getElem?
    intro q
    rw [List.getElem?_set]
    split
    ·rename_i hq;subst hq
     split
     ·exact hy.symm
     ·rename_i hlt;rw [List.getElem?_eq_none (by omega)]
    ·rfl
   rw [e] at this
   exact this
  ·exact S.core.heap i b h1
  ·exact h1.elim
 ·intro i i' b b' g g' hi hi' hg hg' hgg
  obtain ⟨b0,h0⟩:=cw i b hi
  obtain ⟨b1,h1⟩:=cw i' b' hi'
  exact S.core.inj i i' b0 b1 g g' h0 h1 hg hg' hgg
 ·intro i b g hi hg
  obtain ⟨b0,h0⟩:=cw i b hi
  exact S.own i b0 g h0 hg
 ·intro i b hi
  obtain ⟨b0,h0⟩:=cw i b hi
  exact S.hn i b0 h0
def ya (st:aM) (k:Nat) (p:Nat->Bool) (y x:AV):Prop:=(y=x/\x.ok p=true)\/∃ c d,y=.v (.c c)/\x=.v (.c d)/\lh st [k] c d
theorem Core.freeze {σ:Nat->Option bQ} {T:Nat->Prop} {st st':aM} {a:Act} {w:World} (C:Core σ T st a w) (k:Nat) (hn:∀ i v,look st'.s i=some v->∃ y,look st.s i=some y/\ya st k (bu st'.h) y v)
  (hh:∀ j b,look st'.h j=some b->look st.h j=some b/\j≠k/\b.ok (bu st'.h)=true) (hk:∃ b,look st.h k=some b):Core (fun j=>if bu st'.h j=true then σ j else none) (fJ σ T [k]) st' a w:=by
 have hlow:∀ b,fJ σ T [k] b->T b:=fun b h=>h.1
 obtain ⟨b0,hb0⟩:=hk
 have hσ:∀ j,bu st'.h j=true->(fun j=>if bu st'.h j=true then σ j else none) j=σ (id j):=fun j hj=>if_pos hj
 have idA:∀ v:AV,v.map id=v:=fun v=>by
  have hz:∀ c:CV,c.map id=c:=fun c=>by cases c<;>simp [CV.map]
  have hg:∀ g:GV,g.map id=g:=fun g=>by
   cases g with
   |c x=>simp [GV.map,hz]
   |g xs=>simp only [GV.map];congr 1;exact (List.map_congr_left fun c _=>hz c).trans (List.map_id _)
  cases v with
  |v x=>simp [AV.map,hg]
  |t xs=>simp only [AV.map];congr 1;exact (List.map_congr_left fun c _=>hg c).trans (List.map_id _)
 have idB:∀ b:AB,b.map' id=b:=fun b=>by
  have hz:∀ c:CV,c.map id=c:=fun c=>by cases c<;>simp [CV.map]
  cases b with
  |box t cs=>simp only [AB.map'];congr 1;exact (List.map_congr_left (fun c _=>hz c)).trans (List.map_id _)
  |arr=>rfl
  |map=>rfl
 have inT':∀ j b g,look st'.h j=some b->σ j=some g->T g.g->fJ σ T [k] g.g:=fun j b g hj hg hT=>⟨hT,fun e he g' hg' hgg=>by
  rw [List.mem_singleton.1 he] at hg'
  exact (hh j b hj).2.1 (C.inj k j b0 b g' g hb0 (hh j b hj).1 hg' hg hgg).symm⟩
 refine ⟨fun i v hi=>?_,fun j b hj=>?_,fun j j' b b' g g' hj hj' hg hg' hgg=>?_,fun b h=>C.eB b h.1⟩
 ·obtain ⟨y,hy,hf⟩:=hn i v hi
  have hr:=C.fz i y hy
  rcases hf with ⟨rfl,hok⟩|⟨c,d,rfl,rfl,harg⟩
  ·have hr:eI σ T w (y.map id) (a.tmps.getD i undef):=by rw [idA];exact hr
   have h2:=eI.bL hσ hr hok
   cases y with
   |v x=>exact dp.fD (x:=x) hlow h2
   |t xs=>obtain ⟨vs,q1,q2⟩:=h2;exact ⟨vs,q1,q2.mono fun _ _ h=>h.fD hlow⟩
  ·exact cU.up (x:=d) (lh.rel C harg hr)
 ·obtain ⟨h1,h2,h3⟩:=hh j b hj
  have hkin:bu st'.h j=true:=by simp [bu,hj]
  show dn _ _ _ (if bu st'.h j=true then σ j else none) b
  rw [if_pos hkin]
  have h4:dn σ T w (σ j) (b.map' id):=by rw [idB];exact C.heap j b h1
  exact dn.fD hlow (fun g hg hT=>inT' j b g hj hg hT) (dn.bL hσ h4 h3)
 ·obtain ⟨h1,_,_⟩:=hh j b hj
  obtain ⟨h1',_,_⟩:=hh j' b' hj'
  have e1:bu st'.h j=true:=by simp [bu,hj]
  have e2:bu st'.h j'=true:=by simp [bu,hj']
  have hg:(if bu st'.h j=true then σ j else none)=some g:=hg
  have hg':(if bu st'.h j'=true then σ j' else none)=some g':=hg'
  rw [if_pos e1] at hg
  rw [if_pos e2] at hg'
  exact C.inj j j' b b' g g' h1 h1' hg hg' hgg
section
variable {P:Program} {W0:World} {N:NT} {T0:Nat->Prop} {Q:Exit->aM->Prop} {s s':List (Nat×AV)} {h h':List (Nat×AB)} {n:Nat}
theorem rS {a:Act} {w:World} (k:Nat) (hk:bu h k=true) (hs:du (fun x=>∃ y,look s x.1=some y/\ya ⟨s,h,n⟩ k (bu h') y x.2) s') (hh:du (fun x=>look h x.1=some x.2) h') (hok:h'.all (fun x=>!Nat.beq x.1 k && x.2.ok (bu h'))=true)
  (hI:Inv W0 (fun _=>False) N T0 [] ⟨s,h,n⟩ a w):Inv W0 (fun _=>False) N T0 [] ⟨s',h',n⟩ a w:=by
 obtain ⟨σ,T,hT,S,hp⟩:=hI
 obtain ⟨b0,hb0⟩:=kb hk
 have hh':∀ j b,look h' j=some b->look h j=some b/\j≠k/\b.ok (bu h')=true:=fun j b hj=>by
  have h1:=List.all_eq_true.1 hok _ (bO hj)
  simp only [Bool.and_eq_true,Bool.not_eq_true'] at h1
  exact ⟨hh.mem _ (bO hj),(fun e=>by subst e;rw [Nat.beq_refl] at h1;exact absurd h1.1 (by simp)),h1.2⟩
 have C:=S.core.freeze (st':=⟨s',h',n⟩) k (fun i v hi=>hs.mem _ (bO hi)) hh' ⟨b0,hb0⟩
 have q1:∀ b,b < W0.heap.size->(fJ σ T [k] b->T0 b)/\(T0 b->fJ σ T [k] b):=fun b hb=>⟨fun hb'=>(hT b hb).1 hb'.1,fun h0=>⟨(hT b hb).2 h0,fun e he g hg hgb=>by
  rw [List.mem_singleton.1 he] at hg
  rcases S.own k b0 g hb0 hg with h1|h1
  ·omega
  ·exact h1⟩⟩
 have q2:∀ j b g,look h' j=some b->(if bu h' j=true then σ j else none)=some g->W0.heap.size<=g.g\/False:=fun j b g hj hg=>by
  split at hg
  ·exact S.own j b g (hh' j b hj).1 hg
  ·cases hg
 have q3:∀ j,n<=j->(if bu h' j=true then σ j else none)=none:=fun j hj=>by
  split
  ·exact S.next j hj
  ·rfl
 exact ⟨_,_,q1,⟨C,S.os,S.tape,S.output,S.size,S.cw,q2,q3,fun j b hj=>S.hn j b (hh' j b hj).1,S.jR,S.jt⟩,fun j g hj=>by cases hj⟩
theorem ur {ops:Array Oper} {l:List Oper} (k:Nat) (hk:bu h k=true) (hs:du (fun x=>∃ y,look s x.1=some y/\ya ⟨s,h,n⟩ k (bu h') y x.2) s') (hh:du (fun x=>look h x.1=some x.2) h') (hok:h'.all (fun x=>!Nat.beq x.1 k && x.2.ok (bu h'))=true)
  (hn:AL P W0 (fun _=>False) N T0 [] ops Q l ⟨s',h',n⟩):AL P W0 (fun _=>False) N T0 [] ops Q l ⟨s,h,n⟩:=fun a w hI=>hn a w (rS k hk hs hh hok hI)
theorem GC {c:Code} (k:Nat) (hk:bu h k=true) (hs:du (fun x=>∃ y,look s x.1=some y/\ya ⟨s,h,n⟩ k (bu h') y x.2) s') (hh:du (fun x=>look h x.1=some x.2) h') (hok:h'.all (fun x=>!Nat.beq x.1 k && x.2.ok (bu h'))=true)
  (hn:AC P W0 (fun _=>False) N T0 [] Q c ⟨s',h',n⟩):AC P W0 (fun _=>False) N T0 [] Q c ⟨s,h,n⟩:=fun a w hI=>hn a w (rS k hk hs hh hok hI)
end
end
section

section
variable {P:Program} {W0:World} {F:Nat->Prop} {N:NT} {T0:Nat->Prop} {pin:List (Nat×bQ)} {Q:Exit->aM->Prop} {st:aM} {ops:Array Oper}
def AR (P:Program) (W0:World) (F:Nat->Prop) (N:NT) (T0:Nat->Prop) (pin:List (Nat×bQ)) (ops:Array Oper) (Q:Exit->aM->Prop):Nat->Array Bool->aM->Prop
 |0,listed,st=>Region.ready .any ops listed=[]/\Q .normal st
 |f+1,listed,st=>Region.ready .any ops listed≠[]/\∀ i∈Region.ready .any ops listed,∀ a w,Inv W0 F N T0 pin st a w->wpOp P ops (QX W0 F N T0 pin Q) i (fun a' w'=>∃ st',AR P W0 F N T0 pin ops Q f (listed.setIfInBounds i true) st'/\Inv W0 F N T0 pin st' a' w') a w
def nQ (K:aM->Prop):Exit->aM->Prop:=fun e st'=>e=.normal/\K st'
theorem Bl {o:Oper} {a:Act} {K:Act->World->Prop} {R S:Exit->Act->World->Prop} {r:Result Next} (hR:∀ e a w,e≠.normal->¬R e a w) (h:o.upon P a K R r):o.upon P a K S r:=by
 cases r with
 |ok n w'=>
  cases n<;>simp only [Oper.upon] at h ⊢<;>try exact h
  refine h.mono fun e w'' he=>?_
  cases e with
  |returned v=>exact he
  |panicked c=>exact absurd he (hR _ _ _ (fun e=>by cases e))
  |outgrown=>obtain ⟨_,_,h⟩:=he;exact absurd h (hR _ _ _ (fun e=>by cases e))
 |halt x w'=>cases x<;>simp only [Oper.upon] at h ⊢<;>first|exact h|exact absurd h (hR _ _ _ (fun e=>by cases e))
theorem AR.step {K:aM->Prop} {i:Nat} {o:Oper} (ho:ops[i]?=some o) (hal:AL P W0 F N T0 pin ops (nQ K) [o] st):∀ a w,Inv W0 F N T0 pin st a w->wpOp P ops (QX W0 F N T0 pin Q) i (fun a' w'=>∃ st',K st'/\Inv W0 F N T0 pin st' a' w') a w:=by
 intro a w hI
 have hR:∀ e a w,e≠.normal->¬QX W0 F N T0 pin (nQ K) e a w:=by
  rintro e a w he ⟨st',⟨h1,_⟩,_⟩;exact he h1
 have hN:∀ a w,QX W0 F N T0 pin (nQ K) .normal a w->∃ st',K st'/\Inv W0 F N T0 pin st' a w:=by
  rintro a w ⟨st',⟨_,h1⟩,h2⟩;exact ⟨st',h1,h2⟩
 have h:=hal a w hI
 unfold wpList at h
 unfold wpOp
 rw [ho]
 dsimp only
 split at h
 ·rename_i hw
  rw [if_pos hw]
  rcases h with h|⟨_,a1,w1,h⟩
  ·exact .inl (Bl hR (ix h fun a w h=>hN a w h))
  ·exact absurd h (hR _ _ _ (fun e=>by cases e))
 ·rename_i hw
  rw [if_neg hw]
  exact hN _ _ h
theorem AR.more {f:Nat} {listed:Array Bool} {is:List Nat} (hr:Region.ready .any ops listed=is) (hne:is.isEmpty=false) (h:du (fun i=>∀ a w,Inv W0 F N T0 pin st a w->wpOp P ops (QX W0 F N T0 pin Q) i (fun a' w'=>∃ st',AR P W0 F N T0 pin ops Q f (listed.setIfInBounds i true) st'/\Inv W0 F N T0 pin st' a' w') a w) is):AR P W0 F N T0 pin ops Q (f+1) listed st:=by
 refine ⟨fun e=>?_,fun i hi=>h.mem i (hr▸hi)⟩
 rw [hr] at e;subst e;cases hne
end
end
section

def pZ (aV:List bI) (x:Nat) (q:Nat):Bool:=match aV[q]? with
 |some r=>(match r.dst with
  |some d=>Nat.beq d x
  |none=>false)
 |none=>false
def oq (aV:List bI) (k:Nat) (q:Nat):Bool:=match aV[q]? with
 |some r=>dO k r.E||dO k (keys r.nb)
 |none=>false
def Ec (aV:List bI) (k:Nat) (q:Nat):Bool:=match aV[q]? with
 |some r=>dO k (keys r.nb)
 |none=>false
def uI (ops:Array Oper) (n:Nat) (wr:Nat->Bool) (i:Nat):Option Nat->Bool
 |none=>(List.range n).all fun q=>Nat.beq q i||!wr q||gi ops q i
 |some j=>Nat.blt j n && gi ops i j && (List.range n).all fun q=>Nat.beq q i||Nat.beq q j||!wr q||gi ops q i||gi ops j q
def rK (ops:Array Oper) (n:Nat) (wr:Nat->Bool):Option Nat->Bool
 |none=>(List.range n).all fun q=>!wr q
 |some j=>Nat.blt j n && (List.range n).all fun q=>Nat.beq q j||!wr q||gi ops j q
def kl (aV:List bI) (pre:List Nat) (x:Nat):Option Nat:=pre.find? (pZ aV x)
def jS (aV:List bI) (pre:List Nat) (k:Nat):Option Nat:=pre.find? (Ec aV k)
def nA (ops:Array Oper) (aV:List bI) (N:Nat) (st fin:aM) (i:Nat) (r:bI):Bool:=
 (match ops[i]? with
  |some o=>(match o.dst,r.dst with
   |some d,some d'=>Nat.beq d d' && Nat.blt d N
   |none,none=>true
   |_,_=>false) && o.after.all (fun e=>!Region.binds .any e||Nat.blt e.on i)
  |none=>false) &&
 r.E.all (fun k=>dO k (keys r.h)) && eo (keys r.nb) &&
 r.nb.all (fun x=>Nat.blt x.1 fin.n && (dO x.1 r.E||(Nat.ble st.n x.1 && (List.range aV.length).all fun q=>Nat.beq q i||!oq aV x.1 q||gi ops q i))) &&
 r.s.all (fun x=>uI ops aV.length (pZ aV x.1) i (kl aV r.pre x.1)) && r.h.all (fun x=>uI ops aV.length (oq aV x.1) i (jS aV r.pre x.1))
def sl (ops:Array Oper) (aV:List bI) (N:Nat) (st fin:aM):Nat->List bI->Bool
 |_,[]=>true
 |i,r::rs=>nA ops aV N st fin i r && sl ops aV N st fin (i+1) rs
def rX (ops:Array Oper) (aV:List bI) (N:Nat) (st fin:aM) (fp:List Nat):Bool:=
 sl ops aV N st fin 0 aV && Nat.beq aV.length ops.size && Nat.ble st.n fin.n &&
 fin.s.all (fun x=>rK ops aV.length (pZ aV x.1) (kl aV fp x.1)) && fin.h.all (fun x=>Nat.blt x.1 fin.n && rK ops aV.length (oq aV x.1) (jS aV fp x.1))
theorem uj {ops:Array Oper} {aV:List bI} {N:Nat} {st fin:aM}:∀ {rs:List bI} {i:Nat},sl ops aV N st fin i rs=true->∀ {j:Nat} {r:bI},rs[j]?=some r->nA ops aV N st fin (i+j) r=true
 |r::rs,i,h,0,r',hr=>by simp at hr;subst hr;simp only [sl,Bool.and_eq_true] at h;exact h.1
 |r::rs,i,h,j+1,r',hr=>by
  simp only [sl,Bool.and_eq_true] at h
  have:=uj (rs:=rs) (i:=i+1) h.2 (j:=j) (by simpa using hr)
  rwa [show i+1+j=i+(j+1) by omega] at this
 |[],_,_,_,_,hr=>by simp at hr
def lV (st:aM) (aV:List bI) (x:Nat) (v:AV):Option Nat->Prop
 |none=>look st.s x=some v
 |some j=>∃ q,aV[j]?=some q/\q.dst=some x/\q.v=v
def lW (st:aM) (aV:List bI) (k:Nat) (b:AB):Option Nat->Prop
 |none=>look st.h k=some b
 |some j=>∃ q,aV[j]?=some q/\(k,b)∈q.nb
def om (st:aM) (aV:List bI):List bI->Prop
 |[]=>True
 |r::rs=>(du (fun x=>lV st aV x.1 x.2 (kl aV r.pre x.1)) r.s/\du (fun x=>lW st aV x.1 x.2 (jS aV r.pre x.1)) r.h)/\om st aV rs
theorem om.get {st:aM} {aV:List bI}:∀ {rs:List bI},om st aV rs->∀ {r:bI},r∈rs->du (fun x=>lV st aV x.1 x.2 (kl aV r.pre x.1)) r.s/\du (fun x=>lW st aV x.1 x.2 (jS aV r.pre x.1)) r.h
 |r::rs,h,r',hr=>by
  rcases List.mem_cons.1 hr with rfl|hr
  ·exact h.1
  ·exact om.get (rs:=rs) h.2 hr
def pC (ops:Array Oper) (n:Nat):List Nat->Prop
 |[]=>True
 |j::ys=>(∀ q,q < n->gi ops j q=true->q∈ys)/\j ∉ ys/\pC ops n ys
theorem pC.wait {ops:Array Oper} {n:Nat}:∀ {d:List Nat},pC ops n d->∀ {q i:Nat},q∈d->i < n->gi ops q i=true->i∈d
 |j::ys,h,q,i,hq,hi,hw=>by
  rcases List.mem_cons.1 hq with rfl|hq
  ·exact List.mem_cons_of_mem _ (h.1 i hi hw)
  ·exact List.mem_cons_of_mem _ (h.2.2.wait hq hi hw)
theorem pC.split {ops:Array Oper} {n:Nat} {wr:Nat->Bool} {j:Nat}:∀ {d:List Nat},pC ops n d->j∈d->(∀ q∈d,q < n)->(∀ q∈d,q≠j->wr q=true->gi ops j q=true)->∃ xs ys,d=xs++j::ys/\∀ q∈xs,wr q=false
 |k::ys,h,hj,hn,hc=>by
  by_cases e:k=j
  ·subst e;exact ⟨[],ys,rfl,fun q hq=>by cases hq⟩
  ·have hj':j∈ys:=(List.mem_cons.1 hj).resolve_left (Ne.symm e)
   obtain ⟨xs,zs,h1,h2⟩:=h.2.2.split hj' (fun q hq=>hn q (List.mem_cons_of_mem _ hq)) (fun q hq=>hc q (List.mem_cons_of_mem _ hq))
   refine ⟨k::xs,zs,by rw [h1];rfl,fun q hq=>?_⟩
   rcases List.mem_cons.1 hq with rfl|hq
   ·cases hw:wr q with
    |false=>rfl
    |true=>exact absurd (h.2.2.wait hj' (hn q List.mem_cons_self) (hc q List.mem_cons_self e hw)) h.2.1
   ·exact h2 q hq
section
variable {st:aM} {aV:List bI}
theorem zp {x q:Nat} {r:bI} (hr:aV[q]?=some r) (h:pZ aV x q=false):r.dst≠some x:=fun e=>by
 unfold pZ at h;rw [hr] at h;simp only [e] at h;rw [Nat.beq_refl] at h;cases h
theorem zq {k q:Nat} {r:bI} (hr:aV[q]?=some r) (h:oq aV k q=false):k ∉ keys r.nb/\k ∉ r.E:=by
 unfold oq at h;rw [hr] at h
 simp only [Bool.or_eq_false_iff] at h
 exact ⟨fun hk=>(Bool.eq_false_iff.1 h.2) (eN.2 hk),fun hk=>(Bool.eq_false_iff.1 h.1) (eN.2 hk)⟩
theorem DR {xs ys:List Nat} {j x:Nat} {r:bI} (hx:∀ q∈xs,pZ aV x q=false) (hr:aV[j]?=some r) (hd:r.dst=some x):look (eV st aV (xs++j::ys)).s x=some r.v:=by
 induction xs with
 |nil=>
  rw [List.nil_append,gW hr,hd]
  show look ((x,r.v)::(eV st aV ys).s) x=_
  rw [bY,if_pos rfl]
 |cons q xs ih=>
  have ih:=ih fun p hp=>hx p (List.mem_cons_of_mem _ hp)
  rw [List.cons_append]
  cases hq:aV[q]? with
  |none=>rw [kq hq];exact ih
  |some r'=>
   rw [gW hq]
   have hne:=zp hq (hx q List.mem_cons_self)
   cases hd':r'.dst with
   |none=>exact ih
   |some d=>
    show look ((d,r'.v)::(eV st aV (xs++j::ys)).s) x=_
    rw [bY,if_neg (fun e=>hne (by rw [hd',e]))]
    exact ih
theorem sL {l:List (Nat×AB)} {k:Nat} (h:k ∉ keys l):look l k=none:=by
 cases hl:look l k with
 |none=>rfl
 |some b=>exact absurd (List.mem_map.2 ⟨(k,b),bO hl,rfl⟩) h
theorem DS {xs ys:List Nat} {j k:Nat} {b:AB} {r:bI} (hx:∀ q∈xs,oq aV k q=false) (hr:aV[j]?=some r) (hn:(keys r.nb).Nodup) (hb:(k,b)∈r.nb):look (eV st aV (xs++j::ys)).h k=some b:=by
 induction xs with
 |nil=>
  rw [List.nil_append,gW hr,uH]
  show look (r.nb++del r.E (eV st aV ys).h) k=_
  rw [gX,qm hn hb,Option.some_or]
 |cons q xs ih=>
  have ih:=ih fun p hp=>hx p (List.mem_cons_of_mem _ hp)
  rw [List.cons_append]
  cases hq:aV[q]? with
  |none=>rw [kq hq];exact ih
  |some r'=>
   rw [gW hq,uH]
   obtain ⟨h1,h2⟩:=zq hq (hx q List.mem_cons_self)
   show look (r'.nb++del r'.E (eV st aV (xs++j::ys)).h) k=_
   rw [gX,sL h1,Option.none_or,kK h2]
   exact ih
end
theorem kQ {n:Nat} {p:Nat->Bool} (h:(List.range n).all p=true) {q:Nat} (hq:q < n):p q=true:=List.all_eq_true.1 h q (List.mem_range.2 hq)
section
variable {P:Program} {W0:World} {F:Nat->Prop} {N:NT} {T0:Nat->Prop} {pin:List (Nat×bQ)} {Q:Exit->aM->Prop} {st:aM}
theorem CF {id:Nat} {l:List Oper} (aV:List bI) (fin:aM) (fp:List Nat) (hm:P.follows .mixedOrders=true) (hB:rX l.toArray aV N.1 st fin fp=true) (hrows:jy P l.toArray aV l) (hsee:om st aV aV)
  (hfin:du (fun x=>lV st aV x.1 x.2 (kl aV fp x.1)) fin.s/\du (fun x=>lW st aV x.1 x.2 (jS aV fp x.1)) fin.h) (hk:Q .normal fin):AC P W0 F N T0 pin Q (.region id l.toArray true) st:=by
 rintro a w ⟨σ0,T1,hT1,S0,hp0⟩
 unfold rX at hB
 simp only [Bool.and_eq_true] at hB
 obtain ⟨⟨⟨⟨hall,hlen⟩,hfn⟩,hfs⟩,hfh⟩:=hB
 have hlen:=Nat.eq_of_beq_eq_true hlen
 have tab:∀ i r,aV[i]?=some r->nA l.toArray aV N.1 st fin i r=true:=fun i r hr=>by have:=uj hall hr;rwa [Nat.zero_add] at this
 have nbnd:∀ (i:Nat) (r:bI),aV[i]?=some r->(keys r.nb).Nodup:=fun i r hr=>by
  have:=tab i r hr
  simp only [nA,Bool.and_eq_true] at this
  exact jY this.1.1.1.2
 have nbk:∀ (i:Nat) (r:bI) k,aV[i]?=some r->k∈keys r.nb->k < fin.n/\(k∈r.E\/(st.n<=k/\∀ q,q < aV.length->q≠i->oq aV k q=true->gi l.toArray q i=true)):=fun i r k hr hk=>by
  have:=tab i r hr
  simp only [nA,Bool.and_eq_true] at this
  obtain ⟨x,hx,rfl⟩:=List.mem_map.1 hk
  have h1:=List.all_eq_true.1 this.1.1.2 x hx
  simp only [Bool.and_eq_true,Bool.or_eq_true,Nat.blt_eq] at h1
  refine ⟨h1.1,?_⟩
  rcases h1.2 with h2|⟨h2,h3⟩
  ·exact .inl (eN.1 h2)
  ·refine .inr ⟨Nat.le_of_ble_eq_true h2,fun q hq hne hw=>?_⟩
   have h4:=kQ h3 hq
   simp only [Bool.or_eq_true,Bool.not_eq_true'] at h4
   rcases h4 with (h4|h4)|h4
   ·exact absurd (Nat.eq_of_beq_eq_true h4) hne
   ·rw [hw] at h4;cases h4
   ·exact h4
 have srcOK:∀ (wr:Nat->Bool) (i:Nat) (src:Option Nat),uI l.toArray aV.length wr i src=true->∀ (done:List Nat),pC l.toArray aV.length done->(∀ q∈done,q < aV.length)->i ∉ done->i < aV.length->(∀ j,j < aV.length->gi l.toArray i j=true->j∈done)->
   (src=none/\∀ q∈done,wr q=false)\/∃ j xs ys,src=some j/\done=xs++j::ys/\∀ q∈xs,wr q=false:=by
  intro wr i src hok done hord hdn hi hilt hwait
  cases src with
  |none=>
   refine .inl ⟨rfl,fun q hq=>?_⟩
   cases hw:wr q with
   |false=>rfl
   |true=>
    have h:=kQ hok (hdn q hq)
    simp only [Bool.or_eq_true,Bool.not_eq_true'] at h
    rcases h with (h|h)|h
    ·exact absurd (Nat.eq_of_beq_eq_true h▸hq) hi
    ·rw [hw] at h;cases h
    ·exact absurd (hord.wait hq hilt h) hi
  |some j=>
   simp only [uI,Bool.and_eq_true,Nat.blt_eq] at hok
   obtain ⟨⟨h1,h2⟩,h3⟩:=hok
   have hj:=hwait j h1 h2
   obtain ⟨xs,ys,h4,h5⟩:=hord.split (wr:=wr) hj hdn (fun q hq hne hw=>by
    have h:=kQ h3 (hdn q hq)
    simp only [Bool.or_eq_true,Bool.not_eq_true'] at h
    rcases h with (((h|h)|h)|h)|h
    ·exact absurd (Nat.eq_of_beq_eq_true h▸hq) hi
    ·exact absurd (Nat.eq_of_beq_eq_true h) hne
    ·rw [hw] at h;cases h
    ·exact absurd (hord.wait hq hilt h) hi
    ·exact h)
   exact .inr ⟨j,xs,ys,rfl,h4,h5⟩
 have finOK:∀ (wr:Nat->Bool) (src:Option Nat),rK l.toArray aV.length wr src=true->∀ (done:List Nat),pC l.toArray aV.length done->(∀ q∈done,q < aV.length)->(∀ q,q < aV.length->q∈done)->
   (src=none/\∀ q∈done,wr q=false)\/∃ j xs ys,src=some j/\done=xs++j::ys/\∀ q∈xs,wr q=false:=by
  intro wr src hok done hord hdn hall'
  cases src with
  |none=>
   refine .inl ⟨rfl,fun q hq=>?_⟩
   have h:=kQ hok (hdn q hq)
   simpa using h
  |some j=>
   simp only [rK,Bool.and_eq_true,Nat.blt_eq] at hok
   obtain ⟨h1,h3⟩:=hok
   obtain ⟨xs,ys,h4,h5⟩:=hord.split (wr:=wr) (hall' j h1) hdn (fun q hq hne hw=>by
    have h:=kQ h3 (hdn q hq)
    simp only [Bool.or_eq_true,Bool.not_eq_true'] at h
    rcases h with (h|h)|h
    ·exact absurd (Nat.eq_of_beq_eq_true h) hne
    ·rw [hw] at h;cases h
    ·exact h)
   exact .inr ⟨j,xs,ys,rfl,h4,h5⟩
 have gQ:∀ (done:List Nat) x v src,lV st aV x v src->((src=none/\∀ q∈done,pZ aV x q=false)\/∃ j xs ys,src=some j/\done=xs++j::ys/\∀ q∈xs,pZ aV x q=false)->look (eV st aV done).s x=some v:=by
  intro done x v src hs hc
  rcases hc with ⟨rfl,hc⟩|⟨j,xs,ys,rfl,rfl,hc⟩
  ·rw [qN fun i hi r hr=>zp hr (hc i hi)];exact hs
  ·obtain ⟨q,h1,h2,rfl⟩:=hs
   exact DR hc h1 h2
 have gl:∀ (done:List Nat) k b src,lW st aV k b src->((src=none/\∀ q∈done,oq aV k q=false)\/∃ j xs ys,src=some j/\done=xs++j::ys/\∀ q∈xs,oq aV k q=false)->look (eV st aV done).h k=some b:=by
  intro done k b src hs hc
  rcases hc with ⟨rfl,hc⟩|⟨j,xs,ys,rfl,rfl,hc⟩
  ·rw [kZ fun i hi r hr=>zq hr (hc i hi)];exact hs
  ·obtain ⟨q,h1,h2⟩:=hs
   exact DS hc h1 (nbnd j q h1) h2
 let InvD:Array Bool->Act->World->Prop:=fun listed a w=>HeadInv .any l.toArray aV.length listed/\∃ done:List Nat,(∀ i,i∈done↔i < aV.length/\listed.getD i false=true)/\pC l.toArray aV.length done/\∃ σ T,(∀ b,b < W0.heap.size->(T b->T0 b)/\(T0 b->T b))/\sn W0 F N σ T (eV st aV done) a w/\(∀ k g,look pin k=some g->σ k=some g)/\
  ∀ k,st.n<=k->(∀ i∈done,∀ r,aV[i]?=some r->k ∉ keys r.nb)->σ k=none
 have step:∀ listed a w i o,InvD listed a w->l.toArray[i]?=some o->i < aV.length->i∈Region.ready .any l.toArray listed->wpOp P l.toArray (QX W0 F N T0 pin Q) i (InvD (listed.setIfInBounds i true)) a w:=by
  rintro listed a w i o ⟨H,done,hdone,hord,σ,T,hT,S,hp,hfresh⟩ ho hi hr
  obtain ⟨r,hri⟩:∃ r,aV[i]?=some r:=⟨_,List.getElem?_eq_getElem hi⟩
  have t:=tab i r hri
  simp only [nA,Bool.and_eq_true] at t
  obtain ⟨⟨⟨⟨⟨t1,t2⟩,_⟩,_⟩,t5⟩,t6⟩:=t
  obtain ⟨hun,o',ho',hallr⟩:=mem_ready.1 hr
  have hoo:o'=o:=Option.some.inj (ho'.symm.trans ho)
  subst hoo
  rw [ho] at t1
  simp only [Bool.and_eq_true] at t1
  have hnot:i ∉ done:=fun hm=>by have:=((hdone i).1 hm).2;rw [getD_both hun] at this;cases this
  have hdst:o'.dst=r.dst/\∀ d,o'.dst=some d->d < N.1:=by
   cases h1:o'.dst with
   |none=>cases h2:r.dst with
    |none=>exact ⟨rfl,fun d h=>by cases h⟩
    |some d=>rw [h1,h2] at t1;cases t1.1
   |some d=>cases h2:r.dst with
    |none=>rw [h1,h2] at t1;cases t1.1
    |some d'=>
     rw [h1,h2] at t1
     simp only [Bool.and_eq_true,Nat.blt_eq] at t1
     obtain rfl:=Nat.eq_of_beq_eq_true t1.1.1
     exact ⟨rfl,fun d'' h=>by injection h with h;subst h;exact t1.1.2⟩
  have hdn:∀ q∈done,q < aV.length:=fun q hq=>((hdone q).1 hq).1
  have hwait:∀ j,j < aV.length->gi l.toArray i j=true->j∈done:=fun j hj hw=>(hdone j).2 ⟨hj,ot H ho hallr hw⟩
  obtain ⟨hsS,hsH⟩:=hsee.get (List.mem_of_getElem? hri)
  have hs:∀ t x,look r.st.s t=some x->look (eV st aV done).s t=some x:=fun t x hx=>
   gQ done t x _ (hsS.mem (t,x) (bO hx)) (srcOK _ i _ (List.all_eq_true.1 t5 (t,x) (bO hx)) done hord hdn hnot hi hwait)
  have hh:∀ k b,look r.st.h k=some b->look (eV st aV done).h k=some b:=fun k b hb=>
   gl done k b _ (hsH.mem (k,b) (bO hb)) (srcOK _ i _ (List.all_eq_true.1 t6 (k,b) (bO hb)) done hord hdn hnot hi hwait)
  have Cr:Core σ T r.st a w:=S.core.sub hs hh
  have fin':∀ σ' T' w' u,Ext σ T w σ' T' w' r.nb r.E->eI σ' T' w' r.v u->InvD (listed.setIfInBounds i true) (a.put o'.dst u) w':=by
   intro σ' T' w' u X hv
   refine ⟨H.set hr hi,i::done,fun j=>?_,⟨hwait,hnot,hord⟩,σ',T',fun b hb=>⟨fun hb'=>(hT b hb).1 (X.grow.lk b (Nat.lt_of_lt_of_le hb S.size) hb'),fun h0=>X.mv b ((hT b hb).2 h0)⟩,?_,fun k g hk=>X.grow.σle _ _ (hp k g hk),fun k hk hkn=>?_⟩
   ·rw [List.mem_cons]
    by_cases e:j=i
    ·subst e
     have hsz:j < listed.size:=by rw [H.size];omega
     simp [hi,hsz]
    ·rw [getD_set_ne false (Ne.symm e)]
     simp [e,hdone]
   ·rw [gW hri,hdst.1]
    refine S.step (fun e he=>?_) (fun d hd=>hdst.2 d (hdst.1▸hd)) X hv
    obtain ⟨⟨e',b⟩,hm,rfl⟩:=List.mem_map.1 (eN.1 (List.all_eq_true.1 t2 e he))
    cases hl:look r.h e' with
    |none=>exact absurd hl (jZ hm)
    |some b'=>exact ⟨b',hh e' b' hl⟩
   ·rw [X.xP k fun b hb=>hkn i List.mem_cons_self r hri (List.mem_map.2 ⟨(k,b),hb,rfl⟩)]
    exact hfresh k hk fun j hj=>hkn j (List.mem_cons_of_mem _ hj)
  obtain ⟨o2,ho2,hro⟩:=hrows.get hri
  have:o2=o':=by
   have h1:l.toArray[i]?=some o2:=by simpa using ho2
   exact Option.some.inj (h1.symm.trans ho)
  subst this
  rcases hro with ⟨hw,hg⟩|⟨hw,hv,hnb,hE⟩
  ·refine rm ho (hw σ T a w Cr) (nh (ix (hg σ T a w Cr fun k b hk hkE=>?_) ?_))
   ·obtain ⟨_,h1|⟨h1,h2⟩⟩:=nbk i r k hri (List.mem_map.2 ⟨(k,b),hk,rfl⟩)
    ·exact absurd h1 hkE
    ·refine hfresh k h1 fun j hj q hq hkq=>?_
     have hne:j≠i:=fun e=>hnot (e▸hj)
     have hwq:oq aV k j=true:=by
      unfold oq;rw [hq];simp only [Bool.or_eq_true];exact .inr (eN.2 hkq)
     exact hnot (hord.wait hj hi (h2 j (hdn j hj) hne hwq))
   ·rintro a' w' ⟨u,σ',T',rfl,X,hv⟩
    exact fin' σ' T' w' u X hv
  ·refine oC ho (hw σ T a w Cr) (fin' σ T w undef ?_ ?_)
   ·rw [hnb,hE];exact Ext.same S.core.eB
   ·rw [hv];exact ⟨[],rfl,trivial⟩
 have atEnd:∀ listed a w,InvD listed a w->(∀ i,i < aV.length->listed.getD i false=true)->Inv W0 F N T0 pin fin a w:=by
  rintro listed a w ⟨H,done,hdone,hord,σ,T,hT,S,hp,hfresh⟩ hl
  have hdn:∀ q∈done,q < aV.length:=fun q hq=>((hdone q).1 hq).1
  have bN:∀ q,q < aV.length->q∈done:=fun q hq=>(hdone q).2 ⟨hq,hl q hq⟩
  have hs:∀ t x,look fin.s t=some x->look (eV st aV done).s t=some x:=fun t x hx=>
   gQ done t x _ (hfin.1.mem (t,x) (bO hx)) (finOK _ _ (List.all_eq_true.1 hfs (t,x) (bO hx)) done hord hdn bN)
  have hfhx:∀ k b,look fin.h k=some b->k < fin.n/\rK l.toArray aV.length (oq aV k) (jS aV fp k)=true:=fun k b hb=>by
   have:=List.all_eq_true.1 hfh _ (bO hb)
   simpa only [Bool.and_eq_true,Nat.blt_eq] using this
  have hh:∀ k b,look fin.h k=some b->look (eV st aV done).h k=some b:=fun k b hb=>
   gl done k b _ (hfin.2.mem (k,b) (bO hb)) (finOK _ _ (hfhx k b hb).2 done hord hdn bN)
  refine ⟨σ,T,hT,⟨S.core.sub hs hh,S.os,S.tape,S.output,S.size,S.cw,fun k b g hk=>S.own k b g (hh k b hk),fun k hk=>?_,fun k b hk=>(hfhx k b hk).1,S.jR,S.jt⟩,hp⟩
  have hk1:=Nat.le_of_ble_eq_true hfn
  exact hfresh k (by omega) fun i _ r hr hkr=>by have:=(nbk i r k hr hkr).1;omega
 have main:∀ k listed a1 w1,InvD listed a1 w1->iN aV.length listed=k->wpAny P .any l.toArray (QX W0 F N T0 pin Q) k listed a1 w1:=by
  intro k
  induction k with
  |zero=>
   intro listed a1 w1 I hk'
   have hl:∀ i,i < aV.length->listed.getD i false=true:=fun i hi=>by
    have h:=List.eq_nil_of_length_eq_zero hk'
    have h2:=List.filter_eq_nil_iff.1 h i (List.mem_range.2 hi)
    simpa using h2
   have hIf:=atEnd listed a1 w1 I hl
   refine ⟨List.eq_nil_iff_forall_not_mem.2 fun i hi=>?_,fin,hk,hIf⟩
   obtain ⟨h1,o,ho,_⟩:=mem_ready.1 hi
   have hi':i < l.toArray.size:=(Array.getElem?_eq_some_iff.1 ho).1
   have:=hl i (by omega)
   rw [getD_both h1] at this;cases this
  |succ k ih=>
   intro listed a1 w1 I hk'
   have hex:∃ i,i < aV.length/\listed.getD i false=false/\∀ j,j < i->listed.getD j false=true:=by
    have h1:∃ i,i < aV.length/\listed.getD i false=false:=by
     have hne:((List.range aV.length).filter fun i=>!listed.getD i false)≠[]:=fun e=>by unfold iN at hk';rw [e] at hk';cases hk'
     obtain ⟨x,hx⟩:=List.exists_mem_of_ne_nil _ hne
     obtain ⟨hx1,hx2⟩:=List.mem_filter.1 hx
     exact ⟨x,List.mem_range.1 hx1,by simpa using hx2⟩
    obtain ⟨i,hi,hmin⟩:=exists_least h1
    refine ⟨i,hi.1,hi.2,fun j hj=>?_⟩
    cases hjl:listed.getD j false with
    |true=>rfl
    |false=>exact absurd (hmin j ⟨by omega,hjl⟩) (by omega)
   obtain ⟨i0,hi0,hun0,hlow⟩:=hex
   have hopi:∀ i,i < aV.length->∃ o,l.toArray[i]?=some o:=fun i hi=>⟨_,Array.getElem?_eq_getElem (by omega)⟩
   have bN:∀ i,i < aV.length->listed.getD i false=false->listed.getD i true=false:=fun i hi h=>getD_in (by rw [I.1.size];omega) h
   have hready:i0∈Region.ready .any l.toArray listed:=by
    obtain ⟨o,ho⟩:=hopi i0 hi0
    obtain ⟨r,hr⟩:∃ r,aV[i0]?=some r:=⟨_,List.getElem?_eq_getElem hi0⟩
    have t:=tab i0 r hr
    simp only [nA,Bool.and_eq_true] at t
    have t1:=t.1.1.1.1.1
    rw [ho] at t1
    simp only [Bool.and_eq_true] at t1
    refine mem_ready.2 ⟨bN i0 hi0 hun0,o,ho,fun e he hb=>hlow _ ?_⟩
    have h3:=Array.all_eq_true'.1 t1.2 e he
    simp only [Bool.or_eq_true,Bool.not_eq_true',Nat.blt_eq] at h3
    exact h3.resolve_left (by rw [hb];simp)
   refine ⟨fun h=>(by rw [h] at hready;cases hready),fun i hi=>?_⟩
   have hilt:i < aV.length:=by
    obtain ⟨_,o,ho,_⟩:=mem_ready.1 hi
    have hi':i < l.toArray.size:=(Array.getElem?_eq_some_iff.1 ho).1
    omega
   obtain ⟨o,ho⟩:=hopi i hilt
   refine wpOp_mono (fun a' w' I'=>ih _ a' w' I' ?_) (step listed a1 w1 i o I ho hilt hi)
   have hunl:=getD_both (mem_ready.1 hi).1
   have hset:(listed.setIfInBounds i true).getD i false=true:=by
    have:i < listed.size:=by rw [I.1.size];omega
    simp [this]
   have:=count_set (p:=fun j=>!listed.getD j false) (q:=fun j=>!(listed.setIfInBounds i true).getD j false) (i:=i) (by simp only [hunl];rfl) (by simp only [hset];rfl)
    (fun j hj=>by simp only [getD_set_ne false (Ne.symm hj)]) (List.range aV.length) List.nodup_range (List.mem_range.2 hilt)
   unfold iN at hk' ⊢
   omega
 refine wp_region_any hm ?_
 have inv0:HeadInv .any l.toArray aV.length (Array.replicate l.toArray.size false):=
  ⟨by simp,fun j oj _ hl=>(by rw [getD_replicate_false] at hl;cases hl),fun t _ ht=>getD_in (by simpa using ht) (getD_replicate_false _ _)⟩
 have hw0:sn W0 F N σ0 T1 st a {w with drawn:=w.drawn+1}:=
  ⟨S0.core.drew,S0.os,S0.tape,S0.output,S0.size,S0.cw,S0.own,S0.next,S0.hn,S0.jR,S0.jt⟩
 have I0:InvD (Array.replicate l.toArray.size false) a {w with drawn:=w.drawn+1}:=
  ⟨inv0,[],fun i=>by rw [getD_replicate_false];simp,trivial,σ0,T1,hT1,hw0,hp0,fun k hk _=>S0.next k hk⟩
 have:=main aV.length _ a _ I0 (by
  unfold iN
  rw [List.filter_eq_self.2 (fun i _=>by rw [getD_replicate_false];rfl),List.length_range])
 rw [hlen] at this
 exact this
end
end

structure cp where (aO aE sum time:Int)
 deriving DecidableEq
structure de where (time sum:Int)
 deriving DecidableEq
structure bg where (number kind bd sum:Int)
 deriving DecidableEq
structure Entry where (aW sum:Int)
 deriving DecidableEq
structure ar where (aE bd kind sum:Int)
 deriving DecidableEq
structure ew where (cG count sum:Int)
 deriving DecidableEq
structure dc where (err at_:Int)
 deriving DecidableEq
structure bD where (bE held:Int) (bZ:ew) (cW:List de)
 deriving DecidableEq
structure bS where (bq:Int) (kept:List bg)
 deriving DecidableEq
def rI (n:Int):List D:=[dI n]
def lj (n:Int):List D:=[.v (.int .u8 n)]
def iG (x:cp):List D:=[dI x.aO,dI x.aE,dI x.sum,dI x.time]
def ia (x:de):List D:=[dI x.time,dI x.sum]
def fE (x:bg):List D:=[dI x.number,dI x.kind,dI x.bd,dI x.sum]
def eH (x:Entry):List D:=[dI x.aW,dI x.sum]
def ib (x:ar):List D:=[dI x.aE,dI x.bd,dI x.kind,dI x.sum]
def uG (l:List de):List D:=[.r 2 (l.map ia)]
theorem Ef (l:List Int):∀ row∈l.map rI,∀ d∈row,d.oW=true:=by
 intro row hr d hd
 obtain ⟨x,_,rfl⟩:=List.mem_map.1 hr
 simp [rI] at hd
 subst hd;rfl
theorem Dp (l:List Int):∀ row∈l.map lj,∀ d∈row,d.oW=true:=by
 intro row hr d hd
 obtain ⟨x,_,rfl⟩:=List.mem_map.1 hr
 simp [lj] at hd
 subst hd;rfl
theorem BJ (l:List de):∀ row∈l.map ia,∀ d∈row,d.oW=true:=by
 intro row hr d hd
 obtain ⟨x,_,rfl⟩:=List.mem_map.1 hr
 simp [ia] at hd
 rcases hd with rfl|rfl<;>rfl
theorem uv (l:List bg):∀ row∈l.map fE,∀ d∈row,d.oW=true:=by
 intro row hr d hd
 obtain ⟨x,_,rfl⟩:=List.mem_map.1 hr
 simp [fE] at hd
 rcases hd with rfl|rfl|rfl|rfl<;>rfl
theorem yD (l:List Entry):∀ row∈l.map eH,∀ d∈row,d.oW=true:=by
 intro row hr d hd
 obtain ⟨x,_,rfl⟩:=List.mem_map.1 hr
 simp [eH] at hd
 rcases hd with rfl|rfl<;>rfl
theorem wN (l:List ar):∀ row∈l.map ib,∀ d∈row,d.oW=true:=by
 intro row hr d hd
 obtain ⟨x,_,rfl⟩:=List.mem_map.1 hr
 simp [ib] at hd
 rcases hd with rfl|rfl|rfl|rfl<;>rfl
def bx (n:Int):Bool:=decide (n>=0) && decide (n<=1000000)
structure bC where (aO aE sum captured bB bl dg:Int) (shut:Bool)
 deriving DecidableEq
def jr:bC:=⟨0,0,0,0,0,0,0,false⟩
def bM (a:bC):Int:=
 if a.sum < 0\/a.sum > 1000000\/a.captured < 0\/a.captured > 1000000\/a.bB < 0\/a.bB > 1000000\/a.bl < 0\/a.bl > 1000000\/a.aO < 0\/a.aO > 7\/a.aE < 0\/a.aE > 7\/a.dg < 0\/a.dg > 1000100 then 3
 else if a.sum < a.captured\/a.captured < a.bB+a.bl then 8 else 0
def dm (aO aE n time:Int):bC×Int:=
 if n < 1\/n > 1000000\/time < 0\/time > 1000000\/aO < 0\/aO > 7\/aE < 0\/aE > 7 then (jr,3) else (⟨aO,aE,n,0,0,0,time+100,false⟩,0)
def bR (a:bC):Int:=if a.shut=true then 0 else a.sum - a.captured
def ep (a:bC) (t:Int):bC:=⟨a.aO,a.aE,a.sum,a.captured,a.bB,a.bl,a.dg,a.shut||decide (a.dg<=t)⟩
def dR (a:bC) (kind n:Int):bC×Int:=
 if a.shut=true then (a,9)
 else if kind=1 then (if n > 1000000 - a.sum then (a,4) else (⟨a.aO,a.aE,a.sum+n,a.captured,a.bB,a.bl,a.dg,false⟩,0))
 else if n > a.sum - a.captured then (a,10)
 else if kind=4 then (⟨a.aO,a.aE,a.sum - n,a.captured,a.bB,a.bl,a.dg,decide (a.sum - n=a.captured)⟩,0)
 else (⟨a.aO,a.aE,a.sum,a.captured+n,a.bB,a.bl,a.dg,decide (kind=3)||decide (a.captured+n=a.sum)⟩,0)
def cq (a:bC) (kind n:Int):bC×Int:=
 if bM a≠0 then (jr,bM a)
 else if kind < 1\/kind > 8 then (jr,1)
 else if n < 1\/n > 1000000 then (jr,3)
 else if kind=5 then (if n > a.captured - a.bB - a.bl then (jr,10) else (⟨a.aO,a.aE,a.sum,a.captured,a.bB+n,a.bl,a.dg,a.shut⟩,0))
 else if kind=6 then (if n > a.captured - a.bB - a.bl then (jr,10) else (⟨a.aO,a.aE,a.sum,a.captured,a.bB,a.bl+n,a.dg,a.shut⟩,0))
 else if kind=7 then (if n > a.bl then (jr,10) else (⟨a.aO,a.aE,a.sum,a.captured,a.bB+n,a.bl - n,a.dg,a.shut⟩,0))
 else if kind=8 then (if n > a.bl then (jr,10) else (⟨a.aO,a.aE,a.sum,a.captured,a.bB,a.bl - n,a.dg,a.shut⟩,0))
 else if (dR a kind n).2≠0 then (jr,(dR a kind n).2) else dR a kind n
theorem eM {a:bC} (h:bM a=0):0<=a.sum/\a.sum<=1000000/\0<=a.captured/\a.captured<=a.sum/\0<=a.bB/\0<=a.bl/\a.bB+a.bl<=a.captured/\0<=a.aO/\a.aO<=7/\0<=a.aE/\a.aE<=7/\0<=a.dg/\a.dg<=1000100:=by
 unfold bM at h
 split at h
 ·cases h
 ·split at h
  ·cases h
  ·omega
theorem rE {a:bC} (h:0<=a.sum/\a.sum<=1000000/\0<=a.captured/\a.captured<=a.sum/\0<=a.bB/\0<=a.bl/\a.bB+a.bl<=a.captured/\0<=a.aO/\a.aO<=7/\0<=a.aE/\a.aE<=7/\0<=a.dg/\a.dg<=1000100):bM a=0:=by
 unfold bM
 rw [if_neg (by omega),if_neg (by omega)]
inductive jC (a:bC) (kind n:Int):bC->Prop
 |more (h:kind=1) (hs:a.shut=false) (hn:n<=1000000 - a.sum):jC a kind n ⟨a.aO,a.aE,a.sum+n,a.captured,a.bB,a.bl,a.dg,false⟩
 |take (h:kind=2\/kind=3) (hs:a.shut=false) (hn:n<=a.sum - a.captured):jC a kind n ⟨a.aO,a.aE,a.sum,a.captured+n,a.bB,a.bl,a.dg,decide (kind=3)||decide (a.captured+n=a.sum)⟩
 |less (h:kind=4) (hs:a.shut=false) (hn:n<=a.sum - a.captured):jC a kind n ⟨a.aO,a.aE,a.sum - n,a.captured,a.bB,a.bl,a.dg,decide (a.sum - n=a.captured)⟩
 |rG (h:kind=5) (hn:n<=a.captured - a.bB - a.bl):jC a kind n ⟨a.aO,a.aE,a.sum,a.captured,a.bB+n,a.bl,a.dg,a.shut⟩
 |pQ (h:kind=6) (hn:n<=a.captured - a.bB - a.bl):jC a kind n ⟨a.aO,a.aE,a.sum,a.captured,a.bB,a.bl+n,a.dg,a.shut⟩
 |pN (h:kind=7) (hn:n<=a.bl):jC a kind n ⟨a.aO,a.aE,a.sum,a.captured,a.bB+n,a.bl - n,a.dg,a.shut⟩
 |pM (h:kind=8) (hn:n<=a.bl):jC a kind n ⟨a.aO,a.aE,a.sum,a.captured,a.bB,a.bl - n,a.dg,a.shut⟩
theorem nI {a:bC} {kind n:Int} {b:bC} {e:Int} (h:cq a kind n=(b,e)):(e≠0/\b=jr)\/(e=0/\bM a=0/\1<=n/\n<=1000000/\jC a kind n b):=by
 unfold cq at h
 split at h
 ·rename_i h1;injection h with h2 h3;exact .inl ⟨h3▸h1,h2.symm⟩
 rename_i h1
 have h1:bM a=0:=by omega
 split at h
 ·injection h with h2 h3;exact .inl ⟨by omega,h2.symm⟩
 split at h
 ·injection h with h2 h3;exact .inl ⟨by omega,h2.symm⟩
 split at h
 ·split at h
  ·injection h with h2 h3;exact .inl ⟨by omega,h2.symm⟩
  ·injection h with h2 h3;subst h2;exact .inr ⟨h3.symm,h1,by omega,by omega,.rG (by omega) (by omega)⟩
 split at h
 ·split at h
  ·injection h with h2 h3;exact .inl ⟨by omega,h2.symm⟩
  ·injection h with h2 h3;subst h2;exact .inr ⟨h3.symm,h1,by omega,by omega,.pQ (by omega) (by omega)⟩
 split at h
 ·split at h
  ·injection h with h2 h3;exact .inl ⟨by omega,h2.symm⟩
  ·injection h with h2 h3;subst h2;exact .inr ⟨h3.symm,h1,by omega,by omega,.pN (by omega) (by omega)⟩
 split at h
 ·split at h
  ·injection h with h2 h3;exact .inl ⟨by omega,h2.symm⟩
  ·injection h with h2 h3;subst h2;exact .inr ⟨h3.symm,h1,by omega,by omega,.pM (by omega) (by omega)⟩
 split at h
 ·rename_i h4;injection h with h2 h3;exact .inl ⟨h3▸h4,h2.symm⟩
 ·rename_i h4
  unfold dR at h h4
  split at h
  ·rename_i h5;rw [if_pos h5] at h4;simp at h4
  rename_i h5
  rw [if_neg h5] at h4
  have h5:a.shut=false:=by simpa using h5
  split at h
  ·rename_i h6;rw [if_pos h6] at h4
   split at h
   ·rename_i h7;rw [if_pos h7] at h4;simp at h4
   ·injection h with h2 h3;subst h2;exact .inr ⟨h3.symm,h1,by omega,by omega,.more (by omega) h5 (by omega)⟩
  rename_i h6;rw [if_neg h6] at h4
  split at h
  ·rename_i h7;rw [if_pos h7] at h4;simp at h4
  split at h
  ·injection h with h2 h3;subst h2;exact .inr ⟨h3.symm,h1,by omega,by omega,.less (by omega) h5 (by omega)⟩
  ·injection h with h2 h3;subst h2;exact .inr ⟨h3.symm,h1,by omega,by omega,.take (by omega) h5 (by omega)⟩
theorem wM {a b:bC} {kind n:Int} (h:bM a=0) (h1:1<=n) (h2:n<=1000000) (hm:jC a kind n b):bM b=0:=by
 have hr:=eM h
 cases hm<;>exact rE (by dsimp only;omega)
theorem wu {a b:bC} (h1:a.aO=b.aO) (h2:a.aE=b.aE) (h3:a.sum=b.sum) (h4:a.captured=b.captured) (h5:a.bB=b.bB) (h6:a.bl=b.bl) (h7:a.dg=b.dg) (h8:a.shut=b.shut):a=b:=by
 cases a;cases b;simp_all
theorem qi {a b:bC} {kind n:Int} (h:cq a kind n=(b,0)):bM b=0/\b.aO=a.aO/\b.aE=a.aE/\b.dg=a.dg/\(a.shut=true->b.shut=true)/\0<=b.sum - b.captured/\b.bB+b.bl<=b.captured/\a.captured<=b.captured/\a.bB<=b.bB:=by
 rcases nI h with ⟨h1,_⟩|⟨_,hw,h1,h2,hm⟩
 ·exact absurd rfl h1
 have hb:=wM hw h1 h2 hm
 have hr:=eM hw
 have hrb:=eM hb
 cases hm<;>refine ⟨hb,rfl,rfl,rfl,?_⟩<;>simp_all<;>omega
theorem qZ {α:Type} {l:List α} {q:Nat} {x:α} (h:l[q]?=some x):l.drop q=x::l.drop (q+1):=by
 obtain ⟨hq,rfl⟩:=List.getElem?_eq_some_iff.1 h
 exact List.drop_eq_getElem_cons hq
theorem gV {α:Type} {l:List α} {q:Nat} {x:α} (h:l[q]?=some x):l.take (q+1)=l.take q++[x]:=by
 obtain ⟨hq,rfl⟩:=List.getElem?_eq_some_iff.1 h
 exact List.take_succ_eq_append_getElem hq
structure cH where (cap:Int) (used:List Int) (aU:List cp)
 deriving DecidableEq

def gr (n:Int):Bool:=decide (0<=n/\n<=1000000)
def gI (al:Nat) (a:cp):Bool:=
 decide (0<=a.aO/\a.aO < al/\0<=a.aE/\a.aE<=7/\1<=a.sum/\a.sum<=1000000/\0<=a.time/\a.time<=1000000)
def given (k:Int):List cp->Int
 |[]=>0
 |a::l=>(if a.aO=k then a.sum else 0)+given k l
def fc (cap:Int) (advs:List cp):Int->List Int->Int
 |_,[]=>0
 |k,n::l=>if n=given k advs/\n<=cap then fc cap advs (k+1) l else 8
def ca (s:cH):Int:=
 if 8 < s.used.length\/20 < s.aU.length then 5
 else if ¬gr s.cap then 3
 else if ¬s.aU.all (gI s.used.length) then 3
 else fc s.cap s.aU 0 s.used
def fN:cH:={cap:=0,used:=[],aU:=[]}
def dH (limit al:Int):cH×Int:=
 if al < 0\/8 < al then (fN,5) else if ¬gr limit then (fN,3) else ({cap:=limit,used:=List.replicate al.toNat 0,aU:=[]},0)
def cv (s:cH) (a:cp):cH×Int:=
 if ca s≠0 then (fN,ca s)
 else if 20<=s.aU.length then (fN,5)
 else if ¬gI s.used.length a then (fN,3)
 else if s.cap < s.used.getD a.aO.toNat 0+a.sum then (fN,10)
 else ({cap:=s.cap,used:=s.used.set a.aO.toNat (s.used.getD a.aO.toNat 0+a.sum),aU:=s.aU++[a]},0)
def cX (s:cH):cH×List cp×Int:=
 if ca s≠0 then (fN,[],ca s) else ({cap:=s.cap,used:=List.replicate s.used.length 0,aU:=[]},s.aU,0)

theorem rU (k:Int) (l:List cp) (a:cp):given k (l++[a])=given k l+if a.aO=k then a.sum else 0:=by
 induction l with
 |nil=>simp [given]
 |cons x l ih=>simp only [List.cons_append,given,ih];omega
theorem qo (c:Nat) (k:Int) (l:List cp) (h:l.all (gI c)=true):0<=given k l/\given k l<=1000000 * l.length:=by
 induction l with
 |nil=>simp [given]
 |cons x l ih=>
  simp only [List.all_cons,Bool.and_eq_true,gI,decide_eq_true_eq] at h
  have:=ih h.2
  simp only [given,List.length_cons]
  split<;>omega
theorem Fq {α:Type} {p:α->Bool} {l:List α} {q:Nat} {x:α} (h:l[q]?=some x) (hx:p x=false):l.all p=false:=by
 rw [List.all_eq_false]
 exact ⟨x,List.mem_of_getElem? h,by simp [hx]⟩
theorem xW {α:Type} {p:α->Bool} {l:List α} {q:Nat} {x:α} (ht:(l.take q).all p=true) (h:l[q]?=some x) (hx:p x=true):(l.take (q+1)).all p=true:=by
 rw [gV h,List.all_append,ht];simp [hx]
theorem oB {s:cH} (h:8 < s.used.length\/20 < s.aU.length):ca s=5:=by unfold ca;rw [if_pos h]
theorem mM {s:cH} (h:¬(8 < s.used.length\/20 < s.aU.length)) (hc:gr s.cap=false):ca s=3:=by unfold ca;rw [if_neg h,hc];rfl
theorem kh {s:cH} (h:¬(8 < s.used.length\/20 < s.aU.length)) (hc:gr s.cap=true) (ha:s.aU.all (gI s.used.length)=false):ca s=3:=by
 unfold ca;rw [if_neg h,hc,ha];rfl
theorem gC {s:cH} (h:¬(8 < s.used.length\/20 < s.aU.length)) (hc:gr s.cap=true) (ha:s.aU.all (gI s.used.length)=true):ca s=fc s.cap s.aU 0 s.used:=by
 unfold ca;rw [if_neg h,hc,ha];rfl


theorem hG (cap:Int) (advs:List cp):∀ (l:List Int) (k:Int),fc cap advs k l=0↔∀ (i:Nat) (x:Int),l[i]?=some x->x=given (k+i) advs/\x<=cap
 |[],k=>by simp [fc]
 |n::l,k=>by
  rw [fc]
  constructor
  ·intro h i x hx
   split at h
   ·rename_i hc
    rcases i with _|i
    ·simp at hx;subst hx;simpa using hc
    ·have:=(hG cap advs l (k+1)).1 h i x (by simpa using hx)
     rw [show k+((i+1:Nat):Int)=k+1+i by omega];exact this
   ·cases h
  ·intro h
   rw [if_pos (by simpa using h 0 n rfl)]
   exact (hG cap advs l (k+1)).2 fun i x hx=>by
    have:=h (i+1) x (by simpa using hx)
    rwa [show k+((i+1:Nat):Int)=k+1+i by omega] at this
theorem qp (cap:Int) (advs:List cp):∀ (l:List Int) (k:Int),fc cap advs k l=0\/fc cap advs k l=8
 |[],_=>.inl rfl
 |n::l,k=>by
  rw [fc]
  split
  ·exact qp cap advs l (k+1)
  ·exact .inr rfl
theorem gy {s:cH} (h:ca s=0):s.used.length<=8/\s.aU.length<=20/\gr s.cap=true/\s.aU.all (gI s.used.length)=true/\fc s.cap s.aU 0 s.used=0:=by
 by_cases h1:8 < s.used.length\/20 < s.aU.length
 ·rw [oB h1] at h;omega
 ·cases hc:gr s.cap with
  |false=>rw [mM h1 hc] at h;omega
  |true=>
   cases ha:s.aU.all (gI s.used.length) with
   |false=>rw [kh h1 hc ha] at h;omega
   |true=>rw [gC h1 hc ha] at h;exact ⟨by omega,by omega,rfl,rfl,h⟩
theorem vE {s:cH} {a:cp} (h:ca s=0) (hm:s.aU.length < 20) (ha:gI s.used.length a=false) (u:List Int) (hu:u.length=s.used.length):ca {cap:=s.cap,used:=u,aU:=s.aU++[a]}=3:=by
 obtain ⟨h1,h2,h3,h4,h5⟩:=gy h
 exact kh (by simp only [List.length_append,List.length_singleton];omega) h3 (by simp [hu,ha])
theorem BP {s:cH} {a:cp} (h:ca s=0) (hm:s.aU.length < 20) (ha:gI s.used.length a=true):
  ca {cap:=s.cap,used:=s.used.set a.aO.toNat (s.used.getD a.aO.toNat 0+a.sum),aU:=s.aU++[a]}=if s.cap < s.used.getD a.aO.toNat 0+a.sum then 8 else 0:=by
 obtain ⟨h1,h2,h3,h4,h5⟩:=gy h
 have hok:=ha
 simp only [gI,decide_eq_true_eq] at hok
 have hlt:a.aO.toNat < s.used.length:=by omega
 have hgx:s.used[a.aO.toNat]?=some s.used[a.aO.toNat]:=List.getElem?_eq_getElem hlt
 have hgd:s.used.getD a.aO.toNat 0=s.used[a.aO.toNat]:=by simp [hlt]
 have hu:(s.used.set a.aO.toNat (s.used.getD a.aO.toNat 0+a.sum)).length=s.used.length:=List.length_set
 have h6:ca {cap:=s.cap,used:=s.used.set a.aO.toNat (s.used.getD a.aO.toNat 0+a.sum),aU:=s.aU++[a]}=fc s.cap (s.aU++[a]) 0 (s.used.set a.aO.toNat (s.used.getD a.aO.toNat 0+a.sum)):=by
  refine gC ?_ h3 ?_
  ·simp only [List.length_append,List.length_singleton,hu];omega
  ·simp only [hu,List.all_append,h4,List.all_cons,ha,List.all_nil];rfl
 rw [h6]
 have key:=(hG s.cap s.aU s.used 0).1 h5
 by_cases hc:s.cap < s.used.getD a.aO.toNat 0+a.sum
 ·rw [if_pos hc]
  rcases qp s.cap (s.aU++[a]) (s.used.set a.aO.toNat (s.used.getD a.aO.toNat 0+a.sum)) 0 with h0|h0
  ·have:=(hG _ _ _ _).1 h0 a.aO.toNat (s.used.getD a.aO.toNat 0+a.sum) (by simp [hlt])
   omega
  ·exact h0
 ·rw [if_neg hc]
  refine (hG _ _ _ _).2 fun i x hx=>?_
  rw [List.getElem?_set] at hx
  rw [rU]
  by_cases e:a.aO.toNat=i
  ·rw [if_pos e,if_pos (by omega)] at hx
   injection hx with hx
   have:=key i s.used[a.aO.toNat] (by rw [<-e];exact hgx)
   rw [if_pos (by omega)]
   omega
  ·rw [if_neg e] at hx
   have:=key i x hx
   rw [if_neg (by omega)]
   omega

theorem ly {s:cH} {a:cp} (h:ca s=0) (hm:s.aU.length < 20):
  (ca {cap:=s.cap,used:=s.used.set a.aO.toNat (s.used.getD a.aO.toNat 0+a.sum),aU:=s.aU++[a]}=3/\cv s a=(fN,3))\/
  (ca {cap:=s.cap,used:=s.used.set a.aO.toNat (s.used.getD a.aO.toNat 0+a.sum),aU:=s.aU++[a]}=8/\cv s a=(fN,10))\/
  (ca {cap:=s.cap,used:=s.used.set a.aO.toNat (s.used.getD a.aO.toNat 0+a.sum),aU:=s.aU++[a]}=0/\
   cv s a=({cap:=s.cap,used:=s.used.set a.aO.toNat (s.used.getD a.aO.toNat 0+a.sum),aU:=s.aU++[a]},0)):=by
 cases ha:gI s.used.length a with
 |false=>exact .inl ⟨vE h hm ha _ List.length_set,by unfold cv;rw [if_neg (by simp [h]),if_neg (by omega),ha];rfl⟩
 |true=>
  rw [BP h hm ha]
  by_cases hc:s.cap < s.used.getD a.aO.toNat 0+a.sum
  ·exact .inr (.inl ⟨if_pos hc,by unfold cv;rw [if_neg (by simp [h]),if_neg (by omega),if_neg (by simp [ha]),if_pos hc]⟩)
  ·exact .inr (.inr ⟨if_neg hc,by unfold cv;rw [if_neg (by simp [h]),if_neg (by omega),if_neg (by simp [ha]),if_neg hc]⟩)
theorem qS {s:cH} {a:cp} (h:ca s=0) (hm:s.aU.length < 20) (ha:¬(0<=a.aO/\a.aO < s.used.length/\1<=a.sum/\a.sum<=1000000)):
  ca {cap:=s.cap,used:=s.used,aU:=s.aU++[a]}=3/\cv s a=(fN,3):=by
 have ha:gI s.used.length a=false:=by simp only [gI,decide_eq_false_iff_not];omega
 exact ⟨vE h hm ha _ rfl,by unfold cv;rw [if_neg (by simp [h]),if_neg (by omega),ha];rfl⟩
theorem yG {s:cH} {a:cp} (h:ca s≠0):cv s a=(fN,ca s):=by unfold cv;rw [if_pos h]
theorem tW {s:cH} {a:cp} (h:ca s=0) (hm:s.aU.length=20):cv s a=(fN,5):=by unfold cv;rw [if_neg (by simp [h]),if_pos (by omega)]
theorem rn {s:cH} (h:ca s=0) {i:Nat} {x:Int} (hx:s.used[i]?=some x):0<=x/\x<=1000000:=by
 obtain ⟨h1,h2,h3,h4,h5⟩:=gy h
 have:=(hG s.cap s.aU s.used 0).1 h5 i x hx
 have hg:=qo s.used.length (0+i) s.aU h4
 simp only [gr,decide_eq_true_eq] at h3
 omega

theorem uu {l c:Int} (h:c < 0\/8 < c):dH l c=(fN,5):=by unfold dH;rw [if_pos h]
theorem sK {l c:Int} (h:¬(c < 0\/8 < c)) (h':¬(0<=l/\l<=1000000)):dH l c=(fN,3):=by unfold dH;rw [if_neg h,if_pos (by simpa [gr] using h')]
theorem ql {l:Int} {c:Nat} (h:c<=8) (h':0<=l/\l<=1000000):dH l c=({cap:=l,used:=List.replicate c 0,aU:=[]},0):=by
 unfold dH;rw [if_neg (by omega),if_neg (by simpa [gr] using h')];simp

theorem yH {s:cH} {a:cp} (h:ca s=0) (hg:(cv s a).2=0):
  ca (cv s a).1=0/\(cv s a).1.cap=s.cap/\(cv s a).1.used.length=s.used.length/\(cv s a).1.aU=s.aU++[a]/\s.aU.length < 20:=by
 have hp:=gy h
 by_cases hm:s.aU.length=20
 ·rw [tW h hm] at hg;cases hg
 ·have hm:s.aU.length < 20:=by omega
  rcases ly (a:=a) h hm with ⟨_,h2⟩|⟨_,h2⟩|⟨h1,h2⟩
  ·rw [h2] at hg;cases hg
  ·rw [h2] at hg;cases hg
  ·rw [h2];exact ⟨h1,rfl,List.length_set,rfl,hm⟩
theorem oR (l:Int) (n:Nat) (hn:n<=8) (h0:0<=l) (h1:l<=1000000):ca {cap:=l,used:=List.replicate n 0,aU:=[]}=0:=by
 rw [gC (by simp;omega) (by simp [gr];omega) (by simp)]
 refine (hG _ _ _ _).2 fun i x hx=>?_
 obtain ⟨_,rfl⟩:=List.getElem?_eq_some_iff.1 hx
 simp [given];omega


def iU (n:Nat) (l:List cp):List Int:=(List.range n).map fun (k:Nat)=>given (k:Int) l
theorem dt (n:Nat) (l:List cp):(iU n l).length=n:=by simp [iU]
theorem zD (n:Nat):List.replicate n 0=iU n []:=by simp [iU,given,List.map_const']
theorem tk {n:Nat} {l:List cp} {i:Nat} {x:Int} (h:(iU n l)[i]?=some x):x=given (i:Int) l:=by
 simp only [iU,List.getElem?_map,Option.map_eq_some_iff] at h
 obtain ⟨k,hk,rfl⟩:=h
 obtain ⟨h1,rfl⟩:=List.getElem?_eq_some_iff.1 hk
 simp
theorem zC {n:Nat} {l:List cp} {a:cp} {i:Nat} {v:Int} (h0:a.aO=(i:Int)) (h1:i < n) (hv:v=given a.aO l+a.sum):(iU n l).set i v=iU n (l++[a]):=by
 apply List.ext_getElem?
 intro j
 rw [List.getElem?_set]
 simp only [iU,List.length_map,List.length_range,List.getElem?_map,rU]
 by_cases hj:j < n
 ·rw [List.getElem?_range hj,Option.map_some,Option.map_some]
  by_cases e:i=j
  ·rw [if_pos e,if_pos h1,if_pos (by omega),hv,h0,e]
  ·rw [if_neg e,if_neg (by omega),Int.add_zero]
 ·rw [if_neg (by omega),List.getElem?_eq_none (by simpa using hj)]
  rfl
structure bJ where (id kind n aE move sum:Int)
 deriving DecidableEq
structure Answer where (err bd:Int)
 deriving DecidableEq
structure cj where (cc:bg) (seen:Int)
 deriving DecidableEq
def pH (x:bD):List D:=[dI x.bE,dI x.held,dI x.bZ.cG,dI x.bZ.count,dI x.bZ.sum,.r 2 (x.cW.map ia)]
def iX (x:bC):List D:=[dI x.aO,dI x.aE,dI x.sum,dI x.captured,dI x.bB,dI x.bl,dI x.dg,dB x.shut]
def fx (x:cj):List D:=[dI x.cc.number,dI x.cc.kind,dI x.cc.bd,dI x.cc.sum,dI x.seen]
def lD (x:Answer):List D:=[dI x.err,dI x.bd]
def dj (x:bJ):List D:=[dI x.id,dI x.kind,dI x.n,dI x.aE,dI x.move,dI x.sum]
def gR (x:ew):List D:=[dI x.cG,dI x.count,dI x.sum]
def sI (x:List Int):List D:=[.r 1 (x.map lj)]
theorem Aj (l:List bC):∀ row∈l.map iX,∀ d∈row,d.oW=true:=by
 intro row hr d hd
 obtain ⟨x,_,rfl⟩:=List.mem_map.1 hr
 simp only [iX,List.mem_cons,List.not_mem_nil,or_false] at hd
 rcases hd with rfl|rfl|rfl|rfl|rfl|rfl|rfl|rfl<;>rfl

def df (l:List Int):CV:=cR 1 (l.map rI)
def dL (l:List Int):AB:=.arr 3 1 (l.map rI)
def eL (l:List de):CV:=cR 2 (l.map ia)
def EZ (l:List de):D:=.r 2 (l.map ia)
def pA (l:List de):AB:=.arr 125 2 (l.map ia)
def eb (l:List cp):CV:=cR 4 (l.map iG)
def Ba (l:List cp):AB:=.arr 107 4 (l.map iG)
def ck (l:List bg):CV:=cR 4 (l.map fE)
def xX (l:List bg):AB:=.arr 80 4 (l.map fE)
def cZ (l:List Entry):CV:=cR 2 (l.map eH)
def lU (l:List Entry):AB:=.arr 115 2 (l.map eH)
def eG (l:List ar):CV:=cR 4 (l.map ib)
def cT (l:List ar):AB:=.arr 83 4 (l.map ib)
def gj (l:List bD):CV:=cR 6 (l.map pH)
def dV (l:List bD):AB:=.arr 61 6 (l.map pH)
def gK (l:List bC):CV:=cR 8 (l.map iX)
def dY (l:List bC):AB:=.arr 67 8 (l.map iX)
def cV (l:List cj):CV:=cR 5 (l.map fx)
def Fu (l:List cj):AB:=.arr 113 5 (l.map fx)
def DJ (l:List Answer):CV:=cR 2 (l.map lD)
def Ft (l:List Answer):AB:=.arr 65 2 (l.map lD)
def te (l:List bJ):CV:=cR 6 (l.map dj)
def HQ (l:List bJ):AB:=.arr 27 6 (l.map dj)
def DK (l:List Int):CV:=cR 1 (l.map lj)
def xY (l:List Int):AB:=.arr 5 1 (l.map lj)
def hP (l:List (List Int)):CV:=cR 1 (l.map sI)
def qz (l:List (List Int)):AB:=.arr 86 1 (l.map sI)
end Go.Proofs.Ytegepioggeggaaa.Dev
