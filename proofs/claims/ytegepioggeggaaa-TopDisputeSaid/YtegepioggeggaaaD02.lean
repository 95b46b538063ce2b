/- A part of the proof: Sh12, Opn, Sh13, Sh14, Sh15, Dat, PlAuth, PlStand, Dat2, Abb, Ty, Sh16. No condition. -/
import Derived.Test.YtegepioggeggaaaD01
import Derived.Lib.SmallJoins
import Derived.Test.YtegepioggeggaaaProg
set_option linter.unusedVariables false
set_option linter.unusedSimpArgs false
namespace Go.Proofs.Ytegepioggeggaaa.Dev
open Go.RowKit
open Go.RowKit Go.ChangeShapes Go.WideShapes Go.Deep Go.Joins
section

section
variable {P:Program} {st:aF} {o:Oper}
theorem cL.fw {σ:Nat->Option bK} {T T':Nat->Prop} {w:World} (h:∀ b,T' b->T b) {x:CV} {v:Value} (hx:cL σ T w x v):cL σ T' w x v:=by
 cases x with
 |any=>trivial
 |d x=>exact bl.fw h hx
 |p k i K o=>exact hx
 |q row o=>
  obtain ⟨b,off,h1,h2,h3,h4⟩:=hx
  refine ⟨b,off,h1,h2,fun hb=>h3 (h b hb),fun j d hj=>?_⟩
  obtain ⟨u,hu,hr⟩:=h4 j d hj
  exact ⟨u,hu,hr.fw h⟩
 |s k i K n=>exact hx
 |sx k i K n c e=>exact hx
 |m k=>exact hx
 |fn f bc=>exact hx
theorem dk.fw {σ:Nat->Option bK} {T T':Nat->Prop} {w:World} (h:∀ b,T' b->T b) {x:GV} {v:Value} (hx:dk σ T w x v):dk σ T' w x v:=by
 cases x with
 |c x=>exact cL.fw h (x:=x) hx
 |g xs=>obtain ⟨vs,h1,h2⟩:=hx;exact ⟨vs,h1,h2.mono fun _ _ hh=>hh.fw h⟩
theorem cZ.fw {σ:Nat->Option bK} {T T':Nat->Prop} {w:World} (h:∀ b,T' b->T b) {og:Option bK} (bL:∀ g,og=some g->T g.g->T' g.g) {b:AB} (hx:cZ σ T w og b):cZ σ T' w og b:=by
 cases b with
 |box t cs=>obtain ⟨g,vs,h1,h2,h3,h4⟩:=hx;exact ⟨g,vs,h1,bL g h1 h2,h3,h4.mono fun _ _ hh=>hh.fw h⟩
 |arr t K rows=>
  refine ⟨hx.1,?_⟩
  rcases hx.2 with h1|⟨g,vs,h1,h2,h3,h4,h5,h6⟩
  ·exact .inl h1
  ·exact .inr ⟨g,vs,h1,bL g h1 h2,h3,h4,h5,h6.1,fun i row hi=>⟨(h6.2 i row hi).1,fun j d hj=>by
    obtain ⟨u,hu,hr⟩:=(h6.2 i row hi).2 j d hj
    exact ⟨u,hu,hr.fw h⟩⟩⟩
 |map es cl=>obtain ⟨g,ms,h1,h2,h3⟩:=hx;exact ⟨g,ms,h1,bL g h1 h2,h3⟩
theorem cL.up {σ : Nat → Option bK} {T : Nat → Prop} {w : World} {x : CV} {v : Value} (hx : cL (fun _ => none) T w x v) : cL σ T w x v := by
  cases x with
  | any => trivial
  | d x => exact hx
  | p k i K o => obtain ⟨g, h, _⟩ := hx; cases h
  | q row o => exact hx
  | s k i K n => rcases hx with h | ⟨g, h, _⟩
                 · exact .inl h
                 · cases h
  | sx k i K n c e => obtain ⟨g, off, h, _⟩ := hx; cases h
  | m k => obtain ⟨g, h, _⟩ := hx; cases h
  | fn f bc =>
    obtain ⟨gs, h1, h2⟩ := hx
    cases bc with
    | nil => cases gs with
      | nil => exact ⟨[], rfl, h2⟩
      | cons => cases h1
    | cons => cases gs with
      | nil => cases h1
      | cons => rw [List.map_cons, List.map_cons, List.cons.injEq] at h1; cases h1.1
theorem dk.up {σ:Nat->Option bK} {T:Nat->Prop} {w:World} {x:GV} {v:Value} (hx:dk (fun _=>none) T w x v):dk σ T w x v:=by
 cases x with
 |c x=>exact cL.up (x:=x) hx
 |g xs=>obtain ⟨vs,h1,h2⟩:=hx;exact ⟨vs,h1,h2.mono fun _ _ hh=>hh.up⟩
def Hn (st:aF) (E:List Nat) (ρ:Nat->Nat) (p:Nat->Bool) (g y:GV):Prop:=(g=y.map ρ/\y.ok p=true)\/sM st E g y
def pT (st:aF) (E:List Nat) (ρ:Nat->Nat) (p:Nat->Bool):List Operand->List GV->Prop
 |[],[]=>True
 |x::xs,y::ys=>(∃ g,ev st x (.v g)/\Hn st E ρ p g y)/\pT st E ρ p xs ys
 |_,_=>False
def nF (h:List (Nat×AB)) (k:Nat):Bool:=match look h k with|some (.box _ _)=>true|_=>false
def pt (h:List (Nat×AB)) (k:Nat):Prop:=nF h k=true\/∃ t K rows,look h k=some (.arr t K rows)/\0 < rows.length
theorem tl {h:List (Nat×AB)} {cF:List Nat} (hk:cF.all (fun k=>nF h k)=true):∀ k∈cF,pt h k:=fun k hm=>.inl (List.all_eq_true.1 hk k hm)
theorem lR {l:List Nat} {ρ:Nat->Nat} (h:eh (l.map ρ)=true):∀ k k',k∈l->k'∈l->ρ k=ρ k'->k=k':=by
 induction l with
 |nil=>intro _ _ h;cases h
 |cons j l ih=>
  simp only [List.map_cons,eh,Bool.and_eq_true,Bool.not_eq_true',List.any_eq_false] at h
  have far:∀ k,k∈l->ρ j≠ρ k:=fun k hm e=>h.1 (ρ k) (List.mem_map.2 ⟨k,hm,rfl⟩) (by rw [e];exact Nat.beq_refl _)
  intro k k' hk hk' he
  rcases List.mem_cons.1 hk with rfl|h1
  ·rcases List.mem_cons.1 hk' with h2|h2
   ·exact h2.symm
   ·exact absurd he (far _ h2)
  ·rcases List.mem_cons.1 hk' with rfl|h2
   ·exact absurd he.symm (far _ h1)
   ·exact ih h.2 k k' h1 h2 he
def pull (μ:Nat->Nat) (σ' σ:Nat->Option bK):List Nat->Nat->Option bK
 |[],j=>σ j
 |k::l,j=>if μ k=j then σ' k else pull μ σ' σ l j
theorem nj {μ:Nat->Nat} {σ' σ:Nat->Option bK} {l:List Nat} (hi:∀ k k',k∈l->k'∈l->μ k=μ k'->k=k') {k:Nat} (hk:k∈l):pull μ σ' σ l (μ k)=σ' k:=by
 induction l with
 |nil=>cases hk
 |cons j l ih=>
  show (if μ j=μ k then σ' j else pull μ σ' σ l (μ k))=σ' k
  by_cases e:μ j=μ k
  ·rw [if_pos e,hi j k List.mem_cons_self hk e]
  ·rw [if_neg e]
   exact ih (fun a b ha hb=>hi a b (List.mem_cons_of_mem _ ha) (List.mem_cons_of_mem _ hb)) ((List.mem_cons.1 hk).resolve_left fun h=>e (by rw [h]))
theorem lP {μ:Nat->Nat} {σ' σ:Nat->Option bK} {l:List Nat} {j:Nat} (h:∀ k∈l,μ k≠j):pull μ σ' σ l j=σ j:=by
 induction l with
 |nil=>rfl
 |cons k l ih=>
  show (if μ k=j then σ' k else pull μ σ' σ l j)=σ j
  rw [if_neg (h k List.mem_cons_self)]
  exact ih fun k hk=>h k (List.mem_cons_of_mem _ hk)
theorem ly {f:FuncId} {c:Call} {ins:List GV} {bL:List (Nat×AB)} {cF:List Nat} {av av':AV} {nb nb':List (Nat×AB)} {EE:List Nat} {p:D->Prop} (ρ μ:Nat->Nat) (E:List Nat) (hF:cA P f ins bL cF av nb) (hen:bf P f) (ho:o.op=.call c) (hc:c.callee=.value (.func f))
  (hargs:pT st E ρ (bh bL) c.args.toList ins) (hheap:df (fun x=>look st.h (ρ x.1)=some (x.2.map' ρ)) bL) (hokin:bL.all (fun x=>x.2.ok (bh bL))=true) (hinj:eh ((keys bL).map ρ)=true) (hE:bL.all (fun x=>!dN (ρ x.1) E)=true) (hEl:E.all (fun e=>bh st.h e)=true)
  (hkeep:∀ k∈cF,pt bL k) (hEE:(keys bL).map ρ=EE) (hμ:eh ((keys nb).map μ)=true) (hμk:(keys nb).all (fun k=>(dN k cF && Nat.beq (μ k) (ρ k))||(!dN k cF && !dN (μ k) EE))=true)
  (hg:av.dZ p) (hgb:df (fun x=>x.2.dZ p) nb) (hok:av.ok (bh nb)=true) (hokb:nb.all (fun x=>x.2.ok (bh nb))=true) (hav:av.map μ=av') (hnb:fM μ nb=nb')
  (hD:∀ (σ:Nat->Option bK) (T Tc T':Nat->Prop) (w':World) d v,(∀ b,T' b->T b\/Tc b)->(∀ b,eI σ T E b->Tc b)->p d->bl Tc w' d v->bl T' w' d v):aK P o st av' nb' EE:=by
 intro σ T a w C hnew
 subst hav hnb hEE
 have hinj':=lR hinj
 have hin_mem:∀ k,bh bL k=true->k∈keys bL:=fun k hk=>by
  obtain ⟨b,hb⟩:=gi hk
  exact List.mem_map.2 ⟨(k,b),hb,rfl⟩
 have mem_in:∀ k,k∈keys bL->bh bL k=true:=fun k hk=>by
  obtain ⟨x,hx,rfl⟩:=List.mem_map.1 hk
  exact cM (b:=x.2) hx
 let σc:Nat->Option bK:=fun k=>if bh bL k=true then σ (ρ k) else none
 have hσc:∀ k,bh bL k=true->σc k=σ (ρ k):=fun k hk=>if_pos hk
 let Tc:=eI σ T E
 have hlow:∀ b,Tc b->T b:=fun b h=>h.1
 have hsep:∀ k b g,(k,b)∈bL->σ (ρ k)=some g->Tc g.g:=by
  intro k b g hk hg
  refine ⟨(C.heap _ _ (hheap.mem _ hk)).nS hg,fun e he g' hg' hgg=>?_⟩
  obtain ⟨b',hb'⟩:=gi (List.all_eq_true.1 hEl e he)
  have hb':∃ b',look st.h e=some b':=by
   have:=List.all_eq_true.1 hEl e he
   cases hl:look st.h e with
   |none=>simp [bh,hl] at this
   |some b'=>exact ⟨b',rfl⟩
  obtain ⟨b',hb'⟩:=hb'
  have heq:=C.inj e (ρ k) b' _ g' g hb' (hheap.mem _ hk) hg' hg hgg
  have:=List.all_eq_true.1 hE _ hk
  simp only [Bool.not_eq_true'] at this
  rw [<-heq,eF.2 he] at this
  cases this
 have hh:∀ k b,(k,b)∈bL->cZ σc Tc w (σc k) b:=by
  intro k b hk
  have hkin:=cM hk
  rw [hσc k hkin]
  refine cZ.fw hlow (fun g hg _=>hsep k b g hk hg) ?_
  exact cZ.bY (ρ:=ρ) hσc (C.heap _ _ (hheap.mem _ hk)) (List.all_eq_true.1 hokin _ hk)
 have hij:∀ k k' b b' g g',(k,b)∈bL->(k',b')∈bL->σc k=some g->σc k'=some g'->g.g=g'.g->k=k':=by
  intro k k' b b' g g' hk hk' hg hg' hgg
  rw [hσc k (cM hk)] at hg
  rw [hσc k' (cM hk')] at hg'
  exact hinj' k k' (hin_mem _ (cM hk)) (hin_mem _ (cM hk')) (C.inj _ _ _ _ g g' (hheap.mem _ hk) (hheap.mem _ hk') hg hg' hgg)
 have hkp:∀ k∈cF,bh bL k=true/\∃ g,σ (ρ k)=some g:=by
  intro k hk
  rcases hkeep k hk with this|⟨t,K,rows,hl,hpos⟩
  ·unfold nF at this
   cases hl:look bL k with
   |none=>simp [hl] at this
   |some b=>
    cases b with
    |box t cs=>
     refine ⟨by simp [bh,hl],?_⟩
     obtain ⟨g,_,h1,_⟩:=C.heap _ _ (hheap.mem _ (bI hl))
     exact ⟨g,h1⟩
    |arr=>simp [hl] at this
    |map=>simp [hl] at this
  ·refine ⟨by simp [bh,hl],?_⟩
   obtain ⟨_,h1|⟨g,_,h1,_⟩⟩:=C.heap _ _ (hheap.mem _ (bI hl))
   ·obtain ⟨h1,_⟩:=h1
    rw [h1] at hpos;cases hpos
   ·exact ⟨g,h1⟩
 have hrel:ck (dk σc Tc w) ins (c.args.map a.eval).toList:=by
  rw [Array.toList_map]
  have gen:∀ (xs:List Operand) (ys:List GV),pT st E ρ (bh bL) xs ys->ck (dk σc Tc w) ys (xs.map a.eval):=by
   intro xs
   induction xs with
   |nil=>intro ys h;cases ys with
    |nil=>trivial
    |cons=>exact h.elim
   |cons x xs ih=>
    intro ys h
    cases ys with
    |nil=>exact h.elim
    |cons y ys=>
     refine ⟨?_,ih ys h.2⟩
     obtain ⟨g,h1,h2|h2⟩:=h.1
     ·obtain ⟨h2,h3⟩:=h2
      subst h2
      exact dk.fw hlow (dk.bY (ρ:=ρ) hσc (x:=y) (bO C h1) h3)
     ·exact dk.up (h2.rel C (bO C h1))
  exact gen _ _ hargs
 refine my ho hc hen ((hF Tc σc w _ (fun b h=>C.ef b h.1) hh hij (fun k hk=>?_) hrel).mono ?_)
 ·obtain ⟨h1,g,h2⟩:=hkp k hk
  exact ⟨g,by rw [hσc k h1,h2]⟩
 rintro e w' ⟨v,σ',T',rfl,R⟩
 let T2:Nat->Prop:=fun b=>T b\/T' b
 let σ2:=pull μ σ' σ (keys nb)
 have hμ':=lR hμ
 have hσ2:∀ k,bh nb k=true->σ2 (μ k)=σ' k:=fun k hk=>by
  obtain ⟨b,hb⟩:=gi hk
  exact nj hμ' (List.mem_map.2 ⟨(k,b),hb,rfl⟩)
 have hD':∀ d v,p d->bl T' w' d v->bl T2 w' d v:=fun d v=>hD σ T T' T2 w' d v (fun b h=>h) R.lY
 have hmem:∀ k b,(k,b)∈fM μ nb->∃ k0 b0,(k0,b0)∈nb/\k=μ k0/\b=b0.map' μ:=by
  intro k b h
  obtain ⟨⟨k0,b0⟩,h1,h2⟩:=List.mem_map.1 h
  injection h2 with h2 h3
  exact ⟨k0,b0,h1,h2.symm,h3.symm⟩
 have hcase:∀ k∈keys nb,(k∈cF/\μ k=ρ k)\/(k ∉ cF/\μ k ∉ (keys bL).map ρ):=by
  intro k hk
  have:=List.all_eq_true.1 hμk k hk
  simp only [Bool.or_eq_true,Bool.and_eq_true,Bool.not_eq_true'] at this
  rcases this with ⟨h1,h2⟩|⟨h1,h2⟩
  ·exact .inl ⟨eF.1 h1,Nat.eq_of_beq_eq_true h2⟩
  ·exact .inr ⟨fun h=>(Bool.eq_false_iff.1 h1) (eF.2 h),fun h=>(Bool.eq_false_iff.1 h2) (eF.2 h)⟩
 have C2:∀ b,(∃ k∈(keys bL).map ρ,∃ g,σ k=some g/\g.g=b)↔∃ k∈keys bL,∃ g,σc k=some g/\g.g=b:=by
  intro b
  constructor
  ·rintro ⟨k,hk,g,hg,hgb⟩
   obtain ⟨k0,hk0,rfl⟩:=List.mem_map.1 hk
   exact ⟨k0,hk0,g,by rw [hσc k0 (mem_in k0 hk0)];exact hg,hgb⟩
  ·rintro ⟨k,hk,g,hg,hgb⟩
   rw [hσc k (mem_in k hk)] at hg
   exact ⟨ρ k,List.mem_map.2 ⟨k,hk,rfl⟩,g,hg,hgb⟩
 refine ⟨v,rfl,v,σ2,T2,rfl,⟨R.os,R.tape,R.output,⟨R.size,fun b hb hno=>R.cu b hb fun k hk g hg hgb=>hno ((C2 b).2 ⟨k,hk,g,hg,hgb⟩),fun b hb=>?_,fun b hb h=>?_,fun j g hj=>?_⟩,fun b h=>.inl h,fun b h=>?_,fun j hj=>?_,?_,?_,?_⟩,R.rel.back hD' hσ2 hg hok⟩
 ·obtain ⟨k,hk,g,hg,rfl⟩:=hb
  obtain ⟨k0,hk0,rfl⟩:=List.mem_map.1 hk
  obtain ⟨x,hx,rfl⟩:=List.mem_map.1 hk0
  exact (C.heap _ _ (hheap.mem x hx)).nS hg
 ·rcases h with h|h
  ·exact h
  ·exact (R.kQ b hb h).1
 ·show pull μ σ' σ (keys nb) j=some g
  by_cases hex:∃ k∈keys nb,μ k=j
  ·obtain ⟨k,hk,rfl⟩:=hex
   rw [nj hμ' hk]
   rcases hcase k hk with ⟨h1,h2⟩|⟨h1,h2⟩
   ·rw [R.kept k h1,hσc k (hkp k h1).1,<-h2];exact hj
   ·obtain ⟨x,hx,rfl⟩:=List.mem_map.1 hk
    have:=hnew (μ x.1) (x.2.map' μ) (List.mem_map.2 ⟨x,hx,rfl⟩) h2
    rw [this] at hj;cases hj
  ·rw [lP fun k hk e=>hex ⟨k,hk,e⟩];exact hj
 ·rcases h with h|h
  ·exact Nat.lt_of_lt_of_le (C.ef b h) R.size
  ·exact R.ef b h
 ·exact lP fun k hk e=>by
   obtain ⟨x,hx,rfl⟩:=List.mem_map.1 hk
   exact hj (x.2.map' μ) (List.mem_map.2 ⟨x,hx,by rw [e]⟩)
 ·intro k b h
  obtain ⟨k0,b0,h1,rfl,rfl⟩:=hmem k b h
  rw [hσ2 k0 (cM h1)]
  exact (R.heap k0 b0 h1).back hD' hσ2 (fun b h=>.inr h) (hgb.mem _ h1) (List.all_eq_true.1 hokb _ h1)
 ·intro k b g h hg
  obtain ⟨k0,b0,h1,rfl,rfl⟩:=hmem k b h
  rw [hσ2 k0 (cM h1)] at hg
  rcases R.fresh k0 b0 g h1 hg with h2|⟨e,he,g',hg',hgg⟩
  ·exact .inl h2
  ·exact .inr ((C2 g.g).2 ⟨e,he,g',hg',hgg⟩)
 ·intro k k' b b' g g' h h' hg hg' hgg
  obtain ⟨k0,b0,h1,rfl,rfl⟩:=hmem k b h
  obtain ⟨k1,b1,h2,rfl,rfl⟩:=hmem k' b' h'
  rw [hσ2 k0 (cM h1)] at hg
  rw [hσ2 k1 (cM h2)] at hg'
  rw [R.inj k0 k1 b0 b1 g g' h1 h2 hg hg' hgg]
theorem cv {f:FuncId} {c:Call} {ins:List GV} {bL:List (Nat×AB)} {cF:List Nat} {av av':AV} {nb nb':List (Nat×AB)} {EE:List Nat} (ρ μ:Nat->Nat) (hF:cA P f ins bL cF av nb) (hen:bf P f) (ho:o.op=.call c) (hc:c.callee=.value (.func f))
  (hargs:pT st [] ρ (bh bL) c.args.toList ins) (hheap:df (fun x=>look st.h (ρ x.1)=some (x.2.map' ρ)) bL) (hokin:bL.all (fun x=>x.2.ok (bh bL))=true) (hinj:eh ((keys bL).map ρ)=true)
  (hkeep:cF.all (fun k=>nF bL k)=true) (hEE:(keys bL).map ρ=EE) (hμ:eh ((keys nb).map μ)=true) (hμk:(keys nb).all (fun k=>(dN k cF && Nat.beq (μ k) (ρ k))||(!dN k cF && !dN (μ k) EE))=true)
  (hg:av.dZ (fun _=>True)) (hgb:df (fun x=>x.2.dZ fun _=>True) nb) (hok:av.ok (bh nb)=true) (hokb:nb.all (fun x=>x.2.ok (bh nb))=true) (hav:av.map μ=av') (hnb:fM μ nb=nb'):aK P o st av' nb' EE:=
 ly ρ μ [] hF hen ho hc hargs hheap hokin hinj (by simp [dN]) rfl (tl hkeep) hEE hμ hμk hg hgb hok hokb hav hnb fun σ T Tc T' w' d v h1 h2 _ h=>h.fw fun b hb=>by
  rcases h1 b hb with h|h
  ·exact h2 b ⟨h,fun k hk=>by cases hk⟩
  ·exact h
theorem vy {f:FuncId} {c:Call} {ins:List GV} {bL:List (Nat×AB)} {cF:List Nat} {av av':AV} {nb nb':List (Nat×AB)} {EE:List Nat} (ρ μ:Nat->Nat) (E:List Nat) (hF:cA P f ins bL cF av nb) (hen:bf P f) (ho:o.op=.call c) (hc:c.callee=.value (.func f))
  (hargs:pT st E ρ (bh bL) c.args.toList ins) (hheap:df (fun x=>look st.h (ρ x.1)=some (x.2.map' ρ)) bL) (hokin:bL.all (fun x=>x.2.ok (bh bL))=true) (hinj:eh ((keys bL).map ρ)=true) (hE:bL.all (fun x=>!dN (ρ x.1) E)=true) (hEl:E.all (fun e=>bh st.h e)=true)
  (hkeep:cF.all (fun k=>nF bL k)=true) (hEE:(keys bL).map ρ=EE) (hμ:eh ((keys nb).map μ)=true) (hμk:(keys nb).all (fun k=>(dN k cF && Nat.beq (μ k) (ρ k))||(!dN k cF && !dN (μ k) EE))=true)
  (hg:av.dZ (fun d=>d.kC=true)) (hgb:df (fun x=>x.2.dZ fun d=>d.kC=true) nb) (hok:av.ok (bh nb)=true) (hokb:nb.all (fun x=>x.2.ok (bh nb))=true) (hav:av.map μ=av') (hnb:fM μ nb=nb'):aK P o st av' nb' EE:=
 ly ρ μ E hF hen ho hc hargs hheap hokin hinj hE hEl (tl hkeep) hEE hμ hμk hg hgb hok hokb hav hnb fun σ T Tc T' w' d v h1 h2 hp h=>by
  cases d with
  |v x=>cases h;exact .v _ (by assumption)
  |r=>cases hp
  |f=>cases hp
theorem dQ {f:FuncId} {c:Call} {ins:List GV} {bL:List (Nat×AB)} {cF:List Nat} {av av':AV} {nb nb':List (Nat×AB)} {EE:List Nat} (ρ μ:Nat->Nat) (hF:cA P f ins bL cF av nb) (hen:bf P f) (ho:o.op=.call c) (hc:c.callee=.value (.func f))
  (hargs:pT st [] ρ (bh bL) c.args.toList ins) (hheap:df (fun x=>look st.h (ρ x.1)=some (x.2.map' ρ)) bL) (hokin:bL.all (fun x=>x.2.ok (bh bL))=true) (hinj:eh ((keys bL).map ρ)=true)
  (hkeep:df (pt bL) cF) (hEE:(keys bL).map ρ=EE) (hμ:eh ((keys nb).map μ)=true) (hμk:(keys nb).all (fun k=>(dN k cF && Nat.beq (μ k) (ρ k))||(!dN k cF && !dN (μ k) EE))=true)
  (hg:av.dZ (fun _=>True)) (hgb:df (fun x=>x.2.dZ fun _=>True) nb) (hok:av.ok (bh nb)=true) (hokb:nb.all (fun x=>x.2.ok (bh nb))=true) (hav:av.map μ=av') (hnb:fM μ nb=nb'):aK P o st av' nb' EE:=
 ly ρ μ [] hF hen ho hc hargs hheap hokin hinj (by simp [dN]) rfl (fun k hk=>hkeep.mem k hk) hEE hμ hμk hg hgb hok hokb hav hnb fun σ T Tc T' w' d v h1 h2 _ h=>h.fw fun b hb=>by
  rcases h1 b hb with h|h
  ·exact h2 b ⟨h,fun k hk=>by cases hk⟩
  ·exact h
end
section
variable {P:Program} {W0:World} {F:Nat->Prop} {N:NT} {T0:Nat->Prop} {pin:List (Nat×bK)} {ops:Array Oper} {Q:Exit->aF->Prop} {s:List (Nat×AV)} {h:List (Nat×AB)} {n:Nat}
theorem iR {h:List (Nat×AB)} {k:Nat} (hk:bh h k=true):∃ b,look h k=some b:=by
 cases hl:look h k with
 |none=>simp [bh,hl] at hk
 |some b=>exact ⟨b,rfl⟩
theorem CA {o:Oper} {rest:List Oper} {d n':Nat} {av:AV} {nb h':List (Nat×AB)} {E:List Nat} (hw:ak ops o ⟨s,h,n⟩) (g:aK P o ⟨s,h,n⟩ av nb E) (hd:o.dst=some d) (hN:Nat.blt d N.1=true) (hE:E.all (fun e=>bh h e)=true) (hnb:nb.all (fun x=>dN x.1 E||Nat.ble n x.1)=true) (hn:iy nb n=n') (hh:nb++del E h=h') (k:AL P W0 F N T0 pin ops Q rest ⟨(d,av)::s,h',n'⟩):AL P W0 F N T0 pin ops Q (o::rest) ⟨s,h,n⟩:=
 rW hw g (fun d' h'=>by rw [hd] at h';injection h' with h';subst h';rw [Nat.blt_eq] at hN;exact hN) (fun e he=>iR (List.all_eq_true.1 hE e he)) (fun k b hk hkE=>by
  have:=List.all_eq_true.1 hnb _ hk
  simp only [Bool.or_eq_true] at this
  rcases this with h|h
  ·exact absurd (eF.1 h) hkE
  ·exact Nat.le_of_ble_eq_true h) (by
  have e:(aF.add ⟨s,h,n⟩ nb E)=⟨s,h',n'⟩:=by simp [aF.add,<-hn,<-hh]
  rw [e,hd];exact k)
theorem aD.cut {s:List (Nat×AV)} {h h':List (Nat×AB)} {n:Nat} (k m:Nat) {t K:Nat} {rows rows':List (List D)} (hb:look h k=some (.arr t K rows)) (hr:rows.take m=rows') (hh:kr h k (.arr t K rows')=h'):aD pin ⟨s,h,n⟩ ⟨s,h',n⟩:=by
 subst hr hh
 rintro W0 F N T0 a w ⟨σ,T,hT,S,hp⟩
 have cases_:∀ i b,look (kr h k (.arr t K (rows.take m))) i=some b->(i=k/\b=.arr t K (rows.take m))\/(i≠k/\look h i=some b):=by
  intro i b hi
  rcases jW hi with h1|h1|h1
  ·exact .inl h1
  ·exact .inr h1
  ·exact h1.2.elim
 have cu:∀ i b,look (kr h k (.arr t K (rows.take m))) i=some b->∃ b0,look h i=some b0:=fun i b hi=>by
  rcases cases_ i b hi with ⟨rfl,_⟩|⟨_,h1⟩
  ·exact ⟨_,hb⟩
  ·exact ⟨_,h1⟩
 refine ⟨σ,T,hT,⟨⟨S.core.eD,?_,?_,S.core.ef⟩,S.os,S.tape,S.output,S.size,S.cu,?_,S.next,?_,S.iV,S.iA⟩,hp⟩
 ·intro i b hi
  rcases cases_ i b hi with ⟨rfl,rfl⟩|⟨_,h1⟩
  ·obtain ⟨hK,h1⟩:=S.core.heap _ _ hb
   refine ⟨hK,?_⟩
   rcases h1 with ⟨h1,h2⟩|⟨g,vs,h1,h2,h3,h4,h5,h6⟩
   ·exact .inl ⟨by rw [h1];simp,h2⟩
   ·refine .inr ⟨g,vs,h1,h2,h3,h4,h5,?_,fun i row hi=>?_⟩
    ·refine Nat.le_trans (Nat.mul_le_mul_right K ?_) h6.1
     rw [List.length_take];omega
    ·rw [List.getElem?_take] at hi
     split at hi
     ·exact h6.2 i row hi
     ·cases hi
  ·exact S.core.heap i b h1
 ·intro i i' b b' g g' hi hi' hg hg' hgg
  obtain ⟨b0,h0⟩:=cu i b hi
  obtain ⟨b1,h1⟩:=cu i' b' hi'
  exact S.core.inj i i' b0 b1 g g' h0 h1 hg hg' hgg
 ·intro i b g hi hg
  obtain ⟨b0,h0⟩:=cu i b hi
  exact S.own i b0 g h0 hg
 ·intro i b hi
  obtain ⟨b0,h0⟩:=cu i b hi
  exact S.hn i b0 h0
end
end
section

def fG (n:Int):Prop:=-9223372036854775808<=n/\n<=9223372036854775807
def Gl:Nat->Prop:=fun _=>False
section
variable {P:Program} {t e:TypeId}
end
section
variable {H:Type} {enc:TypeId×Value->H} {P:Program} {w:World} {base:Nat} {spare:Nat->Bool} {held:Bool} {t:TypeId}
end
theorem Ee {P:Program} {f:FuncId} {ins:List GV} (h:Fn P f ins (aB true) []) {w:World} {args:Array Value} (hargs:ck (dk (fun _=>none) Gl w) ins args.toList):Calls P f args w fun e w'=>e=.returned (.bool true)/\Below w.heap.size w w':=
 (h Gl w args (fun _ h=>h.elim) hargs).mono fun e w' ⟨v,σ,T',he,hb,R⟩=>⟨by rw [he,bl.inv R.rel],hb⟩
end
section

theorem bl.len {T:Nat->Prop} {w:World} {K:Nat} {rows:List (List D)} {v:Value} (h:bl T w (.r K rows) v):rows.length<=9223372036854775807:=by
 cases h with
 |nil=>simp
 |r=>omega
section
variable {P:Program} {W0:World} {F:Nat->Prop} {N:NT} {T0:Nat->Prop} {pin:List (Nat×bK)} {Q:Exit->aF->Prop} {s:List (Nat×AV)} {h:List (Nat×AB)} {n:Nat}
theorem dG {c:Code} {α:Type} {f:α->List D} {xs:List α} {K:Nat} (i:Nat) (hs:look s i=some (.v (.c (.d (.r K (xs.map f)))))) (k:xs.length<=9223372036854775807->AC P W0 F N T0 pin Q c ⟨s,h,n⟩):AC P W0 F N T0 pin Q c ⟨s,h,n⟩:=fun a w hI=>by
 obtain ⟨σ,T,hT,S,hp⟩:=hI
 have h1:=bl.len (show bl T w (.r K (xs.map f)) _ from S.core.eD i _ hs)
 rw [List.length_map] at h1
 exact k h1 a w ⟨σ,T,hT,S,hp⟩
theorem fQ {c:Code} {k r K m:Nat} (i:Nat) (hs:look s i=some (.v (.c (.s k r K m)))) (hk:m<=9223372036854775807->AC P W0 F N T0 pin Q c ⟨s,h,n⟩):AC P W0 F N T0 pin Q c ⟨s,h,n⟩:=fun a w hI=>by
 obtain ⟨σ,T,hT,S,hp⟩:=hI
 have h1:cL σ T w (.s k r K m) _:=S.core.eD i _ hs
 refine hk ?_ a w ⟨σ,T,hT,S,hp⟩
 rcases h1 with ⟨h0,_⟩|⟨g,_,_,h2,h3⟩<;>omega
theorem fl {c:Code} {α:Type} {f:α->List D} {xs:List α} {K:Nat} {cs:List CV} (i j:Nat) (hs:look s i=some (.v (.g cs))) (hj:cs[j]?=some (.d (.r K (xs.map f)))) (k:xs.length<=9223372036854775807->AC P W0 F N T0 pin Q c ⟨s,h,n⟩):AC P W0 F N T0 pin Q c ⟨s,h,n⟩:=fun a w hI=>by
 obtain ⟨σ,T,hT,S,hp⟩:=hI
 obtain ⟨vs,h1,h2⟩:=S.core.eD i _ hs
 obtain ⟨y,hy,hr⟩:=h2.get hj
 have h1:=bl.len (show bl T w (.r K (xs.map f)) _ from hr)
 rw [List.length_map] at h1
 exact k h1 a w ⟨σ,T,hT,S,hp⟩
end
theorem cZ.cut {σ:Nat->Option bK} {T:Nat->Prop} {w:World} {og:Option bK} {t K:Nat} {rows:List (List D)} (m:Nat) (h:cZ σ T w og (.arr t K rows)):cZ σ T w og (.arr t K (rows.take m)):=by
 obtain ⟨hK,h1⟩:=h
 refine ⟨hK,?_⟩
 rcases h1 with ⟨h1,h2⟩|⟨g,vs,h1,h2,h3,h4,h5,h6⟩
 ·exact .inl ⟨by rw [h1];simp,h2⟩
 ·refine .inr ⟨g,vs,h1,h2,h3,h4,h5,?_,fun i row hi=>?_⟩
  ·refine Nat.le_trans (Nat.mul_le_mul_right K ?_) h6.1
   rw [List.length_take];omega
  ·rw [List.getElem?_take] at hi
   split at hi
   ·exact h6.2 i row hi
   ·cases hi
theorem Ext.stay {σ:Nat->Option bK} {T:Nat->Prop} {st:aF} {a:Act} {w:World} (C:Core σ T st a w) {k:Nat} {b b0:AB} (hb0:look st.h k=some b0) (hr:cZ σ T w (σ k) b):Ext σ T w σ T w [(k,b)] [k]:=by
 refine ⟨rfl,rfl,rfl,⟨Nat.le_refl _,fun _ _ _=>rfl,?_,fun _ _ h=>h,fun _ _ h=>h⟩,fun _ h=>h,C.ef,fun _ _=>rfl,?_,?_,?_⟩
 ·rintro b' ⟨k',hk',g',hg',rfl⟩
  rw [List.mem_singleton.1 hk'] at hg'
  exact (C.heap k b0 hb0).nS hg'
 ·intro j b' h
  obtain ⟨rfl,rfl⟩:=Prod.mk.inj (List.mem_singleton.1 h)
  exact hr
 ·intro j b' g' h hg'
  obtain ⟨rfl,rfl⟩:=Prod.mk.inj (List.mem_singleton.1 h)
  exact .inr ⟨j,List.mem_singleton.2 rfl,g',hg',rfl⟩
 ·intro j j' b1 b2 g1 g2 h h' _ _ _
  obtain ⟨rfl,_⟩:=Prod.mk.inj (List.mem_singleton.1 h)
  obtain ⟨rfl,_⟩:=Prod.mk.inj (List.mem_singleton.1 h')
  rfl
theorem ss {P:Program} {st:aF} {o:Oper} {x:Operand} {c:Call} {t e bt K bytes k i n:Nat} {z:Value} {zs:List Value} {rows rows':List (List D)} (hT:hO P t e K bytes) (hz:(P.info? e).bind (fun i=>i.zero)=some z) (hzs:z.cells.toList=zs) (h1:zs.all (·.oneCell')=true)
  (ho:o.op=.call c) (hc:c.callee=.builtin .clear) (ha:c.args=#[x]) (hat:c.argTypes=#[t]) (hd:o.dst=none) (hx:ev st x (.v (.c (.s k i K n)))) (hb:look st.h k=some (.arr bt K rows)) (hr:rows.take i=rows'):aK P o st (.v (.c .any)) [(k,.arr bt K rows')] [k]:=by
 subst hr
 intro σ T a w C _
 have hxv:=bO C hx
 have hh:=C.heap k _ hb
 have quiet:∀ A c',a.eval x=.slice A 0 c'->o.wp P a w (fun a' w'=>∃ u σ' T',a'=a.put o.dst u/\Ext σ T w σ' T' w' [(k,.arr bt K (rows.take i))] [k]/\ep σ' T' w' (.v (.c .any)) u) xn:=fun A c' hv=>by
  refine gI (v:=.tuple #[]) ?_ ⟨_,σ,T,rfl,Ext.stay C hb (hh.cut i),trivial⟩
  unfold execOp
  cases A<;>simp [ho,resolve,hc,ha,hat,invoke,builtin,hv,Builtin.clear_,run_underlying hT.u]
 rcases hxv with ⟨h0,hv⟩|⟨g,hg,hv,bL,h63⟩
 ·exact quiet none 0 hv
 ·by_cases hn:n=0
  ·subst hn;exact quiet _ _ hv
  ·obtain ⟨hK,hh'⟩:=hh
   rcases hh' with ⟨_,h⟩|⟨g',vs,e1,e2,e3,e4,e5,e6⟩
   ·rw [hg] at h;cases h
   rw [hg] at e1;injection e1 with e1;subst e1
   obtain ⟨ii,z',hii,hzz,hs,hby,hzc⟩:=hT.i
   have hz':z'=z:=by simpa [hii,hzz] using hz
   subst hz'
   have hlen:(Builtin.zeroCells z'.cells n).toList.length=n * K:=by simp [Builtin.zeroCells,hzc]
   have hone:∀ u∈(Builtin.zeroCells z'.cells n).toList,u.oneCell'=true:=by
    intro u hu
    simp only [Builtin.zeroCells,Array.toList_map,List.mem_map] at hu
    obtain ⟨q,_,rfl⟩:=hu
    have hlt:q % z'.cells.size < z'.cells.size:=Nat.mod_lt _ (by rw [hzc];exact hK)
    rw [getElem!_pos z'.cells (q % z'.cells.size) hlt]
    subst hzs
    exact List.all_eq_true.1 h1 _ (by simp)
   have hfit:i * K+n * K<=vs.length:=by rw [e4,<-Nat.add_mul];exact Nat.mul_le_mul_right _ bL
   have hst:=run_storeCells_at (P:=P) g.g (i * K) bt (Builtin.zeroCells z'.cells n).toList 0 vs.toArray w e3 (by rw [hlen];simpa using hfit) hone
   obtain ⟨m,rfl⟩:∃ m,n=m+1:=⟨n - 1,by omega⟩
   have hzv:(zeroValue e).run P w=.ok z' w:=by simp [zeroValue,typeInfo,hii,hzz]
   refine gI (v:=.tuple #[]) (w':=w.setRow g.g (vs.take (i * K)++(Builtin.zeroCells z'.cells (m+1)).toList++vs.drop (i * K+(Builtin.zeroCells z'.cells (m+1)).toList.length)).toArray) ?_ ⟨_,σ,T,rfl,Ext.write C hb hg rfl rfl rfl (setRow_size w _ _) (fun j hj=>setRow_other w g.g j _ hj) fun G=>?_,trivial⟩
   ·unfold execOp
    simp only [Nat.add_zero] at hst
    simp [ho,resolve,hc,ha,hat,invoke,builtin,hv,Builtin.clear_,run_underlying hT.u,hzv,hst]
   ·refine ⟨hK,.inr ⟨g,_,rfl,e2,setRow_heap w g.g _ _ bt (0,0) e3,?_,e5,?_⟩⟩
    ·rw [<-e4];simp only [List.length_append,List.length_take,List.length_drop,hlen];omega
    ·have e7:=e6.grow G
     refine ⟨?_,fun r row hrow=>?_⟩
     ·simp only [List.length_append,List.length_take,List.length_drop,hlen]
      refine Nat.le_trans (Nat.mul_le_mul_right K (Nat.min_le_left i rows.length)) ?_
      omega
     ·rw [List.getElem?_take] at hrow
      split at hrow
      ·rename_i hri
       obtain ⟨q1,q2⟩:=e7.2 r row hrow
       refine ⟨q1,fun j d hj=>?_⟩
       obtain ⟨u,hu,hd'⟩:=q2 j d hj
       have hjK:j < K:=by rw [<-q1];exact (List.getElem?_eq_some_iff.1 hj).1
       have hlt:r * K+j < i * K:=by
        have:(r+1) * K<=i * K:=Nat.mul_le_mul_right _ hri
        rw [Nat.succ_mul] at this
        omega
       refine ⟨u,?_,hd'⟩
       rw [List.append_assoc,List.getElem?_append_left (by rw [List.length_take];omega),List.getElem?_take,if_pos hlt]
       exact hu
      ·cases hrow
theorem aD.nm {pin:List (Nat×bK)} {s:List (Nat×AV)} {h h':List (Nat×AB)} {n:Nat} (k j K bt:Nat) {cs:List CV} (hb:look h k=some (.box bt cs)) (hc:cs[j]?=some cN) (hh:kr h k (.box bt (cs.set j (cR K [])))=h'):aD pin ⟨s,h,n⟩ ⟨s,h',n⟩:=by
 subst hh
 rintro W0 F N T0 a w ⟨σ,T,hT,S,hp⟩
 have cu:∀ i b,look (kr h k (.box bt (cs.set j (cR K [])))) i=some b->∃ b0,look h i=some b0:=fun i b hi=>by
  rcases jW hi with ⟨rfl,_⟩|⟨_,h1⟩|⟨_,h1⟩
  ·exact ⟨_,hb⟩
  ·exact ⟨_,h1⟩
  ·exact h1.elim
 refine ⟨σ,T,hT,⟨⟨S.core.eD,?_,?_,S.core.ef⟩,S.os,S.tape,S.output,S.size,S.cu,?_,S.next,?_,S.iV,S.iA⟩,hp⟩
 ·intro i b hi
  rcases jW hi with ⟨rfl,rfl⟩|⟨_,h1⟩|⟨_,h1⟩
  ·obtain ⟨g,vs,h1,h2,h3,h4⟩:=S.core.heap _ _ hb
   refine ⟨g,vs,h1,h2,h3,?_⟩
   obtain ⟨y,hy,hr⟩:=h4.get hc
   have hy':y=.slice none 0 0:=bl.inv hr
   subst hy'
   have:=h4.set (x:=cR K []) (y:=.slice none 0 0) (bl.nil _ _ _) j
   have e:vs.set j (.slice none 0 0)=vs:=by
    apply List.ext_getElem?
    intro q
    rw [List.getElem?_set]
    split
    ·rename_i hq;subst hq
     split
     ·exact hy.symm
     ·rename_i hlt;rw [List.getElem?_eq_none (by omega)]
    ·rfl
   rw [e] at this
   exact this
  ·exact S.core.heap i b h1
  ·exact h1.elim
 ·intro i i' b b' g g' hi hi' hg hg' hgg
  obtain ⟨b0,h0⟩:=cu i b hi
  obtain ⟨b1,h1⟩:=cu i' b' hi'
  exact S.core.inj i i' b0 b1 g g' h0 h1 hg hg' hgg
 ·intro i b g hi hg
  obtain ⟨b0,h0⟩:=cu i b hi
  exact S.own i b0 g h0 hg
 ·intro i b hi
  obtain ⟨b0,h0⟩:=cu i b hi
  exact S.hn i b0 h0
def xR (st:aF) (k:Nat) (p:Nat->Bool) (y x:AV):Prop:=(y=x/\x.ok p=true)\/∃ c d,y=.v (.c c)/\x=.v (.c d)/\kf st [k] c d
theorem Core.freeze {σ:Nat->Option bK} {T:Nat->Prop} {st st':aF} {a:Act} {w:World} (C:Core σ T st a w) (k:Nat) (hn:∀ i v,look st'.s i=some v->∃ y,look st.s i=some y/\xR st k (bh st'.h) y v)
  (hh:∀ j b,look st'.h j=some b->look st.h j=some b/\j≠k/\b.ok (bh st'.h)=true) (hk:∃ b,look st.h k=some b):Core (fun j=>if bh st'.h j=true then σ j else none) (eI σ T [k]) st' a w:=by
 have hlow:∀ b,eI σ T [k] b->T b:=fun b h=>h.1
 obtain ⟨b0,hb0⟩:=hk
 have hσ:∀ j,bh st'.h j=true->(fun j=>if bh st'.h j=true then σ j else none) j=σ (id j):=fun j hj=>if_pos hj
 have idA:∀ v:AV,v.map id=v:=fun v=>by
  have hz:∀ c:CV,c.map id=c:=fun c=>by cases c<;>simp [CV.map]
  have hg:∀ g:GV,g.map id=g:=fun g=>by
   cases g with
   |c x=>simp [GV.map,hz]
   |g xs=>simp only [GV.map];congr 1;exact (List.map_congr_left fun c _=>hz c).trans (List.map_id _)
  cases v with
  |v x=>simp [AV.map,hg]
  |t xs=>simp only [AV.map];congr 1;exact (List.map_congr_left fun c _=>hg c).trans (List.map_id _)
 have idB:∀ b:AB,b.map' id=b:=fun b=>by
  have hz:∀ c:CV,c.map id=c:=fun c=>by cases c<;>simp [CV.map]
  cases b with
  |box t cs=>simp only [AB.map'];congr 1;exact (List.map_congr_left (fun c _=>hz c)).trans (List.map_id _)
  |arr=>rfl
  |map=>rfl
 have inT':∀ j b g,look st'.h j=some b->σ j=some g->T g.g->eI σ T [k] g.g:=fun j b g hj hg hT=>⟨hT,fun e he g' hg' hgg=>by
  rw [List.mem_singleton.1 he] at hg'
  exact (hh j b hj).2.1 (C.inj k j b0 b g' g hb0 (hh j b hj).1 hg' hg hgg).symm⟩
 refine ⟨fun i v hi=>?_,fun j b hj=>?_,fun j j' b b' g g' hj hj' hg hg' hgg=>?_,fun b h=>C.ef b h.1⟩
 ·obtain ⟨y,hy,hf⟩:=hn i v hi
  have hr:=C.eD i y hy
  rcases hf with ⟨rfl,hok⟩|⟨c,d,rfl,rfl,harg⟩
  ·have hr:ep σ T w (y.map id) (a.tmps.getD i undef):=by rw [idA];exact hr
   have h2:=ep.bY hσ hr hok
   cases y with
   |v x=>exact dk.fw (x:=x) hlow h2
   |t xs=>obtain ⟨vs,q1,q2⟩:=h2;exact ⟨vs,q1,q2.mono fun _ _ h=>h.fw hlow⟩
  ·exact cL.up (x:=d) (kf.rel C harg hr)
 ·obtain ⟨h1,h2,h3⟩:=hh j b hj
  have hkin:bh st'.h j=true:=by simp [bh,hj]
  show cZ _ _ _ (if bh st'.h j=true then σ j else none) b
  rw [if_pos hkin]
  have h4:cZ σ T w (σ j) (b.map' id):=by rw [idB];exact C.heap j b h1
  exact cZ.fw hlow (fun g hg hT=>inT' j b g hj hg hT) (cZ.bY hσ h4 h3)
 ·obtain ⟨h1,_,_⟩:=hh j b hj
  obtain ⟨h1',_,_⟩:=hh j' b' hj'
  have e1:bh st'.h j=true:=by simp [bh,hj]
  have e2:bh st'.h j'=true:=by simp [bh,hj']
  have hg:(if bh st'.h j=true then σ j else none)=some g:=hg
  have hg':(if bh st'.h j'=true then σ j' else none)=some g':=hg'
  rw [if_pos e1] at hg
  rw [if_pos e2] at hg'
  exact C.inj j j' b b' g g' h1 h1' hg hg' hgg
section
variable {P:Program} {W0:World} {N:NT} {T0:Nat->Prop} {Q:Exit->aF->Prop} {s s':List (Nat×AV)} {h h':List (Nat×AB)} {n:Nat}
theorem rv {a:Act} {w:World} (k:Nat) (hk:bh h k=true) (hs:df (fun x=>∃ y,look s x.1=some y/\xR ⟨s,h,n⟩ k (bh h') y x.2) s') (hh:df (fun x=>look h x.1=some x.2) h') (hok:h'.all (fun x=>!Nat.beq x.1 k && x.2.ok (bh h'))=true)
  (hI:Inv W0 (fun _=>False) N T0 [] ⟨s,h,n⟩ a w):Inv W0 (fun _=>False) N T0 [] ⟨s',h',n⟩ a w:=by
 obtain ⟨σ,T,hT,S,hp⟩:=hI
 obtain ⟨b0,hb0⟩:=iR hk
 have hh':∀ j b,look h' j=some b->look h j=some b/\j≠k/\b.ok (bh h')=true:=fun j b hj=>by
  have h1:=List.all_eq_true.1 hok _ (bI hj)
  simp only [Bool.and_eq_true,Bool.not_eq_true'] at h1
  exact ⟨hh.mem _ (bI hj),(fun e=>by subst e;rw [Nat.beq_refl] at h1;exact absurd h1.1 (by simp)),h1.2⟩
 have C:=S.core.freeze (st':=⟨s',h',n⟩) k (fun i v hi=>hs.mem _ (bI hi)) hh' ⟨b0,hb0⟩
 have q1:∀ b,b < W0.heap.size->(eI σ T [k] b->T0 b)/\(T0 b->eI σ T [k] b):=fun b hb=>⟨fun hb'=>(hT b hb).1 hb'.1,fun h0=>⟨(hT b hb).2 h0,fun e he g hg hgb=>by
  rw [List.mem_singleton.1 he] at hg
  rcases S.own k b0 g hb0 hg with h1|h1
  ·omega
  ·exact h1⟩⟩
 have q2:∀ j b g,look h' j=some b->(if bh h' j=true then σ j else none)=some g->W0.heap.size<=g.g\/False:=fun j b g hj hg=>by
  split at hg
  ·exact S.own j b g (hh' j b hj).1 hg
  ·cases hg
 have q3:∀ j,n<=j->(if bh h' j=true then σ j else none)=none:=fun j hj=>by
  split
  ·exact S.next j hj
  ·rfl
 exact ⟨_,_,q1,⟨C,S.os,S.tape,S.output,S.size,S.cu,q2,q3,fun j b hj=>S.hn j b (hh' j b hj).1,S.iV,S.iA⟩,fun j g hj=>by cases hj⟩
theorem kF {ops:Array Oper} {l:List Oper} (k:Nat) (hk:bh h k=true) (hs:df (fun x=>∃ y,look s x.1=some y/\xR ⟨s,h,n⟩ k (bh h') y x.2) s') (hh:df (fun x=>look h x.1=some x.2) h') (hok:h'.all (fun x=>!Nat.beq x.1 k && x.2.ok (bh h'))=true)
  (hn:AL P W0 (fun _=>False) N T0 [] ops Q l ⟨s',h',n⟩):AL P W0 (fun _=>False) N T0 [] ops Q l ⟨s,h,n⟩:=fun a w hI=>hn a w (rv k hk hs hh hok hI)
theorem Gp {c:Code} (k:Nat) (hk:bh h k=true) (hs:df (fun x=>∃ y,look s x.1=some y/\xR ⟨s,h,n⟩ k (bh h') y x.2) s') (hh:df (fun x=>look h x.1=some x.2) h') (hok:h'.all (fun x=>!Nat.beq x.1 k && x.2.ok (bh h'))=true)
  (hn:AC P W0 (fun _=>False) N T0 [] Q c ⟨s',h',n⟩):AC P W0 (fun _=>False) N T0 [] Q c ⟨s,h,n⟩:=fun a w hI=>hn a w (rv k hk hs hh hok hI)
end
end
section

section
variable {P:Program} {W0:World} {F:Nat->Prop} {N:NT} {T0:Nat->Prop} {pin:List (Nat×bK)} {Q:Exit->aF->Prop} {st:aF} {ops:Array Oper}
def AR (P:Program) (W0:World) (F:Nat->Prop) (N:NT) (T0:Nat->Prop) (pin:List (Nat×bK)) (ops:Array Oper) (Q:Exit->aF->Prop):Nat->Array Bool->aF->Prop
 |0,listed,st=>Region.ready .any ops listed=[]/\Q .normal st
 |f+1,listed,st=>Region.ready .any ops listed≠[]/\∀ i∈Region.ready .any ops listed,∀ a w,Inv W0 F N T0 pin st a w->wpOp P ops (QX W0 F N T0 pin Q) i (fun a' w'=>∃ st',AR P W0 F N T0 pin ops Q f (listed.setIfInBounds i true) st'/\Inv W0 F N T0 pin st' a' w') a w
def nQ (K:aF->Prop):Exit->aF->Prop:=fun e st'=>e=.normal/\K st'
theorem AY {o:Oper} {a:Act} {K:Act->World->Prop} {R S:Exit->Act->World->Prop} {r:Result Next} (hR:∀ e a w,e≠.normal->¬R e a w) (h:o.upon P a K R r):o.upon P a K S r:=by
 cases r with
 |ok n w'=>
  cases n<;>simp only [Oper.upon] at h ⊢<;>try exact h
  refine h.mono fun e w'' he=>?_
  cases e with
  |returned v=>exact he
  |panicked c=>exact absurd he (hR _ _ _ (fun e=>by cases e))
  |outgrown=>obtain ⟨_,_,h⟩:=he;exact absurd h (hR _ _ _ (fun e=>by cases e))
 |halt x w'=>cases x<;>simp only [Oper.upon] at h ⊢<;>first|exact h|exact absurd h (hR _ _ _ (fun e=>by cases e))
theorem AR.step {K:aF->Prop} {i:Nat} {o:Oper} (ho:ops[i]?=some o) (hal:AL P W0 F N T0 pin ops (nQ K) [o] st):∀ a w,Inv W0 F N T0 pin st a w->wpOp P ops (QX W0 F N T0 pin Q) i (fun a' w'=>∃ st',K st'/\Inv W0 F N T0 pin st' a' w') a w:=by
 intro a w hI
 have hR:∀ e a w,e≠.normal->¬QX W0 F N T0 pin (nQ K) e a w:=by
  rintro e a w he ⟨st',⟨h1,_⟩,_⟩;exact he h1
 have hN:∀ a w,QX W0 F N T0 pin (nQ K) .normal a w->∃ st',K st'/\Inv W0 F N T0 pin st' a w:=by
  rintro a w ⟨st',⟨_,h1⟩,h2⟩;exact ⟨st',h1,h2⟩
 have h:=hal a w hI
 unfold wpList at h
 unfold wpOp
 rw [ho]
 dsimp only
 split at h
 ·rename_i hw
  rw [if_pos hw]
  rcases h with h|⟨_,a1,w1,h⟩
  ·exact .inl (AY hR (ib h fun a w h=>hN a w h))
  ·exact absurd h (hR _ _ _ (fun e=>by cases e))
 ·rename_i hw
  rw [if_neg hw]
  exact hN _ _ h
theorem AR.more {f:Nat} {listed:Array Bool} {is:List Nat} (hr:Region.ready .any ops listed=is) (hne:is.isEmpty=false) (h:df (fun i=>∀ a w,Inv W0 F N T0 pin st a w->wpOp P ops (QX W0 F N T0 pin Q) i (fun a' w'=>∃ st',AR P W0 F N T0 pin ops Q f (listed.setIfInBounds i true) st'/\Inv W0 F N T0 pin st' a' w') a w) is):AR P W0 F N T0 pin ops Q (f+1) listed st:=by
 refine ⟨fun e=>?_,fun i hi=>h.mem i (hr▸hi)⟩
 rw [hr] at e;subst e;cases hne
end
end
section

def py (aO:List bF) (x:Nat) (q:Nat):Bool:=match aO[q]? with
 |some r=>(match r.dst with
  |some d=>Nat.beq d x
  |none=>false)
 |none=>false
def nL (aO:List bF) (k:Nat) (q:Nat):Bool:=match aO[q]? with
 |some r=>dN k r.E||dN k (keys r.nb)
 |none=>false
def Ec (aO:List bF) (k:Nat) (q:Nat):Bool:=match aO[q]? with
 |some r=>dN k (keys r.nb)
 |none=>false
def uk (ops:Array Oper) (n:Nat) (wr:Nat->Bool) (i:Nat):Option Nat->Bool
 |none=>(List.range n).all fun q=>Nat.beq q i||!wr q||fU ops q i
 |some j=>Nat.blt j n && fU ops i j && (List.range n).all fun q=>Nat.beq q i||Nat.beq q j||!wr q||fU ops q i||fU ops j q
def rk (ops:Array Oper) (n:Nat) (wr:Nat->Bool):Option Nat->Bool
 |none=>(List.range n).all fun q=>!wr q
 |some j=>Nat.blt j n && (List.range n).all fun q=>Nat.beq q j||!wr q||fU ops j q
def jO (aO:List bF) (pre:List Nat) (x:Nat):Option Nat:=pre.find? (py aO x)
def jw (aO:List bF) (pre:List Nat) (k:Nat):Option Nat:=pre.find? (Ec aO k)
def nd (ops:Array Oper) (aO:List bF) (N:Nat) (st fin:aF) (i:Nat) (r:bF):Bool:=
 (match ops[i]? with
  |some o=>(match o.dst,r.dst with
   |some d,some d'=>Nat.beq d d' && Nat.blt d N
   |none,none=>true
   |_,_=>false) && o.after.all (fun e=>!Region.binds .any e||Nat.blt e.on i)
  |none=>false) &&
 r.E.all (fun k=>dN k (keys r.h)) && eh (keys r.nb) &&
 r.nb.all (fun x=>Nat.blt x.1 fin.n && (dN x.1 r.E||(Nat.ble st.n x.1 && (List.range aO.length).all fun q=>Nat.beq q i||!nL aO x.1 q||fU ops q i))) &&
 r.s.all (fun x=>uk ops aO.length (py aO x.1) i (jO aO r.pre x.1)) && r.h.all (fun x=>uk ops aO.length (nL aO x.1) i (jw aO r.pre x.1))
def rS (ops:Array Oper) (aO:List bF) (N:Nat) (st fin:aF):Nat->List bF->Bool
 |_,[]=>true
 |i,r::rs=>nd ops aO N st fin i r && rS ops aO N st fin (i+1) rs
def rB (ops:Array Oper) (aO:List bF) (N:Nat) (st fin:aF) (fp:List Nat):Bool:=
 rS ops aO N st fin 0 aO && Nat.beq aO.length ops.size && Nat.ble st.n fin.n &&
 fin.s.all (fun x=>rk ops aO.length (py aO x.1) (jO aO fp x.1)) && fin.h.all (fun x=>Nat.blt x.1 fin.n && rk ops aO.length (nL aO x.1) (jw aO fp x.1))
theorem tS {ops:Array Oper} {aO:List bF} {N:Nat} {st fin:aF}:∀ {rs:List bF} {i:Nat},rS ops aO N st fin i rs=true->∀ {j:Nat} {r:bF},rs[j]?=some r->nd ops aO N st fin (i+j) r=true
 |r::rs,i,h,0,r',hr=>by simp at hr;subst hr;simp only [rS,Bool.and_eq_true] at h;exact h.1
 |r::rs,i,h,j+1,r',hr=>by
  simp only [rS,Bool.and_eq_true] at h
  have:=tS (rs:=rs) (i:=i+1) h.2 (j:=j) (by simpa using hr)
  rwa [show i+1+j=i+(j+1) by omega] at this
 |[],_,_,_,_,hr=>by simp at hr
def lG (st:aF) (aO:List bF) (x:Nat) (v:AV):Option Nat->Prop
 |none=>look st.s x=some v
 |some j=>∃ q,aO[j]?=some q/\q.dst=some x/\q.v=v
def lH (st:aF) (aO:List bF) (k:Nat) (b:AB):Option Nat->Prop
 |none=>look st.h k=some b
 |some j=>∃ q,aO[j]?=some q/\(k,b)∈q.nb
def nK (st:aF) (aO:List bF):List bF->Prop
 |[]=>True
 |r::rs=>(df (fun x=>lG st aO x.1 x.2 (jO aO r.pre x.1)) r.s/\df (fun x=>lH st aO x.1 x.2 (jw aO r.pre x.1)) r.h)/\nK st aO rs
theorem nK.get {st:aF} {aO:List bF}:∀ {rs:List bF},nK st aO rs->∀ {r:bF},r∈rs->df (fun x=>lG st aO x.1 x.2 (jO aO r.pre x.1)) r.s/\df (fun x=>lH st aO x.1 x.2 (jw aO r.pre x.1)) r.h
 |r::rs,h,r',hr=>by
  rcases List.mem_cons.1 hr with rfl|hr
  ·exact h.1
  ·exact nK.get (rs:=rs) h.2 hr
def oV (ops:Array Oper) (n:Nat):List Nat->Prop
 |[]=>True
 |j::ys=>(∀ q,q < n->fU ops j q=true->q∈ys)/\j ∉ ys/\oV ops n ys
theorem oV.wait {ops:Array Oper} {n:Nat}:∀ {d:List Nat},oV ops n d->∀ {q i:Nat},q∈d->i < n->fU ops q i=true->i∈d
 |j::ys,h,q,i,hq,hi,hw=>by
  rcases List.mem_cons.1 hq with rfl|hq
  ·exact List.mem_cons_of_mem _ (h.1 i hi hw)
  ·exact List.mem_cons_of_mem _ (h.2.2.wait hq hi hw)
theorem oV.split {ops:Array Oper} {n:Nat} {wr:Nat->Bool} {j:Nat}:∀ {d:List Nat},oV ops n d->j∈d->(∀ q∈d,q < n)->(∀ q∈d,q≠j->wr q=true->fU ops j q=true)->∃ xs ys,d=xs++j::ys/\∀ q∈xs,wr q=false
 |k::ys,h,hj,hn,hc=>by
  by_cases e:k=j
  ·subst e;exact ⟨[],ys,rfl,fun q hq=>by cases hq⟩
  ·have hj':j∈ys:=(List.mem_cons.1 hj).resolve_left (Ne.symm e)
   obtain ⟨xs,zs,h1,h2⟩:=h.2.2.split hj' (fun q hq=>hn q (List.mem_cons_of_mem _ hq)) (fun q hq=>hc q (List.mem_cons_of_mem _ hq))
   refine ⟨k::xs,zs,by rw [h1];rfl,fun q hq=>?_⟩
   rcases List.mem_cons.1 hq with rfl|hq
   ·cases hw:wr q with
    |false=>rfl
    |true=>exact absurd (h.2.2.wait hj' (hn q List.mem_cons_self) (hc q List.mem_cons_self e hw)) h.2.1
   ·exact h2 q hq
section
variable {st:aF} {aO:List bF}
theorem yZ {x q:Nat} {r:bF} (hr:aO[q]?=some r) (h:py aO x q=false):r.dst≠some x:=fun e=>by
 unfold py at h;rw [hr] at h;simp only [e] at h;rw [Nat.beq_refl] at h;cases h
theorem za {k q:Nat} {r:bF} (hr:aO[q]?=some r) (h:nL aO k q=false):k ∉ keys r.nb/\k ∉ r.E:=by
 unfold nL at h;rw [hr] at h
 simp only [Bool.or_eq_false_iff] at h
 exact ⟨fun hk=>(Bool.eq_false_iff.1 h.2) (eF.2 hk),fun hk=>(Bool.eq_false_iff.1 h.1) (eF.2 hk)⟩
theorem DQ {xs ys:List Nat} {j x:Nat} {r:bF} (hx:∀ q∈xs,py aO x q=false) (hr:aO[j]?=some r) (hd:r.dst=some x):look (eM st aO (xs++j::ys)).s x=some r.v:=by
 induction xs with
 |nil=>
  rw [List.nil_append,gL hr,hd]
  show look ((x,r.v)::(eM st aO ys).s) x=_
  rw [bD,if_pos rfl]
 |cons q xs ih=>
  have ih:=ih fun p hp=>hx p (List.mem_cons_of_mem _ hp)
  rw [List.cons_append]
  cases hq:aO[q]? with
  |none=>rw [jS hq];exact ih
  |some r'=>
   rw [gL hq]
   have hne:=yZ hq (hx q List.mem_cons_self)
   cases hd':r'.dst with
   |none=>exact ih
   |some d=>
    show look ((d,r'.v)::(eM st aO (xs++j::ys)).s) x=_
    rw [bD,if_neg (fun e=>hne (by rw [hd',e]))]
    exact ih
theorem sn {l:List (Nat×AB)} {k:Nat} (h:k ∉ keys l):look l k=none:=by
 cases hl:look l k with
 |none=>rfl
 |some b=>exact absurd (List.mem_map.2 ⟨(k,b),bI hl,rfl⟩) h
theorem DR {xs ys:List Nat} {j k:Nat} {b:AB} {r:bF} (hx:∀ q∈xs,nL aO k q=false) (hr:aO[j]?=some r) (hn:(keys r.nb).Nodup) (hb:(k,b)∈r.nb):look (eM st aO (xs++j::ys)).h k=some b:=by
 induction xs with
 |nil=>
  rw [List.nil_append,gL hr,uj]
  show look (r.nb++del r.E (eM st aO ys).h) k=_
  rw [gN,pI hn hb,Option.some_or]
 |cons q xs ih=>
  have ih:=ih fun p hp=>hx p (List.mem_cons_of_mem _ hp)
  rw [List.cons_append]
  cases hq:aO[q]? with
  |none=>rw [jS hq];exact ih
  |some r'=>
   rw [gL hq,uj]
   obtain ⟨h1,h2⟩:=za hq (hx q List.mem_cons_self)
   show look (r'.nb++del r'.E (eM st aO (xs++j::ys)).h) k=_
   rw [gN,sn h1,Option.none_or,kj h2]
   exact ih
end
theorem kx {n:Nat} {p:Nat->Bool} (h:(List.range n).all p=true) {q:Nat} (hq:q < n):p q=true:=List.all_eq_true.1 h q (List.mem_range.2 hq)
section
variable {P:Program} {W0:World} {F:Nat->Prop} {N:NT} {T0:Nat->Prop} {pin:List (Nat×bK)} {Q:Exit->aF->Prop} {st:aF}
theorem CC {id:Nat} {l:List Oper} (aO:List bF) (fin:aF) (fp:List Nat) (hm:P.follows .mixedOrders=true) (hB:rB l.toArray aO N.1 st fin fp=true) (hrows:ji P l.toArray aO l) (hsee:nK st aO aO)
  (hfin:df (fun x=>lG st aO x.1 x.2 (jO aO fp x.1)) fin.s/\df (fun x=>lH st aO x.1 x.2 (jw aO fp x.1)) fin.h) (hk:Q .normal fin):AC P W0 F N T0 pin Q (.region id l.toArray true) st:=by
 rintro a w ⟨σ0,T1,hT1,S0,hp0⟩
 unfold rB at hB
 simp only [Bool.and_eq_true] at hB
 obtain ⟨⟨⟨⟨hall,hlen⟩,hfn⟩,hfs⟩,hfh⟩:=hB
 have hlen:=Nat.eq_of_beq_eq_true hlen
 have tab:∀ i r,aO[i]?=some r->nd l.toArray aO N.1 st fin i r=true:=fun i r hr=>by have:=tS hall hr;rwa [Nat.zero_add] at this
 have nbnd:∀ (i:Nat) (r:bF),aO[i]?=some r->(keys r.nb).Nodup:=fun i r hr=>by
  have:=tab i r hr
  simp only [nd,Bool.and_eq_true] at this
  exact jC this.1.1.1.2
 have nbk:∀ (i:Nat) (r:bF) k,aO[i]?=some r->k∈keys r.nb->k < fin.n/\(k∈r.E\/(st.n<=k/\∀ q,q < aO.length->q≠i->nL aO k q=true->fU l.toArray q i=true)):=fun i r k hr hk=>by
  have:=tab i r hr
  simp only [nd,Bool.and_eq_true] at this
  obtain ⟨x,hx,rfl⟩:=List.mem_map.1 hk
  have h1:=List.all_eq_true.1 this.1.1.2 x hx
  simp only [Bool.and_eq_true,Bool.or_eq_true,Nat.blt_eq] at h1
  refine ⟨h1.1,?_⟩
  rcases h1.2 with h2|⟨h2,h3⟩
  ·exact .inl (eF.1 h2)
  ·refine .inr ⟨Nat.le_of_ble_eq_true h2,fun q hq hne hw=>?_⟩
   have h4:=kx h3 hq
   simp only [Bool.or_eq_true,Bool.not_eq_true'] at h4
   rcases h4 with (h4|h4)|h4
   ·exact absurd (Nat.eq_of_beq_eq_true h4) hne
   ·rw [hw] at h4;cases h4
   ·exact h4
 have srcOK:∀ (wr:Nat->Bool) (i:Nat) (src:Option Nat),uk l.toArray aO.length wr i src=true->∀ (done:List Nat),oV l.toArray aO.length done->(∀ q∈done,q < aO.length)->i ∉ done->i < aO.length->(∀ j,j < aO.length->fU l.toArray i j=true->j∈done)->
   (src=none/\∀ q∈done,wr q=false)\/∃ j xs ys,src=some j/\done=xs++j::ys/\∀ q∈xs,wr q=false:=by
  intro wr i src hok done hord hdn hi hilt hwait
  cases src with
  |none=>
   refine .inl ⟨rfl,fun q hq=>?_⟩
   cases hw:wr q with
   |false=>rfl
   |true=>
    have h:=kx hok (hdn q hq)
    simp only [Bool.or_eq_true,Bool.not_eq_true'] at h
    rcases h with (h|h)|h
    ·exact absurd (Nat.eq_of_beq_eq_true h▸hq) hi
    ·rw [hw] at h;cases h
    ·exact absurd (hord.wait hq hilt h) hi
  |some j=>
   simp only [uk,Bool.and_eq_true,Nat.blt_eq] at hok
   obtain ⟨⟨h1,h2⟩,h3⟩:=hok
   have hj:=hwait j h1 h2
   obtain ⟨xs,ys,h4,h5⟩:=hord.split (wr:=wr) hj hdn (fun q hq hne hw=>by
    have h:=kx h3 (hdn q hq)
    simp only [Bool.or_eq_true,Bool.not_eq_true'] at h
    rcases h with (((h|h)|h)|h)|h
    ·exact absurd (Nat.eq_of_beq_eq_true h▸hq) hi
    ·exact absurd (Nat.eq_of_beq_eq_true h) hne
    ·rw [hw] at h;cases h
    ·exact absurd (hord.wait hq hilt h) hi
    ·exact h)
   exact .inr ⟨j,xs,ys,rfl,h4,h5⟩
 have finOK:∀ (wr:Nat->Bool) (src:Option Nat),rk l.toArray aO.length wr src=true->∀ (done:List Nat),oV l.toArray aO.length done->(∀ q∈done,q < aO.length)->(∀ q,q < aO.length->q∈done)->
   (src=none/\∀ q∈done,wr q=false)\/∃ j xs ys,src=some j/\done=xs++j::ys/\∀ q∈xs,wr q=false:=by
  intro wr src hok done hord hdn hall'
  cases src with
  |none=>
   refine .inl ⟨rfl,fun q hq=>?_⟩
   have h:=kx hok (hdn q hq)
   simpa using h
  |some j=>
   simp only [rk,Bool.and_eq_true,Nat.blt_eq] at hok
   obtain ⟨h1,h3⟩:=hok
   obtain ⟨xs,ys,h4,h5⟩:=hord.split (wr:=wr) (hall' j h1) hdn (fun q hq hne hw=>by
    have h:=kx h3 (hdn q hq)
    simp only [Bool.or_eq_true,Bool.not_eq_true'] at h
    rcases h with (h|h)|h
    ·exact absurd (Nat.eq_of_beq_eq_true h) hne
    ·rw [hw] at h;cases h
    ·exact h)
   exact .inr ⟨j,xs,ys,rfl,h4,h5⟩
 have gC:∀ (done:List Nat) x v src,lG st aO x v src->((src=none/\∀ q∈done,py aO x q=false)\/∃ j xs ys,src=some j/\done=xs++j::ys/\∀ q∈xs,py aO x q=false)->look (eM st aO done).s x=some v:=by
  intro done x v src hs hc
  rcases hc with ⟨rfl,hc⟩|⟨j,xs,ys,rfl,rfl,hc⟩
  ·rw [qe fun i hi r hr=>yZ hr (hc i hi)];exact hs
  ·obtain ⟨q,h1,h2,rfl⟩:=hs
   exact DQ hc h1 h2
 have fW:∀ (done:List Nat) k b src,lH st aO k b src->((src=none/\∀ q∈done,nL aO k q=false)\/∃ j xs ys,src=some j/\done=xs++j::ys/\∀ q∈xs,nL aO k q=false)->look (eM st aO done).h k=some b:=by
  intro done k b src hs hc
  rcases hc with ⟨rfl,hc⟩|⟨j,xs,ys,rfl,rfl,hc⟩
  ·rw [kK fun i hi r hr=>za hr (hc i hi)];exact hs
  ·obtain ⟨q,h1,h2⟩:=hs
   exact DR hc h1 (nbnd j q h1) h2
 let InvD:Array Bool->Act->World->Prop:=fun listed a w=>HeadInv .any l.toArray aO.length listed/\∃ done:List Nat,(∀ i,i∈done↔i < aO.length/\listed.getD i false=true)/\oV l.toArray aO.length done/\∃ σ T,(∀ b,b < W0.heap.size->(T b->T0 b)/\(T0 b->T b))/\rV W0 F N σ T (eM st aO done) a w/\(∀ k g,look pin k=some g->σ k=some g)/\
  ∀ k,st.n<=k->(∀ i∈done,∀ r,aO[i]?=some r->k ∉ keys r.nb)->σ k=none
 have step:∀ listed a w i o,InvD listed a w->l.toArray[i]?=some o->i < aO.length->i∈Region.ready .any l.toArray listed->wpOp P l.toArray (QX W0 F N T0 pin Q) i (InvD (listed.setIfInBounds i true)) a w:=by
  rintro listed a w i o ⟨H,done,hdone,hord,σ,T,hT,S,hp,hfresh⟩ ho hi hr
  obtain ⟨r,hri⟩:∃ r,aO[i]?=some r:=⟨_,List.getElem?_eq_getElem hi⟩
  have t:=tab i r hri
  simp only [nd,Bool.and_eq_true] at t
  obtain ⟨⟨⟨⟨⟨t1,t2⟩,_⟩,_⟩,t5⟩,t6⟩:=t
  obtain ⟨hun,o',ho',hallr⟩:=mem_ready.1 hr
  have hoo:o'=o:=Option.some.inj (ho'.symm.trans ho)
  subst hoo
  rw [ho] at t1
  simp only [Bool.and_eq_true] at t1
  have hnot:i ∉ done:=fun hm=>by have:=((hdone i).1 hm).2;rw [getD_both hun] at this;cases this
  have hdst:o'.dst=r.dst/\∀ d,o'.dst=some d->d < N.1:=by
   cases h1:o'.dst with
   |none=>cases h2:r.dst with
    |none=>exact ⟨rfl,fun d h=>by cases h⟩
    |some d=>rw [h1,h2] at t1;cases t1.1
   |some d=>cases h2:r.dst with
    |none=>rw [h1,h2] at t1;cases t1.1
    |some d'=>
     rw [h1,h2] at t1
     simp only [Bool.and_eq_true,Nat.blt_eq] at t1
     obtain rfl:=Nat.eq_of_beq_eq_true t1.1.1
     exact ⟨rfl,fun d'' h=>by injection h with h;subst h;exact t1.1.2⟩
  have hdn:∀ q∈done,q < aO.length:=fun q hq=>((hdone q).1 hq).1
  have hwait:∀ j,j < aO.length->fU l.toArray i j=true->j∈done:=fun j hj hw=>(hdone j).2 ⟨hj,nM H ho hallr hw⟩
  obtain ⟨hsS,hsH⟩:=hsee.get (List.mem_of_getElem? hri)
  have hs:∀ t x,look r.st.s t=some x->look (eM st aO done).s t=some x:=fun t x hx=>
   gC done t x _ (hsS.mem (t,x) (bI hx)) (srcOK _ i _ (List.all_eq_true.1 t5 (t,x) (bI hx)) done hord hdn hnot hi hwait)
  have hh:∀ k b,look r.st.h k=some b->look (eM st aO done).h k=some b:=fun k b hb=>
   fW done k b _ (hsH.mem (k,b) (bI hb)) (srcOK _ i _ (List.all_eq_true.1 t6 (k,b) (bI hb)) done hord hdn hnot hi hwait)
  have Cr:Core σ T r.st a w:=S.core.sub hs hh
  have fin':∀ σ' T' w' u,Ext σ T w σ' T' w' r.nb r.E->ep σ' T' w' r.v u->InvD (listed.setIfInBounds i true) (a.put o'.dst u) w':=by
   intro σ' T' w' u X hv
   refine ⟨H.set hr hi,i::done,fun j=>?_,⟨hwait,hnot,hord⟩,σ',T',fun b hb=>⟨fun hb'=>(hT b hb).1 (X.grow.kQ b (Nat.lt_of_lt_of_le hb S.size) hb'),fun h0=>X.lY b ((hT b hb).2 h0)⟩,?_,fun k g hk=>X.grow.σle _ _ (hp k g hk),fun k hk hkn=>?_⟩
   ·rw [List.mem_cons]
    by_cases e:j=i
    ·subst e
     have hsz:j < listed.size:=by rw [H.size];omega
     simp [hi,hsz]
    ·rw [getD_set_ne false (Ne.symm e)]
     simp [e,hdone]
   ·rw [gL hri,hdst.1]
    refine S.step (fun e he=>?_) (fun d hd=>hdst.2 d (hdst.1▸hd)) X hv
    obtain ⟨⟨e',b⟩,hm,rfl⟩:=List.mem_map.1 (eF.1 (List.all_eq_true.1 t2 e he))
    cases hl:look r.h e' with
    |none=>exact absurd hl (jE hm)
    |some b'=>exact ⟨b',hh e' b' hl⟩
   ·rw [X.xF k fun b hb=>hkn i List.mem_cons_self r hri (List.mem_map.2 ⟨(k,b),hb,rfl⟩)]
    exact hfresh k hk fun j hj=>hkn j (List.mem_cons_of_mem _ hj)
  obtain ⟨o2,ho2,hro⟩:=hrows.get hri
  have:o2=o':=by
   have h1:l.toArray[i]?=some o2:=by simpa using ho2
   exact Option.some.inj (h1.symm.trans ho)
  subst this
  rcases hro with ⟨hw,hg⟩|⟨hw,hv,hnb,hE⟩
  ·refine qI ho (hw σ T a w Cr) (mS (ib (hg σ T a w Cr fun k b hk hkE=>?_) ?_))
   ·obtain ⟨_,h1|⟨h1,h2⟩⟩:=nbk i r k hri (List.mem_map.2 ⟨(k,b),hk,rfl⟩)
    ·exact absurd h1 hkE
    ·refine hfresh k h1 fun j hj q hq hkq=>?_
     have hne:j≠i:=fun e=>hnot (e▸hj)
     have hwq:nL aO k j=true:=by
      unfold nL;rw [hq];simp only [Bool.or_eq_true];exact .inr (eF.2 hkq)
     exact hnot (hord.wait hj hi (h2 j (hdn j hj) hne hwq))
   ·rintro a' w' ⟨u,σ',T',rfl,X,hv⟩
    exact fin' σ' T' w' u X hv
  ·refine nX ho (hw σ T a w Cr) (fin' σ T w undef ?_ ?_)
   ·rw [hnb,hE];exact Ext.same S.core.ef
   ·rw [hv];exact ⟨[],rfl,trivial⟩
 have atEnd:∀ listed a w,InvD listed a w->(∀ i,i < aO.length->listed.getD i false=true)->Inv W0 F N T0 pin fin a w:=by
  rintro listed a w ⟨H,done,hdone,hord,σ,T,hT,S,hp,hfresh⟩ hl
  have hdn:∀ q∈done,q < aO.length:=fun q hq=>((hdone q).1 hq).1
  have bL:∀ q,q < aO.length->q∈done:=fun q hq=>(hdone q).2 ⟨hq,hl q hq⟩
  have hs:∀ t x,look fin.s t=some x->look (eM st aO done).s t=some x:=fun t x hx=>
   gC done t x _ (hfin.1.mem (t,x) (bI hx)) (finOK _ _ (List.all_eq_true.1 hfs (t,x) (bI hx)) done hord hdn bL)
  have hfhx:∀ k b,look fin.h k=some b->k < fin.n/\rk l.toArray aO.length (nL aO k) (jw aO fp k)=true:=fun k b hb=>by
   have:=List.all_eq_true.1 hfh _ (bI hb)
   simpa only [Bool.and_eq_true,Nat.blt_eq] using this
  have hh:∀ k b,look fin.h k=some b->look (eM st aO done).h k=some b:=fun k b hb=>
   fW done k b _ (hfin.2.mem (k,b) (bI hb)) (finOK _ _ (hfhx k b hb).2 done hord hdn bL)
  refine ⟨σ,T,hT,⟨S.core.sub hs hh,S.os,S.tape,S.output,S.size,S.cu,fun k b g hk=>S.own k b g (hh k b hk),fun k hk=>?_,fun k b hk=>(hfhx k b hk).1,S.iV,S.iA⟩,hp⟩
  have hk1:=Nat.le_of_ble_eq_true hfn
  exact hfresh k (by omega) fun i _ r hr hkr=>by have:=(nbk i r k hr hkr).1;omega
 have main:∀ k listed a1 w1,InvD listed a1 w1->iC aO.length listed=k->wpAny P .any l.toArray (QX W0 F N T0 pin Q) k listed a1 w1:=by
  intro k
  induction k with
  |zero=>
   intro listed a1 w1 I hk'
   have hl:∀ i,i < aO.length->listed.getD i false=true:=fun i hi=>by
    have h:=List.eq_nil_of_length_eq_zero hk'
    have h2:=List.filter_eq_nil_iff.1 h i (List.mem_range.2 hi)
    simpa using h2
   have hIf:=atEnd listed a1 w1 I hl
   refine ⟨List.eq_nil_iff_forall_not_mem.2 fun i hi=>?_,fin,hk,hIf⟩
   obtain ⟨h1,o,ho,_⟩:=mem_ready.1 hi
   have hi':i < l.toArray.size:=(Array.getElem?_eq_some_iff.1 ho).1
   have:=hl i (by omega)
   rw [getD_both h1] at this;cases this
  |succ k ih=>
   intro listed a1 w1 I hk'
   have hex:∃ i,i < aO.length/\listed.getD i false=false/\∀ j,j < i->listed.getD j false=true:=by
    have h1:∃ i,i < aO.length/\listed.getD i false=false:=by
     have hne:((List.range aO.length).filter fun i=>!listed.getD i false)≠[]:=fun e=>by unfold iC at hk';rw [e] at hk';cases hk'
     obtain ⟨x,hx⟩:=List.exists_mem_of_ne_nil _ hne
     obtain ⟨hx1,hx2⟩:=List.mem_filter.1 hx
     exact ⟨x,List.mem_range.1 hx1,by simpa using hx2⟩
    obtain ⟨i,hi,hmin⟩:=exists_least h1
    refine ⟨i,hi.1,hi.2,fun j hj=>?_⟩
    cases hjl:listed.getD j false with
    |true=>rfl
    |false=>exact absurd (hmin j ⟨by omega,hjl⟩) (by omega)
   obtain ⟨i0,hi0,hun0,hlow⟩:=hex
   have hopi:∀ i,i < aO.length->∃ o,l.toArray[i]?=some o:=fun i hi=>⟨_,Array.getElem?_eq_getElem (by omega)⟩
   have bL:∀ i,i < aO.length->listed.getD i false=false->listed.getD i true=false:=fun i hi h=>getD_in (by rw [I.1.size];omega) h
   have hready:i0∈Region.ready .any l.toArray listed:=by
    obtain ⟨o,ho⟩:=hopi i0 hi0
    obtain ⟨r,hr⟩:∃ r,aO[i0]?=some r:=⟨_,List.getElem?_eq_getElem hi0⟩
    have t:=tab i0 r hr
    simp only [nd,Bool.and_eq_true] at t
    have t1:=t.1.1.1.1.1
    rw [ho] at t1
    simp only [Bool.and_eq_true] at t1
    refine mem_ready.2 ⟨bL i0 hi0 hun0,o,ho,fun e he hb=>hlow _ ?_⟩
    have h3:=Array.all_eq_true'.1 t1.2 e he
    simp only [Bool.or_eq_true,Bool.not_eq_true',Nat.blt_eq] at h3
    exact h3.resolve_left (by rw [hb];simp)
   refine ⟨fun h=>(by rw [h] at hready;cases hready),fun i hi=>?_⟩
   have hilt:i < aO.length:=by
    obtain ⟨_,o,ho,_⟩:=mem_ready.1 hi
    have hi':i < l.toArray.size:=(Array.getElem?_eq_some_iff.1 ho).1
    omega
   obtain ⟨o,ho⟩:=hopi i hilt
   refine wpOp_mono (fun a' w' I'=>ih _ a' w' I' ?_) (step listed a1 w1 i o I ho hilt hi)
   have hunl:=getD_both (mem_ready.1 hi).1
   have hset:(listed.setIfInBounds i true).getD i false=true:=by
    have:i < listed.size:=by rw [I.1.size];omega
    simp [this]
   have:=count_set (p:=fun j=>!listed.getD j false) (q:=fun j=>!(listed.setIfInBounds i true).getD j false) (i:=i) (by simp only [hunl];rfl) (by simp only [hset];rfl)
    (fun j hj=>by simp only [getD_set_ne false (Ne.symm hj)]) (List.range aO.length) List.nodup_range (List.mem_range.2 hilt)
   unfold iC at hk' ⊢
   omega
 refine wp_region_any hm ?_
 have inv0:HeadInv .any l.toArray aO.length (Array.replicate l.toArray.size false):=
  ⟨by simp,fun j oj _ hl=>(by rw [getD_replicate_false] at hl;cases hl),fun t _ ht=>getD_in (by simpa using ht) (getD_replicate_false _ _)⟩
 have hw0:rV W0 F N σ0 T1 st a {w with drawn:=w.drawn+1}:=
  ⟨S0.core.drew,S0.os,S0.tape,S0.output,S0.size,S0.cu,S0.own,S0.next,S0.hn,S0.iV,S0.iA⟩
 have I0:InvD (Array.replicate l.toArray.size false) a {w with drawn:=w.drawn+1}:=
  ⟨inv0,[],fun i=>by rw [getD_replicate_false];simp,trivial,σ0,T1,hT1,hw0,hp0,fun k hk _=>S0.next k hk⟩
 have:=main aO.length _ a _ I0 (by
  unfold iC
  rw [List.filter_eq_self.2 (fun i _=>by rw [getD_replicate_false];rfl),List.length_range])
 rw [hlen] at this
 exact this
end
end

structure ca where (aJ ax sum time:Int)
 deriving DecidableEq
structure cX where (time sum:Int)
 deriving DecidableEq
structure aW where (number kind ba sum:Int)
 deriving DecidableEq
structure Entry where (aQ sum:Int)
 deriving DecidableEq
structure an where (ax ba kind sum:Int)
 deriving DecidableEq
structure cO where (cK count sum:Int)
 deriving DecidableEq
structure cP where (err at_:Int)
 deriving DecidableEq
structure bx where (bj held:Int) (bX:cO) (cD:List cX)
 deriving DecidableEq
structure bR where (bE:Int) (kept:List aW)
 deriving DecidableEq
def rI (n:Int):List D:=[dI n]
def nO (n:Int):List D:=[.v (.int .u8 n)]
def iq (x:ca):List D:=[dI x.aJ,dI x.ax,dI x.sum,dI x.time]
def gU (x:cX):List D:=[dI x.time,dI x.sum]
def fx (x:aW):List D:=[dI x.number,dI x.kind,dI x.ba,dI x.sum]
def eC (x:Entry):List D:=[dI x.aQ,dI x.sum]
def gV (x:an):List D:=[dI x.ax,dI x.ba,dI x.kind,dI x.sum]
def ui (l:List cX):List D:=[.r 2 (l.map gU)]
theorem Ef (l:List Int):∀ row∈l.map rI,∀ d∈row,d.kC=true:=by
 intro row hr d hd
 obtain ⟨x,_,rfl⟩:=List.mem_map.1 hr
 simp [rI] at hd
 subst hd;rfl
theorem Dk (l:List Int):∀ row∈l.map nO,∀ d∈row,d.kC=true:=by
 intro row hr d hd
 obtain ⟨x,_,rfl⟩:=List.mem_map.1 hr
 simp [nO] at hd
 subst hd;rfl
theorem Bz (l:List cX):∀ row∈l.map gU,∀ d∈row,d.kC=true:=by
 intro row hr d hd
 obtain ⟨x,_,rfl⟩:=List.mem_map.1 hr
 simp [gU] at hd
 rcases hd with rfl|rfl<;>rfl
theorem tY (l:List aW):∀ row∈l.map fx,∀ d∈row,d.kC=true:=by
 intro row hr d hd
 obtain ⟨x,_,rfl⟩:=List.mem_map.1 hr
 simp [fx] at hd
 rcases hd with rfl|rfl|rfl|rfl<;>rfl
theorem yo (l:List Entry):∀ row∈l.map eC,∀ d∈row,d.kC=true:=by
 intro row hr d hd
 obtain ⟨x,_,rfl⟩:=List.mem_map.1 hr
 simp [eC] at hd
 rcases hd with rfl|rfl<;>rfl
theorem wC (l:List an):∀ row∈l.map gV,∀ d∈row,d.kC=true:=by
 intro row hr d hd
 obtain ⟨x,_,rfl⟩:=List.mem_map.1 hr
 simp [gV] at hd
 rcases hd with rfl|rfl|rfl|rfl<;>rfl
def bm (n:Int):Bool:=decide (n>=0) && decide (n<=1000000)
structure bz where (aJ ax sum captured br bd cS:Int) (shut:Bool)
 deriving DecidableEq
def iI:bz:=⟨0,0,0,0,0,0,0,false⟩
def bC (a:bz):Int:=
 if a.sum < 0\/a.sum > 1000000\/a.captured < 0\/a.captured > 1000000\/a.br < 0\/a.br > 1000000\/a.bd < 0\/a.bd > 1000000\/a.aJ < 0\/a.aJ > 7\/a.ax < 0\/a.ax > 7\/a.cS < 0\/a.cS > 1000100 then 3
 else if a.sum < a.captured\/a.captured < a.br+a.bd then 8 else 0
def de (aJ ax n time:Int):bz×Int:=
 if n < 1\/n > 1000000\/time < 0\/time > 1000000\/aJ < 0\/aJ > 7\/ax < 0\/ax > 7 then (iI,3) else (⟨aJ,ax,n,0,0,0,time+100,false⟩,0)
def bu (a:bz):Int:=if a.shut=true then 0 else a.sum - a.captured
def ei (a:bz) (t:Int):bz:=⟨a.aJ,a.ax,a.sum,a.captured,a.br,a.bd,a.cS,a.shut||decide (a.cS<=t)⟩
def dm (a:bz) (kind n:Int):bz×Int:=
 if a.shut=true then (a,9)
 else if kind=1 then (if n > 1000000 - a.sum then (a,4) else (⟨a.aJ,a.ax,a.sum+n,a.captured,a.br,a.bd,a.cS,false⟩,0))
 else if n > a.sum - a.captured then (a,10)
 else if kind=4 then (⟨a.aJ,a.ax,a.sum - n,a.captured,a.br,a.bd,a.cS,decide (a.sum - n=a.captured)⟩,0)
 else (⟨a.aJ,a.ax,a.sum,a.captured+n,a.br,a.bd,a.cS,decide (kind=3)||decide (a.captured+n=a.sum)⟩,0)
def bN (a:bz) (kind n:Int):bz×Int:=
 if bC a≠0 then (iI,bC a)
 else if kind < 1\/kind > 8 then (iI,1)
 else if n < 1\/n > 1000000 then (iI,3)
 else if kind=5 then (if n > a.captured - a.br - a.bd then (iI,10) else (⟨a.aJ,a.ax,a.sum,a.captured,a.br+n,a.bd,a.cS,a.shut⟩,0))
 else if kind=6 then (if n > a.captured - a.br - a.bd then (iI,10) else (⟨a.aJ,a.ax,a.sum,a.captured,a.br,a.bd+n,a.cS,a.shut⟩,0))
 else if kind=7 then (if n > a.bd then (iI,10) else (⟨a.aJ,a.ax,a.sum,a.captured,a.br+n,a.bd - n,a.cS,a.shut⟩,0))
 else if kind=8 then (if n > a.bd then (iI,10) else (⟨a.aJ,a.ax,a.sum,a.captured,a.br,a.bd - n,a.cS,a.shut⟩,0))
 else if (dm a kind n).2≠0 then (iI,(dm a kind n).2) else dm a kind n
theorem eN {a:bz} (h:bC a=0):0<=a.sum/\a.sum<=1000000/\0<=a.captured/\a.captured<=a.sum/\0<=a.br/\0<=a.bd/\a.br+a.bd<=a.captured/\0<=a.aJ/\a.aJ<=7/\0<=a.ax/\a.ax<=7/\0<=a.cS/\a.cS<=1000100:=by
 unfold bC at h
 split at h
 ·cases h
 ·split at h
  ·cases h
  ·omega
theorem qZ {a:bz} (h:0<=a.sum/\a.sum<=1000000/\0<=a.captured/\a.captured<=a.sum/\0<=a.br/\0<=a.bd/\a.br+a.bd<=a.captured/\0<=a.aJ/\a.aJ<=7/\0<=a.ax/\a.ax<=7/\0<=a.cS/\a.cS<=1000100):bC a=0:=by
 unfold bC
 rw [if_neg (by omega),if_neg (by omega)]
inductive jL (a:bz) (kind n:Int):bz->Prop
 |more (h:kind=1) (hs:a.shut=false) (hn:n<=1000000 - a.sum):jL a kind n ⟨a.aJ,a.ax,a.sum+n,a.captured,a.br,a.bd,a.cS,false⟩
 |take (h:kind=2\/kind=3) (hs:a.shut=false) (hn:n<=a.sum - a.captured):jL a kind n ⟨a.aJ,a.ax,a.sum,a.captured+n,a.br,a.bd,a.cS,decide (kind=3)||decide (a.captured+n=a.sum)⟩
 |less (h:kind=4) (hs:a.shut=false) (hn:n<=a.sum - a.captured):jL a kind n ⟨a.aJ,a.ax,a.sum - n,a.captured,a.br,a.bd,a.cS,decide (a.sum - n=a.captured)⟩
 |uS (h:kind=5) (hn:n<=a.captured - a.br - a.bd):jL a kind n ⟨a.aJ,a.ax,a.sum,a.captured,a.br+n,a.bd,a.cS,a.shut⟩
 |sE (h:kind=6) (hn:n<=a.captured - a.br - a.bd):jL a kind n ⟨a.aJ,a.ax,a.sum,a.captured,a.br,a.bd+n,a.cS,a.shut⟩
 |sy (h:kind=7) (hn:n<=a.bd):jL a kind n ⟨a.aJ,a.ax,a.sum,a.captured,a.br+n,a.bd - n,a.cS,a.shut⟩
 |sw (h:kind=8) (hn:n<=a.bd):jL a kind n ⟨a.aJ,a.ax,a.sum,a.captured,a.br,a.bd - n,a.cS,a.shut⟩
theorem qi {a:bz} {kind n:Int} {b:bz} {e:Int} (h:bN a kind n=(b,e)):(e≠0/\b=iI)\/(e=0/\bC a=0/\1<=n/\n<=1000000/\jL a kind n b):=by
 unfold bN at h
 split at h
 ·rename_i h1;injection h with h2 h3;exact .inl ⟨h3▸h1,h2.symm⟩
 rename_i h1
 have h1:bC a=0:=by omega
 split at h
 ·injection h with h2 h3;exact .inl ⟨by omega,h2.symm⟩
 split at h
 ·injection h with h2 h3;exact .inl ⟨by omega,h2.symm⟩
 split at h
 ·split at h
  ·injection h with h2 h3;exact .inl ⟨by omega,h2.symm⟩
  ·injection h with h2 h3;subst h2;exact .inr ⟨h3.symm,h1,by omega,by omega,.uS (by omega) (by omega)⟩
 split at h
 ·split at h
  ·injection h with h2 h3;exact .inl ⟨by omega,h2.symm⟩
  ·injection h with h2 h3;subst h2;exact .inr ⟨h3.symm,h1,by omega,by omega,.sE (by omega) (by omega)⟩
 split at h
 ·split at h
  ·injection h with h2 h3;exact .inl ⟨by omega,h2.symm⟩
  ·injection h with h2 h3;subst h2;exact .inr ⟨h3.symm,h1,by omega,by omega,.sy (by omega) (by omega)⟩
 split at h
 ·split at h
  ·injection h with h2 h3;exact .inl ⟨by omega,h2.symm⟩
  ·injection h with h2 h3;subst h2;exact .inr ⟨h3.symm,h1,by omega,by omega,.sw (by omega) (by omega)⟩
 split at h
 ·rename_i h4;injection h with h2 h3;exact .inl ⟨h3▸h4,h2.symm⟩
 ·rename_i h4
  unfold dm at h h4
  split at h
  ·rename_i h5;rw [if_pos h5] at h4;simp at h4
  rename_i h5
  rw [if_neg h5] at h4
  have h5:a.shut=false:=by simpa using h5
  split at h
  ·rename_i h6;rw [if_pos h6] at h4
   split at h
   ·rename_i h7;rw [if_pos h7] at h4;simp at h4
   ·injection h with h2 h3;subst h2;exact .inr ⟨h3.symm,h1,by omega,by omega,.more (by omega) h5 (by omega)⟩
  rename_i h6;rw [if_neg h6] at h4
  split at h
  ·rename_i h7;rw [if_pos h7] at h4;simp at h4
  split at h
  ·injection h with h2 h3;subst h2;exact .inr ⟨h3.symm,h1,by omega,by omega,.less (by omega) h5 (by omega)⟩
  ·injection h with h2 h3;subst h2;exact .inr ⟨h3.symm,h1,by omega,by omega,.take (by omega) h5 (by omega)⟩
theorem wB {a b:bz} {kind n:Int} (h:bC a=0) (h1:1<=n) (h2:n<=1000000) (hm:jL a kind n b):bC b=0:=by
 have hr:=eN h
 cases hm<;>exact qZ (by dsimp only;omega)
theorem wa {a b:bz} (h1:a.aJ=b.aJ) (h2:a.ax=b.ax) (h3:a.sum=b.sum) (h4:a.captured=b.captured) (h5:a.br=b.br) (h6:a.bd=b.bd) (h7:a.cS=b.cS) (h8:a.shut=b.shut):a=b:=by
 cases a;cases b;simp_all
theorem pG {a b:bz} {kind n:Int} (h:bN a kind n=(b,0)):bC b=0/\b.aJ=a.aJ/\b.ax=a.ax/\b.cS=a.cS/\(a.shut=true->b.shut=true)/\0<=b.sum - b.captured/\b.br+b.bd<=b.captured/\a.captured<=b.captured/\a.br<=b.br:=by
 rcases qi h with ⟨h1,_⟩|⟨_,hw,h1,h2,hm⟩
 ·exact absurd rfl h1
 have hb:=wB hw h1 h2 hm
 have hr:=eN hw
 have hrb:=eN hb
 cases hm<;>refine ⟨hb,rfl,rfl,rfl,?_⟩<;>simp_all<;>omega
theorem qw {α:Type} {l:List α} {q:Nat} {x:α} (h:l[q]?=some x):l.drop q=x::l.drop (q+1):=by
 obtain ⟨hq,rfl⟩:=List.getElem?_eq_some_iff.1 h
 exact List.drop_eq_getElem_cons hq
theorem iE {α:Type} {l:List α} {q:Nat} {x:α} (h:l[q]?=some x):l.take (q+1)=l.take q++[x]:=by
 obtain ⟨hq,rfl⟩:=List.getElem?_eq_some_iff.1 h
 exact List.take_succ_eq_append_getElem hq
structure cw where (cap:Int) (used:List Int) (aX:List ca)
 deriving DecidableEq

def gb (n:Int):Bool:=decide (0<=n/\n<=1000000)
def gr (aj:Nat) (a:ca):Bool:=
 decide (0<=a.aJ/\a.aJ < aj/\0<=a.ax/\a.ax<=7/\1<=a.sum/\a.sum<=1000000/\0<=a.time/\a.time<=1000000)
def given (k:Int):List ca->Int
 |[]=>0
 |a::l=>(if a.aJ=k then a.sum else 0)+given k l
def eR (cap:Int) (advs:List ca):Int->List Int->Int
 |_,[]=>0
 |k,n::l=>if n=given k advs/\n<=cap then eR cap advs (k+1) l else 8
def bU (s:cw):Int:=
 if 8 < s.used.length\/20 < s.aX.length then 5
 else if ¬gb s.cap then 3
 else if ¬s.aX.all (gr s.used.length) then 3
 else eR s.cap s.aX 0 s.used
def fD:cw:={cap:=0,used:=[],aX:=[]}
def dx (limit aj:Int):cw×Int:=
 if aj < 0\/8 < aj then (fD,5) else if ¬gb limit then (fD,3) else ({cap:=limit,used:=List.replicate aj.toNat 0,aX:=[]},0)
def cj (s:cw) (a:ca):cw×Int:=
 if bU s≠0 then (fD,bU s)
 else if 20<=s.aX.length then (fD,5)
 else if ¬gr s.used.length a then (fD,3)
 else if s.cap < s.used.getD a.aJ.toNat 0+a.sum then (fD,10)
 else ({cap:=s.cap,used:=s.used.set a.aJ.toNat (s.used.getD a.aJ.toNat 0+a.sum),aX:=s.aX++[a]},0)
def cW (s:cw):cw×List ca×Int:=
 if bU s≠0 then (fD,[],bU s) else ({cap:=s.cap,used:=List.replicate s.used.length 0,aX:=[]},s.aX,0)

theorem rz (k:Int) (l:List ca) (a:ca):given k (l++[a])=given k l+if a.aJ=k then a.sum else 0:=by
 induction l with
 |nil=>simp [given]
 |cons x l ih=>simp only [List.cons_append,given,ih];omega
theorem pJ (c:Nat) (k:Int) (l:List ca) (h:l.all (gr c)=true):0<=given k l/\given k l<=1000000 * l.length:=by
 induction l with
 |nil=>simp [given]
 |cons x l ih=>
  simp only [List.all_cons,Bool.and_eq_true,gr,decide_eq_true_eq] at h
  have:=ih h.2
  simp only [given,List.length_cons]
  split<;>omega
theorem Fh {α:Type} {p:α->Bool} {l:List α} {q:Nat} {x:α} (h:l[q]?=some x) (hx:p x=false):l.all p=false:=by
 rw [List.all_eq_false]
 exact ⟨x,List.mem_of_getElem? h,by simp [hx]⟩
theorem xN {α:Type} {p:α->Bool} {l:List α} {q:Nat} {x:α} (ht:(l.take q).all p=true) (h:l[q]?=some x) (hx:p x=true):(l.take (q+1)).all p=true:=by
 rw [iE h,List.all_append,ht];simp [hx]
theorem nW {s:cw} (h:8 < s.used.length\/20 < s.aX.length):bU s=5:=by unfold bU;rw [if_pos h]
theorem mw {s:cw} (h:¬(8 < s.used.length\/20 < s.aX.length)) (hc:gb s.cap=false):bU s=3:=by unfold bU;rw [if_neg h,hc];rfl
theorem jM {s:cw} (h:¬(8 < s.used.length\/20 < s.aX.length)) (hc:gb s.cap=true) (ha:s.aX.all (gr s.used.length)=false):bU s=3:=by
 unfold bU;rw [if_neg h,hc,ha];rfl
theorem gj {s:cw} (h:¬(8 < s.used.length\/20 < s.aX.length)) (hc:gb s.cap=true) (ha:s.aX.all (gr s.used.length)=true):bU s=eR s.cap s.aX 0 s.used:=by
 unfold bU;rw [if_neg h,hc,ha];rfl


theorem gP (cap:Int) (advs:List ca):∀ (l:List Int) (k:Int),eR cap advs k l=0↔∀ (i:Nat) (x:Int),l[i]?=some x->x=given (k+i) advs/\x<=cap
 |[],k=>by simp [eR]
 |n::l,k=>by
  rw [eR]
  constructor
  ·intro h i x hx
   split at h
   ·rename_i hc
    rcases i with _|i
    ·simp at hx;subst hx;simpa using hc
    ·have:=(gP cap advs l (k+1)).1 h i x (by simpa using hx)
     rw [show k+((i+1:Nat):Int)=k+1+i by omega];exact this
   ·cases h
  ·intro h
   rw [if_pos (by simpa using h 0 n rfl)]
   exact (gP cap advs l (k+1)).2 fun i x hx=>by
    have:=h (i+1) x (by simpa using hx)
    rwa [show k+((i+1:Nat):Int)=k+1+i by omega] at this
theorem pK (cap:Int) (advs:List ca):∀ (l:List Int) (k:Int),eR cap advs k l=0\/eR cap advs k l=8
 |[],_=>.inl rfl
 |n::l,k=>by
  rw [eR]
  split
  ·exact pK cap advs l (k+1)
  ·exact .inr rfl
theorem gM {s:cw} (h:bU s=0):s.used.length<=8/\s.aX.length<=20/\gb s.cap=true/\s.aX.all (gr s.used.length)=true/\eR s.cap s.aX 0 s.used=0:=by
 by_cases h1:8 < s.used.length\/20 < s.aX.length
 ·rw [nW h1] at h;omega
 ·cases hc:gb s.cap with
  |false=>rw [mw h1 hc] at h;omega
  |true=>
   cases ha:s.aX.all (gr s.used.length) with
   |false=>rw [jM h1 hc ha] at h;omega
   |true=>rw [gj h1 hc ha] at h;exact ⟨by omega,by omega,rfl,rfl,h⟩
theorem vr {s:cw} {a:ca} (h:bU s=0) (hm:s.aX.length < 20) (ha:gr s.used.length a=false) (u:List Int) (hu:u.length=s.used.length):bU {cap:=s.cap,used:=u,aX:=s.aX++[a]}=3:=by
 obtain ⟨h1,h2,h3,h4,h5⟩:=gM h
 exact jM (by simp only [List.length_append,List.length_singleton];omega) h3 (by simp [hu,ha])
theorem BF {s:cw} {a:ca} (h:bU s=0) (hm:s.aX.length < 20) (ha:gr s.used.length a=true):
  bU {cap:=s.cap,used:=s.used.set a.aJ.toNat (s.used.getD a.aJ.toNat 0+a.sum),aX:=s.aX++[a]}=if s.cap < s.used.getD a.aJ.toNat 0+a.sum then 8 else 0:=by
 obtain ⟨h1,h2,h3,h4,h5⟩:=gM h
 have hok:=ha
 simp only [gr,decide_eq_true_eq] at hok
 have hlt:a.aJ.toNat < s.used.length:=by omega
 have hgx:s.used[a.aJ.toNat]?=some s.used[a.aJ.toNat]:=List.getElem?_eq_getElem hlt
 have hgd:s.used.getD a.aJ.toNat 0=s.used[a.aJ.toNat]:=by simp [hlt]
 have hu:(s.used.set a.aJ.toNat (s.used.getD a.aJ.toNat 0+a.sum)).length=s.used.length:=List.length_set
 have h6:bU {cap:=s.cap,used:=s.used.set a.aJ.toNat (s.used.getD a.aJ.toNat 0+a.sum),aX:=s.aX++[a]}=eR s.cap (s.aX++[a]) 0 (s.used.set a.aJ.toNat (s.used.getD a.aJ.toNat 0+a.sum)):=by
  refine gj ?_ h3 ?_
  ·simp only [List.length_append,List.length_singleton,hu];omega
  ·simp only [hu,List.all_append,h4,List.all_cons,ha,List.all_nil];rfl
 rw [h6]
 have key:=(gP s.cap s.aX s.used 0).1 h5
 by_cases hc:s.cap < s.used.getD a.aJ.toNat 0+a.sum
 ·rw [if_pos hc]
  rcases pK s.cap (s.aX++[a]) (s.used.set a.aJ.toNat (s.used.getD a.aJ.toNat 0+a.sum)) 0 with h0|h0
  ·have:=(gP _ _ _ _).1 h0 a.aJ.toNat (s.used.getD a.aJ.toNat 0+a.sum) (by simp [hlt])
   omega
  ·exact h0
 ·rw [if_neg hc]
  refine (gP _ _ _ _).2 fun i x hx=>?_
  rw [List.getElem?_set] at hx
  rw [rz]
  by_cases e:a.aJ.toNat=i
  ·rw [if_pos e,if_pos (by omega)] at hx
   injection hx with hx
   have:=key i s.used[a.aJ.toNat] (by rw [<-e];exact hgx)
   rw [if_pos (by omega)]
   omega
  ·rw [if_neg e] at hx
   have:=key i x hx
   rw [if_neg (by omega)]
   omega

theorem kY {s:cw} {a:ca} (h:bU s=0) (hm:s.aX.length < 20):
  (bU {cap:=s.cap,used:=s.used.set a.aJ.toNat (s.used.getD a.aJ.toNat 0+a.sum),aX:=s.aX++[a]}=3/\cj s a=(fD,3))\/
  (bU {cap:=s.cap,used:=s.used.set a.aJ.toNat (s.used.getD a.aJ.toNat 0+a.sum),aX:=s.aX++[a]}=8/\cj s a=(fD,10))\/
  (bU {cap:=s.cap,used:=s.used.set a.aJ.toNat (s.used.getD a.aJ.toNat 0+a.sum),aX:=s.aX++[a]}=0/\
   cj s a=({cap:=s.cap,used:=s.used.set a.aJ.toNat (s.used.getD a.aJ.toNat 0+a.sum),aX:=s.aX++[a]},0)):=by
 cases ha:gr s.used.length a with
 |false=>exact .inl ⟨vr h hm ha _ List.length_set,by unfold cj;rw [if_neg (by simp [h]),if_neg (by omega),ha];rfl⟩
 |true=>
  rw [BF h hm ha]
  by_cases hc:s.cap < s.used.getD a.aJ.toNat 0+a.sum
  ·exact .inr (.inl ⟨if_pos hc,by unfold cj;rw [if_neg (by simp [h]),if_neg (by omega),if_neg (by simp [ha]),if_pos hc]⟩)
  ·exact .inr (.inr ⟨if_neg hc,by unfold cj;rw [if_neg (by simp [h]),if_neg (by omega),if_neg (by simp [ha]),if_neg hc]⟩)
theorem ql {s:cw} {a:ca} (h:bU s=0) (hm:s.aX.length < 20) (ha:¬(0<=a.aJ/\a.aJ < s.used.length/\1<=a.sum/\a.sum<=1000000)):
  bU {cap:=s.cap,used:=s.used,aX:=s.aX++[a]}=3/\cj s a=(fD,3):=by
 have ha:gr s.used.length a=false:=by simp only [gr,decide_eq_false_iff_not];omega
 exact ⟨vr h hm ha _ rfl,by unfold cj;rw [if_neg (by simp [h]),if_neg (by omega),ha];rfl⟩
theorem yr {s:cw} {a:ca} (h:bU s≠0):cj s a=(fD,bU s):=by unfold cj;rw [if_pos h]
theorem tD {s:cw} {a:ca} (h:bU s=0) (hm:s.aX.length=20):cj s a=(fD,5):=by unfold cj;rw [if_neg (by simp [h]),if_pos (by omega)]
theorem qK {s:cw} (h:bU s=0) {i:Nat} {x:Int} (hx:s.used[i]?=some x):0<=x/\x<=1000000:=by
 obtain ⟨h1,h2,h3,h4,h5⟩:=gM h
 have:=(gP s.cap s.aX s.used 0).1 h5 i x hx
 have hg:=pJ s.used.length (0+i) s.aX h4
 simp only [gb,decide_eq_true_eq] at h3
 omega

theorem tX {l c:Int} (h:c < 0\/8 < c):dx l c=(fD,5):=by unfold dx;rw [if_pos h]
theorem sm {l c:Int} (h:¬(c < 0\/8 < c)) (h':¬(0<=l/\l<=1000000)):dx l c=(fD,3):=by unfold dx;rw [if_neg h,if_pos (by simpa [gb] using h')]
theorem pH {l:Int} {c:Nat} (h:c<=8) (h':0<=l/\l<=1000000):dx l c=({cap:=l,used:=List.replicate c 0,aX:=[]},0):=by
 unfold dx;rw [if_neg (by omega),if_neg (by simpa [gb] using h')];simp

theorem yu {s:cw} {a:ca} (h:bU s=0) (hg:(cj s a).2=0):
  bU (cj s a).1=0/\(cj s a).1.cap=s.cap/\(cj s a).1.used.length=s.used.length/\(cj s a).1.aX=s.aX++[a]/\s.aX.length < 20:=by
 have hp:=gM h
 by_cases hm:s.aX.length=20
 ·rw [tD h hm] at hg;cases hg
 ·have hm:s.aX.length < 20:=by omega
  rcases kY (a:=a) h hm with ⟨_,h2⟩|⟨_,h2⟩|⟨h1,h2⟩
  ·rw [h2] at hg;cases hg
  ·rw [h2] at hg;cases hg
  ·rw [h2];exact ⟨h1,rfl,List.length_set,rfl,hm⟩
theorem th (l:Int) (n:Nat) (hn:n<=8) (h0:0<=l) (h1:l<=1000000):bU {cap:=l,used:=List.replicate n 0,aX:=[]}=0:=by
 rw [gj (by simp;omega) (by simp [gb];omega) (by simp)]
 refine (gP _ _ _ _).2 fun i x hx=>?_
 obtain ⟨_,rfl⟩:=List.getElem?_eq_some_iff.1 hx
 simp [given];omega


def iN (n:Nat) (l:List ca):List Int:=(List.range n).map fun (k:Nat)=>given (k:Int) l
theorem dj (n:Nat) (l:List ca):(iN n l).length=n:=by simp [iN]
theorem zk (n:Nat):List.replicate n 0=iN n []:=by simp [iN,given,List.map_const']
theorem sR {n:Nat} {l:List ca} {i:Nat} {x:Int} (h:(iN n l)[i]?=some x):x=given (i:Int) l:=by
 simp only [iN,List.getElem?_map,Option.map_eq_some_iff] at h
 obtain ⟨k,hk,rfl⟩:=h
 obtain ⟨h1,rfl⟩:=List.getElem?_eq_some_iff.1 hk
 simp
theorem zj {n:Nat} {l:List ca} {a:ca} {i:Nat} {v:Int} (h0:a.aJ=(i:Int)) (h1:i < n) (hv:v=given a.aJ l+a.sum):(iN n l).set i v=iN n (l++[a]):=by
 apply List.ext_getElem?
 intro j
 rw [List.getElem?_set]
 simp only [iN,List.length_map,List.length_range,List.getElem?_map,rz]
 by_cases hj:j < n
 ·rw [List.getElem?_range hj,Option.map_some,Option.map_some]
  by_cases e:i=j
  ·rw [if_pos e,if_pos h1,if_pos (by omega),hv,h0,e]
  ·rw [if_neg e,if_neg (by omega),Int.add_zero]
 ·rw [if_neg (by omega),List.getElem?_eq_none (by simpa using hj)]
  rfl
structure aE where (id kind n ax move sum:Int)
 deriving DecidableEq
structure Answer where (err ba:Int)
 deriving DecidableEq
structure bV where (ct:aW) (seen:Int)
 deriving DecidableEq
def pd (x:bx):List D:=[dI x.bj,dI x.held,dI x.bX.cK,dI x.bX.count,dI x.bX.sum,.r 2 (x.cD.map gU)]
def iO (x:bz):List D:=[dI x.aJ,dI x.ax,dI x.sum,dI x.captured,dI x.br,dI x.bd,dI x.cS,dB x.shut]
def fj (x:bV):List D:=[dI x.ct.number,dI x.ct.kind,dI x.ct.ba,dI x.ct.sum,dI x.seen]
def lf (x:Answer):List D:=[dI x.err,dI x.ba]
def cG (x:aE):List D:=[dI x.id,dI x.kind,dI x.n,dI x.ax,dI x.move,dI x.sum]
def fY (x:cO):List D:=[dI x.cK,dI x.count,dI x.sum]
def sj (x:List Int):List D:=[.r 1 (x.map nO)]
theorem zS (l:List bz):∀ row∈l.map iO,∀ d∈row,d.kC=true:=by
 intro row hr d hd
 obtain ⟨x,_,rfl⟩:=List.mem_map.1 hr
 simp only [iO,List.mem_cons,List.not_mem_nil,or_false] at hd
 rcases hd with rfl|rfl|rfl|rfl|rfl|rfl|rfl|rfl<;>rfl
theorem zR (l:List aE):∀ row∈l.map cG,∀ d∈row,d.kC=true:=by
 intro row hr d hd
 obtain ⟨x,_,rfl⟩:=List.mem_map.1 hr
 simp only [cG,List.mem_cons,List.not_mem_nil,or_false] at hd
 rcases hd with rfl|rfl|rfl|rfl|rfl|rfl<;>rfl

def fC (l:List Int):CV:=cR 1 (l.map rI)
def dL (l:List Int):AB:=.arr 3 1 (l.map rI)
def fq (l:List cX):CV:=cR 2 (l.map gU)
def EV (l:List cX):D:=.r 2 (l.map gU)
def oT (l:List cX):AB:=.arr 125 2 (l.map gU)
def gz (l:List ca):CV:=cR 4 (l.map iq)
def AK (l:List ca):AB:=.arr 107 4 (l.map iq)
def dc (l:List aW):CV:=cR 4 (l.map fx)
def xO (l:List aW):AB:=.arr 80 4 (l.map fx)
def dM (l:List Entry):CV:=cR 2 (l.map eC)
def lF (l:List Entry):AB:=.arr 115 2 (l.map eC)
def iB (l:List an):CV:=cR 4 (l.map gV)
def cH (l:List an):AB:=.arr 83 4 (l.map gV)
def zd (l:List bx):CV:=cR 6 (l.map pd)
def dR (l:List bx):AB:=.arr 61 6 (l.map pd)
def uw (l:List bz):CV:=cR 8 (l.map iO)
def dX (l:List bz):AB:=.arr 67 8 (l.map iO)
def ed (l:List bV):CV:=cR 5 (l.map fj)
def Fj (l:List bV):AB:=.arr 113 5 (l.map fj)
def zc (l:List Answer):CV:=cR 2 (l.map lf)
def Fi (l:List Answer):AB:=.arr 65 2 (l.map lf)
def qJ (l:List aE):CV:=cR 6 (l.map cG)
def Ht (l:List aE):D:=.r 6 (l.map cG)
def rU (l:List aE):AB:=.arr 27 6 (l.map cG)
def DJ (l:List Int):CV:=cR 1 (l.map nO)
def xP (l:List Int):AB:=.arr 5 1 (l.map nO)
def zb (l:List (List Int)):CV:=cR 1 (l.map sj)
def pS (l:List (List Int)):AB:=.arr 86 1 (l.map sj)

theorem fK:(Try.prog.info? 3).map (fun i=>i.size)=some 1:=by kernel_rfl
theorem Gt:(Try.prog.info? 27).map (fun i=>i.size)=some 6:=by kernel_rfl
theorem mg:(Try.prog.info? 34).map (fun i=>i.size)=some 2:=by kernel_rfl
theorem kI:(Try.prog.info? 37).map (fun i=>i.size)=some 1:=by kernel_rfl
theorem DM:(Try.prog.info? 58).map (fun i=>i.size)=some 3:=by kernel_rfl
theorem Gs:(Try.prog.info? 59).map (fun i=>i.size)=some 1:=by kernel_rfl
theorem hY:(Try.prog.info? 61).map (fun i=>i.size)=some 6:=by kernel_rfl
theorem mf:(Try.prog.info? 67).map (fun i=>i.size)=some 8:=by kernel_rfl
theorem me:(Try.prog.info? 80).map (fun i=>i.size)=some 4:=by kernel_rfl
theorem dq:(Try.prog.info? 83).map (fun i=>i.size)=some 4:=by kernel_rfl
theorem CG:(Try.prog.info? 107).map (fun i=>i.size)=some 4:=by kernel_rfl
theorem uh:(Try.prog.info? 113).map (fun i=>i.size)=some 5:=by kernel_rfl
theorem eb:(Try.prog.info? 115).map (fun i=>i.size)=some 2:=by kernel_rfl
theorem iw:(Try.prog.info? 125).map (fun i=>i.size)=some 2:=by kernel_rfl
theorem CD:(Try.prog.info? 3).bind (fun i=>i.zero)=some (.int .i64 0):=by kernel_rfl
theorem Ge:Gm Try.prog 61 [.int .i64 0,.int .i64 0,.int .i64 0,.int .i64 0,.int .i64 0,.slice none 0 0] [(0,1),(1,1),(2,3),(5,1)]:=⟨by kernel_rfl,by kernel_rfl⟩
theorem Gr:(Try.prog.info? 65).bind (fun i=>i.zero)=some (.agg #[.int .i64 0,.int .i64 0]):=by kernel_rfl
theorem Gq:(Try.prog.info? 80).bind (fun i=>i.zero)=some (.agg #[.int .i64 0,.int .i64 0,.int .i64 0,.int .i64 0]):=by kernel_rfl
theorem CE:(Try.prog.info? 115).bind (fun i=>i.zero)=some (.agg #[.int .i64 0,.int .i64 0]):=by kernel_rfl
theorem Fs:(Try.prog.info? 125).bind (fun i=>i.zero)=some (.agg #[.int .i64 0,.int .i64 0]):=by kernel_rfl
theorem FI:(Try.prog.info? 27).map (fun i=>(i.zero,i.size,i.bytes))=some (some (.agg #[.int .i64 0,.int .i64 0,.int .i64 0,.int .i64 0,.int .i64 0,.int .i64 0]),6,48):=by kernel_rfl
theorem kJ:hO Try.prog 24 27 6 48:=gm Try.underlying24 FI rfl (by decide)
theorem FF:(Try.prog.info? 61).map (fun i=>(i.zero,i.size,i.bytes))=some (some (.agg #[.int .i64 0,.int .i64 0,.int .i64 0,.int .i64 0,.int .i64 0,.slice none 0 0]),6,64):=by kernel_rfl
theorem ya:hO Try.prog 29 61 6 64:=gm Try.underlying29 FF rfl (by decide)
theorem GC:(Try.prog.info? 3).map (fun i=>(i.zero,i.size,i.bytes))=some (some (.int .i64 0),1,8):=by kernel_rfl
theorem ml:hO Try.prog 30 3 1 8:=gm Try.underlying30 GC rfl (by decide)
theorem FD:(Try.prog.info? 67).map (fun i=>(i.zero,i.size,i.bytes))=some (some (.agg #[.int .i64 0,.int .i64 0,.int .i64 0,.int .i64 0,.int .i64 0,.int .i64 0,.int .i64 0,.bool false]),8,64):=by kernel_rfl
theorem rZ:hO Try.prog 31 67 8 64:=gm Try.underlying31 FD rfl (by decide)
theorem FC:(Try.prog.info? 80).map (fun i=>(i.zero,i.size,i.bytes))=some (some (.agg #[.int .i64 0,.int .i64 0,.int .i64 0,.int .i64 0]),4,32):=by kernel_rfl
theorem uI:hO Try.prog 32 80 4 32:=gm Try.underlying32 FC rfl (by decide)
theorem Ei:(Try.prog.info? 113).map (fun i=>(i.zero,i.size,i.bytes))=some (some (.agg #[.int .i64 0,.int .i64 0,.int .i64 0,.int .i64 0,.int .i64 0]),5,40):=by kernel_rfl
theorem mj:hO Try.prog 37 113 5 40:=gm Try.underlying37 Ei rfl (by decide)
theorem Ej:(Try.prog.info? 107).map (fun i=>(i.zero,i.size,i.bytes))=some (some (.agg #[.int .i64 0,.int .i64 0,.int .i64 0,.int .i64 0]),4,32):=by kernel_rfl
theorem xZ:hO Try.prog 39 107 4 32:=gm Try.underlying39 Ej rfl (by decide)
theorem FB:(Try.prog.info? 83).map (fun i=>(i.zero,i.size,i.bytes))=some (some (.agg #[.int .i64 0,.int .i64 0,.int .i64 0,.int .i64 0]),4,32):=by kernel_rfl
theorem xY:hO Try.prog 42 83 4 32:=gm Try.underlying42 FB rfl (by decide)
theorem FA:(Try.prog.info? 86).map (fun i=>(i.zero,i.size,i.bytes))=some (some (.slice none 0 0),1,24):=by kernel_rfl
theorem DP:hO Try.prog 43 86 1 24:=gm Try.underlying43 FA rfl (by decide)
theorem Eh:(Try.prog.info? 115).map (fun i=>(i.zero,i.size,i.bytes))=some (some (.agg #[.int .i64 0,.int .i64 0]),2,16):=by kernel_rfl
theorem jP:hO Try.prog 44 115 2 16:=gm Try.underlying44 Eh rfl (by decide)
theorem FE:(Try.prog.info? 65).map (fun i=>(i.zero,i.size,i.bytes))=some (some (.agg #[.int .i64 0,.int .i64 0]),2,16):=by kernel_rfl
theorem DO:hO Try.prog 47 65 2 16:=gm Try.underlying47 FE rfl (by decide)
theorem FH:(Try.prog.info? 58).map (fun i=>(i.zero,i.size,i.bytes))=some (some (.agg #[.int .i64 0,.int .i64 0,.int .i64 0]),3,24):=by kernel_rfl
theorem Gu:hO Try.prog 53 58 3 24:=gm Try.underlying53 FH rfl (by decide)
theorem Eg:(Try.prog.info? 125).map (fun i=>(i.zero,i.size,i.bytes))=some (some (.agg #[.int .i64 0,.int .i64 0]),2,16):=by kernel_rfl
theorem od:hO Try.prog 59 125 2 16:=gm Try.underlying59 Eg rfl (by decide)
theorem GB:(Try.prog.info? 5).map (fun i=>(i.zero,i.size,i.bytes))=some (some (.int .u8 0),1,1):=by kernel_rfl
theorem uH:hO Try.prog 86 5 1 1:=gm Try.underlying86 GB rfl (by decide)
theorem FG:(Try.prog.info? 59).map (fun i=>(i.zero,i.size,i.bytes))=some (some (.slice none 0 0),1,24):=by kernel_rfl
theorem Fv:hO Try.prog 181 59 1 24:=gm Try.underlying181 FG rfl (by decide)
theorem Hj:bf Try.prog 17:=fun args w=>aY Try.func17 (by kernel_rfl) rfl args w
theorem Hi:bf Try.prog 18:=fun args w=>aY Try.func18 (by kernel_rfl) rfl args w
theorem yI:bf Try.prog 19:=fun args w=>aY Try.func19 (by kernel_rfl) rfl args w
theorem qv:bf Try.prog 20:=fun args w=>aY Try.func20 (by kernel_rfl) rfl args w
theorem vF:bf Try.prog 21:=fun args w=>aY Try.func21 (by kernel_rfl) rfl args w
theorem yH:bf Try.prog 22:=fun args w=>aY Try.func22 (by kernel_rfl) rfl args w
theorem yG:bf Try.prog 23:=fun args w=>aY Try.func23 (by kernel_rfl) rfl args w
theorem ET:bf Try.prog 24:=fun args w=>aY Try.func24 (by kernel_rfl) rfl args w
theorem ES:bf Try.prog 26:=fun args w=>aY Try.func26 (by kernel_rfl) rfl args w
theorem yF:bf Try.prog 27:=fun args w=>aY Try.func27 (by kernel_rfl) rfl args w
theorem yE:bf Try.prog 28:=fun args w=>aY Try.func28 (by kernel_rfl) rfl args w
theorem BX:bf Try.prog 29:=fun args w=>aY Try.func29 (by kernel_rfl) rfl args w
theorem yD:bf Try.prog 30:=fun args w=>aY Try.func30 (by kernel_rfl) rfl args w
theorem Hh:bf Try.prog 31:=fun args w=>aY Try.func31 (by kernel_rfl) rfl args w
theorem Hg:bf Try.prog 33:=fun args w=>aY Try.func33 (by kernel_rfl) rfl args w
theorem BW:bf Try.prog 34:=fun args w=>aY Try.func34 (by kernel_rfl) rfl args w
theorem Hf:bf Try.prog 37:=fun args w=>aY Try.func37 (by kernel_rfl) rfl args w
theorem He:bf Try.prog 40:=fun args w=>aY Try.func40 (by kernel_rfl) rfl args w
theorem Hd:bf Try.prog 41:=fun args w=>aY Try.func41 (by kernel_rfl) rfl args w
theorem Hc:bf Try.prog 42:=fun args w=>aY Try.func42 (by kernel_rfl) rfl args w
theorem BV:bf Try.prog 44:=fun args w=>aY Try.func44 (by kernel_rfl) rfl args w
theorem ER:bf Try.prog 45:=fun args w=>aY Try.func45 (by kernel_rfl) rfl args w
theorem EP:bf Try.prog 53:=fun args w=>aY Try.func53 (by kernel_rfl) rfl args w
theorem EO:bf Try.prog 54:=fun args w=>aY Try.func54 (by kernel_rfl) rfl args w
theorem EN:bf Try.prog 55:=fun args w=>aY Try.func55 (by kernel_rfl) rfl args w
theorem Hb:bf Try.prog 56:=fun args w=>aY Try.func56 (by kernel_rfl) rfl args w
theorem Ha:bf Try.prog 59:=fun args w=>aY Try.func59 (by kernel_rfl) rfl args w
theorem BU:bf Try.prog 60:=fun args w=>aY Try.func60 (by kernel_rfl) rfl args w
theorem EM:bf Try.prog 61:=fun args w=>aY Try.func61 (by kernel_rfl) rfl args w
theorem GZ:bf Try.prog 62:=fun args w=>aY Try.func62 (by kernel_rfl) rfl args w
theorem GY:bf Try.prog 63:=fun args w=>aY Try.func63 (by kernel_rfl) rfl args w
theorem GX:bf Try.prog 64:=fun args w=>aY Try.func64 (by kernel_rfl) rfl args w
theorem GW:bf Try.prog 65:=fun args w=>aY Try.func65 (by kernel_rfl) rfl args w
theorem GU:bf Try.prog 66:=fun args w=>aY Try.func66 (by kernel_rfl) rfl args w
theorem EL:bf Try.prog 67:=fun args w=>aY Try.func67 (by kernel_rfl) rfl args w
theorem GS:bf Try.prog 68:=fun args w=>aY Try.func68 (by kernel_rfl) rfl args w
theorem GR:bf Try.prog 69:=fun args w=>aY Try.func69 (by kernel_rfl) rfl args w
theorem GQ:bf Try.prog 70:=fun args w=>aY Try.func70 (by kernel_rfl) rfl args w
theorem EK:bf Try.prog 71:=fun args w=>aY Try.func71 (by kernel_rfl) rfl args w
theorem BS:bf Try.prog 72:=fun args w=>aY Try.func72 (by kernel_rfl) rfl args w
theorem jH:bf Try.prog 73:=fun args w=>aY Try.func73 (by kernel_rfl) rfl args w
theorem qu:bf Try.prog 74:=fun args w=>aY Try.func74 (by kernel_rfl) rfl args w
theorem nw:bf Try.prog 75:=fun args w=>aY Try.func75 (by kernel_rfl) rfl args w
theorem mr:bf Try.prog 76:=fun args w=>aY Try.func76 (by kernel_rfl) rfl args w
theorem fE:bf Try.prog 77:=fun args w=>aY Try.func77 (by kernel_rfl) rfl args w
theorem GP:bf Try.prog 78:=fun args w=>aY Try.func78 (by kernel_rfl) rfl args w
theorem EJ:bf Try.prog 79:=fun args w=>aY Try.func79 (by kernel_rfl) rfl args w
theorem GO:bf Try.prog 80:=fun args w=>aY Try.func80 (by kernel_rfl) rfl args w
theorem GN:bf Try.prog 81:=fun args w=>aY Try.func81 (by kernel_rfl) rfl args w
theorem yC:bf Try.prog 82:=fun args w=>aY Try.func82 (by kernel_rfl) rfl args w
theorem GM:bf Try.prog 83:=fun args w=>aY Try.func83 (by kernel_rfl) rfl args w
theorem EI:bf Try.prog 84:=fun args w=>aY Try.func84 (by kernel_rfl) rfl args w
theorem EH:bf Try.prog 85:=fun args w=>aY Try.func85 (by kernel_rfl) rfl args w
theorem EG:bf Try.prog 86:=fun args w=>aY Try.func86 (by kernel_rfl) rfl args w
theorem nv:bf Try.prog 87:=fun args w=>aY Try.func87 (by kernel_rfl) rfl args w
theorem EF:bf Try.prog 88:=fun args w=>aY Try.func88 (by kernel_rfl) rfl args w
theorem ED:bf Try.prog 89:=fun args w=>aY Try.func89 (by kernel_rfl) rfl args w
theorem GL:bf Try.prog 90:=fun args w=>aY Try.func90 (by kernel_rfl) rfl args w
theorem GK:bf Try.prog 91:=fun args w=>aY Try.func91 (by kernel_rfl) rfl args w
theorem GJ:bf Try.prog 92:=fun args w=>aY Try.func92 (by kernel_rfl) rfl args w
theorem EC:bf Try.prog 93:=fun args w=>aY Try.func93 (by kernel_rfl) rfl args w
theorem GI:bf Try.prog 94:=fun args w=>aY Try.func94 (by kernel_rfl) rfl args w
theorem EB:bf Try.prog 95:=fun args w=>aY Try.func95 (by kernel_rfl) rfl args w
theorem GH:bf Try.prog 96:=fun args w=>aY Try.func96 (by kernel_rfl) rfl args w
theorem GG:bf Try.prog 97:=fun args w=>aY Try.func97 (by kernel_rfl) rfl args w
theorem GF:bf Try.prog 98:=fun args w=>aY Try.func98 (by kernel_rfl) rfl args w
theorem EA:bf Try.prog 99:=fun args w=>aY Try.func99 (by kernel_rfl) rfl args w
theorem FY:bf Try.prog 100:=fun args w=>aY Try.func100 (by kernel_rfl) rfl args w
theorem CS:bf Try.prog 101:=fun args w=>aY Try.func101 (by kernel_rfl) rfl args w
theorem FX:bf Try.prog 102:=fun args w=>aY Try.func102 (by kernel_rfl) rfl args w
theorem CR:bf Try.prog 103:=fun args w=>aY Try.func103 (by kernel_rfl) rfl args w
theorem FW:bf Try.prog 104:=fun args w=>aY Try.func104 (by kernel_rfl) rfl args w
theorem FV:bf Try.prog 105:=fun args w=>aY Try.func105 (by kernel_rfl) rfl args w
theorem CQ:bf Try.prog 106:=fun args w=>aY Try.func106 (by kernel_rfl) rfl args w
theorem FU:bf Try.prog 107:=fun args w=>aY Try.func107 (by kernel_rfl) rfl args w
theorem CP:bf Try.prog 108:=fun args w=>aY Try.func108 (by kernel_rfl) rfl args w
theorem CO:bf Try.prog 109:=fun args w=>aY Try.func109 (by kernel_rfl) rfl args w
theorem yJ:bf Try.prog 110:=fun args w=>aY Try.func110 (by kernel_rfl) rfl args w
theorem FT:bf Try.prog 111:=fun args w=>aY Try.func111 (by kernel_rfl) rfl args w
theorem CN:bf Try.prog 112:=fun args w=>aY Try.func112 (by kernel_rfl) rfl args w
theorem FR:bf Try.prog 113:=fun args w=>aY Try.func113 (by kernel_rfl) rfl args w
theorem CM:bf Try.prog 114:=fun args w=>aY Try.func114 (by kernel_rfl) rfl args w
theorem FQ:bf Try.prog 115:=fun args w=>aY Try.func115 (by kernel_rfl) rfl args w
theorem FP:bf Try.prog 116:=fun args w=>aY Try.func116 (by kernel_rfl) rfl args w
theorem FO:bf Try.prog 117:=fun args w=>aY Try.func117 (by kernel_rfl) rfl args w
theorem FN:bf Try.prog 118:=fun args w=>aY Try.func118 (by kernel_rfl) rfl args w
theorem FM:bf Try.prog 119:=fun args w=>aY Try.func119 (by kernel_rfl) rfl args w
theorem FL:bf Try.prog 120:=fun args w=>aY Try.func120 (by kernel_rfl) rfl args w
theorem FK:bf Try.prog 121:=fun args w=>aY Try.func121 (by kernel_rfl) rfl args w
theorem um:bf Try.prog 122:=fun args w=>aY Try.func122 (by kernel_rfl) rfl args w
theorem FJ:bf Try.prog 123:=fun args w=>aY Try.func123 (by kernel_rfl) rfl args w
theorem mixed:Try.prog.follows .mixedOrders=true:=by kernel_rfl
theorem pe {P:Program} {st:aF} {o:Oper} {t e bytes n:Nat} {x y:Operand} {i j:Int} (k:Nat) (hT:hO P t e 1 bytes) (hz:(P.info? e).bind (fun i=>i.zero)=some (.int .i64 0)) (ho:o.op=.makeSlice t x y) (hx:ev st x (.v (.c (.d (.v (.int .i64 i)))))) (hy:ev st y (.v (.c (.d (.v (.int .i64 j))))))
    (hi:i=n) (hj:j=n) (hb:bytes * n<=281474976710656) (h63:n<=9223372036854775807):aK P o st (.v (.c (.s k 0 1 n))) [(k,.arr e 1 ((List.replicate n 0).map rI))] []:=by
  have h:=Ep k hT hz rfl rfl ho hx hy hi hj hb h63
  have e1:List.replicate n [D.v (.int .i64 0)]=(List.replicate n (0:Int)).map rI:=by rw [List.map_replicate];rfl
  rw [e1] at h
  exact h
section

def mV (ps:List (Int×Int)):List (Int×Value):=ps.map fun p=>(p.1,.int .i64 p.2)
section
variable {P:Program} {st:aF} {o:Oper}
theorem Af {t:TypeId} (k:Nat) (ho:o.op=.makeMap t none):aK P o st (.v (.c (.m k))) [(k,.map (mV []) 0)] []:=
 aK.new (P:=P) fun σ T ac w C hk=>by
  refine ⟨.map (some w.heap.size),.map #[] 0,0,?_,⟨⟨w.heap.size,0⟩,#[],rfl,.inr rfl,heap_alloc_new w _,rfl⟩,⟨_,fR _ _ _,rfl⟩⟩
  unfold execOp
  simp only [ho,Option.map_none,Sem.run_bind,(show ∀ t w,(Instr.makeMap t none).run P w=.ok (.map (some w.heap.size)) (w.alloc (.map #[] 0)) from fun _ _=>rfl),Result.andThen_ok]
  rfl
end
end
end Go.Proofs.Ytegepioggeggaaa.Dev
