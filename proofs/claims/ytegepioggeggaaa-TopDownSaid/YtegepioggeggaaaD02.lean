/- A part of the proof: Sh12, Opn, Sh13, Sh14, Sh15, Dat, PlAuth, PlStand, Dat2, Abb. No condition. -/
import Derived.Test.YtegepioggeggaaaD01
import Derived.Lib.SmallJoins
set_option linter.unusedVariables false
set_option linter.unusedSimpArgs false
namespace Go.Proofs.Ytegepioggeggaaa.Dev
open Go.RowKit
open Go.RowKit Go.ChangeShapes Go.WideShapes Go.Deep Go.Joins
section

section
variable {P:Program} {st:aF} {o:Oper}
theorem cK.fo {σ:Nat->Option bM} {T T':Nat->Prop} {w:World} (h:∀ b,T' b->T b) {x:CV} {v:Value} (hx:cK σ T w x v):cK σ T' w x v:=by
 cases x with
 |any=>trivial
 |d x=>exact bp.fo h hx
 |p k i K o=>exact hx
 |q row o=>
  obtain ⟨b,off,h1,h2,h3,h4⟩:=hx
  refine ⟨b,off,h1,h2,fun hb=>h3 (h b hb),fun j d hj=>?_⟩
  obtain ⟨u,hu,hr⟩:=h4 j d hj
  exact ⟨u,hu,hr.fo h⟩
 |s k i K n=>exact hx
 |sx k i K n c e=>exact hx
 |m k=>exact hx
 |fn f aT=>exact hx
theorem dc.fo {σ:Nat->Option bM} {T T':Nat->Prop} {w:World} (h:∀ b,T' b->T b) {x:GV} {v:Value} (hx:dc σ T w x v):dc σ T' w x v:=by
 cases x with
 |c x=>exact cK.fo h (x:=x) hx
 |g xs=>obtain ⟨vs,h1,h2⟩:=hx;exact ⟨vs,h1,h2.mono fun _ _ hh=>hh.fo h⟩
theorem da.fo {σ:Nat->Option bM} {T T':Nat->Prop} {w:World} (h:∀ b,T' b->T b) {og:Option bM} (bL:∀ g,og=some g->T g.g->T' g.g) {b:AB} (hx:da σ T w og b):da σ T' w og b:=by
 cases b with
 |box t cs=>obtain ⟨g,vs,h1,h2,h3,h4⟩:=hx;exact ⟨g,vs,h1,bL g h1 h2,h3,h4.mono fun _ _ hh=>hh.fo h⟩
 |arr t K rows=>
  refine ⟨hx.1,?_⟩
  rcases hx.2 with h1|⟨g,vs,h1,h2,h3,h4,h5,h6⟩
  ·exact .inl h1
  ·exact .inr ⟨g,vs,h1,bL g h1 h2,h3,h4,h5,h6.1,fun i row hi=>⟨(h6.2 i row hi).1,fun j d hj=>by
    obtain ⟨u,hu,hr⟩:=(h6.2 i row hi).2 j d hj
    exact ⟨u,hu,hr.fo h⟩⟩⟩
 |map es cl=>obtain ⟨g,ms,h1,h2,h3⟩:=hx;exact ⟨g,ms,h1,bL g h1 h2,h3⟩
theorem cK.up {σ : Nat → Option bM} {T : Nat → Prop} {w : World} {x : CV} {v : Value} (hx : cK (fun _ => none) T w x v) : cK σ T w x v := by
  cases x with
  | any => trivial
  | d x => exact hx
  | p k i K o => obtain ⟨g, h, _⟩ := hx; cases h
  | q row o => exact hx
  | s k i K n => rcases hx with h | ⟨g, h, _⟩
                 · exact .inl h
                 · cases h
  | sx k i K n c e => obtain ⟨g, off, h, _⟩ := hx; cases h
  | m k => obtain ⟨g, h, _⟩ := hx; cases h
  | fn f aT =>
    obtain ⟨gs, h1, h2⟩ := hx
    cases aT with
    | nil => cases gs with
      | nil => exact ⟨[], rfl, h2⟩
      | cons => cases h1
    | cons => cases gs with
      | nil => cases h1
      | cons => rw [List.map_cons, List.map_cons, List.cons.injEq] at h1; cases h1.1
theorem dc.up {σ:Nat->Option bM} {T:Nat->Prop} {w:World} {x:GV} {v:Value} (hx:dc (fun _=>none) T w x v):dc σ T w x v:=by
 cases x with
 |c x=>exact cK.up (x:=x) hx
 |g xs=>obtain ⟨vs,h1,h2⟩:=hx;exact ⟨vs,h1,h2.mono fun _ _ hh=>hh.up⟩
def Gs (st:aF) (E:List Nat) (ρ:Nat->Nat) (p:Nat->Bool) (g y:GV):Prop:=(g=y.map ρ/\y.ok p=true)\/su st E g y
def pO (st:aF) (E:List Nat) (ρ:Nat->Nat) (p:Nat->Bool):List Operand->List GV->Prop
 |[],[]=>True
 |x::xs,y::ys=>(∃ g,ev st x (.v g)/\Gs st E ρ p g y)/\pO st E ρ p xs ys
 |_,_=>False
def nz (h:List (Nat×AB)) (k:Nat):Bool:=match look h k with|some (.box _ _)=>true|_=>false
def pn (h:List (Nat×AB)) (k:Nat):Prop:=nz h k=true\/∃ t K rows,look h k=some (.arr t K rows)/\0 < rows.length
theorem sV {h:List (Nat×AB)} {cD:List Nat} (hk:cD.all (fun k=>nz h k)=true):∀ k∈cD,pn h k:=fun k hm=>.inl (List.all_eq_true.1 hk k hm)
theorem lJ {l:List Nat} {ρ:Nat->Nat} (h:eb (l.map ρ)=true):∀ k k',k∈l->k'∈l->ρ k=ρ k'->k=k':=by
 induction l with
 |nil=>intro _ _ h;cases h
 |cons j l ih=>
  simp only [List.map_cons,eb,Bool.and_eq_true,Bool.not_eq_true',List.any_eq_false] at h
  have far:∀ k,k∈l->ρ j≠ρ k:=fun k hm e=>h.1 (ρ k) (List.mem_map.2 ⟨k,hm,rfl⟩) (by rw [e];exact Nat.beq_refl _)
  intro k k' hk hk' he
  rcases List.mem_cons.1 hk with rfl|h1
  ·rcases List.mem_cons.1 hk' with h2|h2
   ·exact h2.symm
   ·exact absurd he (far _ h2)
  ·rcases List.mem_cons.1 hk' with rfl|h2
   ·exact absurd he.symm (far _ h1)
   ·exact ih h.2 k k' h1 h2 he
def pull (μ:Nat->Nat) (σ' σ:Nat->Option bM):List Nat->Nat->Option bM
 |[],j=>σ j
 |k::l,j=>if μ k=j then σ' k else pull μ σ' σ l j
theorem ng {μ:Nat->Nat} {σ' σ:Nat->Option bM} {l:List Nat} (hi:∀ k k',k∈l->k'∈l->μ k=μ k'->k=k') {k:Nat} (hk:k∈l):pull μ σ' σ l (μ k)=σ' k:=by
 induction l with
 |nil=>cases hk
 |cons j l ih=>
  show (if μ j=μ k then σ' j else pull μ σ' σ l (μ k))=σ' k
  by_cases e:μ j=μ k
  ·rw [if_pos e,hi j k List.mem_cons_self hk e]
  ·rw [if_neg e]
   exact ih (fun a b ha hb=>hi a b (List.mem_cons_of_mem _ ha) (List.mem_cons_of_mem _ hb)) ((List.mem_cons.1 hk).resolve_left fun h=>e (by rw [h]))
theorem lG {μ:Nat->Nat} {σ' σ:Nat->Option bM} {l:List Nat} {j:Nat} (h:∀ k∈l,μ k≠j):pull μ σ' σ l j=σ j:=by
 induction l with
 |nil=>rfl
 |cons k l ih=>
  show (if μ k=j then σ' k else pull μ σ' σ l j)=σ j
  rw [if_neg (h k List.mem_cons_self)]
  exact ih fun k hk=>h k (List.mem_cons_of_mem _ hk)
theorem lj {f:FuncId} {c:Call} {ins:List GV} {bL:List (Nat×AB)} {cD:List Nat} {av av':AV} {nb nb':List (Nat×AB)} {EE:List Nat} {p:D->Prop} (ρ μ:Nat->Nat) (E:List Nat) (hF:cz P f ins bL cD av nb) (hen:bc P f) (ho:o.op=.call c) (hc:c.callee=.value (.func f))
  (hargs:pO st E ρ (bh bL) c.args.toList ins) (hheap:df (fun x=>look st.h (ρ x.1)=some (x.2.map' ρ)) bL) (hokin:bL.all (fun x=>x.2.ok (bh bL))=true) (hinj:eb ((keys bL).map ρ)=true) (hE:bL.all (fun x=>!dC (ρ x.1) E)=true) (hEl:E.all (fun e=>bh st.h e)=true)
  (hkeep:∀ k∈cD,pn bL k) (hEE:(keys bL).map ρ=EE) (hμ:eb ((keys nb).map μ)=true) (hμk:(keys nb).all (fun k=>(dC k cD && Nat.beq (μ k) (ρ k))||(!dC k cD && !dC (μ k) EE))=true)
  (hg:av.dV p) (hgb:df (fun x=>x.2.dV p) nb) (hok:av.ok (bh nb)=true) (hokb:nb.all (fun x=>x.2.ok (bh nb))=true) (hav:av.map μ=av') (hnb:fD μ nb=nb')
  (hD:∀ (σ:Nat->Option bM) (T Tc T':Nat->Prop) (w':World) d v,(∀ b,T' b->T b\/Tc b)->(∀ b,fg σ T E b->Tc b)->p d->bp Tc w' d v->bp T' w' d v):aH P o st av' nb' EE:=by
 intro σ T a w C hnew
 subst hav hnb hEE
 have hinj':=lJ hinj
 have hin_mem:∀ k,bh bL k=true->k∈keys bL:=fun k hk=>by
  obtain ⟨b,hb⟩:=gf hk
  exact List.mem_map.2 ⟨(k,b),hb,rfl⟩
 have mem_in:∀ k,k∈keys bL->bh bL k=true:=fun k hk=>by
  obtain ⟨x,hx,rfl⟩:=List.mem_map.1 hk
  exact cO (b:=x.2) hx
 let σc:Nat->Option bM:=fun k=>if bh bL k=true then σ (ρ k) else none
 have hσc:∀ k,bh bL k=true->σc k=σ (ρ k):=fun k hk=>if_pos hk
 let Tc:=fg σ T E
 have hlow:∀ b,Tc b->T b:=fun b h=>h.1
 have hsep:∀ k b g,(k,b)∈bL->σ (ρ k)=some g->Tc g.g:=by
  intro k b g hk hg
  refine ⟨(C.heap _ _ (hheap.mem _ hk)).nM hg,fun e he g' hg' hgg=>?_⟩
  obtain ⟨b',hb'⟩:=gf (List.all_eq_true.1 hEl e he)
  have hb':∃ b',look st.h e=some b':=by
   have:=List.all_eq_true.1 hEl e he
   cases hl:look st.h e with
   |none=>simp [bh,hl] at this
   |some b'=>exact ⟨b',rfl⟩
  obtain ⟨b',hb'⟩:=hb'
  have heq:=C.inj e (ρ k) b' _ g' g hb' (hheap.mem _ hk) hg' hg hgg
  have:=List.all_eq_true.1 hE _ hk
  simp only [Bool.not_eq_true'] at this
  rw [<-heq,eA.2 he] at this
  cases this
 have hh:∀ k b,(k,b)∈bL->da σc Tc w (σc k) b:=by
  intro k b hk
  have hkin:=cO hk
  rw [hσc k hkin]
  refine da.fo hlow (fun g hg _=>hsep k b g hk hg) ?_
  exact da.bZ (ρ:=ρ) hσc (C.heap _ _ (hheap.mem _ hk)) (List.all_eq_true.1 hokin _ hk)
 have hij:∀ k k' b b' g g',(k,b)∈bL->(k',b')∈bL->σc k=some g->σc k'=some g'->g.g=g'.g->k=k':=by
  intro k k' b b' g g' hk hk' hg hg' hgg
  rw [hσc k (cO hk)] at hg
  rw [hσc k' (cO hk')] at hg'
  exact hinj' k k' (hin_mem _ (cO hk)) (hin_mem _ (cO hk')) (C.inj _ _ _ _ g g' (hheap.mem _ hk) (hheap.mem _ hk') hg hg' hgg)
 have hkp:∀ k∈cD,bh bL k=true/\∃ g,σ (ρ k)=some g:=by
  intro k hk
  rcases hkeep k hk with this|⟨t,K,rows,hl,hpos⟩
  ·unfold nz at this
   cases hl:look bL k with
   |none=>simp [hl] at this
   |some b=>
    cases b with
    |box t cs=>
     refine ⟨by simp [bh,hl],?_⟩
     obtain ⟨g,_,h1,_⟩:=C.heap _ _ (hheap.mem _ (bH hl))
     exact ⟨g,h1⟩
    |arr=>simp [hl] at this
    |map=>simp [hl] at this
  ·refine ⟨by simp [bh,hl],?_⟩
   obtain ⟨_,h1|⟨g,_,h1,_⟩⟩:=C.heap _ _ (hheap.mem _ (bH hl))
   ·obtain ⟨h1,_⟩:=h1
    rw [h1] at hpos;cases hpos
   ·exact ⟨g,h1⟩
 have hrel:ch (dc σc Tc w) ins (c.args.map a.eval).toList:=by
  rw [Array.toList_map]
  have gen:∀ (xs:List Operand) (ys:List GV),pO st E ρ (bh bL) xs ys->ch (dc σc Tc w) ys (xs.map a.eval):=by
   intro xs
   induction xs with
   |nil=>intro ys h;cases ys with
    |nil=>trivial
    |cons=>exact h.elim
   |cons x xs ih=>
    intro ys h
    cases ys with
    |nil=>exact h.elim
    |cons y ys=>
     refine ⟨?_,ih ys h.2⟩
     obtain ⟨g,h1,h2|h2⟩:=h.1
     ·obtain ⟨h2,h3⟩:=h2
      subst h2
      exact dc.fo hlow (dc.bZ (ρ:=ρ) hσc (x:=y) (bK C h1) h3)
     ·exact dc.up (h2.rel C (bK C h1))
  exact gen _ _ hargs
 refine mw ho hc hen ((hF Tc σc w _ (fun b h=>C.en b h.1) hh hij (fun k hk=>?_) hrel).mono ?_)
 ·obtain ⟨h1,g,h2⟩:=hkp k hk
  exact ⟨g,by rw [hσc k h1,h2]⟩
 rintro e w' ⟨v,σ',T',rfl,R⟩
 let T2:Nat->Prop:=fun b=>T b\/T' b
 let σ2:=pull μ σ' σ (keys nb)
 have hμ':=lJ hμ
 have hσ2:∀ k,bh nb k=true->σ2 (μ k)=σ' k:=fun k hk=>by
  obtain ⟨b,hb⟩:=gf hk
  exact ng hμ' (List.mem_map.2 ⟨(k,b),hb,rfl⟩)
 have hD':∀ d v,p d->bp T' w' d v->bp T2 w' d v:=fun d v=>hD σ T T' T2 w' d v (fun b h=>h) R.lS
 have hmem:∀ k b,(k,b)∈fD μ nb->∃ k0 b0,(k0,b0)∈nb/\k=μ k0/\b=b0.map' μ:=by
  intro k b h
  obtain ⟨⟨k0,b0⟩,h1,h2⟩:=List.mem_map.1 h
  injection h2 with h2 h3
  exact ⟨k0,b0,h1,h2.symm,h3.symm⟩
 have hcase:∀ k∈keys nb,(k∈cD/\μ k=ρ k)\/(k ∉ cD/\μ k ∉ (keys bL).map ρ):=by
  intro k hk
  have:=List.all_eq_true.1 hμk k hk
  simp only [Bool.or_eq_true,Bool.and_eq_true,Bool.not_eq_true'] at this
  rcases this with ⟨h1,h2⟩|⟨h1,h2⟩
  ·exact .inl ⟨eA.1 h1,Nat.eq_of_beq_eq_true h2⟩
  ·exact .inr ⟨fun h=>(Bool.eq_false_iff.1 h1) (eA.2 h),fun h=>(Bool.eq_false_iff.1 h2) (eA.2 h)⟩
 have C2:∀ b,(∃ k∈(keys bL).map ρ,∃ g,σ k=some g/\g.g=b)↔∃ k∈keys bL,∃ g,σc k=some g/\g.g=b:=by
  intro b
  constructor
  ·rintro ⟨k,hk,g,hg,hgb⟩
   obtain ⟨k0,hk0,rfl⟩:=List.mem_map.1 hk
   exact ⟨k0,hk0,g,by rw [hσc k0 (mem_in k0 hk0)];exact hg,hgb⟩
  ·rintro ⟨k,hk,g,hg,hgb⟩
   rw [hσc k (mem_in k hk)] at hg
   exact ⟨ρ k,List.mem_map.2 ⟨k,hk,rfl⟩,g,hg,hgb⟩
 refine ⟨v,rfl,v,σ2,T2,rfl,⟨R.os,R.tape,R.output,⟨R.size,fun b hb hno=>R.cx b hb fun k hk g hg hgb=>hno ((C2 b).2 ⟨k,hk,g,hg,hgb⟩),fun b hb=>?_,fun b hb h=>?_,fun j g hj=>?_⟩,fun b h=>.inl h,fun b h=>?_,fun j hj=>?_,?_,?_,?_⟩,R.rel.back hD' hσ2 hg hok⟩
 ·obtain ⟨k,hk,g,hg,rfl⟩:=hb
  obtain ⟨k0,hk0,rfl⟩:=List.mem_map.1 hk
  obtain ⟨x,hx,rfl⟩:=List.mem_map.1 hk0
  exact (C.heap _ _ (hheap.mem x hx)).nM hg
 ·rcases h with h|h
  ·exact h
  ·exact (R.kH b hb h).1
 ·show pull μ σ' σ (keys nb) j=some g
  by_cases hex:∃ k∈keys nb,μ k=j
  ·obtain ⟨k,hk,rfl⟩:=hex
   rw [ng hμ' hk]
   rcases hcase k hk with ⟨h1,h2⟩|⟨h1,h2⟩
   ·rw [R.kept k h1,hσc k (hkp k h1).1,<-h2];exact hj
   ·obtain ⟨x,hx,rfl⟩:=List.mem_map.1 hk
    have:=hnew (μ x.1) (x.2.map' μ) (List.mem_map.2 ⟨x,hx,rfl⟩) h2
    rw [this] at hj;cases hj
  ·rw [lG fun k hk e=>hex ⟨k,hk,e⟩];exact hj
 ·rcases h with h|h
  ·exact Nat.lt_of_lt_of_le (C.en b h) R.size
  ·exact R.en b h
 ·exact lG fun k hk e=>by
   obtain ⟨x,hx,rfl⟩:=List.mem_map.1 hk
   exact hj (x.2.map' μ) (List.mem_map.2 ⟨x,hx,by rw [e]⟩)
 ·intro k b h
  obtain ⟨k0,b0,h1,rfl,rfl⟩:=hmem k b h
  rw [hσ2 k0 (cO h1)]
  exact (R.heap k0 b0 h1).back hD' hσ2 (fun b h=>.inr h) (hgb.mem _ h1) (List.all_eq_true.1 hokb _ h1)
 ·intro k b g h hg
  obtain ⟨k0,b0,h1,rfl,rfl⟩:=hmem k b h
  rw [hσ2 k0 (cO h1)] at hg
  rcases R.fresh k0 b0 g h1 hg with h2|⟨e,he,g',hg',hgg⟩
  ·exact .inl h2
  ·exact .inr ((C2 g.g).2 ⟨e,he,g',hg',hgg⟩)
 ·intro k k' b b' g g' h h' hg hg' hgg
  obtain ⟨k0,b0,h1,rfl,rfl⟩:=hmem k b h
  obtain ⟨k1,b1,h2,rfl,rfl⟩:=hmem k' b' h'
  rw [hσ2 k0 (cO h1)] at hg
  rw [hσ2 k1 (cO h2)] at hg'
  rw [R.inj k0 k1 b0 b1 g g' h1 h2 hg hg' hgg]
theorem cA {f:FuncId} {c:Call} {ins:List GV} {bL:List (Nat×AB)} {cD:List Nat} {av av':AV} {nb nb':List (Nat×AB)} {EE:List Nat} (ρ μ:Nat->Nat) (hF:cz P f ins bL cD av nb) (hen:bc P f) (ho:o.op=.call c) (hc:c.callee=.value (.func f))
  (hargs:pO st [] ρ (bh bL) c.args.toList ins) (hheap:df (fun x=>look st.h (ρ x.1)=some (x.2.map' ρ)) bL) (hokin:bL.all (fun x=>x.2.ok (bh bL))=true) (hinj:eb ((keys bL).map ρ)=true)
  (hkeep:cD.all (fun k=>nz bL k)=true) (hEE:(keys bL).map ρ=EE) (hμ:eb ((keys nb).map μ)=true) (hμk:(keys nb).all (fun k=>(dC k cD && Nat.beq (μ k) (ρ k))||(!dC k cD && !dC (μ k) EE))=true)
  (hg:av.dV (fun _=>True)) (hgb:df (fun x=>x.2.dV fun _=>True) nb) (hok:av.ok (bh nb)=true) (hokb:nb.all (fun x=>x.2.ok (bh nb))=true) (hav:av.map μ=av') (hnb:fD μ nb=nb'):aH P o st av' nb' EE:=
 lj ρ μ [] hF hen ho hc hargs hheap hokin hinj (by simp [dC]) rfl (sV hkeep) hEE hμ hμk hg hgb hok hokb hav hnb fun σ T Tc T' w' d v h1 h2 _ h=>h.fo fun b hb=>by
  rcases h1 b hb with h|h
  ·exact h2 b ⟨h,fun k hk=>by cases hk⟩
  ·exact h
theorem uX {f:FuncId} {c:Call} {ins:List GV} {bL:List (Nat×AB)} {cD:List Nat} {av av':AV} {nb nb':List (Nat×AB)} {EE:List Nat} (ρ μ:Nat->Nat) (E:List Nat) (hF:cz P f ins bL cD av nb) (hen:bc P f) (ho:o.op=.call c) (hc:c.callee=.value (.func f))
  (hargs:pO st E ρ (bh bL) c.args.toList ins) (hheap:df (fun x=>look st.h (ρ x.1)=some (x.2.map' ρ)) bL) (hokin:bL.all (fun x=>x.2.ok (bh bL))=true) (hinj:eb ((keys bL).map ρ)=true) (hE:bL.all (fun x=>!dC (ρ x.1) E)=true) (hEl:E.all (fun e=>bh st.h e)=true)
  (hkeep:cD.all (fun k=>nz bL k)=true) (hEE:(keys bL).map ρ=EE) (hμ:eb ((keys nb).map μ)=true) (hμk:(keys nb).all (fun k=>(dC k cD && Nat.beq (μ k) (ρ k))||(!dC k cD && !dC (μ k) EE))=true)
  (hg:av.dV (fun d=>d.mE=true)) (hgb:df (fun x=>x.2.dV fun d=>d.mE=true) nb) (hok:av.ok (bh nb)=true) (hokb:nb.all (fun x=>x.2.ok (bh nb))=true) (hav:av.map μ=av') (hnb:fD μ nb=nb'):aH P o st av' nb' EE:=
 lj ρ μ E hF hen ho hc hargs hheap hokin hinj hE hEl (sV hkeep) hEE hμ hμk hg hgb hok hokb hav hnb fun σ T Tc T' w' d v h1 h2 hp h=>by
  cases d with
  |v x=>cases h;exact .v _ (by assumption)
  |r=>cases hp
  |f=>cases hp
theorem dH {f:FuncId} {c:Call} {ins:List GV} {bL:List (Nat×AB)} {cD:List Nat} {av av':AV} {nb nb':List (Nat×AB)} {EE:List Nat} (ρ μ:Nat->Nat) (hF:cz P f ins bL cD av nb) (hen:bc P f) (ho:o.op=.call c) (hc:c.callee=.value (.func f))
  (hargs:pO st [] ρ (bh bL) c.args.toList ins) (hheap:df (fun x=>look st.h (ρ x.1)=some (x.2.map' ρ)) bL) (hokin:bL.all (fun x=>x.2.ok (bh bL))=true) (hinj:eb ((keys bL).map ρ)=true)
  (hkeep:df (pn bL) cD) (hEE:(keys bL).map ρ=EE) (hμ:eb ((keys nb).map μ)=true) (hμk:(keys nb).all (fun k=>(dC k cD && Nat.beq (μ k) (ρ k))||(!dC k cD && !dC (μ k) EE))=true)
  (hg:av.dV (fun _=>True)) (hgb:df (fun x=>x.2.dV fun _=>True) nb) (hok:av.ok (bh nb)=true) (hokb:nb.all (fun x=>x.2.ok (bh nb))=true) (hav:av.map μ=av') (hnb:fD μ nb=nb'):aH P o st av' nb' EE:=
 lj ρ μ [] hF hen ho hc hargs hheap hokin hinj (by simp [dC]) rfl (fun k hk=>hkeep.mem k hk) hEE hμ hμk hg hgb hok hokb hav hnb fun σ T Tc T' w' d v h1 h2 _ h=>h.fo fun b hb=>by
  rcases h1 b hb with h|h
  ·exact h2 b ⟨h,fun k hk=>by cases hk⟩
  ·exact h
end
section
variable {P:Program} {W0:World} {F:Nat->Prop} {N:NT} {T0:Nat->Prop} {pin:List (Nat×bM)} {ops:Array Oper} {Q:Exit->aF->Prop} {s:List (Nat×AV)} {h:List (Nat×AB)} {n:Nat}
theorem jz {h:List (Nat×AB)} {k:Nat} (hk:bh h k=true):∃ b,look h k=some b:=by
 cases hl:look h k with
 |none=>simp [bh,hl] at hk
 |some b=>exact ⟨b,rfl⟩
theorem BA {o:Oper} {rest:List Oper} {d n':Nat} {av:AV} {nb h':List (Nat×AB)} {E:List Nat} (hw:ah ops o ⟨s,h,n⟩) (g:aH P o ⟨s,h,n⟩ av nb E) (hd:o.dst=some d) (hN:Nat.blt d N.1=true) (hE:E.all (fun e=>bh h e)=true) (hnb:nb.all (fun x=>dC x.1 E||Nat.ble n x.1)=true) (hn:ic nb n=n') (hh:nb++del E h=h') (k:AL P W0 F N T0 pin ops Q rest ⟨(d,av)::s,h',n'⟩):AL P W0 F N T0 pin ops Q (o::rest) ⟨s,h,n⟩:=
 rG hw g (fun d' h'=>by rw [hd] at h';injection h' with h';subst h';rw [Nat.blt_eq] at hN;exact hN) (fun e he=>jz (List.all_eq_true.1 hE e he)) (fun k b hk hkE=>by
  have:=List.all_eq_true.1 hnb _ hk
  simp only [Bool.or_eq_true] at this
  rcases this with h|h
  ·exact absurd (eA.1 h) hkE
  ·exact Nat.le_of_ble_eq_true h) (by
  have e:(aF.add ⟨s,h,n⟩ nb E)=⟨s,h',n'⟩:=by simp [aF.add,<-hn,<-hh]
  rw [e,hd];exact k)
theorem aD.cut {s:List (Nat×AV)} {h h':List (Nat×AB)} {n:Nat} (k m:Nat) {t K:Nat} {rows rows':List (List D)} (hb:look h k=some (.arr t K rows)) (hr:rows.take m=rows') (hh:kf h k (.arr t K rows')=h'):aD pin ⟨s,h,n⟩ ⟨s,h',n⟩:=by
 subst hr hh
 rintro W0 F N T0 a w ⟨σ,T,hT,S,hp⟩
 have cases_:∀ i b,look (kf h k (.arr t K (rows.take m))) i=some b->(i=k/\b=.arr t K (rows.take m))\/(i≠k/\look h i=some b):=by
  intro i b hi
  rcases jO hi with h1|h1|h1
  ·exact .inl h1
  ·exact .inr h1
  ·exact h1.2.elim
 have cx:∀ i b,look (kf h k (.arr t K (rows.take m))) i=some b->∃ b0,look h i=some b0:=fun i b hi=>by
  rcases cases_ i b hi with ⟨rfl,_⟩|⟨_,h1⟩
  ·exact ⟨_,hb⟩
  ·exact ⟨_,h1⟩
 refine ⟨σ,T,hT,⟨⟨S.core.ff,?_,?_,S.core.en⟩,S.os,S.tape,S.output,S.size,S.cx,?_,S.next,?_,S.jj,S.iR⟩,hp⟩
 ·intro i b hi
  rcases cases_ i b hi with ⟨rfl,rfl⟩|⟨_,h1⟩
  ·obtain ⟨hK,h1⟩:=S.core.heap _ _ hb
   refine ⟨hK,?_⟩
   rcases h1 with ⟨h1,h2⟩|⟨g,vs,h1,h2,h3,h4,h5,h6⟩
   ·exact .inl ⟨by rw [h1];simp,h2⟩
   ·refine .inr ⟨g,vs,h1,h2,h3,h4,h5,?_,fun i row hi=>?_⟩
    ·refine Nat.le_trans (Nat.mul_le_mul_right K ?_) h6.1
     rw [List.length_take];omega
    ·rw [List.getElem?_take] at hi
     split at hi
     ·exact h6.2 i row hi
     ·cases hi
  ·exact S.core.heap i b h1
 ·intro i i' b b' g g' hi hi' hg hg' hgg
  obtain ⟨b0,h0⟩:=cx i b hi
  obtain ⟨b1,h1⟩:=cx i' b' hi'
  exact S.core.inj i i' b0 b1 g g' h0 h1 hg hg' hgg
 ·intro i b g hi hg
  obtain ⟨b0,h0⟩:=cx i b hi
  exact S.own i b0 g h0 hg
 ·intro i b hi
  obtain ⟨b0,h0⟩:=cx i b hi
  exact S.hn i b0 h0
end
end
section

def fy (n:Int):Prop:=-9223372036854775808<=n/\n<=9223372036854775807
def Fo:Nat->Prop:=fun _=>False
section
variable {P:Program} {t e:TypeId}
end
section
variable {H:Type} {enc:TypeId×Value->H} {P:Program} {w:World} {base:Nat} {spare:Nat->Bool} {held:Bool} {t:TypeId}
end
theorem Dg {P:Program} {f:FuncId} {ins:List GV} (h:Fn P f ins (aB true) []) {w:World} {args:Array Value} (hargs:ch (dc (fun _=>none) Fo w) ins args.toList):Calls P f args w fun e w'=>e=.returned (.bool true)/\Below w.heap.size w w':=
 (h Fo w args (fun _ h=>h.elim) hargs).mono fun e w' ⟨v,σ,T',he,hb,R⟩=>⟨by rw [he,bp.inv R.rel],hb⟩
end
section

theorem bp.len {T:Nat->Prop} {w:World} {K:Nat} {rows:List (List D)} {v:Value} (h:bp T w (.r K rows) v):rows.length<=9223372036854775807:=by
 cases h with
 |nil=>simp
 |r=>omega
section
variable {P:Program} {W0:World} {F:Nat->Prop} {N:NT} {T0:Nat->Prop} {pin:List (Nat×bM)} {Q:Exit->aF->Prop} {s:List (Nat×AV)} {h:List (Nat×AB)} {n:Nat}
theorem dz {c:Code} {α:Type} {f:α->List D} {xs:List α} {K:Nat} (i:Nat) (hs:look s i=some (.v (.c (.d (.r K (xs.map f)))))) (k:xs.length<=9223372036854775807->AC P W0 F N T0 pin Q c ⟨s,h,n⟩):AC P W0 F N T0 pin Q c ⟨s,h,n⟩:=fun a w hI=>by
 obtain ⟨σ,T,hT,S,hp⟩:=hI
 have h1:=bp.len (show bp T w (.r K (xs.map f)) _ from S.core.ff i _ hs)
 rw [List.length_map] at h1
 exact k h1 a w ⟨σ,T,hT,S,hp⟩
theorem fO {c:Code} {k r K m:Nat} (i:Nat) (hs:look s i=some (.v (.c (.s k r K m)))) (hk:m<=9223372036854775807->AC P W0 F N T0 pin Q c ⟨s,h,n⟩):AC P W0 F N T0 pin Q c ⟨s,h,n⟩:=fun a w hI=>by
 obtain ⟨σ,T,hT,S,hp⟩:=hI
 have h1:cK σ T w (.s k r K m) _:=S.core.ff i _ hs
 refine hk ?_ a w ⟨σ,T,hT,S,hp⟩
 rcases h1 with ⟨h0,_⟩|⟨g,_,_,h2,h3⟩<;>omega
theorem fc {c:Code} {α:Type} {f:α->List D} {xs:List α} {K:Nat} {cs:List CV} (i j:Nat) (hs:look s i=some (.v (.g cs))) (hj:cs[j]?=some (.d (.r K (xs.map f)))) (k:xs.length<=9223372036854775807->AC P W0 F N T0 pin Q c ⟨s,h,n⟩):AC P W0 F N T0 pin Q c ⟨s,h,n⟩:=fun a w hI=>by
 obtain ⟨σ,T,hT,S,hp⟩:=hI
 obtain ⟨vs,h1,h2⟩:=S.core.ff i _ hs
 obtain ⟨y,hy,hr⟩:=h2.get hj
 have h1:=bp.len (show bp T w (.r K (xs.map f)) _ from hr)
 rw [List.length_map] at h1
 exact k h1 a w ⟨σ,T,hT,S,hp⟩
end
theorem da.cut {σ:Nat->Option bM} {T:Nat->Prop} {w:World} {og:Option bM} {t K:Nat} {rows:List (List D)} (m:Nat) (h:da σ T w og (.arr t K rows)):da σ T w og (.arr t K (rows.take m)):=by
 obtain ⟨hK,h1⟩:=h
 refine ⟨hK,?_⟩
 rcases h1 with ⟨h1,h2⟩|⟨g,vs,h1,h2,h3,h4,h5,h6⟩
 ·exact .inl ⟨by rw [h1];simp,h2⟩
 ·refine .inr ⟨g,vs,h1,h2,h3,h4,h5,?_,fun i row hi=>?_⟩
  ·refine Nat.le_trans (Nat.mul_le_mul_right K ?_) h6.1
   rw [List.length_take];omega
  ·rw [List.getElem?_take] at hi
   split at hi
   ·exact h6.2 i row hi
   ·cases hi
theorem Ext.stay {σ:Nat->Option bM} {T:Nat->Prop} {st:aF} {a:Act} {w:World} (C:Core σ T st a w) {k:Nat} {b b0:AB} (hb0:look st.h k=some b0) (hr:da σ T w (σ k) b):Ext σ T w σ T w [(k,b)] [k]:=by
 refine ⟨rfl,rfl,rfl,⟨Nat.le_refl _,fun _ _ _=>rfl,?_,fun _ _ h=>h,fun _ _ h=>h⟩,fun _ h=>h,C.en,fun _ _=>rfl,?_,?_,?_⟩
 ·rintro b' ⟨k',hk',g',hg',rfl⟩
  rw [List.mem_singleton.1 hk'] at hg'
  exact (C.heap k b0 hb0).nM hg'
 ·intro j b' h
  obtain ⟨rfl,rfl⟩:=Prod.mk.inj (List.mem_singleton.1 h)
  exact hr
 ·intro j b' g' h hg'
  obtain ⟨rfl,rfl⟩:=Prod.mk.inj (List.mem_singleton.1 h)
  exact .inr ⟨j,List.mem_singleton.2 rfl,g',hg',rfl⟩
 ·intro j j' b1 b2 g1 g2 h h' _ _ _
  obtain ⟨rfl,_⟩:=Prod.mk.inj (List.mem_singleton.1 h)
  obtain ⟨rfl,_⟩:=Prod.mk.inj (List.mem_singleton.1 h')
  rfl
theorem rZ {P:Program} {st:aF} {o:Oper} {x:Operand} {c:Call} {t e bt K bytes k i n:Nat} {z:Value} {zs:List Value} {rows rows':List (List D)} (hT:gR P t e K bytes) (hz:(P.info? e).bind (fun i=>i.zero)=some z) (hzs:z.cells.toList=zs) (h1:zs.all (·.oneCell')=true)
  (ho:o.op=.call c) (hc:c.callee=.builtin .clear) (ha:c.args=#[x]) (hat:c.argTypes=#[t]) (hd:o.dst=none) (hx:ev st x (.v (.c (.s k i K n)))) (hb:look st.h k=some (.arr bt K rows)) (hr:rows.take i=rows'):aH P o st (.v (.c .any)) [(k,.arr bt K rows')] [k]:=by
 subst hr
 intro σ T a w C _
 have hxv:=bK C hx
 have hh:=C.heap k _ hb
 have quiet:∀ A c',a.eval x=.slice A 0 c'->o.wp P a w (fun a' w'=>∃ u σ' T',a'=a.put o.dst u/\Ext σ T w σ' T' w' [(k,.arr bt K (rows.take i))] [k]/\ey σ' T' w' (.v (.c .any)) u) wB:=fun A c' hv=>by
  refine gw (v:=.tuple #[]) ?_ ⟨_,σ,T,rfl,Ext.stay C hb (hh.cut i),trivial⟩
  unfold execOp
  cases A<;>simp [ho,resolve,hc,ha,hat,invoke,builtin,hv,Builtin.clear_,run_underlying hT.u]
 rcases hxv with ⟨h0,hv⟩|⟨g,hg,hv,bL,h63⟩
 ·exact quiet none 0 hv
 ·by_cases hn:n=0
  ·subst hn;exact quiet _ _ hv
  ·obtain ⟨hK,hh'⟩:=hh
   rcases hh' with ⟨_,h⟩|⟨g',vs,e1,e2,e3,e4,e5,e6⟩
   ·rw [hg] at h;cases h
   rw [hg] at e1;injection e1 with e1;subst e1
   obtain ⟨ii,z',hii,hzz,hs,hby,hzc⟩:=hT.i
   have hz':z'=z:=by simpa [hii,hzz] using hz
   subst hz'
   have hlen:(Builtin.zeroCells z'.cells n).toList.length=n * K:=by simp [Builtin.zeroCells,hzc]
   have hone:∀ u∈(Builtin.zeroCells z'.cells n).toList,u.oneCell'=true:=by
    intro u hu
    simp only [Builtin.zeroCells,Array.toList_map,List.mem_map] at hu
    obtain ⟨q,_,rfl⟩:=hu
    have hlt:q % z'.cells.size < z'.cells.size:=Nat.mod_lt _ (by rw [hzc];exact hK)
    rw [getElem!_pos z'.cells (q % z'.cells.size) hlt]
    subst hzs
    exact List.all_eq_true.1 h1 _ (by simp)
   have hfit:i * K+n * K<=vs.length:=by rw [e4,<-Nat.add_mul];exact Nat.mul_le_mul_right _ bL
   have hst:=run_storeCells_at (P:=P) g.g (i * K) bt (Builtin.zeroCells z'.cells n).toList 0 vs.toArray w e3 (by rw [hlen];simpa using hfit) hone
   obtain ⟨m,rfl⟩:∃ m,n=m+1:=⟨n - 1,by omega⟩
   have hzv:(zeroValue e).run P w=.ok z' w:=by simp [zeroValue,typeInfo,hii,hzz]
   refine gw (v:=.tuple #[]) (w':=w.setRow g.g (vs.take (i * K)++(Builtin.zeroCells z'.cells (m+1)).toList++vs.drop (i * K+(Builtin.zeroCells z'.cells (m+1)).toList.length)).toArray) ?_ ⟨_,σ,T,rfl,Ext.write C hb hg rfl rfl rfl (setRow_size w _ _) (fun j hj=>setRow_other w g.g j _ hj) fun G=>?_,trivial⟩
   ·unfold execOp
    simp only [Nat.add_zero] at hst
    simp [ho,resolve,hc,ha,hat,invoke,builtin,hv,Builtin.clear_,run_underlying hT.u,hzv,hst]
   ·refine ⟨hK,.inr ⟨g,_,rfl,e2,setRow_heap w g.g _ _ bt (0,0) e3,?_,e5,?_⟩⟩
    ·rw [<-e4];simp only [List.length_append,List.length_take,List.length_drop,hlen];omega
    ·have e7:=e6.grow G
     refine ⟨?_,fun r row hrow=>?_⟩
     ·simp only [List.length_append,List.length_take,List.length_drop,hlen]
      refine Nat.le_trans (Nat.mul_le_mul_right K (Nat.min_le_left i rows.length)) ?_
      omega
     ·rw [List.getElem?_take] at hrow
      split at hrow
      ·rename_i hri
       obtain ⟨q1,q2⟩:=e7.2 r row hrow
       refine ⟨q1,fun j d hj=>?_⟩
       obtain ⟨u,hu,hd'⟩:=q2 j d hj
       have hjK:j < K:=by rw [<-q1];exact (List.getElem?_eq_some_iff.1 hj).1
       have hlt:r * K+j < i * K:=by
        have:(r+1) * K<=i * K:=Nat.mul_le_mul_right _ hri
        rw [Nat.succ_mul] at this
        omega
       refine ⟨u,?_,hd'⟩
       rw [List.append_assoc,List.getElem?_append_left (by rw [List.length_take];omega),List.getElem?_take,if_pos hlt]
       exact hu
      ·cases hrow
theorem aD.nj {pin:List (Nat×bM)} {s:List (Nat×AV)} {h h':List (Nat×AB)} {n:Nat} (k j K bt:Nat) {cs:List CV} (hb:look h k=some (.box bt cs)) (hc:cs[j]?=some cN) (hh:kf h k (.box bt (cs.set j (cR K [])))=h'):aD pin ⟨s,h,n⟩ ⟨s,h',n⟩:=by
 subst hh
 rintro W0 F N T0 a w ⟨σ,T,hT,S,hp⟩
 have cx:∀ i b,look (kf h k (.box bt (cs.set j (cR K [])))) i=some b->∃ b0,look h i=some b0:=fun i b hi=>by
  rcases jO hi with ⟨rfl,_⟩|⟨_,h1⟩|⟨_,h1⟩
  ·exact ⟨_,hb⟩
  ·exact ⟨_,h1⟩
  ·exact h1.elim
 refine ⟨σ,T,hT,⟨⟨S.core.ff,?_,?_,S.core.en⟩,S.os,S.tape,S.output,S.size,S.cx,?_,S.next,?_,S.jj,S.iR⟩,hp⟩
 ·intro i b hi
  rcases jO hi with ⟨rfl,rfl⟩|⟨_,h1⟩|⟨_,h1⟩
  ·obtain ⟨g,vs,h1,h2,h3,h4⟩:=S.core.heap _ _ hb
   refine ⟨g,vs,h1,h2,h3,?_⟩
   obtain ⟨y,hy,hr⟩:=h4.get hc
   have hy':y=.slice none 0 0:=bp.inv hr
   subst hy'
   have:=h4.set (x:=cR K []) (y:=.slice none 0 0) (bp.nil _ _ _) j
   have e:vs.set j (.slice none 0 0)=vs:=by
    apply List.ext_getElem?
    intro q
    rw [List.getElem?_set]
    split
    ·rename_i hq;subst hq
     split
     ·exact hy.symm
     ·rename_i hlt;rw [List.getElem?_eq_none (by omega)]
    ·rfl
   rw [e] at this
   exact this
  ·exact S.core.heap i b h1
  ·exact h1.elim
 ·intro i i' b b' g g' hi hi' hg hg' hgg
  obtain ⟨b0,h0⟩:=cx i b hi
  obtain ⟨b1,h1⟩:=cx i' b' hi'
  exact S.core.inj i i' b0 b1 g g' h0 h1 hg hg' hgg
 ·intro i b g hi hg
  obtain ⟨b0,h0⟩:=cx i b hi
  exact S.own i b0 g h0 hg
 ·intro i b hi
  obtain ⟨b0,h0⟩:=cx i b hi
  exact S.hn i b0 h0
theorem iw {P:Program} {st:aF} {o:Oper} {f:FuncId} {c:Call} {x:Operand} {y:CV} {aT:List (List D)} {ins:List GV} {av av':AV} {nb nb':List (Nat×AB)} (n0:Nat) (E:List Nat) (hF:Fn P f (ins++aT.map fun r=>.c (.q r 0)) av nb) (hen:bc P f) (ho:o.op=.call c) (hc:c.callee=.value x) (hx:ev st x (.v (.c y))) (hy:jF st E y (.d (.f f aT))) (hargs:xe st E c.args.toList ins)
  (hg:av.dV (fun d=>d.mE=true)) (hgb:df (fun x=>x.2.dV fun d=>d.mE=true) nb) (hok:av.ok (bh nb)=true) (hokb:nb.all (fun x=>x.2.ok (bh nb))=true) (hav:av.map (n0+·)=av') (hnb:fD (n0+·) nb=nb'):aH P o st av' nb' []:=by
 intro σ T a w C hnew
 subst hav hnb
 have hv:bp (fg σ T E) w (.f f aT) (a.eval x):=jF.rel C hy (bK C hx)
 generalize hve:a.eval x=v at hv
 cases hv with
 |f _ _ bs fX cs hb ez hd=>
  have hcaps:ch (dc (fun _=>none) (fg σ T E) w) (aT.map fun r=>GV.c (.q r 0)) ((List.range aT.length).map fun i=>Value.pointer (some ⟨bs i,fX i,none⟩)):=by
   refine mr (by simp) fun i g hg=>?_
   obtain ⟨hi,rfl⟩:=List.getElem?_eq_some_iff.1 hg
   simp at hi
   refine ⟨.pointer (some ⟨bs i,fX i,none⟩),by simp [hi],?_⟩
   simp only [List.getElem_map]
   refine ⟨bs i,fX i,rfl,(hb i hi).1,(hb i hi).2,fun j d hj=>?_⟩
   have hr:aT[i]?=some aT[i]:=List.getElem?_eq_getElem hi
   exact ⟨cs i j,ez i _ j d hr hj,hd i _ j d hr hj⟩
  have hrun:(execOp a.eval o).run P w=.ok (.enter f (c.args.map a.eval++((List.range aT.length).map fun i=>Value.pointer (some ⟨bs i,fX i,none⟩)).toArray)) w:=by
   unfold execOp
   simp [ho,resolve,hc,hve,Deferred.ofValue,invoke]
   have:=hen (c.args.map a.eval++((List.range aT.length).map fun i=>Value.pointer (some ⟨bs i,fX i,none⟩)).toArray) w
   simpa using this
  unfold Oper.wp
  rw [hrun]
  refine ((lP hF n0 C (E:=E) (args:=c.args.map a.eval++((List.range aT.length).map fun i=>Value.pointer (some ⟨bs i,fX i,none⟩)).toArray) ?_ hg hgb hok hokb (fun k b h=>hnew k b h (by simp)) fun Tc T' w' d v h1 h2 hp h=>?_).mono ?_)
  ·rw [Array.toList_append,Array.toList_map]
   exact (mH C hargs).append hcaps
  ·cases d with
   |v x=>cases h;exact .v _ (by assumption)
   |r=>cases hp
   |f=>cases hp
  ·rintro e w' ⟨v,σ',T',rfl,X,hr⟩
   exact ⟨v,σ',T',rfl,X,hr⟩
def xd (st:aF) (k:Nat) (p:Nat->Bool) (y x:AV):Prop:=(y=x/\x.ok p=true)\/∃ c d,y=.v (.c c)/\x=.v (.c d)/\jF st [k] c d
theorem Core.freeze {σ:Nat->Option bM} {T:Nat->Prop} {st st':aF} {a:Act} {w:World} (C:Core σ T st a w) (k:Nat) (hn:∀ i v,look st'.s i=some v->∃ y,look st.s i=some y/\xd st k (bh st'.h) y v)
  (hh:∀ j b,look st'.h j=some b->look st.h j=some b/\j≠k/\b.ok (bh st'.h)=true) (hk:∃ b,look st.h k=some b):Core (fun j=>if bh st'.h j=true then σ j else none) (fg σ T [k]) st' a w:=by
 have hlow:∀ b,fg σ T [k] b->T b:=fun b h=>h.1
 obtain ⟨b0,hb0⟩:=hk
 have hσ:∀ j,bh st'.h j=true->(fun j=>if bh st'.h j=true then σ j else none) j=σ (id j):=fun j hj=>if_pos hj
 have idA:∀ v:AV,v.map id=v:=fun v=>by
  have hz:∀ c:CV,c.map id=c:=fun c=>by cases c<;>simp [CV.map]
  have hg:∀ g:GV,g.map id=g:=fun g=>by
   cases g with
   |c x=>simp [GV.map,hz]
   |g xs=>simp only [GV.map];congr 1;exact (List.map_congr_left fun c _=>hz c).trans (List.map_id _)
  cases v with
  |v x=>simp [AV.map,hg]
  |t xs=>simp only [AV.map];congr 1;exact (List.map_congr_left fun c _=>hg c).trans (List.map_id _)
 have idB:∀ b:AB,b.map' id=b:=fun b=>by
  have hz:∀ c:CV,c.map id=c:=fun c=>by cases c<;>simp [CV.map]
  cases b with
  |box t cs=>simp only [AB.map'];congr 1;exact (List.map_congr_left (fun c _=>hz c)).trans (List.map_id _)
  |arr=>rfl
  |map=>rfl
 have inT':∀ j b g,look st'.h j=some b->σ j=some g->T g.g->fg σ T [k] g.g:=fun j b g hj hg hT=>⟨hT,fun e he g' hg' hgg=>by
  rw [List.mem_singleton.1 he] at hg'
  exact (hh j b hj).2.1 (C.inj k j b0 b g' g hb0 (hh j b hj).1 hg' hg hgg).symm⟩
 refine ⟨fun i v hi=>?_,fun j b hj=>?_,fun j j' b b' g g' hj hj' hg hg' hgg=>?_,fun b h=>C.en b h.1⟩
 ·obtain ⟨y,hy,hf⟩:=hn i v hi
  have hr:=C.ff i y hy
  rcases hf with ⟨rfl,hok⟩|⟨c,d,rfl,rfl,harg⟩
  ·have hr:ey σ T w (y.map id) (a.tmps.getD i undef):=by rw [idA];exact hr
   have h2:=ey.bZ hσ hr hok
   cases y with
   |v x=>exact dc.fo (x:=x) hlow h2
   |t xs=>obtain ⟨vs,q1,q2⟩:=h2;exact ⟨vs,q1,q2.mono fun _ _ h=>h.fo hlow⟩
  ·exact cK.up (x:=d) (jF.rel C harg hr)
 ·obtain ⟨h1,h2,h3⟩:=hh j b hj
  have hkin:bh st'.h j=true:=by simp [bh,hj]
  show da _ _ _ (if bh st'.h j=true then σ j else none) b
  rw [if_pos hkin]
  have h4:da σ T w (σ j) (b.map' id):=by rw [idB];exact C.heap j b h1
  exact da.fo hlow (fun g hg hT=>inT' j b g hj hg hT) (da.bZ hσ h4 h3)
 ·obtain ⟨h1,_,_⟩:=hh j b hj
  obtain ⟨h1',_,_⟩:=hh j' b' hj'
  have e1:bh st'.h j=true:=by simp [bh,hj]
  have e2:bh st'.h j'=true:=by simp [bh,hj']
  have hg:(if bh st'.h j=true then σ j else none)=some g:=hg
  have hg':(if bh st'.h j'=true then σ j' else none)=some g':=hg'
  rw [if_pos e1] at hg
  rw [if_pos e2] at hg'
  exact C.inj j j' b b' g g' h1 h1' hg hg' hgg
section
variable {P:Program} {W0:World} {N:NT} {T0:Nat->Prop} {Q:Exit->aF->Prop} {s s':List (Nat×AV)} {h h':List (Nat×AB)} {n:Nat}
theorem re {a:Act} {w:World} (k:Nat) (hk:bh h k=true) (hs:df (fun x=>∃ y,look s x.1=some y/\xd ⟨s,h,n⟩ k (bh h') y x.2) s') (hh:df (fun x=>look h x.1=some x.2) h') (hok:h'.all (fun x=>!Nat.beq x.1 k && x.2.ok (bh h'))=true)
  (hI:Inv W0 (fun _=>False) N T0 [] ⟨s,h,n⟩ a w):Inv W0 (fun _=>False) N T0 [] ⟨s',h',n⟩ a w:=by
 obtain ⟨σ,T,hT,S,hp⟩:=hI
 obtain ⟨b0,hb0⟩:=jz hk
 have hh':∀ j b,look h' j=some b->look h j=some b/\j≠k/\b.ok (bh h')=true:=fun j b hj=>by
  have h1:=List.all_eq_true.1 hok _ (bH hj)
  simp only [Bool.and_eq_true,Bool.not_eq_true'] at h1
  exact ⟨hh.mem _ (bH hj),(fun e=>by subst e;rw [Nat.beq_refl] at h1;exact absurd h1.1 (by simp)),h1.2⟩
 have C:=S.core.freeze (st':=⟨s',h',n⟩) k (fun i v hi=>hs.mem _ (bH hi)) hh' ⟨b0,hb0⟩
 have q1:∀ b,b < W0.heap.size->(fg σ T [k] b->T0 b)/\(T0 b->fg σ T [k] b):=fun b hb=>⟨fun hb'=>(hT b hb).1 hb'.1,fun h0=>⟨(hT b hb).2 h0,fun e he g hg hgb=>by
  rw [List.mem_singleton.1 he] at hg
  rcases S.own k b0 g hb0 hg with h1|h1
  ·omega
  ·exact h1⟩⟩
 have q2:∀ j b g,look h' j=some b->(if bh h' j=true then σ j else none)=some g->W0.heap.size<=g.g\/False:=fun j b g hj hg=>by
  split at hg
  ·exact S.own j b g (hh' j b hj).1 hg
  ·cases hg
 have q3:∀ j,n<=j->(if bh h' j=true then σ j else none)=none:=fun j hj=>by
  split
  ·exact S.next j hj
  ·rfl
 exact ⟨_,_,q1,⟨C,S.os,S.tape,S.output,S.size,S.cx,q2,q3,fun j b hj=>S.hn j b (hh' j b hj).1,S.jj,S.iR⟩,fun j g hj=>by cases hj⟩
theorem lU {ops:Array Oper} {l:List Oper} (k:Nat) (hk:bh h k=true) (hs:df (fun x=>∃ y,look s x.1=some y/\xd ⟨s,h,n⟩ k (bh h') y x.2) s') (hh:df (fun x=>look h x.1=some x.2) h') (hok:h'.all (fun x=>!Nat.beq x.1 k && x.2.ok (bh h'))=true)
  (hn:AL P W0 (fun _=>False) N T0 [] ops Q l ⟨s',h',n⟩):AL P W0 (fun _=>False) N T0 [] ops Q l ⟨s,h,n⟩:=fun a w hI=>hn a w (re k hk hs hh hok hI)
theorem Fs {c:Code} (k:Nat) (hk:bh h k=true) (hs:df (fun x=>∃ y,look s x.1=some y/\xd ⟨s,h,n⟩ k (bh h') y x.2) s') (hh:df (fun x=>look h x.1=some x.2) h') (hok:h'.all (fun x=>!Nat.beq x.1 k && x.2.ok (bh h'))=true)
  (hn:AC P W0 (fun _=>False) N T0 [] Q c ⟨s',h',n⟩):AC P W0 (fun _=>False) N T0 [] Q c ⟨s,h,n⟩:=fun a w hI=>hn a w (re k hk hs hh hok hI)
end
end
section

section
variable {P:Program} {W0:World} {F:Nat->Prop} {N:NT} {T0:Nat->Prop} {pin:List (Nat×bM)} {Q:Exit->aF->Prop} {st:aF} {ops:Array Oper}
def AR (P:Program) (W0:World) (F:Nat->Prop) (N:NT) (T0:Nat->Prop) (pin:List (Nat×bM)) (ops:Array Oper) (Q:Exit->aF->Prop):Nat->Array Bool->aF->Prop
 |0,listed,st=>Region.ready .any ops listed=[]/\Q .normal st
 |f+1,listed,st=>Region.ready .any ops listed≠[]/\∀ i∈Region.ready .any ops listed,∀ a w,Inv W0 F N T0 pin st a w->wpOp P ops (QX W0 F N T0 pin Q) i (fun a' w'=>∃ st',AR P W0 F N T0 pin ops Q f (listed.setIfInBounds i true) st'/\Inv W0 F N T0 pin st' a' w') a w
def nQ (K:aF->Prop):Exit->aF->Prop:=fun e st'=>e=.normal/\K st'
theorem zX {o:Oper} {a:Act} {K:Act->World->Prop} {R S:Exit->Act->World->Prop} {r:Result Next} (hR:∀ e a w,e≠.normal->¬R e a w) (h:o.upon P a K R r):o.upon P a K S r:=by
 cases r with
 |ok n w'=>
  cases n<;>simp only [Oper.upon] at h ⊢<;>try exact h
  refine h.mono fun e w'' he=>?_
  cases e with
  |returned v=>exact he
  |panicked c=>exact absurd he (hR _ _ _ (fun e=>by cases e))
  |outgrown=>obtain ⟨_,_,h⟩:=he;exact absurd h (hR _ _ _ (fun e=>by cases e))
 |halt x w'=>cases x<;>simp only [Oper.upon] at h ⊢<;>first|exact h|exact absurd h (hR _ _ _ (fun e=>by cases e))
theorem AR.step {K:aF->Prop} {i:Nat} {o:Oper} (ho:ops[i]?=some o) (hal:AL P W0 F N T0 pin ops (nQ K) [o] st):∀ a w,Inv W0 F N T0 pin st a w->wpOp P ops (QX W0 F N T0 pin Q) i (fun a' w'=>∃ st',K st'/\Inv W0 F N T0 pin st' a' w') a w:=by
 intro a w hI
 have hR:∀ e a w,e≠.normal->¬QX W0 F N T0 pin (nQ K) e a w:=by
  rintro e a w he ⟨st',⟨h1,_⟩,_⟩;exact he h1
 have hN:∀ a w,QX W0 F N T0 pin (nQ K) .normal a w->∃ st',K st'/\Inv W0 F N T0 pin st' a w:=by
  rintro a w ⟨st',⟨_,h1⟩,h2⟩;exact ⟨st',h1,h2⟩
 have h:=hal a w hI
 unfold wpList at h
 unfold wpOp
 rw [ho]
 dsimp only
 split at h
 ·rename_i hw
  rw [if_pos hw]
  rcases h with h|⟨_,a1,w1,h⟩
  ·exact .inl (zX hR (gX h fun a w h=>hN a w h))
  ·exact absurd h (hR _ _ _ (fun e=>by cases e))
 ·rename_i hw
  rw [if_neg hw]
  exact hN _ _ h
theorem AR.more {f:Nat} {listed:Array Bool} {is:List Nat} (hr:Region.ready .any ops listed=is) (hne:is.isEmpty=false) (h:df (fun i=>∀ a w,Inv W0 F N T0 pin st a w->wpOp P ops (QX W0 F N T0 pin Q) i (fun a' w'=>∃ st',AR P W0 F N T0 pin ops Q f (listed.setIfInBounds i true) st'/\Inv W0 F N T0 pin st' a' w') a w) is):AR P W0 F N T0 pin ops Q (f+1) listed st:=by
 refine ⟨fun e=>?_,fun i hi=>h.mem i (hr▸hi)⟩
 rw [hr] at e;subst e;cases hne
end
end
section

def pv (aM:List bD) (x:Nat) (q:Nat):Bool:=match aM[q]? with
 |some r=>(match r.dst with
  |some d=>Nat.beq d x
  |none=>false)
 |none=>false
def nG (aM:List bD) (k:Nat) (q:Nat):Bool:=match aM[q]? with
 |some r=>dC k r.E||dC k (keys r.nb)
 |none=>false
def De (aM:List bD) (k:Nat) (q:Nat):Bool:=match aM[q]? with
 |some r=>dC k (keys r.nb)
 |none=>false
def tQ (ops:Array Oper) (n:Nat) (wr:Nat->Bool) (i:Nat):Option Nat->Bool
 |none=>(List.range n).all fun q=>Nat.beq q i||!wr q||fS ops q i
 |some j=>Nat.blt j n && fS ops i j && (List.range n).all fun q=>Nat.beq q i||Nat.beq q j||!wr q||fS ops q i||fS ops j q
def qT (ops:Array Oper) (n:Nat) (wr:Nat->Bool):Option Nat->Bool
 |none=>(List.range n).all fun q=>!wr q
 |some j=>Nat.blt j n && (List.range n).all fun q=>Nat.beq q j||!wr q||fS ops j q
def jH (aM:List bD) (pre:List Nat) (x:Nat):Option Nat:=pre.find? (pv aM x)
def jm (aM:List bD) (pre:List Nat) (k:Nat):Option Nat:=pre.find? (De aM k)
def na (ops:Array Oper) (aM:List bD) (N:Nat) (st fin:aF) (i:Nat) (r:bD):Bool:=
 (match ops[i]? with
  |some o=>(match o.dst,r.dst with
   |some d,some d'=>Nat.beq d d' && Nat.blt d N
   |none,none=>true
   |_,_=>false) && o.after.all (fun e=>!Region.binds .any e||Nat.blt e.on i)
  |none=>false) &&
 r.E.all (fun k=>dC k (keys r.h)) && eb (keys r.nb) &&
 r.nb.all (fun x=>Nat.blt x.1 fin.n && (dC x.1 r.E||(Nat.ble st.n x.1 && (List.range aM.length).all fun q=>Nat.beq q i||!nG aM x.1 q||fS ops q i))) &&
 r.s.all (fun x=>tQ ops aM.length (pv aM x.1) i (jH aM r.pre x.1)) && r.h.all (fun x=>tQ ops aM.length (nG aM x.1) i (jm aM r.pre x.1))
def rD (ops:Array Oper) (aM:List bD) (N:Nat) (st fin:aF):Nat->List bD->Bool
 |_,[]=>true
 |i,r::rs=>na ops aM N st fin i r && rD ops aM N st fin (i+1) rs
def rm (ops:Array Oper) (aM:List bD) (N:Nat) (st fin:aF) (fp:List Nat):Bool:=
 rD ops aM N st fin 0 aM && Nat.beq aM.length ops.size && Nat.ble st.n fin.n &&
 fin.s.all (fun x=>qT ops aM.length (pv aM x.1) (jH aM fp x.1)) && fin.h.all (fun x=>Nat.blt x.1 fin.n && qT ops aM.length (nG aM x.1) (jm aM fp x.1))
theorem tw {ops:Array Oper} {aM:List bD} {N:Nat} {st fin:aF}:∀ {rs:List bD} {i:Nat},rD ops aM N st fin i rs=true->∀ {j:Nat} {r:bD},rs[j]?=some r->na ops aM N st fin (i+j) r=true
 |r::rs,i,h,0,r',hr=>by simp at hr;subst hr;simp only [rD,Bool.and_eq_true] at h;exact h.1
 |r::rs,i,h,j+1,r',hr=>by
  simp only [rD,Bool.and_eq_true] at h
  have:=tw (rs:=rs) (i:=i+1) h.2 (j:=j) (by simpa using hr)
  rwa [show i+1+j=i+(j+1) by omega] at this
 |[],_,_,_,_,hr=>by simp at hr
def lu (st:aF) (aM:List bD) (x:Nat) (v:AV):Option Nat->Prop
 |none=>look st.s x=some v
 |some j=>∃ q,aM[j]?=some q/\q.dst=some x/\q.v=v
def lx (st:aF) (aM:List bD) (k:Nat) (b:AB):Option Nat->Prop
 |none=>look st.h k=some b
 |some j=>∃ q,aM[j]?=some q/\(k,b)∈q.nb
def nF (st:aF) (aM:List bD):List bD->Prop
 |[]=>True
 |r::rs=>(df (fun x=>lu st aM x.1 x.2 (jH aM r.pre x.1)) r.s/\df (fun x=>lx st aM x.1 x.2 (jm aM r.pre x.1)) r.h)/\nF st aM rs
theorem nF.get {st:aF} {aM:List bD}:∀ {rs:List bD},nF st aM rs->∀ {r:bD},r∈rs->df (fun x=>lu st aM x.1 x.2 (jH aM r.pre x.1)) r.s/\df (fun x=>lx st aM x.1 x.2 (jm aM r.pre x.1)) r.h
 |r::rs,h,r',hr=>by
  rcases List.mem_cons.1 hr with rfl|hr
  ·exact h.1
  ·exact nF.get (rs:=rs) h.2 hr
def oT (ops:Array Oper) (n:Nat):List Nat->Prop
 |[]=>True
 |j::ys=>(∀ q,q < n->fS ops j q=true->q∈ys)/\j ∉ ys/\oT ops n ys
theorem oT.wait {ops:Array Oper} {n:Nat}:∀ {d:List Nat},oT ops n d->∀ {q i:Nat},q∈d->i < n->fS ops q i=true->i∈d
 |j::ys,h,q,i,hq,hi,hw=>by
  rcases List.mem_cons.1 hq with rfl|hq
  ·exact List.mem_cons_of_mem _ (h.1 i hi hw)
  ·exact List.mem_cons_of_mem _ (h.2.2.wait hq hi hw)
theorem oT.split {ops:Array Oper} {n:Nat} {wr:Nat->Bool} {j:Nat}:∀ {d:List Nat},oT ops n d->j∈d->(∀ q∈d,q < n)->(∀ q∈d,q≠j->wr q=true->fS ops j q=true)->∃ xs ys,d=xs++j::ys/\∀ q∈xs,wr q=false
 |k::ys,h,hj,hn,hc=>by
  by_cases e:k=j
  ·subst e;exact ⟨[],ys,rfl,fun q hq=>by cases hq⟩
  ·have hj':j∈ys:=(List.mem_cons.1 hj).resolve_left (Ne.symm e)
   obtain ⟨xs,zs,h1,h2⟩:=h.2.2.split hj' (fun q hq=>hn q (List.mem_cons_of_mem _ hq)) (fun q hq=>hc q (List.mem_cons_of_mem _ hq))
   refine ⟨k::xs,zs,by rw [h1];rfl,fun q hq=>?_⟩
   rcases List.mem_cons.1 hq with rfl|hq
   ·cases hw:wr q with
    |false=>rfl
    |true=>exact absurd (h.2.2.wait hj' (hn q List.mem_cons_self) (hc q List.mem_cons_self e hw)) h.2.1
   ·exact h2 q hq
section
variable {st:aF} {aM:List bD}
theorem yj {x q:Nat} {r:bD} (hr:aM[q]?=some r) (h:pv aM x q=false):r.dst≠some x:=fun e=>by
 unfold pv at h;rw [hr] at h;simp only [e] at h;rw [Nat.beq_refl] at h;cases h
theorem yk {k q:Nat} {r:bD} (hr:aM[q]?=some r) (h:nG aM k q=false):k ∉ keys r.nb/\k ∉ r.E:=by
 unfold nG at h;rw [hr] at h
 simp only [Bool.or_eq_false_iff] at h
 exact ⟨fun hk=>(Bool.eq_false_iff.1 h.2) (eA.2 hk),fun hk=>(Bool.eq_false_iff.1 h.1) (eA.2 hk)⟩
theorem CR {xs ys:List Nat} {j x:Nat} {r:bD} (hx:∀ q∈xs,pv aM x q=false) (hr:aM[j]?=some r) (hd:r.dst=some x):look (eH st aM (xs++j::ys)).s x=some r.v:=by
 induction xs with
 |nil=>
  rw [List.nil_append,gz hr,hd]
  show look ((x,r.v)::(eH st aM ys).s) x=_
  rw [bR,if_pos rfl]
 |cons q xs ih=>
  have ih:=ih fun p hp=>hx p (List.mem_cons_of_mem _ hp)
  rw [List.cons_append]
  cases hq:aM[q]? with
  |none=>rw [jL hq];exact ih
  |some r'=>
   rw [gz hq]
   have hne:=yj hq (hx q List.mem_cons_self)
   cases hd':r'.dst with
   |none=>exact ih
   |some d=>
    show look ((d,r'.v)::(eH st aM (xs++j::ys)).s) x=_
    rw [bR,if_neg (fun e=>hne (by rw [hd',e]))]
    exact ih
theorem rX {l:List (Nat×AB)} {k:Nat} (h:k ∉ keys l):look l k=none:=by
 cases hl:look l k with
 |none=>rfl
 |some b=>exact absurd (List.mem_map.2 ⟨(k,b),bH hl,rfl⟩) h
theorem CS {xs ys:List Nat} {j k:Nat} {b:AB} {r:bD} (hx:∀ q∈xs,nG aM k q=false) (hr:aM[j]?=some r) (hn:(keys r.nb).Nodup) (hb:(k,b)∈r.nb):look (eH st aM (xs++j::ys)).h k=some b:=by
 induction xs with
 |nil=>
  rw [List.nil_append,gz hr,tP]
  show look (r.nb++del r.E (eH st aM ys).h) k=_
  rw [gC,pF hn hb,Option.some_or]
 |cons q xs ih=>
  have ih:=ih fun p hp=>hx p (List.mem_cons_of_mem _ hp)
  rw [List.cons_append]
  cases hq:aM[q]? with
  |none=>rw [jL hq];exact ih
  |some r'=>
   rw [gz hq,tP]
   obtain ⟨h1,h2⟩:=yk hq (hx q List.mem_cons_self)
   show look (r'.nb++del r'.E (eH st aM (xs++j::ys)).h) k=_
   rw [gC,rX h1,Option.none_or,ka h2]
   exact ih
end
theorem kj {n:Nat} {p:Nat->Bool} (h:(List.range n).all p=true) {q:Nat} (hq:q < n):p q=true:=List.all_eq_true.1 h q (List.mem_range.2 hq)
section
variable {P:Program} {W0:World} {F:Nat->Prop} {N:NT} {T0:Nat->Prop} {pin:List (Nat×bM)} {Q:Exit->aF->Prop} {st:aF}
theorem BB {id:Nat} {l:List Oper} (aM:List bD) (fin:aF) (fp:List Nat) (hm:P.follows .mixedOrders=true) (hB:rm l.toArray aM N.1 st fin fp=true) (hrows:iT P l.toArray aM l) (hsee:nF st aM aM)
  (hfin:df (fun x=>lu st aM x.1 x.2 (jH aM fp x.1)) fin.s/\df (fun x=>lx st aM x.1 x.2 (jm aM fp x.1)) fin.h) (hk:Q .normal fin):AC P W0 F N T0 pin Q (.region id l.toArray true) st:=by
 rintro a w ⟨σ0,T1,hT1,S0,hp0⟩
 unfold rm at hB
 simp only [Bool.and_eq_true] at hB
 obtain ⟨⟨⟨⟨hall,hlen⟩,hfn⟩,hfs⟩,hfh⟩:=hB
 have hlen:=Nat.eq_of_beq_eq_true hlen
 have tab:∀ i r,aM[i]?=some r->na l.toArray aM N.1 st fin i r=true:=fun i r hr=>by have:=tw hall hr;rwa [Nat.zero_add] at this
 have nbnd:∀ (i:Nat) (r:bD),aM[i]?=some r->(keys r.nb).Nodup:=fun i r hr=>by
  have:=tab i r hr
  simp only [na,Bool.and_eq_true] at this
  exact ju this.1.1.1.2
 have nbk:∀ (i:Nat) (r:bD) k,aM[i]?=some r->k∈keys r.nb->k < fin.n/\(k∈r.E\/(st.n<=k/\∀ q,q < aM.length->q≠i->nG aM k q=true->fS l.toArray q i=true)):=fun i r k hr hk=>by
  have:=tab i r hr
  simp only [na,Bool.and_eq_true] at this
  obtain ⟨x,hx,rfl⟩:=List.mem_map.1 hk
  have h1:=List.all_eq_true.1 this.1.1.2 x hx
  simp only [Bool.and_eq_true,Bool.or_eq_true,Nat.blt_eq] at h1
  refine ⟨h1.1,?_⟩
  rcases h1.2 with h2|⟨h2,h3⟩
  ·exact .inl (eA.1 h2)
  ·refine .inr ⟨Nat.le_of_ble_eq_true h2,fun q hq hne hw=>?_⟩
   have h4:=kj h3 hq
   simp only [Bool.or_eq_true,Bool.not_eq_true'] at h4
   rcases h4 with (h4|h4)|h4
   ·exact absurd (Nat.eq_of_beq_eq_true h4) hne
   ·rw [hw] at h4;cases h4
   ·exact h4
 have srcOK:∀ (wr:Nat->Bool) (i:Nat) (src:Option Nat),tQ l.toArray aM.length wr i src=true->∀ (done:List Nat),oT l.toArray aM.length done->(∀ q∈done,q < aM.length)->i ∉ done->i < aM.length->(∀ j,j < aM.length->fS l.toArray i j=true->j∈done)->
   (src=none/\∀ q∈done,wr q=false)\/∃ j xs ys,src=some j/\done=xs++j::ys/\∀ q∈xs,wr q=false:=by
  intro wr i src hok done hord hdn hi hilt hwait
  cases src with
  |none=>
   refine .inl ⟨rfl,fun q hq=>?_⟩
   cases hw:wr q with
   |false=>rfl
   |true=>
    have h:=kj hok (hdn q hq)
    simp only [Bool.or_eq_true,Bool.not_eq_true'] at h
    rcases h with (h|h)|h
    ·exact absurd (Nat.eq_of_beq_eq_true h▸hq) hi
    ·rw [hw] at h;cases h
    ·exact absurd (hord.wait hq hilt h) hi
  |some j=>
   simp only [tQ,Bool.and_eq_true,Nat.blt_eq] at hok
   obtain ⟨⟨h1,h2⟩,h3⟩:=hok
   have hj:=hwait j h1 h2
   obtain ⟨xs,ys,h4,h5⟩:=hord.split (wr:=wr) hj hdn (fun q hq hne hw=>by
    have h:=kj h3 (hdn q hq)
    simp only [Bool.or_eq_true,Bool.not_eq_true'] at h
    rcases h with (((h|h)|h)|h)|h
    ·exact absurd (Nat.eq_of_beq_eq_true h▸hq) hi
    ·exact absurd (Nat.eq_of_beq_eq_true h) hne
    ·rw [hw] at h;cases h
    ·exact absurd (hord.wait hq hilt h) hi
    ·exact h)
   exact .inr ⟨j,xs,ys,rfl,h4,h5⟩
 have finOK:∀ (wr:Nat->Bool) (src:Option Nat),qT l.toArray aM.length wr src=true->∀ (done:List Nat),oT l.toArray aM.length done->(∀ q∈done,q < aM.length)->(∀ q,q < aM.length->q∈done)->
   (src=none/\∀ q∈done,wr q=false)\/∃ j xs ys,src=some j/\done=xs++j::ys/\∀ q∈xs,wr q=false:=by
  intro wr src hok done hord hdn hall'
  cases src with
  |none=>
   refine .inl ⟨rfl,fun q hq=>?_⟩
   have h:=kj hok (hdn q hq)
   simpa using h
  |some j=>
   simp only [qT,Bool.and_eq_true,Nat.blt_eq] at hok
   obtain ⟨h1,h3⟩:=hok
   obtain ⟨xs,ys,h4,h5⟩:=hord.split (wr:=wr) (hall' j h1) hdn (fun q hq hne hw=>by
    have h:=kj h3 (hdn q hq)
    simp only [Bool.or_eq_true,Bool.not_eq_true'] at h
    rcases h with (h|h)|h
    ·exact absurd (Nat.eq_of_beq_eq_true h) hne
    ·rw [hw] at h;cases h
    ·exact h)
   exact .inr ⟨j,xs,ys,rfl,h4,h5⟩
 have gr:∀ (done:List Nat) x v src,lu st aM x v src->((src=none/\∀ q∈done,pv aM x q=false)\/∃ j xs ys,src=some j/\done=xs++j::ys/\∀ q∈xs,pv aM x q=false)->look (eH st aM done).s x=some v:=by
  intro done x v src hs hc
  rcases hc with ⟨rfl,hc⟩|⟨j,xs,ys,rfl,rfl,hc⟩
  ·rw [pZ fun i hi r hr=>yj hr (hc i hi)];exact hs
  ·obtain ⟨q,h1,h2,rfl⟩:=hs
   exact CR hc h1 h2
 have fU:∀ (done:List Nat) k b src,lx st aM k b src->((src=none/\∀ q∈done,nG aM k q=false)\/∃ j xs ys,src=some j/\done=xs++j::ys/\∀ q∈xs,nG aM k q=false)->look (eH st aM done).h k=some b:=by
  intro done k b src hs hc
  rcases hc with ⟨rfl,hc⟩|⟨j,xs,ys,rfl,rfl,hc⟩
  ·rw [kB fun i hi r hr=>yk hr (hc i hi)];exact hs
  ·obtain ⟨q,h1,h2⟩:=hs
   exact CS hc h1 (nbnd j q h1) h2
 let InvD:Array Bool->Act->World->Prop:=fun listed a w=>HeadInv .any l.toArray aM.length listed/\∃ done:List Nat,(∀ i,i∈done↔i < aM.length/\listed.getD i false=true)/\oT l.toArray aM.length done/\∃ σ T,(∀ b,b < W0.heap.size->(T b->T0 b)/\(T0 b->T b))/\rF W0 F N σ T (eH st aM done) a w/\(∀ k g,look pin k=some g->σ k=some g)/\
  ∀ k,st.n<=k->(∀ i∈done,∀ r,aM[i]?=some r->k ∉ keys r.nb)->σ k=none
 have step:∀ listed a w i o,InvD listed a w->l.toArray[i]?=some o->i < aM.length->i∈Region.ready .any l.toArray listed->wpOp P l.toArray (QX W0 F N T0 pin Q) i (InvD (listed.setIfInBounds i true)) a w:=by
  rintro listed a w i o ⟨H,done,hdone,hord,σ,T,hT,S,hp,hfresh⟩ ho hi hr
  obtain ⟨r,hri⟩:∃ r,aM[i]?=some r:=⟨_,List.getElem?_eq_getElem hi⟩
  have t:=tab i r hri
  simp only [na,Bool.and_eq_true] at t
  obtain ⟨⟨⟨⟨⟨t1,t2⟩,_⟩,_⟩,t5⟩,t6⟩:=t
  obtain ⟨hun,o',ho',hallr⟩:=mem_ready.1 hr
  have hoo:o'=o:=Option.some.inj (ho'.symm.trans ho)
  subst hoo
  rw [ho] at t1
  simp only [Bool.and_eq_true] at t1
  have hnot:i ∉ done:=fun hm=>by have:=((hdone i).1 hm).2;rw [getD_both hun] at this;cases this
  have hdst:o'.dst=r.dst/\∀ d,o'.dst=some d->d < N.1:=by
   cases h1:o'.dst with
   |none=>cases h2:r.dst with
    |none=>exact ⟨rfl,fun d h=>by cases h⟩
    |some d=>rw [h1,h2] at t1;cases t1.1
   |some d=>cases h2:r.dst with
    |none=>rw [h1,h2] at t1;cases t1.1
    |some d'=>
     rw [h1,h2] at t1
     simp only [Bool.and_eq_true,Nat.blt_eq] at t1
     obtain rfl:=Nat.eq_of_beq_eq_true t1.1.1
     exact ⟨rfl,fun d'' h=>by injection h with h;subst h;exact t1.1.2⟩
  have hdn:∀ q∈done,q < aM.length:=fun q hq=>((hdone q).1 hq).1
  have hwait:∀ j,j < aM.length->fS l.toArray i j=true->j∈done:=fun j hj hw=>(hdone j).2 ⟨hj,nH H ho hallr hw⟩
  obtain ⟨hsS,hsH⟩:=hsee.get (List.mem_of_getElem? hri)
  have hs:∀ t x,look r.st.s t=some x->look (eH st aM done).s t=some x:=fun t x hx=>
   gr done t x _ (hsS.mem (t,x) (bH hx)) (srcOK _ i _ (List.all_eq_true.1 t5 (t,x) (bH hx)) done hord hdn hnot hi hwait)
  have hh:∀ k b,look r.st.h k=some b->look (eH st aM done).h k=some b:=fun k b hb=>
   fU done k b _ (hsH.mem (k,b) (bH hb)) (srcOK _ i _ (List.all_eq_true.1 t6 (k,b) (bH hb)) done hord hdn hnot hi hwait)
  have Cr:Core σ T r.st a w:=S.core.sub hs hh
  have fin':∀ σ' T' w' u,Ext σ T w σ' T' w' r.nb r.E->ey σ' T' w' r.v u->InvD (listed.setIfInBounds i true) (a.put o'.dst u) w':=by
   intro σ' T' w' u X hv
   refine ⟨H.set hr hi,i::done,fun j=>?_,⟨hwait,hnot,hord⟩,σ',T',fun b hb=>⟨fun hb'=>(hT b hb).1 (X.grow.kH b (Nat.lt_of_lt_of_le hb S.size) hb'),fun h0=>X.lS b ((hT b hb).2 h0)⟩,?_,fun k g hk=>X.grow.σle _ _ (hp k g hk),fun k hk hkn=>?_⟩
   ·rw [List.mem_cons]
    by_cases e:j=i
    ·subst e
     have hsz:j < listed.size:=by rw [H.size];omega
     simp [hi,hsz]
    ·rw [getD_set_ne false (Ne.symm e)]
     simp [e,hdone]
   ·rw [gz hri,hdst.1]
    refine S.step (fun e he=>?_) (fun d hd=>hdst.2 d (hdst.1▸hd)) X hv
    obtain ⟨⟨e',b⟩,hm,rfl⟩:=List.mem_map.1 (eA.1 (List.all_eq_true.1 t2 e he))
    cases hl:look r.h e' with
    |none=>exact absurd hl (jw hm)
    |some b'=>exact ⟨b',hh e' b' hl⟩
   ·rw [X.wQ k fun b hb=>hkn i List.mem_cons_self r hri (List.mem_map.2 ⟨(k,b),hb,rfl⟩)]
    exact hfresh k hk fun j hj=>hkn j (List.mem_cons_of_mem _ hj)
  obtain ⟨o2,ho2,hro⟩:=hrows.get hri
  have:o2=o':=by
   have h1:l.toArray[i]?=some o2:=by simpa using ho2
   exact Option.some.inj (h1.symm.trans ho)
  subst this
  rcases hro with ⟨hw,hg⟩|⟨hw,hv,hnb,hE⟩
  ·refine qA ho (hw σ T a w Cr) (mP (gX (hg σ T a w Cr fun k b hk hkE=>?_) ?_))
   ·obtain ⟨_,h1|⟨h1,h2⟩⟩:=nbk i r k hri (List.mem_map.2 ⟨(k,b),hk,rfl⟩)
    ·exact absurd h1 hkE
    ·refine hfresh k h1 fun j hj q hq hkq=>?_
     have hne:j≠i:=fun e=>hnot (e▸hj)
     have hwq:nG aM k j=true:=by
      unfold nG;rw [hq];simp only [Bool.or_eq_true];exact .inr (eA.2 hkq)
     exact hnot (hord.wait hj hi (h2 j (hdn j hj) hne hwq))
   ·rintro a' w' ⟨u,σ',T',rfl,X,hv⟩
    exact fin' σ' T' w' u X hv
  ·refine nT ho (hw σ T a w Cr) (fin' σ T w undef ?_ ?_)
   ·rw [hnb,hE];exact Ext.same S.core.en
   ·rw [hv];exact ⟨[],rfl,trivial⟩
 have atEnd:∀ listed a w,InvD listed a w->(∀ i,i < aM.length->listed.getD i false=true)->Inv W0 F N T0 pin fin a w:=by
  rintro listed a w ⟨H,done,hdone,hord,σ,T,hT,S,hp,hfresh⟩ hl
  have hdn:∀ q∈done,q < aM.length:=fun q hq=>((hdone q).1 hq).1
  have bL:∀ q,q < aM.length->q∈done:=fun q hq=>(hdone q).2 ⟨hq,hl q hq⟩
  have hs:∀ t x,look fin.s t=some x->look (eH st aM done).s t=some x:=fun t x hx=>
   gr done t x _ (hfin.1.mem (t,x) (bH hx)) (finOK _ _ (List.all_eq_true.1 hfs (t,x) (bH hx)) done hord hdn bL)
  have hfhx:∀ k b,look fin.h k=some b->k < fin.n/\qT l.toArray aM.length (nG aM k) (jm aM fp k)=true:=fun k b hb=>by
   have:=List.all_eq_true.1 hfh _ (bH hb)
   simpa only [Bool.and_eq_true,Nat.blt_eq] using this
  have hh:∀ k b,look fin.h k=some b->look (eH st aM done).h k=some b:=fun k b hb=>
   fU done k b _ (hfin.2.mem (k,b) (bH hb)) (finOK _ _ (hfhx k b hb).2 done hord hdn bL)
  refine ⟨σ,T,hT,⟨S.core.sub hs hh,S.os,S.tape,S.output,S.size,S.cx,fun k b g hk=>S.own k b g (hh k b hk),fun k hk=>?_,fun k b hk=>(hfhx k b hk).1,S.jj,S.iR⟩,hp⟩
  have hk1:=Nat.le_of_ble_eq_true hfn
  exact hfresh k (by omega) fun i _ r hr hkr=>by have:=(nbk i r k hr hkr).1;omega
 have main:∀ k listed a1 w1,InvD listed a1 w1->ik aM.length listed=k->wpAny P .any l.toArray (QX W0 F N T0 pin Q) k listed a1 w1:=by
  intro k
  induction k with
  |zero=>
   intro listed a1 w1 I hk'
   have hl:∀ i,i < aM.length->listed.getD i false=true:=fun i hi=>by
    have h:=List.eq_nil_of_length_eq_zero hk'
    have h2:=List.filter_eq_nil_iff.1 h i (List.mem_range.2 hi)
    simpa using h2
   have hIf:=atEnd listed a1 w1 I hl
   refine ⟨List.eq_nil_iff_forall_not_mem.2 fun i hi=>?_,fin,hk,hIf⟩
   obtain ⟨h1,o,ho,_⟩:=mem_ready.1 hi
   have hi':i < l.toArray.size:=(Array.getElem?_eq_some_iff.1 ho).1
   have:=hl i (by omega)
   rw [getD_both h1] at this;cases this
  |succ k ih=>
   intro listed a1 w1 I hk'
   have hex:∃ i,i < aM.length/\listed.getD i false=false/\∀ j,j < i->listed.getD j false=true:=by
    have h1:∃ i,i < aM.length/\listed.getD i false=false:=by
     have hne:((List.range aM.length).filter fun i=>!listed.getD i false)≠[]:=fun e=>by unfold ik at hk';rw [e] at hk';cases hk'
     obtain ⟨x,hx⟩:=List.exists_mem_of_ne_nil _ hne
     obtain ⟨hx1,hx2⟩:=List.mem_filter.1 hx
     exact ⟨x,List.mem_range.1 hx1,by simpa using hx2⟩
    obtain ⟨i,hi,hmin⟩:=exists_least h1
    refine ⟨i,hi.1,hi.2,fun j hj=>?_⟩
    cases hjl:listed.getD j false with
    |true=>rfl
    |false=>exact absurd (hmin j ⟨by omega,hjl⟩) (by omega)
   obtain ⟨i0,hi0,hun0,hlow⟩:=hex
   have hopi:∀ i,i < aM.length->∃ o,l.toArray[i]?=some o:=fun i hi=>⟨_,Array.getElem?_eq_getElem (by omega)⟩
   have bL:∀ i,i < aM.length->listed.getD i false=false->listed.getD i true=false:=fun i hi h=>getD_in (by rw [I.1.size];omega) h
   have hready:i0∈Region.ready .any l.toArray listed:=by
    obtain ⟨o,ho⟩:=hopi i0 hi0
    obtain ⟨r,hr⟩:∃ r,aM[i0]?=some r:=⟨_,List.getElem?_eq_getElem hi0⟩
    have t:=tab i0 r hr
    simp only [na,Bool.and_eq_true] at t
    have t1:=t.1.1.1.1.1
    rw [ho] at t1
    simp only [Bool.and_eq_true] at t1
    refine mem_ready.2 ⟨bL i0 hi0 hun0,o,ho,fun e he hb=>hlow _ ?_⟩
    have h3:=Array.all_eq_true'.1 t1.2 e he
    simp only [Bool.or_eq_true,Bool.not_eq_true',Nat.blt_eq] at h3
    exact h3.resolve_left (by rw [hb];simp)
   refine ⟨fun h=>(by rw [h] at hready;cases hready),fun i hi=>?_⟩
   have hilt:i < aM.length:=by
    obtain ⟨_,o,ho,_⟩:=mem_ready.1 hi
    have hi':i < l.toArray.size:=(Array.getElem?_eq_some_iff.1 ho).1
    omega
   obtain ⟨o,ho⟩:=hopi i hilt
   refine wpOp_mono (fun a' w' I'=>ih _ a' w' I' ?_) (step listed a1 w1 i o I ho hilt hi)
   have hunl:=getD_both (mem_ready.1 hi).1
   have hset:(listed.setIfInBounds i true).getD i false=true:=by
    have:i < listed.size:=by rw [I.1.size];omega
    simp [this]
   have:=count_set (p:=fun j=>!listed.getD j false) (q:=fun j=>!(listed.setIfInBounds i true).getD j false) (i:=i) (by simp only [hunl];rfl) (by simp only [hset];rfl)
    (fun j hj=>by simp only [getD_set_ne false (Ne.symm hj)]) (List.range aM.length) List.nodup_range (List.mem_range.2 hilt)
   unfold ik at hk' ⊢
   omega
 refine wp_region_any hm ?_
 have inv0:HeadInv .any l.toArray aM.length (Array.replicate l.toArray.size false):=
  ⟨by simp,fun j oj _ hl=>(by rw [getD_replicate_false] at hl;cases hl),fun t _ ht=>getD_in (by simpa using ht) (getD_replicate_false _ _)⟩
 have hw0:rF W0 F N σ0 T1 st a {w with drawn:=w.drawn+1}:=
  ⟨S0.core.drew,S0.os,S0.tape,S0.output,S0.size,S0.cx,S0.own,S0.next,S0.hn,S0.jj,S0.iR⟩
 have I0:InvD (Array.replicate l.toArray.size false) a {w with drawn:=w.drawn+1}:=
  ⟨inv0,[],fun i=>by rw [getD_replicate_false];simp,trivial,σ0,T1,hT1,hw0,hp0,fun k hk _=>S0.next k hk⟩
 have:=main aM.length _ a _ I0 (by
  unfold ik
  rw [List.filter_eq_self.2 (fun i _=>by rw [getD_replicate_false];rfl),List.length_range])
 rw [hlen] at this
 exact this
end
end

structure bS where (aK ay sum time:Int)
 deriving DecidableEq
structure cU where (time sum:Int)
 deriving DecidableEq
structure bl where (number kind ba sum:Int)
 deriving DecidableEq
structure Entry where (aO sum:Int)
 deriving DecidableEq
structure al where (ay ba kind sum:Int)
 deriving DecidableEq
structure di where (cH count sum:Int)
 deriving DecidableEq
structure cV where (err at_:Int)
 deriving DecidableEq
structure bC where (bu held:Int) (ca:di) (cL:List cU)
 deriving DecidableEq
structure bU where (bV:Int) (kept:List bl)
 deriving DecidableEq
def rI (n:Int):List D:=[dI n]
def nJ (n:Int):List D:=[.v (.int .u8 n)]
def hP (x:bS):List D:=[dI x.aK,dI x.ay,dI x.sum,dI x.time]
def gJ (x:cU):List D:=[dI x.time,dI x.sum]
def fq (x:bl):List D:=[dI x.number,dI x.kind,dI x.ba,dI x.sum]
def er (x:Entry):List D:=[dI x.aO,dI x.sum]
def gK (x:al):List D:=[dI x.ay,dI x.ba,dI x.kind,dI x.sum]
def tO (l:List cU):List D:=[.r 2 (l.map gJ)]
theorem Dh (l:List Int):∀ row∈l.map rI,∀ d∈row,d.mE=true:=by
 intro row hr d hd
 obtain ⟨x,_,rfl⟩:=List.mem_map.1 hr
 simp [rI] at hd
 subst hd;rfl
theorem Cl (l:List Int):∀ row∈l.map nJ,∀ d∈row,d.mE=true:=by
 intro row hr d hd
 obtain ⟨x,_,rfl⟩:=List.mem_map.1 hr
 simp [nJ] at hd
 subst hd;rfl
theorem Au (l:List cU):∀ row∈l.map gJ,∀ d∈row,d.mE=true:=by
 intro row hr d hd
 obtain ⟨x,_,rfl⟩:=List.mem_map.1 hr
 simp [gJ] at hd
 rcases hd with rfl|rfl<;>rfl
theorem tE (l:List bl):∀ row∈l.map fq,∀ d∈row,d.mE=true:=by
 intro row hr d hd
 obtain ⟨x,_,rfl⟩:=List.mem_map.1 hr
 simp [fq] at hd
 rcases hd with rfl|rfl|rfl|rfl<;>rfl
theorem xE (l:List Entry):∀ row∈l.map er,∀ d∈row,d.mE=true:=by
 intro row hr d hd
 obtain ⟨x,_,rfl⟩:=List.mem_map.1 hr
 simp [er] at hd
 rcases hd with rfl|rfl<;>rfl
theorem vL (l:List al):∀ row∈l.map gK,∀ d∈row,d.mE=true:=by
 intro row hr d hd
 obtain ⟨x,_,rfl⟩:=List.mem_map.1 hr
 simp [gK] at hd
 rcases hd with rfl|rfl|rfl|rfl<;>rfl
def bd (n:Int):Bool:=decide (n>=0) && decide (n<=1000000)
structure bz where (aK ay sum captured bw bm cP:Int) (shut:Bool)
 deriving DecidableEq
def iP:bz:=⟨0,0,0,0,0,0,0,false⟩
def bG (a:bz):Int:=
 if a.sum < 0\/a.sum > 1000000\/a.captured < 0\/a.captured > 1000000\/a.bw < 0\/a.bw > 1000000\/a.bm < 0\/a.bm > 1000000\/a.aK < 0\/a.aK > 7\/a.ay < 0\/a.ay > 7\/a.cP < 0\/a.cP > 1000100 then 3
 else if a.sum < a.captured\/a.captured < a.bw+a.bm then 8 else 0
def cZ (aK ay n time:Int):bz×Int:=
 if n < 1\/n > 1000000\/time < 0\/time > 1000000\/aK < 0\/aK > 7\/ay < 0\/ay > 7 then (iP,3) else (⟨aK,ay,n,0,0,0,time+100,false⟩,0)
def bJ (a:bz):Int:=if a.shut=true then 0 else a.sum - a.captured
def dT (a:bz) (t:Int):bz:=⟨a.aK,a.ay,a.sum,a.captured,a.bw,a.bm,a.cP,a.shut||decide (a.cP<=t)⟩
def dF (a:bz) (kind n:Int):bz×Int:=
 if a.shut=true then (a,9)
 else if kind=1 then (if n > 1000000 - a.sum then (a,4) else (⟨a.aK,a.ay,a.sum+n,a.captured,a.bw,a.bm,a.cP,false⟩,0))
 else if n > a.sum - a.captured then (a,10)
 else if kind=4 then (⟨a.aK,a.ay,a.sum - n,a.captured,a.bw,a.bm,a.cP,decide (a.sum - n=a.captured)⟩,0)
 else (⟨a.aK,a.ay,a.sum,a.captured+n,a.bw,a.bm,a.cP,decide (kind=3)||decide (a.captured+n=a.sum)⟩,0)
def ck (a:bz) (kind n:Int):bz×Int:=
 if bG a≠0 then (iP,bG a)
 else if kind < 1\/kind > 8 then (iP,1)
 else if n < 1\/n > 1000000 then (iP,3)
 else if kind=5 then (if n > a.captured - a.bw - a.bm then (iP,10) else (⟨a.aK,a.ay,a.sum,a.captured,a.bw+n,a.bm,a.cP,a.shut⟩,0))
 else if kind=6 then (if n > a.captured - a.bw - a.bm then (iP,10) else (⟨a.aK,a.ay,a.sum,a.captured,a.bw,a.bm+n,a.cP,a.shut⟩,0))
 else if kind=7 then (if n > a.bm then (iP,10) else (⟨a.aK,a.ay,a.sum,a.captured,a.bw+n,a.bm - n,a.cP,a.shut⟩,0))
 else if kind=8 then (if n > a.bm then (iP,10) else (⟨a.aK,a.ay,a.sum,a.captured,a.bw,a.bm - n,a.cP,a.shut⟩,0))
 else if (dF a kind n).2≠0 then (iP,(dF a kind n).2) else dF a kind n
theorem eI {a:bz} (h:bG a=0):0<=a.sum/\a.sum<=1000000/\0<=a.captured/\a.captured<=a.sum/\0<=a.bw/\0<=a.bm/\a.bw+a.bm<=a.captured/\0<=a.aK/\a.aK<=7/\0<=a.ay/\a.ay<=7/\0<=a.cP/\a.cP<=1000100:=by
 unfold bG at h
 split at h
 ·cases h
 ·split at h
  ·cases h
  ·omega
theorem qO {a:bz} (h:0<=a.sum/\a.sum<=1000000/\0<=a.captured/\a.captured<=a.sum/\0<=a.bw/\0<=a.bm/\a.bw+a.bm<=a.captured/\0<=a.aK/\a.aK<=7/\0<=a.ay/\a.ay<=7/\0<=a.cP/\a.cP<=1000100):bG a=0:=by
 unfold bG
 rw [if_neg (by omega),if_neg (by omega)]
inductive jE (a:bz) (kind n:Int):bz->Prop
 |more (h:kind=1) (hs:a.shut=false) (hn:n<=1000000 - a.sum):jE a kind n ⟨a.aK,a.ay,a.sum+n,a.captured,a.bw,a.bm,a.cP,false⟩
 |take (h:kind=2\/kind=3) (hs:a.shut=false) (hn:n<=a.sum - a.captured):jE a kind n ⟨a.aK,a.ay,a.sum,a.captured+n,a.bw,a.bm,a.cP,decide (kind=3)||decide (a.captured+n=a.sum)⟩
 |less (h:kind=4) (hs:a.shut=false) (hn:n<=a.sum - a.captured):jE a kind n ⟨a.aK,a.ay,a.sum - n,a.captured,a.bw,a.bm,a.cP,decide (a.sum - n=a.captured)⟩
 |uw (h:kind=5) (hn:n<=a.captured - a.bw - a.bm):jE a kind n ⟨a.aK,a.ay,a.sum,a.captured,a.bw+n,a.bm,a.cP,a.shut⟩
 |sg (h:kind=6) (hn:n<=a.captured - a.bw - a.bm):jE a kind n ⟨a.aK,a.ay,a.sum,a.captured,a.bw,a.bm+n,a.cP,a.shut⟩
 |sc (h:kind=7) (hn:n<=a.bm):jE a kind n ⟨a.aK,a.ay,a.sum,a.captured,a.bw+n,a.bm - n,a.cP,a.shut⟩
 |sb (h:kind=8) (hn:n<=a.bm):jE a kind n ⟨a.aK,a.ay,a.sum,a.captured,a.bw,a.bm - n,a.cP,a.shut⟩
theorem qd {a:bz} {kind n:Int} {b:bz} {e:Int} (h:ck a kind n=(b,e)):(e≠0/\b=iP)\/(e=0/\bG a=0/\1<=n/\n<=1000000/\jE a kind n b):=by
 unfold ck at h
 split at h
 ·rename_i h1;injection h with h2 h3;exact .inl ⟨h3▸h1,h2.symm⟩
 rename_i h1
 have h1:bG a=0:=by omega
 split at h
 ·injection h with h2 h3;exact .inl ⟨by omega,h2.symm⟩
 split at h
 ·injection h with h2 h3;exact .inl ⟨by omega,h2.symm⟩
 split at h
 ·split at h
  ·injection h with h2 h3;exact .inl ⟨by omega,h2.symm⟩
  ·injection h with h2 h3;subst h2;exact .inr ⟨h3.symm,h1,by omega,by omega,.uw (by omega) (by omega)⟩
 split at h
 ·split at h
  ·injection h with h2 h3;exact .inl ⟨by omega,h2.symm⟩
  ·injection h with h2 h3;subst h2;exact .inr ⟨h3.symm,h1,by omega,by omega,.sg (by omega) (by omega)⟩
 split at h
 ·split at h
  ·injection h with h2 h3;exact .inl ⟨by omega,h2.symm⟩
  ·injection h with h2 h3;subst h2;exact .inr ⟨h3.symm,h1,by omega,by omega,.sc (by omega) (by omega)⟩
 split at h
 ·split at h
  ·injection h with h2 h3;exact .inl ⟨by omega,h2.symm⟩
  ·injection h with h2 h3;subst h2;exact .inr ⟨h3.symm,h1,by omega,by omega,.sb (by omega) (by omega)⟩
 split at h
 ·rename_i h4;injection h with h2 h3;exact .inl ⟨h3▸h4,h2.symm⟩
 ·rename_i h4
  unfold dF at h h4
  split at h
  ·rename_i h5;rw [if_pos h5] at h4;simp at h4
  rename_i h5
  rw [if_neg h5] at h4
  have h5:a.shut=false:=by simpa using h5
  split at h
  ·rename_i h6;rw [if_pos h6] at h4
   split at h
   ·rename_i h7;rw [if_pos h7] at h4;simp at h4
   ·injection h with h2 h3;subst h2;exact .inr ⟨h3.symm,h1,by omega,by omega,.more (by omega) h5 (by omega)⟩
  rename_i h6;rw [if_neg h6] at h4
  split at h
  ·rename_i h7;rw [if_pos h7] at h4;simp at h4
  split at h
  ·injection h with h2 h3;subst h2;exact .inr ⟨h3.symm,h1,by omega,by omega,.less (by omega) h5 (by omega)⟩
  ·injection h with h2 h3;subst h2;exact .inr ⟨h3.symm,h1,by omega,by omega,.take (by omega) h5 (by omega)⟩
theorem vK {a b:bz} {kind n:Int} (h:bG a=0) (h1:1<=n) (h2:n<=1000000) (hm:jE a kind n b):bG b=0:=by
 have hr:=eI h
 cases hm<;>exact qO (by dsimp only;omega)
theorem vz {a b:bz} (h1:a.aK=b.aK) (h2:a.ay=b.ay) (h3:a.sum=b.sum) (h4:a.captured=b.captured) (h5:a.bw=b.bw) (h6:a.bm=b.bm) (h7:a.cP=b.cP) (h8:a.shut=b.shut):a=b:=by
 cases a;cases b;simp_all
theorem pD {a b:bz} {kind n:Int} (h:ck a kind n=(b,0)):bG b=0/\b.aK=a.aK/\b.ay=a.ay/\b.cP=a.cP/\(a.shut=true->b.shut=true)/\0<=b.sum - b.captured/\b.bw+b.bm<=b.captured/\a.captured<=b.captured/\a.bw<=b.bw:=by
 rcases qd h with ⟨h1,_⟩|⟨_,hw,h1,h2,hm⟩
 ·exact absurd rfl h1
 have hb:=vK hw h1 h2 hm
 have hr:=eI hw
 have hrb:=eI hb
 cases hm<;>refine ⟨hb,rfl,rfl,rfl,?_⟩<;>simp_all<;>omega
theorem qo {α:Type} {l:List α} {q:Nat} {x:α} (h:l[q]?=some x):l.drop q=x::l.drop (q+1):=by
 obtain ⟨hq,rfl⟩:=List.getElem?_eq_some_iff.1 h
 exact List.drop_eq_getElem_cons hq
theorem im {α:Type} {l:List α} {q:Nat} {x:α} (h:l[q]?=some x):l.take (q+1)=l.take q++[x]:=by
 obtain ⟨hq,rfl⟩:=List.getElem?_eq_some_iff.1 h
 exact List.take_succ_eq_append_getElem hq
structure cr where (cap:Int) (used:List Int) (aU:List bS)
 deriving DecidableEq

def fZ (n:Int):Bool:=decide (0<=n/\n<=1000000)
def fH (ao:Nat) (a:bS):Bool:=
 decide (0<=a.aK/\a.aK < ao/\0<=a.ay/\a.ay<=7/\1<=a.sum/\a.sum<=1000000/\0<=a.time/\a.time<=1000000)
def given (k:Int):List bS->Int
 |[]=>0
 |a::l=>(if a.aK=k then a.sum else 0)+given k l
def eK (cap:Int) (advs:List bS):Int->List Int->Int
 |_,[]=>0
 |k,n::l=>if n=given k advs/\n<=cap then eK cap advs (k+1) l else 8
def bO (s:cr):Int:=
 if 8 < s.used.length\/20 < s.aU.length then 5
 else if ¬fZ s.cap then 3
 else if ¬s.aU.all (fH s.used.length) then 3
 else eK s.cap s.aU 0 s.used
def eZ:cr:={cap:=0,used:=[],aU:=[]}
def dq (bA ao:Int):cr×Int:=
 if ao < 0\/8 < ao then (eZ,5) else if ¬fZ bA then (eZ,3) else ({cap:=bA,used:=List.replicate ao.toNat 0,aU:=[]},0)
def bW (s:cr) (a:bS):cr×Int:=
 if bO s≠0 then (eZ,bO s)
 else if 20<=s.aU.length then (eZ,5)
 else if ¬fH s.used.length a then (eZ,3)
 else if s.cap < s.used.getD a.aK.toNat 0+a.sum then (eZ,10)
 else ({cap:=s.cap,used:=s.used.set a.aK.toNat (s.used.getD a.aK.toNat 0+a.sum),aU:=s.aU++[a]},0)
def cM (s:cr):cr×List bS×Int:=
 if bO s≠0 then (eZ,[],bO s) else ({cap:=s.cap,used:=List.replicate s.used.length 0,aU:=[]},s.aU,0)

theorem nr (k:Int) (l:List bS) (a:bS):given k (l++[a])=given k l+if a.aK=k then a.sum else 0:=by
 induction l with
 |nil=>simp [given]
 |cons x l ih=>simp only [List.cons_append,given,ih];omega
theorem pG (c:Nat) (k:Int) (l:List bS) (h:l.all (fH c)=true):0<=given k l/\given k l<=1000000 * l.length:=by
 induction l with
 |nil=>simp [given]
 |cons x l ih=>
  simp only [List.all_cons,Bool.and_eq_true,fH,decide_eq_true_eq] at h
  have:=ih h.2
  simp only [given,List.length_cons]
  split<;>omega
theorem Ei {α:Type} {p:α->Bool} {l:List α} {q:Nat} {x:α} (h:l[q]?=some x) (hx:p x=false):l.all p=false:=by
 rw [List.all_eq_false]
 exact ⟨x,List.mem_of_getElem? h,by simp [hx]⟩
theorem wX {α:Type} {p:α->Bool} {l:List α} {q:Nat} {x:α} (ht:(l.take q).all p=true) (h:l[q]?=some x) (hx:p x=true):(l.take (q+1)).all p=true:=by
 rw [im h,List.all_append,ht];simp [hx]
theorem nS {s:cr} (h:8 < s.used.length\/20 < s.aU.length):bO s=5:=by unfold bO;rw [if_pos h]
theorem mv {s:cr} (h:¬(8 < s.used.length\/20 < s.aU.length)) (hc:fZ s.cap=false):bO s=3:=by unfold bO;rw [if_neg h,hc];rfl
theorem jG {s:cr} (h:¬(8 < s.used.length\/20 < s.aU.length)) (hc:fZ s.cap=true) (ha:s.aU.all (fH s.used.length)=false):bO s=3:=by
 unfold bO;rw [if_neg h,hc,ha];rfl
theorem gi {s:cr} (h:¬(8 < s.used.length\/20 < s.aU.length)) (hc:fZ s.cap=true) (ha:s.aU.all (fH s.used.length)=true):bO s=eK s.cap s.aU 0 s.used:=by
 unfold bO;rw [if_neg h,hc,ha];rfl


theorem gh (cap:Int) (advs:List bS):∀ (l:List Int) (k:Int),eK cap advs k l=0↔∀ (i:Nat) (x:Int),l[i]?=some x->x=given (k+i) advs/\x<=cap
 |[],k=>by simp [eK]
 |n::l,k=>by
  rw [eK]
  constructor
  ·intro h i x hx
   split at h
   ·rename_i hc
    rcases i with _|i
    ·simp at hx;subst hx;simpa using hc
    ·have:=(gh cap advs l (k+1)).1 h i x (by simpa using hx)
     rw [show k+((i+1:Nat):Int)=k+1+i by omega];exact this
   ·cases h
  ·intro h
   rw [if_pos (by simpa using h 0 n rfl)]
   exact (gh cap advs l (k+1)).2 fun i x hx=>by
    have:=h (i+1) x (by simpa using hx)
    rwa [show k+((i+1:Nat):Int)=k+1+i by omega] at this
theorem pH (cap:Int) (advs:List bS):∀ (l:List Int) (k:Int),eK cap advs k l=0\/eK cap advs k l=8
 |[],_=>.inl rfl
 |n::l,k=>by
  rw [eK]
  split
  ·exact pH cap advs l (k+1)
  ·exact .inr rfl
theorem gd {s:cr} (h:bO s=0):s.used.length<=8/\s.aU.length<=20/\fZ s.cap=true/\s.aU.all (fH s.used.length)=true/\eK s.cap s.aU 0 s.used=0:=by
 by_cases h1:8 < s.used.length\/20 < s.aU.length
 ·rw [nS h1] at h;omega
 ·cases hc:fZ s.cap with
  |false=>rw [mv h1 hc] at h;omega
  |true=>
   cases ha:s.aU.all (fH s.used.length) with
   |false=>rw [jG h1 hc ha] at h;omega
   |true=>rw [gi h1 hc ha] at h;exact ⟨by omega,by omega,rfl,rfl,h⟩
theorem uR {s:cr} {a:bS} (h:bO s=0) (hm:s.aU.length < 20) (ha:fH s.used.length a=false) (u:List Int) (hu:u.length=s.used.length):bO {cap:=s.cap,used:=u,aU:=s.aU++[a]}=3:=by
 obtain ⟨h1,h2,h3,h4,h5⟩:=gd h
 exact jG (by simp only [List.length_append,List.length_singleton];omega) h3 (by simp [hu,ha])
theorem AA {s:cr} {a:bS} (h:bO s=0) (hm:s.aU.length < 20) (ha:fH s.used.length a=true):
  bO {cap:=s.cap,used:=s.used.set a.aK.toNat (s.used.getD a.aK.toNat 0+a.sum),aU:=s.aU++[a]}=if s.cap < s.used.getD a.aK.toNat 0+a.sum then 8 else 0:=by
 obtain ⟨h1,h2,h3,h4,h5⟩:=gd h
 have hok:=ha
 simp only [fH,decide_eq_true_eq] at hok
 have hlt:a.aK.toNat < s.used.length:=by omega
 have hgx:s.used[a.aK.toNat]?=some s.used[a.aK.toNat]:=List.getElem?_eq_getElem hlt
 have hgd:s.used.getD a.aK.toNat 0=s.used[a.aK.toNat]:=by simp [hlt]
 have hu:(s.used.set a.aK.toNat (s.used.getD a.aK.toNat 0+a.sum)).length=s.used.length:=List.length_set
 have h6:bO {cap:=s.cap,used:=s.used.set a.aK.toNat (s.used.getD a.aK.toNat 0+a.sum),aU:=s.aU++[a]}=eK s.cap (s.aU++[a]) 0 (s.used.set a.aK.toNat (s.used.getD a.aK.toNat 0+a.sum)):=by
  refine gi ?_ h3 ?_
  ·simp only [List.length_append,List.length_singleton,hu];omega
  ·simp only [hu,List.all_append,h4,List.all_cons,ha,List.all_nil];rfl
 rw [h6]
 have key:=(gh s.cap s.aU s.used 0).1 h5
 by_cases hc:s.cap < s.used.getD a.aK.toNat 0+a.sum
 ·rw [if_pos hc]
  rcases pH s.cap (s.aU++[a]) (s.used.set a.aK.toNat (s.used.getD a.aK.toNat 0+a.sum)) 0 with h0|h0
  ·have:=(gh _ _ _ _).1 h0 a.aK.toNat (s.used.getD a.aK.toNat 0+a.sum) (by simp [hlt])
   omega
  ·exact h0
 ·rw [if_neg hc]
  refine (gh _ _ _ _).2 fun i x hx=>?_
  rw [List.getElem?_set] at hx
  rw [nr]
  by_cases e:a.aK.toNat=i
  ·rw [if_pos e,if_pos (by omega)] at hx
   injection hx with hx
   have:=key i s.used[a.aK.toNat] (by rw [<-e];exact hgx)
   rw [if_pos (by omega)]
   omega
  ·rw [if_neg e] at hx
   have:=key i x hx
   rw [if_neg (by omega)]
   omega

theorem kP {s:cr} {a:bS} (h:bO s=0) (hm:s.aU.length < 20):
  (bO {cap:=s.cap,used:=s.used.set a.aK.toNat (s.used.getD a.aK.toNat 0+a.sum),aU:=s.aU++[a]}=3/\bW s a=(eZ,3))\/
  (bO {cap:=s.cap,used:=s.used.set a.aK.toNat (s.used.getD a.aK.toNat 0+a.sum),aU:=s.aU++[a]}=8/\bW s a=(eZ,10))\/
  (bO {cap:=s.cap,used:=s.used.set a.aK.toNat (s.used.getD a.aK.toNat 0+a.sum),aU:=s.aU++[a]}=0/\
   bW s a=({cap:=s.cap,used:=s.used.set a.aK.toNat (s.used.getD a.aK.toNat 0+a.sum),aU:=s.aU++[a]},0)):=by
 cases ha:fH s.used.length a with
 |false=>exact .inl ⟨uR h hm ha _ List.length_set,by unfold bW;rw [if_neg (by simp [h]),if_neg (by omega),ha];rfl⟩
 |true=>
  rw [AA h hm ha]
  by_cases hc:s.cap < s.used.getD a.aK.toNat 0+a.sum
  ·exact .inr (.inl ⟨if_pos hc,by unfold bW;rw [if_neg (by simp [h]),if_neg (by omega),if_neg (by simp [ha]),if_pos hc]⟩)
  ·exact .inr (.inr ⟨if_neg hc,by unfold bW;rw [if_neg (by simp [h]),if_neg (by omega),if_neg (by simp [ha]),if_neg hc]⟩)
theorem qg {s:cr} {a:bS} (h:bO s=0) (hm:s.aU.length < 20) (ha:¬(0<=a.aK/\a.aK < s.used.length/\1<=a.sum/\a.sum<=1000000)):
  bO {cap:=s.cap,used:=s.used,aU:=s.aU++[a]}=3/\bW s a=(eZ,3):=by
 have ha:fH s.used.length a=false:=by simp only [fH,decide_eq_false_iff_not];omega
 exact ⟨uR h hm ha _ rfl,by unfold bW;rw [if_neg (by simp [h]),if_neg (by omega),ha];rfl⟩
theorem xH {s:cr} {a:bS} (h:bO s≠0):bW s a=(eZ,bO s):=by unfold bW;rw [if_pos h]
theorem te {s:cr} {a:bS} (h:bO s=0) (hm:s.aU.length=20):bW s a=(eZ,5):=by unfold bW;rw [if_neg (by simp [h]),if_pos (by omega)]
theorem mQ {s:cr} (h:bO s=0) {i:Nat} {x:Int} (hx:s.used[i]?=some x):0<=x/\x<=1000000:=by
 obtain ⟨h1,h2,h3,h4,h5⟩:=gd h
 have:=(gh s.cap s.aU s.used 0).1 h5 i x hx
 have hg:=pG s.used.length (0+i) s.aU h4
 simp only [fZ,decide_eq_true_eq] at h3
 omega

theorem tD {l c:Int} (h:c < 0\/8 < c):dq l c=(eZ,5):=by unfold dq;rw [if_pos h]
theorem rW {l c:Int} (h:¬(c < 0\/8 < c)) (h':¬(0<=l/\l<=1000000)):dq l c=(eZ,3):=by unfold dq;rw [if_neg h,if_pos (by simpa [fZ] using h')]
theorem pE {l:Int} {c:Nat} (h:c<=8) (h':0<=l/\l<=1000000):dq l c=({cap:=l,used:=List.replicate c 0,aU:=[]},0):=by
 unfold dq;rw [if_neg (by omega),if_neg (by simpa [fZ] using h')];simp

theorem rk {s:cr} {a:bS} (h:bO s=0) (hg:(bW s a).2=0):
  bO (bW s a).1=0/\(bW s a).1.cap=s.cap/\(bW s a).1.used.length=s.used.length/\(bW s a).1.aU=s.aU++[a]/\s.aU.length < 20:=by
 have hp:=gd h
 by_cases hm:s.aU.length=20
 ·rw [te h hm] at hg;cases hg
 ·have hm:s.aU.length < 20:=by omega
  rcases kP (a:=a) h hm with ⟨_,h2⟩|⟨_,h2⟩|⟨h1,h2⟩
  ·rw [h2] at hg;cases hg
  ·rw [h2] at hg;cases hg
  ·rw [h2];exact ⟨h1,rfl,List.length_set,rfl,hm⟩
theorem ow (l:Int) (n:Nat) (hn:n<=8) (h0:0<=l) (h1:l<=1000000):bO {cap:=l,used:=List.replicate n 0,aU:=[]}=0:=by
 rw [gi (by simp;omega) (by simp [fZ];omega) (by simp)]
 refine (gh _ _ _ _).2 fun i x hx=>?_
 obtain ⟨_,rfl⟩:=List.getElem?_eq_some_iff.1 hx
 simp [given];omega


def iz (n:Nat) (l:List bS):List Int:=(List.range n).map fun (k:Nat)=>given (k:Int) l
theorem de (n:Nat) (l:List bS):(iz n l).length=n:=by simp [iz]
theorem yr (n:Nat):List.replicate n 0=iz n []:=by simp [iz,given,List.map_const']
theorem sE {n:Nat} {l:List bS} {i:Nat} {x:Int} (h:(iz n l)[i]?=some x):x=given (i:Int) l:=by
 simp only [iz,List.getElem?_map,Option.map_eq_some_iff] at h
 obtain ⟨k,hk,rfl⟩:=h
 obtain ⟨h1,rfl⟩:=List.getElem?_eq_some_iff.1 hk
 simp
theorem yq {n:Nat} {l:List bS} {a:bS} {i:Nat} {v:Int} (h0:a.aK=(i:Int)) (h1:i < n) (hv:v=given a.aK l+a.sum):(iz n l).set i v=iz n (l++[a]):=by
 apply List.ext_getElem?
 intro j
 rw [List.getElem?_set]
 simp only [iz,List.length_map,List.length_range,List.getElem?_map,nr]
 by_cases hj:j < n
 ·rw [List.getElem?_range hj,Option.map_some,Option.map_some]
  by_cases e:i=j
  ·rw [if_pos e,if_pos h1,if_pos (by omega),hv,h0,e]
  ·rw [if_neg e,if_neg (by omega),Int.add_zero]
 ·rw [if_neg (by omega),List.getElem?_eq_none (by simpa using hj)]
  rfl
structure aZ where (id kind n ay move sum:Int)
 deriving DecidableEq
structure Answer where (err ba:Int)
 deriving DecidableEq
structure cc where (ct:bl) (seen:Int)
 deriving DecidableEq
def pa (x:bC):List D:=[dI x.bu,dI x.held,dI x.ca.cH,dI x.ca.count,dI x.ca.sum,.r 2 (x.cL.map gJ)]
def iA (x:bz):List D:=[dI x.aK,dI x.ay,dI x.sum,dI x.captured,dI x.bw,dI x.bm,dI x.cP,dB x.shut]
def eY (x:cc):List D:=[dI x.ct.number,dI x.ct.kind,dI x.ct.ba,dI x.ct.sum,dI x.seen]
def kT (x:Answer):List D:=[dI x.err,dI x.ba]
def cS (x:aZ):List D:=[dI x.id,dI x.kind,dI x.n,dI x.ay,dI x.move,dI x.sum]
def gV (x:di):List D:=[dI x.cH,dI x.count,dI x.sum]
def rU (x:List Int):List D:=[.r 1 (x.map nJ)]
theorem yZ (l:List bz):∀ row∈l.map iA,∀ d∈row,d.mE=true:=by
 intro row hr d hd
 obtain ⟨x,_,rfl⟩:=List.mem_map.1 hr
 simp only [iA,List.mem_cons,List.not_mem_nil,or_false] at hd
 rcases hd with rfl|rfl|rfl|rfl|rfl|rfl|rfl|rfl<;>rfl

def fF (l:List Int):CV:=cR 1 (l.map rI)
def dx (l:List Int):AB:=.arr 3 1 (l.map rI)
def fj (l:List cU):CV:=cR 2 (l.map gJ)
def DV (l:List cU):D:=.r 2 (l.map gJ)
def oR (l:List cU):AB:=.arr 125 2 (l.map gJ)
def gH (l:List bS):CV:=cR 4 (l.map hP)
def zO (l:List bS):AB:=.arr 107 4 (l.map hP)
def dd (l:List bl):CV:=cR 4 (l.map fq)
def wY (l:List bl):AB:=.arr 80 4 (l.map fq)
def dO (l:List Entry):CV:=cR 2 (l.map er)
def lr (l:List Entry):AB:=.arr 115 2 (l.map er)
def iM (l:List al):CV:=cR 4 (l.map gK)
def cF (l:List al):AB:=.arr 83 4 (l.map gK)
def CK (l:List bC):CV:=cR 6 (l.map pa)
def dJ (l:List bC):AB:=.arr 61 6 (l.map pa)
def yl (l:List bz):CV:=cR 8 (l.map iA)
def dR (l:List bz):AB:=.arr 67 8 (l.map iA)
def eh (l:List cc):CV:=cR 5 (l.map eY)
def Ek (l:List cc):AB:=.arr 113 5 (l.map eY)
def CJ (l:List Answer):CV:=cR 2 (l.map kT)
def Ej (l:List Answer):AB:=.arr 65 2 (l.map kT)
def qB (l:List aZ):CV:=cR 6 (l.map cS)
def wZ (l:List aZ):AB:=.arr 27 6 (l.map cS)
def CL (l:List Int):CV:=cR 1 (l.map nJ)
def xa (l:List Int):AB:=.arr 5 1 (l.map nJ)
def CI (l:List (List Int)):CV:=cR 1 (l.map rU)
def pN (l:List (List Int)):AB:=.arr 86 1 (l.map rU)
end Go.Proofs.Ytegepioggeggaaa.Dev
