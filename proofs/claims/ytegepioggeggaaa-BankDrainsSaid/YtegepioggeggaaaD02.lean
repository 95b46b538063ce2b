/- A part of the proof: Sh12, Opn, Sh13, Sh14, Sh15, Dat, PlAuth, PlStand, Dat2, Abb. No condition. -/
import Derived.Test.YtegepioggeggaaaD01
import Derived.Lib.SmallJoins
set_option linter.unusedVariables false
set_option linter.unusedSimpArgs false
namespace Go.Proofs.Ytegepioggeggaaa.Dev
open Go.RowKit
open Go.RowKit Go.ChangeShapes Go.WideShapes Go.Deep Go.Joins
section

section
variable {P:Program} {st:aL} {o:Oper}
theorem cW.fY {σ:Nat->Option bT} {T T':Nat->Prop} {w:World} (h:∀ b,T' b->T b) {x:CV} {v:Value} (hx:cW σ T w x v):cW σ T' w x v:=by
 cases x with
 |any=>trivial
 |d x=>exact bw.fY h hx
 |p k i K o=>exact hx
 |q row o=>
  obtain ⟨b,off,h1,h2,h3,h4⟩:=hx
  refine ⟨b,off,h1,h2,fun hb=>h3 (h b hb),fun j d hj=>?_⟩
  obtain ⟨u,hu,hr⟩:=h4 j d hj
  exact ⟨u,hu,hr.fY h⟩
 |s k i K n=>exact hx
 |sx k i K n c e=>exact hx
 |m k=>exact hx
 |fn f bh=>exact hx
theorem dx.fY {σ:Nat->Option bT} {T T':Nat->Prop} {w:World} (h:∀ b,T' b->T b) {x:GV} {v:Value} (hx:dx σ T w x v):dx σ T' w x v:=by
 cases x with
 |c x=>exact cW.fY h (x:=x) hx
 |g xs=>obtain ⟨vs,h1,h2⟩:=hx;exact ⟨vs,h1,h2.mono fun _ _ hh=>hh.fY h⟩
theorem dw.fY {σ:Nat->Option bT} {T T':Nat->Prop} {w:World} (h:∀ b,T' b->T b) {og:Option bT} (bI:∀ g,og=some g->T g.g->T' g.g) {b:AB} (hx:dw σ T w og b):dw σ T' w og b:=by
 cases b with
 |box t cs=>obtain ⟨g,vs,h1,h2,h3,h4⟩:=hx;exact ⟨g,vs,h1,bI g h1 h2,h3,h4.mono fun _ _ hh=>hh.fY h⟩
 |arr t K rows=>
  refine ⟨hx.1,?_⟩
  rcases hx.2 with h1|⟨g,vs,h1,h2,h3,h4,h5,h6⟩
  ·exact .inl h1
  ·exact .inr ⟨g,vs,h1,bI g h1 h2,h3,h4,h5,h6.1,fun i row hi=>⟨(h6.2 i row hi).1,fun j d hj=>by
    obtain ⟨u,hu,hr⟩:=(h6.2 i row hi).2 j d hj
    exact ⟨u,hu,hr.fY h⟩⟩⟩
 |map es cl=>obtain ⟨g,ms,h1,h2,h3⟩:=hx;exact ⟨g,ms,h1,bI g h1 h2,h3⟩
theorem cW.up {σ : Nat → Option bT} {T : Nat → Prop} {w : World} {x : CV} {v : Value} (hx : cW (fun _ => none) T w x v) : cW σ T w x v := by
  cases x with
  | any => trivial
  | d x => exact hx
  | p k i K o => obtain ⟨g, h, _⟩ := hx; cases h
  | q row o => exact hx
  | s k i K n => rcases hx with h | ⟨g, h, _⟩
                 · exact .inl h
                 · cases h
  | sx k i K n c e => obtain ⟨g, off, h, _⟩ := hx; cases h
  | m k => obtain ⟨g, h, _⟩ := hx; cases h
  | fn f bh =>
    obtain ⟨gs, h1, h2⟩ := hx
    cases bh with
    | nil => cases gs with
      | nil => exact ⟨[], rfl, h2⟩
      | cons => cases h1
    | cons => cases gs with
      | nil => cases h1
      | cons => rw [List.map_cons, List.map_cons, List.cons.injEq] at h1; cases h1.1
theorem dx.up {σ:Nat->Option bT} {T:Nat->Prop} {w:World} {x:GV} {v:Value} (hx:dx (fun _=>none) T w x v):dx σ T w x v:=by
 cases x with
 |c x=>exact cW.up (x:=x) hx
 |g xs=>obtain ⟨vs,h1,h2⟩:=hx;exact ⟨vs,h1,h2.mono fun _ _ hh=>hh.up⟩
def Kh (st:aL) (E:List Nat) (ρ:Nat->Nat) (p:Nat->Bool) (g y:GV):Prop:=(g=y.map ρ/\y.ok p=true)\/uv st E g y
def rv (st:aL) (E:List Nat) (ρ:Nat->Nat) (p:Nat->Bool):List Operand->List GV->Prop
 |[],[]=>True
 |x::xs,y::ys=>(∃ g,ev st x (.v g)/\Kh st E ρ p g y)/\rv st E ρ p xs ys
 |_,_=>False
def oR (h:List (Nat×AB)) (k:Nat):Bool:=match look h k with|some (.box _ _)=>true|_=>false
def qI (h:List (Nat×AB)) (k:Nat):Prop:=oR h k=true\/∃ t K rows,look h k=some (.arr t K rows)/\0 < rows.length
theorem uW {h:List (Nat×AB)} {cS:List Nat} (hk:cS.all (fun k=>oR h k)=true):∀ k∈cS,qI h k:=fun k hm=>.inl (List.all_eq_true.1 hk k hm)
theorem mU {l:List Nat} {ρ:Nat->Nat} (h:eI (l.map ρ)=true):∀ k k',k∈l->k'∈l->ρ k=ρ k'->k=k':=by
 induction l with
 |nil=>intro _ _ h;cases h
 |cons j l ih=>
  simp only [List.map_cons,eI,Bool.and_eq_true,Bool.not_eq_true',List.any_eq_false] at h
  have far:∀ k,k∈l->ρ j≠ρ k:=fun k hm e=>h.1 (ρ k) (List.mem_map.2 ⟨k,hm,rfl⟩) (by rw [e];exact Nat.beq_refl _)
  intro k k' hk hk' he
  rcases List.mem_cons.1 hk with rfl|h1
  ·rcases List.mem_cons.1 hk' with h2|h2
   ·exact h2.symm
   ·exact absurd he (far _ h2)
  ·rcases List.mem_cons.1 hk' with rfl|h2
   ·exact absurd he.symm (far _ h1)
   ·exact ih h.2 k k' h1 h2 he
def pull (μ:Nat->Nat) (σ' σ:Nat->Option bT):List Nat->Nat->Option bT
 |[],j=>σ j
 |k::l,j=>if μ k=j then σ' k else pull μ σ' σ l j
theorem oz {μ:Nat->Nat} {σ' σ:Nat->Option bT} {l:List Nat} (hi:∀ k k',k∈l->k'∈l->μ k=μ k'->k=k') {k:Nat} (hk:k∈l):pull μ σ' σ l (μ k)=σ' k:=by
 induction l with
 |nil=>cases hk
 |cons j l ih=>
  show (if μ j=μ k then σ' j else pull μ σ' σ l (μ k))=σ' k
  by_cases e:μ j=μ k
  ·rw [if_pos e,hi j k List.mem_cons_self hk e]
  ·rw [if_neg e]
   exact ih (fun a b ha hb=>hi a b (List.mem_cons_of_mem _ ha) (List.mem_cons_of_mem _ hb)) ((List.mem_cons.1 hk).resolve_left fun h=>e (by rw [h]))
theorem mQ {μ:Nat->Nat} {σ' σ:Nat->Option bT} {l:List Nat} {j:Nat} (h:∀ k∈l,μ k≠j):pull μ σ' σ l j=σ j:=by
 induction l with
 |nil=>rfl
 |cons k l ih=>
  show (if μ k=j then σ' k else pull μ σ' σ l j)=σ j
  rw [if_neg (h k List.mem_cons_self)]
  exact ih fun k hk=>h k (List.mem_cons_of_mem _ hk)
theorem mB {f:FuncId} {c:Call} {ins:List GV} {bI:List (Nat×AB)} {cS:List Nat} {av av':AV} {nb nb':List (Nat×AB)} {EE:List Nat} {p:D->Prop} (ρ μ:Nat->Nat) (E:List Nat) (hF:cL P f ins bI cS av nb) (hen:bp P f) (ho:o.op=.call c) (hc:c.callee=.value (.func f))
  (hargs:rv st E ρ (bu bI) c.args.toList ins) (hheap:dF (fun x=>look st.h (ρ x.1)=some (x.2.map' ρ)) bI) (hokin:bI.all (fun x=>x.2.ok (bu bI))=true) (hinj:eI ((keys bI).map ρ)=true) (hE:bI.all (fun x=>!eb (ρ x.1) E)=true) (hEl:E.all (fun e=>bu st.h e)=true)
  (hkeep:∀ k∈cS,qI bI k) (hEE:(keys bI).map ρ=EE) (hμ:eI ((keys nb).map μ)=true) (hμk:(keys nb).all (fun k=>(eb k cS && Nat.beq (μ k) (ρ k))||(!eb k cS && !eb (μ k) EE))=true)
  (hg:av.eD p) (hgb:dF (fun x=>x.2.eD p) nb) (hok:av.ok (bu nb)=true) (hokb:nb.all (fun x=>x.2.ok (bu nb))=true) (hav:av.map μ=av') (hnb:gC μ nb=nb')
  (hD:∀ (σ:Nat->Option bT) (T Tc T':Nat->Prop) (w':World) d v,(∀ b,T' b->T b\/Tc b)->(∀ b,gi σ T E b->Tc b)->p d->bw Tc w' d v->bw T' w' d v):aM P o st av' nb' EE:=by
 intro σ T a w C hnew
 subst hav hnb hEE
 have hinj':=mU hinj
 have hin_mem:∀ k,bu bI k=true->k∈keys bI:=fun k hk=>by
  obtain ⟨b,hb⟩:=gS hk
  exact List.mem_map.2 ⟨(k,b),hb,rfl⟩
 have mem_in:∀ k,k∈keys bI->bu bI k=true:=fun k hk=>by
  obtain ⟨x,hx,rfl⟩:=List.mem_map.1 hk
  exact cY (b:=x.2) hx
 let σc:Nat->Option bT:=fun k=>if bu bI k=true then σ (ρ k) else none
 have hσc:∀ k,bu bI k=true->σc k=σ (ρ k):=fun k hk=>if_pos hk
 let Tc:=gi σ T E
 have hlow:∀ b,Tc b->T b:=fun b h=>h.1
 have hsep:∀ k b g,(k,b)∈bI->σ (ρ k)=some g->Tc g.g:=by
  intro k b g hk hg
  refine ⟨(C.heap _ _ (hheap.mem _ hk)).pf hg,fun e he g' hg' hgg=>?_⟩
  obtain ⟨b',hb'⟩:=gS (List.all_eq_true.1 hEl e he)
  have hb':∃ b',look st.h e=some b':=by
   have:=List.all_eq_true.1 hEl e he
   cases hl:look st.h e with
   |none=>simp [bu,hl] at this
   |some b'=>exact ⟨b',rfl⟩
  obtain ⟨b',hb'⟩:=hb'
  have heq:=C.inj e (ρ k) b' _ g' g hb' (hheap.mem _ hk) hg' hg hgg
  have:=List.all_eq_true.1 hE _ hk
  simp only [Bool.not_eq_true'] at this
  rw [<-heq,fa.2 he] at this
  cases this
 have hh:∀ k b,(k,b)∈bI->dw σc Tc w (σc k) b:=by
  intro k b hk
  have hkin:=cY hk
  rw [hσc k hkin]
  refine dw.fY hlow (fun g hg _=>hsep k b g hk hg) ?_
  exact dw.cc (ρ:=ρ) hσc (C.heap _ _ (hheap.mem _ hk)) (List.all_eq_true.1 hokin _ hk)
 have hij:∀ k k' b b' g g',(k,b)∈bI->(k',b')∈bI->σc k=some g->σc k'=some g'->g.g=g'.g->k=k':=by
  intro k k' b b' g g' hk hk' hg hg' hgg
  rw [hσc k (cY hk)] at hg
  rw [hσc k' (cY hk')] at hg'
  exact hinj' k k' (hin_mem _ (cY hk)) (hin_mem _ (cY hk')) (C.inj _ _ _ _ g g' (hheap.mem _ hk) (hheap.mem _ hk') hg hg' hgg)
 have hkp:∀ k∈cS,bu bI k=true/\∃ g,σ (ρ k)=some g:=by
  intro k hk
  rcases hkeep k hk with this|⟨t,K,rows,hl,hpos⟩
  ·unfold oR at this
   cases hl:look bI k with
   |none=>simp [hl] at this
   |some b=>
    cases b with
    |box t cs=>
     refine ⟨by simp [bu,hl],?_⟩
     obtain ⟨g,_,h1,_⟩:=C.heap _ _ (hheap.mem _ (bP hl))
     exact ⟨g,h1⟩
    |arr=>simp [hl] at this
    |map=>simp [hl] at this
  ·refine ⟨by simp [bu,hl],?_⟩
   obtain ⟨_,h1|⟨g,_,h1,_⟩⟩:=C.heap _ _ (hheap.mem _ (bP hl))
   ·obtain ⟨h1,_⟩:=h1
    rw [h1] at hpos;cases hpos
   ·exact ⟨g,h1⟩
 have hrel:cm (dx σc Tc w) ins (c.args.map a.eval).toList:=by
  rw [Array.toList_map]
  have gen:∀ (xs:List Operand) (ys:List GV),rv st E ρ (bu bI) xs ys->cm (dx σc Tc w) ys (xs.map a.eval):=by
   intro xs
   induction xs with
   |nil=>intro ys h;cases ys with
    |nil=>trivial
    |cons=>exact h.elim
   |cons x xs ih=>
    intro ys h
    cases ys with
    |nil=>exact h.elim
    |cons y ys=>
     refine ⟨?_,ih ys h.2⟩
     obtain ⟨g,h1,h2|h2⟩:=h.1
     ·obtain ⟨h2,h3⟩:=h2
      subst h2
      exact dx.fY hlow (dx.cc (ρ:=ρ) hσc (x:=y) (bN C h1) h3)
     ·exact dx.up (h2.rel C (bN C h1))
  exact gen _ _ hargs
 refine nD ho hc hen ((hF Tc σc w _ (fun b h=>C.eT b h.1) hh hij (fun k hk=>?_) hrel).mono ?_)
 ·obtain ⟨h1,g,h2⟩:=hkp k hk
  exact ⟨g,by rw [hσc k h1,h2]⟩
 rintro e w' ⟨v,σ',T',rfl,R⟩
 let T2:Nat->Prop:=fun b=>T b\/T' b
 let σ2:=pull μ σ' σ (keys nb)
 have hμ':=mU hμ
 have hσ2:∀ k,bu nb k=true->σ2 (μ k)=σ' k:=fun k hk=>by
  obtain ⟨b,hb⟩:=gS hk
  exact oz hμ' (List.mem_map.2 ⟨(k,b),hb,rfl⟩)
 have hD':∀ d v,p d->bw T' w' d v->bw T2 w' d v:=fun d v=>hD σ T T' T2 w' d v (fun b h=>h) R.nh
 have hmem:∀ k b,(k,b)∈gC μ nb->∃ k0 b0,(k0,b0)∈nb/\k=μ k0/\b=b0.map' μ:=by
  intro k b h
  obtain ⟨⟨k0,b0⟩,h1,h2⟩:=List.mem_map.1 h
  injection h2 with h2 h3
  exact ⟨k0,b0,h1,h2.symm,h3.symm⟩
 have hcase:∀ k∈keys nb,(k∈cS/\μ k=ρ k)\/(k ∉ cS/\μ k ∉ (keys bI).map ρ):=by
  intro k hk
  have:=List.all_eq_true.1 hμk k hk
  simp only [Bool.or_eq_true,Bool.and_eq_true,Bool.not_eq_true'] at this
  rcases this with ⟨h1,h2⟩|⟨h1,h2⟩
  ·exact .inl ⟨fa.1 h1,Nat.eq_of_beq_eq_true h2⟩
  ·exact .inr ⟨fun h=>(Bool.eq_false_iff.1 h1) (fa.2 h),fun h=>(Bool.eq_false_iff.1 h2) (fa.2 h)⟩
 have C2:∀ b,(∃ k∈(keys bI).map ρ,∃ g,σ k=some g/\g.g=b)↔∃ k∈keys bI,∃ g,σc k=some g/\g.g=b:=by
  intro b
  constructor
  ·rintro ⟨k,hk,g,hg,hgb⟩
   obtain ⟨k0,hk0,rfl⟩:=List.mem_map.1 hk
   exact ⟨k0,hk0,g,by rw [hσc k0 (mem_in k0 hk0)];exact hg,hgb⟩
  ·rintro ⟨k,hk,g,hg,hgb⟩
   rw [hσc k (mem_in k hk)] at hg
   exact ⟨ρ k,List.mem_map.2 ⟨k,hk,rfl⟩,g,hg,hgb⟩
 refine ⟨v,rfl,v,σ2,T2,rfl,⟨R.os,R.tape,R.output,⟨R.size,fun b hb hno=>R.cj b hb fun k hk g hg hgb=>hno ((C2 b).2 ⟨k,hk,g,hg,hgb⟩),fun b hb=>?_,fun b hb h=>?_,fun j g hj=>?_⟩,fun b h=>.inl h,fun b h=>?_,fun j hj=>?_,?_,?_,?_⟩,R.rel.back hD' hσ2 hg hok⟩
 ·obtain ⟨k,hk,g,hg,rfl⟩:=hb
  obtain ⟨k0,hk0,rfl⟩:=List.mem_map.1 hk
  obtain ⟨x,hx,rfl⟩:=List.mem_map.1 hk0
  exact (C.heap _ _ (hheap.mem x hx)).pf hg
 ·rcases h with h|h
  ·exact h
  ·exact (R.lQ b hb h).1
 ·show pull μ σ' σ (keys nb) j=some g
  by_cases hex:∃ k∈keys nb,μ k=j
  ·obtain ⟨k,hk,rfl⟩:=hex
   rw [oz hμ' hk]
   rcases hcase k hk with ⟨h1,h2⟩|⟨h1,h2⟩
   ·rw [R.kept k h1,hσc k (hkp k h1).1,<-h2];exact hj
   ·obtain ⟨x,hx,rfl⟩:=List.mem_map.1 hk
    have:=hnew (μ x.1) (x.2.map' μ) (List.mem_map.2 ⟨x,hx,rfl⟩) h2
    rw [this] at hj;cases hj
  ·rw [mQ fun k hk e=>hex ⟨k,hk,e⟩];exact hj
 ·rcases h with h|h
  ·exact Nat.lt_of_lt_of_le (C.eT b h) R.size
  ·exact R.eT b h
 ·exact mQ fun k hk e=>by
   obtain ⟨x,hx,rfl⟩:=List.mem_map.1 hk
   exact hj (x.2.map' μ) (List.mem_map.2 ⟨x,hx,by rw [e]⟩)
 ·intro k b h
  obtain ⟨k0,b0,h1,rfl,rfl⟩:=hmem k b h
  rw [hσ2 k0 (cY h1)]
  exact (R.heap k0 b0 h1).back hD' hσ2 (fun b h=>.inr h) (hgb.mem _ h1) (List.all_eq_true.1 hokb _ h1)
 ·intro k b g h hg
  obtain ⟨k0,b0,h1,rfl,rfl⟩:=hmem k b h
  rw [hσ2 k0 (cY h1)] at hg
  rcases R.fresh k0 b0 g h1 hg with h2|⟨e,he,g',hg',hgg⟩
  ·exact .inl h2
  ·exact .inr ((C2 g.g).2 ⟨e,he,g',hg',hgg⟩)
 ·intro k k' b b' g g' h h' hg hg' hgg
  obtain ⟨k0,b0,h1,rfl,rfl⟩:=hmem k b h
  obtain ⟨k1,b1,h2,rfl,rfl⟩:=hmem k' b' h'
  rw [hσ2 k0 (cY h1)] at hg
  rw [hσ2 k1 (cY h2)] at hg'
  rw [R.inj k0 k1 b0 b1 g g' h1 h2 hg hg' hgg]
theorem cO {f:FuncId} {c:Call} {ins:List GV} {bI:List (Nat×AB)} {cS:List Nat} {av av':AV} {nb nb':List (Nat×AB)} {EE:List Nat} (ρ μ:Nat->Nat) (hF:cL P f ins bI cS av nb) (hen:bp P f) (ho:o.op=.call c) (hc:c.callee=.value (.func f))
  (hargs:rv st [] ρ (bu bI) c.args.toList ins) (hheap:dF (fun x=>look st.h (ρ x.1)=some (x.2.map' ρ)) bI) (hokin:bI.all (fun x=>x.2.ok (bu bI))=true) (hinj:eI ((keys bI).map ρ)=true)
  (hkeep:cS.all (fun k=>oR bI k)=true) (hEE:(keys bI).map ρ=EE) (hμ:eI ((keys nb).map μ)=true) (hμk:(keys nb).all (fun k=>(eb k cS && Nat.beq (μ k) (ρ k))||(!eb k cS && !eb (μ k) EE))=true)
  (hg:av.eD (fun _=>True)) (hgb:dF (fun x=>x.2.eD fun _=>True) nb) (hok:av.ok (bu nb)=true) (hokb:nb.all (fun x=>x.2.ok (bu nb))=true) (hav:av.map μ=av') (hnb:gC μ nb=nb'):aM P o st av' nb' EE:=
 mB ρ μ [] hF hen ho hc hargs hheap hokin hinj (by simp [eb]) rfl (uW hkeep) hEE hμ hμk hg hgb hok hokb hav hnb fun σ T Tc T' w' d v h1 h2 _ h=>h.fY fun b hb=>by
  rcases h1 b hb with h|h
  ·exact h2 b ⟨h,fun k hk=>by cases hk⟩
  ·exact h
theorem xc {f:FuncId} {c:Call} {ins:List GV} {bI:List (Nat×AB)} {cS:List Nat} {av av':AV} {nb nb':List (Nat×AB)} {EE:List Nat} (ρ μ:Nat->Nat) (E:List Nat) (hF:cL P f ins bI cS av nb) (hen:bp P f) (ho:o.op=.call c) (hc:c.callee=.value (.func f))
  (hargs:rv st E ρ (bu bI) c.args.toList ins) (hheap:dF (fun x=>look st.h (ρ x.1)=some (x.2.map' ρ)) bI) (hokin:bI.all (fun x=>x.2.ok (bu bI))=true) (hinj:eI ((keys bI).map ρ)=true) (hE:bI.all (fun x=>!eb (ρ x.1) E)=true) (hEl:E.all (fun e=>bu st.h e)=true)
  (hkeep:cS.all (fun k=>oR bI k)=true) (hEE:(keys bI).map ρ=EE) (hμ:eI ((keys nb).map μ)=true) (hμk:(keys nb).all (fun k=>(eb k cS && Nat.beq (μ k) (ρ k))||(!eb k cS && !eb (μ k) EE))=true)
  (hg:av.eD (fun d=>d.pS=true)) (hgb:dF (fun x=>x.2.eD fun d=>d.pS=true) nb) (hok:av.ok (bu nb)=true) (hokb:nb.all (fun x=>x.2.ok (bu nb))=true) (hav:av.map μ=av') (hnb:gC μ nb=nb'):aM P o st av' nb' EE:=
 mB ρ μ E hF hen ho hc hargs hheap hokin hinj hE hEl (uW hkeep) hEE hμ hμk hg hgb hok hokb hav hnb fun σ T Tc T' w' d v h1 h2 hp h=>by
  cases d with
  |v x=>cases h;exact .v _ (by assumption)
  |r=>cases hp
  |f=>cases hp
theorem ej {f:FuncId} {c:Call} {ins:List GV} {bI:List (Nat×AB)} {cS:List Nat} {av av':AV} {nb nb':List (Nat×AB)} {EE:List Nat} (ρ μ:Nat->Nat) (hF:cL P f ins bI cS av nb) (hen:bp P f) (ho:o.op=.call c) (hc:c.callee=.value (.func f))
  (hargs:rv st [] ρ (bu bI) c.args.toList ins) (hheap:dF (fun x=>look st.h (ρ x.1)=some (x.2.map' ρ)) bI) (hokin:bI.all (fun x=>x.2.ok (bu bI))=true) (hinj:eI ((keys bI).map ρ)=true)
  (hkeep:dF (qI bI) cS) (hEE:(keys bI).map ρ=EE) (hμ:eI ((keys nb).map μ)=true) (hμk:(keys nb).all (fun k=>(eb k cS && Nat.beq (μ k) (ρ k))||(!eb k cS && !eb (μ k) EE))=true)
  (hg:av.eD (fun _=>True)) (hgb:dF (fun x=>x.2.eD fun _=>True) nb) (hok:av.ok (bu nb)=true) (hokb:nb.all (fun x=>x.2.ok (bu nb))=true) (hav:av.map μ=av') (hnb:gC μ nb=nb'):aM P o st av' nb' EE:=
 mB ρ μ [] hF hen ho hc hargs hheap hokin hinj (by simp [eb]) rfl (fun k hk=>hkeep.mem k hk) hEE hμ hμk hg hgb hok hokb hav hnb fun σ T Tc T' w' d v h1 h2 _ h=>h.fY fun b hb=>by
  rcases h1 b hb with h|h
  ·exact h2 b ⟨h,fun k hk=>by cases hk⟩
  ·exact h
end
section
variable {P:Program} {W0:World} {F:Nat->Prop} {N:NT} {T0:Nat->Prop} {pin:List (Nat×bT)} {ops:Array Oper} {Q:Exit->aL->Prop} {s:List (Nat×AV)} {h:List (Nat×AB)} {n:Nat}
theorem kq {h:List (Nat×AB)} {k:Nat} (hk:bu h k=true):∃ b,look h k=some b:=by
 cases hl:look h k with
 |none=>simp [bu,hl] at hk
 |some b=>exact ⟨b,rfl⟩
theorem Ff {o:Oper} {rest:List Oper} {d n':Nat} {av:AV} {nb h':List (Nat×AB)} {E:List Nat} (hw:aq ops o ⟨s,h,n⟩) (g:aM P o ⟨s,h,n⟩ av nb E) (hd:o.dst=some d) (hN:Nat.blt d N.1=true) (hE:E.all (fun e=>bu h e)=true) (hnb:nb.all (fun x=>eb x.1 E||Nat.ble n x.1)=true) (hn:iY nb n=n') (hh:nb++del E h=h') (k:AL P W0 F N T0 pin ops Q rest ⟨(d,av)::s,h',n'⟩):AL P W0 F N T0 pin ops Q (o::rest) ⟨s,h,n⟩:=
 tK hw g (fun d' h'=>by rw [hd] at h';injection h' with h';subst h';rw [Nat.blt_eq] at hN;exact hN) (fun e he=>kq (List.all_eq_true.1 hE e he)) (fun k b hk hkE=>by
  have:=List.all_eq_true.1 hnb _ hk
  simp only [Bool.or_eq_true] at this
  rcases this with h|h
  ·exact absurd (fa.1 h) hkE
  ·exact Nat.le_of_ble_eq_true h) (by
  have e:(aL.add ⟨s,h,n⟩ nb E)=⟨s,h',n'⟩:=by simp [aL.add,<-hn,<-hh]
  rw [e,hd];exact k)
theorem aJ.cut {s:List (Nat×AV)} {h h':List (Nat×AB)} {n:Nat} (k m:Nat) {t K:Nat} {rows rows':List (List D)} (hb:look h k=some (.arr t K rows)) (hr:rows.take m=rows') (hh:lk h k (.arr t K rows')=h'):aJ pin ⟨s,h,n⟩ ⟨s,h',n⟩:=by
 subst hr hh
 rintro W0 F N T0 a w ⟨σ,T,hT,S,hp⟩
 have cases_:∀ i b,look (lk h k (.arr t K (rows.take m))) i=some b->(i=k/\b=.arr t K (rows.take m))\/(i≠k/\look h i=some b):=by
  intro i b hi
  rcases kN hi with h1|h1|h1
  ·exact .inl h1
  ·exact .inr h1
  ·exact h1.2.elim
 have cj:∀ i b,look (lk h k (.arr t K (rows.take m))) i=some b->∃ b0,look h i=some b0:=fun i b hi=>by
  rcases cases_ i b hi with ⟨rfl,_⟩|⟨_,h1⟩
  ·exact ⟨_,hb⟩
  ·exact ⟨_,h1⟩
 refine ⟨σ,T,hT,⟨⟨S.core.fR,?_,?_,S.core.eT⟩,S.os,S.tape,S.output,S.size,S.cj,?_,S.next,?_,S.jZ,S.jE⟩,hp⟩
 ·intro i b hi
  rcases cases_ i b hi with ⟨rfl,rfl⟩|⟨_,h1⟩
  ·obtain ⟨hK,h1⟩:=S.core.heap _ _ hb
   refine ⟨hK,?_⟩
   rcases h1 with ⟨h1,h2⟩|⟨g,vs,h1,h2,h3,h4,h5,h6⟩
   ·exact .inl ⟨by rw [h1];simp,h2⟩
   ·refine .inr ⟨g,vs,h1,h2,h3,h4,h5,?_,fun i row hi=>?_⟩
    ·refine Nat.le_trans (Nat.mul_le_mul_right K ?_) h6.1
     rw [List.length_take];omega
    ·rw [List.getElem?_take] at hi
     split at hi
     ·exact h6.2 i row hi
     ·cases hi
  ·exact S.core.heap i b h1
 ·intro i i' b b' g g' hi hi' hg hg' hgg
  obtain ⟨b0,h0⟩:=cj i b hi
  obtain ⟨b1,h1⟩:=cj i' b' hi'
  exact S.core.inj i i' b0 b1 g g' h0 h1 hg hg' hgg
 ·intro i b g hi hg
  obtain ⟨b0,h0⟩:=cj i b hi
  exact S.own i b0 g h0 hg
 ·intro i b hi
  obtain ⟨b0,h0⟩:=cj i b hi
  exact S.hn i b0 h0
end
end
section

def fA (n:Int):Prop:=-9223372036854775808<=n/\n<=9223372036854775807
theorem Ce {α:Type} {p:Nat->α->Prop} (n:Nat) (h:∀ i,i < n->∃ x,p i x):∃ xs:List α,xs.length=n/\∀ q x,xs[q]?=some x->p q x:=by
 induction n with
 |zero=>exact ⟨[],rfl,fun q x hx=>by simp at hx⟩
 |succ n ih=>
  obtain ⟨xs,hl,hx⟩:=ih fun i hi=>h i (by omega)
  obtain ⟨y,hy⟩:=h n (by omega)
  refine ⟨xs++[y],by simp [hl],fun q x hq=>?_⟩
  by_cases hqn:q < n
  ·rw [List.getElem?_append_left (by omega)] at hq
   exact hx q x hq
  ·have hlt:=(List.getElem?_eq_some_iff.1 hq).1
   simp [hl] at hlt
   obtain rfl:q=n:=by omega
   rw [List.getElem?_append_right (by omega),hl] at hq
   simp at hq
   exact hq▸hy
def nV:Nat->Prop:=fun _=>False
def kB {α:Type} (P:Program) (t:TypeId) (K:Nat) (f:α->List D) (Q:α->Prop):Prop:=
 (∀ a,(f a).length=K)/\∀ (H:Type) (enc:TypeId×Value->H) (w:World) (base:Nat) (spare:Nat->Bool) (held:Bool) (n:Nat) (cs:List Value) (y:DataW H×List MemPlace),
  DataW.trod enc P w base spare held n t cs=some y->∃ a,cm (bw nV w) (f a) cs/\Q a
section
variable {P:Program} {t e:TypeId}
theorem gw (ht:P.underlying t=some (.int .i64)):kB P t 1 (fun n:Int=>[dI n]) fA:=⟨fun _=>rfl,fun H enc w base spare held n cs y h=>by
 obtain ⟨a,rfl,_,hw⟩:=DataW.trod_int ht h
 exact ⟨a,⟨bw.v _ rfl,trivial⟩,bounds_i64 hw⟩⟩
theorem qW {α:Type} {K:Nat} {f:α->List D} {Q:α->Prop} (ht:P.underlying t=some (.slice e)) (hC:P.cellsOf e=K) (hK:0 < K) (ho:kB P e K f Q):kB P t 1 (fun xs:List α=>[.r K (xs.map f)]) (fun xs=>(∀ x∈xs,Q x)/\xs.length<=9223372036854775807):=⟨fun _=>rfl,fun H enc w base spare held fuel cs x h=>by
 rcases open_slice ht h with ⟨rfl,_⟩|⟨a,len,cap,m,n,DD,Pl,rfl,hb,hl,hm,hmm,hx,hi⟩
 ·exact ⟨[],⟨bw.nil _ _ _,trivial⟩,fun x hx=>by simp at hx,by simp⟩
 ·have hlm:len<=m:=by rw [hmm];split<;>omega
  obtain ⟨xs,hxl,hxs⟩:=Ce (p:=fun i x=>Q x/\a.spot=none/\a.block < w.heap.size/\∃ cs',cm (bw nV w) (f x) cs'/\∀ j v,cs'[j]?=some v->w.cell? ⟨a.block,a.off+i * K+j,none⟩=some v) len fun i hil=>by
   obtain ⟨cs',hc,ht'⟩:=hi i (by omega)
   obtain ⟨y,hrel,hq⟩:=ho.2 _ _ _ _ _ _ _ _ _ ht'
   rw [hC] at hc
   obtain ⟨_,hlen,eC⟩:=World.cells?_some hc
   have h0:∀ (i:Nat) cs',w.cells? base (a.add (i * K)) K=some cs'->i=0->a.spot=none/\a.block < w.heap.size:=by
    rintro i cs' hc rfl
    obtain ⟨_,hl0,eC⟩:=World.cells?_some hc
    have h:=eC 0 hK
    rw [Nat.zero_mul] at h
    have ha:(a.add 0).add 0=a:=rfl
    rw [ha,List.getElem?_eq_getElem (by omega)] at h
    unfold World.cell? at h
    split at h
    ·rename_i he
     split at h
     ·simp at h
     ·rename_i hs
      exact ⟨by simpa using hs,(Array.getElem?_eq_some_iff.1 he).1⟩
    ·simp at h
   obtain ⟨cs0,hc0,_⟩:=hi 0 (by omega)
   rw [hC] at hc0
   obtain ⟨hs,hbk⟩:=h0 0 cs0 hc0 rfl
   refine ⟨y,hq,hs,hbk,cs',hrel,fun j v hv=>?_⟩
   have hj:=(List.getElem?_eq_some_iff.1 hv).1
   rw [hlen] at hj
   rw [<-hv,<-eC j hj]
   congr 1
   obtain ⟨ab,ao,asp⟩:=a
   simp only at hs
   subst hs
   simp only [Addr.add]
   split<;>split<;>simp_all
  refine ⟨xs,⟨?_,trivial⟩,fun x hx=>?_,by rw [hxl];simp only [maxLen] at hm;omega⟩
  ·by_cases hn:len=0
   ·subst hn
    have:=List.eq_nil_of_length_eq_zero hxl
    subst this
    exact bw.nil _ _ _
   ·have hlt:0 < xs.length:=by omega
    obtain ⟨_,hs,hbk,_⟩:=hxs 0 _ (List.getElem?_eq_getElem hlt)
    obtain ⟨ab,ao,asp⟩:=a
    simp only at hs
    subst hs
    have key:∀ (i:Nat) (row:List D) (j:Nat) (d:D),(xs.map f)[i]?=some row->row[j]?=some d->∃ u,w.cell? ⟨ab,ao+(i * K+j),none⟩=some u/\bw nV w d u:=by
     intro i row j d hr hd
     rw [List.getElem?_map,Option.map_eq_some_iff] at hr
     obtain ⟨z,hz,rfl⟩:=hr
     obtain ⟨_,_,_,cs',hrel,eC⟩:=hxs i z hz
     obtain ⟨u,hu,hdr⟩:=hrel.get hd
     exact ⟨u,by rw [<-Nat.add_assoc];exact eC j u hu,hdr⟩
    have hlen:len=(xs.map f).length:=by rw [List.length_map,hxl]
    rw [hlen]
    refine bw.r K (xs.map f) ab ao cap (fun i j=>(w.cell? ⟨ab,ao+(i * K+j),none⟩).getD undef) hbk (fun h=>h) (by rw [<-hlen];omega) (by simp only [maxLen] at hm;omega) (fun i row hr=>?_) (fun i row j d hr hd=>?_) (fun i row j d hr hd=>?_)
    ·rw [List.getElem?_map,Option.map_eq_some_iff] at hr
     obtain ⟨z,_,rfl⟩:=hr
     exact ho.1 z
    ·obtain ⟨u,hu,_⟩:=key i row j d hr hd
     rw [hu];rfl
    ·obtain ⟨u,hu,hdr⟩:=key i row j d hr hd
     rw [hu];exact hdr
  ·obtain ⟨q,hq⟩:=List.getElem?_of_mem hx
   exact (hxs q x hq).1⟩
def xP (P:Program) {H:Type} (enc:TypeId×Value->H) (w:World) (base:Nat) (spare:Nat->Bool) (held:Bool) (n:Nat) (fs:List Field) (cs:List Value):Prop:=
 ∀ f∈fs,∃ z,DataW.trod enc P w base spare held n f.type ((cs.drop f.offset).take (P.cellsOf f.type))=some z
theorem qa {H:Type} {enc:TypeId×Value->H} {w:World} {base:Nat} {spare:Nat->Bool} {held:Bool} {fuel:Nat} {fs:Array Field} {cs:List Value} {y:DataW H×List MemPlace} (ht:P.underlying t=some (.struct fs)) (h:DataW.trod enc P w base spare held fuel t cs=some y):
  cs.length=P.cellsOf t/\∃ n,xP P enc w base spare held n fs.toList cs:=by
 obtain ⟨ys,n,_,_,hlen,hyl,hf⟩:=DataW.trod_struct ht h
 refine ⟨hlen,n,fun f hm=>?_⟩
 obtain ⟨i,hi⟩:=List.getElem?_of_mem hm
 rw [Array.getElem?_toList] at hi
 have hlt:i < ys.length:=by rw [hyl];exact (Array.getElem?_eq_some_iff.1 hi).1
 exact ⟨_,(hf i f hi).trans (List.getElem?_eq_getElem hlt)⟩
theorem Bm {α:Type} (l:List α) (o k:Nat):(l.drop o)=(l.drop o).take k++l.drop (o+k):=by
 rw [<-List.drop_drop,List.take_append_drop]
theorem fm {H:Type} {enc:TypeId×Value->H} {w:World} {base:Nat} {spare:Nat->Bool} {held:Bool} {n:Nat} {f:Field} {fs:List Field} {cs:List Value} (h:xP P enc w base spare held n (f::fs) cs) {α:Type} {K o o':Nat} {g:α->List D} {Q:α->Prop} (ho:kB P f.type K g Q) (hoff:f.offset=o) (hC:P.cellsOf f.type=K) (ho':o+K=o'):
  (∃ a,Q a/\∀ ds,cm (bw nV w) ds (cs.drop o')->cm (bw nV w) (g a++ds) (cs.drop o))/\xP P enc w base spare held n fs cs:=by
 refine ⟨?_,fun f hf=>h f (List.mem_cons_of_mem _ hf)⟩
 obtain ⟨z,hz⟩:=h f List.mem_cons_self
 rw [hoff,hC] at hz
 obtain ⟨a,ha,hq⟩:=ho.2 _ _ _ _ _ _ _ _ _ hz
 refine ⟨a,hq,fun ds hds=>?_⟩
 subst ho'
 rw [Bm cs o K]
 exact ha.append hds
theorem oJ {w:World} {cs:List Value} {o:Nat} (hl:cs.length=o):cm (bw nV w) [] (cs.drop o):=by
 rw [List.drop_of_length_le (by omega)];trivial
end
section
variable {H:Type} {enc:TypeId×Value->H} {P:Program} {w:World} {base:Nat} {spare:Nat->Bool} {held:Bool} {t:TypeId}
theorem HW {ds:List D} {vs:List Value} (h:cm (bw nV w) ds vs):cm (cW (fun _=>none) nV w) (ds.map .d) vs:=by
 induction ds generalizing vs with
 |nil=>cases vs with
  |nil=>trivial
  |cons=>exact h.elim
 |cons d ds ih=>cases vs with
  |nil=>exact h.elim
  |cons v vs=>exact ⟨h.1,ih h.2⟩
theorem BI {α:Type} {f:α->D} {Q:α->Prop} (ho:kB P t 1 (fun a=>[f a]) Q) {v:Value} {d:DataW H} {p:List MemPlace} (hv:v.cells=#[v]) (h:DataW.Trod enc P w base spare held t v d p):∃ a,dx (fun _=>none) nV w (.c (.d (f a))) v/\Q a:=by
 obtain ⟨fuel,hf⟩:=h
 rw [hv] at hf
 obtain ⟨a,h1,h2⟩:=ho.2 _ _ _ _ _ _ _ _ _ hf
 exact ⟨a,h1.1,h2⟩
theorem xW {α:Type} {f:α->D} {Q:α->Prop} {e:TypeId} (ht:P.underlying t=some (.slice e)) (ho:kB P t 1 (fun a=>[f a]) Q) {r:Reach} {b0:Nat} {v:Value} {d:DataW H} {p:List MemPlace} (hv:Value.okWide P w r b0 t v) (h:DataW.Trod enc P w base spare held t v d p):∃ a,dx (fun _=>none) nV w (.c (.d (f a))) v/\Q a:=by
 obtain ⟨a,len,cap,rfl⟩:=okWide_slice ht hv
 exact BI ho rfl h
theorem wD {α:Type} {f:α->List D} {Q:α->Prop} {K:Nat} {fs:Array Field} (ht:P.underlying t=some (.struct fs)) (ho:kB P t K f Q) {r:Reach} {b0:Nat} {v:Value} {d:DataW H} {p:List MemPlace} (hv:Value.okWide P w r b0 t v) (h:DataW.Trod enc P w base spare held t v d p):∃ a,dx (fun _=>none) nV w (.g ((f a).map .d)) v/\Q a:=by
 obtain ⟨cs,rfl,_⟩:=okWide_struct ht hv
 obtain ⟨fuel,hf⟩:=h
 obtain ⟨a,h1,h2⟩:=ho.2 _ _ _ _ _ _ _ _ _ hf
 exact ⟨a,⟨cs.toList,by simp,HW h1⟩,h2⟩
end
theorem GQ {P:Program} {f:FuncId} {ins:List GV} (h:Fn P f ins (aB true) []) {w:World} {args:Array Value} (hargs:cm (dx (fun _=>none) nV w) ins args.toList):Calls P f args w fun e w'=>e=.returned (.bool true)/\Below w.heap.size w w':=
 (h nV w args (fun _ h=>h.elim) hargs).mono fun e w' ⟨v,σ,T',he,hb,R⟩=>⟨by rw [he,bw.inv R.rel],hb⟩
end
section

theorem bw.len {T:Nat->Prop} {w:World} {K:Nat} {rows:List (List D)} {v:Value} (h:bw T w (.r K rows) v):rows.length<=9223372036854775807:=by
 cases h with
 |nil=>simp
 |r=>omega
section
variable {P:Program} {W0:World} {F:Nat->Prop} {N:NT} {T0:Nat->Prop} {pin:List (Nat×bT)} {Q:Exit->aL->Prop} {s:List (Nat×AV)} {h:List (Nat×AB)} {n:Nat}
theorem dU {c:Code} {α:Type} {f:α->List D} {xs:List α} {K:Nat} (i:Nat) (hs:look s i=some (.v (.c (.d (.r K (xs.map f)))))) (k:xs.length<=9223372036854775807->AC P W0 F N T0 pin Q c ⟨s,h,n⟩):AC P W0 F N T0 pin Q c ⟨s,h,n⟩:=fun a w hI=>by
 obtain ⟨σ,T,hT,S,hp⟩:=hI
 have h1:=bw.len (show bw T w (.r K (xs.map f)) _ from S.core.fR i _ hs)
 rw [List.length_map] at h1
 exact k h1 a w ⟨σ,T,hT,S,hp⟩
theorem gU {c:Code} {k r K m:Nat} (i:Nat) (hs:look s i=some (.v (.c (.s k r K m)))) (hk:m<=9223372036854775807->AC P W0 F N T0 pin Q c ⟨s,h,n⟩):AC P W0 F N T0 pin Q c ⟨s,h,n⟩:=fun a w hI=>by
 obtain ⟨σ,T,hT,S,hp⟩:=hI
 have h1:cW σ T w (.s k r K m) _:=S.core.fR i _ hs
 refine hk ?_ a w ⟨σ,T,hT,S,hp⟩
 rcases h1 with ⟨h0,_⟩|⟨g,_,_,h2,h3⟩<;>omega
theorem fH {c:Code} {α:Type} {f:α->List D} {xs:List α} {K:Nat} {cs:List CV} (i j:Nat) (hs:look s i=some (.v (.g cs))) (hj:cs[j]?=some (.d (.r K (xs.map f)))) (k:xs.length<=9223372036854775807->AC P W0 F N T0 pin Q c ⟨s,h,n⟩):AC P W0 F N T0 pin Q c ⟨s,h,n⟩:=fun a w hI=>by
 obtain ⟨σ,T,hT,S,hp⟩:=hI
 obtain ⟨vs,h1,h2⟩:=S.core.fR i _ hs
 obtain ⟨y,hy,hr⟩:=h2.get hj
 have h1:=bw.len (show bw T w (.r K (xs.map f)) _ from hr)
 rw [List.length_map] at h1
 exact k h1 a w ⟨σ,T,hT,S,hp⟩
end
theorem dw.cut {σ:Nat->Option bT} {T:Nat->Prop} {w:World} {og:Option bT} {t K:Nat} {rows:List (List D)} (m:Nat) (h:dw σ T w og (.arr t K rows)):dw σ T w og (.arr t K (rows.take m)):=by
 obtain ⟨hK,h1⟩:=h
 refine ⟨hK,?_⟩
 rcases h1 with ⟨h1,h2⟩|⟨g,vs,h1,h2,h3,h4,h5,h6⟩
 ·exact .inl ⟨by rw [h1];simp,h2⟩
 ·refine .inr ⟨g,vs,h1,h2,h3,h4,h5,?_,fun i row hi=>?_⟩
  ·refine Nat.le_trans (Nat.mul_le_mul_right K ?_) h6.1
   rw [List.length_take];omega
  ·rw [List.getElem?_take] at hi
   split at hi
   ·exact h6.2 i row hi
   ·cases hi
theorem Ext.stay {σ:Nat->Option bT} {T:Nat->Prop} {st:aL} {a:Act} {w:World} (C:Core σ T st a w) {k:Nat} {b b0:AB} (hb0:look st.h k=some b0) (hr:dw σ T w (σ k) b):Ext σ T w σ T w [(k,b)] [k]:=by
 refine ⟨rfl,rfl,rfl,⟨Nat.le_refl _,fun _ _ _=>rfl,?_,fun _ _ h=>h,fun _ _ h=>h⟩,fun _ h=>h,C.eT,fun _ _=>rfl,?_,?_,?_⟩
 ·rintro b' ⟨k',hk',g',hg',rfl⟩
  rw [List.mem_singleton.1 hk'] at hg'
  exact (C.heap k b0 hb0).pf hg'
 ·intro j b' h
  obtain ⟨rfl,rfl⟩:=Prod.mk.inj (List.mem_singleton.1 h)
  exact hr
 ·intro j b' g' h hg'
  obtain ⟨rfl,rfl⟩:=Prod.mk.inj (List.mem_singleton.1 h)
  exact .inr ⟨j,List.mem_singleton.2 rfl,g',hg',rfl⟩
 ·intro j j' b1 b2 g1 g2 h h' _ _ _
  obtain ⟨rfl,_⟩:=Prod.mk.inj (List.mem_singleton.1 h)
  obtain ⟨rfl,_⟩:=Prod.mk.inj (List.mem_singleton.1 h')
  rfl
theorem ud {P:Program} {st:aL} {o:Oper} {x:Operand} {c:Call} {t e bt K bytes k i n:Nat} {z:Value} {zs:List Value} {rows rows':List (List D)} (hT:iG P t e K bytes) (hz:(P.info? e).bind (fun i=>i.zero)=some z) (hzs:z.cells.toList=zs) (h1:zs.all (·.oneCell')=true)
  (ho:o.op=.call c) (hc:c.callee=.builtin .clear) (ha:c.args=#[x]) (hat:c.argTypes=#[t]) (hd:o.dst=none) (hx:ev st x (.v (.c (.s k i K n)))) (hb:look st.h k=some (.arr bt K rows)) (hr:rows.take i=rows'):aM P o st (.v (.c .any)) [(k,.arr bt K rows')] [k]:=by
 subst hr
 intro σ T a w C _
 have hxv:=bN C hx
 have hh:=C.heap k _ hb
 have quiet:∀ A c',a.eval x=.slice A 0 c'->o.wp P a w (fun a' w'=>∃ u σ' T',a'=a.put o.dst u/\Ext σ T w σ' T' w' [(k,.arr bt K (rows.take i))] [k]/\eX σ' T' w' (.v (.c .any)) u) yR:=fun A c' hv=>by
  refine ic (v:=.tuple #[]) ?_ ⟨_,σ,T,rfl,Ext.stay C hb (hh.cut i),trivial⟩
  unfold execOp
  cases A<;>simp [ho,resolve,hc,ha,hat,invoke,builtin,hv,Builtin.clear_,run_underlying hT.u]
 rcases hxv with ⟨h0,hv⟩|⟨g,hg,hv,bI,h63⟩
 ·exact quiet none 0 hv
 ·by_cases hn:n=0
  ·subst hn;exact quiet _ _ hv
  ·obtain ⟨hK,hh'⟩:=hh
   rcases hh' with ⟨_,h⟩|⟨g',vs,e1,e2,e3,e4,e5,e6⟩
   ·rw [hg] at h;cases h
   rw [hg] at e1;injection e1 with e1;subst e1
   obtain ⟨ii,z',hii,hzz,hs,hby,hzc⟩:=hT.i
   have hz':z'=z:=by simpa [hii,hzz] using hz
   subst hz'
   have hlen:(Builtin.zeroCells z'.cells n).toList.length=n * K:=by simp [Builtin.zeroCells,hzc]
   have hone:∀ u∈(Builtin.zeroCells z'.cells n).toList,u.oneCell'=true:=by
    intro u hu
    simp only [Builtin.zeroCells,Array.toList_map,List.mem_map] at hu
    obtain ⟨q,_,rfl⟩:=hu
    have hlt:q % z'.cells.size < z'.cells.size:=Nat.mod_lt _ (by rw [hzc];exact hK)
    rw [getElem!_pos z'.cells (q % z'.cells.size) hlt]
    subst hzs
    exact List.all_eq_true.1 h1 _ (by simp)
   have hfit:i * K+n * K<=vs.length:=by rw [e4,<-Nat.add_mul];exact Nat.mul_le_mul_right _ bI
   have hst:=run_storeCells_at (P:=P) g.g (i * K) bt (Builtin.zeroCells z'.cells n).toList 0 vs.toArray w e3 (by rw [hlen];simpa using hfit) hone
   obtain ⟨m,rfl⟩:∃ m,n=m+1:=⟨n - 1,by omega⟩
   have hzv:(zeroValue e).run P w=.ok z' w:=by simp [zeroValue,typeInfo,hii,hzz]
   refine ic (v:=.tuple #[]) (w':=w.setRow g.g (vs.take (i * K)++(Builtin.zeroCells z'.cells (m+1)).toList++vs.drop (i * K+(Builtin.zeroCells z'.cells (m+1)).toList.length)).toArray) ?_ ⟨_,σ,T,rfl,Ext.write C hb hg rfl rfl rfl (setRow_size w _ _) (fun j hj=>setRow_other w g.g j _ hj) fun G=>?_,trivial⟩
   ·unfold execOp
    simp only [Nat.add_zero] at hst
    simp [ho,resolve,hc,ha,hat,invoke,builtin,hv,Builtin.clear_,run_underlying hT.u,hzv,hst]
   ·refine ⟨hK,.inr ⟨g,_,rfl,e2,setRow_heap w g.g _ _ bt (0,0) e3,?_,e5,?_⟩⟩
    ·rw [<-e4];simp only [List.length_append,List.length_take,List.length_drop,hlen];omega
    ·have e7:=e6.grow G
     refine ⟨?_,fun r row hrow=>?_⟩
     ·simp only [List.length_append,List.length_take,List.length_drop,hlen]
      refine Nat.le_trans (Nat.mul_le_mul_right K (Nat.min_le_left i rows.length)) ?_
      omega
     ·rw [List.getElem?_take] at hrow
      split at hrow
      ·rename_i hri
       obtain ⟨q1,q2⟩:=e7.2 r row hrow
       refine ⟨q1,fun j d hj=>?_⟩
       obtain ⟨u,hu,hd'⟩:=q2 j d hj
       have hjK:j < K:=by rw [<-q1];exact (List.getElem?_eq_some_iff.1 hj).1
       have hlt:r * K+j < i * K:=by
        have:(r+1) * K<=i * K:=Nat.mul_le_mul_right _ hri
        rw [Nat.succ_mul] at this
        omega
       refine ⟨u,?_,hd'⟩
       rw [List.append_assoc,List.getElem?_append_left (by rw [List.length_take];omega),List.getElem?_take,if_pos hlt]
       exact hu
      ·cases hrow
theorem aJ.oB {pin:List (Nat×bT)} {s:List (Nat×AV)} {h h':List (Nat×AB)} {n:Nat} (k j K bt:Nat) {cs:List CV} (hb:look h k=some (.box bt cs)) (hc:cs[j]?=some cN) (hh:lk h k (.box bt (cs.set j (cR K [])))=h'):aJ pin ⟨s,h,n⟩ ⟨s,h',n⟩:=by
 subst hh
 rintro W0 F N T0 a w ⟨σ,T,hT,S,hp⟩
 have cj:∀ i b,look (lk h k (.box bt (cs.set j (cR K [])))) i=some b->∃ b0,look h i=some b0:=fun i b hi=>by
  rcases kN hi with ⟨rfl,_⟩|⟨_,h1⟩|⟨_,h1⟩
  ·exact ⟨_,hb⟩
  ·exact ⟨_,h1⟩
  ·exact h1.elim
 refine ⟨σ,T,hT,⟨⟨S.core.fR,?_,?_,S.core.eT⟩,S.os,S.tape,S.output,S.size,S.cj,?_,S.next,?_,S.jZ,S.jE⟩,hp⟩
 ·intro i b hi
  rcases kN hi with ⟨rfl,rfl⟩|⟨_,h1⟩|⟨_,h1⟩
  ·obtain ⟨g,vs,h1,h2,h3,h4⟩:=S.core.heap _ _ hb
   refine ⟨g,vs,h1,h2,h3,?_⟩
   obtain ⟨y,hy,hr⟩:=h4.get hc
   have hy':y=.slice none 0 0:=bw.inv hr
   subst hy'
   have:=h4.set (x:=cR K []) (y:=.slice none 0 0) (bw.nil _ _ _) j
   have e:vs.set j (.slice none 0 0)=vs:=by
    apply List.ext_getElem?
    intro q
    rw [List.getElem?_set]
    split
    ·rename_i hq;subst hq
     split
     ·exact hy.symm
     ·rename_i hlt;rw [List.getElem?_eq_none (by omega)]
    ·rfl
   rw [e] at this
   exact this
  ·exact S.core.heap i b h1
  ·exact h1.elim
 ·intro i i' b b' g g' hi hi' hg hg' hgg
  obtain ⟨b0,h0⟩:=cj i b hi
  obtain ⟨b1,h1⟩:=cj i' b' hi'
  exact S.core.inj i i' b0 b1 g g' h0 h1 hg hg' hgg
 ·intro i b g hi hg
  obtain ⟨b0,h0⟩:=cj i b hi
  exact S.own i b0 g h0 hg
 ·intro i b hi
  obtain ⟨b0,h0⟩:=cj i b hi
  exact S.hn i b0 h0
def zw (st:aL) (k:Nat) (p:Nat->Bool) (y x:AV):Prop:=(y=x/\x.ok p=true)\/∃ c d,y=.v (.c c)/\x=.v (.c d)/\lP st [k] c d
theorem Core.freeze {σ:Nat->Option bT} {T:Nat->Prop} {st st':aL} {a:Act} {w:World} (C:Core σ T st a w) (k:Nat) (hn:∀ i v,look st'.s i=some v->∃ y,look st.s i=some y/\zw st k (bu st'.h) y v)
  (hh:∀ j b,look st'.h j=some b->look st.h j=some b/\j≠k/\b.ok (bu st'.h)=true) (hk:∃ b,look st.h k=some b):Core (fun j=>if bu st'.h j=true then σ j else none) (gi σ T [k]) st' a w:=by
 have hlow:∀ b,gi σ T [k] b->T b:=fun b h=>h.1
 obtain ⟨b0,hb0⟩:=hk
 have hσ:∀ j,bu st'.h j=true->(fun j=>if bu st'.h j=true then σ j else none) j=σ (id j):=fun j hj=>if_pos hj
 have idA:∀ v:AV,v.map id=v:=fun v=>by
  have hz:∀ c:CV,c.map id=c:=fun c=>by cases c<;>simp [CV.map]
  have hg:∀ g:GV,g.map id=g:=fun g=>by
   cases g with
   |c x=>simp [GV.map,hz]
   |g xs=>simp only [GV.map];congr 1;exact (List.map_congr_left fun c _=>hz c).trans (List.map_id _)
  cases v with
  |v x=>simp [AV.map,hg]
  |t xs=>simp only [AV.map];congr 1;exact (List.map_congr_left fun c _=>hg c).trans (List.map_id _)
 have idB:∀ b:AB,b.map' id=b:=fun b=>by
  have hz:∀ c:CV,c.map id=c:=fun c=>by cases c<;>simp [CV.map]
  cases b with
  |box t cs=>simp only [AB.map'];congr 1;exact (List.map_congr_left (fun c _=>hz c)).trans (List.map_id _)
  |arr=>rfl
  |map=>rfl
 have inT':∀ j b g,look st'.h j=some b->σ j=some g->T g.g->gi σ T [k] g.g:=fun j b g hj hg hT=>⟨hT,fun e he g' hg' hgg=>by
  rw [List.mem_singleton.1 he] at hg'
  exact (hh j b hj).2.1 (C.inj k j b0 b g' g hb0 (hh j b hj).1 hg' hg hgg).symm⟩
 refine ⟨fun i v hi=>?_,fun j b hj=>?_,fun j j' b b' g g' hj hj' hg hg' hgg=>?_,fun b h=>C.eT b h.1⟩
 ·obtain ⟨y,hy,hf⟩:=hn i v hi
  have hr:=C.fR i y hy
  rcases hf with ⟨rfl,hok⟩|⟨c,d,rfl,rfl,harg⟩
  ·have hr:eX σ T w (y.map id) (a.tmps.getD i undef):=by rw [idA];exact hr
   have h2:=eX.cc hσ hr hok
   cases y with
   |v x=>exact dx.fY (x:=x) hlow h2
   |t xs=>obtain ⟨vs,q1,q2⟩:=h2;exact ⟨vs,q1,q2.mono fun _ _ h=>h.fY hlow⟩
  ·exact cW.up (x:=d) (lP.rel C harg hr)
 ·obtain ⟨h1,h2,h3⟩:=hh j b hj
  have hkin:bu st'.h j=true:=by simp [bu,hj]
  show dw _ _ _ (if bu st'.h j=true then σ j else none) b
  rw [if_pos hkin]
  have h4:dw σ T w (σ j) (b.map' id):=by rw [idB];exact C.heap j b h1
  exact dw.fY hlow (fun g hg hT=>inT' j b g hj hg hT) (dw.cc hσ h4 h3)
 ·obtain ⟨h1,_,_⟩:=hh j b hj
  obtain ⟨h1',_,_⟩:=hh j' b' hj'
  have e1:bu st'.h j=true:=by simp [bu,hj]
  have e2:bu st'.h j'=true:=by simp [bu,hj']
  have hg:(if bu st'.h j=true then σ j else none)=some g:=hg
  have hg':(if bu st'.h j'=true then σ j' else none)=some g':=hg'
  rw [if_pos e1] at hg
  rw [if_pos e2] at hg'
  exact C.inj j j' b b' g g' h1 h1' hg hg' hgg
section
variable {P:Program} {W0:World} {N:NT} {T0:Nat->Prop} {Q:Exit->aL->Prop} {s s':List (Nat×AV)} {h h':List (Nat×AB)} {n:Nat}
theorem tj {a:Act} {w:World} (k:Nat) (hk:bu h k=true) (hs:dF (fun x=>∃ y,look s x.1=some y/\zw ⟨s,h,n⟩ k (bu h') y x.2) s') (hh:dF (fun x=>look h x.1=some x.2) h') (hok:h'.all (fun x=>!Nat.beq x.1 k && x.2.ok (bu h'))=true)
  (hI:Inv W0 (fun _=>False) N T0 [] ⟨s,h,n⟩ a w):Inv W0 (fun _=>False) N T0 [] ⟨s',h',n⟩ a w:=by
 obtain ⟨σ,T,hT,S,hp⟩:=hI
 obtain ⟨b0,hb0⟩:=kq hk
 have hh':∀ j b,look h' j=some b->look h j=some b/\j≠k/\b.ok (bu h')=true:=fun j b hj=>by
  have h1:=List.all_eq_true.1 hok _ (bP hj)
  simp only [Bool.and_eq_true,Bool.not_eq_true'] at h1
  exact ⟨hh.mem _ (bP hj),(fun e=>by subst e;rw [Nat.beq_refl] at h1;exact absurd h1.1 (by simp)),h1.2⟩
 have C:=S.core.freeze (st':=⟨s',h',n⟩) k (fun i v hi=>hs.mem _ (bP hi)) hh' ⟨b0,hb0⟩
 have q1:∀ b,b < W0.heap.size->(gi σ T [k] b->T0 b)/\(T0 b->gi σ T [k] b):=fun b hb=>⟨fun hb'=>(hT b hb).1 hb'.1,fun h0=>⟨(hT b hb).2 h0,fun e he g hg hgb=>by
  rw [List.mem_singleton.1 he] at hg
  rcases S.own k b0 g hb0 hg with h1|h1
  ·omega
  ·exact h1⟩⟩
 have q2:∀ j b g,look h' j=some b->(if bu h' j=true then σ j else none)=some g->W0.heap.size<=g.g\/False:=fun j b g hj hg=>by
  split at hg
  ·exact S.own j b g (hh' j b hj).1 hg
  ·cases hg
 have q3:∀ j,n<=j->(if bu h' j=true then σ j else none)=none:=fun j hj=>by
  split
  ·exact S.next j hj
  ·rfl
 exact ⟨_,_,q1,⟨C,S.os,S.tape,S.output,S.size,S.cj,q2,q3,fun j b hj=>S.hn j b (hh' j b hj).1,S.jZ,S.jE⟩,fun j g hj=>by cases hj⟩
theorem qo {ops:Array Oper} {l:List Oper} (k:Nat) (hk:bu h k=true) (hs:dF (fun x=>∃ y,look s x.1=some y/\zw ⟨s,h,n⟩ k (bu h') y x.2) s') (hh:dF (fun x=>look h x.1=some x.2) h') (hok:h'.all (fun x=>!Nat.beq x.1 k && x.2.ok (bu h'))=true)
  (hn:AL P W0 (fun _=>False) N T0 [] ops Q l ⟨s',h',n⟩):AL P W0 (fun _=>False) N T0 [] ops Q l ⟨s,h,n⟩:=fun a w hI=>hn a w (tj k hk hs hh hok hI)
theorem Jm {c:Code} (k:Nat) (hk:bu h k=true) (hs:dF (fun x=>∃ y,look s x.1=some y/\zw ⟨s,h,n⟩ k (bu h') y x.2) s') (hh:dF (fun x=>look h x.1=some x.2) h') (hok:h'.all (fun x=>!Nat.beq x.1 k && x.2.ok (bu h'))=true)
  (hn:AC P W0 (fun _=>False) N T0 [] Q c ⟨s',h',n⟩):AC P W0 (fun _=>False) N T0 [] Q c ⟨s,h,n⟩:=fun a w hI=>hn a w (tj k hk hs hh hok hI)
end
end
section

section
variable {P:Program} {W0:World} {F:Nat->Prop} {N:NT} {T0:Nat->Prop} {pin:List (Nat×bT)} {Q:Exit->aL->Prop} {st:aL} {ops:Array Oper}
def AR (P:Program) (W0:World) (F:Nat->Prop) (N:NT) (T0:Nat->Prop) (pin:List (Nat×bT)) (ops:Array Oper) (Q:Exit->aL->Prop):Nat->Array Bool->aL->Prop
 |0,listed,st=>Region.ready .any ops listed=[]/\Q .normal st
 |f+1,listed,st=>Region.ready .any ops listed≠[]/\∀ i∈Region.ready .any ops listed,∀ a w,Inv W0 F N T0 pin st a w->wpOp P ops (QX W0 F N T0 pin Q) i (fun a' w'=>∃ st',AR P W0 F N T0 pin ops Q f (listed.setIfInBounds i true) st'/\Inv W0 F N T0 pin st' a' w') a w
def nQ (K:aL->Prop):Exit->aL->Prop:=fun e st'=>e=.normal/\K st'
theorem Dn {o:Oper} {a:Act} {K:Act->World->Prop} {R S:Exit->Act->World->Prop} {r:Result Next} (hR:∀ e a w,e≠.normal->¬R e a w) (h:o.upon P a K R r):o.upon P a K S r:=by
 cases r with
 |ok n w'=>
  cases n<;>simp only [Oper.upon] at h ⊢<;>try exact h
  refine h.mono fun e w'' he=>?_
  cases e with
  |returned v=>exact he
  |panicked c=>exact absurd he (hR _ _ _ (fun e=>by cases e))
  |outgrown=>obtain ⟨_,_,h⟩:=he;exact absurd h (hR _ _ _ (fun e=>by cases e))
 |halt x w'=>cases x<;>simp only [Oper.upon] at h ⊢<;>first|exact h|exact absurd h (hR _ _ _ (fun e=>by cases e))
theorem AR.step {K:aL->Prop} {i:Nat} {o:Oper} (ho:ops[i]?=some o) (hal:AL P W0 F N T0 pin ops (nQ K) [o] st):∀ a w,Inv W0 F N T0 pin st a w->wpOp P ops (QX W0 F N T0 pin Q) i (fun a' w'=>∃ st',K st'/\Inv W0 F N T0 pin st' a' w') a w:=by
 intro a w hI
 have hR:∀ e a w,e≠.normal->¬QX W0 F N T0 pin (nQ K) e a w:=by
  rintro e a w he ⟨st',⟨h1,_⟩,_⟩;exact he h1
 have hN:∀ a w,QX W0 F N T0 pin (nQ K) .normal a w->∃ st',K st'/\Inv W0 F N T0 pin st' a w:=by
  rintro a w ⟨st',⟨_,h1⟩,h2⟩;exact ⟨st',h1,h2⟩
 have h:=hal a w hI
 unfold wpList at h
 unfold wpOp
 rw [ho]
 dsimp only
 split at h
 ·rename_i hw
  rw [if_pos hw]
  rcases h with h|⟨_,a1,w1,h⟩
  ·exact .inl (Dn hR (iJ h fun a w h=>hN a w h))
  ·exact absurd h (hR _ _ _ (fun e=>by cases e))
 ·rename_i hw
  rw [if_neg hw]
  exact hN _ _ h
theorem AR.more {f:Nat} {listed:Array Bool} {is:List Nat} (hr:Region.ready .any ops listed=is) (hne:is.isEmpty=false) (h:dF (fun i=>∀ a w,Inv W0 F N T0 pin st a w->wpOp P ops (QX W0 F N T0 pin Q) i (fun a' w'=>∃ st',AR P W0 F N T0 pin ops Q f (listed.setIfInBounds i true) st'/\Inv W0 F N T0 pin st' a' w') a w) is):AR P W0 F N T0 pin ops Q (f+1) listed st:=by
 refine ⟨fun e=>?_,fun i hi=>h.mem i (hr▸hi)⟩
 rw [hr] at e;subst e;cases hne
end
end
section

def qM (aT:List bJ) (x:Nat) (q:Nat):Bool:=match aT[q]? with
 |some r=>(match r.dst with
  |some d=>Nat.beq d x
  |none=>false)
 |none=>false
def oY (aT:List bJ) (k:Nat) (q:Nat):Bool:=match aT[q]? with
 |some r=>eb k r.E||eb k (keys r.nb)
 |none=>false
def GN (aT:List bJ) (k:Nat) (q:Nat):Bool:=match aT[q]? with
 |some r=>eb k (keys r.nb)
 |none=>false
def vP (ops:Array Oper) (n:Nat) (wr:Nat->Bool) (i:Nat):Option Nat->Bool
 |none=>(List.range n).all fun q=>Nat.beq q i||!wr q||gJ ops q i
 |some j=>Nat.blt j n && gJ ops i j && (List.range n).all fun q=>Nat.beq q i||Nat.beq q j||!wr q||gJ ops q i||gJ ops j q
def ta (ops:Array Oper) (n:Nat) (wr:Nat->Bool):Option Nat->Bool
 |none=>(List.range n).all fun q=>!wr q
 |some j=>Nat.blt j n && (List.range n).all fun q=>Nat.beq q j||!wr q||gJ ops j q
def kG (aT:List bJ) (pre:List Nat) (x:Nat):Option Nat:=pre.find? (qM aT x)
def kc (aT:List bJ) (pre:List Nat) (k:Nat):Option Nat:=pre.find? (GN aT k)
def ov (ops:Array Oper) (aT:List bJ) (N:Nat) (st fin:aL) (i:Nat) (r:bJ):Bool:=
 (match ops[i]? with
  |some o=>(match o.dst,r.dst with
   |some d,some d'=>Nat.beq d d' && Nat.blt d N
   |none,none=>true
   |_,_=>false) && o.after.all (fun e=>!Region.binds .any e||Nat.blt e.on i)
  |none=>false) &&
 r.E.all (fun k=>eb k (keys r.h)) && eI (keys r.nb) &&
 r.nb.all (fun x=>Nat.blt x.1 fin.n && (eb x.1 r.E||(Nat.ble st.n x.1 && (List.range aT.length).all fun q=>Nat.beq q i||!oY aT x.1 q||gJ ops q i))) &&
 r.s.all (fun x=>vP ops aT.length (qM aT x.1) i (kG aT r.pre x.1)) && r.h.all (fun x=>vP ops aT.length (oY aT x.1) i (kc aT r.pre x.1))
def tH (ops:Array Oper) (aT:List bJ) (N:Nat) (st fin:aL):Nat->List bJ->Bool
 |_,[]=>true
 |i,r::rs=>ov ops aT N st fin i r && tH ops aT N st fin (i+1) rs
def tq (ops:Array Oper) (aT:List bJ) (N:Nat) (st fin:aL) (fp:List Nat):Bool:=
 tH ops aT N st fin 0 aT && Nat.beq aT.length ops.size && Nat.ble st.n fin.n &&
 fin.s.all (fun x=>ta ops aT.length (qM aT x.1) (kG aT fp x.1)) && fin.h.all (fun x=>Nat.blt x.1 fin.n && ta ops aT.length (oY aT x.1) (kc aT fp x.1))
theorem vx {ops:Array Oper} {aT:List bJ} {N:Nat} {st fin:aL}:∀ {rs:List bJ} {i:Nat},tH ops aT N st fin i rs=true->∀ {j:Nat} {r:bJ},rs[j]?=some r->ov ops aT N st fin (i+j) r=true
 |r::rs,i,h,0,r',hr=>by simp at hr;subst hr;simp only [tH,Bool.and_eq_true] at h;exact h.1
 |r::rs,i,h,j+1,r',hr=>by
  simp only [tH,Bool.and_eq_true] at h
  have:=vx (rs:=rs) (i:=i+1) h.2 (j:=j) (by simpa using hr)
  rwa [show i+1+j=i+(j+1) by omega] at this
 |[],_,_,_,_,hr=>by simp at hr
def mH (st:aL) (aT:List bJ) (x:Nat) (v:AV):Option Nat->Prop
 |none=>look st.s x=some v
 |some j=>∃ q,aT[j]?=some q/\q.dst=some x/\q.v=v
def mI (st:aL) (aT:List bJ) (k:Nat) (b:AB):Option Nat->Prop
 |none=>look st.h k=some b
 |some j=>∃ q,aT[j]?=some q/\(k,b)∈q.nb
def oW (st:aL) (aT:List bJ):List bJ->Prop
 |[]=>True
 |r::rs=>(dF (fun x=>mH st aT x.1 x.2 (kG aT r.pre x.1)) r.s/\dF (fun x=>mI st aT x.1 x.2 (kc aT r.pre x.1)) r.h)/\oW st aT rs
theorem oW.get {st:aL} {aT:List bJ}:∀ {rs:List bJ},oW st aT rs->∀ {r:bJ},r∈rs->dF (fun x=>mH st aT x.1 x.2 (kG aT r.pre x.1)) r.s/\dF (fun x=>mI st aT x.1 x.2 (kc aT r.pre x.1)) r.h
 |r::rs,h,r',hr=>by
  rcases List.mem_cons.1 hr with rfl|hr
  ·exact h.1
  ·exact oW.get (rs:=rs) h.2 hr
def qn (ops:Array Oper) (n:Nat):List Nat->Prop
 |[]=>True
 |j::ys=>(∀ q,q < n->gJ ops j q=true->q∈ys)/\j ∉ ys/\qn ops n ys
theorem qn.wait {ops:Array Oper} {n:Nat}:∀ {d:List Nat},qn ops n d->∀ {q i:Nat},q∈d->i < n->gJ ops q i=true->i∈d
 |j::ys,h,q,i,hq,hi,hw=>by
  rcases List.mem_cons.1 hq with rfl|hq
  ·exact List.mem_cons_of_mem _ (h.1 i hi hw)
  ·exact List.mem_cons_of_mem _ (h.2.2.wait hq hi hw)
theorem qn.split {ops:Array Oper} {n:Nat} {wr:Nat->Bool} {j:Nat}:∀ {d:List Nat},qn ops n d->j∈d->(∀ q∈d,q < n)->(∀ q∈d,q≠j->wr q=true->gJ ops j q=true)->∃ xs ys,d=xs++j::ys/\∀ q∈xs,wr q=false
 |k::ys,h,hj,hn,hc=>by
  by_cases e:k=j
  ·subst e;exact ⟨[],ys,rfl,fun q hq=>by cases hq⟩
  ·have hj':j∈ys:=(List.mem_cons.1 hj).resolve_left (Ne.symm e)
   obtain ⟨xs,zs,h1,h2⟩:=h.2.2.split hj' (fun q hq=>hn q (List.mem_cons_of_mem _ hq)) (fun q hq=>hc q (List.mem_cons_of_mem _ hq))
   refine ⟨k::xs,zs,by rw [h1];rfl,fun q hq=>?_⟩
   rcases List.mem_cons.1 hq with rfl|hq
   ·cases hw:wr q with
    |false=>rfl
    |true=>exact absurd (h.2.2.wait hj' (hn q List.mem_cons_self) (hc q List.mem_cons_self e hw)) h.2.1
   ·exact h2 q hq
section
variable {st:aL} {aT:List bJ}
theorem Bc {x q:Nat} {r:bJ} (hr:aT[q]?=some r) (h:qM aT x q=false):r.dst≠some x:=fun e=>by
 unfold qM at h;rw [hr] at h;simp only [e] at h;rw [Nat.beq_refl] at h;cases h
theorem Bd {k q:Nat} {r:bJ} (hr:aT[q]?=some r) (h:oY aT k q=false):k ∉ keys r.nb/\k ∉ r.E:=by
 unfold oY at h;rw [hr] at h
 simp only [Bool.or_eq_false_iff] at h
 exact ⟨fun hk=>(Bool.eq_false_iff.1 h.2) (fa.2 hk),fun hk=>(Bool.eq_false_iff.1 h.1) (fa.2 hk)⟩
theorem GB {xs ys:List Nat} {j x:Nat} {r:bJ} (hx:∀ q∈xs,qM aT x q=false) (hr:aT[j]?=some r) (hd:r.dst=some x):look (fl st aT (xs++j::ys)).s x=some r.v:=by
 induction xs with
 |nil=>
  rw [List.nil_append,ig hr,hd]
  show look ((x,r.v)::(fl st aT ys).s) x=_
  rw [bZ,if_pos rfl]
 |cons q xs ih=>
  have ih:=ih fun p hp=>hx p (List.mem_cons_of_mem _ hp)
  rw [List.cons_append]
  cases hq:aT[q]? with
  |none=>rw [kK hq];exact ih
  |some r'=>
   rw [ig hq]
   have hne:=Bc hq (hx q List.mem_cons_self)
   cases hd':r'.dst with
   |none=>exact ih
   |some d=>
    show look ((d,r'.v)::(fl st aT (xs++j::ys)).s) x=_
    rw [bZ,if_neg (fun e=>hne (by rw [hd',e]))]
    exact ih
theorem ub {l:List (Nat×AB)} {k:Nat} (h:k ∉ keys l):look l k=none:=by
 cases hl:look l k with
 |none=>rfl
 |some b=>exact absurd (List.mem_map.2 ⟨(k,b),bP hl,rfl⟩) h
theorem GC {xs ys:List Nat} {j k:Nat} {b:AB} {r:bJ} (hx:∀ q∈xs,oY aT k q=false) (hr:aT[j]?=some r) (hn:(keys r.nb).Nodup) (hb:(k,b)∈r.nb):look (fl st aT (xs++j::ys)).h k=some b:=by
 induction xs with
 |nil=>
  rw [List.nil_append,ig hr,vO]
  show look (r.nb++del r.E (fl st aT ys).h) k=_
  rw [il,qY hn hb,Option.some_or]
 |cons q xs ih=>
  have ih:=ih fun p hp=>hx p (List.mem_cons_of_mem _ hp)
  rw [List.cons_append]
  cases hq:aT[q]? with
  |none=>rw [kK hq];exact ih
  |some r'=>
   rw [ig hq,vO]
   obtain ⟨h1,h2⟩:=Bd hq (hx q List.mem_cons_self)
   show look (r'.nb++del r'.E (fl st aT (xs++j::ys)).h) k=_
   rw [il,ub h1,Option.none_or,ld h2]
   exact ih
end
theorem lp {n:Nat} {p:Nat->Bool} (h:(List.range n).all p=true) {q:Nat} (hq:q < n):p q=true:=List.all_eq_true.1 h q (List.mem_range.2 hq)
section
variable {P:Program} {W0:World} {F:Nat->Prop} {N:NT} {T0:Nat->Prop} {pin:List (Nat×bT)} {Q:Exit->aL->Prop} {st:aL}
theorem Fg {id:Nat} {l:List Oper} (aT:List bJ) (fin:aL) (fp:List Nat) (hm:P.follows .mixedOrders=true) (hB:tq l.toArray aT N.1 st fin fp=true) (hrows:jJ P l.toArray aT l) (hsee:oW st aT aT)
  (hfin:dF (fun x=>mH st aT x.1 x.2 (kG aT fp x.1)) fin.s/\dF (fun x=>mI st aT x.1 x.2 (kc aT fp x.1)) fin.h) (hk:Q .normal fin):AC P W0 F N T0 pin Q (.region id l.toArray true) st:=by
 rintro a w ⟨σ0,T1,hT1,S0,hp0⟩
 unfold tq at hB
 simp only [Bool.and_eq_true] at hB
 obtain ⟨⟨⟨⟨hall,hlen⟩,hfn⟩,hfs⟩,hfh⟩:=hB
 have hlen:=Nat.eq_of_beq_eq_true hlen
 have tab:∀ i r,aT[i]?=some r->ov l.toArray aT N.1 st fin i r=true:=fun i r hr=>by have:=vx hall hr;rwa [Nat.zero_add] at this
 have nbnd:∀ (i:Nat) (r:bJ),aT[i]?=some r->(keys r.nb).Nodup:=fun i r hr=>by
  have:=tab i r hr
  simp only [ov,Bool.and_eq_true] at this
  exact kl this.1.1.1.2
 have nbk:∀ (i:Nat) (r:bJ) k,aT[i]?=some r->k∈keys r.nb->k < fin.n/\(k∈r.E\/(st.n<=k/\∀ q,q < aT.length->q≠i->oY aT k q=true->gJ l.toArray q i=true)):=fun i r k hr hk=>by
  have:=tab i r hr
  simp only [ov,Bool.and_eq_true] at this
  obtain ⟨x,hx,rfl⟩:=List.mem_map.1 hk
  have h1:=List.all_eq_true.1 this.1.1.2 x hx
  simp only [Bool.and_eq_true,Bool.or_eq_true,Nat.blt_eq] at h1
  refine ⟨h1.1,?_⟩
  rcases h1.2 with h2|⟨h2,h3⟩
  ·exact .inl (fa.1 h2)
  ·refine .inr ⟨Nat.le_of_ble_eq_true h2,fun q hq hne hw=>?_⟩
   have h4:=lp h3 hq
   simp only [Bool.or_eq_true,Bool.not_eq_true'] at h4
   rcases h4 with (h4|h4)|h4
   ·exact absurd (Nat.eq_of_beq_eq_true h4) hne
   ·rw [hw] at h4;cases h4
   ·exact h4
 have srcOK:∀ (wr:Nat->Bool) (i:Nat) (src:Option Nat),vP l.toArray aT.length wr i src=true->∀ (done:List Nat),qn l.toArray aT.length done->(∀ q∈done,q < aT.length)->i ∉ done->i < aT.length->(∀ j,j < aT.length->gJ l.toArray i j=true->j∈done)->
   (src=none/\∀ q∈done,wr q=false)\/∃ j xs ys,src=some j/\done=xs++j::ys/\∀ q∈xs,wr q=false:=by
  intro wr i src hok done hord hdn hi hilt hwait
  cases src with
  |none=>
   refine .inl ⟨rfl,fun q hq=>?_⟩
   cases hw:wr q with
   |false=>rfl
   |true=>
    have h:=lp hok (hdn q hq)
    simp only [Bool.or_eq_true,Bool.not_eq_true'] at h
    rcases h with (h|h)|h
    ·exact absurd (Nat.eq_of_beq_eq_true h▸hq) hi
    ·rw [hw] at h;cases h
    ·exact absurd (hord.wait hq hilt h) hi
  |some j=>
   simp only [vP,Bool.and_eq_true,Nat.blt_eq] at hok
   obtain ⟨⟨h1,h2⟩,h3⟩:=hok
   have hj:=hwait j h1 h2
   obtain ⟨xs,ys,h4,h5⟩:=hord.split (wr:=wr) hj hdn (fun q hq hne hw=>by
    have h:=lp h3 (hdn q hq)
    simp only [Bool.or_eq_true,Bool.not_eq_true'] at h
    rcases h with (((h|h)|h)|h)|h
    ·exact absurd (Nat.eq_of_beq_eq_true h▸hq) hi
    ·exact absurd (Nat.eq_of_beq_eq_true h) hne
    ·rw [hw] at h;cases h
    ·exact absurd (hord.wait hq hilt h) hi
    ·exact h)
   exact .inr ⟨j,xs,ys,rfl,h4,h5⟩
 have finOK:∀ (wr:Nat->Bool) (src:Option Nat),ta l.toArray aT.length wr src=true->∀ (done:List Nat),qn l.toArray aT.length done->(∀ q∈done,q < aT.length)->(∀ q,q < aT.length->q∈done)->
   (src=none/\∀ q∈done,wr q=false)\/∃ j xs ys,src=some j/\done=xs++j::ys/\∀ q∈xs,wr q=false:=by
  intro wr src hok done hord hdn hall'
  cases src with
  |none=>
   refine .inl ⟨rfl,fun q hq=>?_⟩
   have h:=lp hok (hdn q hq)
   simpa using h
  |some j=>
   simp only [ta,Bool.and_eq_true,Nat.blt_eq] at hok
   obtain ⟨h1,h3⟩:=hok
   obtain ⟨xs,ys,h4,h5⟩:=hord.split (wr:=wr) (hall' j h1) hdn (fun q hq hne hw=>by
    have h:=lp h3 (hdn q hq)
    simp only [Bool.or_eq_true,Bool.not_eq_true'] at h
    rcases h with (h|h)|h
    ·exact absurd (Nat.eq_of_beq_eq_true h) hne
    ·rw [hw] at h;cases h
    ·exact h)
   exact .inr ⟨j,xs,ys,rfl,h4,h5⟩
 have hZ:∀ (done:List Nat) x v src,mH st aT x v src->((src=none/\∀ q∈done,qM aT x q=false)\/∃ j xs ys,src=some j/\done=xs++j::ys/\∀ q∈xs,qM aT x q=false)->look (fl st aT done).s x=some v:=by
  intro done x v src hs hc
  rcases hc with ⟨rfl,hc⟩|⟨j,xs,ys,rfl,rfl,hc⟩
  ·rw [rM fun i hi r hr=>Bc hr (hc i hi)];exact hs
  ·obtain ⟨q,h1,h2,rfl⟩:=hs
   exact GB hc h1 h2
 have gM:∀ (done:List Nat) k b src,mI st aT k b src->((src=none/\∀ q∈done,oY aT k q=false)\/∃ j xs ys,src=some j/\done=xs++j::ys/\∀ q∈xs,oY aT k q=false)->look (fl st aT done).h k=some b:=by
  intro done k b src hs hc
  rcases hc with ⟨rfl,hc⟩|⟨j,xs,ys,rfl,rfl,hc⟩
  ·rw [lH fun i hi r hr=>Bd hr (hc i hi)];exact hs
  ·obtain ⟨q,h1,h2⟩:=hs
   exact GC hc h1 (nbnd j q h1) h2
 let InvD:Array Bool->Act->World->Prop:=fun listed a w=>HeadInv .any l.toArray aT.length listed/\∃ done:List Nat,(∀ i,i∈done↔i < aT.length/\listed.getD i false=true)/\qn l.toArray aT.length done/\∃ σ T,(∀ b,b < W0.heap.size->(T b->T0 b)/\(T0 b->T b))/\tJ W0 F N σ T (fl st aT done) a w/\(∀ k g,look pin k=some g->σ k=some g)/\
  ∀ k,st.n<=k->(∀ i∈done,∀ r,aT[i]?=some r->k ∉ keys r.nb)->σ k=none
 have step:∀ listed a w i o,InvD listed a w->l.toArray[i]?=some o->i < aT.length->i∈Region.ready .any l.toArray listed->wpOp P l.toArray (QX W0 F N T0 pin Q) i (InvD (listed.setIfInBounds i true)) a w:=by
  rintro listed a w i o ⟨H,done,hdone,hord,σ,T,hT,S,hp,hfresh⟩ ho hi hr
  obtain ⟨r,hri⟩:∃ r,aT[i]?=some r:=⟨_,List.getElem?_eq_getElem hi⟩
  have t:=tab i r hri
  simp only [ov,Bool.and_eq_true] at t
  obtain ⟨⟨⟨⟨⟨t1,t2⟩,_⟩,_⟩,t5⟩,t6⟩:=t
  obtain ⟨hun,o',ho',hallr⟩:=mem_ready.1 hr
  have hoo:o'=o:=Option.some.inj (ho'.symm.trans ho)
  subst hoo
  rw [ho] at t1
  simp only [Bool.and_eq_true] at t1
  have hnot:i ∉ done:=fun hm=>by have:=((hdone i).1 hm).2;rw [getD_both hun] at this;cases this
  have hdst:o'.dst=r.dst/\∀ d,o'.dst=some d->d < N.1:=by
   cases h1:o'.dst with
   |none=>cases h2:r.dst with
    |none=>exact ⟨rfl,fun d h=>by cases h⟩
    |some d=>rw [h1,h2] at t1;cases t1.1
   |some d=>cases h2:r.dst with
    |none=>rw [h1,h2] at t1;cases t1.1
    |some d'=>
     rw [h1,h2] at t1
     simp only [Bool.and_eq_true,Nat.blt_eq] at t1
     obtain rfl:=Nat.eq_of_beq_eq_true t1.1.1
     exact ⟨rfl,fun d'' h=>by injection h with h;subst h;exact t1.1.2⟩
  have hdn:∀ q∈done,q < aT.length:=fun q hq=>((hdone q).1 hq).1
  have hwait:∀ j,j < aT.length->gJ l.toArray i j=true->j∈done:=fun j hj hw=>(hdone j).2 ⟨hj,oZ H ho hallr hw⟩
  obtain ⟨hsS,hsH⟩:=hsee.get (List.mem_of_getElem? hri)
  have hs:∀ t x,look r.st.s t=some x->look (fl st aT done).s t=some x:=fun t x hx=>
   hZ done t x _ (hsS.mem (t,x) (bP hx)) (srcOK _ i _ (List.all_eq_true.1 t5 (t,x) (bP hx)) done hord hdn hnot hi hwait)
  have hh:∀ k b,look r.st.h k=some b->look (fl st aT done).h k=some b:=fun k b hb=>
   gM done k b _ (hsH.mem (k,b) (bP hb)) (srcOK _ i _ (List.all_eq_true.1 t6 (k,b) (bP hb)) done hord hdn hnot hi hwait)
  have Cr:Core σ T r.st a w:=S.core.sub hs hh
  have fin':∀ σ' T' w' u,Ext σ T w σ' T' w' r.nb r.E->eX σ' T' w' r.v u->InvD (listed.setIfInBounds i true) (a.put o'.dst u) w':=by
   intro σ' T' w' u X hv
   refine ⟨H.set hr hi,i::done,fun j=>?_,⟨hwait,hnot,hord⟩,σ',T',fun b hb=>⟨fun hb'=>(hT b hb).1 (X.grow.lQ b (Nat.lt_of_lt_of_le hb S.size) hb'),fun h0=>X.nh b ((hT b hb).2 h0)⟩,?_,fun k g hk=>X.grow.σle _ _ (hp k g hk),fun k hk hkn=>?_⟩
   ·rw [List.mem_cons]
    by_cases e:j=i
    ·subst e
     have hsz:j < listed.size:=by rw [H.size];omega
     simp [hi,hsz]
    ·rw [getD_set_ne false (Ne.symm e)]
     simp [e,hdone]
   ·rw [ig hri,hdst.1]
    refine S.step (fun e he=>?_) (fun d hd=>hdst.2 d (hdst.1▸hd)) X hv
    obtain ⟨⟨e',b⟩,hm,rfl⟩:=List.mem_map.1 (fa.1 (List.all_eq_true.1 t2 e he))
    cases hl:look r.h e' with
    |none=>exact absurd hl (ko hm)
    |some b'=>exact ⟨b',hh e' b' hl⟩
   ·rw [X.zi k fun b hb=>hkn i List.mem_cons_self r hri (List.mem_map.2 ⟨(k,b),hb,rfl⟩)]
    exact hfresh k hk fun j hj=>hkn j (List.mem_cons_of_mem _ hj)
  obtain ⟨o2,ho2,hro⟩:=hrows.get hri
  have:o2=o':=by
   have h1:l.toArray[i]?=some o2:=by simpa using ho2
   exact Option.some.inj (h1.symm.trans ho)
  subst this
  rcases hro with ⟨hw,hg⟩|⟨hw,hv,hnb,hE⟩
  ·refine sE ho (hw σ T a w Cr) (nY (iJ (hg σ T a w Cr fun k b hk hkE=>?_) ?_))
   ·obtain ⟨_,h1|⟨h1,h2⟩⟩:=nbk i r k hri (List.mem_map.2 ⟨(k,b),hk,rfl⟩)
    ·exact absurd h1 hkE
    ·refine hfresh k h1 fun j hj q hq hkq=>?_
     have hne:j≠i:=fun e=>hnot (e▸hj)
     have hwq:oY aT k j=true:=by
      unfold oY;rw [hq];simp only [Bool.or_eq_true];exact .inr (fa.2 hkq)
     exact hnot (hord.wait hj hi (h2 j (hdn j hj) hne hwq))
   ·rintro a' w' ⟨u,σ',T',rfl,X,hv⟩
    exact fin' σ' T' w' u X hv
  ·refine pq ho (hw σ T a w Cr) (fin' σ T w undef ?_ ?_)
   ·rw [hnb,hE];exact Ext.same S.core.eT
   ·rw [hv];exact ⟨[],rfl,trivial⟩
 have atEnd:∀ listed a w,InvD listed a w->(∀ i,i < aT.length->listed.getD i false=true)->Inv W0 F N T0 pin fin a w:=by
  rintro listed a w ⟨H,done,hdone,hord,σ,T,hT,S,hp,hfresh⟩ hl
  have hdn:∀ q∈done,q < aT.length:=fun q hq=>((hdone q).1 hq).1
  have bI:∀ q,q < aT.length->q∈done:=fun q hq=>(hdone q).2 ⟨hq,hl q hq⟩
  have hs:∀ t x,look fin.s t=some x->look (fl st aT done).s t=some x:=fun t x hx=>
   hZ done t x _ (hfin.1.mem (t,x) (bP hx)) (finOK _ _ (List.all_eq_true.1 hfs (t,x) (bP hx)) done hord hdn bI)
  have hfhx:∀ k b,look fin.h k=some b->k < fin.n/\ta l.toArray aT.length (oY aT k) (kc aT fp k)=true:=fun k b hb=>by
   have:=List.all_eq_true.1 hfh _ (bP hb)
   simpa only [Bool.and_eq_true,Nat.blt_eq] using this
  have hh:∀ k b,look fin.h k=some b->look (fl st aT done).h k=some b:=fun k b hb=>
   gM done k b _ (hfin.2.mem (k,b) (bP hb)) (finOK _ _ (hfhx k b hb).2 done hord hdn bI)
  refine ⟨σ,T,hT,⟨S.core.sub hs hh,S.os,S.tape,S.output,S.size,S.cj,fun k b g hk=>S.own k b g (hh k b hk),fun k hk=>?_,fun k b hk=>(hfhx k b hk).1,S.jZ,S.jE⟩,hp⟩
  have hk1:=Nat.le_of_ble_eq_true hfn
  exact hfresh k (by omega) fun i _ r hr hkr=>by have:=(nbk i r k hr hkr).1;omega
 have main:∀ k listed a1 w1,InvD listed a1 w1->ja aT.length listed=k->wpAny P .any l.toArray (QX W0 F N T0 pin Q) k listed a1 w1:=by
  intro k
  induction k with
  |zero=>
   intro listed a1 w1 I hk'
   have hl:∀ i,i < aT.length->listed.getD i false=true:=fun i hi=>by
    have h:=List.eq_nil_of_length_eq_zero hk'
    have h2:=List.filter_eq_nil_iff.1 h i (List.mem_range.2 hi)
    simpa using h2
   have hIf:=atEnd listed a1 w1 I hl
   refine ⟨List.eq_nil_iff_forall_not_mem.2 fun i hi=>?_,fin,hk,hIf⟩
   obtain ⟨h1,o,ho,_⟩:=mem_ready.1 hi
   have hi':i < l.toArray.size:=(Array.getElem?_eq_some_iff.1 ho).1
   have:=hl i (by omega)
   rw [getD_both h1] at this;cases this
  |succ k ih=>
   intro listed a1 w1 I hk'
   have hex:∃ i,i < aT.length/\listed.getD i false=false/\∀ j,j < i->listed.getD j false=true:=by
    have h1:∃ i,i < aT.length/\listed.getD i false=false:=by
     have hne:((List.range aT.length).filter fun i=>!listed.getD i false)≠[]:=fun e=>by unfold ja at hk';rw [e] at hk';cases hk'
     obtain ⟨x,hx⟩:=List.exists_mem_of_ne_nil _ hne
     obtain ⟨hx1,hx2⟩:=List.mem_filter.1 hx
     exact ⟨x,List.mem_range.1 hx1,by simpa using hx2⟩
    obtain ⟨i,hi,hmin⟩:=exists_least h1
    refine ⟨i,hi.1,hi.2,fun j hj=>?_⟩
    cases hjl:listed.getD j false with
    |true=>rfl
    |false=>exact absurd (hmin j ⟨by omega,hjl⟩) (by omega)
   obtain ⟨i0,hi0,hun0,hlow⟩:=hex
   have hopi:∀ i,i < aT.length->∃ o,l.toArray[i]?=some o:=fun i hi=>⟨_,Array.getElem?_eq_getElem (by omega)⟩
   have bI:∀ i,i < aT.length->listed.getD i false=false->listed.getD i true=false:=fun i hi h=>getD_in (by rw [I.1.size];omega) h
   have hready:i0∈Region.ready .any l.toArray listed:=by
    obtain ⟨o,ho⟩:=hopi i0 hi0
    obtain ⟨r,hr⟩:∃ r,aT[i0]?=some r:=⟨_,List.getElem?_eq_getElem hi0⟩
    have t:=tab i0 r hr
    simp only [ov,Bool.and_eq_true] at t
    have t1:=t.1.1.1.1.1
    rw [ho] at t1
    simp only [Bool.and_eq_true] at t1
    refine mem_ready.2 ⟨bI i0 hi0 hun0,o,ho,fun e he hb=>hlow _ ?_⟩
    have h3:=Array.all_eq_true'.1 t1.2 e he
    simp only [Bool.or_eq_true,Bool.not_eq_true',Nat.blt_eq] at h3
    exact h3.resolve_left (by rw [hb];simp)
   refine ⟨fun h=>(by rw [h] at hready;cases hready),fun i hi=>?_⟩
   have hilt:i < aT.length:=by
    obtain ⟨_,o,ho,_⟩:=mem_ready.1 hi
    have hi':i < l.toArray.size:=(Array.getElem?_eq_some_iff.1 ho).1
    omega
   obtain ⟨o,ho⟩:=hopi i hilt
   refine wpOp_mono (fun a' w' I'=>ih _ a' w' I' ?_) (step listed a1 w1 i o I ho hilt hi)
   have hunl:=getD_both (mem_ready.1 hi).1
   have hset:(listed.setIfInBounds i true).getD i false=true:=by
    have:i < listed.size:=by rw [I.1.size];omega
    simp [this]
   have:=count_set (p:=fun j=>!listed.getD j false) (q:=fun j=>!(listed.setIfInBounds i true).getD j false) (i:=i) (by simp only [hunl];rfl) (by simp only [hset];rfl)
    (fun j hj=>by simp only [getD_set_ne false (Ne.symm hj)]) (List.range aT.length) List.nodup_range (List.mem_range.2 hilt)
   unfold ja at hk' ⊢
   omega
 refine wp_region_any hm ?_
 have inv0:HeadInv .any l.toArray aT.length (Array.replicate l.toArray.size false):=
  ⟨by simp,fun j oj _ hl=>(by rw [getD_replicate_false] at hl;cases hl),fun t _ ht=>getD_in (by simpa using ht) (getD_replicate_false _ _)⟩
 have hw0:tJ W0 F N σ0 T1 st a {w with drawn:=w.drawn+1}:=
  ⟨S0.core.drew,S0.os,S0.tape,S0.output,S0.size,S0.cj,S0.own,S0.next,S0.hn,S0.jZ,S0.jE⟩
 have I0:InvD (Array.replicate l.toArray.size false) a {w with drawn:=w.drawn+1}:=
  ⟨inv0,[],fun i=>by rw [getD_replicate_false];simp,trivial,σ0,T1,hT1,hw0,hp0,fun k hk _=>S0.next k hk⟩
 have:=main aT.length _ a _ I0 (by
  unfold ja
  rw [List.filter_eq_self.2 (fun i _=>by rw [getD_replicate_false];rfl),List.length_range])
 rw [hlen] at this
 exact this
end
end

structure cg where (aO az sum time:Int)
 deriving DecidableEq
structure di where (time sum:Int)
 deriving DecidableEq
structure aS where (number kind ba sum:Int)
 deriving DecidableEq
structure Entry where (aW sum:Int)
 deriving DecidableEq
structure au where (az ba kind sum:Int)
 deriving DecidableEq
structure eP where (cM count sum:Int)
 deriving DecidableEq
structure cV where (err at_:Int)
 deriving DecidableEq
structure bD where (bB held:Int) (cv:eP) (de:List di)
 deriving DecidableEq
structure bO where (bG:Int) (kept:List aS)
 deriving DecidableEq
def rI (n:Int):List D:=[dI n]
def pb (n:Int):List D:=[.v (.int .u8 n)]
def iQ (x:cg):List D:=[dI x.aO,dI x.az,dI x.sum,dI x.time]
def iz (x:di):List D:=[dI x.time,dI x.sum]
def fZ (x:aS):List D:=[dI x.number,dI x.kind,dI x.ba,dI x.sum]
def eV (x:Entry):List D:=[dI x.aW,dI x.sum]
def iA (x:au):List D:=[dI x.az,dI x.ba,dI x.kind,dI x.sum]
def vN (l:List di):List D:=[.r 2 (l.map iz)]
theorem GR (l:List Int):∀ row∈l.map rI,∀ d∈row,d.pS=true:=by
 intro row hr d hd
 obtain ⟨x,_,rfl⟩:=List.mem_map.1 hr
 simp [rI] at hd
 subst hd;rfl
theorem FV (l:List Int):∀ row∈l.map pb,∀ d∈row,d.pS=true:=by
 intro row hr d hd
 obtain ⟨x,_,rfl⟩:=List.mem_map.1 hr
 simp [pb] at hd
 subst hd;rfl
theorem Ea (l:List di):∀ row∈l.map iz,∀ d∈row,d.pS=true:=by
 intro row hr d hd
 obtain ⟨x,_,rfl⟩:=List.mem_map.1 hr
 simp [iz] at hd
 rcases hd with rfl|rfl<;>rfl
theorem vD (l:List aS):∀ row∈l.map fZ,∀ d∈row,d.pS=true:=by
 intro row hr d hd
 obtain ⟨x,_,rfl⟩:=List.mem_map.1 hr
 simp [fZ] at hd
 rcases hd with rfl|rfl|rfl|rfl<;>rfl
theorem Ag (l:List Entry):∀ row∈l.map eV,∀ d∈row,d.pS=true:=by
 intro row hr d hd
 obtain ⟨x,_,rfl⟩:=List.mem_map.1 hr
 simp [eV] at hd
 rcases hd with rfl|rfl<;>rfl
theorem yc (l:List au):∀ row∈l.map iA,∀ d∈row,d.pS=true:=by
 intro row hr d hd
 obtain ⟨x,_,rfl⟩:=List.mem_map.1 hr
 simp [iA] at hd
 rcases hd with rfl|rfl|rfl|rfl<;>rfl
def bA (n:Int):Bool:=decide (n>=0) && decide (n<=1000000)
structure bl where (aO az sum captured bC bj dq:Int) (shut:Bool)
 deriving DecidableEq
def jC:bl:=⟨0,0,0,0,0,0,0,false⟩
def bL (a:bl):Int:=
 if a.sum < 0\/a.sum > 1000000\/a.captured < 0\/a.captured > 1000000\/a.bC < 0\/a.bC > 1000000\/a.bj < 0\/a.bj > 1000000\/a.aO < 0\/a.aO > 7\/a.az < 0\/a.az > 7\/a.dq < 0\/a.dq > 1000100 then 3
 else if a.sum < a.captured\/a.captured < a.bC+a.bj then 8 else 0
def dp (aO az n time:Int):bl×Int:=
 if n < 1\/n > 1000000\/time < 0\/time > 1000000\/aO < 0\/aO > 7\/az < 0\/az > 7 then (jC,3) else (⟨aO,az,n,0,0,0,time+100,false⟩,0)
def bQ (a:bl):Int:=if a.shut=true then 0 else a.sum - a.captured
def ei (a:bl) (t:Int):bl:=⟨a.aO,a.az,a.sum,a.captured,a.bC,a.bj,a.dq,a.shut||decide (a.dq<=t)⟩
def eh (a:bl) (kind n:Int):bl×Int:=
 if a.shut=true then (a,9)
 else if kind=1 then (if n > 1000000 - a.sum then (a,4) else (⟨a.aO,a.az,a.sum+n,a.captured,a.bC,a.bj,a.dq,false⟩,0))
 else if n > a.sum - a.captured then (a,10)
 else if kind=4 then (⟨a.aO,a.az,a.sum - n,a.captured,a.bC,a.bj,a.dq,decide (a.sum - n=a.captured)⟩,0)
 else (⟨a.aO,a.az,a.sum,a.captured+n,a.bC,a.bj,a.dq,decide (kind=3)||decide (a.captured+n=a.sum)⟩,0)
def bX (a:bl) (kind n:Int):bl×Int:=
 if bL a≠0 then (jC,bL a)
 else if kind < 1\/kind > 8 then (jC,1)
 else if n < 1\/n > 1000000 then (jC,3)
 else if kind=5 then (if n > a.captured - a.bC - a.bj then (jC,10) else (⟨a.aO,a.az,a.sum,a.captured,a.bC+n,a.bj,a.dq,a.shut⟩,0))
 else if kind=6 then (if n > a.captured - a.bC - a.bj then (jC,10) else (⟨a.aO,a.az,a.sum,a.captured,a.bC,a.bj+n,a.dq,a.shut⟩,0))
 else if kind=7 then (if n > a.bj then (jC,10) else (⟨a.aO,a.az,a.sum,a.captured,a.bC+n,a.bj - n,a.dq,a.shut⟩,0))
 else if kind=8 then (if n > a.bj then (jC,10) else (⟨a.aO,a.az,a.sum,a.captured,a.bC,a.bj - n,a.dq,a.shut⟩,0))
 else if (eh a kind n).2≠0 then (jC,(eh a kind n).2) else eh a kind n
theorem eE {a:bl} (h:bL a=0):0<=a.sum/\a.sum<=1000000/\0<=a.captured/\a.captured<=a.sum/\0<=a.bC/\0<=a.bj/\a.bC+a.bj<=a.captured/\0<=a.aO/\a.aO<=7/\0<=a.az/\a.az<=7/\0<=a.dq/\a.dq<=1000100:=by
 unfold bL at h
 split at h
 ·cases h
 ·split at h
  ·cases h
  ·omega
theorem sT {a:bl} (h:0<=a.sum/\a.sum<=1000000/\0<=a.captured/\a.captured<=a.sum/\0<=a.bC/\0<=a.bj/\a.bC+a.bj<=a.captured/\0<=a.aO/\a.aO<=7/\0<=a.az/\a.az<=7/\0<=a.dq/\a.dq<=1000100):bL a=0:=by
 unfold bL
 rw [if_neg (by omega),if_neg (by omega)]
inductive jt (a:bl) (kind n:Int):bl->Prop
 |more (h:kind=1) (hs:a.shut=false) (hn:n<=1000000 - a.sum):jt a kind n ⟨a.aO,a.az,a.sum+n,a.captured,a.bC,a.bj,a.dq,false⟩
 |take (h:kind=2\/kind=3) (hs:a.shut=false) (hn:n<=a.sum - a.captured):jt a kind n ⟨a.aO,a.az,a.sum,a.captured+n,a.bC,a.bj,a.dq,decide (kind=3)||decide (a.captured+n=a.sum)⟩
 |less (h:kind=4) (hs:a.shut=false) (hn:n<=a.sum - a.captured):jt a kind n ⟨a.aO,a.az,a.sum - n,a.captured,a.bC,a.bj,a.dq,decide (a.sum - n=a.captured)⟩
 |pH (h:kind=5) (hn:n<=a.captured - a.bC - a.bj):jt a kind n ⟨a.aO,a.az,a.sum,a.captured,a.bC+n,a.bj,a.dq,a.shut⟩
 |nP (h:kind=6) (hn:n<=a.captured - a.bC - a.bj):jt a kind n ⟨a.aO,a.az,a.sum,a.captured,a.bC,a.bj+n,a.dq,a.shut⟩
 |nO (h:kind=7) (hn:n<=a.bj):jt a kind n ⟨a.aO,a.az,a.sum,a.captured,a.bC+n,a.bj - n,a.dq,a.shut⟩
 |nN (h:kind=8) (hn:n<=a.bj):jt a kind n ⟨a.aO,a.az,a.sum,a.captured,a.bC,a.bj - n,a.dq,a.shut⟩
theorem my {a:bl} {kind n:Int} {b:bl} {e:Int} (h:bX a kind n=(b,e)):(e≠0/\b=jC)\/(e=0/\bL a=0/\1<=n/\n<=1000000/\jt a kind n b):=by
 unfold bX at h
 split at h
 ·rename_i h1;injection h with h2 h3;exact .inl ⟨h3▸h1,h2.symm⟩
 rename_i h1
 have h1:bL a=0:=by omega
 split at h
 ·injection h with h2 h3;exact .inl ⟨by omega,h2.symm⟩
 split at h
 ·injection h with h2 h3;exact .inl ⟨by omega,h2.symm⟩
 split at h
 ·split at h
  ·injection h with h2 h3;exact .inl ⟨by omega,h2.symm⟩
  ·injection h with h2 h3;subst h2;exact .inr ⟨h3.symm,h1,by omega,by omega,.pH (by omega) (by omega)⟩
 split at h
 ·split at h
  ·injection h with h2 h3;exact .inl ⟨by omega,h2.symm⟩
  ·injection h with h2 h3;subst h2;exact .inr ⟨h3.symm,h1,by omega,by omega,.nP (by omega) (by omega)⟩
 split at h
 ·split at h
  ·injection h with h2 h3;exact .inl ⟨by omega,h2.symm⟩
  ·injection h with h2 h3;subst h2;exact .inr ⟨h3.symm,h1,by omega,by omega,.nO (by omega) (by omega)⟩
 split at h
 ·split at h
  ·injection h with h2 h3;exact .inl ⟨by omega,h2.symm⟩
  ·injection h with h2 h3;subst h2;exact .inr ⟨h3.symm,h1,by omega,by omega,.nN (by omega) (by omega)⟩
 split at h
 ·rename_i h4;injection h with h2 h3;exact .inl ⟨h3▸h4,h2.symm⟩
 ·rename_i h4
  unfold eh at h h4
  split at h
  ·rename_i h5;rw [if_pos h5] at h4;simp at h4
  rename_i h5
  rw [if_neg h5] at h4
  have h5:a.shut=false:=by simpa using h5
  split at h
  ·rename_i h6;rw [if_pos h6] at h4
   split at h
   ·rename_i h7;rw [if_pos h7] at h4;simp at h4
   ·injection h with h2 h3;subst h2;exact .inr ⟨h3.symm,h1,by omega,by omega,.more (by omega) h5 (by omega)⟩
  rename_i h6;rw [if_neg h6] at h4
  split at h
  ·rename_i h7;rw [if_pos h7] at h4;simp at h4
  split at h
  ·injection h with h2 h3;subst h2;exact .inr ⟨h3.symm,h1,by omega,by omega,.less (by omega) h5 (by omega)⟩
  ·injection h with h2 h3;subst h2;exact .inr ⟨h3.symm,h1,by omega,by omega,.take (by omega) h5 (by omega)⟩
theorem yb {a b:bl} {kind n:Int} (h:bL a=0) (h1:1<=n) (h2:n<=1000000) (hm:jt a kind n b):bL b=0:=by
 have hr:=eE h
 cases hm<;>exact sT (by dsimp only;omega)
theorem xI {a b:bl} (h1:a.aO=b.aO) (h2:a.az=b.az) (h3:a.sum=b.sum) (h4:a.captured=b.captured) (h5:a.bC=b.bC) (h6:a.bj=b.bj) (h7:a.dq=b.dq) (h8:a.shut=b.shut):a=b:=by
 cases a;cases b;simp_all
theorem qU {a b:bl} {kind n:Int} (h:bX a kind n=(b,0)):bL b=0/\b.aO=a.aO/\b.az=a.az/\b.dq=a.dq/\(a.shut=true->b.shut=true)/\0<=b.sum - b.captured/\b.bC+b.bj<=b.captured/\a.captured<=b.captured/\a.bC<=b.bC:=by
 rcases my h with ⟨h1,_⟩|⟨_,hw,h1,h2,hm⟩
 ·exact absurd rfl h1
 have hb:=yb hw h1 h2 hm
 have hr:=eE hw
 have hrb:=eE hb
 cases hm<;>refine ⟨hb,rfl,rfl,rfl,?_⟩<;>simp_all<;>omega
theorem si {α:Type} {l:List α} {q:Nat} {x:α} (h:l[q]?=some x):l.drop q=x::l.drop (q+1):=by
 obtain ⟨hq,rfl⟩:=List.getElem?_eq_some_iff.1 h
 exact List.drop_eq_getElem_cons hq
theorem ie {α:Type} {l:List α} {q:Nat} {x:α} (h:l[q]?=some x):l.take (q+1)=l.take q++[x]:=by
 obtain ⟨hq,rfl⟩:=List.getElem?_eq_some_iff.1 h
 exact List.take_succ_eq_append_getElem hq
structure cG where (cap:Int) (used:List Int) (bb:List cg)
 deriving DecidableEq

def gP (n:Int):Bool:=decide (0<=n/\n<=1000000)
def hG (ag:Nat) (a:cg):Bool:=
 decide (0<=a.aO/\a.aO < ag/\0<=a.az/\a.az<=7/\1<=a.sum/\a.sum<=1000000/\0<=a.time/\a.time<=1000000)
def given (k:Int):List cg->Int
 |[]=>0
 |a::l=>(if a.aO=k then a.sum else 0)+given k l
def fu (cap:Int) (advs:List cg):Int->List Int->Int
 |_,[]=>0
 |k,n::l=>if n=given k advs/\n<=cap then fu cap advs (k+1) l else 8
def cb (s:cG):Int:=
 if 8 < s.used.length\/20 < s.bb.length then 5
 else if ¬gP s.cap then 3
 else if ¬s.bb.all (hG s.used.length) then 3
 else fu s.cap s.bb 0 s.used
def gl:cG:={cap:=0,used:=[],bb:=[]}
def dV (limit ag:Int):cG×Int:=
 if ag < 0\/8 < ag then (gl,5) else if ¬gP limit then (gl,3) else ({cap:=limit,used:=List.replicate ag.toNat 0,bb:=[]},0)
def cx (s:cG) (a:cg):cG×Int:=
 if cb s≠0 then (gl,cb s)
 else if 20<=s.bb.length then (gl,5)
 else if ¬hG s.used.length a then (gl,3)
 else if s.cap < s.used.getD a.aO.toNat 0+a.sum then (gl,10)
 else ({cap:=s.cap,used:=s.used.set a.aO.toNat (s.used.getD a.aO.toNat 0+a.sum),bb:=s.bb++[a]},0)
def cC (s:cG):cG×List cg×Int:=
 if cb s≠0 then (gl,[],cb s) else ({cap:=s.cap,used:=List.replicate s.used.length 0,bb:=[]},s.bb,0)

theorem tl (k:Int) (l:List cg) (a:cg):given k (l++[a])=given k l+if a.aO=k then a.sum else 0:=by
 induction l with
 |nil=>simp [given]
 |cons x l ih=>simp only [List.cons_append,given,ih];omega
theorem re (c:Nat) (k:Int) (l:List cg) (h:l.all (hG c)=true):0<=given k l/\given k l<=1000000 * l.length:=by
 induction l with
 |nil=>simp [given]
 |cons x l ih=>
  simp only [List.all_cons,Bool.and_eq_true,hG,decide_eq_true_eq] at h
  have:=ih h.2
  simp only [given,List.length_cons]
  split<;>omega
theorem HV {α:Type} {p:α->Bool} {l:List α} {q:Nat} {x:α} (h:l[q]?=some x) (hx:p x=false):l.all p=false:=by
 rw [List.all_eq_false]
 exact ⟨x,List.mem_of_getElem? h,by simp [hx]⟩
theorem zq {α:Type} {p:α->Bool} {l:List α} {q:Nat} {x:α} (ht:(l.take q).all p=true) (h:l[q]?=some x) (hx:p x=true):(l.take (q+1)).all p=true:=by
 rw [ie h,List.all_append,ht];simp [hx]
theorem po {s:cG} (h:8 < s.used.length\/20 < s.bb.length):cb s=5:=by unfold cb;rw [if_pos h]
theorem nC {s:cG} (h:¬(8 < s.used.length\/20 < s.bb.length)) (hc:gP s.cap=false):cb s=3:=by unfold cb;rw [if_neg h,hc];rfl
theorem kD {s:cG} (h:¬(8 < s.used.length\/20 < s.bb.length)) (hc:gP s.cap=true) (ha:s.bb.all (hG s.used.length)=false):cb s=3:=by
 unfold cb;rw [if_neg h,hc,ha];rfl
theorem gT {s:cG} (h:¬(8 < s.used.length\/20 < s.bb.length)) (hc:gP s.cap=true) (ha:s.bb.all (hG s.used.length)=true):cb s=fu s.cap s.bb 0 s.used:=by
 unfold cb;rw [if_neg h,hc,ha];rfl


theorem ir (cap:Int) (advs:List cg):∀ (l:List Int) (k:Int),fu cap advs k l=0↔∀ (i:Nat) (x:Int),l[i]?=some x->x=given (k+i) advs/\x<=cap
 |[],k=>by simp [fu]
 |n::l,k=>by
  rw [fu]
  constructor
  ·intro h i x hx
   split at h
   ·rename_i hc
    rcases i with _|i
    ·simp at hx;subst hx;simpa using hc
    ·have:=(ir cap advs l (k+1)).1 h i x (by simpa using hx)
     rw [show k+((i+1:Nat):Int)=k+1+i by omega];exact this
   ·cases h
  ·intro h
   rw [if_pos (by simpa using h 0 n rfl)]
   exact (ir cap advs l (k+1)).2 fun i x hx=>by
    have:=h (i+1) x (by simpa using hx)
    rwa [show k+((i+1:Nat):Int)=k+1+i by omega] at this
theorem rf (cap:Int) (advs:List cg):∀ (l:List Int) (k:Int),fu cap advs k l=0\/fu cap advs k l=8
 |[],_=>.inl rfl
 |n::l,k=>by
  rw [fu]
  split
  ·exact rf cap advs l (k+1)
  ·exact .inr rfl
theorem gR {s:cG} (h:cb s=0):s.used.length<=8/\s.bb.length<=20/\gP s.cap=true/\s.bb.all (hG s.used.length)=true/\fu s.cap s.bb 0 s.used=0:=by
 by_cases h1:8 < s.used.length\/20 < s.bb.length
 ·rw [po h1] at h;omega
 ·cases hc:gP s.cap with
  |false=>rw [nC h1 hc] at h;omega
  |true=>
   cases ha:s.bb.all (hG s.used.length) with
   |false=>rw [kD h1 hc ha] at h;omega
   |true=>rw [gT h1 hc ha] at h;exact ⟨by omega,by omega,rfl,rfl,h⟩
theorem wX {s:cG} {a:cg} (h:cb s=0) (hm:s.bb.length < 20) (ha:hG s.used.length a=false) (u:List Int) (hu:u.length=s.used.length):cb {cap:=s.cap,used:=u,bb:=s.bb++[a]}=3:=by
 obtain ⟨h1,h2,h3,h4,h5⟩:=gR h
 exact kD (by simp only [List.length_append,List.length_singleton];omega) h3 (by simp [hu,ha])
theorem Eg {s:cG} {a:cg} (h:cb s=0) (hm:s.bb.length < 20) (ha:hG s.used.length a=true):
  cb {cap:=s.cap,used:=s.used.set a.aO.toNat (s.used.getD a.aO.toNat 0+a.sum),bb:=s.bb++[a]}=if s.cap < s.used.getD a.aO.toNat 0+a.sum then 8 else 0:=by
 obtain ⟨h1,h2,h3,h4,h5⟩:=gR h
 have hok:=ha
 simp only [hG,decide_eq_true_eq] at hok
 have hlt:a.aO.toNat < s.used.length:=by omega
 have hgx:s.used[a.aO.toNat]?=some s.used[a.aO.toNat]:=List.getElem?_eq_getElem hlt
 have hgd:s.used.getD a.aO.toNat 0=s.used[a.aO.toNat]:=by simp [hlt]
 have hu:(s.used.set a.aO.toNat (s.used.getD a.aO.toNat 0+a.sum)).length=s.used.length:=List.length_set
 have h6:cb {cap:=s.cap,used:=s.used.set a.aO.toNat (s.used.getD a.aO.toNat 0+a.sum),bb:=s.bb++[a]}=fu s.cap (s.bb++[a]) 0 (s.used.set a.aO.toNat (s.used.getD a.aO.toNat 0+a.sum)):=by
  refine gT ?_ h3 ?_
  ·simp only [List.length_append,List.length_singleton,hu];omega
  ·simp only [hu,List.all_append,h4,List.all_cons,ha,List.all_nil];rfl
 rw [h6]
 have key:=(ir s.cap s.bb s.used 0).1 h5
 by_cases hc:s.cap < s.used.getD a.aO.toNat 0+a.sum
 ·rw [if_pos hc]
  rcases rf s.cap (s.bb++[a]) (s.used.set a.aO.toNat (s.used.getD a.aO.toNat 0+a.sum)) 0 with h0|h0
  ·have:=(ir _ _ _ _).1 h0 a.aO.toNat (s.used.getD a.aO.toNat 0+a.sum) (by simp [hlt])
   omega
  ·exact h0
 ·rw [if_neg hc]
  refine (ir _ _ _ _).2 fun i x hx=>?_
  rw [List.getElem?_set] at hx
  rw [tl]
  by_cases e:a.aO.toNat=i
  ·rw [if_pos e,if_pos (by omega)] at hx
   injection hx with hx
   have:=key i s.used[a.aO.toNat] (by rw [<-e];exact hgx)
   rw [if_pos (by omega)]
   omega
  ·rw [if_neg e] at hx
   have:=key i x hx
   rw [if_neg (by omega)]
   omega

theorem lY {s:cG} {a:cg} (h:cb s=0) (hm:s.bb.length < 20):
  (cb {cap:=s.cap,used:=s.used.set a.aO.toNat (s.used.getD a.aO.toNat 0+a.sum),bb:=s.bb++[a]}=3/\cx s a=(gl,3))\/
  (cb {cap:=s.cap,used:=s.used.set a.aO.toNat (s.used.getD a.aO.toNat 0+a.sum),bb:=s.bb++[a]}=8/\cx s a=(gl,10))\/
  (cb {cap:=s.cap,used:=s.used.set a.aO.toNat (s.used.getD a.aO.toNat 0+a.sum),bb:=s.bb++[a]}=0/\
   cx s a=({cap:=s.cap,used:=s.used.set a.aO.toNat (s.used.getD a.aO.toNat 0+a.sum),bb:=s.bb++[a]},0)):=by
 cases ha:hG s.used.length a with
 |false=>exact .inl ⟨wX h hm ha _ List.length_set,by unfold cx;rw [if_neg (by simp [h]),if_neg (by omega),ha];rfl⟩
 |true=>
  rw [Eg h hm ha]
  by_cases hc:s.cap < s.used.getD a.aO.toNat 0+a.sum
  ·exact .inr (.inl ⟨if_pos hc,by unfold cx;rw [if_neg (by simp [h]),if_neg (by omega),if_neg (by simp [ha]),if_pos hc]⟩)
  ·exact .inr (.inr ⟨if_neg hc,by unfold cx;rw [if_neg (by simp [h]),if_neg (by omega),if_neg (by simp [ha]),if_neg hc]⟩)
theorem rW {s:cG} {a:cg} (h:cb s=0) (hm:s.bb.length < 20) (ha:¬(0<=a.aO/\a.aO < s.used.length/\1<=a.sum/\a.sum<=1000000)):
  cb {cap:=s.cap,used:=s.used,bb:=s.bb++[a]}=3/\cx s a=(gl,3):=by
 have ha:hG s.used.length a=false:=by simp only [hG,decide_eq_false_iff_not];omega
 exact ⟨wX h hm ha _ rfl,by unfold cx;rw [if_neg (by simp [h]),if_neg (by omega),ha];rfl⟩
theorem Aj {s:cG} {a:cg} (h:cb s≠0):cx s a=(gl,cb s):=by unfold cx;rw [if_pos h]
theorem vg {s:cG} {a:cg} (h:cb s=0) (hm:s.bb.length=20):cx s a=(gl,5):=by unfold cx;rw [if_neg (by simp [h]),if_pos (by omega)]
theorem sH {s:cG} (h:cb s=0) {i:Nat} {x:Int} (hx:s.used[i]?=some x):0<=x/\x<=1000000:=by
 obtain ⟨h1,h2,h3,h4,h5⟩:=gR h
 have:=(ir s.cap s.bb s.used 0).1 h5 i x hx
 have hg:=re s.used.length (0+i) s.bb h4
 simp only [gP,decide_eq_true_eq] at h3
 omega

theorem vC {l c:Int} (h:c < 0\/8 < c):dV l c=(gl,5):=by unfold dV;rw [if_pos h]
theorem ua {l c:Int} (h:¬(c < 0\/8 < c)) (h':¬(0<=l/\l<=1000000)):dV l c=(gl,3):=by unfold dV;rw [if_neg h,if_pos (by simpa [gP] using h')]
theorem qX {l:Int} {c:Nat} (h:c<=8) (h':0<=l/\l<=1000000):dV l c=({cap:=l,used:=List.replicate c 0,bb:=[]},0):=by
 unfold dV;rw [if_neg (by omega),if_neg (by simpa [gP] using h')];simp

theorem Ak {s:cG} {a:cg} (h:cb s=0) (hg:(cx s a).2=0):
  cb (cx s a).1=0/\(cx s a).1.cap=s.cap/\(cx s a).1.used.length=s.used.length/\(cx s a).1.bb=s.bb++[a]/\s.bb.length < 20:=by
 have hp:=gR h
 by_cases hm:s.bb.length=20
 ·rw [vg h hm] at hg;cases hg
 ·have hm:s.bb.length < 20:=by omega
  rcases lY (a:=a) h hm with ⟨_,h2⟩|⟨_,h2⟩|⟨h1,h2⟩
  ·rw [h2] at hg;cases hg
  ·rw [h2] at hg;cases hg
  ·rw [h2];exact ⟨h1,rfl,List.length_set,rfl,hm⟩
theorem pM (l:Int) (n:Nat) (hn:n<=8) (h0:0<=l) (h1:l<=1000000):cb {cap:=l,used:=List.replicate n 0,bb:=[]}=0:=by
 rw [gT (by simp;omega) (by simp [gP];omega) (by simp)]
 refine (ir _ _ _ _).2 fun i x hx=>?_
 obtain ⟨_,rfl⟩:=List.getElem?_eq_some_iff.1 hx
 simp [given];omega


def jk (n:Nat) (l:List cg):List Int:=(List.range n).map fun (k:Nat)=>given (k:Int) l
theorem dD (n:Nat) (l:List cg):(jk n l).length=n:=by simp [jk]
theorem Bp (n:Nat):List.replicate n 0=jk n []:=by simp [jk,given,List.map_const']
theorem uE {n:Nat} {l:List cg} {i:Nat} {x:Int} (h:(jk n l)[i]?=some x):x=given (i:Int) l:=by
 simp only [jk,List.getElem?_map,Option.map_eq_some_iff] at h
 obtain ⟨k,hk,rfl⟩:=h
 obtain ⟨h1,rfl⟩:=List.getElem?_eq_some_iff.1 hk
 simp
theorem Bo {n:Nat} {l:List cg} {a:cg} {i:Nat} {v:Int} (h0:a.aO=(i:Int)) (h1:i < n) (hv:v=given a.aO l+a.sum):(jk n l).set i v=jk n (l++[a]):=by
 apply List.ext_getElem?
 intro j
 rw [List.getElem?_set]
 simp only [jk,List.length_map,List.length_range,List.getElem?_map,tl]
 by_cases hj:j < n
 ·rw [List.getElem?_range hj,Option.map_some,Option.map_some]
  by_cases e:i=j
  ·rw [if_pos e,if_pos h1,if_pos (by omega),hv,h0,e]
  ·rw [if_neg e,if_neg (by omega),Int.add_zero]
 ·rw [if_neg (by omega),List.getElem?_eq_none (by simpa using hj)]
  rfl
structure aV where (id kind n az move sum:Int)
 deriving DecidableEq
structure Answer where (err ba:Int)
 deriving DecidableEq
structure bS where (bY:aS) (seen:Int)
 deriving DecidableEq
def qw (x:bD):List D:=[dI x.bB,dI x.held,dI x.cv.cM,dI x.cv.count,dI x.cv.sum,.r 2 (x.de.map iz)]
def jm (x:bl):List D:=[dI x.aO,dI x.az,dI x.sum,dI x.captured,dI x.bC,dI x.bj,dI x.dq,dB x.shut]
def fP (x:bS):List D:=[dI x.bY.number,dI x.bY.kind,dI x.bY.ba,dI x.bY.sum,dI x.seen]
def mf (x:Answer):List D:=[dI x.err,dI x.ba]
def cX (x:aV):List D:=[dI x.id,dI x.kind,dI x.n,dI x.az,dI x.move,dI x.sum]
def fr (x:eP):List D:=[dI x.cM,dI x.count,dI x.sum]
def tW (x:List Int):List D:=[.r 1 (x.map pb)]
theorem Cj (l:List bl):∀ row∈l.map jm,∀ d∈row,d.pS=true:=by
 intro row hr d hd
 obtain ⟨x,_,rfl⟩:=List.mem_map.1 hr
 simp only [jm,List.mem_cons,List.not_mem_nil,or_false] at hd
 rcases hd with rfl|rfl|rfl|rfl|rfl|rfl|rfl|rfl<;>rfl

def fN (l:List Int):CV:=cR 1 (l.map rI)
def dS (l:List Int):AB:=.arr 3 1 (l.map rI)
def fU (l:List di):CV:=cR 2 (l.map iz)
def HI (l:List di):D:=.r 2 (l.map iz)
def ql (l:List di):AB:=.arr 125 2 (l.map iz)
def gK (l:List cg):CV:=cR 4 (l.map iQ)
def De (l:List cg):AB:=.arr 107 4 (l.map iQ)
def dh (l:List aS):CV:=cR 4 (l.map fZ)
def zr (l:List aS):AB:=.arr 80 4 (l.map fZ)
def dR (l:List Entry):CV:=cR 2 (l.map eV)
def mG (l:List Entry):AB:=.arr 115 2 (l.map eV)
def iw (l:List au):CV:=cR 4 (l.map iA)
def cU (l:List au):AB:=.arr 83 4 (l.map iA)
def sG (l:List bD):CV:=cR 6 (l.map qw)
def ek (l:List bD):AB:=.arr 61 6 (l.map qw)
def mJ (l:List bl):CV:=cR 8 (l.map jm)
def ep (l:List bl):AB:=.arr 67 8 (l.map jm)
def ed (l:List bS):CV:=cR 5 (l.map fP)
def HY (l:List bS):AB:=.arr 113 5 (l.map fP)
def uy (l:List Answer):CV:=cR 2 (l.map mf)
def HX (l:List Answer):AB:=.arr 65 2 (l.map mf)
def iV (l:List aV):CV:=cR 6 (l.map cX)
def zt (l:List aV):AB:=.arr 27 6 (l.map cX)
def Gu (l:List Int):CV:=cR 1 (l.map pb)
def zu (l:List Int):AB:=.arr 5 1 (l.map pb)
def sF (l:List (List Int)):CV:=cR 1 (l.map tW)
def ru (l:List (List Int)):AB:=.arr 86 1 (l.map tW)
end Go.Proofs.Ytegepioggeggaaa.Dev
