/- A part of the proof: Sh12, Opn, Sh13, Sh14, Sh15, Dat, PlAuth, PlStand, Dat2, Abb. No condition. -/
import Derived.Test.YtnfopdlnboeheaaGreatD01
import Derived.Lib.SmallJoins
set_option linter.unusedVariables false
set_option linter.unusedSimpArgs false
namespace Go.Proofs.YtnfopdlnboeheaaGreat.Dev
open Go.RowKit
open Go.RowKit Go.ChangeShapes Go.WideShapes Go.Deep Go.Joins
section

section
variable {P:Program} {st:aK} {o:Oper}
theorem dC.gC {σ:Nat->Option cg} {T T':Nat->Prop} {w:World} (h:∀ b,T' b->T b) {x:CV} {v:Value} (hx:dC σ T w x v):dC σ T' w x v:=by
 cases x with
 |any=>trivial
 |d x=>exact bA.gC h hx
 |p k i K o=>exact hx
 |q row o=>
  obtain ⟨b,off,h1,h2,h3,h4⟩:=hx
  refine ⟨b,off,h1,h2,fun hb=>h3 (h b hb),fun j d hj=>?_⟩
  obtain ⟨u,hu,hr⟩:=h4 j d hj
  exact ⟨u,hu,hr.gC h⟩
 |s k i K n=>exact hx
 |sx k i K n c e=>exact hx
 |m k=>exact hx
 |fn f bu=>exact hx
theorem ef.gC {σ:Nat->Option cg} {T T':Nat->Prop} {w:World} (h:∀ b,T' b->T b) {x:GV} {v:Value} (hx:ef σ T w x v):ef σ T' w x v:=by
 cases x with
 |c x=>exact dC.gC h (x:=x) hx
 |g xs=>obtain ⟨vs,h1,h2⟩:=hx;exact ⟨vs,h1,h2.mono fun _ _ hh=>hh.gC h⟩
theorem dX.gC {σ:Nat->Option cg} {T T':Nat->Prop} {w:World} (h:∀ b,T' b->T b) {og:Option cg} (bZ:∀ g,og=some g->T g.g->T' g.g) {b:AB} (hx:dX σ T w og b):dX σ T' w og b:=by
 cases b with
 |box t cs=>obtain ⟨g,vs,h1,h2,h3,h4⟩:=hx;exact ⟨g,vs,h1,bZ g h1 h2,h3,h4.mono fun _ _ hh=>hh.gC h⟩
 |arr t K rows=>
  refine ⟨hx.1,?_⟩
  rcases hx.2 with h1|⟨g,vs,h1,h2,h3,h4,h5,h6⟩
  ·exact .inl h1
  ·exact .inr ⟨g,vs,h1,bZ g h1 h2,h3,h4,h5,h6.1,fun i row hi=>⟨(h6.2 i row hi).1,fun j d hj=>by
    obtain ⟨u,hu,hr⟩:=(h6.2 i row hi).2 j d hj
    exact ⟨u,hu,hr.gC h⟩⟩⟩
 |map es cl=>obtain ⟨g,ms,h1,h2,h3⟩:=hx;exact ⟨g,ms,h1,bZ g h1 h2,h3⟩
theorem dC.up {σ : Nat → Option cg} {T : Nat → Prop} {w : World} {x : CV} {v : Value} (hx : dC (fun _ => none) T w x v) : dC σ T w x v := by
  cases x with
  | any => trivial
  | d x => exact hx
  | p k i K o => obtain ⟨g, h, _⟩ := hx; cases h
  | q row o => exact hx
  | s k i K n => rcases hx with h | ⟨g, h, _⟩
                 · exact .inl h
                 · cases h
  | sx k i K n c e => obtain ⟨g, off, h, _⟩ := hx; cases h
  | m k => obtain ⟨g, h, _⟩ := hx; cases h
  | fn f bu =>
    obtain ⟨gs, h1, h2⟩ := hx
    cases bu with
    | nil => cases gs with
      | nil => exact ⟨[], rfl, h2⟩
      | cons => cases h1
    | cons => cases gs with
      | nil => cases h1
      | cons => rw [List.map_cons, List.map_cons, List.cons.injEq] at h1; cases h1.1
theorem ef.up {σ:Nat->Option cg} {T:Nat->Prop} {w:World} {x:GV} {v:Value} (hx:ef (fun _=>none) T w x v):ef σ T w x v:=by
 cases x with
 |c x=>exact dC.up (x:=x) hx
 |g xs=>obtain ⟨vs,h1,h2⟩:=hx;exact ⟨vs,h1,h2.mono fun _ _ hh=>hh.up⟩
def LY (st:aK) (E:List Nat) (ρ:Nat->Nat) (p:Nat->Bool) (g y:GV):Prop:=(g=y.map ρ/\y.ok p=true)\/wk st E g y
def qt (st:aK) (E:List Nat) (ρ:Nat->Nat) (p:Nat->Bool):List Operand->List GV->Prop
 |[],[]=>True
 |x::xs,y::ys=>(∃ g,ev st x (.v g)/\LY st E ρ p g y)/\qt st E ρ p xs ys
 |_,_=>False
def pM (h:List (Nat×AB)) (k:Nat):Bool:=match look h k with|some (.box _ _)=>true|_=>false
def rh (h:List (Nat×AB)) (k:Nat):Prop:=pM h k=true\/∃ t K rows,look h k=some (.arr t K rows)/\0 < rows.length
theorem wR {h:List (Nat×AB)} {di:List Nat} (hk:di.all (fun k=>pM h k)=true):∀ k∈di,rh h k:=fun k hm=>.inl (List.all_eq_true.1 hk k hm)
theorem pC {l:List Nat} {ρ:Nat->Nat} (h:eV (l.map ρ)=true):∀ k k',k∈l->k'∈l->ρ k=ρ k'->k=k':=by
 induction l with
 |nil=>intro _ _ h;cases h
 |cons j l ih=>
  simp only [List.map_cons,eV,Bool.and_eq_true,Bool.not_eq_true',List.any_eq_false] at h
  have far:∀ k,k∈l->ρ j≠ρ k:=fun k hm e=>h.1 (ρ k) (List.mem_map.2 ⟨k,hm,rfl⟩) (by rw [e];exact Nat.beq_refl _)
  intro k k' hk hk' he
  rcases List.mem_cons.1 hk with rfl|h1
  ·rcases List.mem_cons.1 hk' with h2|h2
   ·exact h2.symm
   ·exact absurd he (far _ h2)
  ·rcases List.mem_cons.1 hk' with rfl|h2
   ·exact absurd he.symm (far _ h1)
   ·exact ih h.2 k k' h1 h2 he
def pull (μ:Nat->Nat) (σ' σ:Nat->Option cg):List Nat->Nat->Option cg
 |[],j=>σ j
 |k::l,j=>if μ k=j then σ' k else pull μ σ' σ l j
theorem qL {μ:Nat->Nat} {σ' σ:Nat->Option cg} {l:List Nat} (hi:∀ k k',k∈l->k'∈l->μ k=μ k'->k=k') {k:Nat} (hk:k∈l):pull μ σ' σ l (μ k)=σ' k:=by
 induction l with
 |nil=>cases hk
 |cons j l ih=>
  show (if μ j=μ k then σ' j else pull μ σ' σ l (μ k))=σ' k
  by_cases e:μ j=μ k
  ·rw [if_pos e,hi j k List.mem_cons_self hk e]
  ·rw [if_neg e]
   exact ih (fun a b ha hb=>hi a b (List.mem_cons_of_mem _ ha) (List.mem_cons_of_mem _ hb)) ((List.mem_cons.1 hk).resolve_left fun h=>e (by rw [h]))
theorem px {μ:Nat->Nat} {σ' σ:Nat->Option cg} {l:List Nat} {j:Nat} (h:∀ k∈l,μ k≠j):pull μ σ' σ l j=σ j:=by
 induction l with
 |nil=>rfl
 |cons k l ih=>
  show (if μ k=j then σ' k else pull μ σ' σ l j)=σ j
  rw [if_neg (h k List.mem_cons_self)]
  exact ih fun k hk=>h k (List.mem_cons_of_mem _ hk)
theorem pb {f:FuncId} {c:Call} {ins:List GV} {bZ:List (Nat×AB)} {di:List Nat} {av av':AV} {nb nb':List (Nat×AB)} {EE:List Nat} {p:D->Prop} (ρ μ:Nat->Nat) (E:List Nat) (hF:cS P f ins bZ di av nb) (hen:bc P f) (ho:o.op=.call c) (hc:c.callee=.value (.func f))
  (hargs:qt st E ρ (bo bZ) c.args.toList ins) (hheap:dG (fun x=>look st.h (ρ x.1)=some (x.2.map' ρ)) bZ) (hokin:bZ.all (fun x=>x.2.ok (bo bZ))=true) (hinj:eV ((keys bZ).map ρ)=true) (hE:bZ.all (fun x=>!ey (ρ x.1) E)=true) (hEl:E.all (fun e=>bo st.h e)=true)
  (hkeep:∀ k∈di,rh bZ k) (hEE:(keys bZ).map ρ=EE) (hμ:eV ((keys nb).map μ)=true) (hμk:(keys nb).all (fun k=>(ey k di && Nat.beq (μ k) (ρ k))||(!ey k di && !ey (μ k) EE))=true)
  (hg:av.fe p) (hgb:dG (fun x=>x.2.fe p) nb) (hok:av.ok (bo nb)=true) (hokb:nb.all (fun x=>x.2.ok (bo nb))=true) (hav:av.map μ=av') (hnb:gG μ nb=nb')
  (hD:∀ (σ:Nat->Option cg) (T Tc T':Nat->Prop) (w':World) d v,(∀ b,T' b->T b\/Tc b)->(∀ b,gr σ T E b->Tc b)->p d->bA Tc w' d v->bA T' w' d v):bU P o st av' nb' EE:=by
 intro σ T a w C hnew
 subst hav hnb hEE
 have hinj':=pC hinj
 have hin_mem:∀ k,bo bZ k=true->k∈keys bZ:=fun k hk=>by
  obtain ⟨b,hb⟩:=jv hk
  exact List.mem_map.2 ⟨(k,b),hb,rfl⟩
 have mem_in:∀ k,k∈keys bZ->bo bZ k=true:=fun k hk=>by
  obtain ⟨x,hx,rfl⟩:=List.mem_map.1 hk
  exact dL (b:=x.2) hx
 let σc:Nat->Option cg:=fun k=>if bo bZ k=true then σ (ρ k) else none
 have hσc:∀ k,bo bZ k=true->σc k=σ (ρ k):=fun k hk=>if_pos hk
 let Tc:=gr σ T E
 have hlow:∀ b,Tc b->T b:=fun b h=>h.1
 have hsep:∀ k b g,(k,b)∈bZ->σ (ρ k)=some g->Tc g.g:=by
  intro k b g hk hg
  refine ⟨(C.heap _ _ (hheap.mem _ hk)).rp hg,fun e he g' hg' hgg=>?_⟩
  obtain ⟨b',hb'⟩:=jv (List.all_eq_true.1 hEl e he)
  have hb':∃ b',look st.h e=some b':=by
   have:=List.all_eq_true.1 hEl e he
   cases hl:look st.h e with
   |none=>simp [bo,hl] at this
   |some b'=>exact ⟨b',rfl⟩
  obtain ⟨b',hb'⟩:=hb'
  have heq:=C.inj e (ρ k) b' _ g' g hb' (hheap.mem _ hk) hg' hg hgg
  have:=List.all_eq_true.1 hE _ hk
  simp only [Bool.not_eq_true'] at this
  rw [<-heq,fc.2 he] at this
  cases this
 have hh:∀ k b,(k,b)∈bZ->dX σc Tc w (σc k) b:=by
  intro k b hk
  have hkin:=dL hk
  rw [hσc k hkin]
  refine dX.gC hlow (fun g hg _=>hsep k b g hk hg) ?_
  exact dX.jH (ρ:=ρ) hσc (C.heap _ _ (hheap.mem _ hk)) (List.all_eq_true.1 hokin _ hk)
 have hij:∀ k k' b b' g g',(k,b)∈bZ->(k',b')∈bZ->σc k=some g->σc k'=some g'->g.g=g'.g->k=k':=by
  intro k k' b b' g g' hk hk' hg hg' hgg
  rw [hσc k (dL hk)] at hg
  rw [hσc k' (dL hk')] at hg'
  exact hinj' k k' (hin_mem _ (dL hk)) (hin_mem _ (dL hk')) (C.inj _ _ _ _ g g' (hheap.mem _ hk) (hheap.mem _ hk') hg hg' hgg)
 have hkp:∀ k∈di,bo bZ k=true/\∃ g,σ (ρ k)=some g:=by
  intro k hk
  rcases hkeep k hk with this|⟨t,K,rows,hl,hpos⟩
  ·unfold pM at this
   cases hl:look bZ k with
   |none=>simp [hl] at this
   |some b=>
    cases b with
    |box t cs=>
     refine ⟨by simp [bo,hl],?_⟩
     obtain ⟨g,_,h1,_⟩:=C.heap _ _ (hheap.mem _ (bP hl))
     exact ⟨g,h1⟩
    |arr=>simp [hl] at this
    |map=>simp [hl] at this
  ·refine ⟨by simp [bo,hl],?_⟩
   obtain ⟨_,h1|⟨g,_,h1,_⟩⟩:=C.heap _ _ (hheap.mem _ (bP hl))
   ·obtain ⟨h1,_⟩:=h1
    rw [h1] at hpos;cases hpos
   ·exact ⟨g,h1⟩
 have hrel:cQ (ef σc Tc w) ins (c.args.map a.eval).toList:=by
  rw [Array.toList_map]
  have gen:∀ (xs:List Operand) (ys:List GV),qt st E ρ (bo bZ) xs ys->cQ (ef σc Tc w) ys (xs.map a.eval):=by
   intro xs
   induction xs with
   |nil=>intro ys h;cases ys with
    |nil=>trivial
    |cons=>exact h.elim
   |cons x xs ih=>
    intro ys h
    cases ys with
    |nil=>exact h.elim
    |cons y ys=>
     refine ⟨?_,ih ys h.2⟩
     obtain ⟨g,h1,h2|h2⟩:=h.1
     ·obtain ⟨h2,h3⟩:=h2
      subst h2
      exact ef.gC hlow (ef.jH (ρ:=ρ) hσc (x:=y) (bN C h1) h3)
     ·exact ef.up (h2.rel C (bN C h1))
  exact gen _ _ hargs
 refine qb ho hc hen ((hF Tc σc w _ (fun b h=>C.ft b h.1) hh hij (fun k hk=>?_) hrel).mono ?_)
 ·obtain ⟨h1,g,h2⟩:=hkp k hk
  exact ⟨g,by rw [hσc k h1,h2]⟩
 rintro e w' ⟨v,σ',T',rfl,R⟩
 let T2:Nat->Prop:=fun b=>T b\/T' b
 let σ2:=pull μ σ' σ (keys nb)
 have hμ':=pC hμ
 have hσ2:∀ k,bo nb k=true->σ2 (μ k)=σ' k:=fun k hk=>by
  obtain ⟨b,hb⟩:=jv hk
  exact qL hμ' (List.mem_map.2 ⟨(k,b),hb,rfl⟩)
 have hD':∀ d v,p d->bA T' w' d v->bA T2 w' d v:=fun d v=>hD σ T T' T2 w' d v (fun b h=>h) R.oh
 have hmem:∀ k b,(k,b)∈gG μ nb->∃ k0 b0,(k0,b0)∈nb/\k=μ k0/\b=b0.map' μ:=by
  intro k b h
  obtain ⟨⟨k0,b0⟩,h1,h2⟩:=List.mem_map.1 h
  injection h2 with h2 h3
  exact ⟨k0,b0,h1,h2.symm,h3.symm⟩
 have hcase:∀ k∈keys nb,(k∈di/\μ k=ρ k)\/(k ∉ di/\μ k ∉ (keys bZ).map ρ):=by
  intro k hk
  have:=List.all_eq_true.1 hμk k hk
  simp only [Bool.or_eq_true,Bool.and_eq_true,Bool.not_eq_true'] at this
  rcases this with ⟨h1,h2⟩|⟨h1,h2⟩
  ·exact .inl ⟨fc.1 h1,Nat.eq_of_beq_eq_true h2⟩
  ·exact .inr ⟨fun h=>(Bool.eq_false_iff.1 h1) (fc.2 h),fun h=>(Bool.eq_false_iff.1 h2) (fc.2 h)⟩
 have C2:∀ b,(∃ k∈(keys bZ).map ρ,∃ g,σ k=some g/\g.g=b)↔∃ k∈keys bZ,∃ g,σc k=some g/\g.g=b:=by
  intro b
  constructor
  ·rintro ⟨k,hk,g,hg,hgb⟩
   obtain ⟨k0,hk0,rfl⟩:=List.mem_map.1 hk
   exact ⟨k0,hk0,g,by rw [hσc k0 (mem_in k0 hk0)];exact hg,hgb⟩
  ·rintro ⟨k,hk,g,hg,hgb⟩
   rw [hσc k (mem_in k hk)] at hg
   exact ⟨ρ k,List.mem_map.2 ⟨k,hk,rfl⟩,g,hg,hgb⟩
 refine ⟨v,rfl,v,σ2,T2,rfl,⟨R.os,R.tape,R.output,⟨R.size,fun b hb hno=>R.cu b hb fun k hk g hg hgb=>hno ((C2 b).2 ⟨k,hk,g,hg,hgb⟩),fun b hb=>?_,fun b hb h=>?_,fun j g hj=>?_⟩,fun b h=>.inl h,fun b h=>?_,fun j hj=>?_,?_,?_,?_⟩,R.rel.back hD' hσ2 hg hok⟩
 ·obtain ⟨k,hk,g,hg,rfl⟩:=hb
  obtain ⟨k0,hk0,rfl⟩:=List.mem_map.1 hk
  obtain ⟨x,hx,rfl⟩:=List.mem_map.1 hk0
  exact (C.heap _ _ (hheap.mem x hx)).rp hg
 ·rcases h with h|h
  ·exact h
  ·exact (R.na b hb h).1
 ·show pull μ σ' σ (keys nb) j=some g
  by_cases hex:∃ k∈keys nb,μ k=j
  ·obtain ⟨k,hk,rfl⟩:=hex
   rw [qL hμ' hk]
   rcases hcase k hk with ⟨h1,h2⟩|⟨h1,h2⟩
   ·rw [R.kept k h1,hσc k (hkp k h1).1,<-h2];exact hj
   ·obtain ⟨x,hx,rfl⟩:=List.mem_map.1 hk
    have:=hnew (μ x.1) (x.2.map' μ) (List.mem_map.2 ⟨x,hx,rfl⟩) h2
    rw [this] at hj;cases hj
  ·rw [px fun k hk e=>hex ⟨k,hk,e⟩];exact hj
 ·rcases h with h|h
  ·exact Nat.lt_of_lt_of_le (C.ft b h) R.size
  ·exact R.ft b h
 ·exact px fun k hk e=>by
   obtain ⟨x,hx,rfl⟩:=List.mem_map.1 hk
   exact hj (x.2.map' μ) (List.mem_map.2 ⟨x,hx,by rw [e]⟩)
 ·intro k b h
  obtain ⟨k0,b0,h1,rfl,rfl⟩:=hmem k b h
  rw [hσ2 k0 (dL h1)]
  exact (R.heap k0 b0 h1).back hD' hσ2 (fun b h=>.inr h) (hgb.mem _ h1) (List.all_eq_true.1 hokb _ h1)
 ·intro k b g h hg
  obtain ⟨k0,b0,h1,rfl,rfl⟩:=hmem k b h
  rw [hσ2 k0 (dL h1)] at hg
  rcases R.fresh k0 b0 g h1 hg with h2|⟨e,he,g',hg',hgg⟩
  ·exact .inl h2
  ·exact .inr ((C2 g.g).2 ⟨e,he,g',hg',hgg⟩)
 ·intro k k' b b' g g' h h' hg hg' hgg
  obtain ⟨k0,b0,h1,rfl,rfl⟩:=hmem k b h
  obtain ⟨k1,b1,h2,rfl,rfl⟩:=hmem k' b' h'
  rw [hσ2 k0 (dL h1)] at hg
  rw [hσ2 k1 (dL h2)] at hg'
  rw [R.inj k0 k1 b0 b1 g g' h1 h2 hg hg' hgg]
theorem Hg {f:FuncId} {c:Call} {ins:List GV} {bZ:List (Nat×AB)} {di:List Nat} {av av':AV} {nb nb':List (Nat×AB)} {EE:List Nat} (ρ μ:Nat->Nat) (hF:cS P f ins bZ di av nb) (hen:bc P f) (ho:o.op=.call c) (hc:c.callee=.value (.func f))
  (hargs:qt st [] ρ (bo bZ) c.args.toList ins) (hheap:dG (fun x=>look st.h (ρ x.1)=some (x.2.map' ρ)) bZ) (hokin:bZ.all (fun x=>x.2.ok (bo bZ))=true) (hinj:eV ((keys bZ).map ρ)=true)
  (hkeep:di.all (fun k=>pM bZ k)=true) (hEE:(keys bZ).map ρ=EE) (hμ:eV ((keys nb).map μ)=true) (hμk:(keys nb).all (fun k=>(ey k di && Nat.beq (μ k) (ρ k))||(!ey k di && !ey (μ k) EE))=true)
  (hg:av.fe (fun _=>True)) (hgb:dG (fun x=>x.2.fe fun _=>True) nb) (hok:av.ok (bo nb)=true) (hokb:nb.all (fun x=>x.2.ok (bo nb))=true) (hav:av.map μ=av') (hnb:gG μ nb=nb'):bU P o st av' nb' EE:=
 pb ρ μ [] hF hen ho hc hargs hheap hokin hinj (by simp [ey]) rfl (wR hkeep) hEE hμ hμk hg hgb hok hokb hav hnb fun σ T Tc T' w' d v h1 h2 _ h=>h.gC fun b hb=>by
  rcases h1 b hb with h|h
  ·exact h2 b ⟨h,fun k hk=>by cases hk⟩
  ·exact h
theorem yZ {f:FuncId} {c:Call} {ins:List GV} {bZ:List (Nat×AB)} {di:List Nat} {av av':AV} {nb nb':List (Nat×AB)} {EE:List Nat} (ρ μ:Nat->Nat) (E:List Nat) (hF:cS P f ins bZ di av nb) (hen:bc P f) (ho:o.op=.call c) (hc:c.callee=.value (.func f))
  (hargs:qt st E ρ (bo bZ) c.args.toList ins) (hheap:dG (fun x=>look st.h (ρ x.1)=some (x.2.map' ρ)) bZ) (hokin:bZ.all (fun x=>x.2.ok (bo bZ))=true) (hinj:eV ((keys bZ).map ρ)=true) (hE:bZ.all (fun x=>!ey (ρ x.1) E)=true) (hEl:E.all (fun e=>bo st.h e)=true)
  (hkeep:di.all (fun k=>pM bZ k)=true) (hEE:(keys bZ).map ρ=EE) (hμ:eV ((keys nb).map μ)=true) (hμk:(keys nb).all (fun k=>(ey k di && Nat.beq (μ k) (ρ k))||(!ey k di && !ey (μ k) EE))=true)
  (hg:av.fe (fun d=>d.oY=true)) (hgb:dG (fun x=>x.2.fe fun d=>d.oY=true) nb) (hok:av.ok (bo nb)=true) (hokb:nb.all (fun x=>x.2.ok (bo nb))=true) (hav:av.map μ=av') (hnb:gG μ nb=nb'):bU P o st av' nb' EE:=
 pb ρ μ E hF hen ho hc hargs hheap hokin hinj hE hEl (wR hkeep) hEE hμ hμk hg hgb hok hokb hav hnb fun σ T Tc T' w' d v h1 h2 hp h=>by
  cases d with
  |v x=>cases h;exact .v _ dr
  |r=>cases hp
  |f=>cases hp
theorem Fu {f:FuncId} {c:Call} {ins:List GV} {bZ:List (Nat×AB)} {di:List Nat} {av av':AV} {nb nb':List (Nat×AB)} {EE:List Nat} (ρ μ:Nat->Nat) (hF:cS P f ins bZ di av nb) (hen:bc P f) (ho:o.op=.call c) (hc:c.callee=.value (.func f))
  (hargs:qt st [] ρ (bo bZ) c.args.toList ins) (hheap:dG (fun x=>look st.h (ρ x.1)=some (x.2.map' ρ)) bZ) (hokin:bZ.all (fun x=>x.2.ok (bo bZ))=true) (hinj:eV ((keys bZ).map ρ)=true)
  (hkeep:dG (rh bZ) di) (hEE:(keys bZ).map ρ=EE) (hμ:eV ((keys nb).map μ)=true) (hμk:(keys nb).all (fun k=>(ey k di && Nat.beq (μ k) (ρ k))||(!ey k di && !ey (μ k) EE))=true)
  (hg:av.fe (fun _=>True)) (hgb:dG (fun x=>x.2.fe fun _=>True) nb) (hok:av.ok (bo nb)=true) (hokb:nb.all (fun x=>x.2.ok (bo nb))=true) (hav:av.map μ=av') (hnb:gG μ nb=nb'):bU P o st av' nb' EE:=
 pb ρ μ [] hF hen ho hc hargs hheap hokin hinj (by simp [ey]) rfl (fun k hk=>hkeep.mem k hk) hEE hμ hμk hg hgb hok hokb hav hnb fun σ T Tc T' w' d v h1 h2 _ h=>h.gC fun b hb=>by
  rcases h1 b hb with h|h
  ·exact h2 b ⟨h,fun k hk=>by cases hk⟩
  ·exact h
end
section
variable {P:Program} {W0:World} {F:Nat->Prop} {N:NT} {T0:Nat->Prop} {pin:List (Nat×cg)} {ops:Array Oper} {Q:Exit->aK->Prop} {s:List (Nat×AV)} {h:List (Nat×AB)} {n:Nat}
theorem lq {h:List (Nat×AB)} {k:Nat} (hk:bo h k=true):∃ b,look h k=some b:=by
 cases hl:look h k with
 |none=>simp [bo,hl] at hk
 |some b=>exact ⟨b,rfl⟩
theorem Ge {o:Oper} {rest:List Oper} {d n':Nat} {av:AV} {nb h':List (Nat×AB)} {E:List Nat} (hw:aR ops o ⟨s,h,n⟩) (g:bU P o ⟨s,h,n⟩ av nb E) (hd:o.dst=some d) (hN:Nat.blt d N.1=true) (hE:E.all (fun e=>bo h e)=true) (hnb:nb.all (fun x=>ey x.1 E||Nat.ble n x.1)=true) (hn:jF nb n=n') (hh:nb++del E h=h') (k:AL P W0 F N T0 pin ops Q rest ⟨(d,av)::s,h',n'⟩):AL P W0 F N T0 pin ops Q (o::rest) ⟨s,h,n⟩:=
 vG hw g (fun d' h'=>by rw [hd] at h';injection h' with h';subst h';rw [Nat.blt_eq] at hN;exact hN) (fun e he=>lq (List.all_eq_true.1 hE e he)) (fun k b hk hkE=>by
  have:=List.all_eq_true.1 hnb _ hk
  simp only [Bool.or_eq_true] at this
  rcases this with h|h
  ·exact absurd (fc.1 h) hkE
  ·exact Nat.le_of_ble_eq_true h) (by
  have e:(aK.add ⟨s,h,n⟩ nb E)=⟨s,h',n'⟩:=by simp [aK.add,<-hn,<-hh]
  rw [e,hd];exact k)
theorem aq.cut {s:List (Nat×AV)} {h h':List (Nat×AB)} {n:Nat} (k m:Nat) {t K:Nat} {rows rows':List (List D)} (hb:look h k=some (.arr t K rows)) (hr:rows.take m=rows') (hh:nK h k (.arr t K rows')=h'):aq pin ⟨s,h,n⟩ ⟨s,h',n⟩:=by
 subst hr hh
 rintro W0 F N T0 a w ⟨σ,T,hT,S,hp⟩
 have cases_:∀ i b,look (nK h k (.arr t K (rows.take m))) i=some b->(i=k/\b=.arr t K (rows.take m))\/(i≠k/\look h i=some b):=by
  intro i b hi
  rcases ml hi with h1|h1|h1
  ·exact .inl h1
  ·exact .inr h1
  ·exact h1.2.elim
 have cu:∀ i b,look (nK h k (.arr t K (rows.take m))) i=some b->∃ b0,look h i=some b0:=fun i b hi=>by
  rcases cases_ i b hi with ⟨rfl,_⟩|⟨_,h1⟩
  ·exact ⟨_,hb⟩
  ·exact ⟨_,h1⟩
 refine ⟨σ,T,hT,⟨⟨S.core.gD,?_,?_,S.core.ft⟩,S.os,S.tape,S.output,S.size,S.cu,?_,S.next,?_,S.kM,S.kr⟩,hp⟩
 ·intro i b hi
  rcases cases_ i b hi with ⟨rfl,rfl⟩|⟨_,h1⟩
  ·obtain ⟨hK,h1⟩:=S.core.heap _ _ hb
   refine ⟨hK,?_⟩
   rcases h1 with ⟨h1,h2⟩|⟨g,vs,h1,h2,h3,h4,h5,h6⟩
   ·exact .inl ⟨by rw [h1];simp,h2⟩
   ·refine .inr ⟨g,vs,h1,h2,h3,h4,h5,?_,fun i row hi=>?_⟩
    ·refine Nat.le_trans (Nat.mul_le_mul_right K ?_) h6.1
     rw [List.length_take];omega
    ·rw [List.getElem?_take] at hi
     split at hi
     ·exact h6.2 i row hi
     ·cases hi
  ·exact S.core.heap i b h1
 ·intro i i' b b' g g' hi hi' hg hg' hgg
  obtain ⟨b0,h0⟩:=cu i b hi
  obtain ⟨b1,h1⟩:=cu i' b' hi'
  exact S.core.inj i i' b0 b1 g g' h0 h1 hg hg' hgg
 ·intro i b g hi hg
  obtain ⟨b0,h0⟩:=cu i b hi
  exact S.own i b0 g h0 hg
 ·intro i b hi
  obtain ⟨b0,h0⟩:=cu i b hi
  exact S.hn i b0 h0
end
end
section

def fb (n:Int):Prop:=-9223372036854775808<=n/\n<=9223372036854775807
theorem DB {α:Type} {p:Nat->α->Prop} (n:Nat) (h:∀ i,i < n->∃ x,p i x):∃ xs:List α,xs.length=n/\∀ q x,xs[q]?=some x->p q x:=by
 induction n with
 |zero=>exact ⟨[],rfl,fun q x hx=>by simp at hx⟩
 |succ n ih=>
  obtain ⟨xs,hl,hx⟩:=ih fun i hi=>h i aa
  obtain ⟨y,hy⟩:=h n aa
  refine ⟨xs++[y],by simp [hl],fun q x hq=>?_⟩
  by_cases hqn:q < n
  ·rw [List.getElem?_append_left aa] at hq
   exact hx q x hq
  ·have hlt:=(List.getElem?_eq_some_iff.1 hq).1
   simp [hl] at hlt
   obtain rfl:q=n:=aa
   rw [List.getElem?_append_right aa,hl] at hq
   simp at hq
   exact hq▸hy
def qq:Nat->Prop:=fun _=>False
def mS {α:Type} (P:Program) (t:TypeId) (K:Nat) (f:α->List D) (Q:α->Prop):Prop:=
 (∀ a,(f a).length=K)/\∀ (H:Type) (enc:TypeId×Value->H) (w:World) (base:Nat) (spare:Nat->Bool) (held:Bool) (n:Nat) (cs:List Value) (y:DataW H×List MemPlace),
  DataW.trod enc P w base spare held n t cs=some y->∃ a,cQ (bA qq w) (f a) cs/\Q a
section
variable {P:Program} {t e:TypeId}
theorem iP (ht:P.underlying t=some (.int .i64)):mS P t 1 (fun n:Int=>[dI n]) fb:=⟨fun _=>rfl,fun H enc w base spare held n cs y h=>by
 obtain ⟨a,rfl,_,hw⟩:=DataW.trod_int ht h
 exact ⟨a,⟨bA.v _ rfl,trivial⟩,bounds_i64 hw⟩⟩
theorem tk {α:Type} {K:Nat} {f:α->List D} {Q:α->Prop} (ht:P.underlying t=some (.slice e)) (hC:P.cellsOf e=K) (hK:0 < K) (ho:mS P e K f Q):mS P t 1 (fun xs:List α=>[.r K (xs.map f)]) (fun xs=>(∀ x∈xs,Q x)/\xs.length<=9223372036854775807):=⟨fun _=>rfl,fun H enc w base spare held fuel cs x h=>by
 rcases open_slice ht h with ⟨rfl,_⟩|⟨a,len,cap,m,n,DD,Pl,rfl,hb,hl,hm,hmm,hx,hi⟩
 ·exact ⟨[],⟨bA.nil _ _ _,trivial⟩,fun x hx=>by simp at hx,ca⟩
 ·have hlm:len<=m:=by rw [hmm];split<;>omega
  obtain ⟨xs,hxl,hxs⟩:=DB (p:=fun i x=>Q x/\a.spot=none/\a.block < w.heap.size/\∃ cs',cQ (bA qq w) (f x) cs'/\∀ j v,cs'[j]?=some v->w.cell? ⟨a.block,a.off+i * K+j,none⟩=some v) len fun i hil=>by
   obtain ⟨cs',hc,ht'⟩:=hi i aa
   obtain ⟨y,hrel,hq⟩:=ho.2 _ _ _ _ _ _ _ _ _ ht'
   rw [hC] at hc
   obtain ⟨_,hlen,fk⟩:=World.cells?_some hc
   have h0:∀ (i:Nat) cs',w.cells? base (a.add (i * K)) K=some cs'->i=0->a.spot=none/\a.block < w.heap.size:=by
    rintro i cs' hc rfl
    obtain ⟨_,hl0,fk⟩:=World.cells?_some hc
    have h:=fk 0 hK
    rw [Nat.zero_mul] at h
    have ha:(a.add 0).add 0=a:=rfl
    rw [ha,List.getElem?_eq_getElem aa] at h
    unfold World.cell? at h
    split at h
    ·rename_i he
     split at h
     ·simp at h
     ·rename_i hs
      exact ⟨by simpa using hs,(Array.getElem?_eq_some_iff.1 he).1⟩
    ·simp at h
   obtain ⟨cs0,hc0,_⟩:=hi 0 aa
   rw [hC] at hc0
   obtain ⟨hs,hbk⟩:=h0 0 cs0 hc0 rfl
   refine ⟨y,hq,hs,hbk,cs',hrel,fun j v hv=>?_⟩
   have hj:=(List.getElem?_eq_some_iff.1 hv).1
   rw [hlen] at hj
   rw [<-hv,<-fk j hj]
   congr 1
   obtain ⟨ab,ao,asp⟩:=a
   simp only at hs
   subst hs
   simp only [Addr.add]
   split<;>split<;>simp_all
  refine ⟨xs,⟨?_,trivial⟩,fun x hx=>?_,by rw [hxl];simp only [maxLen] at hm;omega⟩
  ·by_cases hn:len=0
   ·subst hn
    have:=List.eq_nil_of_length_eq_zero hxl
    subst this
    exact bA.nil _ _ _
   ·have hlt:0 < xs.length:=aa
    obtain ⟨_,hs,hbk,_⟩:=hxs 0 _ (List.getElem?_eq_getElem hlt)
    obtain ⟨ab,ao,asp⟩:=a
    simp only at hs
    subst hs
    have key:∀ (i:Nat) (row:List D) (j:Nat) (d:D),(xs.map f)[i]?=some row->row[j]?=some d->∃ u,w.cell? ⟨ab,ao+(i * K+j),none⟩=some u/\bA qq w d u:=by
     intro i row j d hr hd
     rw [List.getElem?_map,Option.map_eq_some_iff] at hr
     obtain ⟨z,hz,rfl⟩:=hr
     obtain ⟨_,_,_,cs',hrel,fk⟩:=hxs i z hz
     obtain ⟨u,hu,hdr⟩:=hrel.get hd
     exact ⟨u,by rw [<-Nat.add_assoc];exact fk j u hu,hdr⟩
    have hlen:len=(xs.map f).length:=by rw [List.length_map,hxl]
    rw [hlen]
    refine bA.r K (xs.map f) ab ao cap (fun i j=>(w.cell? ⟨ab,ao+(i * K+j),none⟩).getD undef) hbk (fun h=>h) (by rw [<-hlen];omega) (by simp only [maxLen] at hm;omega) (fun i row hr=>?_) (fun i row j d hr hd=>?_) (fun i row j d hr hd=>?_)
    ·rw [List.getElem?_map,Option.map_eq_some_iff] at hr
     obtain ⟨z,_,rfl⟩:=hr
     exact ho.1 z
    ·obtain ⟨u,hu,_⟩:=key i row j d hr hd
     rw [hu];rfl
    ·obtain ⟨u,hu,hdr⟩:=key i row j d hr hd
     rw [hu];exact hdr
  ·obtain ⟨q,hq⟩:=List.getElem?_of_mem hx
   exact (hxs q x hq).1⟩
def zT (P:Program) {H:Type} (enc:TypeId×Value->H) (w:World) (base:Nat) (spare:Nat->Bool) (held:Bool) (n:Nat) (fs:List Field) (cs:List Value):Prop:=
 ∀ f∈fs,∃ z,DataW.trod enc P w base spare held n f.type ((cs.drop f.offset).take (P.cellsOf f.type))=some z
theorem sq {H:Type} {enc:TypeId×Value->H} {w:World} {base:Nat} {spare:Nat->Bool} {held:Bool} {fuel:Nat} {fs:Array Field} {cs:List Value} {y:DataW H×List MemPlace} (ht:P.underlying t=some (.struct fs)) (h:DataW.trod enc P w base spare held fuel t cs=some y):
  cs.length=P.cellsOf t/\∃ n,zT P enc w base spare held n fs.toList cs:=by
 obtain ⟨ys,n,_,_,hlen,hyl,hf⟩:=DataW.trod_struct ht h
 refine ⟨hlen,n,fun f hm=>?_⟩
 obtain ⟨i,hi⟩:=List.getElem?_of_mem hm
 rw [Array.getElem?_toList] at hi
 have hlt:i < ys.length:=by rw [hyl];exact (Array.getElem?_eq_some_iff.1 hi).1
 exact ⟨_,(hf i f hi).trans (List.getElem?_eq_getElem hlt)⟩
theorem CY {α:Type} (l:List α) (o k:Nat):(l.drop o)=(l.drop o).take k++l.drop (o+k):=by
 rw [<-List.drop_drop,List.take_append_drop]
theorem gm {H:Type} {enc:TypeId×Value->H} {w:World} {base:Nat} {spare:Nat->Bool} {held:Bool} {n:Nat} {f:Field} {fs:List Field} {cs:List Value} (h:zT P enc w base spare held n (f::fs) cs) {α:Type} {K o o':Nat} {g:α->List D} {Q:α->Prop} (ho:mS P f.type K g Q) (hoff:f.offset=o) (hC:P.cellsOf f.type=K) (ho':o+K=o'):
  (∃ a,Q a/\∀ ds,cQ (bA qq w) ds (cs.drop o')->cQ (bA qq w) (g a++ds) (cs.drop o))/\zT P enc w base spare held n fs cs:=by
 refine ⟨?_,fun f hf=>h f (List.mem_cons_of_mem _ hf)⟩
 obtain ⟨z,hz⟩:=h f List.mem_cons_self
 rw [hoff,hC] at hz
 obtain ⟨a,ha,hq⟩:=ho.2 _ _ _ _ _ _ _ _ _ hz
 refine ⟨a,hq,fun ds hds=>?_⟩
 subst ho'
 rw [CY cs o K]
 exact ha.append hds
theorem qW {w:World} {cs:List Value} {o:Nat} (hl:cs.length=o):cQ (bA qq w) [] (cs.drop o):=by
 rw [List.drop_of_length_le aa];trivial
end
section
variable {H:Type} {enc:TypeId×Value->H} {P:Program} {w:World} {base:Nat} {spare:Nat->Bool} {held:Bool} {t:TypeId}
theorem Js {ds:List D} {vs:List Value} (h:cQ (bA qq w) ds vs):cQ (dC (fun _=>none) qq w) (ds.map .d) vs:=by
 induction ds generalizing vs with
 |nil=>cases vs with
  |nil=>trivial
  |cons=>exact h.elim
 |cons d ds ih=>cases vs with
  |nil=>exact h.elim
  |cons v vs=>exact ⟨h.1,ih h.2⟩
theorem Dn {α:Type} {f:α->D} {Q:α->Prop} (ho:mS P t 1 (fun a=>[f a]) Q) {v:Value} {d:DataW H} {p:List MemPlace} (hv:v.cells=#[v]) (h:DataW.Trod enc P w base spare held t v d p):∃ a,ef (fun _=>none) qq w (.c (.d (f a))) v/\Q a:=by
 obtain ⟨fuel,hf⟩:=h
 rw [hv] at hf
 obtain ⟨a,h1,h2⟩:=ho.2 _ _ _ _ _ _ _ _ _ hf
 exact ⟨a,h1.1,h2⟩
theorem zZ {α:Type} {f:α->D} {Q:α->Prop} {e:TypeId} (ht:P.underlying t=some (.slice e)) (ho:mS P t 1 (fun a=>[f a]) Q) {r:Reach} {b0:Nat} {v:Value} {d:DataW H} {p:List MemPlace} (hv:Value.okWide P w r b0 t v) (h:DataW.Trod enc P w base spare held t v d p):∃ a,ef (fun _=>none) qq w (.c (.d (f a))) v/\Q a:=by
 obtain ⟨a,len,cap,rfl⟩:=okWide_slice ht hv
 exact Dn ho rfl h
theorem yw {α:Type} {f:α->List D} {Q:α->Prop} {K:Nat} {fs:Array Field} (ht:P.underlying t=some (.struct fs)) (ho:mS P t K f Q) {r:Reach} {b0:Nat} {v:Value} {d:DataW H} {p:List MemPlace} (hv:Value.okWide P w r b0 t v) (h:DataW.Trod enc P w base spare held t v d p):∃ a,ef (fun _=>none) qq w (.g ((f a).map .d)) v/\Q a:=by
 obtain ⟨cs,rfl,_⟩:=okWide_struct ht hv
 obtain ⟨fuel,hf⟩:=h
 obtain ⟨a,h1,h2⟩:=ho.2 _ _ _ _ _ _ _ _ _ hf
 exact ⟨a,⟨cs.toList,ca,Js h1⟩,h2⟩
end
theorem HZ {P:Program} {f:FuncId} {ins:List GV} (h:Fn P f ins (aB true) []) {w:World} {args:Array Value} (hargs:cQ (ef (fun _=>none) qq w) ins args.toList):Calls P f args w fun e w'=>e=.returned (.bool true)/\Below w.heap.size w w':=
 (h qq w args (fun _ h=>h.elim) hargs).mono fun e w' ⟨v,σ,T',he,hb,R⟩=>⟨by rw [he,bA.inv R.rel],hb⟩
end
section

theorem bA.len {T:Nat->Prop} {w:World} {K:Nat} {rows:List (List D)} {v:Value} (h:bA T w (.r K rows) v):rows.length<=9223372036854775807:=by
 cases h with
 |nil=>simp
 |r=>omega
section
variable {P:Program} {W0:World} {F:Nat->Prop} {N:NT} {T0:Nat->Prop} {pin:List (Nat×cg)} {Q:Exit->aK->Prop} {s:List (Nat×AV)} {h:List (Nat×AB)} {n:Nat}
theorem dE {c:Code} {α:Type} {f:α->List D} {xs:List α} {K:Nat} (i:Nat) (hs:look s i=some (.v (.c (.d (.r K (xs.map f)))))) (k:xs.length<=9223372036854775807->AC P W0 F N T0 pin Q c ⟨s,h,n⟩):AC P W0 F N T0 pin Q c ⟨s,h,n⟩:=fun a w hI=>by
 obtain ⟨σ,T,hT,S,hp⟩:=hI
 have h1:=bA.len (show bA T w (.r K (xs.map f)) _ from S.core.gD i _ hs)
 rw [List.length_map] at h1
 exact k h1 a w ⟨σ,T,hT,S,hp⟩
theorem jx {c:Code} {k r K m:Nat} (i:Nat) (hs:look s i=some (.v (.c (.s k r K m)))) (hk:m<=9223372036854775807->AC P W0 F N T0 pin Q c ⟨s,h,n⟩):AC P W0 F N T0 pin Q c ⟨s,h,n⟩:=fun a w hI=>by
 obtain ⟨σ,T,hT,S,hp⟩:=hI
 have h1:dC σ T w (.s k r K m) _:=S.core.gD i _ hs
 refine hk ?_ a w ⟨σ,T,hT,S,hp⟩
 rcases h1 with ⟨h0,_⟩|⟨g,_,_,h2,h3⟩<;>omega
theorem ck {c:Code} {α:Type} {f:α->List D} {xs:List α} {K:Nat} {cs:List CV} (i j:Nat) (hs:look s i=some (.v (.g cs))) (hj:cs[j]?=some (.d (.r K (xs.map f)))) (k:xs.length<=9223372036854775807->AC P W0 F N T0 pin Q c ⟨s,h,n⟩):AC P W0 F N T0 pin Q c ⟨s,h,n⟩:=fun a w hI=>by
 obtain ⟨σ,T,hT,S,hp⟩:=hI
 obtain ⟨vs,h1,h2⟩:=S.core.gD i _ hs
 obtain ⟨y,hy,hr⟩:=h2.get hj
 have h1:=bA.len (show bA T w (.r K (xs.map f)) _ from hr)
 rw [List.length_map] at h1
 exact k h1 a w ⟨σ,T,hT,S,hp⟩
end
theorem dX.cut {σ:Nat->Option cg} {T:Nat->Prop} {w:World} {og:Option cg} {t K:Nat} {rows:List (List D)} (m:Nat) (h:dX σ T w og (.arr t K rows)):dX σ T w og (.arr t K (rows.take m)):=by
 obtain ⟨hK,h1⟩:=h
 refine ⟨hK,?_⟩
 rcases h1 with ⟨h1,h2⟩|⟨g,vs,h1,h2,h3,h4,h5,h6⟩
 ·exact .inl ⟨by rw [h1];simp,h2⟩
 ·refine .inr ⟨g,vs,h1,h2,h3,h4,h5,?_,fun i row hi=>?_⟩
  ·refine Nat.le_trans (Nat.mul_le_mul_right K ?_) h6.1
   rw [List.length_take];omega
  ·rw [List.getElem?_take] at hi
   split at hi
   ·exact h6.2 i row hi
   ·cases hi
theorem Ext.stay {σ:Nat->Option cg} {T:Nat->Prop} {st:aK} {a:Act} {w:World} (C:Core σ T st a w) {k:Nat} {b b0:AB} (hb0:look st.h k=some b0) (hr:dX σ T w (σ k) b):Ext σ T w σ T w [(k,b)] [k]:=by
 refine ⟨rfl,rfl,rfl,⟨Nat.le_refl _,fun _ _ _=>rfl,?_,fun _ _ h=>h,fun _ _ h=>h⟩,fun _ h=>h,C.ft,fun _ _=>rfl,?_,?_,?_⟩
 ·rintro b' ⟨k',hk',g',hg',rfl⟩
  rw [List.mem_singleton.1 hk'] at hg'
  exact (C.heap k b0 hb0).rp hg'
 ·intro j b' h
  obtain ⟨rfl,rfl⟩:=Prod.mk.inj (List.mem_singleton.1 h)
  exact hr
 ·intro j b' g' h hg'
  obtain ⟨rfl,rfl⟩:=Prod.mk.inj (List.mem_singleton.1 h)
  exact .inr ⟨j,List.mem_singleton.2 rfl,g',hg',rfl⟩
 ·intro j j' b1 b2 g1 g2 h h' _ _ _
  obtain ⟨rfl,_⟩:=Prod.mk.inj (List.mem_singleton.1 h)
  obtain ⟨rfl,_⟩:=Prod.mk.inj (List.mem_singleton.1 h')
  rfl
theorem vT {P:Program} {st:aK} {o:Oper} {x:Operand} {c:Call} {t e bt K bytes k i n:Nat} {z:Value} {zs:List Value} {rows rows':List (List D)} (hT:ko P t e K bytes) (hz:(P.info? e).bind (fun i=>i.zero)=some z) (hzs:z.cells.toList=zs) (h1:zs.all (·.oneCell')=true)
  (ho:o.op=.call c) (hc:c.callee=.builtin .clear) (ha:c.args=#[x]) (hat:c.argTypes=#[t]) (hd:o.dst=none) (hx:ev st x (.v (.c (.s k i K n)))) (hb:look st.h k=some (.arr bt K rows)) (hr:rows.take i=rows'):bU P o st (.v (.c .any)) [(k,.arr bt K rows')] [k]:=by
 subst hr
 intro σ T a w C _
 have hxv:=bN C hx
 have hh:=C.heap k _ hb
 have quiet:∀ A c',a.eval x=.slice A 0 c'->o.wp P a w (fun a' w'=>∃ u σ' T',a'=a.put o.dst u/\Ext σ T w σ' T' w' [(k,.arr bt K (rows.take i))] [k]/\fH σ' T' w' (.v (.c .any)) u) Ba:=fun A c' hv=>by
  refine jz (v:=.tuple #[]) ?_ ⟨_,σ,T,rfl,Ext.stay C hb (hh.cut i),trivial⟩
  unfold execOp
  cases A<;>simp [ho,resolve,hc,ha,hat,invoke,builtin,hv,Builtin.clear_,run_underlying hT.u]
 rcases hxv with ⟨h0,hv⟩|⟨g,hg,hv,bZ,h63⟩
 ·exact quiet none 0 hv
 ·by_cases hn:n=0
  ·subst hn;exact quiet _ _ hv
  ·obtain ⟨hK,hh'⟩:=hh
   rcases hh' with ⟨_,h⟩|⟨g',vs,e1,e2,e3,e4,e5,e6⟩
   ·rw [hg] at h;cases h
   rw [hg] at e1;injection e1 with e1;subst e1
   obtain ⟨ii,z',hii,hzz,hs,hby,hzc⟩:=hT.i
   have hz':z'=z:=by simpa [hii,hzz] using hz
   subst hz'
   have hlen:(Builtin.zeroCells z'.cells n).toList.length=n * K:=by simp [Builtin.zeroCells,hzc]
   have hone:∀ u∈(Builtin.zeroCells z'.cells n).toList,u.oneCell'=true:=by
    intro u hu
    simp only [Builtin.zeroCells,Array.toList_map,List.mem_map] at hu
    obtain ⟨q,_,rfl⟩:=hu
    have hlt:q % z'.cells.size < z'.cells.size:=Nat.mod_lt _ (by rw [hzc];exact hK)
    rw [getElem!_pos z'.cells (q % z'.cells.size) hlt]
    subst hzs
    exact List.all_eq_true.1 h1 _ ca
   have hfit:i * K+n * K<=vs.length:=by rw [e4,<-Nat.add_mul];exact Nat.mul_le_mul_right _ bZ
   have hst:=run_storeCells_at (P:=P) g.g (i * K) bt (Builtin.zeroCells z'.cells n).toList 0 vs.toArray w e3 (by rw [hlen];simpa using hfit) hone
   obtain ⟨m,rfl⟩:∃ m,n=m+1:=⟨n - 1,aa⟩
   have hzv:(zeroValue e).run P w=.ok z' w:=by simp [zeroValue,typeInfo,hii,hzz]
   refine jz (v:=.tuple #[]) (w':=w.setRow g.g (vs.take (i * K)++(Builtin.zeroCells z'.cells (m+1)).toList++vs.drop (i * K+(Builtin.zeroCells z'.cells (m+1)).toList.length)).toArray) ?_ ⟨_,σ,T,rfl,Ext.write C hb hg rfl rfl rfl (setRow_size w _ _) (fun j hj=>setRow_other w g.g j _ hj) fun G=>?_,trivial⟩
   ·unfold execOp
    simp only [Nat.add_zero] at hst
    simp [ho,resolve,hc,ha,hat,invoke,builtin,hv,Builtin.clear_,run_underlying hT.u,hzv,hst]
   ·refine ⟨hK,.inr ⟨g,_,rfl,e2,setRow_heap w g.g _ _ bt (0,0) e3,?_,e5,?_⟩⟩
    ·rw [<-e4];simp only [List.length_append,List.length_take,List.length_drop,hlen];omega
    ·have e7:=e6.grow G
     refine ⟨?_,fun r row hrow=>?_⟩
     ·simp only [List.length_append,List.length_take,List.length_drop,hlen]
      refine Nat.le_trans (Nat.mul_le_mul_right K (Nat.min_le_left i rows.length)) ?_
      omega
     ·rw [List.getElem?_take] at hrow
      split at hrow
      ·rename_i hri
       obtain ⟨q1,q2⟩:=e7.2 r row hrow
       refine ⟨q1,fun j d hj=>?_⟩
       obtain ⟨u,hu,hd'⟩:=q2 j d hj
       have hjK:j < K:=by rw [<-q1];exact (List.getElem?_eq_some_iff.1 hj).1
       have hlt:r * K+j < i * K:=by
        have:(r+1) * K<=i * K:=Nat.mul_le_mul_right _ hri
        rw [Nat.succ_mul] at this
        omega
       refine ⟨u,?_,hd'⟩
       rw [List.append_assoc,List.getElem?_append_left (by rw [List.length_take];omega),List.getElem?_take,if_pos hlt]
       exact hu
      ·cases hrow
theorem aq.kG {pin:List (Nat×cg)} {s:List (Nat×AV)} {h h':List (Nat×AB)} {n:Nat} (k j K bt:Nat) {cs:List CV} (hb:look h k=some (.box bt cs)) (hc:cs[j]?=some cN) (hh:nK h k (.box bt (cs.set j (cR K [])))=h'):aq pin ⟨s,h,n⟩ ⟨s,h',n⟩:=by
 subst hh
 rintro W0 F N T0 a w ⟨σ,T,hT,S,hp⟩
 have cu:∀ i b,look (nK h k (.box bt (cs.set j (cR K [])))) i=some b->∃ b0,look h i=some b0:=fun i b hi=>by
  rcases ml hi with ⟨rfl,_⟩|⟨_,h1⟩|⟨_,h1⟩
  ·exact ⟨_,hb⟩
  ·exact ⟨_,h1⟩
  ·exact h1.elim
 refine ⟨σ,T,hT,⟨⟨S.core.gD,?_,?_,S.core.ft⟩,S.os,S.tape,S.output,S.size,S.cu,?_,S.next,?_,S.kM,S.kr⟩,hp⟩
 ·intro i b hi
  rcases ml hi with ⟨rfl,rfl⟩|⟨_,h1⟩|⟨_,h1⟩
  ·obtain ⟨g,vs,h1,h2,h3,h4⟩:=S.core.heap _ _ hb
   refine ⟨g,vs,h1,h2,h3,?_⟩
   obtain ⟨y,hy,hr⟩:=h4.get hc
   have hy':y=.slice none 0 0:=bA.inv hr
   subst hy'
   have:=h4.set (x:=cR K []) (y:=.slice none 0 0) (bA.nil _ _ _) j
   have e:vs.set j (.slice none 0 0)=vs:=by
    apply List.ext_getElem?
    intro q
    rw [List.getElem?_set]
    split
    ·rename_i hq;subst hq
     split
     ·exact hy.symm
     ·rename_i hlt;rw [List.getElem?_eq_none aa]
    ·rfl
   rw [e] at this
   exact this
  ·exact S.core.heap i b h1
  ·exact h1.elim
 ·intro i i' b b' g g' hi hi' hg hg' hgg
  obtain ⟨b0,h0⟩:=cu i b hi
  obtain ⟨b1,h1⟩:=cu i' b' hi'
  exact S.core.inj i i' b0 b1 g g' h0 h1 hg hg' hgg
 ·intro i b g hi hg
  obtain ⟨b0,h0⟩:=cu i b hi
  exact S.own i b0 g h0 hg
 ·intro i b hi
  obtain ⟨b0,h0⟩:=cu i b hi
  exact S.hn i b0 h0
theorem mo {P:Program} {st:aK} {o:Oper} {f:FuncId} {c:Call} {x:Operand} {y:CV} {bu:List (List D)} {ins:List GV} {av av':AV} {nb nb':List (Nat×AB)} (n0:Nat) (E:List Nat) (hF:Fn P f (ins++bu.map fun r=>.c (.q r 0)) av nb) (hen:bc P f) (ho:o.op=.call c) (hc:c.callee=.value x) (hx:ev st x (.v (.c y))) (hy:lK st E y (.d (.f f bu))) (hargs:xw st E c.args.toList ins)
  (hg:av.fe (fun d=>d.oY=true)) (hgb:dG (fun x=>x.2.fe fun d=>d.oY=true) nb) (hok:av.ok (bo nb)=true) (hokb:nb.all (fun x=>x.2.ok (bo nb))=true) (hav:av.map (n0+·)=av') (hnb:gG (n0+·) nb=nb'):bU P o st av' nb' []:=by
 intro σ T a w C hnew
 subst hav hnb
 have hv:bA (gr σ T E) w (.f f bu) (a.eval x):=lK.rel C hy (bN C hx)
 generalize hve:a.eval x=v at hv
 cases hv with
 |f _ _ bs jn cs hb fk hd=>
  have hcaps:cQ (ef (fun _=>none) (gr σ T E) w) (bu.map fun r=>GV.c (.q r 0)) ((List.range bu.length).map fun i=>Value.pointer (some ⟨bs i,jn i,none⟩)):=by
   refine pY ca fun i g hg=>?_
   obtain ⟨hi,rfl⟩:=List.getElem?_eq_some_iff.1 hg
   simp at hi
   refine ⟨.pointer (some ⟨bs i,jn i,none⟩),by simp [hi],?_⟩
   simp only [List.getElem_map]
   refine ⟨bs i,jn i,rfl,(hb i hi).1,(hb i hi).2,fun j d hj=>?_⟩
   have hr:bu[i]?=some bu[i]:=List.getElem?_eq_getElem hi
   exact ⟨cs i j,fk i _ j d hr hj,hd i _ j d hr hj⟩
  have hrun:(execOp a.eval o).run P w=.ok (.enter f (c.args.map a.eval++((List.range bu.length).map fun i=>Value.pointer (some ⟨bs i,jn i,none⟩)).toArray)) w:=by
   unfold execOp
   simp [ho,resolve,hc,hve,Deferred.ofValue,invoke]
   have:=hen (c.args.map a.eval++((List.range bu.length).map fun i=>Value.pointer (some ⟨bs i,jn i,none⟩)).toArray) w
   simpa using this
  unfold Oper.wp
  rw [hrun]
  refine ((pK hF n0 C (E:=E) (args:=c.args.map a.eval++((List.range bu.length).map fun i=>Value.pointer (some ⟨bs i,jn i,none⟩)).toArray) ?_ hg hgb hok hokb (fun k b h=>hnew k b h ca) fun Tc T' w' d v h1 h2 hp h=>?_).mono ?_)
  ·rw [Array.toList_append,Array.toList_map]
   exact (qk C hargs).append hcaps
  ·cases d with
   |v x=>cases h;exact .v _ dr
   |r=>cases hp
   |f=>cases hp
  ·rintro e w' ⟨v,σ',T',rfl,X,hr⟩
   exact ⟨v,σ',T',rfl,X,hr⟩
def BD (st:aK) (k:Nat) (p:Nat->Bool) (y x:AV):Prop:=(y=x/\x.ok p=true)\/∃ c d,y=.v (.c c)/\x=.v (.c d)/\lK st [k] c d
theorem Core.freeze {σ:Nat->Option cg} {T:Nat->Prop} {st st':aK} {a:Act} {w:World} (C:Core σ T st a w) (k:Nat) (hn:∀ i v,look st'.s i=some v->∃ y,look st.s i=some y/\BD st k (bo st'.h) y v)
  (hh:∀ j b,look st'.h j=some b->look st.h j=some b/\j≠k/\b.ok (bo st'.h)=true) (hk:∃ b,look st.h k=some b):Core (fun j=>if bo st'.h j=true then σ j else none) (gr σ T [k]) st' a w:=by
 have hlow:∀ b,gr σ T [k] b->T b:=fun b h=>h.1
 obtain ⟨b0,hb0⟩:=hk
 have hσ:∀ j,bo st'.h j=true->(fun j=>if bo st'.h j=true then σ j else none) j=σ (id j):=fun j hj=>if_pos hj
 have idA:∀ v:AV,v.map id=v:=fun v=>by
  have hz:∀ c:CV,c.map id=c:=fun c=>by cases c<;>simp [CV.map]
  have hg:∀ g:GV,g.map id=g:=fun g=>by
   cases g with
   |c x=>simp [GV.map,hz]
   |g xs=>simp only [GV.map];congr 1;exact (List.map_congr_left fun c _=>hz c).trans (List.map_id _)
  cases v with
  |v x=>simp [AV.map,hg]
  |t xs=>simp only [AV.map];congr 1;exact (List.map_congr_left fun c _=>hg c).trans (List.map_id _)
 have idB:∀ b:AB,b.map' id=b:=fun b=>by
  have hz:∀ c:CV,c.map id=c:=fun c=>by cases c<;>simp [CV.map]
  cases b with
  |box t cs=>simp only [AB.map'];congr 1;exact (List.map_congr_left (fun c _=>hz c)).trans (List.map_id _)
  |arr=>rfl
  |map=>rfl
 have inT':∀ j b g,look st'.h j=some b->σ j=some g->T g.g->gr σ T [k] g.g:=fun j b g hj hg hT=>⟨hT,fun e he g' hg' hgg=>by
  rw [List.mem_singleton.1 he] at hg'
  exact (hh j b hj).2.1 (C.inj k j b0 b g' g hb0 (hh j b hj).1 hg' hg hgg).symm⟩
 refine ⟨fun i v hi=>?_,fun j b hj=>?_,fun j j' b b' g g' hj hj' hg hg' hgg=>?_,fun b h=>C.ft b h.1⟩
 ·obtain ⟨y,hy,hf⟩:=hn i v hi
  have hr:=C.gD i y hy
  rcases hf with ⟨rfl,hok⟩|⟨c,d,rfl,rfl,harg⟩
  ·have hr:fH σ T w (y.map id) (a.tmps.getD i undef):=by rw [idA];exact hr
   have h2:=fH.jH hσ hr hok
   cases y with
   |v x=>exact ef.gC (x:=x) hlow h2
   |t xs=>obtain ⟨vs,q1,q2⟩:=h2;exact ⟨vs,q1,q2.mono fun _ _ h=>h.gC hlow⟩
  ·exact dC.up (x:=d) (lK.rel C harg hr)
 ·obtain ⟨h1,h2,h3⟩:=hh j b hj
  have hkin:bo st'.h j=true:=by simp [bo,hj]
  show dX _ _ _ (if bo st'.h j=true then σ j else none) b
  rw [if_pos hkin]
  have h4:dX σ T w (σ j) (b.map' id):=by rw [idB];exact C.heap j b h1
  exact dX.gC hlow (fun g hg hT=>inT' j b g hj hg hT) (dX.jH hσ h4 h3)
 ·obtain ⟨h1,_,_⟩:=hh j b hj
  obtain ⟨h1',_,_⟩:=hh j' b' hj'
  have e1:bo st'.h j=true:=by simp [bo,hj]
  have e2:bo st'.h j'=true:=by simp [bo,hj']
  have hg:(if bo st'.h j=true then σ j else none)=some g:=hg
  have hg':(if bo st'.h j'=true then σ j' else none)=some g':=hg'
  rw [if_pos e1] at hg
  rw [if_pos e2] at hg'
  exact C.inj j j' b b' g g' h1 h1' hg hg' hgg
section
variable {P:Program} {W0:World} {N:NT} {T0:Nat->Prop} {Q:Exit->aK->Prop} {s s':List (Nat×AV)} {h h':List (Nat×AB)} {n:Nat}
theorem vc {a:Act} {w:World} (k:Nat) (hk:bo h k=true) (hs:dG (fun x=>∃ y,look s x.1=some y/\BD ⟨s,h,n⟩ k (bo h') y x.2) s') (hh:dG (fun x=>look h x.1=some x.2) h') (hok:h'.all (fun x=>!Nat.beq x.1 k && x.2.ok (bo h'))=true)
  (hI:Inv W0 (fun _=>False) N T0 [] ⟨s,h,n⟩ a w):Inv W0 (fun _=>False) N T0 [] ⟨s',h',n⟩ a w:=by
 obtain ⟨σ,T,hT,S,hp⟩:=hI
 obtain ⟨b0,hb0⟩:=lq hk
 have hh':∀ j b,look h' j=some b->look h j=some b/\j≠k/\b.ok (bo h')=true:=fun j b hj=>by
  have h1:=List.all_eq_true.1 hok _ (bP hj)
  simp only [Bool.and_eq_true,Bool.not_eq_true'] at h1
  exact ⟨hh.mem _ (bP hj),(fun e=>by subst e;rw [Nat.beq_refl] at h1;exact absurd h1.1 ca),h1.2⟩
 have C:=S.core.freeze (st':=⟨s',h',n⟩) k (fun i v hi=>hs.mem _ (bP hi)) hh' ⟨b0,hb0⟩
 have q1:∀ b,b < W0.heap.size->(gr σ T [k] b->T0 b)/\(T0 b->gr σ T [k] b):=fun b hb=>⟨fun hb'=>(hT b hb).1 hb'.1,fun h0=>⟨(hT b hb).2 h0,fun e he g hg hgb=>by
  rw [List.mem_singleton.1 he] at hg
  rcases S.own k b0 g hb0 hg with h1|h1
  ·omega
  ·exact h1⟩⟩
 have q2:∀ j b g,look h' j=some b->(if bo h' j=true then σ j else none)=some g->W0.heap.size<=g.g\/False:=fun j b g hj hg=>by
  split at hg
  ·exact S.own j b g (hh' j b hj).1 hg
  ·cases hg
 have q3:∀ j,n<=j->(if bo h' j=true then σ j else none)=none:=fun j hj=>by
  split
  ·exact S.next j hj
  ·rfl
 exact ⟨_,_,q1,⟨C,S.os,S.tape,S.output,S.size,S.cu,q2,q3,fun j b hj=>S.hn j b (hh' j b hj).1,S.kM,S.kr⟩,fun j g hj=>by cases hj⟩
theorem Ex {ops:Array Oper} {l:List Oper} (k:Nat) (hk:bo h k=true) (hs:dG (fun x=>∃ y,look s x.1=some y/\BD ⟨s,h,n⟩ k (bo h') y x.2) s') (hh:dG (fun x=>look h x.1=some x.2) h') (hok:h'.all (fun x=>!Nat.beq x.1 k && x.2.ok (bo h'))=true)
  (hn:AL P W0 (fun _=>False) N T0 [] ops Q l ⟨s',h',n⟩):AL P W0 (fun _=>False) N T0 [] ops Q l ⟨s,h,n⟩:=fun a w hI=>hn a w (vc k hk hs hh hok hI)
theorem KJ {c:Code} (k:Nat) (hk:bo h k=true) (hs:dG (fun x=>∃ y,look s x.1=some y/\BD ⟨s,h,n⟩ k (bo h') y x.2) s') (hh:dG (fun x=>look h x.1=some x.2) h') (hok:h'.all (fun x=>!Nat.beq x.1 k && x.2.ok (bo h'))=true)
  (hn:AC P W0 (fun _=>False) N T0 [] Q c ⟨s',h',n⟩):AC P W0 (fun _=>False) N T0 [] Q c ⟨s,h,n⟩:=fun a w hI=>hn a w (vc k hk hs hh hok hI)
end
end
section

section
variable {P:Program} {W0:World} {F:Nat->Prop} {N:NT} {T0:Nat->Prop} {pin:List (Nat×cg)} {Q:Exit->aK->Prop} {st:aK} {ops:Array Oper}
def AR (P:Program) (W0:World) (F:Nat->Prop) (N:NT) (T0:Nat->Prop) (pin:List (Nat×cg)) (ops:Array Oper) (Q:Exit->aK->Prop):Nat->Array Bool->aK->Prop
 |0,listed,st=>Region.ready .any ops listed=[]/\Q .normal st
 |f+1,listed,st=>Region.ready .any ops listed≠[]/\∀ i∈Region.ready .any ops listed,∀ a w,Inv W0 F N T0 pin st a w->wpOp P ops (QX W0 F N T0 pin Q) i (fun a' w'=>∃ st',AR P W0 F N T0 pin ops Q f (listed.setIfInBounds i true) st'/\Inv W0 F N T0 pin st' a' w') a w
def nQ (K:aK->Prop):Exit->aK->Prop:=fun e st'=>e=.normal/\K st'
theorem Ez {o:Oper} {a:Act} {K:Act->World->Prop} {R S:Exit->Act->World->Prop} {r:Result Next} (hR:∀ e a w,e≠.normal->¬R e a w) (h:o.upon P a K R r):o.upon P a K S r:=by
 cases r with
 |ok n w'=>
  cases n<;>simp only [Oper.upon] at h ⊢<;>try exact h
  refine h.mono fun e w'' he=>?_
  cases e with
  |returned v=>exact he
  |panicked c=>exact absurd he (hR _ _ _ (fun e=>by cases e))
  |outgrown=>obtain ⟨_,_,h⟩:=he;exact absurd h (hR _ _ _ (fun e=>by cases e))
 |halt x w'=>cases x<;>simp only [Oper.upon] at h ⊢<;>first|exact h|exact absurd h (hR _ _ _ (fun e=>by cases e))
theorem AR.step {K:aK->Prop} {i:Nat} {o:Oper} (ho:ops[i]?=some o) (hal:AL P W0 F N T0 pin ops (nQ K) [o] st):∀ a w,Inv W0 F N T0 pin st a w->wpOp P ops (QX W0 F N T0 pin Q) i (fun a' w'=>∃ st',K st'/\Inv W0 F N T0 pin st' a' w') a w:=by
 intro a w hI
 have hR:∀ e a w,e≠.normal->¬QX W0 F N T0 pin (nQ K) e a w:=by
  rintro e a w he ⟨st',⟨h1,_⟩,_⟩;exact he h1
 have hN:∀ a w,QX W0 F N T0 pin (nQ K) .normal a w->∃ st',K st'/\Inv W0 F N T0 pin st' a w:=by
  rintro a w ⟨st',⟨_,h1⟩,h2⟩;exact ⟨st',h1,h2⟩
 have h:=hal a w hI
 unfold wpList at h
 unfold wpOp
 rw [ho]
 dsimp only
 split at h
 ·rename_i hw
  rw [if_pos hw]
  rcases h with h|⟨_,a1,w1,h⟩
  ·exact .inl (Ez hR (iZ h fun a w h=>hN a w h))
  ·exact absurd h (hR _ _ _ (fun e=>by cases e))
 ·rename_i hw
  rw [if_neg hw]
  exact hN _ _ h
theorem AR.more {f:Nat} {listed:Array Bool} {is:List Nat} (hr:Region.ready .any ops listed=is) (hne:is.isEmpty=false) (h:dG (fun i=>∀ a w,Inv W0 F N T0 pin st a w->wpOp P ops (QX W0 F N T0 pin Q) i (fun a' w'=>∃ st',AR P W0 F N T0 pin ops Q f (listed.setIfInBounds i true) st'/\Inv W0 F N T0 pin st' a' w') a w) is):AR P W0 F N T0 pin ops Q (f+1) listed st:=by
 refine ⟨fun e=>?_,fun i hi=>h.mem i (hr▸hi)⟩
 rw [hr] at e;subst e;cases hne
end
end
section

def rk (aP:List bS) (x:Nat) (q:Nat):Bool:=match aP[q]? with
 |some r=>(match r.dst with
  |some d=>Nat.beq d x
  |none=>false)
 |none=>false
def lL (aP:List bS) (k:Nat) (q:Nat):Bool:=match aP[q]? with
 |some r=>ey k r.E||ey k (keys r.nb)
 |none=>false
def HX (aP:List bS) (k:Nat) (q:Nat):Bool:=match aP[q]? with
 |some r=>ey k (keys r.nb)
 |none=>false
def sR (ops:Array Oper) (n:Nat) (wr:Nat->Bool) (i:Nat):Option Nat->Bool
 |none=>(List.range n).all fun q=>Nat.beq q i||!wr q||fS ops q i
 |some j=>Nat.blt j n && fS ops i j && (List.range n).all fun q=>Nat.beq q i||Nat.beq q j||!wr q||fS ops q i||fS ops j q
def pB (ops:Array Oper) (n:Nat) (wr:Nat->Bool):Option Nat->Bool
 |none=>(List.range n).all fun q=>!wr q
 |some j=>Nat.blt j n && (List.range n).all fun q=>Nat.beq q j||!wr q||fS ops j q
def mg (aP:List bS) (pre:List Nat) (x:Nat):Option Nat:=pre.find? (rk aP x)
def kU (aP:List bS) (pre:List Nat) (k:Nat):Option Nat:=pre.find? (HX aP k)
def lX (ops:Array Oper) (aP:List bS) (N:Nat) (st fin:aK) (i:Nat) (r:bS):Bool:=
 (match ops[i]? with
  |some o=>(match o.dst,r.dst with
   |some d,some d'=>Nat.beq d d' && Nat.blt d N
   |none,none=>true
   |_,_=>false) && o.after.all (fun e=>!Region.binds .any e||Nat.blt e.on i)
  |none=>false) &&
 r.E.all (fun k=>ey k (keys r.h)) && eV (keys r.nb) &&
 r.nb.all (fun x=>Nat.blt x.1 fin.n && (ey x.1 r.E||(Nat.ble st.n x.1 && (List.range aP.length).all fun q=>Nat.beq q i||!lL aP x.1 q||fS ops q i))) &&
 r.s.all (fun x=>sR ops aP.length (rk aP x.1) i (mg aP r.pre x.1)) && r.h.all (fun x=>sR ops aP.length (lL aP x.1) i (kU aP r.pre x.1))
def vD (ops:Array Oper) (aP:List bS) (N:Nat) (st fin:aK):Nat->List bS->Bool
 |_,[]=>true
 |i,r::rs=>lX ops aP N st fin i r && vD ops aP N st fin (i+1) rs
def nO (ops:Array Oper) (aP:List bS) (N:Nat) (st fin:aK) (fp:List Nat):Bool:=
 vD ops aP N st fin 0 aP && Nat.beq aP.length ops.size && Nat.ble st.n fin.n &&
 fin.s.all (fun x=>pB ops aP.length (rk aP x.1) (mg aP fp x.1)) && fin.h.all (fun x=>Nat.blt x.1 fin.n && pB ops aP.length (lL aP x.1) (kU aP fp x.1))
theorem sH {ops:Array Oper} {aP:List bS} {N:Nat} {st fin:aK}:∀ {rs:List bS} {i:Nat},vD ops aP N st fin i rs=true->∀ {j:Nat} {r:bS},rs[j]?=some r->lX ops aP N st fin (i+j) r=true
 |r::rs,i,h,0,r',hr=>by simp at hr;subst hr;simp only [vD,Bool.and_eq_true] at h;exact h.1
 |r::rs,i,h,j+1,r',hr=>by
  simp only [vD,Bool.and_eq_true] at h
  have:=sH (rs:=rs) (i:=i+1) h.2 (j:=j) (by simpa using hr)
  rwa [show i+1+j=i+(j+1) by omega] at this
 |[],_,_,_,_,hr=>by simp at hr
def mQ (st:aK) (aP:List bS) (x:Nat) (v:AV):Option Nat->Prop
 |none=>look st.s x=some v
 |some j=>∃ q,aP[j]?=some q/\q.dst=some x/\q.v=v
def mR (st:aK) (aP:List bS) (k:Nat) (b:AB):Option Nat->Prop
 |none=>look st.h k=some b
 |some j=>∃ q,aP[j]?=some q/\(k,b)∈q.nb
def pN (st:aK) (aP:List bS):List bS->Prop
 |[]=>True
 |r::rs=>(dG (fun x=>mQ st aP x.1 x.2 (mg aP r.pre x.1)) r.s/\dG (fun x=>mR st aP x.1 x.2 (kU aP r.pre x.1)) r.h)/\pN st aP rs
theorem pN.get {st:aK} {aP:List bS}:∀ {rs:List bS},pN st aP rs->∀ {r:bS},r∈rs->dG (fun x=>mQ st aP x.1 x.2 (mg aP r.pre x.1)) r.s/\dG (fun x=>mR st aP x.1 x.2 (kU aP r.pre x.1)) r.h
 |r::rs,h,r',hr=>by
  rcases List.mem_cons.1 hr with rfl|hr
  ·exact h.1
  ·exact pN.get (rs:=rs) h.2 hr
def nB (ops:Array Oper) (n:Nat):List Nat->Prop
 |[]=>True
 |j::ys=>(∀ q,q < n->fS ops j q=true->q∈ys)/\j ∉ ys/\nB ops n ys
theorem nB.wait {ops:Array Oper} {n:Nat}:∀ {d:List Nat},nB ops n d->∀ {q i:Nat},q∈d->i < n->fS ops q i=true->i∈d
 |j::ys,h,q,i,hq,hi,hw=>by
  rcases List.mem_cons.1 hq with rfl|hq
  ·exact List.mem_cons_of_mem _ (h.1 i hi hw)
  ·exact List.mem_cons_of_mem _ (h.2.2.wait hq hi hw)
theorem nB.split {ops:Array Oper} {n:Nat} {wr:Nat->Bool} {j:Nat}:∀ {d:List Nat},nB ops n d->j∈d->(∀ q∈d,q < n)->(∀ q∈d,q≠j->wr q=true->fS ops j q=true)->∃ xs ys,d=xs++j::ys/\∀ q∈xs,wr q=false
 |k::ys,h,hj,hn,hc=>by
  by_cases e:k=j
  ·subst e;exact ⟨[],ys,rfl,fun q hq=>by cases hq⟩
  ·have hj':j∈ys:=(List.mem_cons.1 hj).resolve_left (Ne.symm e)
   obtain ⟨xs,zs,h1,h2⟩:=h.2.2.split hj' (fun q hq=>hn q (List.mem_cons_of_mem _ hq)) (fun q hq=>hc q (List.mem_cons_of_mem _ hq))
   refine ⟨k::xs,zs,by rw [h1];rfl,fun q hq=>?_⟩
   rcases List.mem_cons.1 hq with rfl|hq
   ·cases hw:wr q with
    |false=>rfl
    |true=>exact absurd (h.2.2.wait hj' (hn q List.mem_cons_self) (hc q List.mem_cons_self e hw)) h.2.1
   ·exact h2 q hq
section
variable {st:aK} {aP:List bS}
theorem xV {x q:Nat} {r:bS} (hr:aP[q]?=some r) (h:rk aP x q=false):r.dst≠some x:=fun e=>by
 unfold rk at h;rw [hr] at h;simp only [e] at h;rw [Nat.beq_refl] at h;cases h
theorem rv {k q:Nat} {r:bS} (hr:aP[q]?=some r) (h:lL aP k q=false):k ∉ keys r.nb/\k ∉ r.E:=by
 unfold lL at h;rw [hr] at h
 simp only [Bool.or_eq_false_iff] at h
 exact ⟨fun hk=>(Bool.eq_false_iff.1 h.2) (fc.2 hk),fun hk=>(Bool.eq_false_iff.1 h.1) (fc.2 hk)⟩
theorem Df {xs ys:List Nat} {j x:Nat} {r:bS} (hx:∀ q∈xs,rk aP x q=false) (hr:aP[j]?=some r) (hd:r.dst=some x):look (er st aP (xs++j::ys)).s x=some r.v:=by
 induction xs with
 |nil=>
  rw [List.nil_append,gz hr,hd]
  show look ((x,r.v)::(er st aP ys).s) x=_
  rw [cr,if_pos rfl]
 |cons q xs ih=>
  have ih:=ih fun p hp=>hx p (List.mem_cons_of_mem _ hp)
  rw [List.cons_append]
  cases hq:aP[q]? with
  |none=>rw [nf hq];exact ih
  |some r'=>
   rw [gz hq]
   have hne:=xV hq (hx q List.mem_cons_self)
   cases hd':r'.dst with
   |none=>exact ih
   |some d=>
    show look ((d,r'.v)::(er st aP (xs++j::ys)).s) x=_
    rw [cr,if_neg (fun e=>hne (by rw [hd',e]))]
    exact ih
theorem qf {l:List (Nat×AB)} {k:Nat} (h:k ∉ keys l):look l k=none:=by
 cases hl:look l k with
 |none=>rfl
 |some b=>exact absurd (List.mem_map.2 ⟨(k,b),bP hl,rfl⟩) h
theorem yg {xs ys:List Nat} {j k:Nat} {b:AB} {r:bS} (hx:∀ q∈xs,lL aP k q=false) (hr:aP[j]?=some r) (hn:(keys r.nb).Nodup) (hb:(k,b)∈r.nb):look (er st aP (xs++j::ys)).h k=some b:=by
 induction xs with
 |nil=>
  rw [List.nil_append,gz hr,sQ]
  show look (r.nb++del r.E (er st aP ys).h) k=_
  rw [eQ,tl hn hb,Option.some_or]
 |cons q xs ih=>
  have ih:=ih fun p hp=>hx p (List.mem_cons_of_mem _ hp)
  rw [List.cons_append]
  cases hq:aP[q]? with
  |none=>rw [nf hq];exact ih
  |some r'=>
   rw [gz hq,sQ]
   obtain ⟨h1,h2⟩:=rv hq (hx q List.mem_cons_self)
   show look (r'.nb++del r'.E (er st aP (xs++j::ys)).h) k=_
   rw [eQ,qf h1,Option.none_or,gZ h2]
   exact ih
end
theorem iq {n:Nat} {p:Nat->Bool} (h:(List.range n).all p=true) {q:Nat} (hq:q < n):p q=true:=List.all_eq_true.1 h q (List.mem_range.2 hq)
section
variable {P:Program} {W0:World} {F:Nat->Prop} {N:NT} {T0:Nat->Prop} {pin:List (Nat×cg)} {Q:Exit->aK->Prop} {st:aK}
theorem Gf {id:Nat} {l:List Oper} (aP:List bS) (fin:aK) (fp:List Nat) (hm:P.follows .mixedOrders=true) (hB:nO l.toArray aP N.1 st fin fp=true) (hrows:lT P l.toArray aP l) (hsee:pN st aP aP)
  (hfin:dG (fun x=>mQ st aP x.1 x.2 (mg aP fp x.1)) fin.s/\dG (fun x=>mR st aP x.1 x.2 (kU aP fp x.1)) fin.h) (hk:Q .normal fin):AC P W0 F N T0 pin Q (.region id l.toArray true) st:=by
 rintro a w ⟨σ0,T1,hT1,S0,hp0⟩
 unfold nO at hB
 simp only [Bool.and_eq_true] at hB
 obtain ⟨⟨⟨⟨hall,hlen⟩,hfn⟩,hfs⟩,hfh⟩:=hB
 have hlen:=Nat.eq_of_beq_eq_true hlen
 have tab:∀ i r,aP[i]?=some r->lX l.toArray aP N.1 st fin i r=true:=fun i r hr=>by have:=sH hall hr;rwa [Nat.zero_add] at this
 have nbnd:∀ (i:Nat) (r:bS),aP[i]?=some r->(keys r.nb).Nodup:=fun i r hr=>by
  have:=tab i r hr
  simp only [lX,Bool.and_eq_true] at this
  exact lp this.1.1.1.2
 have nbk:∀ (i:Nat) (r:bS) k,aP[i]?=some r->k∈keys r.nb->k < fin.n/\(k∈r.E\/(st.n<=k/\∀ q,q < aP.length->q≠i->lL aP k q=true->fS l.toArray q i=true)):=fun i r k hr hk=>by
  have:=tab i r hr
  simp only [lX,Bool.and_eq_true] at this
  obtain ⟨x,hx,rfl⟩:=List.mem_map.1 hk
  have h1:=List.all_eq_true.1 this.1.1.2 x hx
  simp only [Bool.and_eq_true,Bool.or_eq_true,Nat.blt_eq] at h1
  refine ⟨h1.1,?_⟩
  rcases h1.2 with h2|⟨h2,h3⟩
  ·exact .inl (fc.1 h2)
  ·refine .inr ⟨Nat.le_of_ble_eq_true h2,fun q hq hne hw=>?_⟩
   have h4:=iq h3 hq
   simp only [Bool.or_eq_true,Bool.not_eq_true'] at h4
   rcases h4 with (h4|h4)|h4
   ·exact absurd (Nat.eq_of_beq_eq_true h4) hne
   ·rw [hw] at h4;cases h4
   ·exact h4
 have srcOK:∀ (wr:Nat->Bool) (i:Nat) (src:Option Nat),sR l.toArray aP.length wr i src=true->∀ (done:List Nat),nB l.toArray aP.length done->(∀ q∈done,q < aP.length)->i ∉ done->i < aP.length->(∀ j,j < aP.length->fS l.toArray i j=true->j∈done)->
   (src=none/\∀ q∈done,wr q=false)\/∃ j xs ys,src=some j/\done=xs++j::ys/\∀ q∈xs,wr q=false:=by
  intro wr i src hok done hord hdn hi hilt hwait
  cases src with
  |none=>
   refine .inl ⟨rfl,fun q hq=>?_⟩
   cases hw:wr q with
   |false=>rfl
   |true=>
    have h:=iq hok (hdn q hq)
    simp only [Bool.or_eq_true,Bool.not_eq_true'] at h
    rcases h with (h|h)|h
    ·exact absurd (Nat.eq_of_beq_eq_true h▸hq) hi
    ·rw [hw] at h;cases h
    ·exact absurd (hord.wait hq hilt h) hi
  |some j=>
   simp only [sR,Bool.and_eq_true,Nat.blt_eq] at hok
   obtain ⟨⟨h1,h2⟩,h3⟩:=hok
   have hj:=hwait j h1 h2
   obtain ⟨xs,ys,h4,h5⟩:=hord.split (wr:=wr) hj hdn (fun q hq hne hw=>by
    have h:=iq h3 (hdn q hq)
    simp only [Bool.or_eq_true,Bool.not_eq_true'] at h
    rcases h with (((h|h)|h)|h)|h
    ·exact absurd (Nat.eq_of_beq_eq_true h▸hq) hi
    ·exact absurd (Nat.eq_of_beq_eq_true h) hne
    ·rw [hw] at h;cases h
    ·exact absurd (hord.wait hq hilt h) hi
    ·exact h)
   exact .inr ⟨j,xs,ys,rfl,h4,h5⟩
 have finOK:∀ (wr:Nat->Bool) (src:Option Nat),pB l.toArray aP.length wr src=true->∀ (done:List Nat),nB l.toArray aP.length done->(∀ q∈done,q < aP.length)->(∀ q,q < aP.length->q∈done)->
   (src=none/\∀ q∈done,wr q=false)\/∃ j xs ys,src=some j/\done=xs++j::ys/\∀ q∈xs,wr q=false:=by
  intro wr src hok done hord hdn hall'
  cases src with
  |none=>
   refine .inl ⟨rfl,fun q hq=>?_⟩
   have h:=iq hok (hdn q hq)
   simpa using h
  |some j=>
   simp only [pB,Bool.and_eq_true,Nat.blt_eq] at hok
   obtain ⟨h1,h3⟩:=hok
   obtain ⟨xs,ys,h4,h5⟩:=hord.split (wr:=wr) (hall' j h1) hdn (fun q hq hne hw=>by
    have h:=iq h3 (hdn q hq)
    simp only [Bool.or_eq_true,Bool.not_eq_true'] at h
    rcases h with (h|h)|h
    ·exact absurd (Nat.eq_of_beq_eq_true h) hne
    ·rw [hw] at h;cases h
    ·exact h)
   exact .inr ⟨j,xs,ys,rfl,h4,h5⟩
 have gM:∀ (done:List Nat) x v src,mQ st aP x v src->((src=none/\∀ q∈done,rk aP x q=false)\/∃ j xs ys,src=some j/\done=xs++j::ys/\∀ q∈xs,rk aP x q=false)->look (er st aP done).s x=some v:=by
  intro done x v src hs hc
  rcases hc with ⟨rfl,hc⟩|⟨j,xs,ys,rfl,rfl,hc⟩
  ·rw [qD fun i hi r hr=>xV hr (hc i hi)];exact hs
  ·obtain ⟨q,h1,h2,rfl⟩:=hs
   exact Df hc h1 h2
 have gn:∀ (done:List Nat) k b src,mR st aP k b src->((src=none/\∀ q∈done,lL aP k q=false)\/∃ j xs ys,src=some j/\done=xs++j::ys/\∀ q∈xs,lL aP k q=false)->look (er st aP done).h k=some b:=by
  intro done k b src hs hc
  rcases hc with ⟨rfl,hc⟩|⟨j,xs,ys,rfl,rfl,hc⟩
  ·rw [lV fun i hi r hr=>rv hr (hc i hi)];exact hs
  ·obtain ⟨q,h1,h2⟩:=hs
   exact yg hc h1 (nbnd j q h1) h2
 let InvD:Array Bool->Act->World->Prop:=fun listed a w=>HeadInv .any l.toArray aP.length listed/\∃ done:List Nat,(∀ i,i∈done↔i < aP.length/\listed.getD i false=true)/\nB l.toArray aP.length done/\∃ σ T,(∀ b,b < W0.heap.size->(T b->T0 b)/\(T0 b->T b))/\pn W0 F N σ T (er st aP done) a w/\(∀ k g,look pin k=some g->σ k=some g)/\
  ∀ k,st.n<=k->(∀ i∈done,∀ r,aP[i]?=some r->k ∉ keys r.nb)->σ k=none
 have step:∀ listed a w i o,InvD listed a w->l.toArray[i]?=some o->i < aP.length->i∈Region.ready .any l.toArray listed->wpOp P l.toArray (QX W0 F N T0 pin Q) i (InvD (listed.setIfInBounds i true)) a w:=by
  rintro listed a w i o ⟨H,done,hdone,hord,σ,T,hT,S,hp,hfresh⟩ ho hi hr
  obtain ⟨r,hri⟩:∃ r,aP[i]?=some r:=⟨_,List.getElem?_eq_getElem hi⟩
  have t:=tab i r hri
  simp only [lX,Bool.and_eq_true] at t
  obtain ⟨⟨⟨⟨⟨t1,t2⟩,_⟩,_⟩,t5⟩,t6⟩:=t
  obtain ⟨hun,o',ho',hallr⟩:=mem_ready.1 hr
  have hoo:o'=o:=Option.some.inj (ho'.symm.trans ho)
  subst hoo
  rw [ho] at t1
  simp only [Bool.and_eq_true] at t1
  have hnot:i ∉ done:=fun hm=>by have:=((hdone i).1 hm).2;rw [getD_both hun] at this;cases this
  have hdst:o'.dst=r.dst/\∀ d,o'.dst=some d->d < N.1:=by
   cases h1:o'.dst with
   |none=>cases h2:r.dst with
    |none=>exact ⟨rfl,fun d h=>by cases h⟩
    |some d=>rw [h1,h2] at t1;cases t1.1
   |some d=>cases h2:r.dst with
    |none=>rw [h1,h2] at t1;cases t1.1
    |some d'=>
     rw [h1,h2] at t1
     simp only [Bool.and_eq_true,Nat.blt_eq] at t1
     obtain rfl:=Nat.eq_of_beq_eq_true t1.1.1
     exact ⟨rfl,fun d'' h=>by injection h with h;subst h;exact t1.1.2⟩
  have hdn:∀ q∈done,q < aP.length:=fun q hq=>((hdone q).1 hq).1
  have hwait:∀ j,j < aP.length->fS l.toArray i j=true->j∈done:=fun j hj hw=>(hdone j).2 ⟨hj,nT H ho hallr hw⟩
  obtain ⟨hsS,hsH⟩:=hsee.get (List.mem_of_getElem? hri)
  have hs:∀ t x,look r.st.s t=some x->look (er st aP done).s t=some x:=fun t x hx=>
   gM done t x _ (hsS.mem (t,x) (bP hx)) (srcOK _ i _ (List.all_eq_true.1 t5 (t,x) (bP hx)) done hord hdn hnot hi hwait)
  have hh:∀ k b,look r.st.h k=some b->look (er st aP done).h k=some b:=fun k b hb=>
   gn done k b _ (hsH.mem (k,b) (bP hb)) (srcOK _ i _ (List.all_eq_true.1 t6 (k,b) (bP hb)) done hord hdn hnot hi hwait)
  have Cr:Core σ T r.st a w:=S.core.sub hs hh
  have fin':∀ σ' T' w' u,Ext σ T w σ' T' w' r.nb r.E->fH σ' T' w' r.v u->InvD (listed.setIfInBounds i true) (a.put o'.dst u) w':=by
   intro σ' T' w' u X hv
   refine ⟨H.set hr hi,i::done,fun j=>?_,⟨hwait,hnot,hord⟩,σ',T',fun b hb=>⟨fun hb'=>(hT b hb).1 (X.grow.na b (Nat.lt_of_lt_of_le hb S.size) hb'),fun h0=>X.oh b ((hT b hb).2 h0)⟩,?_,fun k g hk=>X.grow.σle _ _ (hp k g hk),fun k hk hkn=>?_⟩
   ·rw [List.mem_cons]
    by_cases e:j=i
    ·subst e
     have hsz:j < listed.size:=by rw [H.size];omega
     simp [hi,hsz]
    ·rw [getD_set_ne false (Ne.symm e)]
     simp [e,hdone]
   ·rw [gz hri,hdst.1]
    refine S.step (fun e he=>?_) (fun d hd=>hdst.2 d (hdst.1▸hd)) X hv
    obtain ⟨⟨e',b⟩,hm,rfl⟩:=List.mem_map.1 (fc.1 (List.all_eq_true.1 t2 e he))
    cases hl:look r.h e' with
    |none=>exact absurd hl (kY hm)
    |some b'=>exact ⟨b',hh e' b' hl⟩
   ·rw [X.zn k fun b hb=>hkn i List.mem_cons_self r hri (List.mem_map.2 ⟨(k,b),hb,rfl⟩)]
    exact hfresh k hk fun j hj=>hkn j (List.mem_cons_of_mem _ hj)
  obtain ⟨o2,ho2,hro⟩:=hrows.get hri
  have:o2=o':=by
   have h1:l.toArray[i]?=some o2:=by simpa using ho2
   exact Option.some.inj (h1.symm.trans ho)
  subst this
  rcases hro with ⟨hw,hg⟩|⟨hw,hv,hnb,hE⟩
  ·refine mG ho (hw σ T a w Cr) (me (iZ (hg σ T a w Cr fun k b hk hkE=>?_) ?_))
   ·obtain ⟨_,h1|⟨h1,h2⟩⟩:=nbk i r k hri (List.mem_map.2 ⟨(k,b),hk,rfl⟩)
    ·exact absurd h1 hkE
    ·refine hfresh k h1 fun j hj q hq hkq=>?_
     have hne:j≠i:=fun e=>hnot (e▸hj)
     have hwq:lL aP k j=true:=by
      unfold lL;rw [hq];simp only [Bool.or_eq_true];exact .inr (fc.2 hkq)
     exact hnot (hord.wait hj hi (h2 j (hdn j hj) hne hwq))
   ·rintro a' w' ⟨u,σ',T',rfl,X,hv⟩
    exact fin' σ' T' w' u X hv
  ·refine oS ho (hw σ T a w Cr) (fin' σ T w undef ?_ ?_)
   ·rw [hnb,hE];exact Ext.same S.core.ft
   ·rw [hv];exact ⟨[],rfl,trivial⟩
 have atEnd:∀ listed a w,InvD listed a w->(∀ i,i < aP.length->listed.getD i false=true)->Inv W0 F N T0 pin fin a w:=by
  rintro listed a w ⟨H,done,hdone,hord,σ,T,hT,S,hp,hfresh⟩ hl
  have hdn:∀ q∈done,q < aP.length:=fun q hq=>((hdone q).1 hq).1
  have bZ:∀ q,q < aP.length->q∈done:=fun q hq=>(hdone q).2 ⟨hq,hl q hq⟩
  have hs:∀ t x,look fin.s t=some x->look (er st aP done).s t=some x:=fun t x hx=>
   gM done t x _ (hfin.1.mem (t,x) (bP hx)) (finOK _ _ (List.all_eq_true.1 hfs (t,x) (bP hx)) done hord hdn bZ)
  have hfhx:∀ k b,look fin.h k=some b->k < fin.n/\pB l.toArray aP.length (lL aP k) (kU aP fp k)=true:=fun k b hb=>by
   have:=List.all_eq_true.1 hfh _ (bP hb)
   simpa only [Bool.and_eq_true,Nat.blt_eq] using this
  have hh:∀ k b,look fin.h k=some b->look (er st aP done).h k=some b:=fun k b hb=>
   gn done k b _ (hfin.2.mem (k,b) (bP hb)) (finOK _ _ (hfhx k b hb).2 done hord hdn bZ)
  refine ⟨σ,T,hT,⟨S.core.sub hs hh,S.os,S.tape,S.output,S.size,S.cu,fun k b g hk=>S.own k b g (hh k b hk),fun k hk=>?_,fun k b hk=>(hfhx k b hk).1,S.kM,S.kr⟩,hp⟩
  have hk1:=Nat.le_of_ble_eq_true hfn
  exact hfresh k aa fun i _ r hr hkr=>by have:=(nbk i r k hr hkr).1;omega
 have main:∀ k listed a1 w1,InvD listed a1 w1->iX aP.length listed=k->wpAny P .any l.toArray (QX W0 F N T0 pin Q) k listed a1 w1:=by
  intro k
  induction k with
  |zero=>
   intro listed a1 w1 I hk'
   have hl:∀ i,i < aP.length->listed.getD i false=true:=fun i hi=>by
    have h:=List.eq_nil_of_length_eq_zero hk'
    have h2:=List.filter_eq_nil_iff.1 h i (List.mem_range.2 hi)
    simpa using h2
   have hIf:=atEnd listed a1 w1 I hl
   refine ⟨List.eq_nil_iff_forall_not_mem.2 fun i hi=>?_,fin,hk,hIf⟩
   obtain ⟨h1,o,ho,_⟩:=mem_ready.1 hi
   have hi':i < l.toArray.size:=(Array.getElem?_eq_some_iff.1 ho).1
   have:=hl i aa
   rw [getD_both h1] at this;cases this
  |succ k ih=>
   intro listed a1 w1 I hk'
   have hex:∃ i,i < aP.length/\listed.getD i false=false/\∀ j,j < i->listed.getD j false=true:=by
    have h1:∃ i,i < aP.length/\listed.getD i false=false:=by
     have hne:((List.range aP.length).filter fun i=>!listed.getD i false)≠[]:=fun e=>by unfold iX at hk';rw [e] at hk';cases hk'
     obtain ⟨x,hx⟩:=List.exists_mem_of_ne_nil _ hne
     obtain ⟨hx1,hx2⟩:=List.mem_filter.1 hx
     exact ⟨x,List.mem_range.1 hx1,by simpa using hx2⟩
    obtain ⟨i,hi,hmin⟩:=exists_least h1
    refine ⟨i,hi.1,hi.2,fun j hj=>?_⟩
    cases hjl:listed.getD j false with
    |true=>rfl
    |false=>exact absurd (hmin j ⟨aa,hjl⟩) aa
   obtain ⟨i0,hi0,hun0,hlow⟩:=hex
   have hopi:∀ i,i < aP.length->∃ o,l.toArray[i]?=some o:=fun i hi=>⟨_,Array.getElem?_eq_getElem aa⟩
   have bZ:∀ i,i < aP.length->listed.getD i false=false->listed.getD i true=false:=fun i hi h=>getD_in (by rw [I.1.size];omega) h
   have hready:i0∈Region.ready .any l.toArray listed:=by
    obtain ⟨o,ho⟩:=hopi i0 hi0
    obtain ⟨r,hr⟩:∃ r,aP[i0]?=some r:=⟨_,List.getElem?_eq_getElem hi0⟩
    have t:=tab i0 r hr
    simp only [lX,Bool.and_eq_true] at t
    have t1:=t.1.1.1.1.1
    rw [ho] at t1
    simp only [Bool.and_eq_true] at t1
    refine mem_ready.2 ⟨bZ i0 hi0 hun0,o,ho,fun e he hb=>hlow _ ?_⟩
    have h3:=Array.all_eq_true'.1 t1.2 e he
    simp only [Bool.or_eq_true,Bool.not_eq_true',Nat.blt_eq] at h3
    exact h3.resolve_left (by rw [hb];simp)
   refine ⟨fun h=>(by rw [h] at hready;cases hready),fun i hi=>?_⟩
   have hilt:i < aP.length:=by
    obtain ⟨_,o,ho,_⟩:=mem_ready.1 hi
    have hi':i < l.toArray.size:=(Array.getElem?_eq_some_iff.1 ho).1
    omega
   obtain ⟨o,ho⟩:=hopi i hilt
   refine wpOp_mono (fun a' w' I'=>ih _ a' w' I' ?_) (step listed a1 w1 i o I ho hilt hi)
   have hunl:=getD_both (mem_ready.1 hi).1
   have hset:(listed.setIfInBounds i true).getD i false=true:=by
    have:i < listed.size:=by rw [I.1.size];omega
    simp [this]
   have:=count_set (p:=fun j=>!listed.getD j false) (q:=fun j=>!(listed.setIfInBounds i true).getD j false) (i:=i) (by simp only [hunl];rfl) (by simp only [hset];rfl)
    (fun j hj=>by simp only [getD_set_ne false (Ne.symm hj)]) (List.range aP.length) List.nodup_range (List.mem_range.2 hilt)
   unfold iX at hk' ⊢
   omega
 refine wp_region_any hm ?_
 have inv0:HeadInv .any l.toArray aP.length (Array.replicate l.toArray.size false):=
  ⟨ca,fun j oj _ hl=>(by rw [getD_replicate_false] at hl;cases hl),fun t _ ht=>getD_in (by simpa using ht) (getD_replicate_false _ _)⟩
 have hw0:pn W0 F N σ0 T1 st a {w with drawn:=w.drawn+1}:=
  ⟨S0.core.drew,S0.os,S0.tape,S0.output,S0.size,S0.cu,S0.own,S0.next,S0.hn,S0.kM,S0.kr⟩
 have I0:InvD (Array.replicate l.toArray.size false) a {w with drawn:=w.drawn+1}:=
  ⟨inv0,[],fun i=>by rw [getD_replicate_false];simp,trivial,σ0,T1,hT1,hw0,hp0,fun k hk _=>S0.next k hk⟩
 have:=main aP.length _ a _ I0 (by
  unfold iX
  rw [List.filter_eq_self.2 (fun i _=>by rw [getD_replicate_false];rfl),List.length_range])
 rw [hlen] at this
 exact this
end
end

structure ch where (aA au sum time:Int)
 deriving DecidableEq
structure dh where (time sum:Int)
 deriving DecidableEq
structure aZ where (number kind ba sum:Int)
 deriving DecidableEq
structure Entry where (aW sum:Int)
 deriving DecidableEq
structure ar where (au ba kind sum:Int)
 deriving DecidableEq
structure ff where (cw count sum:Int)
 deriving DecidableEq
structure cM where (err at_:Int)
 deriving DecidableEq
structure bF where (bB held:Int) (bJ:ff) (cO:List dh)
 deriving DecidableEq
structure bK where (bj:Int) (kept:List aZ)
 deriving DecidableEq
def rI (n:Int):List D:=[dI n]
def lO (n:Int):List D:=[.v (.int .u8 n)]
def iS (x:ch):List D:=[dI x.aA,dI x.au,dI x.sum,dI x.time]
def iv (x:dh):List D:=[dI x.time,dI x.sum]
def fA (x:aZ):List D:=[dI x.number,dI x.kind,dI x.ba,dI x.sum]
def fy (x:Entry):List D:=[dI x.aW,dI x.sum]
def dD (x:ar):List D:=[dI x.au,dI x.ba,dI x.kind,dI x.sum]
def xJ (l:List dh):List D:=[.r 2 (l.map iv)]
theorem Ia (l:List Int):∀ row∈l.map rI,∀ d∈row,d.oY=true:=by
 intro row hr d hd
 obtain ⟨x,_,rfl⟩:=List.mem_map.1 hr
 simp [rI] at hd
 subst hd;rfl
theorem Bm (l:List Int):∀ row∈l.map lO,∀ d∈row,d.oY=true:=by
 intro row hr d hd
 obtain ⟨x,_,rfl⟩:=List.mem_map.1 hr
 simp [lO] at hd
 subst hd;rfl
theorem Fa (l:List dh):∀ row∈l.map iv,∀ d∈row,d.oY=true:=by
 intro row hr d hd
 obtain ⟨x,_,rfl⟩:=List.mem_map.1 hr
 simp [iv] at hd
 rcases hd with rfl|rfl<;>rfl
theorem xz (l:List aZ):∀ row∈l.map fA,∀ d∈row,d.oY=true:=by
 intro row hr d hd
 obtain ⟨x,_,rfl⟩:=List.mem_map.1 hr
 simp [fA] at hd
 rcases hd with rfl|rfl|rfl|rfl<;>rfl
theorem va (l:List Entry):∀ row∈l.map fy,∀ d∈row,d.oY=true:=by
 intro row hr d hd
 obtain ⟨x,_,rfl⟩:=List.mem_map.1 hr
 simp [fy] at hd
 rcases hd with rfl|rfl<;>rfl
theorem Ae (l:List ar):∀ row∈l.map dD,∀ d∈row,d.oY=true:=by
 intro row hr d hd
 obtain ⟨x,_,rfl⟩:=List.mem_map.1 hr
 simp [dD] at hd
 rcases hd with rfl|rfl|rfl|rfl<;>rfl
def aT (n:Int):Bool:=decide (n>=0) && decide (n<=1000000)
structure bG where (aA au sum captured bd aX da:Int) (shut:Bool)
 deriving DecidableEq
def kA:bG:=⟨0,0,0,0,0,0,0,false⟩
def bI (a:bG):Int:=
 if a.sum < 0\/a.sum > 1000000\/a.captured < 0\/a.captured > 1000000\/a.bd < 0\/a.bd > 1000000\/a.aX < 0\/a.aX > 1000000\/a.aA < 0\/a.aA > 7\/a.au < 0\/a.au > 7\/a.da < 0\/a.da > 1000100 then 3
 else if a.sum < a.captured\/a.captured < a.bd+a.aX then 8 else 0
def dm (aA au n time:Int):bG×Int:=
 if n < 1\/n > 1000000\/time < 0\/time > 1000000\/aA < 0\/aA > 7\/au < 0\/au > 7 then (kA,3) else (⟨aA,au,n,0,0,0,time+100,false⟩,0)
def bE (a:bG):Int:=if a.shut=true then 0 else a.sum - a.captured
def dF (a:bG) (t:Int):bG:=⟨a.aA,a.au,a.sum,a.captured,a.bd,a.aX,a.da,a.shut||decide (a.da<=t)⟩
def eK (a:bG) (kind n:Int):bG×Int:=
 if a.shut=true then (a,9)
 else if kind=1 then (if n > 1000000 - a.sum then (a,4) else (⟨a.aA,a.au,a.sum+n,a.captured,a.bd,a.aX,a.da,false⟩,0))
 else if n > a.sum - a.captured then (a,10)
 else if kind=4 then (⟨a.aA,a.au,a.sum - n,a.captured,a.bd,a.aX,a.da,decide (a.sum - n=a.captured)⟩,0)
 else (⟨a.aA,a.au,a.sum,a.captured+n,a.bd,a.aX,a.da,decide (kind=3)||decide (a.captured+n=a.sum)⟩,0)
def bV (a:bG) (kind n:Int):bG×Int:=
 if bI a≠0 then (kA,bI a)
 else if kind < 1\/kind > 8 then (kA,1)
 else if n < 1\/n > 1000000 then (kA,3)
 else if kind=5 then (if n > a.captured - a.bd - a.aX then (kA,10) else (⟨a.aA,a.au,a.sum,a.captured,a.bd+n,a.aX,a.da,a.shut⟩,0))
 else if kind=6 then (if n > a.captured - a.bd - a.aX then (kA,10) else (⟨a.aA,a.au,a.sum,a.captured,a.bd,a.aX+n,a.da,a.shut⟩,0))
 else if kind=7 then (if n > a.aX then (kA,10) else (⟨a.aA,a.au,a.sum,a.captured,a.bd+n,a.aX - n,a.da,a.shut⟩,0))
 else if kind=8 then (if n > a.aX then (kA,10) else (⟨a.aA,a.au,a.sum,a.captured,a.bd,a.aX - n,a.da,a.shut⟩,0))
 else if (eK a kind n).2≠0 then (kA,(eK a kind n).2) else eK a kind n
theorem dA {a:bG} (h:bI a=0):0<=a.sum/\a.sum<=1000000/\0<=a.captured/\a.captured<=a.sum/\0<=a.bd/\0<=a.aX/\a.bd+a.aX<=a.captured/\0<=a.aA/\a.aA<=7/\0<=a.au/\a.au<=7/\0<=a.da/\a.da<=1000100:=by
 unfold bI at h
 split at h
 ·cases h
 ·split at h
  ·cases h
  ·omega
theorem uP {a:bG} (h:0<=a.sum/\a.sum<=1000000/\0<=a.captured/\a.captured<=a.sum/\0<=a.bd/\0<=a.aX/\a.bd+a.aX<=a.captured/\0<=a.aA/\a.aA<=7/\0<=a.au/\a.au<=7/\0<=a.da/\a.da<=1000100):bI a=0:=by
 unfold bI
 rw [if_neg aa,if_neg aa]
inductive mT (a:bG) (kind n:Int):bG->Prop
 |more (h:kind=1) (hs:a.shut=false) (hn:n<=1000000 - a.sum):mT a kind n ⟨a.aA,a.au,a.sum+n,a.captured,a.bd,a.aX,a.da,false⟩
 |take (h:kind=2\/kind=3) (hs:a.shut=false) (hn:n<=a.sum - a.captured):mT a kind n ⟨a.aA,a.au,a.sum,a.captured+n,a.bd,a.aX,a.da,decide (kind=3)||decide (a.captured+n=a.sum)⟩
 |less (h:kind=4) (hs:a.shut=false) (hn:n<=a.sum - a.captured):mT a kind n ⟨a.aA,a.au,a.sum - n,a.captured,a.bd,a.aX,a.da,decide (a.sum - n=a.captured)⟩
 |yq (h:kind=5) (hn:n<=a.captured - a.bd - a.aX):mT a kind n ⟨a.aA,a.au,a.sum,a.captured,a.bd+n,a.aX,a.da,a.shut⟩
 |vZ (h:kind=6) (hn:n<=a.captured - a.bd - a.aX):mT a kind n ⟨a.aA,a.au,a.sum,a.captured,a.bd,a.aX+n,a.da,a.shut⟩
 |vW (h:kind=7) (hn:n<=a.aX):mT a kind n ⟨a.aA,a.au,a.sum,a.captured,a.bd+n,a.aX - n,a.da,a.shut⟩
 |vV (h:kind=8) (hn:n<=a.aX):mT a kind n ⟨a.aA,a.au,a.sum,a.captured,a.bd,a.aX - n,a.da,a.shut⟩
theorem qP {a:bG} {kind n:Int} {b:bG} {e:Int} (h:bV a kind n=(b,e)):(e≠0/\b=kA)\/(e=0/\bI a=0/\1<=n/\n<=1000000/\mT a kind n b):=by
 unfold bV at h
 split at h
 ·rename_i h1;injection h with h2 h3;exact .inl ⟨h3▸h1,h2.symm⟩
 rename_i h1
 have h1:bI a=0:=aa
 split at h
 ·injection h with h2 h3;exact .inl ⟨aa,h2.symm⟩
 split at h
 ·injection h with h2 h3;exact .inl ⟨aa,h2.symm⟩
 split at h
 ·split at h
  ·injection h with h2 h3;exact .inl ⟨aa,h2.symm⟩
  ·injection h with h2 h3;subst h2;exact .inr ⟨h3.symm,h1,aa,aa,.yq aa aa⟩
 split at h
 ·split at h
  ·injection h with h2 h3;exact .inl ⟨aa,h2.symm⟩
  ·injection h with h2 h3;subst h2;exact .inr ⟨h3.symm,h1,aa,aa,.vZ aa aa⟩
 split at h
 ·split at h
  ·injection h with h2 h3;exact .inl ⟨aa,h2.symm⟩
  ·injection h with h2 h3;subst h2;exact .inr ⟨h3.symm,h1,aa,aa,.vW aa aa⟩
 split at h
 ·split at h
  ·injection h with h2 h3;exact .inl ⟨aa,h2.symm⟩
  ·injection h with h2 h3;subst h2;exact .inr ⟨h3.symm,h1,aa,aa,.vV aa aa⟩
 split at h
 ·rename_i h4;injection h with h2 h3;exact .inl ⟨h3▸h4,h2.symm⟩
 ·rename_i h4
  unfold eK at h h4
  split at h
  ·rename_i h5;rw [if_pos h5] at h4;simp at h4
  rename_i h5
  rw [if_neg h5] at h4
  have h5:a.shut=false:=by simpa using h5
  split at h
  ·rename_i h6;rw [if_pos h6] at h4
   split at h
   ·rename_i h7;rw [if_pos h7] at h4;simp at h4
   ·injection h with h2 h3;subst h2;exact .inr ⟨h3.symm,h1,aa,aa,.more aa h5 aa⟩
  rename_i h6;rw [if_neg h6] at h4
  split at h
  ·rename_i h7;rw [if_pos h7] at h4;simp at h4
  split at h
  ·injection h with h2 h3;subst h2;exact .inr ⟨h3.symm,h1,aa,aa,.less aa h5 aa⟩
  ·injection h with h2 h3;subst h2;exact .inr ⟨h3.symm,h1,aa,aa,.take aa h5 aa⟩
theorem Ad {a b:bG} {kind n:Int} (h:bI a=0) (h1:1<=n) (h2:n<=1000000) (hm:mT a kind n b):bI b=0:=by
 have hr:=dA h
 cases hm<;>exact uP (by dsimp only;omega)
theorem nz {a b:bG} (h1:a.aA=b.aA) (h2:a.au=b.au) (h3:a.sum=b.sum) (h4:a.captured=b.captured) (h5:a.bd=b.bd) (h6:a.aX=b.aX) (h7:a.da=b.da) (h8:a.shut=b.shut):a=b:=by
 cases a;cases b;simp_all
theorem tj {a b:bG} {kind n:Int} (h:bV a kind n=(b,0)):bI b=0/\b.aA=a.aA/\b.au=a.au/\b.da=a.da/\(a.shut=true->b.shut=true)/\0<=b.sum - b.captured/\b.bd+b.aX<=b.captured/\a.captured<=b.captured/\a.bd<=b.bd:=by
 rcases qP h with ⟨h1,_⟩|⟨_,hw,h1,h2,hm⟩
 ·exact absurd rfl h1
 have hb:=Ad hw h1 h2 hm
 have hr:=dA hw
 have hrb:=dA hb
 cases hm<;>refine ⟨hb,rfl,rfl,rfl,?_⟩<;>simp_all<;>omega
theorem pc {α:Type} {l:List α} {q:Nat} {x:α} (h:l[q]?=some x):l.drop q=x::l.drop (q+1):=by
 obtain ⟨hq,rfl⟩:=List.getElem?_eq_some_iff.1 h
 exact List.drop_eq_getElem_cons hq
theorem gh {α:Type} {l:List α} {q:Nat} {x:α} (h:l[q]?=some x):l.take (q+1)=l.take q++[x]:=by
 obtain ⟨hq,rfl⟩:=List.getElem?_eq_some_iff.1 h
 exact List.take_succ_eq_append_getElem hq
structure cT where (cap:Int) (used:List Int) (aH:List ch)
 deriving DecidableEq

def gY (n:Int):Bool:=decide (0<=n/\n<=1000000)
def gb (ak:Nat) (a:ch):Bool:=
 decide (0<=a.aA/\a.aA < ak/\0<=a.au/\a.au<=7/\1<=a.sum/\a.sum<=1000000/\0<=a.time/\a.time<=1000000)
def given (k:Int):List ch->Int
 |[]=>0
 |a::l=>(if a.aA=k then a.sum else 0)+given k l
def fC (cap:Int) (advs:List ch):Int->List Int->Int
 |_,[]=>0
 |k,n::l=>if n=given k advs/\n<=cap then fC cap advs (k+1) l else 8
def cj (s:cT):Int:=
 if 8 < s.used.length\/20 < s.aH.length then 5
 else if ¬gY s.cap then 3
 else if ¬s.aH.all (gb s.used.length) then 3
 else fC s.cap s.aH 0 s.used
def iB:cT:={cap:=0,used:=[],aH:=[]}
def eL (limit ak:Int):cT×Int:=
 if ak < 0\/8 < ak then (iB,5) else if ¬gY limit then (iB,3) else ({cap:=limit,used:=List.replicate ak.toNat 0,aH:=[]},0)
def cC (s:cT) (a:ch):cT×Int:=
 if cj s≠0 then (iB,cj s)
 else if 20<=s.aH.length then (iB,5)
 else if ¬gb s.used.length a then (iB,3)
 else if s.cap < s.used.getD a.aA.toNat 0+a.sum then (iB,10)
 else ({cap:=s.cap,used:=s.used.set a.aA.toNat (s.used.getD a.aA.toNat 0+a.sum),aH:=s.aH++[a]},0)
def dN (s:cT):cT×List ch×Int:=
 if cj s≠0 then (iB,[],cj s) else ({cap:=s.cap,used:=List.replicate s.used.length 0,aH:=[]},s.aH,0)

theorem lr (k:Int) (l:List ch) (a:ch):given k (l++[a])=given k l+if a.aA=k then a.sum else 0:=by
 induction l with
 |nil=>simp [given]
 |cons x l ih=>simp only [List.cons_append,given,ih];omega
theorem pW (c:Nat) (k:Int) (l:List ch) (h:l.all (gb c)=true):0<=given k l/\given k l<=1000000 * l.length:=by
 induction l with
 |nil=>simp [given]
 |cons x l ih=>
  simp only [List.all_cons,Bool.and_eq_true,gb,decide_eq_true_eq] at h
  have:=ih h.2
  simp only [given,List.length_cons]
  split<;>omega
theorem FY {α:Type} (p:α->Bool) (l:List α) (n:Nat) (h:l.all p=true):(l.take n).all p=true:=by
 rw [List.all_eq_true] at h ⊢
 exact fun x hx=>h x (List.mem_of_mem_take hx)
theorem Eo {α:Type} {p:α->Bool} {l:List α} {q:Nat} {x:α} (h:l[q]?=some x) (hx:p x=false):l.all p=false:=by
 rw [List.all_eq_false]
 exact ⟨x,List.mem_of_getElem? h,by simp [hx]⟩
theorem we {α:Type} {p:α->Bool} {l:List α} {q:Nat} {x:α} (ht:(l.take q).all p=true) (h:l[q]?=some x) (hx:p x=true):(l.take (q+1)).all p=true:=by
 rw [gh h,List.all_append,ht];simp [hx]
theorem oQ {s:cT} (h:8 < s.used.length\/20 < s.aH.length):cj s=5:=by unfold cj;rw [if_pos h]
theorem nc {s:cT} (h:¬(8 < s.used.length\/20 < s.aH.length)) (hc:gY s.cap=false):cj s=3:=by unfold cj;rw [if_neg h,hc];rfl
theorem lg {s:cT} (h:¬(8 < s.used.length\/20 < s.aH.length)) (hc:gY s.cap=true) (ha:s.aH.all (gb s.used.length)=false):cj s=3:=by
 unfold cj;rw [if_neg h,hc,ha];rfl
theorem gR {s:cT} (h:¬(8 < s.used.length\/20 < s.aH.length)) (hc:gY s.cap=true) (ha:s.aH.all (gb s.used.length)=true):cj s=fC s.cap s.aH 0 s.used:=by
 unfold cj;rw [if_neg h,hc,ha];rfl


theorem jV (cap:Int) (advs:List ch):∀ (l:List Int) (k:Int),fC cap advs k l=0↔∀ (i:Nat) (x:Int),l[i]?=some x->x=given (k+i) advs/\x<=cap
 |[],k=>by simp [fC]
 |n::l,k=>by
  rw [fC]
  constructor
  ·intro h i x hx
   split at h
   ·rename_i hc
    rcases i with _|i
    ·simp at hx;subst hx;simpa using hc
    ·have:=(jV cap advs l (k+1)).1 h i x (by simpa using hx)
     rw [show k+((i+1:Nat):Int)=k+1+i by omega];exact this
   ·cases h
  ·intro h
   rw [if_pos (by simpa using h 0 n rfl)]
   exact (jV cap advs l (k+1)).2 fun i x hx=>by
    have:=h (i+1) x (by simpa using hx)
    rwa [show k+((i+1:Nat):Int)=k+1+i by omega] at this
theorem tm (cap:Int) (advs:List ch):∀ (l:List Int) (k:Int),fC cap advs k l=0\/fC cap advs k l=8
 |[],_=>.inl rfl
 |n::l,k=>by
  rw [fC]
  split
  ·exact tm cap advs l (k+1)
  ·exact .inr rfl
theorem jt {s:cT} (h:cj s=0):s.used.length<=8/\s.aH.length<=20/\gY s.cap=true/\s.aH.all (gb s.used.length)=true/\fC s.cap s.aH 0 s.used=0:=by
 by_cases h1:8 < s.used.length\/20 < s.aH.length
 ·rw [oQ h1] at h;omega
 ·cases hc:gY s.cap with
  |false=>rw [nc h1 hc] at h;omega
  |true=>
   cases ha:s.aH.all (gb s.used.length) with
   |false=>rw [lg h1 hc ha] at h;omega
   |true=>rw [gR h1 hc ha] at h;exact ⟨aa,aa,rfl,rfl,h⟩
theorem yP {s:cT} {a:ch} (h:cj s=0) (hm:s.aH.length < 20) (ha:gb s.used.length a=false) (u:List Int) (hu:u.length=s.used.length):cj {cap:=s.cap,used:=u,aH:=s.aH++[a]}=3:=by
 obtain ⟨h1,h2,h3,h4,h5⟩:=jt h
 exact lg (by simp only [List.length_append,List.length_singleton];omega) h3 (by simp [hu,ha])
theorem Fg {s:cT} {a:ch} (h:cj s=0) (hm:s.aH.length < 20) (ha:gb s.used.length a=true):
  cj {cap:=s.cap,used:=s.used.set a.aA.toNat (s.used.getD a.aA.toNat 0+a.sum),aH:=s.aH++[a]}=if s.cap < s.used.getD a.aA.toNat 0+a.sum then 8 else 0:=by
 obtain ⟨h1,h2,h3,h4,h5⟩:=jt h
 have hok:=ha
 simp only [gb,decide_eq_true_eq] at hok
 have hlt:a.aA.toNat < s.used.length:=aa
 have hgx:s.used[a.aA.toNat]?=some s.used[a.aA.toNat]:=List.getElem?_eq_getElem hlt
 have hgd:s.used.getD a.aA.toNat 0=s.used[a.aA.toNat]:=by simp [hlt]
 have hu:(s.used.set a.aA.toNat (s.used.getD a.aA.toNat 0+a.sum)).length=s.used.length:=List.length_set
 have h6:cj {cap:=s.cap,used:=s.used.set a.aA.toNat (s.used.getD a.aA.toNat 0+a.sum),aH:=s.aH++[a]}=fC s.cap (s.aH++[a]) 0 (s.used.set a.aA.toNat (s.used.getD a.aA.toNat 0+a.sum)):=by
  refine gR ?_ h3 ?_
  ·simp only [List.length_append,List.length_singleton,hu];omega
  ·simp only [hu,List.all_append,h4,List.all_cons,ha,List.all_nil];rfl
 rw [h6]
 have key:=(jV s.cap s.aH s.used 0).1 h5
 by_cases hc:s.cap < s.used.getD a.aA.toNat 0+a.sum
 ·rw [if_pos hc]
  rcases tm s.cap (s.aH++[a]) (s.used.set a.aA.toNat (s.used.getD a.aA.toNat 0+a.sum)) 0 with h0|h0
  ·have:=(jV _ _ _ _).1 h0 a.aA.toNat (s.used.getD a.aA.toNat 0+a.sum) (by simp [hlt])
   omega
  ·exact h0
 ·rw [if_neg hc]
  refine (jV _ _ _ _).2 fun i x hx=>?_
  rw [List.getElem?_set] at hx
  rw [lr]
  by_cases e:a.aA.toNat=i
  ·rw [if_pos e,if_pos aa] at hx
   injection hx with hx
   have:=key i s.used[a.aA.toNat] (by rw [<-e];exact hgx)
   rw [if_pos aa]
   omega
  ·rw [if_neg e] at hx
   have:=key i x hx
   rw [if_neg aa]
   omega

theorem oA {s:cT} {a:ch} (h:cj s=0) (hm:s.aH.length < 20):
  (cj {cap:=s.cap,used:=s.used.set a.aA.toNat (s.used.getD a.aA.toNat 0+a.sum),aH:=s.aH++[a]}=3/\cC s a=(iB,3))\/
  (cj {cap:=s.cap,used:=s.used.set a.aA.toNat (s.used.getD a.aA.toNat 0+a.sum),aH:=s.aH++[a]}=8/\cC s a=(iB,10))\/
  (cj {cap:=s.cap,used:=s.used.set a.aA.toNat (s.used.getD a.aA.toNat 0+a.sum),aH:=s.aH++[a]}=0/\
   cC s a=({cap:=s.cap,used:=s.used.set a.aA.toNat (s.used.getD a.aA.toNat 0+a.sum),aH:=s.aH++[a]},0)):=by
 cases ha:gb s.used.length a with
 |false=>exact .inl ⟨yP h hm ha _ List.length_set,by unfold cC;rw [if_neg (by simp [h]),if_neg aa,ha];rfl⟩
 |true=>
  rw [Fg h hm ha]
  by_cases hc:s.cap < s.used.getD a.aA.toNat 0+a.sum
  ·exact .inr (.inl ⟨if_pos hc,by unfold cC;rw [if_neg (by simp [h]),if_neg aa,if_neg (by simp [ha]),if_pos hc]⟩)
  ·exact .inr (.inr ⟨if_neg hc,by unfold cC;rw [if_neg (by simp [h]),if_neg aa,if_neg (by simp [ha]),if_neg hc]⟩)
theorem uc {s:cT} {a:ch} (h:cj s=0) (hm:s.aH.length < 20) (ha:¬(0<=a.aA/\a.aA < s.used.length/\1<=a.sum/\a.sum<=1000000)):
  cj {cap:=s.cap,used:=s.used,aH:=s.aH++[a]}=3/\cC s a=(iB,3):=by
 have ha:gb s.used.length a=false:=by simp only [gb,decide_eq_false_iff_not];omega
 exact ⟨yP h hm ha _ rfl,by unfold cC;rw [if_neg (by simp [h]),if_neg aa,ha];rfl⟩
theorem vg {s:cT} {a:ch} (h:cj s≠0):cC s a=(iB,cj s):=by unfold cC;rw [if_pos h]
theorem xc {s:cT} {a:ch} (h:cj s=0) (hm:s.aH.length=20):cC s a=(iB,5):=by unfold cC;rw [if_neg (by simp [h]),if_pos aa]
theorem oo {s:cT} (h:cj s=0) {i:Nat} {x:Int} (hx:s.used[i]?=some x):0<=x/\x<=1000000:=by
 obtain ⟨h1,h2,h3,h4,h5⟩:=jt h
 have:=(jV s.cap s.aH s.used 0).1 h5 i x hx
 have hg:=pW s.used.length (0+i) s.aH h4
 simp only [gY,decide_eq_true_eq] at h3
 omega

theorem xy {l c:Int} (h:c < 0\/8 < c):eL l c=(iB,5):=by unfold eL;rw [if_pos h]
theorem vQ {l c:Int} (h:¬(c < 0\/8 < c)) (h':¬(0<=l/\l<=1000000)):eL l c=(iB,3):=by unfold eL;rw [if_neg h,if_pos (by simpa [gY] using h')]
theorem pV {l:Int} {c:Nat} (h:c<=8) (h':0<=l/\l<=1000000):eL l c=({cap:=l,used:=List.replicate c 0,aH:=[]},0):=by
 unfold eL;rw [if_neg aa,if_neg (by simpa [gY] using h')];simp

theorem Cg {s:cT} {a:ch} (h:cj s=0) (hg:(cC s a).2=0):
  cj (cC s a).1=0/\(cC s a).1.cap=s.cap/\(cC s a).1.used.length=s.used.length/\(cC s a).1.aH=s.aH++[a]/\s.aH.length < 20:=by
 have hp:=jt h
 by_cases hm:s.aH.length=20
 ·rw [xc h hm] at hg;cases hg
 ·have hm:s.aH.length < 20:=aa
  rcases oA (a:=a) h hm with ⟨_,h2⟩|⟨_,h2⟩|⟨h1,h2⟩
  ·rw [h2] at hg;cases hg
  ·rw [h2] at hg;cases hg
  ·rw [h2];exact ⟨h1,rfl,List.length_set,rfl,hm⟩
theorem wO (l:Int) (n:Nat) (hn:n<=8) (h0:0<=l) (h1:l<=1000000):cj {cap:=l,used:=List.replicate n 0,aH:=[]}=0:=by
 rw [gR fa (by simp [gY];omega) ca]
 refine (jV _ _ _ _).2 fun i x hx=>?_
 obtain ⟨_,rfl⟩:=List.getElem?_eq_some_iff.1 hx
 simp [given];omega


def lj (n:Nat) (l:List ch):List Int:=(List.range n).map fun (k:Nat)=>given (k:Int) l
theorem ew (n:Nat) (l:List ch):(lj n l).length=n:=by simp [lj]
theorem Db (n:Nat):List.replicate n 0=lj n []:=by simp [lj,given,List.map_const']
theorem wx {n:Nat} {l:List ch} {i:Nat} {x:Int} (h:(lj n l)[i]?=some x):x=given (i:Int) l:=by
 simp only [lj,List.getElem?_map,Option.map_eq_some_iff] at h
 obtain ⟨k,hk,rfl⟩:=h
 obtain ⟨h1,rfl⟩:=List.getElem?_eq_some_iff.1 hk
 simp
theorem Da {n:Nat} {l:List ch} {a:ch} {i:Nat} {v:Int} (h0:a.aA=(i:Int)) (h1:i < n) (hv:v=given a.aA l+a.sum):(lj n l).set i v=lj n (l++[a]):=by
 apply List.ext_getElem?
 intro j
 rw [List.getElem?_set]
 simp only [lj,List.length_map,List.length_range,List.getElem?_map,lr]
 by_cases hj:j < n
 ·rw [List.getElem?_range hj,Option.map_some,Option.map_some]
  by_cases e:i=j
  ·rw [if_pos e,if_pos h1,if_pos aa,hv,h0,e]
  ·rw [if_neg e,if_neg aa,Int.add_zero]
 ·rw [if_neg aa,List.getElem?_eq_none (by simpa using hj)]
  rfl
structure bW where (id kind n au move sum:Int)
 deriving DecidableEq
structure Answer where (err ba:Int)
 deriving DecidableEq
structure bL where (bD:aZ) (seen:Int)
 deriving DecidableEq
def nD (x:bF):List D:=[dI x.bB,dI x.held,dI x.bJ.cw,dI x.bJ.count,dI x.bJ.sum,.r 2 (x.cO.map iv)]
def jm (x:bG):List D:=[dI x.aA,dI x.au,dI x.sum,dI x.captured,dI x.bd,dI x.aX,dI x.da,dB x.shut]
def eG (x:bL):List D:=[dI x.bD.number,dI x.bD.kind,dI x.bD.ba,dI x.bD.sum,dI x.seen]
def ib (x:Answer):List D:=[dI x.err,dI x.ba]
def ek (x:bW):List D:=[dI x.id,dI x.kind,dI x.n,dI x.au,dI x.move,dI x.sum]
def gE (x:ff):List D:=[dI x.cw,dI x.count,dI x.sum]
def pT (x:List Int):List D:=[.r 1 (x.map lO)]
theorem DI (l:List bG):∀ row∈l.map jm,∀ d∈row,d.oY=true:=by
 intro row hr d hd
 obtain ⟨x,_,rfl⟩:=List.mem_map.1 hr
 simp only [jm,List.mem_cons,List.not_mem_nil,or_false] at hd
 rcases hd with rfl|rfl|rfl|rfl|rfl|rfl|rfl|rfl<;>rfl

def dt (l:List Int):CV:=cR 1 (l.map rI)
def dR (l:List Int):AB:=.arr 3 1 (l.map rI)
def eF (l:List dh):CV:=cR 2 (l.map iv)
def Br (l:List dh):D:=.r 2 (l.map iv)
def nP (l:List dh):AB:=.arr 124 2 (l.map iv)
def eo (l:List ch):CV:=cR 4 (l.map iS)
def BB (l:List ch):AB:=.arr 95 4 (l.map iS)
def bX (l:List aZ):CV:=cR 4 (l.map fA)
def vF (l:List aZ):AB:=.arr 85 4 (l.map fA)
def cE (l:List Entry):CV:=cR 2 (l.map fy)
def mZ (l:List Entry):AB:=.arr 105 2 (l.map fy)
def eZ (l:List ar):CV:=cR 4 (l.map dD)
def cX (l:List ar):AB:=.arr 103 4 (l.map dD)
def jA (l:List bF):CV:=cR 6 (l.map nD)
def dS (l:List bF):AB:=.arr 63 6 (l.map nD)
def iQ (l:List bG):CV:=cR 8 (l.map jm)
def ec (l:List bG):AB:=.arr 81 8 (l.map jm)
def dj (l:List bL):CV:=cR 5 (l.map eG)
def jY (l:List bL):AB:=.arr 87 5 (l.map eG)
def CS (l:List Answer):CV:=cR 2 (l.map ib)
def tC (l:List Answer):AB:=.arr 53 2 (l.map ib)
def kR (l:List bW):CV:=cR 6 (l.map ek)
def Mi (l:List bW):AB:=.arr 69 6 (l.map ek)
def CU (l:List Int):CV:=cR 1 (l.map lO)
def xu (l:List Int):AB:=.arr 5 1 (l.map lO)
def js (l:List (List Int)):CV:=cR 1 (l.map pT)
def mY (l:List (List Int)):AB:=.arr 82 1 (l.map pT)
end Go.Proofs.YtnfopdlnboeheaaGreat.Dev
