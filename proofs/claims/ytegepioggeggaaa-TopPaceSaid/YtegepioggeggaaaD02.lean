/- A part of the proof: Sh12, Opn, Sh13, Sh14, Sh15, Dat, PlAuth, PlStand, Dat2, Abb, Ty, Sh16. No condition. -/
import Derived.Test.YtegepioggeggaaaD01
import Derived.Lib.SmallJoins
import Derived.Test.YtegepioggeggaaaProg
set_option linter.unusedVariables false
set_option linter.unusedSimpArgs false
namespace Go.Proofs.Ytegepioggeggaaa.Dev
open Go.RowKit
open Go.RowKit Go.ChangeShapes Go.WideShapes Go.Deep Go.Joins
section

section
variable {P:Program} {st:aF} {o:Oper}
theorem cL.fl {σ:Nat->Option bM} {T T':Nat->Prop} {w:World} (h:∀ b,T' b->T b) {x:CV} {v:Value} (hx:cL σ T w x v):cL σ T' w x v:=by
 cases x with
 |any=>trivial
 |d x=>exact bq.fl h hx
 |p k i K o=>exact hx
 |q row o=>
  obtain ⟨b,off,h1,h2,h3,h4⟩:=hx
  refine ⟨b,off,h1,h2,fun hb=>h3 (h b hb),fun j d hj=>?_⟩
  obtain ⟨u,hu,hr⟩:=h4 j d hj
  exact ⟨u,hu,hr.fl h⟩
 |s k i K n=>exact hx
 |sx k i K n c e=>exact hx
 |m k=>exact hx
 |fn f bd=>exact hx
theorem dh.fl {σ:Nat->Option bM} {T T':Nat->Prop} {w:World} (h:∀ b,T' b->T b) {x:GV} {v:Value} (hx:dh σ T w x v):dh σ T' w x v:=by
 cases x with
 |c x=>exact cL.fl h (x:=x) hx
 |g xs=>obtain ⟨vs,h1,h2⟩:=hx;exact ⟨vs,h1,h2.mono fun _ _ hh=>hh.fl h⟩
theorem db.fl {σ:Nat->Option bM} {T T':Nat->Prop} {w:World} (h:∀ b,T' b->T b) {og:Option bM} (bL:∀ g,og=some g->T g.g->T' g.g) {b:AB} (hx:db σ T w og b):db σ T' w og b:=by
 cases b with
 |box t cs=>obtain ⟨g,vs,h1,h2,h3,h4⟩:=hx;exact ⟨g,vs,h1,bL g h1 h2,h3,h4.mono fun _ _ hh=>hh.fl h⟩
 |arr t K rows=>
  refine ⟨hx.1,?_⟩
  rcases hx.2 with h1|⟨g,vs,h1,h2,h3,h4,h5,h6⟩
  ·exact .inl h1
  ·exact .inr ⟨g,vs,h1,bL g h1 h2,h3,h4,h5,h6.1,fun i row hi=>⟨(h6.2 i row hi).1,fun j d hj=>by
    obtain ⟨u,hu,hr⟩:=(h6.2 i row hi).2 j d hj
    exact ⟨u,hu,hr.fl h⟩⟩⟩
 |map es cl=>obtain ⟨g,ms,h1,h2,h3⟩:=hx;exact ⟨g,ms,h1,bL g h1 h2,h3⟩
theorem cL.up {σ : Nat → Option bM} {T : Nat → Prop} {w : World} {x : CV} {v : Value} (hx : cL (fun _ => none) T w x v) : cL σ T w x v := by
  cases x with
  | any => trivial
  | d x => exact hx
  | p k i K o => obtain ⟨g, h, _⟩ := hx; cases h
  | q row o => exact hx
  | s k i K n => rcases hx with h | ⟨g, h, _⟩
                 · exact .inl h
                 · cases h
  | sx k i K n c e => obtain ⟨g, off, h, _⟩ := hx; cases h
  | m k => obtain ⟨g, h, _⟩ := hx; cases h
  | fn f bd =>
    obtain ⟨gs, h1, h2⟩ := hx
    cases bd with
    | nil => cases gs with
      | nil => exact ⟨[], rfl, h2⟩
      | cons => cases h1
    | cons => cases gs with
      | nil => cases h1
      | cons => rw [List.map_cons, List.map_cons, List.cons.injEq] at h1; cases h1.1
theorem dh.up {σ:Nat->Option bM} {T:Nat->Prop} {w:World} {x:GV} {v:Value} (hx:dh (fun _=>none) T w x v):dh σ T w x v:=by
 cases x with
 |c x=>exact cL.up (x:=x) hx
 |g xs=>obtain ⟨vs,h1,h2⟩:=hx;exact ⟨vs,h1,h2.mono fun _ _ hh=>hh.up⟩
def Gl (st:aF) (E:List Nat) (ρ:Nat->Nat) (p:Nat->Bool) (g y:GV):Prop:=(g=y.map ρ/\y.ok p=true)\/sj st E g y
def pK (st:aF) (E:List Nat) (ρ:Nat->Nat) (p:Nat->Bool):List Operand->List GV->Prop
 |[],[]=>True
 |x::xs,y::ys=>(∃ g,ev st x (.v g)/\Gl st E ρ p g y)/\pK st E ρ p xs ys
 |_,_=>False
def ns (h:List (Nat×AB)) (k:Nat):Bool:=match look h k with|some (.box _ _)=>true|_=>false
def pa (h:List (Nat×AB)) (k:Nat):Prop:=ns h k=true\/∃ t K rows,look h k=some (.arr t K rows)/\0 < rows.length
theorem sS {h:List (Nat×AB)} {cH:List Nat} (hk:cH.all (fun k=>ns h k)=true):∀ k∈cH,pa h k:=fun k hm=>.inl (List.all_eq_true.1 hk k hm)
theorem lF {l:List Nat} {ρ:Nat->Nat} (h:ec (l.map ρ)=true):∀ k k',k∈l->k'∈l->ρ k=ρ k'->k=k':=by
 induction l with
 |nil=>intro _ _ h;cases h
 |cons j l ih=>
  simp only [List.map_cons,ec,Bool.and_eq_true,Bool.not_eq_true',List.any_eq_false] at h
  have far:∀ k,k∈l->ρ j≠ρ k:=fun k hm e=>h.1 (ρ k) (List.mem_map.2 ⟨k,hm,rfl⟩) (by rw [e];exact Nat.beq_refl _)
  intro k k' hk hk' he
  rcases List.mem_cons.1 hk with rfl|h1
  ·rcases List.mem_cons.1 hk' with h2|h2
   ·exact h2.symm
   ·exact absurd he (far _ h2)
  ·rcases List.mem_cons.1 hk' with rfl|h2
   ·exact absurd he.symm (far _ h1)
   ·exact ih h.2 k k' h1 h2 he
def pull (μ:Nat->Nat) (σ' σ:Nat->Option bM):List Nat->Nat->Option bM
 |[],j=>σ j
 |k::l,j=>if μ k=j then σ' k else pull μ σ' σ l j
theorem mY {μ:Nat->Nat} {σ' σ:Nat->Option bM} {l:List Nat} (hi:∀ k k',k∈l->k'∈l->μ k=μ k'->k=k') {k:Nat} (hk:k∈l):pull μ σ' σ l (μ k)=σ' k:=by
 induction l with
 |nil=>cases hk
 |cons j l ih=>
  show (if μ j=μ k then σ' j else pull μ σ' σ l (μ k))=σ' k
  by_cases e:μ j=μ k
  ·rw [if_pos e,hi j k List.mem_cons_self hk e]
  ·rw [if_neg e]
   exact ih (fun a b ha hb=>hi a b (List.mem_cons_of_mem _ ha) (List.mem_cons_of_mem _ hb)) ((List.mem_cons.1 hk).resolve_left fun h=>e (by rw [h]))
theorem lC {μ:Nat->Nat} {σ' σ:Nat->Option bM} {l:List Nat} {j:Nat} (h:∀ k∈l,μ k≠j):pull μ σ' σ l j=σ j:=by
 induction l with
 |nil=>rfl
 |cons k l ih=>
  show (if μ k=j then σ' k else pull μ σ' σ l j)=σ j
  rw [if_neg (h k List.mem_cons_self)]
  exact ih fun k hk=>h k (List.mem_cons_of_mem _ hk)
theorem lf {f:FuncId} {c:Call} {ins:List GV} {bL:List (Nat×AB)} {cH:List Nat} {av av':AV} {nb nb':List (Nat×AB)} {EE:List Nat} {p:D->Prop} (ρ μ:Nat->Nat) (E:List Nat) (hF:cA P f ins bL cH av nb) (hen:bg P f) (ho:o.op=.call c) (hc:c.callee=.value (.func f))
  (hargs:pK st E ρ (bh bL) c.args.toList ins) (hheap:di (fun x=>look st.h (ρ x.1)=some (x.2.map' ρ)) bL) (hokin:bL.all (fun x=>x.2.ok (bh bL))=true) (hinj:ec ((keys bL).map ρ)=true) (hE:bL.all (fun x=>!dE (ρ x.1) E)=true) (hEl:E.all (fun e=>bh st.h e)=true)
  (hkeep:∀ k∈cH,pa bL k) (hEE:(keys bL).map ρ=EE) (hμ:ec ((keys nb).map μ)=true) (hμk:(keys nb).all (fun k=>(dE k cH && Nat.beq (μ k) (ρ k))||(!dE k cH && !dE (μ k) EE))=true)
  (hg:av.dY p) (hgb:di (fun x=>x.2.dY p) nb) (hok:av.ok (bh nb)=true) (hokb:nb.all (fun x=>x.2.ok (bh nb))=true) (hav:av.map μ=av') (hnb:fE μ nb=nb')
  (hD:∀ (σ:Nat->Option bM) (T Tc T':Nat->Prop) (w':World) d v,(∀ b,T' b->T b\/Tc b)->(∀ b,fu σ T E b->Tc b)->p d->bq Tc w' d v->bq T' w' d v):aJ P o st av' nb' EE:=by
 intro σ T a w C hnew
 subst hav hnb hEE
 have hinj':=lF hinj
 have hin_mem:∀ k,bh bL k=true->k∈keys bL:=fun k hk=>by
  obtain ⟨b,hb⟩:=fY hk
  exact List.mem_map.2 ⟨(k,b),hb,rfl⟩
 have mem_in:∀ k,k∈keys bL->bh bL k=true:=fun k hk=>by
  obtain ⟨x,hx,rfl⟩:=List.mem_map.1 hk
  exact cO (b:=x.2) hx
 let σc:Nat->Option bM:=fun k=>if bh bL k=true then σ (ρ k) else none
 have hσc:∀ k,bh bL k=true->σc k=σ (ρ k):=fun k hk=>if_pos hk
 let Tc:=fu σ T E
 have hlow:∀ b,Tc b->T b:=fun b h=>h.1
 have hsep:∀ k b g,(k,b)∈bL->σ (ρ k)=some g->Tc g.g:=by
  intro k b g hk hg
  refine ⟨(C.heap _ _ (hheap.mem _ hk)).nF hg,fun e he g' hg' hgg=>?_⟩
  obtain ⟨b',hb'⟩:=fY (List.all_eq_true.1 hEl e he)
  have hb':∃ b',look st.h e=some b':=by
   have:=List.all_eq_true.1 hEl e he
   cases hl:look st.h e with
   |none=>simp [bh,hl] at this
   |some b'=>exact ⟨b',rfl⟩
  obtain ⟨b',hb'⟩:=hb'
  have heq:=C.inj e (ρ k) b' _ g' g hb' (hheap.mem _ hk) hg' hg hgg
  have:=List.all_eq_true.1 hE _ hk
  simp only [Bool.not_eq_true'] at this
  rw [<-heq,ey.2 he] at this
  cases this
 have hh:∀ k b,(k,b)∈bL->db σc Tc w (σc k) b:=by
  intro k b hk
  have hkin:=cO hk
  rw [hσc k hkin]
  refine db.fl hlow (fun g hg _=>hsep k b g hk hg) ?_
  exact db.bY (ρ:=ρ) hσc (C.heap _ _ (hheap.mem _ hk)) (List.all_eq_true.1 hokin _ hk)
 have hij:∀ k k' b b' g g',(k,b)∈bL->(k',b')∈bL->σc k=some g->σc k'=some g'->g.g=g'.g->k=k':=by
  intro k k' b b' g g' hk hk' hg hg' hgg
  rw [hσc k (cO hk)] at hg
  rw [hσc k' (cO hk')] at hg'
  exact hinj' k k' (hin_mem _ (cO hk)) (hin_mem _ (cO hk')) (C.inj _ _ _ _ g g' (hheap.mem _ hk) (hheap.mem _ hk') hg hg' hgg)
 have hkp:∀ k∈cH,bh bL k=true/\∃ g,σ (ρ k)=some g:=by
  intro k hk
  rcases hkeep k hk with this|⟨t,K,rows,hl,hpos⟩
  ·unfold ns at this
   cases hl:look bL k with
   |none=>simp [hl] at this
   |some b=>
    cases b with
    |box t cs=>
     refine ⟨by simp [bh,hl],?_⟩
     obtain ⟨g,_,h1,_⟩:=C.heap _ _ (hheap.mem _ (bH hl))
     exact ⟨g,h1⟩
    |arr=>simp [hl] at this
    |map=>simp [hl] at this
  ·refine ⟨by simp [bh,hl],?_⟩
   obtain ⟨_,h1|⟨g,_,h1,_⟩⟩:=C.heap _ _ (hheap.mem _ (bH hl))
   ·obtain ⟨h1,_⟩:=h1
    rw [h1] at hpos;cases hpos
   ·exact ⟨g,h1⟩
 have hrel:ch (dh σc Tc w) ins (c.args.map a.eval).toList:=by
  rw [Array.toList_map]
  have gen:∀ (xs:List Operand) (ys:List GV),pK st E ρ (bh bL) xs ys->ch (dh σc Tc w) ys (xs.map a.eval):=by
   intro xs
   induction xs with
   |nil=>intro ys h;cases ys with
    |nil=>trivial
    |cons=>exact h.elim
   |cons x xs ih=>
    intro ys h
    cases ys with
    |nil=>exact h.elim
    |cons y ys=>
     refine ⟨?_,ih ys h.2⟩
     obtain ⟨g,h1,h2|h2⟩:=h.1
     ·obtain ⟨h2,h3⟩:=h2
      subst h2
      exact dh.fl hlow (dh.bY (ρ:=ρ) hσc (x:=y) (bI C h1) h3)
     ·exact dh.up (h2.rel C (bI C h1))
  exact gen _ _ hargs
 refine ml ho hc hen ((hF Tc σc w _ (fun b h=>C.ep b h.1) hh hij (fun k hk=>?_) hrel).mono ?_)
 ·obtain ⟨h1,g,h2⟩:=hkp k hk
  exact ⟨g,by rw [hσc k h1,h2]⟩
 rintro e w' ⟨v,σ',T',rfl,R⟩
 let T2:Nat->Prop:=fun b=>T b\/T' b
 let σ2:=pull μ σ' σ (keys nb)
 have hμ':=lF hμ
 have hσ2:∀ k,bh nb k=true->σ2 (μ k)=σ' k:=fun k hk=>by
  obtain ⟨b,hb⟩:=fY hk
  exact mY hμ' (List.mem_map.2 ⟨(k,b),hb,rfl⟩)
 have hD':∀ d v,p d->bq T' w' d v->bq T2 w' d v:=fun d v=>hD σ T T' T2 w' d v (fun b h=>h) R.lN
 have hmem:∀ k b,(k,b)∈fE μ nb->∃ k0 b0,(k0,b0)∈nb/\k=μ k0/\b=b0.map' μ:=by
  intro k b h
  obtain ⟨⟨k0,b0⟩,h1,h2⟩:=List.mem_map.1 h
  injection h2 with h2 h3
  exact ⟨k0,b0,h1,h2.symm,h3.symm⟩
 have hcase:∀ k∈keys nb,(k∈cH/\μ k=ρ k)\/(k ∉ cH/\μ k ∉ (keys bL).map ρ):=by
  intro k hk
  have:=List.all_eq_true.1 hμk k hk
  simp only [Bool.or_eq_true,Bool.and_eq_true,Bool.not_eq_true'] at this
  rcases this with ⟨h1,h2⟩|⟨h1,h2⟩
  ·exact .inl ⟨ey.1 h1,Nat.eq_of_beq_eq_true h2⟩
  ·exact .inr ⟨fun h=>(Bool.eq_false_iff.1 h1) (ey.2 h),fun h=>(Bool.eq_false_iff.1 h2) (ey.2 h)⟩
 have C2:∀ b,(∃ k∈(keys bL).map ρ,∃ g,σ k=some g/\g.g=b)↔∃ k∈keys bL,∃ g,σc k=some g/\g.g=b:=by
  intro b
  constructor
  ·rintro ⟨k,hk,g,hg,hgb⟩
   obtain ⟨k0,hk0,rfl⟩:=List.mem_map.1 hk
   exact ⟨k0,hk0,g,by rw [hσc k0 (mem_in k0 hk0)];exact hg,hgb⟩
  ·rintro ⟨k,hk,g,hg,hgb⟩
   rw [hσc k (mem_in k hk)] at hg
   exact ⟨ρ k,List.mem_map.2 ⟨k,hk,rfl⟩,g,hg,hgb⟩
 refine ⟨v,rfl,v,σ2,T2,rfl,⟨R.os,R.tape,R.output,⟨R.size,fun b hb hno=>R.cx b hb fun k hk g hg hgb=>hno ((C2 b).2 ⟨k,hk,g,hg,hgb⟩),fun b hb=>?_,fun b hb h=>?_,fun j g hj=>?_⟩,fun b h=>.inl h,fun b h=>?_,fun j hj=>?_,?_,?_,?_⟩,R.rel.back hD' hσ2 hg hok⟩
 ·obtain ⟨k,hk,g,hg,rfl⟩:=hb
  obtain ⟨k0,hk0,rfl⟩:=List.mem_map.1 hk
  obtain ⟨x,hx,rfl⟩:=List.mem_map.1 hk0
  exact (C.heap _ _ (hheap.mem x hx)).nF hg
 ·rcases h with h|h
  ·exact h
  ·exact (R.kD b hb h).1
 ·show pull μ σ' σ (keys nb) j=some g
  by_cases hex:∃ k∈keys nb,μ k=j
  ·obtain ⟨k,hk,rfl⟩:=hex
   rw [mY hμ' hk]
   rcases hcase k hk with ⟨h1,h2⟩|⟨h1,h2⟩
   ·rw [R.kept k h1,hσc k (hkp k h1).1,<-h2];exact hj
   ·obtain ⟨x,hx,rfl⟩:=List.mem_map.1 hk
    have:=hnew (μ x.1) (x.2.map' μ) (List.mem_map.2 ⟨x,hx,rfl⟩) h2
    rw [this] at hj;cases hj
  ·rw [lC fun k hk e=>hex ⟨k,hk,e⟩];exact hj
 ·rcases h with h|h
  ·exact Nat.lt_of_lt_of_le (C.ep b h) R.size
  ·exact R.ep b h
 ·exact lC fun k hk e=>by
   obtain ⟨x,hx,rfl⟩:=List.mem_map.1 hk
   exact hj (x.2.map' μ) (List.mem_map.2 ⟨x,hx,by rw [e]⟩)
 ·intro k b h
  obtain ⟨k0,b0,h1,rfl,rfl⟩:=hmem k b h
  rw [hσ2 k0 (cO h1)]
  exact (R.heap k0 b0 h1).back hD' hσ2 (fun b h=>.inr h) (hgb.mem _ h1) (List.all_eq_true.1 hokb _ h1)
 ·intro k b g h hg
  obtain ⟨k0,b0,h1,rfl,rfl⟩:=hmem k b h
  rw [hσ2 k0 (cO h1)] at hg
  rcases R.fresh k0 b0 g h1 hg with h2|⟨e,he,g',hg',hgg⟩
  ·exact .inl h2
  ·exact .inr ((C2 g.g).2 ⟨e,he,g',hg',hgg⟩)
 ·intro k k' b b' g g' h h' hg hg' hgg
  obtain ⟨k0,b0,h1,rfl,rfl⟩:=hmem k b h
  obtain ⟨k1,b1,h2,rfl,rfl⟩:=hmem k' b' h'
  rw [hσ2 k0 (cO h1)] at hg
  rw [hσ2 k1 (cO h2)] at hg'
  rw [R.inj k0 k1 b0 b1 g g' h1 h2 hg hg' hgg]
theorem cE {f:FuncId} {c:Call} {ins:List GV} {bL:List (Nat×AB)} {cH:List Nat} {av av':AV} {nb nb':List (Nat×AB)} {EE:List Nat} (ρ μ:Nat->Nat) (hF:cA P f ins bL cH av nb) (hen:bg P f) (ho:o.op=.call c) (hc:c.callee=.value (.func f))
  (hargs:pK st [] ρ (bh bL) c.args.toList ins) (hheap:di (fun x=>look st.h (ρ x.1)=some (x.2.map' ρ)) bL) (hokin:bL.all (fun x=>x.2.ok (bh bL))=true) (hinj:ec ((keys bL).map ρ)=true)
  (hkeep:cH.all (fun k=>ns bL k)=true) (hEE:(keys bL).map ρ=EE) (hμ:ec ((keys nb).map μ)=true) (hμk:(keys nb).all (fun k=>(dE k cH && Nat.beq (μ k) (ρ k))||(!dE k cH && !dE (μ k) EE))=true)
  (hg:av.dY (fun _=>True)) (hgb:di (fun x=>x.2.dY fun _=>True) nb) (hok:av.ok (bh nb)=true) (hokb:nb.all (fun x=>x.2.ok (bh nb))=true) (hav:av.map μ=av') (hnb:fE μ nb=nb'):aJ P o st av' nb' EE:=
 lf ρ μ [] hF hen ho hc hargs hheap hokin hinj (by simp [dE]) rfl (sS hkeep) hEE hμ hμk hg hgb hok hokb hav hnb fun σ T Tc T' w' d v h1 h2 _ h=>h.fl fun b hb=>by
  rcases h1 b hb with h|h
  ·exact h2 b ⟨h,fun k hk=>by cases hk⟩
  ·exact h
theorem uW {f:FuncId} {c:Call} {ins:List GV} {bL:List (Nat×AB)} {cH:List Nat} {av av':AV} {nb nb':List (Nat×AB)} {EE:List Nat} (ρ μ:Nat->Nat) (E:List Nat) (hF:cA P f ins bL cH av nb) (hen:bg P f) (ho:o.op=.call c) (hc:c.callee=.value (.func f))
  (hargs:pK st E ρ (bh bL) c.args.toList ins) (hheap:di (fun x=>look st.h (ρ x.1)=some (x.2.map' ρ)) bL) (hokin:bL.all (fun x=>x.2.ok (bh bL))=true) (hinj:ec ((keys bL).map ρ)=true) (hE:bL.all (fun x=>!dE (ρ x.1) E)=true) (hEl:E.all (fun e=>bh st.h e)=true)
  (hkeep:cH.all (fun k=>ns bL k)=true) (hEE:(keys bL).map ρ=EE) (hμ:ec ((keys nb).map μ)=true) (hμk:(keys nb).all (fun k=>(dE k cH && Nat.beq (μ k) (ρ k))||(!dE k cH && !dE (μ k) EE))=true)
  (hg:av.dY (fun d=>d.oe=true)) (hgb:di (fun x=>x.2.dY fun d=>d.oe=true) nb) (hok:av.ok (bh nb)=true) (hokb:nb.all (fun x=>x.2.ok (bh nb))=true) (hav:av.map μ=av') (hnb:fE μ nb=nb'):aJ P o st av' nb' EE:=
 lf ρ μ E hF hen ho hc hargs hheap hokin hinj hE hEl (sS hkeep) hEE hμ hμk hg hgb hok hokb hav hnb fun σ T Tc T' w' d v h1 h2 hp h=>by
  cases d with
  |v x=>cases h;exact .v _ (by assumption)
  |r=>cases hp
  |f=>cases hp
theorem dJ {f:FuncId} {c:Call} {ins:List GV} {bL:List (Nat×AB)} {cH:List Nat} {av av':AV} {nb nb':List (Nat×AB)} {EE:List Nat} (ρ μ:Nat->Nat) (hF:cA P f ins bL cH av nb) (hen:bg P f) (ho:o.op=.call c) (hc:c.callee=.value (.func f))
  (hargs:pK st [] ρ (bh bL) c.args.toList ins) (hheap:di (fun x=>look st.h (ρ x.1)=some (x.2.map' ρ)) bL) (hokin:bL.all (fun x=>x.2.ok (bh bL))=true) (hinj:ec ((keys bL).map ρ)=true)
  (hkeep:di (pa bL) cH) (hEE:(keys bL).map ρ=EE) (hμ:ec ((keys nb).map μ)=true) (hμk:(keys nb).all (fun k=>(dE k cH && Nat.beq (μ k) (ρ k))||(!dE k cH && !dE (μ k) EE))=true)
  (hg:av.dY (fun _=>True)) (hgb:di (fun x=>x.2.dY fun _=>True) nb) (hok:av.ok (bh nb)=true) (hokb:nb.all (fun x=>x.2.ok (bh nb))=true) (hav:av.map μ=av') (hnb:fE μ nb=nb'):aJ P o st av' nb' EE:=
 lf ρ μ [] hF hen ho hc hargs hheap hokin hinj (by simp [dE]) rfl (fun k hk=>hkeep.mem k hk) hEE hμ hμk hg hgb hok hokb hav hnb fun σ T Tc T' w' d v h1 h2 _ h=>h.fl fun b hb=>by
  rcases h1 b hb with h|h
  ·exact h2 b ⟨h,fun k hk=>by cases hk⟩
  ·exact h
end
section
variable {P:Program} {W0:World} {F:Nat->Prop} {N:NT} {T0:Nat->Prop} {pin:List (Nat×bM)} {ops:Array Oper} {Q:Exit->aF->Prop} {s:List (Nat×AV)} {h:List (Nat×AB)} {n:Nat}
theorem jy {h:List (Nat×AB)} {k:Nat} (hk:bh h k=true):∃ b,look h k=some b:=by
 cases hl:look h k with
 |none=>simp [bh,hl] at hk
 |some b=>exact ⟨b,rfl⟩
theorem Bv {o:Oper} {rest:List Oper} {d n':Nat} {av:AV} {nb h':List (Nat×AB)} {E:List Nat} (hw:ah ops o ⟨s,h,n⟩) (g:aJ P o ⟨s,h,n⟩ av nb E) (hd:o.dst=some d) (hN:Nat.blt d N.1=true) (hE:E.all (fun e=>bh h e)=true) (hnb:nb.all (fun x=>dE x.1 E||Nat.ble n x.1)=true) (hn:ic nb n=n') (hh:nb++del E h=h') (k:AL P W0 F N T0 pin ops Q rest ⟨(d,av)::s,h',n'⟩):AL P W0 F N T0 pin ops Q (o::rest) ⟨s,h,n⟩:=
 rC hw g (fun d' h'=>by rw [hd] at h';injection h' with h';subst h';rw [Nat.blt_eq] at hN;exact hN) (fun e he=>jy (List.all_eq_true.1 hE e he)) (fun k b hk hkE=>by
  have:=List.all_eq_true.1 hnb _ hk
  simp only [Bool.or_eq_true] at this
  rcases this with h|h
  ·exact absurd (ey.1 h) hkE
  ·exact Nat.le_of_ble_eq_true h) (by
  have e:(aF.add ⟨s,h,n⟩ nb E)=⟨s,h',n'⟩:=by simp [aF.add,<-hn,<-hh]
  rw [e,hd];exact k)
theorem aD.cut {s:List (Nat×AV)} {h h':List (Nat×AB)} {n:Nat} (k m:Nat) {t K:Nat} {rows rows':List (List D)} (hb:look h k=some (.arr t K rows)) (hr:rows.take m=rows') (hh:kc h k (.arr t K rows')=h'):aD pin ⟨s,h,n⟩ ⟨s,h',n⟩:=by
 subst hr hh
 rintro W0 F N T0 a w ⟨σ,T,hT,S,hp⟩
 have cases_:∀ i b,look (kc h k (.arr t K (rows.take m))) i=some b->(i=k/\b=.arr t K (rows.take m))\/(i≠k/\look h i=some b):=by
  intro i b hi
  rcases jM hi with h1|h1|h1
  ·exact .inl h1
  ·exact .inr h1
  ·exact h1.2.elim
 have cx:∀ i b,look (kc h k (.arr t K (rows.take m))) i=some b->∃ b0,look h i=some b0:=fun i b hi=>by
  rcases cases_ i b hi with ⟨rfl,_⟩|⟨_,h1⟩
  ·exact ⟨_,hb⟩
  ·exact ⟨_,h1⟩
 refine ⟨σ,T,hT,⟨⟨S.core.fg,?_,?_,S.core.ep⟩,S.os,S.tape,S.output,S.size,S.cx,?_,S.next,?_,S.jk,S.iQ⟩,hp⟩
 ·intro i b hi
  rcases cases_ i b hi with ⟨rfl,rfl⟩|⟨_,h1⟩
  ·obtain ⟨hK,h1⟩:=S.core.heap _ _ hb
   refine ⟨hK,?_⟩
   rcases h1 with ⟨h1,h2⟩|⟨g,vs,h1,h2,h3,h4,h5,h6⟩
   ·exact .inl ⟨by rw [h1];simp,h2⟩
   ·refine .inr ⟨g,vs,h1,h2,h3,h4,h5,?_,fun i row hi=>?_⟩
    ·refine Nat.le_trans (Nat.mul_le_mul_right K ?_) h6.1
     rw [List.length_take];omega
    ·rw [List.getElem?_take] at hi
     split at hi
     ·exact h6.2 i row hi
     ·cases hi
  ·exact S.core.heap i b h1
 ·intro i i' b b' g g' hi hi' hg hg' hgg
  obtain ⟨b0,h0⟩:=cx i b hi
  obtain ⟨b1,h1⟩:=cx i' b' hi'
  exact S.core.inj i i' b0 b1 g g' h0 h1 hg hg' hgg
 ·intro i b g hi hg
  obtain ⟨b0,h0⟩:=cx i b hi
  exact S.own i b0 g h0 hg
 ·intro i b hi
  obtain ⟨b0,h0⟩:=cx i b hi
  exact S.hn i b0 h0
end
end
section

def fz (n:Int):Prop:=-9223372036854775808<=n/\n<=9223372036854775807
def Fj:Nat->Prop:=fun _=>False
section
variable {P:Program} {t e:TypeId}
end
section
variable {H:Type} {enc:TypeId×Value->H} {P:Program} {w:World} {base:Nat} {spare:Nat->Bool} {held:Bool} {t:TypeId}
end
theorem Dd {P:Program} {f:FuncId} {ins:List GV} (h:Fn P f ins (aB true) []) {w:World} {args:Array Value} (hargs:ch (dh (fun _=>none) Fj w) ins args.toList):Calls P f args w fun e w'=>e=.returned (.bool true)/\Below w.heap.size w w':=
 (h Fj w args (fun _ h=>h.elim) hargs).mono fun e w' ⟨v,σ,T',he,hb,R⟩=>⟨by rw [he,bq.inv R.rel],hb⟩
end
section

theorem bq.len {T:Nat->Prop} {w:World} {K:Nat} {rows:List (List D)} {v:Value} (h:bq T w (.r K rows) v):rows.length<=9223372036854775807:=by
 cases h with
 |nil=>simp
 |r=>omega
section
variable {P:Program} {W0:World} {F:Nat->Prop} {N:NT} {T0:Nat->Prop} {pin:List (Nat×bM)} {Q:Exit->aF->Prop} {s:List (Nat×AV)} {h:List (Nat×AB)} {n:Nat}
theorem dF {c:Code} {α:Type} {f:α->List D} {xs:List α} {K:Nat} (i:Nat) (hs:look s i=some (.v (.c (.d (.r K (xs.map f)))))) (k:xs.length<=9223372036854775807->AC P W0 F N T0 pin Q c ⟨s,h,n⟩):AC P W0 F N T0 pin Q c ⟨s,h,n⟩:=fun a w hI=>by
 obtain ⟨σ,T,hT,S,hp⟩:=hI
 have h1:=bq.len (show bq T w (.r K (xs.map f)) _ from S.core.fg i _ hs)
 rw [List.length_map] at h1
 exact k h1 a w ⟨σ,T,hT,S,hp⟩
theorem fK {c:Code} {k r K m:Nat} (i:Nat) (hs:look s i=some (.v (.c (.s k r K m)))) (hk:m<=9223372036854775807->AC P W0 F N T0 pin Q c ⟨s,h,n⟩):AC P W0 F N T0 pin Q c ⟨s,h,n⟩:=fun a w hI=>by
 obtain ⟨σ,T,hT,S,hp⟩:=hI
 have h1:cL σ T w (.s k r K m) _:=S.core.fg i _ hs
 refine hk ?_ a w ⟨σ,T,hT,S,hp⟩
 rcases h1 with ⟨h0,_⟩|⟨g,_,_,h2,h3⟩<;>omega
theorem ff {c:Code} {α:Type} {f:α->List D} {xs:List α} {K:Nat} {cs:List CV} (i j:Nat) (hs:look s i=some (.v (.g cs))) (hj:cs[j]?=some (.d (.r K (xs.map f)))) (k:xs.length<=9223372036854775807->AC P W0 F N T0 pin Q c ⟨s,h,n⟩):AC P W0 F N T0 pin Q c ⟨s,h,n⟩:=fun a w hI=>by
 obtain ⟨σ,T,hT,S,hp⟩:=hI
 obtain ⟨vs,h1,h2⟩:=S.core.fg i _ hs
 obtain ⟨y,hy,hr⟩:=h2.get hj
 have h1:=bq.len (show bq T w (.r K (xs.map f)) _ from hr)
 rw [List.length_map] at h1
 exact k h1 a w ⟨σ,T,hT,S,hp⟩
end
theorem db.cut {σ:Nat->Option bM} {T:Nat->Prop} {w:World} {og:Option bM} {t K:Nat} {rows:List (List D)} (m:Nat) (h:db σ T w og (.arr t K rows)):db σ T w og (.arr t K (rows.take m)):=by
 obtain ⟨hK,h1⟩:=h
 refine ⟨hK,?_⟩
 rcases h1 with ⟨h1,h2⟩|⟨g,vs,h1,h2,h3,h4,h5,h6⟩
 ·exact .inl ⟨by rw [h1];simp,h2⟩
 ·refine .inr ⟨g,vs,h1,h2,h3,h4,h5,?_,fun i row hi=>?_⟩
  ·refine Nat.le_trans (Nat.mul_le_mul_right K ?_) h6.1
   rw [List.length_take];omega
  ·rw [List.getElem?_take] at hi
   split at hi
   ·exact h6.2 i row hi
   ·cases hi
theorem Ext.stay {σ:Nat->Option bM} {T:Nat->Prop} {st:aF} {a:Act} {w:World} (C:Core σ T st a w) {k:Nat} {b b0:AB} (hb0:look st.h k=some b0) (hr:db σ T w (σ k) b):Ext σ T w σ T w [(k,b)] [k]:=by
 refine ⟨rfl,rfl,rfl,⟨Nat.le_refl _,fun _ _ _=>rfl,?_,fun _ _ h=>h,fun _ _ h=>h⟩,fun _ h=>h,C.ep,fun _ _=>rfl,?_,?_,?_⟩
 ·rintro b' ⟨k',hk',g',hg',rfl⟩
  rw [List.mem_singleton.1 hk'] at hg'
  exact (C.heap k b0 hb0).nF hg'
 ·intro j b' h
  obtain ⟨rfl,rfl⟩:=Prod.mk.inj (List.mem_singleton.1 h)
  exact hr
 ·intro j b' g' h hg'
  obtain ⟨rfl,rfl⟩:=Prod.mk.inj (List.mem_singleton.1 h)
  exact .inr ⟨j,List.mem_singleton.2 rfl,g',hg',rfl⟩
 ·intro j j' b1 b2 g1 g2 h h' _ _ _
  obtain ⟨rfl,_⟩:=Prod.mk.inj (List.mem_singleton.1 h)
  obtain ⟨rfl,_⟩:=Prod.mk.inj (List.mem_singleton.1 h')
  rfl
theorem rT {P:Program} {st:aF} {o:Oper} {x:Operand} {c:Call} {t e bt K bytes k i n:Nat} {z:Value} {zs:List Value} {rows rows':List (List D)} (hT:gS P t e K bytes) (hz:(P.info? e).bind (fun i=>i.zero)=some z) (hzs:z.cells.toList=zs) (h1:zs.all (·.oneCell')=true)
  (ho:o.op=.call c) (hc:c.callee=.builtin .clear) (ha:c.args=#[x]) (hat:c.argTypes=#[t]) (hd:o.dst=none) (hx:ev st x (.v (.c (.s k i K n)))) (hb:look st.h k=some (.arr bt K rows)) (hr:rows.take i=rows'):aJ P o st (.v (.c .any)) [(k,.arr bt K rows')] [k]:=by
 subst hr
 intro σ T a w C _
 have hxv:=bI C hx
 have hh:=C.heap k _ hb
 have quiet:∀ A c',a.eval x=.slice A 0 c'->o.wp P a w (fun a' w'=>∃ u σ' T',a'=a.put o.dst u/\Ext σ T w σ' T' w' [(k,.arr bt K (rows.take i))] [k]/\ew σ' T' w' (.v (.c .any)) u) wz:=fun A c' hv=>by
  refine gw (v:=.tuple #[]) ?_ ⟨_,σ,T,rfl,Ext.stay C hb (hh.cut i),trivial⟩
  unfold execOp
  cases A<;>simp [ho,resolve,hc,ha,hat,invoke,builtin,hv,Builtin.clear_,run_underlying hT.u]
 rcases hxv with ⟨h0,hv⟩|⟨g,hg,hv,bL,h63⟩
 ·exact quiet none 0 hv
 ·by_cases hn:n=0
  ·subst hn;exact quiet _ _ hv
  ·obtain ⟨hK,hh'⟩:=hh
   rcases hh' with ⟨_,h⟩|⟨g',vs,e1,e2,e3,e4,e5,e6⟩
   ·rw [hg] at h;cases h
   rw [hg] at e1;injection e1 with e1;subst e1
   obtain ⟨ii,z',hii,hzz,hs,hby,hzc⟩:=hT.i
   have hz':z'=z:=by simpa [hii,hzz] using hz
   subst hz'
   have hlen:(Builtin.zeroCells z'.cells n).toList.length=n * K:=by simp [Builtin.zeroCells,hzc]
   have hone:∀ u∈(Builtin.zeroCells z'.cells n).toList,u.oneCell'=true:=by
    intro u hu
    simp only [Builtin.zeroCells,Array.toList_map,List.mem_map] at hu
    obtain ⟨q,_,rfl⟩:=hu
    have hlt:q % z'.cells.size < z'.cells.size:=Nat.mod_lt _ (by rw [hzc];exact hK)
    rw [getElem!_pos z'.cells (q % z'.cells.size) hlt]
    subst hzs
    exact List.all_eq_true.1 h1 _ (by simp)
   have hfit:i * K+n * K<=vs.length:=by rw [e4,<-Nat.add_mul];exact Nat.mul_le_mul_right _ bL
   have hst:=run_storeCells_at (P:=P) g.g (i * K) bt (Builtin.zeroCells z'.cells n).toList 0 vs.toArray w e3 (by rw [hlen];simpa using hfit) hone
   obtain ⟨m,rfl⟩:∃ m,n=m+1:=⟨n - 1,by omega⟩
   have hzv:(zeroValue e).run P w=.ok z' w:=by simp [zeroValue,typeInfo,hii,hzz]
   refine gw (v:=.tuple #[]) (w':=w.setRow g.g (vs.take (i * K)++(Builtin.zeroCells z'.cells (m+1)).toList++vs.drop (i * K+(Builtin.zeroCells z'.cells (m+1)).toList.length)).toArray) ?_ ⟨_,σ,T,rfl,Ext.write C hb hg rfl rfl rfl (setRow_size w _ _) (fun j hj=>setRow_other w g.g j _ hj) fun G=>?_,trivial⟩
   ·unfold execOp
    simp only [Nat.add_zero] at hst
    simp [ho,resolve,hc,ha,hat,invoke,builtin,hv,Builtin.clear_,run_underlying hT.u,hzv,hst]
   ·refine ⟨hK,.inr ⟨g,_,rfl,e2,setRow_heap w g.g _ _ bt (0,0) e3,?_,e5,?_⟩⟩
    ·rw [<-e4];simp only [List.length_append,List.length_take,List.length_drop,hlen];omega
    ·have e7:=e6.grow G
     refine ⟨?_,fun r row hrow=>?_⟩
     ·simp only [List.length_append,List.length_take,List.length_drop,hlen]
      refine Nat.le_trans (Nat.mul_le_mul_right K (Nat.min_le_left i rows.length)) ?_
      omega
     ·rw [List.getElem?_take] at hrow
      split at hrow
      ·rename_i hri
       obtain ⟨q1,q2⟩:=e7.2 r row hrow
       refine ⟨q1,fun j d hj=>?_⟩
       obtain ⟨u,hu,hd'⟩:=q2 j d hj
       have hjK:j < K:=by rw [<-q1];exact (List.getElem?_eq_some_iff.1 hj).1
       have hlt:r * K+j < i * K:=by
        have:(r+1) * K<=i * K:=Nat.mul_le_mul_right _ hri
        rw [Nat.succ_mul] at this
        omega
       refine ⟨u,?_,hd'⟩
       rw [List.append_assoc,List.getElem?_append_left (by rw [List.length_take];omega),List.getElem?_take,if_pos hlt]
       exact hu
      ·cases hrow
theorem aD.nc {pin:List (Nat×bM)} {s:List (Nat×AV)} {h h':List (Nat×AB)} {n:Nat} (k j K bt:Nat) {cs:List CV} (hb:look h k=some (.box bt cs)) (hc:cs[j]?=some cN) (hh:kc h k (.box bt (cs.set j (cR K [])))=h'):aD pin ⟨s,h,n⟩ ⟨s,h',n⟩:=by
 subst hh
 rintro W0 F N T0 a w ⟨σ,T,hT,S,hp⟩
 have cx:∀ i b,look (kc h k (.box bt (cs.set j (cR K [])))) i=some b->∃ b0,look h i=some b0:=fun i b hi=>by
  rcases jM hi with ⟨rfl,_⟩|⟨_,h1⟩|⟨_,h1⟩
  ·exact ⟨_,hb⟩
  ·exact ⟨_,h1⟩
  ·exact h1.elim
 refine ⟨σ,T,hT,⟨⟨S.core.fg,?_,?_,S.core.ep⟩,S.os,S.tape,S.output,S.size,S.cx,?_,S.next,?_,S.jk,S.iQ⟩,hp⟩
 ·intro i b hi
  rcases jM hi with ⟨rfl,rfl⟩|⟨_,h1⟩|⟨_,h1⟩
  ·obtain ⟨g,vs,h1,h2,h3,h4⟩:=S.core.heap _ _ hb
   refine ⟨g,vs,h1,h2,h3,?_⟩
   obtain ⟨y,hy,hr⟩:=h4.get hc
   have hy':y=.slice none 0 0:=bq.inv hr
   subst hy'
   have:=h4.set (x:=cR K []) (y:=.slice none 0 0) (bq.nil _ _ _) j
   have e:vs.set j (.slice none 0 0)=vs:=by
    apply List.ext_getElem?
    intro q
    rw [List.getElem?_set]
    split
    ·rename_i hq;subst hq
     split
     ·exact hy.symm
     ·rename_i hlt;rw [List.getElem?_eq_none (by omega)]
    ·rfl
   rw [e] at this
   exact this
  ·exact S.core.heap i b h1
  ·exact h1.elim
 ·intro i i' b b' g g' hi hi' hg hg' hgg
  obtain ⟨b0,h0⟩:=cx i b hi
  obtain ⟨b1,h1⟩:=cx i' b' hi'
  exact S.core.inj i i' b0 b1 g g' h0 h1 hg hg' hgg
 ·intro i b g hi hg
  obtain ⟨b0,h0⟩:=cx i b hi
  exact S.own i b0 g h0 hg
 ·intro i b hi
  obtain ⟨b0,h0⟩:=cx i b hi
  exact S.hn i b0 h0
theorem BH {P:Program} {st:aF} {o:Oper} {t yt:TypeId} {x y:Operand} {a b:Bool} (hu:P.underlying t=some .bool) (ho:o.op=.binOp .eql t x y yt) (hx:ev st x (.v (.c (.d (.v (.bool a)))))) (hy:ev st y (.v (.c (.d (.v (.bool b)))))):aJ P o st (.v (.c (.d (.v (.bool (a==b)))))) [] []:=
 aJ.val fun σ T ac w C=>by
  have h1:=bq.inv (bI C hx)
  have h2:=bq.inv (bI C hy)
  refine ⟨_,?_,bq.v _ rfl⟩
  unfold execOp
  simp [ho,h1,h2,binOp,eqGuard,Op.equal,Op.maxDepth,run_equalIn_bool w 9999 t a b hu]
def wZ (st:aF) (k:Nat) (p:Nat->Bool) (y x:AV):Prop:=(y=x/\x.ok p=true)\/∃ c d,y=.v (.c c)/\x=.v (.c d)/\kC st [k] c d
theorem Core.freeze {σ:Nat->Option bM} {T:Nat->Prop} {st st':aF} {a:Act} {w:World} (C:Core σ T st a w) (k:Nat) (hn:∀ i v,look st'.s i=some v->∃ y,look st.s i=some y/\wZ st k (bh st'.h) y v)
  (hh:∀ j b,look st'.h j=some b->look st.h j=some b/\j≠k/\b.ok (bh st'.h)=true) (hk:∃ b,look st.h k=some b):Core (fun j=>if bh st'.h j=true then σ j else none) (fu σ T [k]) st' a w:=by
 have hlow:∀ b,fu σ T [k] b->T b:=fun b h=>h.1
 obtain ⟨b0,hb0⟩:=hk
 have hσ:∀ j,bh st'.h j=true->(fun j=>if bh st'.h j=true then σ j else none) j=σ (id j):=fun j hj=>if_pos hj
 have idA:∀ v:AV,v.map id=v:=fun v=>by
  have hz:∀ c:CV,c.map id=c:=fun c=>by cases c<;>simp [CV.map]
  have hg:∀ g:GV,g.map id=g:=fun g=>by
   cases g with
   |c x=>simp [GV.map,hz]
   |g xs=>simp only [GV.map];congr 1;exact (List.map_congr_left fun c _=>hz c).trans (List.map_id _)
  cases v with
  |v x=>simp [AV.map,hg]
  |t xs=>simp only [AV.map];congr 1;exact (List.map_congr_left fun c _=>hg c).trans (List.map_id _)
 have idB:∀ b:AB,b.map' id=b:=fun b=>by
  have hz:∀ c:CV,c.map id=c:=fun c=>by cases c<;>simp [CV.map]
  cases b with
  |box t cs=>simp only [AB.map'];congr 1;exact (List.map_congr_left (fun c _=>hz c)).trans (List.map_id _)
  |arr=>rfl
  |map=>rfl
 have inT':∀ j b g,look st'.h j=some b->σ j=some g->T g.g->fu σ T [k] g.g:=fun j b g hj hg hT=>⟨hT,fun e he g' hg' hgg=>by
  rw [List.mem_singleton.1 he] at hg'
  exact (hh j b hj).2.1 (C.inj k j b0 b g' g hb0 (hh j b hj).1 hg' hg hgg).symm⟩
 refine ⟨fun i v hi=>?_,fun j b hj=>?_,fun j j' b b' g g' hj hj' hg hg' hgg=>?_,fun b h=>C.ep b h.1⟩
 ·obtain ⟨y,hy,hf⟩:=hn i v hi
  have hr:=C.fg i y hy
  rcases hf with ⟨rfl,hok⟩|⟨c,d,rfl,rfl,harg⟩
  ·have hr:ew σ T w (y.map id) (a.tmps.getD i undef):=by rw [idA];exact hr
   have h2:=ew.bY hσ hr hok
   cases y with
   |v x=>exact dh.fl (x:=x) hlow h2
   |t xs=>obtain ⟨vs,q1,q2⟩:=h2;exact ⟨vs,q1,q2.mono fun _ _ h=>h.fl hlow⟩
  ·exact cL.up (x:=d) (kC.rel C harg hr)
 ·obtain ⟨h1,h2,h3⟩:=hh j b hj
  have hkin:bh st'.h j=true:=by simp [bh,hj]
  show db _ _ _ (if bh st'.h j=true then σ j else none) b
  rw [if_pos hkin]
  have h4:db σ T w (σ j) (b.map' id):=by rw [idB];exact C.heap j b h1
  exact db.fl hlow (fun g hg hT=>inT' j b g hj hg hT) (db.bY hσ h4 h3)
 ·obtain ⟨h1,_,_⟩:=hh j b hj
  obtain ⟨h1',_,_⟩:=hh j' b' hj'
  have e1:bh st'.h j=true:=by simp [bh,hj]
  have e2:bh st'.h j'=true:=by simp [bh,hj']
  have hg:(if bh st'.h j=true then σ j else none)=some g:=hg
  have hg':(if bh st'.h j'=true then σ j' else none)=some g':=hg'
  rw [if_pos e1] at hg
  rw [if_pos e2] at hg'
  exact C.inj j j' b b' g g' h1 h1' hg hg' hgg
section
variable {P:Program} {W0:World} {N:NT} {T0:Nat->Prop} {Q:Exit->aF->Prop} {s s':List (Nat×AV)} {h h':List (Nat×AB)} {n:Nat}
theorem qX {a:Act} {w:World} (k:Nat) (hk:bh h k=true) (hs:di (fun x=>∃ y,look s x.1=some y/\wZ ⟨s,h,n⟩ k (bh h') y x.2) s') (hh:di (fun x=>look h x.1=some x.2) h') (hok:h'.all (fun x=>!Nat.beq x.1 k && x.2.ok (bh h'))=true)
  (hI:Inv W0 (fun _=>False) N T0 [] ⟨s,h,n⟩ a w):Inv W0 (fun _=>False) N T0 [] ⟨s',h',n⟩ a w:=by
 obtain ⟨σ,T,hT,S,hp⟩:=hI
 obtain ⟨b0,hb0⟩:=jy hk
 have hh':∀ j b,look h' j=some b->look h j=some b/\j≠k/\b.ok (bh h')=true:=fun j b hj=>by
  have h1:=List.all_eq_true.1 hok _ (bH hj)
  simp only [Bool.and_eq_true,Bool.not_eq_true'] at h1
  exact ⟨hh.mem _ (bH hj),(fun e=>by subst e;rw [Nat.beq_refl] at h1;exact absurd h1.1 (by simp)),h1.2⟩
 have C:=S.core.freeze (st':=⟨s',h',n⟩) k (fun i v hi=>hs.mem _ (bH hi)) hh' ⟨b0,hb0⟩
 have q1:∀ b,b < W0.heap.size->(fu σ T [k] b->T0 b)/\(T0 b->fu σ T [k] b):=fun b hb=>⟨fun hb'=>(hT b hb).1 hb'.1,fun h0=>⟨(hT b hb).2 h0,fun e he g hg hgb=>by
  rw [List.mem_singleton.1 he] at hg
  rcases S.own k b0 g hb0 hg with h1|h1
  ·omega
  ·exact h1⟩⟩
 have q2:∀ j b g,look h' j=some b->(if bh h' j=true then σ j else none)=some g->W0.heap.size<=g.g\/False:=fun j b g hj hg=>by
  split at hg
  ·exact S.own j b g (hh' j b hj).1 hg
  ·cases hg
 have q3:∀ j,n<=j->(if bh h' j=true then σ j else none)=none:=fun j hj=>by
  split
  ·exact S.next j hj
  ·rfl
 exact ⟨_,_,q1,⟨C,S.os,S.tape,S.output,S.size,S.cx,q2,q3,fun j b hj=>S.hn j b (hh' j b hj).1,S.jk,S.iQ⟩,fun j g hj=>by cases hj⟩
theorem lP {ops:Array Oper} {l:List Oper} (k:Nat) (hk:bh h k=true) (hs:di (fun x=>∃ y,look s x.1=some y/\wZ ⟨s,h,n⟩ k (bh h') y x.2) s') (hh:di (fun x=>look h x.1=some x.2) h') (hok:h'.all (fun x=>!Nat.beq x.1 k && x.2.ok (bh h'))=true)
  (hn:AL P W0 (fun _=>False) N T0 [] ops Q l ⟨s',h',n⟩):AL P W0 (fun _=>False) N T0 [] ops Q l ⟨s,h,n⟩:=fun a w hI=>hn a w (qX k hk hs hh hok hI)
theorem Fm {c:Code} (k:Nat) (hk:bh h k=true) (hs:di (fun x=>∃ y,look s x.1=some y/\wZ ⟨s,h,n⟩ k (bh h') y x.2) s') (hh:di (fun x=>look h x.1=some x.2) h') (hok:h'.all (fun x=>!Nat.beq x.1 k && x.2.ok (bh h'))=true)
  (hn:AC P W0 (fun _=>False) N T0 [] Q c ⟨s',h',n⟩):AC P W0 (fun _=>False) N T0 [] Q c ⟨s,h,n⟩:=fun a w hI=>hn a w (qX k hk hs hh hok hI)
end
end
section

section
variable {P:Program} {W0:World} {F:Nat->Prop} {N:NT} {T0:Nat->Prop} {pin:List (Nat×bM)} {Q:Exit->aF->Prop} {st:aF} {ops:Array Oper}
def AR (P:Program) (W0:World) (F:Nat->Prop) (N:NT) (T0:Nat->Prop) (pin:List (Nat×bM)) (ops:Array Oper) (Q:Exit->aF->Prop):Nat->Array Bool->aF->Prop
 |0,listed,st=>Region.ready .any ops listed=[]/\Q .normal st
 |f+1,listed,st=>Region.ready .any ops listed≠[]/\∀ i∈Region.ready .any ops listed,∀ a w,Inv W0 F N T0 pin st a w->wpOp P ops (QX W0 F N T0 pin Q) i (fun a' w'=>∃ st',AR P W0 F N T0 pin ops Q f (listed.setIfInBounds i true) st'/\Inv W0 F N T0 pin st' a' w') a w
def nQ (K:aF->Prop):Exit->aF->Prop:=fun e st'=>e=.normal/\K st'
theorem zU {o:Oper} {a:Act} {K:Act->World->Prop} {R S:Exit->Act->World->Prop} {r:Result Next} (hR:∀ e a w,e≠.normal->¬R e a w) (h:o.upon P a K R r):o.upon P a K S r:=by
 cases r with
 |ok n w'=>
  cases n<;>simp only [Oper.upon] at h ⊢<;>try exact h
  refine h.mono fun e w'' he=>?_
  cases e with
  |returned v=>exact he
  |panicked c=>exact absurd he (hR _ _ _ (fun e=>by cases e))
  |outgrown=>obtain ⟨_,_,h⟩:=he;exact absurd h (hR _ _ _ (fun e=>by cases e))
 |halt x w'=>cases x<;>simp only [Oper.upon] at h ⊢<;>first|exact h|exact absurd h (hR _ _ _ (fun e=>by cases e))
theorem AR.step {K:aF->Prop} {i:Nat} {o:Oper} (ho:ops[i]?=some o) (hal:AL P W0 F N T0 pin ops (nQ K) [o] st):∀ a w,Inv W0 F N T0 pin st a w->wpOp P ops (QX W0 F N T0 pin Q) i (fun a' w'=>∃ st',K st'/\Inv W0 F N T0 pin st' a' w') a w:=by
 intro a w hI
 have hR:∀ e a w,e≠.normal->¬QX W0 F N T0 pin (nQ K) e a w:=by
  rintro e a w he ⟨st',⟨h1,_⟩,_⟩;exact he h1
 have hN:∀ a w,QX W0 F N T0 pin (nQ K) .normal a w->∃ st',K st'/\Inv W0 F N T0 pin st' a w:=by
  rintro a w ⟨st',⟨_,h1⟩,h2⟩;exact ⟨st',h1,h2⟩
 have h:=hal a w hI
 unfold wpList at h
 unfold wpOp
 rw [ho]
 dsimp only
 split at h
 ·rename_i hw
  rw [if_pos hw]
  rcases h with h|⟨_,a1,w1,h⟩
  ·exact .inl (zU hR (gY h fun a w h=>hN a w h))
  ·exact absurd h (hR _ _ _ (fun e=>by cases e))
 ·rename_i hw
  rw [if_neg hw]
  exact hN _ _ h
theorem AR.more {f:Nat} {listed:Array Bool} {is:List Nat} (hr:Region.ready .any ops listed=is) (hne:is.isEmpty=false) (h:di (fun i=>∀ a w,Inv W0 F N T0 pin st a w->wpOp P ops (QX W0 F N T0 pin Q) i (fun a' w'=>∃ st',AR P W0 F N T0 pin ops Q f (listed.setIfInBounds i true) st'/\Inv W0 F N T0 pin st' a' w') a w) is):AR P W0 F N T0 pin ops Q (f+1) listed st:=by
 refine ⟨fun e=>?_,fun i hi=>h.mem i (hr▸hi)⟩
 rw [hr] at e;subst e;cases hne
end
end
section

def pe (aN:List bE) (x:Nat) (q:Nat):Bool:=match aN[q]? with
 |some r=>(match r.dst with
  |some d=>Nat.beq d x
  |none=>false)
 |none=>false
def ny (aN:List bE) (k:Nat) (q:Nat):Bool:=match aN[q]? with
 |some r=>dE k r.E||dE k (keys r.nb)
 |none=>false
def Db (aN:List bE) (k:Nat) (q:Nat):Bool:=match aN[q]? with
 |some r=>dE k (keys r.nb)
 |none=>false
def tO (ops:Array Oper) (n:Nat) (wr:Nat->Bool) (i:Nat):Option Nat->Bool
 |none=>(List.range n).all fun q=>Nat.beq q i||!wr q||fO ops q i
 |some j=>Nat.blt j n && fO ops i j && (List.range n).all fun q=>Nat.beq q i||Nat.beq q j||!wr q||fO ops q i||fO ops j q
def qO (ops:Array Oper) (n:Nat) (wr:Nat->Bool):Option Nat->Bool
 |none=>(List.range n).all fun q=>!wr q
 |some j=>Nat.blt j n && (List.range n).all fun q=>Nat.beq q j||!wr q||fO ops j q
def jG (aN:List bE) (pre:List Nat) (x:Nat):Option Nat:=pre.find? (pe aN x)
def jm (aN:List bE) (pre:List Nat) (k:Nat):Option Nat:=pre.find? (Db aN k)
def mS (ops:Array Oper) (aN:List bE) (N:Nat) (st fin:aF) (i:Nat) (r:bE):Bool:=
 (match ops[i]? with
  |some o=>(match o.dst,r.dst with
   |some d,some d'=>Nat.beq d d' && Nat.blt d N
   |none,none=>true
   |_,_=>false) && o.after.all (fun e=>!Region.binds .any e||Nat.blt e.on i)
  |none=>false) &&
 r.E.all (fun k=>dE k (keys r.h)) && ec (keys r.nb) &&
 r.nb.all (fun x=>Nat.blt x.1 fin.n && (dE x.1 r.E||(Nat.ble st.n x.1 && (List.range aN.length).all fun q=>Nat.beq q i||!ny aN x.1 q||fO ops q i))) &&
 r.s.all (fun x=>tO ops aN.length (pe aN x.1) i (jG aN r.pre x.1)) && r.h.all (fun x=>tO ops aN.length (ny aN x.1) i (jm aN r.pre x.1))
def rz (ops:Array Oper) (aN:List bE) (N:Nat) (st fin:aF):Nat->List bE->Bool
 |_,[]=>true
 |i,r::rs=>mS ops aN N st fin i r && rz ops aN N st fin (i+1) rs
def re (ops:Array Oper) (aN:List bE) (N:Nat) (st fin:aF) (fp:List Nat):Bool:=
 rz ops aN N st fin 0 aN && Nat.beq aN.length ops.size && Nat.ble st.n fin.n &&
 fin.s.all (fun x=>qO ops aN.length (pe aN x.1) (jG aN fp x.1)) && fin.h.all (fun x=>Nat.blt x.1 fin.n && qO ops aN.length (ny aN x.1) (jm aN fp x.1))
theorem tq {ops:Array Oper} {aN:List bE} {N:Nat} {st fin:aF}:∀ {rs:List bE} {i:Nat},rz ops aN N st fin i rs=true->∀ {j:Nat} {r:bE},rs[j]?=some r->mS ops aN N st fin (i+j) r=true
 |r::rs,i,h,0,r',hr=>by simp at hr;subst hr;simp only [rz,Bool.and_eq_true] at h;exact h.1
 |r::rs,i,h,j+1,r',hr=>by
  simp only [rz,Bool.and_eq_true] at h
  have:=tq (rs:=rs) (i:=i+1) h.2 (j:=j) (by simpa using hr)
  rwa [show i+1+j=i+(j+1) by omega] at this
 |[],_,_,_,_,hr=>by simp at hr
def lq (st:aF) (aN:List bE) (x:Nat) (v:AV):Option Nat->Prop
 |none=>look st.s x=some v
 |some j=>∃ q,aN[j]?=some q/\q.dst=some x/\q.v=v
def lr (st:aF) (aN:List bE) (k:Nat) (b:AB):Option Nat->Prop
 |none=>look st.h k=some b
 |some j=>∃ q,aN[j]?=some q/\(k,b)∈q.nb
def nw (st:aF) (aN:List bE):List bE->Prop
 |[]=>True
 |r::rs=>(di (fun x=>lq st aN x.1 x.2 (jG aN r.pre x.1)) r.s/\di (fun x=>lr st aN x.1 x.2 (jm aN r.pre x.1)) r.h)/\nw st aN rs
theorem nw.get {st:aF} {aN:List bE}:∀ {rs:List bE},nw st aN rs->∀ {r:bE},r∈rs->di (fun x=>lq st aN x.1 x.2 (jG aN r.pre x.1)) r.s/\di (fun x=>lr st aN x.1 x.2 (jm aN r.pre x.1)) r.h
 |r::rs,h,r',hr=>by
  rcases List.mem_cons.1 hr with rfl|hr
  ·exact h.1
  ·exact nw.get (rs:=rs) h.2 hr
def oJ (ops:Array Oper) (n:Nat):List Nat->Prop
 |[]=>True
 |j::ys=>(∀ q,q < n->fO ops j q=true->q∈ys)/\j ∉ ys/\oJ ops n ys
theorem oJ.wait {ops:Array Oper} {n:Nat}:∀ {d:List Nat},oJ ops n d->∀ {q i:Nat},q∈d->i < n->fO ops q i=true->i∈d
 |j::ys,h,q,i,hq,hi,hw=>by
  rcases List.mem_cons.1 hq with rfl|hq
  ·exact List.mem_cons_of_mem _ (h.1 i hi hw)
  ·exact List.mem_cons_of_mem _ (h.2.2.wait hq hi hw)
theorem oJ.split {ops:Array Oper} {n:Nat} {wr:Nat->Bool} {j:Nat}:∀ {d:List Nat},oJ ops n d->j∈d->(∀ q∈d,q < n)->(∀ q∈d,q≠j->wr q=true->fO ops j q=true)->∃ xs ys,d=xs++j::ys/\∀ q∈xs,wr q=false
 |k::ys,h,hj,hn,hc=>by
  by_cases e:k=j
  ·subst e;exact ⟨[],ys,rfl,fun q hq=>by cases hq⟩
  ·have hj':j∈ys:=(List.mem_cons.1 hj).resolve_left (Ne.symm e)
   obtain ⟨xs,zs,h1,h2⟩:=h.2.2.split hj' (fun q hq=>hn q (List.mem_cons_of_mem _ hq)) (fun q hq=>hc q (List.mem_cons_of_mem _ hq))
   refine ⟨k::xs,zs,by rw [h1];rfl,fun q hq=>?_⟩
   rcases List.mem_cons.1 hq with rfl|hq
   ·cases hw:wr q with
    |false=>rfl
    |true=>exact absurd (h.2.2.wait hj' (hn q List.mem_cons_self) (hc q List.mem_cons_self e hw)) h.2.1
   ·exact h2 q hq
section
variable {st:aF} {aN:List bE}
theorem yj {x q:Nat} {r:bE} (hr:aN[q]?=some r) (h:pe aN x q=false):r.dst≠some x:=fun e=>by
 unfold pe at h;rw [hr] at h;simp only [e] at h;rw [Nat.beq_refl] at h;cases h
theorem yk {k q:Nat} {r:bE} (hr:aN[q]?=some r) (h:ny aN k q=false):k ∉ keys r.nb/\k ∉ r.E:=by
 unfold ny at h;rw [hr] at h
 simp only [Bool.or_eq_false_iff] at h
 exact ⟨fun hk=>(Bool.eq_false_iff.1 h.2) (ey.2 hk),fun hk=>(Bool.eq_false_iff.1 h.1) (ey.2 hk)⟩
theorem CO {xs ys:List Nat} {j x:Nat} {r:bE} (hx:∀ q∈xs,pe aN x q=false) (hr:aN[j]?=some r) (hd:r.dst=some x):look (eH st aN (xs++j::ys)).s x=some r.v:=by
 induction xs with
 |nil=>
  rw [List.nil_append,gz hr,hd]
  show look ((x,r.v)::(eH st aN ys).s) x=_
  rw [bS,if_pos rfl]
 |cons q xs ih=>
  have ih:=ih fun p hp=>hx p (List.mem_cons_of_mem _ hp)
  rw [List.cons_append]
  cases hq:aN[q]? with
  |none=>rw [jK hq];exact ih
  |some r'=>
   rw [gz hq]
   have hne:=yj hq (hx q List.mem_cons_self)
   cases hd':r'.dst with
   |none=>exact ih
   |some d=>
    show look ((d,r'.v)::(eH st aN (xs++j::ys)).s) x=_
    rw [bS,if_neg (fun e=>hne (by rw [hd',e]))]
    exact ih
theorem rR {l:List (Nat×AB)} {k:Nat} (h:k ∉ keys l):look l k=none:=by
 cases hl:look l k with
 |none=>rfl
 |some b=>exact absurd (List.mem_map.2 ⟨(k,b),bH hl,rfl⟩) h
theorem CP {xs ys:List Nat} {j k:Nat} {b:AB} {r:bE} (hx:∀ q∈xs,ny aN k q=false) (hr:aN[j]?=some r) (hn:(keys r.nb).Nodup) (hb:(k,b)∈r.nb):look (eH st aN (xs++j::ys)).h k=some b:=by
 induction xs with
 |nil=>
  rw [List.nil_append,gz hr,tN]
  show look (r.nb++del r.E (eH st aN ys).h) k=_
  rw [gD,py hn hb,Option.some_or]
 |cons q xs ih=>
  have ih:=ih fun p hp=>hx p (List.mem_cons_of_mem _ hp)
  rw [List.cons_append]
  cases hq:aN[q]? with
  |none=>rw [jK hq];exact ih
  |some r'=>
   rw [gz hq,tN]
   obtain ⟨h1,h2⟩:=yk hq (hx q List.mem_cons_self)
   show look (r'.nb++del r'.E (eH st aN (xs++j::ys)).h) k=_
   rw [gD,rR h1,Option.none_or,jY h2]
   exact ih
end
theorem kg {n:Nat} {p:Nat->Bool} (h:(List.range n).all p=true) {q:Nat} (hq:q < n):p q=true:=List.all_eq_true.1 h q (List.mem_range.2 hq)
section
variable {P:Program} {W0:World} {F:Nat->Prop} {N:NT} {T0:Nat->Prop} {pin:List (Nat×bM)} {Q:Exit->aF->Prop} {st:aF}
theorem Bw {id:Nat} {l:List Oper} (aN:List bE) (fin:aF) (fp:List Nat) (hm:P.follows .mixedOrders=true) (hB:re l.toArray aN N.1 st fin fp=true) (hrows:iS P l.toArray aN l) (hsee:nw st aN aN)
  (hfin:di (fun x=>lq st aN x.1 x.2 (jG aN fp x.1)) fin.s/\di (fun x=>lr st aN x.1 x.2 (jm aN fp x.1)) fin.h) (hk:Q .normal fin):AC P W0 F N T0 pin Q (.region id l.toArray true) st:=by
 rintro a w ⟨σ0,T1,hT1,S0,hp0⟩
 unfold re at hB
 simp only [Bool.and_eq_true] at hB
 obtain ⟨⟨⟨⟨hall,hlen⟩,hfn⟩,hfs⟩,hfh⟩:=hB
 have hlen:=Nat.eq_of_beq_eq_true hlen
 have tab:∀ i r,aN[i]?=some r->mS l.toArray aN N.1 st fin i r=true:=fun i r hr=>by have:=tq hall hr;rwa [Nat.zero_add] at this
 have nbnd:∀ (i:Nat) (r:bE),aN[i]?=some r->(keys r.nb).Nodup:=fun i r hr=>by
  have:=tab i r hr
  simp only [mS,Bool.and_eq_true] at this
  exact jt this.1.1.1.2
 have nbk:∀ (i:Nat) (r:bE) k,aN[i]?=some r->k∈keys r.nb->k < fin.n/\(k∈r.E\/(st.n<=k/\∀ q,q < aN.length->q≠i->ny aN k q=true->fO l.toArray q i=true)):=fun i r k hr hk=>by
  have:=tab i r hr
  simp only [mS,Bool.and_eq_true] at this
  obtain ⟨x,hx,rfl⟩:=List.mem_map.1 hk
  have h1:=List.all_eq_true.1 this.1.1.2 x hx
  simp only [Bool.and_eq_true,Bool.or_eq_true,Nat.blt_eq] at h1
  refine ⟨h1.1,?_⟩
  rcases h1.2 with h2|⟨h2,h3⟩
  ·exact .inl (ey.1 h2)
  ·refine .inr ⟨Nat.le_of_ble_eq_true h2,fun q hq hne hw=>?_⟩
   have h4:=kg h3 hq
   simp only [Bool.or_eq_true,Bool.not_eq_true'] at h4
   rcases h4 with (h4|h4)|h4
   ·exact absurd (Nat.eq_of_beq_eq_true h4) hne
   ·rw [hw] at h4;cases h4
   ·exact h4
 have srcOK:∀ (wr:Nat->Bool) (i:Nat) (src:Option Nat),tO l.toArray aN.length wr i src=true->∀ (done:List Nat),oJ l.toArray aN.length done->(∀ q∈done,q < aN.length)->i ∉ done->i < aN.length->(∀ j,j < aN.length->fO l.toArray i j=true->j∈done)->
   (src=none/\∀ q∈done,wr q=false)\/∃ j xs ys,src=some j/\done=xs++j::ys/\∀ q∈xs,wr q=false:=by
  intro wr i src hok done hord hdn hi hilt hwait
  cases src with
  |none=>
   refine .inl ⟨rfl,fun q hq=>?_⟩
   cases hw:wr q with
   |false=>rfl
   |true=>
    have h:=kg hok (hdn q hq)
    simp only [Bool.or_eq_true,Bool.not_eq_true'] at h
    rcases h with (h|h)|h
    ·exact absurd (Nat.eq_of_beq_eq_true h▸hq) hi
    ·rw [hw] at h;cases h
    ·exact absurd (hord.wait hq hilt h) hi
  |some j=>
   simp only [tO,Bool.and_eq_true,Nat.blt_eq] at hok
   obtain ⟨⟨h1,h2⟩,h3⟩:=hok
   have hj:=hwait j h1 h2
   obtain ⟨xs,ys,h4,h5⟩:=hord.split (wr:=wr) hj hdn (fun q hq hne hw=>by
    have h:=kg h3 (hdn q hq)
    simp only [Bool.or_eq_true,Bool.not_eq_true'] at h
    rcases h with (((h|h)|h)|h)|h
    ·exact absurd (Nat.eq_of_beq_eq_true h▸hq) hi
    ·exact absurd (Nat.eq_of_beq_eq_true h) hne
    ·rw [hw] at h;cases h
    ·exact absurd (hord.wait hq hilt h) hi
    ·exact h)
   exact .inr ⟨j,xs,ys,rfl,h4,h5⟩
 have finOK:∀ (wr:Nat->Bool) (src:Option Nat),qO l.toArray aN.length wr src=true->∀ (done:List Nat),oJ l.toArray aN.length done->(∀ q∈done,q < aN.length)->(∀ q,q < aN.length->q∈done)->
   (src=none/\∀ q∈done,wr q=false)\/∃ j xs ys,src=some j/\done=xs++j::ys/\∀ q∈xs,wr q=false:=by
  intro wr src hok done hord hdn hall'
  cases src with
  |none=>
   refine .inl ⟨rfl,fun q hq=>?_⟩
   have h:=kg hok (hdn q hq)
   simpa using h
  |some j=>
   simp only [qO,Bool.and_eq_true,Nat.blt_eq] at hok
   obtain ⟨h1,h3⟩:=hok
   obtain ⟨xs,ys,h4,h5⟩:=hord.split (wr:=wr) (hall' j h1) hdn (fun q hq hne hw=>by
    have h:=kg h3 (hdn q hq)
    simp only [Bool.or_eq_true,Bool.not_eq_true'] at h
    rcases h with (h|h)|h
    ·exact absurd (Nat.eq_of_beq_eq_true h) hne
    ·rw [hw] at h;cases h
    ·exact h)
   exact .inr ⟨j,xs,ys,rfl,h4,h5⟩
 have gp:∀ (done:List Nat) x v src,lq st aN x v src->((src=none/\∀ q∈done,pe aN x q=false)\/∃ j xs ys,src=some j/\done=xs++j::ys/\∀ q∈xs,pe aN x q=false)->look (eH st aN done).s x=some v:=by
  intro done x v src hs hc
  rcases hc with ⟨rfl,hc⟩|⟨j,xs,ys,rfl,rfl,hc⟩
  ·rw [pU fun i hi r hr=>yj hr (hc i hi)];exact hs
  ·obtain ⟨q,h1,h2,rfl⟩:=hs
   exact CO hc h1 h2
 have fP:∀ (done:List Nat) k b src,lr st aN k b src->((src=none/\∀ q∈done,ny aN k q=false)\/∃ j xs ys,src=some j/\done=xs++j::ys/\∀ q∈xs,ny aN k q=false)->look (eH st aN done).h k=some b:=by
  intro done k b src hs hc
  rcases hc with ⟨rfl,hc⟩|⟨j,xs,ys,rfl,rfl,hc⟩
  ·rw [kv fun i hi r hr=>yk hr (hc i hi)];exact hs
  ·obtain ⟨q,h1,h2⟩:=hs
   exact CP hc h1 (nbnd j q h1) h2
 let InvD:Array Bool->Act->World->Prop:=fun listed a w=>HeadInv .any l.toArray aN.length listed/\∃ done:List Nat,(∀ i,i∈done↔i < aN.length/\listed.getD i false=true)/\oJ l.toArray aN.length done/\∃ σ T,(∀ b,b < W0.heap.size->(T b->T0 b)/\(T0 b->T b))/\rB W0 F N σ T (eH st aN done) a w/\(∀ k g,look pin k=some g->σ k=some g)/\
  ∀ k,st.n<=k->(∀ i∈done,∀ r,aN[i]?=some r->k ∉ keys r.nb)->σ k=none
 have step:∀ listed a w i o,InvD listed a w->l.toArray[i]?=some o->i < aN.length->i∈Region.ready .any l.toArray listed->wpOp P l.toArray (QX W0 F N T0 pin Q) i (InvD (listed.setIfInBounds i true)) a w:=by
  rintro listed a w i o ⟨H,done,hdone,hord,σ,T,hT,S,hp,hfresh⟩ ho hi hr
  obtain ⟨r,hri⟩:∃ r,aN[i]?=some r:=⟨_,List.getElem?_eq_getElem hi⟩
  have t:=tab i r hri
  simp only [mS,Bool.and_eq_true] at t
  obtain ⟨⟨⟨⟨⟨t1,t2⟩,_⟩,_⟩,t5⟩,t6⟩:=t
  obtain ⟨hun,o',ho',hallr⟩:=mem_ready.1 hr
  have hoo:o'=o:=Option.some.inj (ho'.symm.trans ho)
  subst hoo
  rw [ho] at t1
  simp only [Bool.and_eq_true] at t1
  have hnot:i ∉ done:=fun hm=>by have:=((hdone i).1 hm).2;rw [getD_both hun] at this;cases this
  have hdst:o'.dst=r.dst/\∀ d,o'.dst=some d->d < N.1:=by
   cases h1:o'.dst with
   |none=>cases h2:r.dst with
    |none=>exact ⟨rfl,fun d h=>by cases h⟩
    |some d=>rw [h1,h2] at t1;cases t1.1
   |some d=>cases h2:r.dst with
    |none=>rw [h1,h2] at t1;cases t1.1
    |some d'=>
     rw [h1,h2] at t1
     simp only [Bool.and_eq_true,Nat.blt_eq] at t1
     obtain rfl:=Nat.eq_of_beq_eq_true t1.1.1
     exact ⟨rfl,fun d'' h=>by injection h with h;subst h;exact t1.1.2⟩
  have hdn:∀ q∈done,q < aN.length:=fun q hq=>((hdone q).1 hq).1
  have hwait:∀ j,j < aN.length->fO l.toArray i j=true->j∈done:=fun j hj hw=>(hdone j).2 ⟨hj,nz H ho hallr hw⟩
  obtain ⟨hsS,hsH⟩:=hsee.get (List.mem_of_getElem? hri)
  have hs:∀ t x,look r.st.s t=some x->look (eH st aN done).s t=some x:=fun t x hx=>
   gp done t x _ (hsS.mem (t,x) (bH hx)) (srcOK _ i _ (List.all_eq_true.1 t5 (t,x) (bH hx)) done hord hdn hnot hi hwait)
  have hh:∀ k b,look r.st.h k=some b->look (eH st aN done).h k=some b:=fun k b hb=>
   fP done k b _ (hsH.mem (k,b) (bH hb)) (srcOK _ i _ (List.all_eq_true.1 t6 (k,b) (bH hb)) done hord hdn hnot hi hwait)
  have Cr:Core σ T r.st a w:=S.core.sub hs hh
  have fin':∀ σ' T' w' u,Ext σ T w σ' T' w' r.nb r.E->ew σ' T' w' r.v u->InvD (listed.setIfInBounds i true) (a.put o'.dst u) w':=by
   intro σ' T' w' u X hv
   refine ⟨H.set hr hi,i::done,fun j=>?_,⟨hwait,hnot,hord⟩,σ',T',fun b hb=>⟨fun hb'=>(hT b hb).1 (X.grow.kD b (Nat.lt_of_lt_of_le hb S.size) hb'),fun h0=>X.lN b ((hT b hb).2 h0)⟩,?_,fun k g hk=>X.grow.σle _ _ (hp k g hk),fun k hk hkn=>?_⟩
   ·rw [List.mem_cons]
    by_cases e:j=i
    ·subst e
     have hsz:j < listed.size:=by rw [H.size];omega
     simp [hi,hsz]
    ·rw [getD_set_ne false (Ne.symm e)]
     simp [e,hdone]
   ·rw [gz hri,hdst.1]
    refine S.step (fun e he=>?_) (fun d hd=>hdst.2 d (hdst.1▸hd)) X hv
    obtain ⟨⟨e',b⟩,hm,rfl⟩:=List.mem_map.1 (ey.1 (List.all_eq_true.1 t2 e he))
    cases hl:look r.h e' with
    |none=>exact absurd hl (jv hm)
    |some b'=>exact ⟨b',hh e' b' hl⟩
   ·rw [X.wO k fun b hb=>hkn i List.mem_cons_self r hri (List.mem_map.2 ⟨(k,b),hb,rfl⟩)]
    exact hfresh k hk fun j hj=>hkn j (List.mem_cons_of_mem _ hj)
  obtain ⟨o2,ho2,hro⟩:=hrows.get hri
  have:o2=o':=by
   have h1:l.toArray[i]?=some o2:=by simpa using ho2
   exact Option.some.inj (h1.symm.trans ho)
  subst this
  rcases hro with ⟨hw,hg⟩|⟨hw,hv,hnb,hE⟩
  ·refine qv ho (hw σ T a w Cr) (mG (gY (hg σ T a w Cr fun k b hk hkE=>?_) ?_))
   ·obtain ⟨_,h1|⟨h1,h2⟩⟩:=nbk i r k hri (List.mem_map.2 ⟨(k,b),hk,rfl⟩)
    ·exact absurd h1 hkE
    ·refine hfresh k h1 fun j hj q hq hkq=>?_
     have hne:j≠i:=fun e=>hnot (e▸hj)
     have hwq:ny aN k j=true:=by
      unfold ny;rw [hq];simp only [Bool.or_eq_true];exact .inr (ey.2 hkq)
     exact hnot (hord.wait hj hi (h2 j (hdn j hj) hne hwq))
   ·rintro a' w' ⟨u,σ',T',rfl,X,hv⟩
    exact fin' σ' T' w' u X hv
  ·refine nK ho (hw σ T a w Cr) (fin' σ T w undef ?_ ?_)
   ·rw [hnb,hE];exact Ext.same S.core.ep
   ·rw [hv];exact ⟨[],rfl,trivial⟩
 have atEnd:∀ listed a w,InvD listed a w->(∀ i,i < aN.length->listed.getD i false=true)->Inv W0 F N T0 pin fin a w:=by
  rintro listed a w ⟨H,done,hdone,hord,σ,T,hT,S,hp,hfresh⟩ hl
  have hdn:∀ q∈done,q < aN.length:=fun q hq=>((hdone q).1 hq).1
  have bL:∀ q,q < aN.length->q∈done:=fun q hq=>(hdone q).2 ⟨hq,hl q hq⟩
  have hs:∀ t x,look fin.s t=some x->look (eH st aN done).s t=some x:=fun t x hx=>
   gp done t x _ (hfin.1.mem (t,x) (bH hx)) (finOK _ _ (List.all_eq_true.1 hfs (t,x) (bH hx)) done hord hdn bL)
  have hfhx:∀ k b,look fin.h k=some b->k < fin.n/\qO l.toArray aN.length (ny aN k) (jm aN fp k)=true:=fun k b hb=>by
   have:=List.all_eq_true.1 hfh _ (bH hb)
   simpa only [Bool.and_eq_true,Nat.blt_eq] using this
  have hh:∀ k b,look fin.h k=some b->look (eH st aN done).h k=some b:=fun k b hb=>
   fP done k b _ (hfin.2.mem (k,b) (bH hb)) (finOK _ _ (hfhx k b hb).2 done hord hdn bL)
  refine ⟨σ,T,hT,⟨S.core.sub hs hh,S.os,S.tape,S.output,S.size,S.cx,fun k b g hk=>S.own k b g (hh k b hk),fun k hk=>?_,fun k b hk=>(hfhx k b hk).1,S.jk,S.iQ⟩,hp⟩
  have hk1:=Nat.le_of_ble_eq_true hfn
  exact hfresh k (by omega) fun i _ r hr hkr=>by have:=(nbk i r k hr hkr).1;omega
 have main:∀ k listed a1 w1,InvD listed a1 w1->ig aN.length listed=k->wpAny P .any l.toArray (QX W0 F N T0 pin Q) k listed a1 w1:=by
  intro k
  induction k with
  |zero=>
   intro listed a1 w1 I hk'
   have hl:∀ i,i < aN.length->listed.getD i false=true:=fun i hi=>by
    have h:=List.eq_nil_of_length_eq_zero hk'
    have h2:=List.filter_eq_nil_iff.1 h i (List.mem_range.2 hi)
    simpa using h2
   have hIf:=atEnd listed a1 w1 I hl
   refine ⟨List.eq_nil_iff_forall_not_mem.2 fun i hi=>?_,fin,hk,hIf⟩
   obtain ⟨h1,o,ho,_⟩:=mem_ready.1 hi
   have hi':i < l.toArray.size:=(Array.getElem?_eq_some_iff.1 ho).1
   have:=hl i (by omega)
   rw [getD_both h1] at this;cases this
  |succ k ih=>
   intro listed a1 w1 I hk'
   have hex:∃ i,i < aN.length/\listed.getD i false=false/\∀ j,j < i->listed.getD j false=true:=by
    have h1:∃ i,i < aN.length/\listed.getD i false=false:=by
     have hne:((List.range aN.length).filter fun i=>!listed.getD i false)≠[]:=fun e=>by unfold ig at hk';rw [e] at hk';cases hk'
     obtain ⟨x,hx⟩:=List.exists_mem_of_ne_nil _ hne
     obtain ⟨hx1,hx2⟩:=List.mem_filter.1 hx
     exact ⟨x,List.mem_range.1 hx1,by simpa using hx2⟩
    obtain ⟨i,hi,hmin⟩:=exists_least h1
    refine ⟨i,hi.1,hi.2,fun j hj=>?_⟩
    cases hjl:listed.getD j false with
    |true=>rfl
    |false=>exact absurd (hmin j ⟨by omega,hjl⟩) (by omega)
   obtain ⟨i0,hi0,hun0,hlow⟩:=hex
   have hopi:∀ i,i < aN.length->∃ o,l.toArray[i]?=some o:=fun i hi=>⟨_,Array.getElem?_eq_getElem (by omega)⟩
   have bL:∀ i,i < aN.length->listed.getD i false=false->listed.getD i true=false:=fun i hi h=>getD_in (by rw [I.1.size];omega) h
   have hready:i0∈Region.ready .any l.toArray listed:=by
    obtain ⟨o,ho⟩:=hopi i0 hi0
    obtain ⟨r,hr⟩:∃ r,aN[i0]?=some r:=⟨_,List.getElem?_eq_getElem hi0⟩
    have t:=tab i0 r hr
    simp only [mS,Bool.and_eq_true] at t
    have t1:=t.1.1.1.1.1
    rw [ho] at t1
    simp only [Bool.and_eq_true] at t1
    refine mem_ready.2 ⟨bL i0 hi0 hun0,o,ho,fun e he hb=>hlow _ ?_⟩
    have h3:=Array.all_eq_true'.1 t1.2 e he
    simp only [Bool.or_eq_true,Bool.not_eq_true',Nat.blt_eq] at h3
    exact h3.resolve_left (by rw [hb];simp)
   refine ⟨fun h=>(by rw [h] at hready;cases hready),fun i hi=>?_⟩
   have hilt:i < aN.length:=by
    obtain ⟨_,o,ho,_⟩:=mem_ready.1 hi
    have hi':i < l.toArray.size:=(Array.getElem?_eq_some_iff.1 ho).1
    omega
   obtain ⟨o,ho⟩:=hopi i hilt
   refine wpOp_mono (fun a' w' I'=>ih _ a' w' I' ?_) (step listed a1 w1 i o I ho hilt hi)
   have hunl:=getD_both (mem_ready.1 hi).1
   have hset:(listed.setIfInBounds i true).getD i false=true:=by
    have:i < listed.size:=by rw [I.1.size];omega
    simp [this]
   have:=count_set (p:=fun j=>!listed.getD j false) (q:=fun j=>!(listed.setIfInBounds i true).getD j false) (i:=i) (by simp only [hunl];rfl) (by simp only [hset];rfl)
    (fun j hj=>by simp only [getD_set_ne false (Ne.symm hj)]) (List.range aN.length) List.nodup_range (List.mem_range.2 hilt)
   unfold ig at hk' ⊢
   omega
 refine wp_region_any hm ?_
 have inv0:HeadInv .any l.toArray aN.length (Array.replicate l.toArray.size false):=
  ⟨by simp,fun j oj _ hl=>(by rw [getD_replicate_false] at hl;cases hl),fun t _ ht=>getD_in (by simpa using ht) (getD_replicate_false _ _)⟩
 have hw0:rB W0 F N σ0 T1 st a {w with drawn:=w.drawn+1}:=
  ⟨S0.core.drew,S0.os,S0.tape,S0.output,S0.size,S0.cx,S0.own,S0.next,S0.hn,S0.jk,S0.iQ⟩
 have I0:InvD (Array.replicate l.toArray.size false) a {w with drawn:=w.drawn+1}:=
  ⟨inv0,[],fun i=>by rw [getD_replicate_false];simp,trivial,σ0,T1,hT1,hw0,hp0,fun k hk _=>S0.next k hk⟩
 have:=main aN.length _ a _ I0 (by
  unfold ig
  rw [List.filter_eq_self.2 (fun i _=>by rw [getD_replicate_false];rfl),List.length_range])
 rw [hlen] at this
 exact this
end
end

structure ca where (aL az sum time:Int)
 deriving DecidableEq
structure cF where (time sum:Int)
 deriving DecidableEq
structure bj where (number kind ba sum:Int)
 deriving DecidableEq
structure Entry where (aR sum:Int)
 deriving DecidableEq
structure ak where (az ba kind sum:Int)
 deriving DecidableEq
structure dg where (aO count sum:Int)
 deriving DecidableEq
structure cX where (err at_:Int)
 deriving DecidableEq
structure bD where (bx held:Int) (bZ:dg) (cM:List cF)
 deriving DecidableEq
structure bV where (bW:Int) (kept:List bj)
 deriving DecidableEq
def rI (n:Int):List D:=[dI n]
def nB (n:Int):List D:=[.v (.int .u8 n)]
def hP (x:ca):List D:=[dI x.aL,dI x.az,dI x.sum,dI x.time]
def gJ (x:cF):List D:=[dI x.time,dI x.sum]
def fo (x:bj):List D:=[dI x.number,dI x.kind,dI x.ba,dI x.sum]
def eu (x:Entry):List D:=[dI x.aR,dI x.sum]
def gK (x:ak):List D:=[dI x.az,dI x.ba,dI x.kind,dI x.sum]
def tM (l:List cF):List D:=[.r 2 (l.map gJ)]
theorem De (l:List Int):∀ row∈l.map rI,∀ d∈row,d.oe=true:=by
 intro row hr d hd
 obtain ⟨x,_,rfl⟩:=List.mem_map.1 hr
 simp [rI] at hd
 subst hd;rfl
theorem Ci (l:List Int):∀ row∈l.map nB,∀ d∈row,d.oe=true:=by
 intro row hr d hd
 obtain ⟨x,_,rfl⟩:=List.mem_map.1 hr
 simp [nB] at hd
 subst hd;rfl
theorem As (l:List cF):∀ row∈l.map gJ,∀ d∈row,d.oe=true:=by
 intro row hr d hd
 obtain ⟨x,_,rfl⟩:=List.mem_map.1 hr
 simp [gJ] at hd
 rcases hd with rfl|rfl<;>rfl
theorem tC (l:List bj):∀ row∈l.map fo,∀ d∈row,d.oe=true:=by
 intro row hr d hd
 obtain ⟨x,_,rfl⟩:=List.mem_map.1 hr
 simp [fo] at hd
 rcases hd with rfl|rfl|rfl|rfl<;>rfl
theorem xA (l:List Entry):∀ row∈l.map eu,∀ d∈row,d.oe=true:=by
 intro row hr d hd
 obtain ⟨x,_,rfl⟩:=List.mem_map.1 hr
 simp [eu] at hd
 rcases hd with rfl|rfl<;>rfl
theorem vJ (l:List ak):∀ row∈l.map gK,∀ d∈row,d.oe=true:=by
 intro row hr d hd
 obtain ⟨x,_,rfl⟩:=List.mem_map.1 hr
 simp [gK] at hd
 rcases hd with rfl|rfl|rfl|rfl<;>rfl
def bl (n:Int):Bool:=decide (n>=0) && decide (n<=1000000)
structure bB where (aL az sum captured bz bm cQ:Int) (shut:Bool)
 deriving DecidableEq
def iO:bB:=⟨0,0,0,0,0,0,0,false⟩
def bG (a:bB):Int:=
 if a.sum < 0\/a.sum > 1000000\/a.captured < 0\/a.captured > 1000000\/a.bz < 0\/a.bz > 1000000\/a.bm < 0\/a.bm > 1000000\/a.aL < 0\/a.aL > 7\/a.az < 0\/a.az > 7\/a.cQ < 0\/a.cQ > 1000100 then 3
 else if a.sum < a.captured\/a.captured < a.bz+a.bm then 8 else 0
def cV (aL az n time:Int):bB×Int:=
 if n < 1\/n > 1000000\/time < 0\/time > 1000000\/aL < 0\/aL > 7\/az < 0\/az > 7 then (iO,3) else (⟨aL,az,n,0,0,0,time+100,false⟩,0)
def bK (a:bB):Int:=if a.shut=true then 0 else a.sum - a.captured
def dU (a:bB) (t:Int):bB:=⟨a.aL,a.az,a.sum,a.captured,a.bz,a.bm,a.cQ,a.shut||decide (a.cQ<=t)⟩
def dG (a:bB) (kind n:Int):bB×Int:=
 if a.shut=true then (a,9)
 else if kind=1 then (if n > 1000000 - a.sum then (a,4) else (⟨a.aL,a.az,a.sum+n,a.captured,a.bz,a.bm,a.cQ,false⟩,0))
 else if n > a.sum - a.captured then (a,10)
 else if kind=4 then (⟨a.aL,a.az,a.sum - n,a.captured,a.bz,a.bm,a.cQ,decide (a.sum - n=a.captured)⟩,0)
 else (⟨a.aL,a.az,a.sum,a.captured+n,a.bz,a.bm,a.cQ,decide (kind=3)||decide (a.captured+n=a.sum)⟩,0)
def ck (a:bB) (kind n:Int):bB×Int:=
 if bG a≠0 then (iO,bG a)
 else if kind < 1\/kind > 8 then (iO,1)
 else if n < 1\/n > 1000000 then (iO,3)
 else if kind=5 then (if n > a.captured - a.bz - a.bm then (iO,10) else (⟨a.aL,a.az,a.sum,a.captured,a.bz+n,a.bm,a.cQ,a.shut⟩,0))
 else if kind=6 then (if n > a.captured - a.bz - a.bm then (iO,10) else (⟨a.aL,a.az,a.sum,a.captured,a.bz,a.bm+n,a.cQ,a.shut⟩,0))
 else if kind=7 then (if n > a.bm then (iO,10) else (⟨a.aL,a.az,a.sum,a.captured,a.bz+n,a.bm - n,a.cQ,a.shut⟩,0))
 else if kind=8 then (if n > a.bm then (iO,10) else (⟨a.aL,a.az,a.sum,a.captured,a.bz,a.bm - n,a.cQ,a.shut⟩,0))
 else if (dG a kind n).2≠0 then (iO,(dG a kind n).2) else dG a kind n
theorem eI {a:bB} (h:bG a=0):0<=a.sum/\a.sum<=1000000/\0<=a.captured/\a.captured<=a.sum/\0<=a.bz/\0<=a.bm/\a.bz+a.bm<=a.captured/\0<=a.aL/\a.aL<=7/\0<=a.az/\a.az<=7/\0<=a.cQ/\a.cQ<=1000100:=by
 unfold bG at h
 split at h
 ·cases h
 ·split at h
  ·cases h
  ·omega
theorem qJ {a:bB} (h:0<=a.sum/\a.sum<=1000000/\0<=a.captured/\a.captured<=a.sum/\0<=a.bz/\0<=a.bm/\a.bz+a.bm<=a.captured/\0<=a.aL/\a.aL<=7/\0<=a.az/\a.az<=7/\0<=a.cQ/\a.cQ<=1000100):bG a=0:=by
 unfold bG
 rw [if_neg (by omega),if_neg (by omega)]
inductive jE (a:bB) (kind n:Int):bB->Prop
 |more (h:kind=1) (hs:a.shut=false) (hn:n<=1000000 - a.sum):jE a kind n ⟨a.aL,a.az,a.sum+n,a.captured,a.bz,a.bm,a.cQ,false⟩
 |take (h:kind=2\/kind=3) (hs:a.shut=false) (hn:n<=a.sum - a.captured):jE a kind n ⟨a.aL,a.az,a.sum,a.captured+n,a.bz,a.bm,a.cQ,decide (kind=3)||decide (a.captured+n=a.sum)⟩
 |less (h:kind=4) (hs:a.shut=false) (hn:n<=a.sum - a.captured):jE a kind n ⟨a.aL,a.az,a.sum - n,a.captured,a.bz,a.bm,a.cQ,decide (a.sum - n=a.captured)⟩
 |uv (h:kind=5) (hn:n<=a.captured - a.bz - a.bm):jE a kind n ⟨a.aL,a.az,a.sum,a.captured,a.bz+n,a.bm,a.cQ,a.shut⟩
 |rZ (h:kind=6) (hn:n<=a.captured - a.bz - a.bm):jE a kind n ⟨a.aL,a.az,a.sum,a.captured,a.bz,a.bm+n,a.cQ,a.shut⟩
 |rW (h:kind=7) (hn:n<=a.bm):jE a kind n ⟨a.aL,a.az,a.sum,a.captured,a.bz+n,a.bm - n,a.cQ,a.shut⟩
 |rV (h:kind=8) (hn:n<=a.bm):jE a kind n ⟨a.aL,a.az,a.sum,a.captured,a.bz,a.bm - n,a.cQ,a.shut⟩
theorem pY {a:bB} {kind n:Int} {b:bB} {e:Int} (h:ck a kind n=(b,e)):(e≠0/\b=iO)\/(e=0/\bG a=0/\1<=n/\n<=1000000/\jE a kind n b):=by
 unfold ck at h
 split at h
 ·rename_i h1;injection h with h2 h3;exact .inl ⟨h3▸h1,h2.symm⟩
 rename_i h1
 have h1:bG a=0:=by omega
 split at h
 ·injection h with h2 h3;exact .inl ⟨by omega,h2.symm⟩
 split at h
 ·injection h with h2 h3;exact .inl ⟨by omega,h2.symm⟩
 split at h
 ·split at h
  ·injection h with h2 h3;exact .inl ⟨by omega,h2.symm⟩
  ·injection h with h2 h3;subst h2;exact .inr ⟨h3.symm,h1,by omega,by omega,.uv (by omega) (by omega)⟩
 split at h
 ·split at h
  ·injection h with h2 h3;exact .inl ⟨by omega,h2.symm⟩
  ·injection h with h2 h3;subst h2;exact .inr ⟨h3.symm,h1,by omega,by omega,.rZ (by omega) (by omega)⟩
 split at h
 ·split at h
  ·injection h with h2 h3;exact .inl ⟨by omega,h2.symm⟩
  ·injection h with h2 h3;subst h2;exact .inr ⟨h3.symm,h1,by omega,by omega,.rW (by omega) (by omega)⟩
 split at h
 ·split at h
  ·injection h with h2 h3;exact .inl ⟨by omega,h2.symm⟩
  ·injection h with h2 h3;subst h2;exact .inr ⟨h3.symm,h1,by omega,by omega,.rV (by omega) (by omega)⟩
 split at h
 ·rename_i h4;injection h with h2 h3;exact .inl ⟨h3▸h4,h2.symm⟩
 ·rename_i h4
  unfold dG at h h4
  split at h
  ·rename_i h5;rw [if_pos h5] at h4;simp at h4
  rename_i h5
  rw [if_neg h5] at h4
  have h5:a.shut=false:=by simpa using h5
  split at h
  ·rename_i h6;rw [if_pos h6] at h4
   split at h
   ·rename_i h7;rw [if_pos h7] at h4;simp at h4
   ·injection h with h2 h3;subst h2;exact .inr ⟨h3.symm,h1,by omega,by omega,.more (by omega) h5 (by omega)⟩
  rename_i h6;rw [if_neg h6] at h4
  split at h
  ·rename_i h7;rw [if_pos h7] at h4;simp at h4
  split at h
  ·injection h with h2 h3;subst h2;exact .inr ⟨h3.symm,h1,by omega,by omega,.less (by omega) h5 (by omega)⟩
  ·injection h with h2 h3;subst h2;exact .inr ⟨h3.symm,h1,by omega,by omega,.take (by omega) h5 (by omega)⟩
theorem vI {a b:bB} {kind n:Int} (h:bG a=0) (h1:1<=n) (h2:n<=1000000) (hm:jE a kind n b):bG b=0:=by
 have hr:=eI h
 cases hm<;>exact qJ (by dsimp only;omega)
theorem vx {a b:bB} (h1:a.aL=b.aL) (h2:a.az=b.az) (h3:a.sum=b.sum) (h4:a.captured=b.captured) (h5:a.bz=b.bz) (h6:a.bm=b.bm) (h7:a.cQ=b.cQ) (h8:a.shut=b.shut):a=b:=by
 cases a;cases b;simp_all
theorem pw {a b:bB} {kind n:Int} (h:ck a kind n=(b,0)):bG b=0/\b.aL=a.aL/\b.az=a.az/\b.cQ=a.cQ/\(a.shut=true->b.shut=true)/\0<=b.sum - b.captured/\b.bz+b.bm<=b.captured/\a.captured<=b.captured/\a.bz<=b.bz:=by
 rcases pY h with ⟨h1,_⟩|⟨_,hw,h1,h2,hm⟩
 ·exact absurd rfl h1
 have hb:=vI hw h1 h2 hm
 have hr:=eI hw
 have hrb:=eI hb
 cases hm<;>refine ⟨hb,rfl,rfl,rfl,?_⟩<;>simp_all<;>omega
theorem qj {α:Type} {l:List α} {q:Nat} {x:α} (h:l[q]?=some x):l.drop q=x::l.drop (q+1):=by
 obtain ⟨hq,rfl⟩:=List.getElem?_eq_some_iff.1 h
 exact List.drop_eq_getElem_cons hq
theorem il {α:Type} {l:List α} {q:Nat} {x:α} (h:l[q]?=some x):l.take (q+1)=l.take q++[x]:=by
 obtain ⟨hq,rfl⟩:=List.getElem?_eq_some_iff.1 h
 exact List.take_succ_eq_append_getElem hq
structure cv where (cap:Int) (used:List Int) (aY:List ca)
 deriving DecidableEq

def gh (n:Int):Bool:=decide (0<=n/\n<=1000000)
def gj (ao:Nat) (a:ca):Bool:=
 decide (0<=a.aL/\a.aL < ao/\0<=a.az/\a.az<=7/\1<=a.sum/\a.sum<=1000000/\0<=a.time/\a.time<=1000000)
def given (k:Int):List ca->Int
 |[]=>0
 |a::l=>(if a.aL=k then a.sum else 0)+given k l
def eL (cap:Int) (advs:List ca):Int->List Int->Int
 |_,[]=>0
 |k,n::l=>if n=given k advs/\n<=cap then eL cap advs (k+1) l else 8
def bT (s:cv):Int:=
 if 8 < s.used.length\/20 < s.aY.length then 5
 else if ¬gh s.cap then 3
 else if ¬s.aY.all (gj s.used.length) then 3
 else eL s.cap s.aY 0 s.used
def fv:cv:={cap:=0,used:=[],aY:=[]}
def dy (limit ao:Int):cv×Int:=
 if ao < 0\/8 < ao then (fv,5) else if ¬gh limit then (fv,3) else ({cap:=limit,used:=List.replicate ao.toNat 0,aY:=[]},0)
def cg (s:cv) (a:ca):cv×Int:=
 if bT s≠0 then (fv,bT s)
 else if 20<=s.aY.length then (fv,5)
 else if ¬gj s.used.length a then (fv,3)
 else if s.cap < s.used.getD a.aL.toNat 0+a.sum then (fv,10)
 else ({cap:=s.cap,used:=s.used.set a.aL.toNat (s.used.getD a.aL.toNat 0+a.sum),aY:=s.aY++[a]},0)
def cU (s:cv):cv×List ca×Int:=
 if bT s≠0 then (fv,[],bT s) else ({cap:=s.cap,used:=List.replicate s.used.length 0,aY:=[]},s.aY,0)

theorem qZ (k:Int) (l:List ca) (a:ca):given k (l++[a])=given k l+if a.aL=k then a.sum else 0:=by
 induction l with
 |nil=>simp [given]
 |cons x l ih=>simp only [List.cons_append,given,ih];omega
theorem pz (c:Nat) (k:Int) (l:List ca) (h:l.all (gj c)=true):0<=given k l/\given k l<=1000000 * l.length:=by
 induction l with
 |nil=>simp [given]
 |cons x l ih=>
  simp only [List.all_cons,Bool.and_eq_true,gj,decide_eq_true_eq] at h
  have:=ih h.2
  simp only [given,List.length_cons]
  split<;>omega
theorem Ed {α:Type} {p:α->Bool} {l:List α} {q:Nat} {x:α} (h:l[q]?=some x) (hx:p x=false):l.all p=false:=by
 rw [List.all_eq_false]
 exact ⟨x,List.mem_of_getElem? h,by simp [hx]⟩
theorem wV {α:Type} {p:α->Bool} {l:List α} {q:Nat} {x:α} (ht:(l.take q).all p=true) (h:l[q]?=some x) (hx:p x=true):(l.take (q+1)).all p=true:=by
 rw [il h,List.all_append,ht];simp [hx]
theorem nJ {s:cv} (h:8 < s.used.length\/20 < s.aY.length):bT s=5:=by unfold bT;rw [if_pos h]
theorem mj {s:cv} (h:¬(8 < s.used.length\/20 < s.aY.length)) (hc:gh s.cap=false):bT s=3:=by unfold bT;rw [if_neg h,hc];rfl
theorem jF {s:cv} (h:¬(8 < s.used.length\/20 < s.aY.length)) (hc:gh s.cap=true) (ha:s.aY.all (gj s.used.length)=false):bT s=3:=by
 unfold bT;rw [if_neg h,hc,ha];rfl
theorem fZ {s:cv} (h:¬(8 < s.used.length\/20 < s.aY.length)) (hc:gh s.cap=true) (ha:s.aY.all (gj s.used.length)=true):bT s=eL s.cap s.aY 0 s.used:=by
 unfold bT;rw [if_neg h,hc,ha];rfl


theorem gF (cap:Int) (advs:List ca):∀ (l:List Int) (k:Int),eL cap advs k l=0↔∀ (i:Nat) (x:Int),l[i]?=some x->x=given (k+i) advs/\x<=cap
 |[],k=>by simp [eL]
 |n::l,k=>by
  rw [eL]
  constructor
  ·intro h i x hx
   split at h
   ·rename_i hc
    rcases i with _|i
    ·simp at hx;subst hx;simpa using hc
    ·have:=(gF cap advs l (k+1)).1 h i x (by simpa using hx)
     rw [show k+((i+1:Nat):Int)=k+1+i by omega];exact this
   ·cases h
  ·intro h
   rw [if_pos (by simpa using h 0 n rfl)]
   exact (gF cap advs l (k+1)).2 fun i x hx=>by
    have:=h (i+1) x (by simpa using hx)
    rwa [show k+((i+1:Nat):Int)=k+1+i by omega] at this
theorem pA (cap:Int) (advs:List ca):∀ (l:List Int) (k:Int),eL cap advs k l=0\/eL cap advs k l=8
 |[],_=>.inl rfl
 |n::l,k=>by
  rw [eL]
  split
  ·exact pA cap advs l (k+1)
  ·exact .inr rfl
theorem gC {s:cv} (h:bT s=0):s.used.length<=8/\s.aY.length<=20/\gh s.cap=true/\s.aY.all (gj s.used.length)=true/\eL s.cap s.aY 0 s.used=0:=by
 by_cases h1:8 < s.used.length\/20 < s.aY.length
 ·rw [nJ h1] at h;omega
 ·cases hc:gh s.cap with
  |false=>rw [mj h1 hc] at h;omega
  |true=>
   cases ha:s.aY.all (gj s.used.length) with
   |false=>rw [jF h1 hc ha] at h;omega
   |true=>rw [fZ h1 hc ha] at h;exact ⟨by omega,by omega,rfl,rfl,h⟩
theorem uQ {s:cv} {a:ca} (h:bT s=0) (hm:s.aY.length < 20) (ha:gj s.used.length a=false) (u:List Int) (hu:u.length=s.used.length):bT {cap:=s.cap,used:=u,aY:=s.aY++[a]}=3:=by
 obtain ⟨h1,h2,h3,h4,h5⟩:=gC h
 exact jF (by simp only [List.length_append,List.length_singleton];omega) h3 (by simp [hu,ha])
theorem Ay {s:cv} {a:ca} (h:bT s=0) (hm:s.aY.length < 20) (ha:gj s.used.length a=true):
  bT {cap:=s.cap,used:=s.used.set a.aL.toNat (s.used.getD a.aL.toNat 0+a.sum),aY:=s.aY++[a]}=if s.cap < s.used.getD a.aL.toNat 0+a.sum then 8 else 0:=by
 obtain ⟨h1,h2,h3,h4,h5⟩:=gC h
 have hok:=ha
 simp only [gj,decide_eq_true_eq] at hok
 have hlt:a.aL.toNat < s.used.length:=by omega
 have hgx:s.used[a.aL.toNat]?=some s.used[a.aL.toNat]:=List.getElem?_eq_getElem hlt
 have hgd:s.used.getD a.aL.toNat 0=s.used[a.aL.toNat]:=by simp [hlt]
 have hu:(s.used.set a.aL.toNat (s.used.getD a.aL.toNat 0+a.sum)).length=s.used.length:=List.length_set
 have h6:bT {cap:=s.cap,used:=s.used.set a.aL.toNat (s.used.getD a.aL.toNat 0+a.sum),aY:=s.aY++[a]}=eL s.cap (s.aY++[a]) 0 (s.used.set a.aL.toNat (s.used.getD a.aL.toNat 0+a.sum)):=by
  refine fZ ?_ h3 ?_
  ·simp only [List.length_append,List.length_singleton,hu];omega
  ·simp only [hu,List.all_append,h4,List.all_cons,ha,List.all_nil];rfl
 rw [h6]
 have key:=(gF s.cap s.aY s.used 0).1 h5
 by_cases hc:s.cap < s.used.getD a.aL.toNat 0+a.sum
 ·rw [if_pos hc]
  rcases pA s.cap (s.aY++[a]) (s.used.set a.aL.toNat (s.used.getD a.aL.toNat 0+a.sum)) 0 with h0|h0
  ·have:=(gF _ _ _ _).1 h0 a.aL.toNat (s.used.getD a.aL.toNat 0+a.sum) (by simp [hlt])
   omega
  ·exact h0
 ·rw [if_neg hc]
  refine (gF _ _ _ _).2 fun i x hx=>?_
  rw [List.getElem?_set] at hx
  rw [qZ]
  by_cases e:a.aL.toNat=i
  ·rw [if_pos e,if_pos (by omega)] at hx
   injection hx with hx
   have:=key i s.used[a.aL.toNat] (by rw [<-e];exact hgx)
   rw [if_pos (by omega)]
   omega
  ·rw [if_neg e] at hx
   have:=key i x hx
   rw [if_neg (by omega)]
   omega

theorem kL {s:cv} {a:ca} (h:bT s=0) (hm:s.aY.length < 20):
  (bT {cap:=s.cap,used:=s.used.set a.aL.toNat (s.used.getD a.aL.toNat 0+a.sum),aY:=s.aY++[a]}=3/\cg s a=(fv,3))\/
  (bT {cap:=s.cap,used:=s.used.set a.aL.toNat (s.used.getD a.aL.toNat 0+a.sum),aY:=s.aY++[a]}=8/\cg s a=(fv,10))\/
  (bT {cap:=s.cap,used:=s.used.set a.aL.toNat (s.used.getD a.aL.toNat 0+a.sum),aY:=s.aY++[a]}=0/\
   cg s a=({cap:=s.cap,used:=s.used.set a.aL.toNat (s.used.getD a.aL.toNat 0+a.sum),aY:=s.aY++[a]},0)):=by
 cases ha:gj s.used.length a with
 |false=>exact .inl ⟨uQ h hm ha _ List.length_set,by unfold cg;rw [if_neg (by simp [h]),if_neg (by omega),ha];rfl⟩
 |true=>
  rw [Ay h hm ha]
  by_cases hc:s.cap < s.used.getD a.aL.toNat 0+a.sum
  ·exact .inr (.inl ⟨if_pos hc,by unfold cg;rw [if_neg (by simp [h]),if_neg (by omega),if_neg (by simp [ha]),if_pos hc]⟩)
  ·exact .inr (.inr ⟨if_neg hc,by unfold cg;rw [if_neg (by simp [h]),if_neg (by omega),if_neg (by simp [ha]),if_neg hc]⟩)
theorem qb {s:cv} {a:ca} (h:bT s=0) (hm:s.aY.length < 20) (ha:¬(0<=a.aL/\a.aL < s.used.length/\1<=a.sum/\a.sum<=1000000)):
  bT {cap:=s.cap,used:=s.used,aY:=s.aY++[a]}=3/\cg s a=(fv,3):=by
 have ha:gj s.used.length a=false:=by simp only [gj,decide_eq_false_iff_not];omega
 exact ⟨uQ h hm ha _ rfl,by unfold cg;rw [if_neg (by simp [h]),if_neg (by omega),ha];rfl⟩
theorem xD {s:cv} {a:ca} (h:bT s≠0):cg s a=(fv,bT s):=by unfold cg;rw [if_pos h]
theorem tb {s:cv} {a:ca} (h:bT s=0) (hm:s.aY.length=20):cg s a=(fv,5):=by unfold cg;rw [if_neg (by simp [h]),if_pos (by omega)]
theorem qw {s:cv} (h:bT s=0) {i:Nat} {x:Int} (hx:s.used[i]?=some x):0<=x/\x<=1000000:=by
 obtain ⟨h1,h2,h3,h4,h5⟩:=gC h
 have:=(gF s.cap s.aY s.used 0).1 h5 i x hx
 have hg:=pz s.used.length (0+i) s.aY h4
 simp only [gh,decide_eq_true_eq] at h3
 omega

theorem tz {l c:Int} (h:c < 0\/8 < c):dy l c=(fv,5):=by unfold dy;rw [if_pos h]
theorem rQ {l c:Int} (h:¬(c < 0\/8 < c)) (h':¬(0<=l/\l<=1000000)):dy l c=(fv,3):=by unfold dy;rw [if_neg h,if_pos (by simpa [gh] using h')]
theorem px {l:Int} {c:Nat} (h:c<=8) (h':0<=l/\l<=1000000):dy l c=({cap:=l,used:=List.replicate c 0,aY:=[]},0):=by
 unfold dy;rw [if_neg (by omega),if_neg (by simpa [gh] using h')];simp

theorem xE {s:cv} {a:ca} (h:bT s=0) (hg:(cg s a).2=0):
  bT (cg s a).1=0/\(cg s a).1.cap=s.cap/\(cg s a).1.used.length=s.used.length/\(cg s a).1.aY=s.aY++[a]/\s.aY.length < 20:=by
 have hp:=gC h
 by_cases hm:s.aY.length=20
 ·rw [tb h hm] at hg;cases hg
 ·have hm:s.aY.length < 20:=by omega
  rcases kL (a:=a) h hm with ⟨_,h2⟩|⟨_,h2⟩|⟨h1,h2⟩
  ·rw [h2] at hg;cases hg
  ·rw [h2] at hg;cases hg
  ·rw [h2];exact ⟨h1,rfl,List.length_set,rfl,hm⟩
theorem sP (l:Int) (n:Nat) (hn:n<=8) (h0:0<=l) (h1:l<=1000000):bT {cap:=l,used:=List.replicate n 0,aY:=[]}=0:=by
 rw [fZ (by simp;omega) (by simp [gh];omega) (by simp)]
 refine (gF _ _ _ _).2 fun i x hx=>?_
 obtain ⟨_,rfl⟩:=List.getElem?_eq_some_iff.1 hx
 simp [given];omega


def iw (n:Nat) (l:List ca):List Int:=(List.range n).map fun (k:Nat)=>given (k:Int) l
theorem df (n:Nat) (l:List ca):(iw n l).length=n:=by simp [iw]
theorem yu (n:Nat):List.replicate n 0=iw n []:=by simp [iw,given,List.map_const']
theorem ss {n:Nat} {l:List ca} {i:Nat} {x:Int} (h:(iw n l)[i]?=some x):x=given (i:Int) l:=by
 simp only [iw,List.getElem?_map,Option.map_eq_some_iff] at h
 obtain ⟨k,hk,rfl⟩:=h
 obtain ⟨h1,rfl⟩:=List.getElem?_eq_some_iff.1 hk
 simp
theorem yr {n:Nat} {l:List ca} {a:ca} {i:Nat} {v:Int} (h0:a.aL=(i:Int)) (h1:i < n) (hv:v=given a.aL l+a.sum):(iw n l).set i v=iw n (l++[a]):=by
 apply List.ext_getElem?
 intro j
 rw [List.getElem?_set]
 simp only [iw,List.length_map,List.length_range,List.getElem?_map,qZ]
 by_cases hj:j < n
 ·rw [List.getElem?_range hj,Option.map_some,Option.map_some]
  by_cases e:i=j
  ·rw [if_pos e,if_pos h1,if_pos (by omega),hv,h0,e]
  ·rw [if_neg e,if_neg (by omega),Int.add_zero]
 ·rw [if_neg (by omega),List.getElem?_eq_none (by simpa using hj)]
  rfl
structure aV where (id kind n az move sum:Int)
 deriving DecidableEq
structure Answer where (err ba:Int)
 deriving DecidableEq
structure cc where (cu:bj) (seen:Int)
 deriving DecidableEq
def oR (x:bD):List D:=[dI x.bx,dI x.held,dI x.bZ.aO,dI x.bZ.count,dI x.bZ.sum,.r 2 (x.cM.map gJ)]
def ix (x:bB):List D:=[dI x.aL,dI x.az,dI x.sum,dI x.captured,dI x.bz,dI x.bm,dI x.cQ,dB x.shut]
def fc (x:cc):List D:=[dI x.cu.number,dI x.cu.kind,dI x.cu.ba,dI x.cu.sum,dI x.seen]
def kR (x:Answer):List D:=[dI x.err,dI x.ba]
def cP (x:aV):List D:=[dI x.id,dI x.kind,dI x.n,dI x.az,dI x.move,dI x.sum]
def fR (x:dg):List D:=[dI x.aO,dI x.count,dI x.sum]
def rO (x:List Int):List D:=[.r 1 (x.map nB)]
theorem yY (l:List bB):∀ row∈l.map ix,∀ d∈row,d.oe=true:=by
 intro row hr d hd
 obtain ⟨x,_,rfl⟩:=List.mem_map.1 hr
 simp only [ix,List.mem_cons,List.not_mem_nil,or_false] at hd
 rcases hd with rfl|rfl|rfl|rfl|rfl|rfl|rfl|rfl<;>rfl

def gn (l:List Int):CV:=cR 1 (l.map rI)
def dC (l:List Int):AB:=.arr 3 1 (l.map rI)
def fj (l:List cF):CV:=cR 2 (l.map gJ)
def DS (l:List cF):D:=.r 2 (l.map gJ)
def oH (l:List cF):AB:=.arr 125 2 (l.map gJ)
def gI (l:List ca):CV:=cR 4 (l.map hP)
def zK (l:List ca):AB:=.arr 107 4 (l.map hP)
def de (l:List bj):CV:=cR 4 (l.map fo)
def wW (l:List bj):AB:=.arr 80 4 (l.map fo)
def dP (l:List Entry):CV:=cR 2 (l.map eu)
def lp (l:List Entry):AB:=.arr 115 2 (l.map eu)
def iJ (l:List ak):CV:=cR 4 (l.map gK)
def cK (l:List ak):AB:=.arr 83 4 (l.map gK)
def CG (l:List bD):CV:=cR 6 (l.map oR)
def dK (l:List bD):AB:=.arr 61 6 (l.map oR)
def yl (l:List bB):CV:=cR 8 (l.map ix)
def dS (l:List bB):AB:=.arr 67 8 (l.map ix)
def ej (l:List cc):CV:=cR 5 (l.map fc)
def Ef (l:List cc):AB:=.arr 113 5 (l.map fc)
def BB (l:List Answer):CV:=cR 2 (l.map kR)
def Ee (l:List Answer):AB:=.arr 65 2 (l.map kR)
def pf (l:List aV):CV:=cR 6 (l.map cP)
def tw (l:List aV):AB:=.arr 27 6 (l.map cP)
def CH (l:List Int):CV:=cR 1 (l.map nB)
def wX (l:List Int):AB:=.arr 5 1 (l.map nB)
def CF (l:List (List Int)):CV:=cR 1 (l.map rO)
def pJ (l:List (List Int)):AB:=.arr 86 1 (l.map rO)

theorem fX:(Try.prog.info? 3).map (fun i=>i.size)=some 1:=by kernel_rfl
theorem Fs:(Try.prog.info? 27).map (fun i=>i.size)=some 6:=by kernel_rfl
theorem lV:(Try.prog.info? 34).map (fun i=>i.size)=some 2:=by kernel_rfl
theorem ku:(Try.prog.info? 37).map (fun i=>i.size)=some 1:=by kernel_rfl
theorem CK:(Try.prog.info? 58).map (fun i=>i.size)=some 3:=by kernel_rfl
theorem Fq:(Try.prog.info? 59).map (fun i=>i.size)=some 1:=by kernel_rfl
theorem iH:(Try.prog.info? 61).map (fun i=>i.size)=some 6:=by kernel_rfl
theorem ua:(Try.prog.info? 65).map (fun i=>i.size)=some 2:=by kernel_rfl
theorem lU:(Try.prog.info? 67).map (fun i=>i.size)=some 8:=by kernel_rfl
theorem lT:(Try.prog.info? 80).map (fun i=>i.size)=some 4:=by kernel_rfl
theorem dk:(Try.prog.info? 83).map (fun i=>i.size)=some 4:=by kernel_rfl
theorem BC:(Try.prog.info? 107).map (fun i=>i.size)=some 4:=by kernel_rfl
theorem tL:(Try.prog.info? 113).map (fun i=>i.size)=some 5:=by kernel_rfl
theorem dZ:(Try.prog.info? 115).map (fun i=>i.size)=some 2:=by kernel_rfl
theorem ia:(Try.prog.info? 125).map (fun i=>i.size)=some 2:=by kernel_rfl
theorem Bx:(Try.prog.info? 3).bind (fun i=>i.zero)=some (.int .i64 0):=by kernel_rfl
theorem Fa:Fk Try.prog 61 [.int .i64 0,.int .i64 0,.int .i64 0,.int .i64 0,.int .i64 0,.slice none 0 0] [(0,1),(1,1),(2,3),(5,1)]:=⟨by kernel_rfl,by kernel_rfl⟩
theorem Fp:(Try.prog.info? 65).bind (fun i=>i.zero)=some (.agg #[.int .i64 0,.int .i64 0]):=by kernel_rfl
theorem Fo:(Try.prog.info? 80).bind (fun i=>i.zero)=some (.agg #[.int .i64 0,.int .i64 0,.int .i64 0,.int .i64 0]):=by kernel_rfl
theorem Bz:(Try.prog.info? 115).bind (fun i=>i.zero)=some (.agg #[.int .i64 0,.int .i64 0]):=by kernel_rfl
theorem Em:(Try.prog.info? 125).bind (fun i=>i.zero)=some (.agg #[.int .i64 0,.int .i64 0]):=by kernel_rfl
theorem EC:(Try.prog.info? 27).map (fun i=>(i.zero,i.size,i.bytes))=some (some (.agg #[.int .i64 0,.int .i64 0,.int .i64 0,.int .i64 0,.int .i64 0,.int .i64 0]),6,48):=by kernel_rfl
theorem lY:gS Try.prog 24 27 6 48:=gd Try.underlying24 EC rfl (by decide)
theorem Ez:(Try.prog.info? 61).map (fun i=>(i.zero,i.size,i.bytes))=some (some (.agg #[.int .i64 0,.int .i64 0,.int .i64 0,.int .i64 0,.int .i64 0,.slice none 0 0]),6,64):=by kernel_rfl
theorem xi:gS Try.prog 29 61 6 64:=gd Try.underlying29 Ez rfl (by decide)
theorem FA:(Try.prog.info? 3).map (fun i=>(i.zero,i.size,i.bytes))=some (some (.int .i64 0),1,8):=by kernel_rfl
theorem mM:gS Try.prog 30 3 1 8:=gd Try.underlying30 FA rfl (by decide)
theorem Ex:(Try.prog.info? 67).map (fun i=>(i.zero,i.size,i.bytes))=some (some (.agg #[.int .i64 0,.int .i64 0,.int .i64 0,.int .i64 0,.int .i64 0,.int .i64 0,.int .i64 0,.bool false]),8,64):=by kernel_rfl
theorem rF:gS Try.prog 31 67 8 64:=gd Try.underlying31 Ex rfl (by decide)
theorem Ew:(Try.prog.info? 80).map (fun i=>(i.zero,i.size,i.bytes))=some (some (.agg #[.int .i64 0,.int .i64 0,.int .i64 0,.int .i64 0]),4,32):=by kernel_rfl
theorem uh:gS Try.prog 32 80 4 32:=gd Try.underlying32 Ew rfl (by decide)
theorem Dh:(Try.prog.info? 113).map (fun i=>(i.zero,i.size,i.bytes))=some (some (.agg #[.int .i64 0,.int .i64 0,.int .i64 0,.int .i64 0,.int .i64 0]),5,40):=by kernel_rfl
theorem lX:gS Try.prog 37 113 5 40:=gd Try.underlying37 Dh rfl (by decide)
theorem Di:(Try.prog.info? 107).map (fun i=>(i.zero,i.size,i.bytes))=some (some (.agg #[.int .i64 0,.int .i64 0,.int .i64 0,.int .i64 0]),4,32):=by kernel_rfl
theorem xh:gS Try.prog 39 107 4 32:=gd Try.underlying39 Di rfl (by decide)
theorem Ev:(Try.prog.info? 83).map (fun i=>(i.zero,i.size,i.bytes))=some (some (.agg #[.int .i64 0,.int .i64 0,.int .i64 0,.int .i64 0]),4,32):=by kernel_rfl
theorem xg:gS Try.prog 42 83 4 32:=gd Try.underlying42 Ev rfl (by decide)
theorem Eu:(Try.prog.info? 86).map (fun i=>(i.zero,i.size,i.bytes))=some (some (.slice none 0 0),1,24):=by kernel_rfl
theorem CN:gS Try.prog 43 86 1 24:=gd Try.underlying43 Eu rfl (by decide)
theorem Dg:(Try.prog.info? 115).map (fun i=>(i.zero,i.size,i.bytes))=some (some (.agg #[.int .i64 0,.int .i64 0]),2,16):=by kernel_rfl
theorem jH:gS Try.prog 44 115 2 16:=gd Try.underlying44 Dg rfl (by decide)
theorem Ey:(Try.prog.info? 65).map (fun i=>(i.zero,i.size,i.bytes))=some (some (.agg #[.int .i64 0,.int .i64 0]),2,16):=by kernel_rfl
theorem CM:gS Try.prog 47 65 2 16:=gd Try.underlying47 Ey rfl (by decide)
theorem EB:(Try.prog.info? 58).map (fun i=>(i.zero,i.size,i.bytes))=some (some (.agg #[.int .i64 0,.int .i64 0,.int .i64 0]),3,24):=by kernel_rfl
theorem CL:gS Try.prog 53 58 3 24:=gd Try.underlying53 EB rfl (by decide)
theorem Df:(Try.prog.info? 125).map (fun i=>(i.zero,i.size,i.bytes))=some (some (.agg #[.int .i64 0,.int .i64 0]),2,16):=by kernel_rfl
theorem nP:gS Try.prog 59 125 2 16:=gd Try.underlying59 Df rfl (by decide)
theorem Fz:(Try.prog.info? 5).map (fun i=>(i.zero,i.size,i.bytes))=some (some (.int .u8 0),1,1):=by kernel_rfl
theorem ug:gS Try.prog 86 5 1 1:=gd Try.underlying86 Fz rfl (by decide)
theorem EA:(Try.prog.info? 59).map (fun i=>(i.zero,i.size,i.bytes))=some (some (.slice none 0 0),1,24):=by kernel_rfl
theorem Ep:gS Try.prog 181 59 1 24:=gd Try.underlying181 EA rfl (by decide)
theorem Gh:bg Try.prog 17:=fun args w=>aZ Try.func17 (by kernel_rfl) rfl args w
theorem Gg:bg Try.prog 19:=fun args w=>aZ Try.func19 (by kernel_rfl) rfl args w
theorem lg:bg Try.prog 20:=fun args w=>aZ Try.func20 (by kernel_rfl) rfl args w
theorem Gf:bg Try.prog 21:=fun args w=>aZ Try.func21 (by kernel_rfl) rfl args w
theorem DR:bg Try.prog 22:=fun args w=>aZ Try.func22 (by kernel_rfl) rfl args w
theorem Ge:bg Try.prog 23:=fun args w=>aZ Try.func23 (by kernel_rfl) rfl args w
theorem DQ:bg Try.prog 24:=fun args w=>aZ Try.func24 (by kernel_rfl) rfl args w
theorem DP:bg Try.prog 26:=fun args w=>aZ Try.func26 (by kernel_rfl) rfl args w
theorem xP:bg Try.prog 27:=fun args w=>aZ Try.func27 (by kernel_rfl) rfl args w
theorem xO:bg Try.prog 28:=fun args w=>aZ Try.func28 (by kernel_rfl) rfl args w
theorem AU:bg Try.prog 29:=fun args w=>aZ Try.func29 (by kernel_rfl) rfl args w
theorem xN:bg Try.prog 30:=fun args w=>aZ Try.func30 (by kernel_rfl) rfl args w
theorem Gd:bg Try.prog 31:=fun args w=>aZ Try.func31 (by kernel_rfl) rfl args w
theorem Gc:bg Try.prog 33:=fun args w=>aZ Try.func33 (by kernel_rfl) rfl args w
theorem Gb:bg Try.prog 37:=fun args w=>aZ Try.func37 (by kernel_rfl) rfl args w
theorem Ga:bg Try.prog 40:=fun args w=>aZ Try.func40 (by kernel_rfl) rfl args w
theorem FZ:bg Try.prog 41:=fun args w=>aZ Try.func41 (by kernel_rfl) rfl args w
theorem FY:bg Try.prog 42:=fun args w=>aZ Try.func42 (by kernel_rfl) rfl args w
theorem AS:bg Try.prog 44:=fun args w=>aZ Try.func44 (by kernel_rfl) rfl args w
theorem DO:bg Try.prog 45:=fun args w=>aZ Try.func45 (by kernel_rfl) rfl args w
theorem DN:bg Try.prog 53:=fun args w=>aZ Try.func53 (by kernel_rfl) rfl args w
theorem DM:bg Try.prog 54:=fun args w=>aZ Try.func54 (by kernel_rfl) rfl args w
theorem DL:bg Try.prog 55:=fun args w=>aZ Try.func55 (by kernel_rfl) rfl args w
theorem FX:bg Try.prog 56:=fun args w=>aZ Try.func56 (by kernel_rfl) rfl args w
theorem FW:bg Try.prog 59:=fun args w=>aZ Try.func59 (by kernel_rfl) rfl args w
theorem AQ:bg Try.prog 60:=fun args w=>aZ Try.func60 (by kernel_rfl) rfl args w
theorem DK:bg Try.prog 61:=fun args w=>aZ Try.func61 (by kernel_rfl) rfl args w
theorem FV:bg Try.prog 62:=fun args w=>aZ Try.func62 (by kernel_rfl) rfl args w
theorem FU:bg Try.prog 63:=fun args w=>aZ Try.func63 (by kernel_rfl) rfl args w
theorem FT:bg Try.prog 64:=fun args w=>aZ Try.func64 (by kernel_rfl) rfl args w
theorem FR:bg Try.prog 65:=fun args w=>aZ Try.func65 (by kernel_rfl) rfl args w
theorem FQ:bg Try.prog 66:=fun args w=>aZ Try.func66 (by kernel_rfl) rfl args w
theorem DJ:bg Try.prog 67:=fun args w=>aZ Try.func67 (by kernel_rfl) rfl args w
theorem FP:bg Try.prog 68:=fun args w=>aZ Try.func68 (by kernel_rfl) rfl args w
theorem FO:bg Try.prog 69:=fun args w=>aZ Try.func69 (by kernel_rfl) rfl args w
theorem FN:bg Try.prog 70:=fun args w=>aZ Try.func70 (by kernel_rfl) rfl args w
theorem DI:bg Try.prog 71:=fun args w=>aZ Try.func71 (by kernel_rfl) rfl args w
theorem AP:bg Try.prog 72:=fun args w=>aZ Try.func72 (by kernel_rfl) rfl args w
theorem jz:bg Try.prog 73:=fun args w=>aZ Try.func73 (by kernel_rfl) rfl args w
theorem qi:bg Try.prog 74:=fun args w=>aZ Try.func74 (by kernel_rfl) rfl args w
theorem nn:bg Try.prog 75:=fun args w=>aZ Try.func75 (by kernel_rfl) rfl args w
theorem mf:bg Try.prog 76:=fun args w=>aZ Try.func76 (by kernel_rfl) rfl args w
theorem fx:bg Try.prog 77:=fun args w=>aZ Try.func77 (by kernel_rfl) rfl args w
theorem FM:bg Try.prog 78:=fun args w=>aZ Try.func78 (by kernel_rfl) rfl args w
theorem DH:bg Try.prog 79:=fun args w=>aZ Try.func79 (by kernel_rfl) rfl args w
theorem FL:bg Try.prog 80:=fun args w=>aZ Try.func80 (by kernel_rfl) rfl args w
theorem FK:bg Try.prog 81:=fun args w=>aZ Try.func81 (by kernel_rfl) rfl args w
theorem xM:bg Try.prog 82:=fun args w=>aZ Try.func82 (by kernel_rfl) rfl args w
theorem FJ:bg Try.prog 83:=fun args w=>aZ Try.func83 (by kernel_rfl) rfl args w
theorem DG:bg Try.prog 84:=fun args w=>aZ Try.func84 (by kernel_rfl) rfl args w
theorem DF:bg Try.prog 85:=fun args w=>aZ Try.func85 (by kernel_rfl) rfl args w
theorem DE:bg Try.prog 86:=fun args w=>aZ Try.func86 (by kernel_rfl) rfl args w
theorem nm:bg Try.prog 87:=fun args w=>aZ Try.func87 (by kernel_rfl) rfl args w
theorem DD:bg Try.prog 88:=fun args w=>aZ Try.func88 (by kernel_rfl) rfl args w
theorem DC:bg Try.prog 89:=fun args w=>aZ Try.func89 (by kernel_rfl) rfl args w
theorem FI:bg Try.prog 90:=fun args w=>aZ Try.func90 (by kernel_rfl) rfl args w
theorem FH:bg Try.prog 91:=fun args w=>aZ Try.func91 (by kernel_rfl) rfl args w
theorem FG:bg Try.prog 92:=fun args w=>aZ Try.func92 (by kernel_rfl) rfl args w
theorem DB:bg Try.prog 93:=fun args w=>aZ Try.func93 (by kernel_rfl) rfl args w
theorem FF:bg Try.prog 94:=fun args w=>aZ Try.func94 (by kernel_rfl) rfl args w
theorem DA:bg Try.prog 95:=fun args w=>aZ Try.func95 (by kernel_rfl) rfl args w
theorem FE:bg Try.prog 96:=fun args w=>aZ Try.func96 (by kernel_rfl) rfl args w
theorem FD:bg Try.prog 97:=fun args w=>aZ Try.func97 (by kernel_rfl) rfl args w
theorem FC:bg Try.prog 98:=fun args w=>aZ Try.func98 (by kernel_rfl) rfl args w
theorem Dz:bg Try.prog 99:=fun args w=>aZ Try.func99 (by kernel_rfl) rfl args w
theorem EU:bg Try.prog 100:=fun args w=>aZ Try.func100 (by kernel_rfl) rfl args w
theorem BO:bg Try.prog 101:=fun args w=>aZ Try.func101 (by kernel_rfl) rfl args w
theorem ET:bg Try.prog 102:=fun args w=>aZ Try.func102 (by kernel_rfl) rfl args w
theorem BN:bg Try.prog 103:=fun args w=>aZ Try.func103 (by kernel_rfl) rfl args w
theorem ES:bg Try.prog 104:=fun args w=>aZ Try.func104 (by kernel_rfl) rfl args w
theorem ER:bg Try.prog 105:=fun args w=>aZ Try.func105 (by kernel_rfl) rfl args w
theorem BM:bg Try.prog 106:=fun args w=>aZ Try.func106 (by kernel_rfl) rfl args w
theorem EP:bg Try.prog 107:=fun args w=>aZ Try.func107 (by kernel_rfl) rfl args w
theorem BL:bg Try.prog 108:=fun args w=>aZ Try.func108 (by kernel_rfl) rfl args w
theorem BK:bg Try.prog 109:=fun args w=>aZ Try.func109 (by kernel_rfl) rfl args w
theorem xQ:bg Try.prog 110:=fun args w=>aZ Try.func110 (by kernel_rfl) rfl args w
theorem EO:bg Try.prog 111:=fun args w=>aZ Try.func111 (by kernel_rfl) rfl args w
theorem BJ:bg Try.prog 112:=fun args w=>aZ Try.func112 (by kernel_rfl) rfl args w
theorem EN:bg Try.prog 113:=fun args w=>aZ Try.func113 (by kernel_rfl) rfl args w
theorem BI:bg Try.prog 114:=fun args w=>aZ Try.func114 (by kernel_rfl) rfl args w
theorem EM:bg Try.prog 115:=fun args w=>aZ Try.func115 (by kernel_rfl) rfl args w
theorem EL:bg Try.prog 116:=fun args w=>aZ Try.func116 (by kernel_rfl) rfl args w
theorem EK:bg Try.prog 117:=fun args w=>aZ Try.func117 (by kernel_rfl) rfl args w
theorem EJ:bg Try.prog 118:=fun args w=>aZ Try.func118 (by kernel_rfl) rfl args w
theorem EI:bg Try.prog 119:=fun args w=>aZ Try.func119 (by kernel_rfl) rfl args w
theorem EH:bg Try.prog 120:=fun args w=>aZ Try.func120 (by kernel_rfl) rfl args w
theorem EG:bg Try.prog 121:=fun args w=>aZ Try.func121 (by kernel_rfl) rfl args w
theorem tP:bg Try.prog 122:=fun args w=>aZ Try.func122 (by kernel_rfl) rfl args w
theorem EF:bg Try.prog 123:=fun args w=>aZ Try.func123 (by kernel_rfl) rfl args w
theorem mixed:Try.prog.follows .mixedOrders=true:=by kernel_rfl
theorem oT {P:Program} {st:aF} {o:Oper} {t e bytes n:Nat} {x y:Operand} {i j:Int} (k:Nat) (hT:gS P t e 1 bytes) (hz:(P.info? e).bind (fun i=>i.zero)=some (.int .i64 0)) (ho:o.op=.makeSlice t x y) (hx:ev st x (.v (.c (.d (.v (.int .i64 i)))))) (hy:ev st y (.v (.c (.d (.v (.int .i64 j))))))
    (hi:i=n) (hj:j=n) (hb:bytes * n<=281474976710656) (h63:n<=9223372036854775807):aJ P o st (.v (.c (.s k 0 1 n))) [(k,.arr e 1 ((List.replicate n 0).map rI))] []:=by
  have h:=Dp k hT hz rfl rfl ho hx hy hi hj hb h63
  have e1:List.replicate n [D.v (.int .i64 0)]=(List.replicate n (0:Int)).map rI:=by rw [List.map_replicate];rfl
  rw [e1] at h
  exact h
section

def mV (ps:List (Int×Int)):List (Int×Value):=ps.map fun p=>(p.1,.int .i64 p.2)
section
variable {P:Program} {st:aF} {o:Oper}
theorem zk {t:TypeId} (k:Nat) (ho:o.op=.makeMap t none):aJ P o st (.v (.c (.m k))) [(k,.map (mV []) 0)] []:=
 aJ.new (P:=P) fun σ T ac w C hk=>by
  refine ⟨.map (some w.heap.size),.map #[] 0,0,?_,⟨⟨w.heap.size,0⟩,#[],rfl,.inr rfl,heap_alloc_new w _,rfl⟩,⟨_,fL _ _ _,rfl⟩⟩
  unfold execOp
  simp only [ho,Option.map_none,Sem.run_bind,(show ∀ t w,(Instr.makeMap t none).run P w=.ok (.map (some w.heap.size)) (w.alloc (.map #[] 0)) from fun _ _=>rfl),Result.andThen_ok]
  rfl
end
end
end Go.Proofs.Ytegepioggeggaaa.Dev
