/- A part of the proof: Sh38, LTopDispute. No condition. -/
import Derived.Test.YtegepioggeggaaaD15
set_option linter.unusedVariables false
set_option linter.unusedSimpArgs false
set_option maxHeartbeats 16000000
set_option maxRecDepth 100000
namespace Go.Proofs.Ytegepioggeggaaa.Dev
open Go.RowKit
section
theorem CV.map_id (x:CV):x.map id=x:=by
 cases x<;>simp [CV.map]
theorem CV.xy (l:List CV):l.map (CV.map id)=l:=by
 rw [show CV.map id=id from funext CV.map_id,List.map_id]
theorem GV.map_id (x:GV):x.map id=x:=by
 cases x with
 |c x=>simp only [GV.map,CV.map_id]
 |g xs=>simp only [GV.map,CV.xy]
theorem AV.map_id (x:AV):x.map id=x:=by
 cases x with
 |v x=>simp only [AV.map,GV.map_id]
 |t xs=>simp only [AV.map];rw [show GV.map id=id from funext GV.map_id,List.map_id]
theorem AB.map_id' (x:AB):x.map' id=x:=by
 cases x<;>simp only [AB.map',CV.xy]
section
variable {P:Program} {W0:World} {F:Nat->Prop} {N:NT} {T0:Nat->Prop} {Q:Exit->aF->Prop}
theorem DF {pin:List (Nat×bK)} {ops:Array Oper} {l:List Oper} {s s':List (Nat×AV)} {h:List (Nat×AB)} {m:Nat} {sv:Value} {d:D} (t:Nat) (hF:∀ b,F b->T0 b) (hv:bl T0 W0 d sv) (ht:look s t=some (.v (.c (.d (.v sv)))))
  (hs:df (fun x=>(x.1=t/\x.2=.v (.c (.d d)))\/look s x.1=some x.2) s') (hn:AL P W0 F N T0 pin ops Q l ⟨s',h,m⟩):AL P W0 F N T0 pin ops Q l ⟨s,h,m⟩:=fun a w hI=>by
 obtain ⟨σ,T,hT,S,hp⟩:=hI
 refine hn a w ⟨σ,T,hT,⟨⟨fun i v hi=>?_,S.core.heap,S.core.inj,S.core.ef⟩,S.os,S.tape,S.output,S.size,S.cu,S.own,S.next,S.hn,S.iV,S.iA⟩,hp⟩
 rcases hs.mem _ (bI hi) with ⟨h1,h2⟩|h1
 ·have h1:i=t:=h1
  have h2:v=_:=h2
  subst h1 h2
  have hx:bl T w (.v sv) (a.tmps.getD i undef):=S.core.eD i _ ht
  have hx':a.tmps.getD i undef=sv:=by cases hx;rfl
  show bl T w d (a.tmps.getD i undef)
  rw [hx']
  exact bl.cu hF hT S hv
 ·exact S.core.eD i v h1
theorem CB {β:Type} {x1 x2 y:Code} {t k e K n m m':Nat} {rows:List (List D)} {s:List (Nat×AV)} {sB:β->List (Nat×AV)} {hB:β->List (Nat×AB)} (hrow:∀ row∈rows,∀ d∈row,d.kC=true) (hn:rows.length=n) (h0:0 < n)
  (hs:df (fun x=>x.2.dZ (fun d=>d.kC=true)/\x.2.ok (fun _=>false)=true) s) (hsB:∀ z,df (fun x=>x.2.dZ (fun d=>d.kC=true)/\x.2.ok (bh (hB z))=true) (sB z))
  (hhB:∀ z,df (fun x=>x.2.dZ (fun d=>d.kC=true)/\x.2.ok (bh (hB z))=true) (hB z))
  (h1:∀ (W1:World) (T1:Nat->Prop) (sv:Value),bl T1 W1 (.r K rows) sv->AC P W1 (fun _=>False) N T1 [] (iv (fun s1=>AC P W1 (fun _=>False) N T1 [] (fun e s=>e=.normal/\∃ z,aD [] s ⟨(t,.v (.c (.d (.v sv))))::sB z,hB z,m'⟩) x2 s1) (fun _ _=>False)) x1 ⟨(t,.v (.c (.d (.v sv))))::s,[],m⟩)
  (h2:∀ z,AC P W0 (fun _=>False) N T0 [] Q y ⟨(t,.v (.c (.s m' 0 K n)))::sB z,(m',.arr e K rows)::hB z,m'+1⟩):
  AC P W0 (fun _=>False) N T0 [] Q (.seq x1 (.seq x2 y)) ⟨(t,.v (.c (.s k 0 K n)))::s,[(k,.arr e K rows)],m⟩:=fun a w hI=>by
 obtain ⟨σ,T,hT,S,hp⟩:=hI
 have C:=S.core
 have hk:look [(k,AB.arr e K rows)] k=some (.arr e K rows):=by rw [bD,if_pos rfl]
 obtain ⟨hK,hb⟩:=C.heap k _ hk
 rcases hb with ⟨hb,_⟩|⟨g,vs,hg,hTg,hw,hlen,hc,hrw⟩
 ·rw [hb] at hn;simp at hn;omega
 have hts:cL σ T w (.s k 0 K n) (a.tmps.getD t undef):=C.eD t (.v (.c (.s k 0 K n))) (by rw [bD,if_pos rfl])
 have hsv:=kf.rel C (E:=[k]) (.s hk (List.mem_singleton.2 rfl) hn) hts
 have hsv:bl (eI σ T [k]) w (.r K rows) (a.tmps.getD t undef):=hsv
 have hval:a.tmps.getD t undef=.slice (some ⟨g.g,0,none⟩) n g.c/\n<=g.c:=by
  rcases hts with ⟨h,_⟩|⟨g',hg',hv,hle,_⟩
  ·omega
  ·rw [hg] at hg';injection hg' with hg';subst hg'
   rw [hv];simp;omega
 generalize hgen:a.tmps.getD t undef=sv at hsv hval
 have h1c:sv.oneCell'=true:=by rw [hval.1];rfl
 have hless:∀ b,eI σ T [k] b↔T b/\g.g≠b:=fun b=>⟨fun h=>⟨h.1,h.2 k (List.mem_singleton.2 rfl) g hg⟩,fun h=>⟨h.1,fun j hj g' hg'=>by rw [List.mem_singleton.1 hj,hg] at hg';injection hg' with hg';subst hg';exact h.2⟩⟩
 have hI1:Inv w (fun _=>False) N (eI σ T [k]) [] ⟨(t,.v (.c (.d (.v sv))))::s,[],m⟩ a w:=by
  refine ⟨fun _=>none,eI σ T [k],fun b _=>⟨id,id⟩,⟨⟨fun i v hi=>?_,fun j b hj=>(by cases hj),fun j j' b b' g g' hj=>(by cases hj),fun b hb=>C.ef b hb.1⟩,rfl,rfl,rfl,Nat.le_refl _,fun b _ _=>rfl,fun j b g hj=>(by cases hj),fun _ _=>rfl,fun j b hj=>(by cases hj),S.iV,S.iA⟩,fun j g hj=>(by cases hj)⟩
  rw [bD] at hi
  split at hi
  ·rename_i hit
   injection hi with hi;subst hi hit
   show bl _ w (.v sv) _
   rw [hgen];exact .v sv h1c
  ·rename_i hit
   have hl:look ((t,AV.v (.c (.s k 0 K n)))::s) i=some v:=by rw [bD,if_neg hit];exact hi
   have hx:=C.eD i v hl
   obtain ⟨q1,q2⟩:=hs.mem _ (bI hi)
   have:=ep.back (σ':=fun _=>none) (T':=eI σ T [k]) (ρ:=id) (fun d v hd h=>by cases d<;>first|(cases h;exact .v _ (by assumption))|cases hd) (fun k hk=>by cases hk) hx q1 q2
   rwa [AV.map_id] at this
 refine wp_seq (Code.wp_mono (fun e1 a1 w1 q=>?_) (h1 w (eI σ T [k]) sv hsv a w hI1))
 obtain ⟨s1,hq1,hi1⟩:=q
 cases e1<;>try exact hq1.elim
 refine wp_seq (Code.wp_mono (fun e3 a3 w3 q=>?_) (hq1 a1 w1 hi1))
 obtain ⟨s3,⟨he,z,hwk⟩,hi3⟩:=q
 subst he
 have hs':=hsB z;have hh':=hhB z;replace h2:=h2 z
 generalize sB z=s' at hs' hh' h2 hwk
 generalize hB z=h' at hs' hh' h2 hwk
 obtain ⟨σ2,T2,hT2,S2,_⟩:=hwk _ _ _ _ a3 w3 hi3
 refine h2 a3 w3 ?_
 have gsz:g.g < w.heap.size:=mH hw
 have hg2:¬T2 g.g:=fun h=>((hless _).1 ((hT2 _ gsz).1 h)).2 rfl
 have hw3:w3.heap[g.g]?=w.heap[g.g]?:=S2.cu g.g gsz fun h=>h
 have hm':σ2 m'=none:=S2.next m' (Nat.le_refl _)
 have hkm:bh h' m'=false:=by
  cases hkk:bh h' m' with
  |false=>rfl
  |true=>obtain ⟨b,hb⟩:=iR hkk;have:=S2.hn _ _ hb;exact absurd this (Nat.lt_irrefl _)
 have hD:∀ (T3:Nat->Prop) (d:D) (v:Value),d.kC=true->bl T2 w3 d v->bl T3 w3 d v:=fun T3 d v hd h=>by cases d<;>first|(cases h;exact .v _ (by assumption))|cases hd
 have hσ:∀ j,bh h' j=true->(if j=m' then some g else σ2 j)=σ2 j:=fun j hj=>by
  rw [if_neg fun e=>by rw [e,hkm] at hj;cases hj]
 refine ⟨fun j=>if j=m' then some g else σ2 j,fun b=>T2 b\/b=g.g,fun b hb=>?_,⟨⟨fun i v hi=>?_,fun j b hj=>?_,fun j j' b b' g1 g2 hj hj' h1 h2 hgg=>?_,fun b hb=>?_⟩,S2.os.trans S.os,S2.tape.trans S.tape,S2.output.trans S.output,Nat.le_trans S.size S2.size,fun b hb hf=>?_,fun j b g1 hj hg1=>?_,fun j hj=>?_,fun j b hj=>?_,S2.iV,S2.iA⟩,fun j g hj=>by cases hj⟩
 ·have hb':b < w.heap.size:=Nat.lt_of_lt_of_le hb S.size
  constructor
  ·rintro (h|h)
   ·exact (hT b hb).1 ((hless _).1 ((hT2 b hb').1 h)).1
   ·subst h;exact (hT _ hb).1 hTg
  ·intro h
   by_cases hbg:b=g.g
   ·exact .inr hbg
   ·exact .inl ((hT2 b hb').2 ((hless _).2 ⟨(hT b hb).2 h,fun e=>hbg e.symm⟩))
 ·rw [bD] at hi
  split at hi
  ·rename_i hit
   injection hi with hi;subst hi hit
   have hx:bl T2 w3 (.v sv) (a3.tmps.getD t undef):=S2.core.eD t (.v (.c (.d (.v sv)))) (by rw [bD,if_pos rfl])
   have hx':a3.tmps.getD t undef=sv:=by cases hx;rfl
   refine .inr ⟨g,if_pos rfl,?_,by simpa using hval.2,hc⟩
   rw [hx',hval.1];simp
  ·rename_i hit
   have hl:look ((t,AV.v (.c (.d (.v sv))))::s') i=some v:=by rw [bD,if_neg hit];exact hi
   have hx:=S2.core.eD i v hl
   obtain ⟨q1,q2⟩:=hs'.mem _ (bI hi)
   have:=ep.back (σ':=fun j=>if j=m' then some g else σ2 j) (ρ:=id) (hD (fun b=>T2 b\/b=g.g)) hσ hx q1 q2
   rwa [AV.map_id] at this
 ·rw [bD] at hj
  split at hj
  ·rename_i hjm
   injection hj with hj;subst hj hjm
   refine ⟨hK,.inr ⟨g,vs,if_pos rfl,.inr rfl,hw3.trans hw,hlen,hc,hrw.1,fun i row hi=>⟨(hrw.2 i row hi).1,fun j d hd=>?_⟩⟩⟩
   obtain ⟨u,hu,hr⟩:=(hrw.2 i row hi).2 j d hd
   refine ⟨u,hu,?_⟩
   have hv:=hrow row (List.mem_of_getElem? hi) d (List.mem_of_getElem? hd)
   cases d<;>first|(cases hr;exact .v _ (by assumption))|cases hv
  ·rename_i hjm
   have hx:=S2.core.heap j b hj
   obtain ⟨q1,q2⟩:=hh'.mem _ (bI hj)
   have:=cZ.back (σ':=fun j=>if j=m' then some g else σ2 j) (ρ:=id) (hD (fun b=>T2 b\/b=g.g)) hσ (fun _ h=>Or.inl h) hx q1 q2
   rw [AB.map_id'] at this
   show cZ _ _ _ (if j=m' then some g else σ2 j) b
   rw [if_neg (fun e=>hjm e.symm)]
   exact this
 ·have key:∀ (j:Nat) (b:AB) (g1:bK),look ((m',AB.arr e K rows)::h') j=some b->(if j=m' then some g else σ2 j)=some g1->(j=m'/\g1=g)\/(j≠m'/\look h' j=some b/\σ2 j=some g1/\T2 g1.g):=fun j b g1 hj hg1=>by
   rw [bD] at hj
   by_cases hjm:j=m'
   ·rw [if_pos hjm] at hg1;injection hg1 with hg1;exact .inl ⟨hjm,hg1.symm⟩
   ·rw [if_neg hjm] at hg1
    rw [if_neg (fun e=>hjm e.symm)] at hj
    refine .inr ⟨hjm,hj,hg1,?_⟩
    have hx:=S2.core.heap j b hj
    cases b with
    |box t cs=>obtain ⟨g',vs',h1,h2,_⟩:=hx;rw [hg1] at h1;injection h1 with h1;subst h1;exact h2
    |arr t K' rows'=>
     rcases hx.2 with ⟨_,h⟩|⟨g',vs',h1,h2,_⟩
     ·rw [hg1] at h;cases h
     ·rw [hg1] at h1;injection h1 with h1;subst h1;exact h2
    |map es cl=>obtain ⟨g',ms,h1,h2,_⟩:=hx;rw [hg1] at h1;injection h1 with h1;subst h1;exact h2
  rcases key j b g1 hj h1 with ⟨e1,r1⟩|⟨e1,r1,r2,r3⟩<;>rcases key j' b' g2 hj' h2 with ⟨e2,r4⟩|⟨e2,r4,r5,r6⟩
  ·rw [e1,e2]
  ·subst r1;rw [<-hgg] at r6;exact absurd r6 hg2
  ·subst r4;rw [hgg] at r3;exact absurd r3 hg2
  ·exact S2.core.inj j j' b b' g1 g2 r1 r4 r2 r5 hgg
 ·rcases hb with hb|hb
  ·exact S2.core.ef b hb
  ·rw [hb];exact Nat.lt_of_lt_of_le gsz S2.size
 ·have hb':b < w.heap.size:=Nat.lt_of_lt_of_le hb S.size
  rw [S2.cu b hb' fun h=>h];exact S.cu b hb hf
 ·rw [bD] at hj
  by_cases hjm:j=m'
  ·rw [if_pos hjm] at hg1;injection hg1 with hg1;subst hg1
   exact S.own k _ g hk hg
  ·rw [if_neg hjm] at hg1
   rw [if_neg (fun e=>hjm e.symm)] at hj
   rcases S2.own j b g1 hj hg1 with h|h
   ·exact .inl (Nat.le_trans S.size h)
   ·exact h.elim
 ·show (if j=m' then some g else σ2 j)=none
  have hj:m'+1<=j:=hj
  rw [if_neg (by omega)];exact S2.next j (by show m'<=j;omega)
 ·rw [bD] at hj
  split at hj
  ·show j < m'+1;omega
  ·have:=S2.hn j b hj;show j < m'+1;have:j < m':=this;omega
end
end

theorem vV (has paid n:Int) (ax:Bool):Fn Try.prog 15 [(.c (cI has)),(.c (cI paid)),(.c (cI n)),(.c (cB ax))] (aB true) []:=by
 refine Fn.mk' 132 [(0,(aI has)),(1,(aI paid)),(2,(aI n)),(3,(aB ax))] Try.func15 rfl rfl rfl rfl ?_
 intro W0 T0
 refine ad aa 1 rfl ?_
 refine af ?_
 refine eE ?_
 refine aL 0 [] (bJ 0 (Co) Hj rfl rfl trivial trivial trivial rfl rfl rfl rfl) rfl ?_
 refine ab aa 1 rfl ?_
 refine ae ?_
 refine ag rfl (fun hno=>by cases hno) (fun _=>?_)
 refine aP ?_
 refine af ?_
 refine az aa 3 rfl ?_
 refine aL 1 [0] (dz (ys:=[(0,(.c (cI has))),(1,(.c (cI paid))),(2,(.c (cI n)))]) (rows:=([has,paid,n]).map rI) 0 ml rfl (by decide) ⟨⟨rfl,rfl⟩,⟨rfl,rfl⟩,⟨rfl,rfl⟩,trivial⟩ rfl rfl rfl rfl) rfl ?_
 refine kF (s':=[(0,(aI has)),(1,(aI paid)),(2,(aI n)),(3,(aB ax)),(8,(aB false)),(18,(aB true)),(19,(aB false)),(20,(aI has)),(21,(aI paid)),(22,(aI n)),(23,(aC (fC ([has,paid,n]))))]) (h':=[]) 0 rfl ⟨⟨_,rfl,.inl ⟨rfl,rfl⟩⟩,⟨_,rfl,.inl ⟨rfl,rfl⟩⟩,⟨_,rfl,.inl ⟨rfl,rfl⟩⟩,⟨_,rfl,.inl ⟨rfl,rfl⟩⟩,⟨_,rfl,.inl ⟨rfl,rfl⟩⟩,⟨_,rfl,.inl ⟨rfl,rfl⟩⟩,⟨_,rfl,.inl ⟨rfl,rfl⟩⟩,⟨_,rfl,.inl ⟨rfl,rfl⟩⟩,⟨_,rfl,.inl ⟨rfl,rfl⟩⟩,⟨_,rfl,.inl ⟨rfl,rfl⟩⟩,⟨_,rfl,.inr ⟨_,_,rfl,rfl,.s rfl (by decide) (by first|omega|(simp;done)|(simp;omega))⟩⟩,trivial⟩ trivial rfl ?_
 obtain ⟨r0,hr0⟩:∃ (r0:Bool),mA ([has,paid,n])=r0:=⟨_,rfl⟩
 refine aL 1 [] (bJ 1 (DB ([has,paid,n]) r0 hr0) Hi rfl rfl ⟨⟨_,rfl,.c (.d _)⟩,trivial⟩ trivial trivial rfl rfl rfl rfl) rfl ?_
 refine ab aa 2 rfl ?_
 refine bA (t:=26) rfl (fun hb2=>?_) (fun hb2=>?_)
 ·
  have hb2':=hb2;try simp only [bm,bM] at hb2'
  refine ab aa 9 rfl ?_
  refine ae ?_
  refine ag rfl (fun _=>?_) (fun hno=>by cases hno)
  refine ad aa 1 rfl ?_
  refine ar ?_
  refine ao ?_
  refine ah aa [] 0 rfl rfl rfl rfl rfl rfl ?_ ?_
  ·rfl
  ·rfl
 have hb2':=hb2;try simp only [bm,bM] at hb2'
 refine ab aa 5 rfl ?_
 refine bA (t:=31) rfl (fun hb4=>?_) (fun hb4=>?_)
 ·
  have hb4':=of_decide_eq_true hb4
  refine ab aa 4 rfl ?_
  refine ae ?_
  refine ag rfl (fun _=>?_) (fun hno=>by cases hno)
  refine ad aa 1 rfl ?_
  refine ar ?_
  refine ao ?_
  refine ah aa [] 0 rfl rfl rfl rfl rfl rfl ?_ ?_
  ·rfl
  ·rfl
 have hb4':=of_decide_eq_false hb4
 refine ab aa 4 rfl ?_
 refine ae ?_
 refine ag rfl (fun hc6=>?_) (fun hc6=>?_)
 ·
  have hc6':=of_decide_eq_true hc6
  refine ad aa 1 rfl ?_
  refine ar ?_
  refine ao ?_
  refine ah aa [] 0 rfl rfl rfl rfl rfl rfl ?_ ?_
  ·rfl
  ·rfl
 have hc6':=of_decide_eq_false hc6
 refine aP ?_
 have hsm:=DN hr0 (by assumption)
 refine az aa 1 rfl ?_
 refine aL 1 [] (bJ 1 (nD 1 0 has) qv rfl rfl ⟨⟨_,rfl,.c (.d _)⟩,⟨_,rfl,.c (.d _)⟩,⟨_,rfl,.c (.d _)⟩,trivial⟩ ⟨trivial,trivial,trivial,trivial,trivial,trivial,trivial⟩ trivial rfl rfl rfl rfl) rfl ?_
 refine ab aa 1 rfl ?_
 refine aL 1 [] (bJ 1 (nD 2 0 paid) qv rfl rfl ⟨⟨_,rfl,.c (.d _)⟩,⟨_,rfl,.c (.d _)⟩,⟨_,rfl,.c (.d _)⟩,trivial⟩ ⟨trivial,trivial,trivial,trivial,trivial,trivial,trivial⟩ trivial rfl rfl rfl rfl) rfl ?_
 refine ab aa 1 rfl ?_
 refine aL 1 [] (bJ 1 (mK 2 0 paid) vF rfl rfl ⟨⟨_,rfl,.c (.d _)⟩,⟨_,rfl,.c (.d _)⟩,⟨_,rfl,.c (.d _)⟩,trivial⟩ ⟨trivial,trivial,trivial,trivial,trivial,trivial,trivial⟩ trivial rfl rfl rfl rfl) rfl ?_
 refine aL 2 [1] (dz (ys:=[(0,(.g [(cI 0),(cI 1),(cI 0),(cI 0),(cI 0),(cI has)])),(1,(.g [(cI 0),(cI 2),(cI 0),(cI 0),(cI 0),(cI paid)])),(2,(.g [(cI 0),(cI 3),(cI 0),(cI 0),(cI 2),(cI paid)]))]) (rows:=([(⟨0,1,0,0,0,has⟩:aE),(⟨0,2,0,0,0,paid⟩:aE),(⟨0,3,0,0,2,paid⟩:aE)]).map cG) 1 kJ rfl (by decide) ⟨⟨rfl,rfl⟩,⟨rfl,rfl⟩,⟨rfl,rfl⟩,trivial⟩ rfl rfl rfl rfl) rfl ?_
 have hr1:cC ([(⟨0,1,0,0,0,has⟩:aE),(⟨0,2,0,0,0,paid⟩:aE),(⟨0,3,0,0,2,paid⟩:aE)])=(cC ([(⟨0,1,0,0,0,has⟩:aE),(⟨0,2,0,0,0,paid⟩:aE),(⟨0,3,0,0,2,paid⟩:aE)])):=rfl
 refine aL 3 [2] (cv (aU [1]) (aU [2]) (rG ([(⟨0,1,0,0,0,has⟩:aE),(⟨0,2,0,0,0,paid⟩:aE),(⟨0,3,0,0,2,paid⟩:aE)]) 3 (by first|omega|(simp;done)|(simp;omega)) (by first|omega|(simp;done)|(simp;omega)) (cC ([(⟨0,1,0,0,0,has⟩:aE),(⟨0,2,0,0,0,paid⟩:aE),(⟨0,3,0,0,2,paid⟩:aE)])) hr1) yI rfl rfl ⟨⟨_,rfl,.inl ⟨rfl,rfl⟩⟩,trivial⟩ ⟨rfl,trivial⟩ rfl rfl rfl rfl rfl rfl trivial ⟨(fun _ _ _ _=>trivial),trivial⟩ rfl rfl rfl rfl) rfl ?_
 refine ab aa 1 rfl ?_
 refine ae ?_
 have hcl:(cC ([(⟨0,1,0,0,0,has⟩:aE),(⟨0,2,0,0,0,paid⟩:aE),(⟨0,3,0,0,2,paid⟩:aE)])).length=27:=by rw [nA];rfl
 refine az aa 2 rfl ?_
 refine aL 3 [2] (bJ 3 (mK 6 0 n) vF rfl rfl ⟨⟨_,rfl,.c (.d _)⟩,⟨_,rfl,.c (.d _)⟩,⟨_,rfl,.c (.d _)⟩,trivial⟩ ⟨trivial,trivial,trivial,trivial,trivial,trivial,trivial⟩ trivial rfl rfl rfl rfl) rfl ?_
 refine aL 4 [3,2] (dz (ys:=[(0,(.g [(cI 0),(cI 3),(cI 0),(cI 0),(cI 6),(cI n)]))]) (rows:=([(⟨0,3,0,0,6,n⟩:aE)]).map cG) 3 kJ rfl (by decide) ⟨⟨rfl,rfl⟩,trivial⟩ rfl rfl rfl rfl) rfl ?_
 refine aL 5 [4,3] (da (m:=1) (N:=(((cC ([(⟨0,1,0,0,0,has⟩:aE),(⟨0,2,0,0,0,paid⟩:aE),(⟨0,3,0,0,2,paid⟩:aE)]))).length)+1) (k2:=4) (ys:=([(⟨0,3,0,0,6,n⟩:aE)]).map cG) kJ rfl rfl rfl rfl rfl rfl (by first|omega|(simp;done)|(simp;omega)) rfl (.s rfl (by first|omega|(simp;done)|(simp;omega))) (by first|omega|(simp;done)|(simp;omega)) (by first|omega|(simp;done)|(simp;omega)) eP (by decide) (by first|omega|(simp;done)|(simp;omega)) (by first|omega|(simp;done)|(simp;omega))) rfl ?_
 refine ab aa 1 rfl ?_
 refine ae ?_
 refine gy (st':=⟨[(9,(aC (.s 4 0 6 ((((cC ([(⟨0,1,0,0,0,has⟩:aE),(⟨0,2,0,0,0,paid⟩:aE),(⟨0,3,0,0,2,paid⟩:aE)]))).length)+1)))),(0,(aI has)),(1,(aI paid)),(2,(aI n)),(3,(aB ax)),(8,(aB false))],[(4,(rU ((cC ([(⟨0,1,0,0,0,has⟩:aE),(⟨0,2,0,0,0,paid⟩:aE),(⟨0,3,0,0,2,paid⟩:aE)]))++([(⟨0,3,0,0,6,n⟩:aE)]))))],5⟩) (aD.bY id (by refine ⟨?_,?_,?_,?_,?_,?_,trivial⟩<;>first|rfl|(simp only [bn];done)|(congr 3;omega)|(congr 4;omega)|(simp only [bo];rfl)) (⟨by first|rfl|(simp only [bn];done)|(congr 3;omega)|(congr 4;omega)|(simp only [bo];rfl),trivial⟩) rfl) ?_
 refine CB (sB:=fun (fz:cP)=>[(0,(aI has)),(1,(aI paid)),(2,(aI n)),(3,(aB ax)),(8,(aB false)),(12,(aC (.p 0 0 0 0)))]) (hB:=fun (fz:cP)=>[(0,(.box 50 [(cI fz.err),(cI fz.at_)]))]) (m':=1) (zR _) (by simp) (by first|omega|(simp;done)|(simp;omega)) ⟨⟨rfl,rfl⟩,⟨rfl,rfl⟩,⟨rfl,rfl⟩,⟨rfl,rfl⟩,⟨rfl,rfl⟩,trivial⟩ (fun _=>⟨⟨rfl,rfl⟩,⟨rfl,rfl⟩,⟨rfl,rfl⟩,⟨rfl,rfl⟩,⟨rfl,rfl⟩,⟨trivial,rfl⟩,trivial⟩) (fun _=>⟨⟨⟨rfl,rfl,trivial⟩,rfl⟩,trivial⟩) (fun W1 T1 sv hsv=>?_) (fun fz=>?_)
 ·
  refine aw ?_
  refine aL 5 [] (bJ 5 (Fn.frozen (av':=(aG [(cR 3 (([(⟨1000,30,1000000000000⟩:cO),(⟨1000,30,1000000000000⟩:cO)]).map fY)),(cI 2),(cI 0)])) (nC 0) ⟨.inr ⟨_,_,_,_,_,rfl,rfl,rfl,by simp⟩,.inl ⟨_,rfl,rfl⟩,.inl ⟨_,rfl,rfl⟩,trivial⟩) yG rfl rfl ⟨⟨_,rfl,.c (.d _)⟩,trivial⟩ ⟨trivial,trivial,trivial,trivial⟩ trivial rfl rfl rfl rfl) rfl ?_
  refine ab aa 1 rfl ?_
  refine DF (d:=(Ht ((cC ([(⟨0,1,0,0,0,has⟩:aE),(⟨0,2,0,0,0,paid⟩:aE),(⟨0,3,0,0,2,paid⟩:aE)]))++([(⟨0,3,0,0,6,n⟩:aE)])))) (s':=[(9,(aC (.d (.v sv)))),(0,(aI has)),(1,(aI paid)),(2,(aI n)),(3,(aB ax)),(8,(aB false)),(50,(aG [(cR 3 (([(⟨1000,30,1000000000000⟩:cO),(⟨1000,30,1000000000000⟩:cO)]).map fY)),(cI 2),(cI 0)])),(51,(aC (qJ ((cC ([(⟨0,1,0,0,0,has⟩:aE),(⟨0,2,0,0,0,paid⟩:aE),(⟨0,3,0,0,2,paid⟩:aE)]))++([(⟨0,3,0,0,6,n⟩:aE)])))))]) 51 (fun _ h=>h.elim) hsv rfl ⟨.inr rfl,.inr rfl,.inr rfl,.inr rfl,.inr rfl,.inr rfl,.inr rfl,.inl ⟨rfl,rfl⟩,trivial⟩ ?_
  obtain ⟨b22,y22,o22,f22,hr2⟩:∃ (b22:Bk) (y22:List (List Int)) (o22:List Answer) (f22:cP),gq (⟨[(⟨1000,30,1000000000000⟩:cO),(⟨1000,30,1000000000000⟩:cO)],2,0⟩:Setup) ((cC ([(⟨0,1,0,0,0,has⟩:aE),(⟨0,2,0,0,0,paid⟩:aE),(⟨0,3,0,0,2,paid⟩:aE)]))++([(⟨0,3,0,0,6,n⟩:aE)]))=(b22,y22,o22,f22):=⟨_,_,_,_,rfl⟩
  obtain ⟨ho1,ho2,ho3,ho4,ho5⟩:=Cc (has:=has) (paid:=paid) (n:=n) (by omega) (by omega) (by omega) (by omega) (by omega) hr2
  refine aL 5 [] (bJ 5 (Fn.frozen (av':=(.t [(.g [(cI b22.time),(cB b22.down),(zd b22.aj),(fC b22.due),(uw b22.aq),(cI b22.s0.bE),(dc b22.s0.kept),(cI b22.s1.bE),(dc b22.s1.kept),(cI b22.n0),(cI b22.n1),(ed b22.w0),(ed b22.w1),(cI b22.bH.cap),(fC b22.bH.used),(gz b22.bH.aX),(iB b22.aN),(zb y22),(dM b22.book)]),(.c (zc o22)),(.g [(cI f22.err),(cI f22.at_)])])) (rK (⟨[(⟨1000,30,1000000000000⟩:cO),(⟨1000,30,1000000000000⟩:cO)],2,0⟩:Setup) ((cC ([(⟨0,1,0,0,0,has⟩:aE),(⟨0,2,0,0,0,paid⟩:aE),(⟨0,3,0,0,2,paid⟩:aE)]))++([(⟨0,3,0,0,6,n⟩:aE)])) b22 y22 o22 f22 hr2) ⟨⟨.inl ⟨_,rfl,rfl⟩,.inl ⟨_,rfl,rfl⟩,.inr ⟨_,_,_,_,_,rfl,rfl,rfl,by simp⟩,.inr ⟨_,_,_,_,_,rfl,rfl,rfl,by simp⟩,.inr ⟨_,_,_,_,_,rfl,rfl,rfl,by simp⟩,.inl ⟨_,rfl,rfl⟩,.inl ⟨_,rfl,rfl⟩,.inl ⟨_,rfl,rfl⟩,.inl ⟨_,rfl,rfl⟩,.inl ⟨_,rfl,rfl⟩,.inl ⟨_,rfl,rfl⟩,.inl ⟨_,rfl,rfl⟩,.inl ⟨_,rfl,rfl⟩,.inl ⟨_,rfl,rfl⟩,.inl ⟨_,rfl,rfl⟩,.inl ⟨_,rfl,rfl⟩,.inr ⟨_,_,_,_,_,rfl,rfl,rfl,by simp⟩,.inr ⟨_,_,_,_,_,rfl,rfl,rfl,by simp⟩,.inl ⟨_,rfl,rfl⟩,trivial⟩,.inr ⟨_,_,_,_,_,rfl,rfl,rfl,by simp⟩,⟨.inl ⟨_,rfl,rfl⟩,.inl ⟨_,rfl,rfl⟩,trivial⟩,trivial⟩) yH rfl rfl ⟨⟨_,rfl,.g ⟨.d _,.d _,.d _,trivial⟩⟩,⟨_,rfl,.c (.d _)⟩,trivial⟩ ⟨⟨trivial,trivial,trivial,trivial,trivial,trivial,trivial,trivial,trivial,trivial,trivial,trivial,trivial,trivial,trivial,trivial,trivial,trivial,trivial,trivial⟩,trivial,⟨trivial,trivial,trivial⟩,trivial⟩ trivial rfl rfl rfl rfl) rfl ?_
  refine ab aa 9 rfl ?_
  refine ae ?_
  refine az aa 4 rfl ?_
  refine bA (t:=59) rfl (fun hb7=>?_) (fun hb7=>?_)
  ·
   have hb7':=of_decide_eq_true hb7
   refine ab aa 20 rfl ?_
   refine ae ?_
   refine ag rfl (fun _=>?_) (fun hno=>by cases hno)
   refine ad aa 1 rfl ?_
   refine ar ?_
   (exfalso;first|omega|(simp_all;done)|(simp_all;omega))
  have hb7':=of_decide_eq_false hb7
  refine ab aa 2 rfl ?_
  obtain ⟨x1,hx1⟩:=ch (xs:=b22.aj) (i:=0) (by first|omega|(simp;done)|(simp;omega))
  have hx1K:=ho3 x1 hx1
  refine dF (ak.yes rfl rfl rfl) (cQ (i:=0) rfl rfl rfl Try.underlying29 hY (by first|omega|(simp;done)|(simp;omega)) (bw hx1)) rfl rfl ?_
  refine ab aa 4 rfl ?_
  refine dF (ak.yes rfl rfl rfl) (aM rfl rfl rfl (aH (by first|omega|(simp;done)|(simp;omega)))) rfl rfl ?_
  refine ab aa 1 rfl ?_
  refine dF (ak.yes rfl rfl rfl) (aM rfl rfl rfl (aH (by first|omega|(simp;done)|(simp;omega)))) rfl rfl ?_
  refine ab aa 3 rfl ?_
  refine bA (t:=72) rfl (fun hb9=>?_) (fun hb9=>?_)
  ·
   have hb9':=of_decide_eq_true hb9
   refine ab aa 7 rfl ?_
   refine ae ?_
   refine ag rfl (fun _=>?_) (fun hno=>by cases hno)
   refine ad aa 1 rfl ?_
   refine ar ?_
   (exfalso;first|omega|(simp_all;done)|(simp_all;omega))
  have hb9':=of_decide_eq_false hb9
  refine ab aa 2 rfl ?_
  obtain ⟨n3,hr3⟩:∃ (n3:Int),cc b22.book 2=n3:=⟨_,rfl⟩
  refine uu 7 [6,5] (ak.yes rfl rfl rfl) (bJ 7 (nE b22.book 2 n3 hr3) BW rfl rfl ⟨⟨_,rfl,.c (.d _)⟩,⟨_,rfl,.c (.d _)⟩,trivial⟩ trivial trivial rfl rfl rfl rfl) rfl ?_
  refine ab aa 1 rfl ?_
  refine dF (ak.yes rfl rfl rfl) (oH rfl rfl (aH (by first|omega|(simp;done)|(simp;omega)))) rfl rfl ?_
  refine ab aa 2 rfl ?_
  refine ae ?_
  refine ag rfl (fun hc11=>?_) (fun hc11=>?_)
  ·
   have hc11':=of_decide_eq_true hc11
   refine ad aa 1 rfl ?_
   refine ar ?_
   (exfalso;first|omega|(simp_all;done)|(simp_all;omega))
  have hc11':=of_decide_eq_false hc11
  refine cU ?_
  refine ⟨rfl,f22,?_⟩
  exact aD.bY (fun k=>if k=0 then 6 else k) (by refine ⟨?_,?_,?_,?_,?_,?_,?_,trivial⟩<;>first|rfl|(simp only [bn];done)|(congr 3;omega)|(congr 4;omega)|(simp only [bo];rfl)) (⟨by first|rfl|(simp only [bn];done)|(congr 3;omega)|(congr 4;omega)|(simp only [bo];rfl),trivial⟩) rfl
 refine az aa 2 rfl ?_
 refine ay (aM rfl rfl rfl (aH (by first|omega|(simp;done)|(simp;omega)))) rfl ?_
 refine ab aa 1 rfl ?_
 refine ay (aM rfl rfl rfl (aH (by first|omega|(simp;done)|(simp;omega)))) rfl ?_
 refine ab aa 2 rfl ?_
 refine ay (aM rfl rfl rfl (aH (by first|omega|(simp;done)|(simp;omega)))) rfl ?_
 refine ab aa 3 rfl ?_
 refine ae ?_
 refine af ?_
 refine ad aa 1 rfl ?_
 refine ag rfl (fun hc12=>?_) (fun hc12=>?_)
 ·
  have hc12':=hc12;try simp only [bm,bM] at hc12'
  refine aw ?_
  refine ab aa 2 rfl ?_
  refine ay (aM rfl rfl rfl (aH (by first|omega|(simp;done)|(simp;omega)))) rfl ?_
  refine ab aa 4 rfl ?_
  refine ae ?_
  refine eE ?_
  refine aL 2 [1,0] (bJ 2 (Fn.frozen (av':=(aG [(cR 3 (([(⟨1000,30,1000000000000⟩:cO),(⟨1000,30,1000000000000⟩:cO)]).map fY)),(cI 2),(cI 0)])) (nC 0) ⟨.inr ⟨_,_,_,_,_,rfl,rfl,rfl,by simp⟩,.inl ⟨_,rfl,rfl⟩,.inl ⟨_,rfl,rfl⟩,trivial⟩) yG rfl rfl ⟨⟨_,rfl,.c (.d _)⟩,trivial⟩ ⟨trivial,trivial,trivial,trivial⟩ trivial rfl rfl rfl rfl) rfl ?_
  refine ab aa 3 rfl ?_
  refine aL 2 [1,0] (bJ 2 (mK 8 0 n) vF rfl rfl ⟨⟨_,rfl,.c (.d _)⟩,⟨_,rfl,.c (.d _)⟩,⟨_,rfl,.c (.d _)⟩,trivial⟩ ⟨trivial,trivial,trivial,trivial,trivial,trivial,trivial⟩ trivial rfl rfl rfl rfl) rfl ?_
  refine aL 3 [2,1,0] (dz (ys:=[(0,(.g [(cI 0),(cI 3),(cI 0),(cI 0),(cI 8),(cI n)]))]) (rows:=([(⟨0,3,0,0,8,n⟩:aE)]).map cG) 2 kJ rfl (by decide) ⟨⟨rfl,rfl⟩,trivial⟩ rfl rfl rfl rfl) rfl ?_
  refine aL 4 [3,2,0] (da (m:=1) (N:=((((cC ([(⟨0,1,0,0,0,has⟩:aE),(⟨0,2,0,0,0,paid⟩:aE),(⟨0,3,0,0,2,paid⟩:aE)]))).length)+1)+1) (k2:=3) (ys:=([(⟨0,3,0,0,8,n⟩:aE)]).map cG) kJ rfl rfl rfl rfl rfl rfl (by first|omega|(simp;done)|(simp;omega)) rfl (.s rfl (by first|omega|(simp;done)|(simp;omega))) (by first|omega|(simp;done)|(simp;omega)) (by first|omega|(simp;done)|(simp;omega)) eP (by decide) (by first|omega|(simp;done)|(simp;omega)) (by first|omega|(simp;done)|(simp;omega))) rfl ?_
  have hr4:cC (((cC ([(⟨0,1,0,0,0,has⟩:aE),(⟨0,2,0,0,0,paid⟩:aE),(⟨0,3,0,0,2,paid⟩:aE)]))++([(⟨0,3,0,0,6,n⟩:aE)]))++([(⟨0,3,0,0,8,n⟩:aE)]))=(cC (((cC ([(⟨0,1,0,0,0,has⟩:aE),(⟨0,2,0,0,0,paid⟩:aE),(⟨0,3,0,0,2,paid⟩:aE)]))++([(⟨0,3,0,0,6,n⟩:aE)]))++([(⟨0,3,0,0,8,n⟩:aE)]))):=rfl
  refine aL 5 [4,2,0] (cv (aU [3]) (aU [4]) (rG (((cC ([(⟨0,1,0,0,0,has⟩:aE),(⟨0,2,0,0,0,paid⟩:aE),(⟨0,3,0,0,2,paid⟩:aE)]))++([(⟨0,3,0,0,6,n⟩:aE)]))++([(⟨0,3,0,0,8,n⟩:aE)])) (((((cC ([(⟨0,1,0,0,0,has⟩:aE),(⟨0,2,0,0,0,paid⟩:aE),(⟨0,3,0,0,2,paid⟩:aE)]))).length)+1)+1) (by first|omega|(simp;done)|(simp;omega)) (by first|omega|(simp;done)|(simp;omega)) (cC (((cC ([(⟨0,1,0,0,0,has⟩:aE),(⟨0,2,0,0,0,paid⟩:aE),(⟨0,3,0,0,2,paid⟩:aE)]))++([(⟨0,3,0,0,6,n⟩:aE)]))++([(⟨0,3,0,0,8,n⟩:aE)]))) hr4) yI rfl rfl ⟨⟨_,rfl,.inl ⟨rfl,rfl⟩⟩,trivial⟩ ⟨rfl,trivial⟩ rfl rfl rfl rfl rfl rfl trivial ⟨(fun _ _ _ _=>trivial),trivial⟩ rfl rfl rfl rfl) rfl ?_
  refine kF (s':=[(0,(aI has)),(1,(aI paid)),(2,(aI n)),(3,(aB ax)),(8,(aB false)),(12,(aC (.p 0 0 0 0))),(80,(aI has)),(81,(aI paid)),(82,(aI (has - paid))),(83,(aI n)),(84,(aI ((has - paid)+n))),(85,(aI paid)),(86,(aI n)),(87,(aI (paid - n))),(13,(aI 8)),(14,(aI (has - paid))),(15,(aI paid)),(88,(aB ax)),(89,(aI has)),(90,(aI paid)),(91,(aI (has - paid))),(92,(aI paid)),(94,(aG [(cR 3 (([(⟨1000,30,1000000000000⟩:cO),(⟨1000,30,1000000000000⟩:cO)]).map fY)),(cI 2),(cI 0)])),(96,(aI 8)),(97,(aI n)),(98,(aG [(cI 0),(cI 3),(cI 0),(cI 0),(cI 8),(cI n)])),(99,(aC (.s 2 0 6 1))),(101,(aC (qJ (cC (((cC ([(⟨0,1,0,0,0,has⟩:aE),(⟨0,2,0,0,0,paid⟩:aE),(⟨0,3,0,0,2,paid⟩:aE)]))++([(⟨0,3,0,0,6,n⟩:aE)]))++([(⟨0,3,0,0,8,n⟩:aE)]))))))]) (h':=[(2,(rU ([(⟨0,3,0,0,8,n⟩:aE)]))),(0,(.box 50 [(cI fz.err),(cI fz.at_)]))]) 4 rfl ⟨⟨_,rfl,.inl ⟨rfl,rfl⟩⟩,⟨_,rfl,.inl ⟨rfl,rfl⟩⟩,⟨_,rfl,.inl ⟨rfl,rfl⟩⟩,⟨_,rfl,.inl ⟨rfl,rfl⟩⟩,⟨_,rfl,.inl ⟨rfl,rfl⟩⟩,⟨_,rfl,.inl ⟨rfl,rfl⟩⟩,⟨_,rfl,.inl ⟨rfl,rfl⟩⟩,⟨_,rfl,.inl ⟨rfl,rfl⟩⟩,⟨_,rfl,.inl ⟨rfl,rfl⟩⟩,⟨_,rfl,.inl ⟨rfl,rfl⟩⟩,⟨_,rfl,.inl ⟨rfl,rfl⟩⟩,⟨_,rfl,.inl ⟨rfl,rfl⟩⟩,⟨_,rfl,.inl ⟨rfl,rfl⟩⟩,⟨_,rfl,.inl ⟨rfl,rfl⟩⟩,⟨_,rfl,.inl ⟨rfl,rfl⟩⟩,⟨_,rfl,.inl ⟨rfl,rfl⟩⟩,⟨_,rfl,.inl ⟨rfl,rfl⟩⟩,⟨_,rfl,.inl ⟨rfl,rfl⟩⟩,⟨_,rfl,.inl ⟨rfl,rfl⟩⟩,⟨_,rfl,.inl ⟨rfl,rfl⟩⟩,⟨_,rfl,.inl ⟨rfl,rfl⟩⟩,⟨_,rfl,.inl ⟨rfl,rfl⟩⟩,⟨_,rfl,.inl ⟨rfl,rfl⟩⟩,⟨_,rfl,.inl ⟨rfl,rfl⟩⟩,⟨_,rfl,.inl ⟨rfl,rfl⟩⟩,⟨_,rfl,.inl ⟨rfl,rfl⟩⟩,⟨_,rfl,.inl ⟨rfl,rfl⟩⟩,⟨_,rfl,.inr ⟨_,_,rfl,rfl,.s rfl (by decide) (by first|omega|(simp;done)|(simp;omega))⟩⟩,trivial⟩ ⟨rfl,rfl,trivial⟩ rfl ?_
  obtain ⟨b25,y25,o25,f25,hr5⟩:∃ (b25:Bk) (y25:List (List Int)) (o25:List Answer) (f25:cP),gq (⟨[(⟨1000,30,1000000000000⟩:cO),(⟨1000,30,1000000000000⟩:cO)],2,0⟩:Setup) (cC (((cC ([(⟨0,1,0,0,0,has⟩:aE),(⟨0,2,0,0,0,paid⟩:aE),(⟨0,3,0,0,2,paid⟩:aE)]))++([(⟨0,3,0,0,6,n⟩:aE)]))++([(⟨0,3,0,0,8,n⟩:aE)])))=(b25,y25,o25,f25):=⟨_,_,_,_,rfl⟩
  obtain ⟨ht1,ht2,ht3,ht4,ht5,ht6,ht7⟩:=qS (has:=has) (paid:=paid) (n:=n) (by omega) (by omega) (by omega) (by omega) (by omega) (by omega) hr5
  refine aL 5 [2,0] (bJ 5 (Fn.frozen (av':=(.t [(.g [(cI b25.time),(cB b25.down),(zd b25.aj),(fC b25.due),(uw b25.aq),(cI b25.s0.bE),(dc b25.s0.kept),(cI b25.s1.bE),(dc b25.s1.kept),(cI b25.n0),(cI b25.n1),(ed b25.w0),(ed b25.w1),(cI b25.bH.cap),(fC b25.bH.used),(gz b25.bH.aX),(iB b25.aN),(zb y25),(dM b25.book)]),(.c (zc o25)),(.g [(cI f25.err),(cI f25.at_)])])) (rK (⟨[(⟨1000,30,1000000000000⟩:cO),(⟨1000,30,1000000000000⟩:cO)],2,0⟩:Setup) (cC (((cC ([(⟨0,1,0,0,0,has⟩:aE),(⟨0,2,0,0,0,paid⟩:aE),(⟨0,3,0,0,2,paid⟩:aE)]))++([(⟨0,3,0,0,6,n⟩:aE)]))++([(⟨0,3,0,0,8,n⟩:aE)]))) b25 y25 o25 f25 hr5) ⟨⟨.inl ⟨_,rfl,rfl⟩,.inl ⟨_,rfl,rfl⟩,.inr ⟨_,_,_,_,_,rfl,rfl,rfl,by simp⟩,.inr ⟨_,_,_,_,_,rfl,rfl,rfl,by simp⟩,.inr ⟨_,_,_,_,_,rfl,rfl,rfl,by simp⟩,.inl ⟨_,rfl,rfl⟩,.inl ⟨_,rfl,rfl⟩,.inl ⟨_,rfl,rfl⟩,.inl ⟨_,rfl,rfl⟩,.inl ⟨_,rfl,rfl⟩,.inl ⟨_,rfl,rfl⟩,.inl ⟨_,rfl,rfl⟩,.inl ⟨_,rfl,rfl⟩,.inl ⟨_,rfl,rfl⟩,.inl ⟨_,rfl,rfl⟩,.inl ⟨_,rfl,rfl⟩,.inr ⟨_,_,_,_,_,rfl,rfl,rfl,by simp⟩,.inr ⟨_,_,_,_,_,rfl,rfl,rfl,by simp⟩,.inl ⟨_,rfl,rfl⟩,trivial⟩,.inr ⟨_,_,_,_,_,rfl,rfl,rfl,by simp⟩,⟨.inl ⟨_,rfl,rfl⟩,.inl ⟨_,rfl,rfl⟩,trivial⟩,trivial⟩) yH rfl rfl ⟨⟨_,rfl,.g ⟨.d _,.d _,.d _,trivial⟩⟩,⟨_,rfl,.c (.d _)⟩,trivial⟩ ⟨⟨trivial,trivial,trivial,trivial,trivial,trivial,trivial,trivial,trivial,trivial,trivial,trivial,trivial,trivial,trivial,trivial,trivial,trivial,trivial,trivial⟩,trivial,⟨trivial,trivial,trivial⟩,trivial⟩ trivial rfl rfl rfl rfl) rfl ?_
  refine ab aa 8 rfl ?_
  refine ae ?_
  refine az aa 4 rfl ?_
  refine bA (t:=109) rfl (fun hb13=>?_) (fun hb13=>?_)
  ·
   have hb13':=of_decide_eq_true hb13
   refine ab aa 2 rfl ?_
   obtain ⟨x1,hx1⟩:=ch (xs:=b25.aj) (i:=0) (by first|omega|(simp;done)|(simp;omega))
   have hx1K:=ht4 x1 hx1
   refine dF (ak.yes rfl rfl rfl) (cQ (i:=0) rfl rfl rfl Try.underlying29 hY (by first|omega|(simp;done)|(simp;omega)) (bw hx1)) rfl rfl ?_
   refine ab aa 6 rfl ?_
   refine bA (t:=118) rfl (fun hb14=>?_) (fun hb14=>?_)
   ·
    have hb14':=of_decide_eq_true hb14
    refine ab aa 2 rfl ?_
    obtain ⟨x2,hx2⟩:=ch (xs:=b25.due) (i:=0) (by first|omega|(simp;done)|(simp;omega))
    have hx2K:=ht5 x2 hx2
    refine dF (ak.yes rfl rfl rfl) (cQ (i:=0) rfl rfl rfl Try.underlying30 fK (by first|omega|(simp;done)|(simp;omega)) (bw hx2)) rfl rfl ?_
    refine ab aa 5 rfl ?_
    refine bA (t:=126) rfl (fun hb15=>?_) (fun hb15=>?_)
    ·
     have hb15':=of_decide_eq_true hb15
     refine ab aa 2 rfl ?_
     obtain ⟨n6,hr6⟩:∃ (n6:Int),cc b25.book 2=n6:=⟨_,rfl⟩
     refine uu 6 [5,2,0] (ak.yes rfl rfl rfl) (bJ 6 (nE b25.book 2 n6 hr6) BW rfl rfl ⟨⟨_,rfl,.c (.d _)⟩,⟨_,rfl,.c (.d _)⟩,trivial⟩ trivial trivial rfl rfl rfl rfl) rfl ?_
     refine ab aa 3 rfl ?_
     refine ae ?_
     refine ar ?_
     refine ah aa [] 0 rfl rfl rfl rfl rfl rfl ?_ ?_
     ·exact congrArg aB (show (decide (n6=0))=true by (first|(exfalso;omega)|exact decide_eq_true (by omega)|(simp only [Bool.and_eq_true,decide_eq_true_eq];omega)|(simp at *;omega)))
     ·rfl
    have hb15':=of_decide_eq_false hb15
    refine ab aa 6 rfl ?_
    refine ae ?_
    refine ar ?_
    refine ah aa [] 0 rfl rfl rfl rfl rfl rfl ?_ ?_
    ·exact congrArg aB (show (false)=true by (first|(exfalso;omega)|exact decide_eq_true (by omega)|(simp only [Bool.and_eq_true,decide_eq_true_eq];omega)|(simp at *;omega)))
    ·rfl
   have hb14':=of_decide_eq_false hb14
   refine ab aa 14 rfl ?_
   refine ae ?_
   refine ar ?_
   refine ah aa [] 0 rfl rfl rfl rfl rfl rfl ?_ ?_
   ·exact congrArg aB (show (false)=true by (first|(exfalso;omega)|exact decide_eq_true (by omega)|(simp only [Bool.and_eq_true,decide_eq_true_eq];omega)|(simp at *;omega)))
   ·rfl
  have hb13':=of_decide_eq_false hb13
  refine ab aa 23 rfl ?_
  refine ae ?_
  refine ar ?_
  refine ah aa [] 0 rfl rfl rfl rfl rfl rfl ?_ ?_
  ·exact congrArg aB (show (false)=true by (first|(exfalso;omega)|exact decide_eq_true (by omega)|(simp only [Bool.and_eq_true,decide_eq_true_eq];omega)|(simp at *;omega)))
  ·rfl
 have hc12':=hc12;try simp only [bm,bM] at hc12'
 refine aP ?_
 refine eE ?_
 refine aL 2 [1,0] (bJ 2 (Fn.frozen (av':=(aG [(cR 3 (([(⟨1000,30,1000000000000⟩:cO),(⟨1000,30,1000000000000⟩:cO)]).map fY)),(cI 2),(cI 0)])) (nC 0) ⟨.inr ⟨_,_,_,_,_,rfl,rfl,rfl,by simp⟩,.inl ⟨_,rfl,rfl⟩,.inl ⟨_,rfl,rfl⟩,trivial⟩) yG rfl rfl ⟨⟨_,rfl,.c (.d _)⟩,trivial⟩ ⟨trivial,trivial,trivial,trivial⟩ trivial rfl rfl rfl rfl) rfl ?_
 refine ab aa 3 rfl ?_
 refine aL 2 [1,0] (bJ 2 (mK 7 0 n) vF rfl rfl ⟨⟨_,rfl,.c (.d _)⟩,⟨_,rfl,.c (.d _)⟩,⟨_,rfl,.c (.d _)⟩,trivial⟩ ⟨trivial,trivial,trivial,trivial,trivial,trivial,trivial⟩ trivial rfl rfl rfl rfl) rfl ?_
 refine aL 3 [2,1,0] (dz (ys:=[(0,(.g [(cI 0),(cI 3),(cI 0),(cI 0),(cI 7),(cI n)]))]) (rows:=([(⟨0,3,0,0,7,n⟩:aE)]).map cG) 2 kJ rfl (by decide) ⟨⟨rfl,rfl⟩,trivial⟩ rfl rfl rfl rfl) rfl ?_
 refine aL 4 [3,2,0] (da (m:=1) (N:=((((cC ([(⟨0,1,0,0,0,has⟩:aE),(⟨0,2,0,0,0,paid⟩:aE),(⟨0,3,0,0,2,paid⟩:aE)]))).length)+1)+1) (k2:=3) (ys:=([(⟨0,3,0,0,7,n⟩:aE)]).map cG) kJ rfl rfl rfl rfl rfl rfl (by first|omega|(simp;done)|(simp;omega)) rfl (.s rfl (by first|omega|(simp;done)|(simp;omega))) (by first|omega|(simp;done)|(simp;omega)) (by first|omega|(simp;done)|(simp;omega)) eP (by decide) (by first|omega|(simp;done)|(simp;omega)) (by first|omega|(simp;done)|(simp;omega))) rfl ?_
 have hr7:cC (((cC ([(⟨0,1,0,0,0,has⟩:aE),(⟨0,2,0,0,0,paid⟩:aE),(⟨0,3,0,0,2,paid⟩:aE)]))++([(⟨0,3,0,0,6,n⟩:aE)]))++([(⟨0,3,0,0,7,n⟩:aE)]))=(cC (((cC ([(⟨0,1,0,0,0,has⟩:aE),(⟨0,2,0,0,0,paid⟩:aE),(⟨0,3,0,0,2,paid⟩:aE)]))++([(⟨0,3,0,0,6,n⟩:aE)]))++([(⟨0,3,0,0,7,n⟩:aE)]))):=rfl
 refine aL 5 [4,2,0] (cv (aU [3]) (aU [4]) (rG (((cC ([(⟨0,1,0,0,0,has⟩:aE),(⟨0,2,0,0,0,paid⟩:aE),(⟨0,3,0,0,2,paid⟩:aE)]))++([(⟨0,3,0,0,6,n⟩:aE)]))++([(⟨0,3,0,0,7,n⟩:aE)])) (((((cC ([(⟨0,1,0,0,0,has⟩:aE),(⟨0,2,0,0,0,paid⟩:aE),(⟨0,3,0,0,2,paid⟩:aE)]))).length)+1)+1) (by first|omega|(simp;done)|(simp;omega)) (by first|omega|(simp;done)|(simp;omega)) (cC (((cC ([(⟨0,1,0,0,0,has⟩:aE),(⟨0,2,0,0,0,paid⟩:aE),(⟨0,3,0,0,2,paid⟩:aE)]))++([(⟨0,3,0,0,6,n⟩:aE)]))++([(⟨0,3,0,0,7,n⟩:aE)]))) hr7) yI rfl rfl ⟨⟨_,rfl,.inl ⟨rfl,rfl⟩⟩,trivial⟩ ⟨rfl,trivial⟩ rfl rfl rfl rfl rfl rfl trivial ⟨(fun _ _ _ _=>trivial),trivial⟩ rfl rfl rfl rfl) rfl ?_
 refine kF (s':=[(0,(aI has)),(1,(aI paid)),(2,(aI n)),(3,(aB ax)),(8,(aB false)),(12,(aC (.p 0 0 0 0))),(80,(aI has)),(81,(aI paid)),(82,(aI (has - paid))),(83,(aI n)),(84,(aI ((has - paid)+n))),(85,(aI paid)),(86,(aI n)),(87,(aI (paid - n))),(13,(aI 7)),(14,(aI ((has - paid)+n))),(15,(aI (paid - n))),(88,(aB ax)),(94,(aG [(cR 3 (([(⟨1000,30,1000000000000⟩:cO),(⟨1000,30,1000000000000⟩:cO)]).map fY)),(cI 2),(cI 0)])),(96,(aI 7)),(97,(aI n)),(98,(aG [(cI 0),(cI 3),(cI 0),(cI 0),(cI 7),(cI n)])),(99,(aC (.s 2 0 6 1))),(101,(aC (qJ (cC (((cC ([(⟨0,1,0,0,0,has⟩:aE),(⟨0,2,0,0,0,paid⟩:aE),(⟨0,3,0,0,2,paid⟩:aE)]))++([(⟨0,3,0,0,6,n⟩:aE)]))++([(⟨0,3,0,0,7,n⟩:aE)]))))))]) (h':=[(2,(rU ([(⟨0,3,0,0,7,n⟩:aE)]))),(0,(.box 50 [(cI fz.err),(cI fz.at_)]))]) 4 rfl ⟨⟨_,rfl,.inl ⟨rfl,rfl⟩⟩,⟨_,rfl,.inl ⟨rfl,rfl⟩⟩,⟨_,rfl,.inl ⟨rfl,rfl⟩⟩,⟨_,rfl,.inl ⟨rfl,rfl⟩⟩,⟨_,rfl,.inl ⟨rfl,rfl⟩⟩,⟨_,rfl,.inl ⟨rfl,rfl⟩⟩,⟨_,rfl,.inl ⟨rfl,rfl⟩⟩,⟨_,rfl,.inl ⟨rfl,rfl⟩⟩,⟨_,rfl,.inl ⟨rfl,rfl⟩⟩,⟨_,rfl,.inl ⟨rfl,rfl⟩⟩,⟨_,rfl,.inl ⟨rfl,rfl⟩⟩,⟨_,rfl,.inl ⟨rfl,rfl⟩⟩,⟨_,rfl,.inl ⟨rfl,rfl⟩⟩,⟨_,rfl,.inl ⟨rfl,rfl⟩⟩,⟨_,rfl,.inl ⟨rfl,rfl⟩⟩,⟨_,rfl,.inl ⟨rfl,rfl⟩⟩,⟨_,rfl,.inl ⟨rfl,rfl⟩⟩,⟨_,rfl,.inl ⟨rfl,rfl⟩⟩,⟨_,rfl,.inl ⟨rfl,rfl⟩⟩,⟨_,rfl,.inl ⟨rfl,rfl⟩⟩,⟨_,rfl,.inl ⟨rfl,rfl⟩⟩,⟨_,rfl,.inl ⟨rfl,rfl⟩⟩,⟨_,rfl,.inl ⟨rfl,rfl⟩⟩,⟨_,rfl,.inr ⟨_,_,rfl,rfl,.s rfl (by decide) (by first|omega|(simp;done)|(simp;omega))⟩⟩,trivial⟩ ⟨rfl,rfl,trivial⟩ rfl ?_
 obtain ⟨b28,y28,o28,f28,hr8⟩:∃ (b28:Bk) (y28:List (List Int)) (o28:List Answer) (f28:cP),gq (⟨[(⟨1000,30,1000000000000⟩:cO),(⟨1000,30,1000000000000⟩:cO)],2,0⟩:Setup) (cC (((cC ([(⟨0,1,0,0,0,has⟩:aE),(⟨0,2,0,0,0,paid⟩:aE),(⟨0,3,0,0,2,paid⟩:aE)]))++([(⟨0,3,0,0,6,n⟩:aE)]))++([(⟨0,3,0,0,7,n⟩:aE)])))=(b28,y28,o28,f28):=⟨_,_,_,_,rfl⟩
 obtain ⟨ht1,ht2,ht3,ht4,ht5,ht6,ht7⟩:=qS (has:=has) (paid:=paid) (n:=n) (by omega) (by omega) (by omega) (by omega) (by omega) (by omega) hr8
 refine aL 5 [2,0] (bJ 5 (Fn.frozen (av':=(.t [(.g [(cI b28.time),(cB b28.down),(zd b28.aj),(fC b28.due),(uw b28.aq),(cI b28.s0.bE),(dc b28.s0.kept),(cI b28.s1.bE),(dc b28.s1.kept),(cI b28.n0),(cI b28.n1),(ed b28.w0),(ed b28.w1),(cI b28.bH.cap),(fC b28.bH.used),(gz b28.bH.aX),(iB b28.aN),(zb y28),(dM b28.book)]),(.c (zc o28)),(.g [(cI f28.err),(cI f28.at_)])])) (rK (⟨[(⟨1000,30,1000000000000⟩:cO),(⟨1000,30,1000000000000⟩:cO)],2,0⟩:Setup) (cC (((cC ([(⟨0,1,0,0,0,has⟩:aE),(⟨0,2,0,0,0,paid⟩:aE),(⟨0,3,0,0,2,paid⟩:aE)]))++([(⟨0,3,0,0,6,n⟩:aE)]))++([(⟨0,3,0,0,7,n⟩:aE)]))) b28 y28 o28 f28 hr8) ⟨⟨.inl ⟨_,rfl,rfl⟩,.inl ⟨_,rfl,rfl⟩,.inr ⟨_,_,_,_,_,rfl,rfl,rfl,by simp⟩,.inr ⟨_,_,_,_,_,rfl,rfl,rfl,by simp⟩,.inr ⟨_,_,_,_,_,rfl,rfl,rfl,by simp⟩,.inl ⟨_,rfl,rfl⟩,.inl ⟨_,rfl,rfl⟩,.inl ⟨_,rfl,rfl⟩,.inl ⟨_,rfl,rfl⟩,.inl ⟨_,rfl,rfl⟩,.inl ⟨_,rfl,rfl⟩,.inl ⟨_,rfl,rfl⟩,.inl ⟨_,rfl,rfl⟩,.inl ⟨_,rfl,rfl⟩,.inl ⟨_,rfl,rfl⟩,.inl ⟨_,rfl,rfl⟩,.inr ⟨_,_,_,_,_,rfl,rfl,rfl,by simp⟩,.inr ⟨_,_,_,_,_,rfl,rfl,rfl,by simp⟩,.inl ⟨_,rfl,rfl⟩,trivial⟩,.inr ⟨_,_,_,_,_,rfl,rfl,rfl,by simp⟩,⟨.inl ⟨_,rfl,rfl⟩,.inl ⟨_,rfl,rfl⟩,trivial⟩,trivial⟩) yH rfl rfl ⟨⟨_,rfl,.g ⟨.d _,.d _,.d _,trivial⟩⟩,⟨_,rfl,.c (.d _)⟩,trivial⟩ ⟨⟨trivial,trivial,trivial,trivial,trivial,trivial,trivial,trivial,trivial,trivial,trivial,trivial,trivial,trivial,trivial,trivial,trivial,trivial,trivial,trivial⟩,trivial,⟨trivial,trivial,trivial⟩,trivial⟩ trivial rfl rfl rfl rfl) rfl ?_
 refine ab aa 8 rfl ?_
 refine ae ?_
 refine az aa 4 rfl ?_
 refine bA (t:=109) rfl (fun hb16=>?_) (fun hb16=>?_)
 ·
  have hb16':=of_decide_eq_true hb16
  refine ab aa 2 rfl ?_
  obtain ⟨x1,hx1⟩:=ch (xs:=b28.aj) (i:=0) (by first|omega|(simp;done)|(simp;omega))
  have hx1K:=ht4 x1 hx1
  refine dF (ak.yes rfl rfl rfl) (cQ (i:=0) rfl rfl rfl Try.underlying29 hY (by first|omega|(simp;done)|(simp;omega)) (bw hx1)) rfl rfl ?_
  refine ab aa 6 rfl ?_
  refine bA (t:=118) rfl (fun hb17=>?_) (fun hb17=>?_)
  ·
   have hb17':=of_decide_eq_true hb17
   refine ab aa 2 rfl ?_
   obtain ⟨x2,hx2⟩:=ch (xs:=b28.due) (i:=0) (by first|omega|(simp;done)|(simp;omega))
   have hx2K:=ht5 x2 hx2
   refine dF (ak.yes rfl rfl rfl) (cQ (i:=0) rfl rfl rfl Try.underlying30 fK (by first|omega|(simp;done)|(simp;omega)) (bw hx2)) rfl rfl ?_
   refine ab aa 5 rfl ?_
   refine bA (t:=126) rfl (fun hb18=>?_) (fun hb18=>?_)
   ·
    have hb18':=of_decide_eq_true hb18
    refine ab aa 2 rfl ?_
    obtain ⟨n9,hr9⟩:∃ (n9:Int),cc b28.book 2=n9:=⟨_,rfl⟩
    refine uu 6 [5,2,0] (ak.yes rfl rfl rfl) (bJ 6 (nE b28.book 2 n9 hr9) BW rfl rfl ⟨⟨_,rfl,.c (.d _)⟩,⟨_,rfl,.c (.d _)⟩,trivial⟩ trivial trivial rfl rfl rfl rfl) rfl ?_
    refine ab aa 3 rfl ?_
    refine ae ?_
    refine ar ?_
    refine ah aa [] 0 rfl rfl rfl rfl rfl rfl ?_ ?_
    ·exact congrArg aB (show (decide (n9=0))=true by (first|(exfalso;omega)|exact decide_eq_true (by omega)|(simp only [Bool.and_eq_true,decide_eq_true_eq];omega)|(simp at *;omega)))
    ·rfl
   have hb18':=of_decide_eq_false hb18
   refine ab aa 6 rfl ?_
   refine ae ?_
   refine ar ?_
   refine ah aa [] 0 rfl rfl rfl rfl rfl rfl ?_ ?_
   ·exact congrArg aB (show (false)=true by (first|(exfalso;omega)|exact decide_eq_true (by omega)|(simp only [Bool.and_eq_true,decide_eq_true_eq];omega)|(simp at *;omega)))
   ·rfl
  have hb17':=of_decide_eq_false hb17
  refine ab aa 14 rfl ?_
  refine ae ?_
  refine ar ?_
  refine ah aa [] 0 rfl rfl rfl rfl rfl rfl ?_ ?_
  ·exact congrArg aB (show (false)=true by (first|(exfalso;omega)|exact decide_eq_true (by omega)|(simp only [Bool.and_eq_true,decide_eq_true_eq];omega)|(simp at *;omega)))
  ·rfl
 have hb16':=of_decide_eq_false hb16
 refine ab aa 23 rfl ?_
 refine ae ?_
 refine ar ?_
 refine ah aa [] 0 rfl rfl rfl rfl rfl rfl ?_ ?_
 ·exact congrArg aB (show (false)=true by (first|(exfalso;omega)|exact decide_eq_true (by omega)|(simp only [Bool.and_eq_true,decide_eq_true_eq];omega)|(simp at *;omega)))
 ·rfl
end Go.Proofs.Ytegepioggeggaaa.Dev
