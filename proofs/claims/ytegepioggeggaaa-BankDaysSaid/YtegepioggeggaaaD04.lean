/- A part of the proof: Sh27, Sh28, PlDel, PlPace, PlCard, PlPost, Sh29, Sh30, Sh31. No condition. -/
import Derived.Test.YtegepioggeggaaaD03
set_option linter.unusedVariables false
set_option linter.unusedSimpArgs false
namespace Go.Proofs.Ytegepioggeggaaa.Dev
open Go.RowKit
section
section
variable {P:Program}
theorem cJ.Fc {f:FuncId} {fn:Func} {c:Code} {ins:List GV} {bP:List (Nat×AB)} {cG:List Nat} {av:AV} {nb:List (Nat×AB)} (N:Nat) (s:List (Nat×AV)) (n:Nat) (hf:P.funcs[f]?=some fn) (hb:fn.body=some c) (hn:fn.ntmps=N) (hN:Nat.ble ins.length N=true) (hs:slotsOf 0 ins=s)
  (hin0:ey (keys bP)=true) (hin1:bP.all (fun x=>Nat.blt x.1 n)=true) (hok:ins.all (GV.ok (bn bP))=true) (hokb:bP.all (fun x=>x.2.ok (bn bP))=true) (hkeep:cG.all (fun k=>bn bP k)=true)
  (h:∀ (W0:World) (F T:Nat->Prop) (pg:Nat->bM),(∀ b,F b->∃ k∈keys bP,(pg k).g=b)->AC P W0 F (N,[]) T (cG.map fun k=>(k,pg k)) (iX P fn (cG.map fun k=>(k,pg k)) av nb) c ⟨s,bP,n⟩):cJ P f ins bP cG av nb:=by
 subst hn hs
 intro T σ w args hT hheap hinj hk hargs
 have hlen:=hargs.length
 have hlen:ins.length=args.size:=by simpa using hlen
 have hN:=Nat.le_of_ble_eq_true hN
 let σ0:Nat->Option bM:=fun k=>if bn bP k=true then σ k else none
 have hσ:∀ k,bn bP k=true->σ0 k=σ (id k):=fun k hk=>if_pos hk
 have hnd:=kb hin0
 let pg:Nat->bM:=fun k=>(σ k).getD ⟨0,0⟩
 have F:Nat->Prop:=fun b=>True
 clear F
 refine calls_of_wp hf hb (Code.wp_mono ?_ (h w (fun b=>∃ k∈keys bP,∃ g,σ k=some g/\g.g=b) T pg (fun b ⟨k,hk,g,hg,hb⟩=>⟨k,hk,by show ((σ k).getD ⟨0,0⟩).g=b;rw [hg];exact hb⟩) _ w ⟨σ0,T,fun _ _=>⟨fun h=>h,fun h=>h⟩,⟨⟨?_,?_,?_,hT⟩,rfl,rfl,rfl,Nat.le_refl _,fun _ _ _=>rfl,?_,?_,?_,?_,rfl⟩,?_⟩))
 ·rintro e a' w' ⟨st,⟨he,st',gs,hw,hr,rfl,hnb⟩,hI⟩
  obtain ⟨σ',T',hT',S,hp⟩:=hw _ _ _ _ _ _ hI
  obtain ⟨v,hv,hrel⟩:=kP S.core hr
  have hpost:a'.defers=[]/\∃ v,(results fn a'.tmps).run P w'=.ok v w'/\∃ v' σ' T',Ending.returned v=.returned v'/\Dp σ T w bP cG w' σ' T' (fR gs) nb v':=by
   refine ⟨S.gW,v,hv,v,σ',T',rfl,S.os,S.tape,S.output,S.size,fun b hb hno=>S.cz b hb ?_,hrel,fun b hb=>(hT' b hb).1,fun b hb=>(hT' b (hT b hb)).2 hb,S.core.dX,fun k b hk=>S.core.heap k b (hnb.mem _ hk),fun k b g hk hg=>?_,
    fun k k' b b' g g' hk hk' hg hg' hgg=>S.core.inj k k' b b' g g' (hnb.mem _ hk) (hnb.mem _ hk') hg hg' hgg,fun k hkk=>?_⟩
   ·rintro ⟨k,hk,g,hg,hgb⟩;exact hno k hk g hg hgb
   ·rcases S.own k b g (hnb.mem _ hk) hg with h|⟨e,he,g',hg',hgg⟩
    ·exact .inl h
    ·exact .inr ⟨e,he,g',hg',hgg⟩
   ·obtain ⟨g,hg⟩:=hk k hkk
    have hl:=oM pg hkk
    have hpg:pg k=g:=by show (σ k).getD ⟨0,0⟩=g;rw [hg];rfl
    rw [hg,<-hpg]
    exact hp k _ hl
  rcases he with rfl|rfl<;>exact hpost
 ·intro i v hi
  obtain ⟨g,rfl,_,hg⟩:=jV hi
  obtain ⟨x,hx,hrel⟩:=hargs.get hg
  have hx':(args++Array.replicate (fn.ntmps - args.size) undef).getD i undef=x:=by
   rw [Nat.sub_zero] at hx
   have hlt:=(List.getElem?_eq_some_iff.1 hx).1
   rw [Array.getD_eq_getD_getElem?,Array.getElem?_append_left (by simpa using hlt),<-Array.getElem?_toList,hx]
   rfl
  rw [hx']
  have hgo:=List.all_eq_true.1 hok g (List.mem_of_getElem? hg)
  have hid:g.map id=g:=by cases g with
   |c x=>cases x<;>simp [GV.map,CV.map]
   |g xs=>
    have:xs.map (CV.map id)=xs:=by
     induction xs with
     |nil=>rfl
     |cons y l ih=>
      have hy:y.map id=y:=by cases y<;>simp [CV.map]
      simp only [List.map_cons,hy]
      congr 1
      induction l with
      |nil=>rfl
      |cons z l _=>exact (by
        have hz:∀ c:CV,c.map id=c:=fun c=>by cases c<;>simp [CV.map]
        exact List.map_congr_left (fun c _=>hz c)|>.trans (List.map_id _))
    simp [GV.map,this]
  exact de.ca (ρ:=id) hσ (x:=g) (by rw [hid];exact hrel) hgo
 ·intro k b hk
  have hm:=bJ hk
  have hkin:bn bP k=true:=cV hm
  rw [hσ k hkin]
  have hgo:=List.all_eq_true.1 hokb _ hm
  refine di.ca (ρ:=id) hσ ?_ hgo
  have hz:∀ c:CV,c.map id=c:=fun c=>by cases c<;>simp [CV.map]
  have hid:b.map' id=b:=by cases b with
   |box t cs=>simp only [AB.map'];congr 1;exact (List.map_congr_left (fun c _=>hz c)).trans (List.map_id _)
   |arr=>rfl
   |map=>rfl
  rw [hid]
  exact hheap k b hm
 ·intro k k' b b' g g' hk hk' hg hg' hgg
  rw [hσ k (cV (bJ hk))] at hg
  rw [hσ k' (cV (bJ hk'))] at hg'
  exact hinj k k' b b' g g' (bJ hk) (bJ hk') hg hg' hgg
 ·intro k b g hk hg
  rw [hσ k (cV (bJ hk))] at hg
  exact .inr ⟨k,List.mem_map.2 ⟨(k,b),bJ hk,rfl⟩,g,hg,rfl⟩
 ·intro k hk
  refine if_neg fun hkin=>?_
  obtain ⟨b,hb⟩:=gG hkin
  have:=List.all_eq_true.1 hin1 _ hb
  rw [Nat.blt_eq] at this
  have:k < n:=this
  have hk:n<=k:=hk
  omega
 ·intro k b hk
  have:=List.all_eq_true.1 hin1 _ (bJ hk)
  rw [Nat.blt_eq] at this
  exact this
 ·simp;omega
 ·intro k g hl
  obtain ⟨k',hk',he⟩:=List.mem_map.1 (bJ hl)
  injection he with e1 e2
  subst e1
  have hkin:=List.all_eq_true.1 hkeep k' hk'
  rw [hσ k' hkin]
  obtain ⟨g',hg'⟩:=hk k' hk'
  subst e2
  show σ k'=some ((σ k').getD ⟨0,0⟩)
  rw [hg'];rfl
end
section
variable {P:Program} {W0:World} {N:NT} {T0:Nat->Prop} {Q:Exit->aJ->Prop} {s s':List (Nat×AV)} {h h':List (Nat×AB)} {n:Nat}
theorem xh {a:Go.Act} {w:World} (k:Nat) (k0:Nat) {g0:bM} {F:Nat->Prop} (hF:∀ b,F b->g0.g=b) (hk0:bn h' k0=true) (hk:bn h k=true) (hs:dq (fun x=>∃ y,look s x.1=some y/\yq ⟨s,h,n⟩ k (bn h') y x.2) s') (hh:dq (fun x=>look h x.1=some x.2) h') (hok:h'.all (fun x=>!Nat.beq x.1 k && x.2.ok (bn h'))=true)
  (hI:Inv W0 F N T0 [(k0,g0)] ⟨s,h,n⟩ a w):Inv W0 F N T0 [(k0,g0)] ⟨s',h',n⟩ a w:=by
 obtain ⟨σ,T,hT,S,hp⟩:=hI
 obtain ⟨b0,hb0⟩:=kh hk
 have hh':∀ j b,look h' j=some b->look h j=some b/\j≠k/\b.ok (bn h')=true:=fun j b hj=>by
  have h1:=List.all_eq_true.1 hok _ (bJ hj)
  simp only [Bool.and_eq_true,Bool.not_eq_true'] at h1
  exact ⟨hh.mem _ (bJ hj),(fun e=>by subst e;rw [Nat.beq_refl] at h1;exact absurd h1.1 (by simp)),h1.2⟩
 have C:=S.core.freeze (st':=⟨s',h',n⟩) k (fun i v hi=>hs.mem _ (bJ hi)) hh' ⟨b0,hb0⟩
 have q1:∀ b,b < W0.heap.size->(fS σ T [k] b->T0 b)/\(T0 b->fS σ T [k] b):=fun b hb=>⟨fun hb'=>(hT b hb).1 hb'.1,fun h0=>⟨(hT b hb).2 h0,fun e he g hg hgb=>by
  rw [List.mem_singleton.1 he] at hg
  rcases S.own k b0 g hb0 hg with h1|h1
  ·omega
  ·obtain ⟨b1,hb1⟩:=kh hk0
   have hb2:=hh' k0 b1 hb1
   exact absurd (S.core.inj k0 k b1 b0 g0 g hb2.1 hb0 (hp k0 g0 (by rw [bO,if_pos rfl])) hg (hF _ h1)) hb2.2.1⟩⟩
 have q2:∀ j b g,look h' j=some b->(if bn h' j=true then σ j else none)=some g->W0.heap.size<=g.g\/F g.g:=fun j b g hj hg=>by
  split at hg
  ·exact S.own j b g (hh' j b hj).1 hg
  ·cases hg
 have q3:∀ j,n<=j->(if bn h' j=true then σ j else none)=none:=fun j hj=>by
  split
  ·exact S.next j hj
  ·rfl
 exact ⟨_,_,q1,⟨C,S.os,S.tape,S.output,S.size,S.cz,q2,q3,fun j b hj=>S.hn j b (hh' j b hj).1,S.iU,S.gW⟩,fun j g hj=>by
  show (if bn h' j=true then σ j else none)=some g
  have h1:=hp j g hj
  rw [bO] at hj
  split at hj
  ·rename_i e;subst e;rw [if_pos hk0];exact h1
  ·cases hj⟩

theorem sJ {c:Code} {F:Nat->Prop} {g0:bM} (hF:∀ b,F b->g0.g=b) (k:Nat) (hk0:bn h' 0=true) (hk:bn h k=true) (hs:dq (fun x=>∃ y,look s x.1=some y/\yq ⟨s,h,n⟩ k (bn h') y x.2) s') (hh:dq (fun x=>look h x.1=some x.2) h') (hok:h'.all (fun x=>!Nat.beq x.1 k && x.2.ok (bn h'))=true)
  (hn:AC P W0 F N T0 [(0,g0)] Q c ⟨s',h',n⟩):AC P W0 F N T0 [(0,g0)] Q c ⟨s,h,n⟩:=fun a w hI=>hn a w (xh k 0 hF hk0 hk hs hh hok hI)
end
section
variable {P:Program} {W0:World} {F:Nat->Prop} {N:NT} {T0:Nat->Prop} {pin:List (Nat×bM)} {ops:Array Oper} {Q:Exit->aJ->Prop}
theorem Gw {o:Oper} {rest:List Oper} {s:List (Nat×AV)} {h:List (Nat×AB)} {n d:Nat} {av av':AV} {nb:List (Nat×AB)} (hw:ak ops o ⟨s,h,n⟩) (g:aK P o ⟨s,h,n⟩ av nb []) (hf:Gt nb av av') (hd:o.dst=some d) (hN:Nat.blt d N.1=true) (hnb:nb.all (fun x=>Nat.ble n x.1)=true)
  (hr:AL P W0 F N T0 pin ops Q rest ⟨(d,av')::s,h,n⟩):AL P W0 F N T0 pin ops Q (o::rest) ⟨s,h,n⟩:=by
 rintro a w ⟨σ,T,hT,S,hp⟩
 refine wpList_step fun K hK=>?_
 rw [if_pos (hw σ T a w S.core)]
 refine nh (iE (g σ T a w S.core fun k b hk _=>S.next k (Nat.le_of_ble_eq_true (List.all_eq_true.1 hnb _ hk))) ?_)
 rintro a' w' ⟨u,σ',T',rfl,X,hv⟩
 have hfresh:∀ k b g,(k,b)∈nb->σ' k=some g->w.heap.size<=g.g:=fun k b g hk hg=>(X.fresh k b g hk hg).resolve_right (fun ⟨e,he,_⟩=>by cases he)
 have hlow:∀ b,(T' b/\b < w.heap.size)->T' b:=fun b h=>h.1
 have X2:Ext σ T w σ (fun b=>T' b/\b < w.heap.size) w' [] []:=⟨X.os,X.tape,X.output,⟨X.grow.size,X.grow.cz,(fun b ⟨k,hk,_⟩=>by cases hk),fun b hb h=>X.grow.lD b hb h.1,fun _ _ h=>h⟩,fun b h=>⟨X.mB b h,S.core.dX b h⟩,fun b h=>X.dX b h.1,fun _ _=>rfl,(fun _ _ h=>by cases h),(fun _ _ _ h=>by cases h),(fun _ _ _ _ _ _ h=>by cases h)⟩
 have hc:∀ c d u,zD nb c d->cT σ' T' w' c u->cT σ (fun b=>T' b/\b < w.heap.size) w' d u:=by
  rintro c d u (⟨x,rfl,rfl⟩|⟨k,t,K,n,rows,rfl,rfl,hk,hn⟩) hu
  ·exact bj.fI hlow hu
  ·have hh:=X.rel k _ (bJ hk)
   obtain ⟨hK,hh⟩:=hh
   rcases hu with ⟨h0,rfl⟩|⟨g,hg,rfl,hcap,hmax⟩
   ·subst h0
    have:rows=[]:=List.eq_nil_of_length_eq_zero hn
    subst this
    exact bj.nil _ _ _
   ·rcases hh with ⟨h1,h2⟩|⟨g',vs,h1,h2,h3,h4,h5,h6⟩
    ·rw [hg] at h2;cases h2
    ·rw [hg] at h1;injection h1 with h1;subst h1
     have hfr:=hfresh k _ g (bJ hk) hg
     have:=bj.r (T:=fun b=>T' b/\b < w.heap.size) (w:=w') K rows g.g (0 * K) (g.c - 0) (fun i j=>(vs[i * K+j]?).getD undef) (X.dX _ h2) (fun hb=>by have:=hb.2;omega) (by omega) (by omega) (fun i row hr=>(h6.2 i row hr).1) (fun i row j d hr hd=>?_) (fun i row j d hr hd=>?_)
     ·rw [hn] at this;exact this
     ·obtain ⟨u,hu,_⟩:=(h6.2 i row hr).2 j d hd
      rw [Nat.zero_mul,Nat.zero_add,cell_of_row w' g.g (i * K+j) _ _ (0,0) h3]
      simp only [List.getElem?_toArray,hu,Option.getD_some]
     ·obtain ⟨u,hu,hr'⟩:=(h6.2 i row hr).2 j d hd
      simp only [hu,Option.getD_some]
      exact hr'.fI hlow
 have hgv:∀ c d u,zC nb c d->de σ' T' w' c u->de σ (fun b=>T' b/\b < w.heap.size) w' d u:=by
  intro c d u hcd hu
  match c,d,hcd with
  |.c c,.c d,hcd=>exact hc c d u hcd hu
  |.g cs,.g ds,hcd=>obtain ⟨vs,h1,h2⟩:=hu;exact ⟨vs,h1,cg.comp (fun x y z h1 h2=>hc x y z h1 h2) hcd h2⟩
 have hv2:eL σ (fun b=>T' b/\b < w.heap.size) w' av' u:=by
  match av,av',hf with
  |.v c,.v d,hf=>exact hgv c d u hf hv
  |.t cs,.t ds,hf=>obtain ⟨vs,h1,h2⟩:=hv;exact ⟨vs,h1,cg.comp (fun x y z h1 h2=>hgv x y z h1 h2) hf h2⟩
 have hS:=S.step (nb:=[]) (E:=[]) (dst:=o.dst) (fun _ h=>by cases h) (fun d' h'=>by rw [hd] at h';injection h' with h';subst h';rw [Nat.blt_eq] at hN;exact hN) X2 hv2
 rw [add_nil,hd] at hS
 rw [hd]
 exact hK _ _ (hr _ _ ⟨σ,_,fun b hb=>⟨fun hb'=>(hT b hb).1 (X.grow.lD b (Nat.lt_of_lt_of_le hb S.size) hb'.1),fun h0=>⟨X.mB b ((hT b hb).2 h0),Nat.lt_of_lt_of_le hb S.size⟩⟩,hS,hp⟩)
end
end
section
def mD (a:Answer):Value:=.agg #[.int .i64 a.err,.int .i64 a.ba]
def tV (ps:List (Int×Answer)):List (Int×Value):=ps.map fun p=>(p.1,mD p.2)
def ft:List (Int×Answer)->Int->Option Answer
 |[],_=>none
 |(k,v)::l,a=>if k=a then some v else ft l a
def lq:List (Int×Answer)->Int->Answer->List (Int×Answer)
 |[],a,v=>[(a,v)]
 |(k,u)::l,a,v=>if k=a then (a,v)::l else (k,u)::lq l a v
theorem oY {a:Int}:∀ {ps:List (Int×Answer)} {ms:List MapEntry} (i:Nat),ms.map (fun e=>(e.key,e.val))=(tV ps).map (fun e=>(Value.int .i64 e.1,e.2))->
  (∃ j v,Instr.findNow (.int .i64) (.int .i64 a) ms i=some (some (i+j,mD v))/\ft ps a=some v/\(∃ e,ms[j]?=some e/\e.key=.int .i64 a)/\∀ u,tV (lq ps a u)=(tV ps).set j (a,mD u))\/
  (Instr.findNow (.int .i64) (.int .i64 a) ms i=some none/\ft ps a=none/\∀ u,lq ps a u=ps++[(a,u)])
 |[],[],i,_=>.inr ⟨rfl,rfl,fun _=>rfl⟩
 |[],_::_,_,h=>by cases h
 |_::_,[],_,h=>by cases h
 |(k,v)::ps,e::ms,i,h=>by
  obtain ⟨h1,h2⟩:=List.cons.inj h
  injection h1 with h3 h4
  unfold Instr.findNow ft lq
  rw [h3,h4]
  by_cases hk:k=a
  ·subst hk
   exact .inl ⟨0,v,by simp [Instr.sameNow],by simp,⟨e,rfl,h3⟩,fun u=>by simp [tV]⟩
  ·have hk':(a==k)=false:=beq_eq_false_iff_ne.2 fun e=>hk e.symm
   rcases oY (ps:=ps) (ms:=ms) (a:=a) (i+1) h2 with ⟨j,w,h5,h6,⟨e',h7,h8⟩,h9⟩|⟨h5,h6,h7⟩
   ·refine .inl ⟨j+1,w,?_,by simp [hk,h6],⟨e',by simpa using h7,h8⟩,fun u=>?_⟩
    ·simp only [Instr.sameNow,hk',h5]
     simp [show i+1+j=i+(j+1) by omega]
    ·rw [if_neg hk]
     have:=h9 u
     simp only [tV] at this ⊢
     simp [this]
   ·exact .inr ⟨by simp [Instr.sameNow,hk',h5],by simp [hk,h6],fun u=>by rw [if_neg hk,h7];rfl⟩
section
variable {P:Program} {st:aJ} {o:Oper}
theorem AU {t kt et:TypeId} {m x:Operand} {k cl:Nat} {a:Int} {ps:List (Int×Answer)} (hu:P.underlying t=some (.map kt et)) (hkt:P.underlying kt=some (.int .i64)) (hz:(P.info? et).bind (fun i=>i.zero)=some (.agg #[.int .i64 0,.int .i64 0])) (ho:o.op=.lookup t m x true)
  (hm:ev st m (.v (.c (.m k)))) (hx:ev st x (.v (.c (.d (.v (.int .i64 a)))))) (hb:look st.h k=some (.map (tV ps) cl)):
  aK P o st (.t [.g [cI ((ft ps a).getD ⟨0,0⟩).err,cI ((ft ps a).getD ⟨0,0⟩).ba],.c (cB (ft ps a).isSome)]) [] []:=
 aK.val fun σ T ac w C=>by
  obtain ⟨g,h1,h2⟩:=bH C hm
  have h3:=bj.inv (bH C hx)
  obtain ⟨g',ms,e1,e2,e3,e4⟩:=C.heap k _ hb
  rw [h1] at e1;injection e1 with e1;subst e1
  refine ⟨.tuple #[mD ((ft ps a).getD ⟨0,0⟩),.bool (ft ps a).isSome],?_,⟨_,rfl,⟨_,rfl,bj.v _ rfl,bj.v _ rfl,trivial⟩,bj.v _ rfl,trivial⟩⟩
  cases hq:P.info? et with
  |none=>simp [hq] at hz
  |some i=>
   have hzz:i.zero=some (.agg #[.int .i64 0,.int .i64 0]):=by simpa [hq] using hz
   unfold execOp
   rcases oY (a:=a) 0 e4 with ⟨j,v,hf,hg,_⟩|⟨hf,hg,_⟩
   ·simp [ho,h2,h3,hg,Instr.lookup,run_underlying hu,MapKept.run_getObj_map e3,MapKept.run_checkKey hkt (show MapKept.IsKey (.int .i64) (.int .i64 a) from rfl),MapKept.run_findKey hkt hf,Result.andThen]
   ·simp [ho,h2,h3,hg,Instr.lookup,run_underlying hu,MapKept.run_getObj_map e3,MapKept.run_checkKey hkt (show MapKept.IsKey (.int .i64) (.int .i64 a) from rfl),MapKept.run_findKey hkt hf,Result.andThen,zeroValue,typeInfo,hq,hzz,mD]
theorem AQ {t kt et:TypeId} {m x y:Operand} {k cl:Nat} {a e u:Int} {ps:List (Int×Answer)} (hu:P.underlying t=some (.map kt et)) (hkt:P.underlying kt=some (.int .i64)) (ho:o.op=.mapUpdate t m x y)
  (hm:ev st m (.v (.c (.m k)))) (hx:ev st x (.v (.c (.d (.v (.int .i64 a)))))) (hy:ev st y (.v (.g [cI e,cI u]))) (hb:look st.h k=some (.map (tV ps) cl)):
  aK P o st (.v (.c .any)) [(k,.map (tV (lq ps a ⟨e,u⟩)) (if (ft ps a).isSome then cl else cl+1))] [k]:=by
 intro σ T ac w C _
 obtain ⟨g,h1,h2⟩:=bH C hm
 have h3:=bj.inv (bH C hx)
 obtain ⟨vs,h4,h5⟩:=bH C hy
 have h4:ac.eval y=mD ⟨e,u⟩:=by
  match vs,h5 with
  |[v1,v2],h5=>rw [h4,bj.inv h5.1,bj.inv h5.2.1];rfl
 obtain ⟨g',ms,e1,e2,e3,e4⟩:=C.heap k _ hb
 rw [h1] at e1;injection e1 with e1;subst e1
 have hlt:=(Array.getElem?_eq_some_iff.1 e3).1
 rcases oY (a:=a) 0 e4 with ⟨j,v,hf,hg,⟨e0,hj,hk⟩,hp⟩|⟨hf,hg,hp⟩
 ·rw [Nat.zero_add] at hf
  have hj':ms[j]?=some e0:=by simpa using hj
  refine ku (w':={w with heap:=w.heap.setIfInBounds g.g (.map (ms.modify j fun e'=>{e' with key:=.int .i64 a,val:=mD ⟨e,u⟩}) cl)}) ?_ ⟨undef,σ,T,rfl,Ext.write C hb h1 rfl rfl rfl (by simp) (fun i hi=>(MapKept.heap_set e3).2 i hi) fun G=>?_,trivial⟩
  ·unfold execOp
   simp [ho,h2,h3,h4,Instr.mapUpdate,Sem.run_bind,run_underlying hu,Result.andThen_ok,MapKept.run_getObj_map e3,MapKept.run_checkKey hkt (show MapKept.IsKey (.int .i64) (.int .i64 a) from rfl),MapKept.run_findKey hkt hf,hj',hk,MapKept.run_keyThatStays (show MapKept.IsKey (.int .i64) (.int .i64 a) from rfl),MapKept.run_setObj_map _ e3]
  ·refine ⟨g,(ms.modify j fun e'=>{e' with key:=.int .i64 a,val:=mD ⟨e,u⟩}),rfl,e2,?_,?_⟩
   ·rw [hg];exact (MapKept.heap_set e3).1
   ·rw [hp,List.map_set,<-e4]
    refine List.ext_getElem? fun q=>?_
    rw [List.getElem?_map,Array.getElem?_toList,Array.getElem?_modify,List.getElem?_set,List.getElem?_map,Array.getElem?_toList]
    by_cases hq:j=q
    ·subst hq
     have hjl:=(Array.getElem?_eq_some_iff.1 hj').1
     simp [hj',hjl]
    ·simp [hq]
 ·refine ku (w':={w with heap:=w.heap.setIfInBounds g.g (.map (ms.push {key:=.int .i64 a,val:=mD ⟨e,u⟩,born:=cl}) (cl+1))}) ?_ ⟨undef,σ,T,rfl,Ext.write C hb h1 rfl rfl rfl (by simp) (fun i hi=>(MapKept.heap_set e3).2 i hi) fun G=>?_,trivial⟩
  ·unfold execOp
   simp only [ho,h2,h3,h4,Instr.mapUpdate,Sem.run_bind,run_underlying hu,Result.andThen_ok,MapKept.run_getObj_map e3,MapKept.run_checkKey hkt (show MapKept.IsKey (.int .i64) (.int .i64 a) from rfl),MapKept.run_findKey hkt hf,MapKept.run_setObj_map _ e3]
   rfl
  ·refine ⟨g,(ms.push {key:=.int .i64 a,val:=mD ⟨e,u⟩,born:=cl}),rfl,e2,?_,?_⟩
   ·rw [hg];exact (MapKept.heap_set e3).1
   ·rw [hp,Array.toList_push,List.map_append,e4]
    simp [tV]
theorem zc {t:TypeId} (k:Nat) (ho:o.op=.makeMap t none):aK P o st (.v (.c (.m k))) [(k,.map (tV []) 0)] []:=uk k ho
end
end
section
def dP {α:Type} (p:α->Bool) (l:List α):List α:=l.filter fun x=>!p x
def ik {α:Type} (p:α->Bool) (l:List α):Int:=
 match l.findIdx? p with
 |some i=>i
 |none=>-1
variable {α:Type} {p:α->Bool} {l c:List α} {i j q:Nat} {x:α}
theorem nB (h:l[j]?=some x):dP p (l.take (j+1))=dP p (l.take j)++if p x then [] else [x]:=by
 rw [gN h,dP,dP,List.filter_append]
 cases hp:p x<;>simp [hp]
theorem oO (p:α->Bool) (l:List α):(dP p l).length<=l.length:=List.length_filter_le _ _
theorem uh (h:(l.take q).all (fun y=>!p y)=true) (hx:l[q]?=some x) (hp:p x=true):ik p l=q:=by
 unfold ik
 have hq:=(List.getElem?_eq_some_iff.1 hx).1
 have:l.findIdx? p=some q:=by
  rw [List.findIdx?_eq_some_iff_getElem]
  refine ⟨hq,?_,fun r hr=>?_⟩
  ·have:=(List.getElem?_eq_some_iff.1 hx).2;rw [this];exact hp
  ·rw [List.all_eq_true] at h
   have hm:l[r]'(by omega)∈l.take q:=by
    rw [List.mem_iff_getElem]
    exact ⟨r,by rw [List.length_take];omega,by simp⟩
   have:=h _ hm
   simpa using this
 rw [this]
theorem vV (h:l.all (fun y=>!p y)=true):ik p l=-1:=by
 unfold ik
 have:l.findIdx? p=none:=by
  rw [List.findIdx?_eq_none_iff]
  intro y hy
  have:=List.all_eq_true.1 h y hy
  simpa using this
 rw [this]
theorem wS (h:(l.take q).all (fun y=>!p y)=true) (hx:l[q]?=some x) (hp:p x=false):(l.take (q+1)).all (fun y=>!p y)=true:=ym h hx (by simp [hp])
theorem ui (p:α->Bool) (l:List α):(ik p l=-1/\dP p l=l)\/∃ i:Nat,ik p l=i/\i < l.length/\∃ x,l[i]?=some x/\p x=true/\dP p (l.take i)=l.take i:=by
 unfold ik
 cases h:l.findIdx? p with
 |none=>
  refine .inl ⟨rfl,?_⟩
  rw [List.findIdx?_eq_none_iff] at h
  exact List.filter_eq_self.2 fun y hy=>by simp [h y hy]
 |some i=>
  rw [List.findIdx?_eq_some_iff_getElem] at h
  obtain ⟨h1,h2,h3⟩:=h
  refine .inr ⟨i,rfl,h1,l[i],List.getElem?_eq_getElem h1,h2,?_⟩
  refine List.filter_eq_self.2 fun y hy=>?_
  obtain ⟨r,hr,rfl⟩:=List.mem_iff_getElem.1 hy
  rw [List.length_take] at hr
  have:=h3 r (by omega)
  simp [this]
structure lE (p:α->Bool) (l c:List α) (i j:Nat):Prop where
 len:c.length=l.length
 ij:i < j
 jl:j<=l.length
 pre:c.take i=dP p (l.take j)
 post:c.drop j=l.drop j
theorem lE.get (h:lE p l c i j) (hx:c[j]?=some x):l[j]?=some x:=by
 have h1:(c.drop j)[0]?=(l.drop j)[0]?:=by rw [h.post]
 simpa [hx] using h1.symm
theorem lE.skip (h:lE p l c i j) (hx:c[j]?=some x) (hp:p x=true):lE p l c i (j+1):=by
 have hl:=h.get hx
 have hj:=(List.getElem?_eq_some_iff.1 hl).1
 refine ⟨h.len,Nat.lt_succ_of_lt h.ij,hj,?_,?_⟩
 ·rw [nB hl,hp,h.pre];simp
 ·rw [<-List.drop_drop,<-List.drop_drop,h.post]
theorem lE.cG (h:lE p l c i j) (hx:c[j]?=some x) (hp:p x=false):lE p l (c.set i x) (i+1) (j+1):=by
 have hl:=h.get hx
 have hj:=(List.getElem?_eq_some_iff.1 hl).1
 have hi:i < c.length:=by have:=h.ij;rw [h.len];omega
 refine ⟨by rw [List.length_set];exact h.len,Nat.succ_lt_succ h.ij,hj,?_,?_⟩
 ·rw [nB hl,hp,<-h.pre]
  rw [List.take_succ_eq_append_getElem (by rw [List.length_set];exact hi)]
  simp [List.take_set_of_le]
 ·rw [List.drop_set_of_lt (by have:=h.ij;omega),<-List.drop_drop,<-List.drop_drop,h.post]
theorem lE.start {i:Nat} (hx:l[i]?=some x) (hp:p x=true) (hk:dP p (l.take i)=l.take i):lE p l l i (i+1):=by
 have hi:=(List.getElem?_eq_some_iff.1 hx).1
 refine ⟨rfl,Nat.lt_succ_self i,hi,?_,rfl⟩
 rw [nB hx,hp,hk];simp
theorem lE.done (h:lE p l c i j) (hj:l.length<=j):c.take i=dP p l:=by
 rw [h.pre,List.take_of_length_le hj]
end
section
def fD {α:Type} [DecidableEq α] (a b:List α):Bool:=decide (a=b)
section
variable {α:Type} [DecidableEq α] {a b:List α}
theorem DU (h:¬((a.length:Int)=b.length)):fD a b=false:=by
 simp only [fD,decide_eq_false_iff_not]
 rintro rfl;exact h rfl
theorem BS {q:Nat} {x y:α} (hx:a[q]?=some x) (hy:b[q]?=some y) (h:¬x=y):fD a b=false:=by
 simp only [fD,decide_eq_false_iff_not]
 rintro rfl;rw [hx] at hy;injection hy with hy;exact h hy
theorem BR {q:Nat} (h1:a.length<=q) (h2:b.length<=q) (h:a.take q=b.take q):fD a b=true:=by
 simp only [fD,decide_eq_true_eq]
 rw [<-List.take_of_length_le h1,<-List.take_of_length_le h2];exact h
end
end
section
def kW (a b c:Int):Int:=if a < 1\/a > 1000000\/b < 0\/b > 30\/c < 0\/c > 1000000000000 then 3 else 0
def scan (e:Nat->Int) (q:Nat):Nat->Int×Int
 |0=>(0,0)
 |k+1=>if e q≠0 then (e q,(q:Int)) else scan e (q+1) k
theorem mR {e:Nat->Int} {q n:Nat} (hq:q < n) (h:e q=0):scan e q (n - q)=scan e (q+1) (n - (q+1)):=by
 rw [show n - q=(n - (q+1))+1 by omega,scan,if_neg (by simp [h])]
theorem iC {e:Nat->Int} {q n:Nat} (hq:q < n) {c:Int} (h:e q=c) (hc:c≠0):scan e q (n - q)=(c,(q:Int)):=by
 rw [show n - q=(n - (q+1))+1 by omega,scan,if_pos (by rw [h];exact hc),h]
theorem np {e:Nat->Int} {q n:Nat} (hq:¬q < n):scan e q (n - q)=(0,0):=by rw [show n - q=0 by omega];rfl
theorem nr {e:Nat->Int}:∀ (n q:Nat),(scan e q n).1=0↔∀ i,q<=i->i < q+n->e i=0
 |0,q=>by simp [scan];intro i h1 h2;omega
 |n+1,q=>by
  rw [scan]
  split
  ·rename_i h;exact ⟨fun h'=>absurd h' h,fun h'=>absurd (h' q (Nat.le_refl _) (by omega)) h⟩
  ·rename_i h
   rw [nr n (q+1)]
   constructor
   ·intro h' i h1 h2
    by_cases hi:i=q
    ·subst hi;omega
    ·exact h' i (by omega) (by omega)
   ·exact fun h' i h1 h2=>h' i (by omega) (by omega)
def lp (l:List db) (q:Nat):Int:=
 match l[q]? with
 |some u=>if u.time < 0\/u.time > 1000000\/u.sum < 0\/u.sum > 1000000 then 3 else if 0 < q/\(l.getD (q - 1) ⟨0,0⟩).time > u.time then 2 else 0
 |none=>0
def cY (l:List db):Int×Int:=if l.length > 30 then (5,0) else scan (lp l) 0 l.length
def fC (p:eI):Int:=kW p.cQ p.count p.sum
def fP (l:List db):cW:=⟨(cY l).1,(cY l).2⟩
def cz (p:eI) (t:Int) (u:db):Bool:=decide (u.time<=t - p.cQ)
def dN (p:eI) (l:List db) (t:Int):List db:=dP (cz p t) l
def iw:List db->Int
 |[]=>0
 |u::l=>u.sum+iw l
def ig (l:List db) (t:Int):Bool:=match l.getLast? with
 |some u=>decide (u.time > t)
 |none=>false
def eK (p:eI) (l:List db) (x:db):List db×Int:=
 if fC p≠0 then ([],fC p)
 else if (fP l).err≠0 then ([],(fP l).err)
 else if (fP [x]).err≠0 then ([],(fP [x]).err)
 else if ig l x.time=true then ([],2)
 else if p.count < ((dN p l x.time).length:Int)+1\/p.sum < iw (dN p l x.time)+x.sum then ([],11)
 else (dN p l x.time++[x],0)
theorem oB {p:eI} (h:fC p=0):1<=p.cQ/\p.cQ<=1000000/\0<=p.count/\p.count<=30/\0<=p.sum/\p.sum<=1000000000000:=by
 unfold fC kW at h
 split at h
 ·cases h
 ·omega
theorem qH {l:List db}:(fP l).err=0↔l.length<=30/\∀ i,i < l.length->lp l i=0:=by
 unfold fP cY
 dsimp only
 split
 ·constructor
  ·intro h;cases h
  ·intro h;omega
 ·rw [nr]
  constructor
  ·exact fun h=>⟨by omega,fun i hi=>h i (Nat.zero_le _) (by omega)⟩
  ·exact fun h i _ hi=>h.2 i (by omega)
theorem qJ {l:List db} {q:Nat} {u:db} (h:l[q]?=some u):lp l q=0↔(0<=u.time/\u.time<=1000000/\0<=u.sum/\u.sum<=1000000)/\∀ v,0 < q->l[q - 1]?=some v->v.time<=u.time:=by
 unfold lp
 rw [h]
 dsimp only
 have hq:=(List.getElem?_eq_some_iff.1 h).1
 split
 ·constructor
  ·intro h;cases h
  ·intro h;omega
 ·split
  ·rename_i h1 h2
   constructor
   ·intro h;cases h
   ·intro h3
    have hv:l[q - 1]?=some l[q - 1]:=List.getElem?_eq_getElem (by omega)
    have:=h3.2 _ h2.1 hv
    rw [List.getD_eq_getElem?_getD,hv] at h2
    simp only [Option.getD_some] at h2
    omega
  ·rename_i h1 h2
   refine ⟨fun _=>⟨by omega,fun v h3 h4=>?_⟩,fun _=>rfl⟩
   rw [List.getD_eq_getElem?_getD,h4] at h2
   simp only [Option.getD_some] at h2
   omega
theorem jY {l:List db} (h:(fP l).err=0):l.length<=30/\∀ u∈l,0<=u.time/\u.time<=1000000/\0<=u.sum/\u.sum<=1000000:=by
 obtain ⟨h1,h2⟩:=qH.1 h
 refine ⟨h1,fun u hu=>?_⟩
 obtain ⟨i,hi⟩:=List.getElem?_of_mem hu
 exact ((qJ hi).1 (h2 i (List.getElem?_eq_some_iff.1 hi).1)).1
theorem kZ (l:List db) (u:db):iw (l++[u])=iw l+u.sum:=by
 induction l with
 |nil=>simp [iw]
 |cons x l ih=>simp only [List.cons_append,iw,ih];omega
theorem yz {l:List db} (h:∀ u∈l,0<=u.time/\u.time<=1000000/\0<=u.sum/\u.sum<=1000000):0<=iw l/\iw l<=1000000 * l.length:=by
 induction l with
 |nil=>simp [iw]
 |cons x l ih=>
  have h1:=ih fun u hu=>h u (List.mem_cons_of_mem _ hu)
  have h2:=h x List.mem_cons_self
  simp only [iw,List.length_cons]
  omega
theorem kD {α:Type} {p:α->Bool} {l:List α} {x:α} (h:x∈dP p l):x∈l:=(List.mem_filter.1 h).1
theorem pW {p:eI} {l:List db} {t:Int} {k:Nat} (h:(fP l).err=0):0<=iw ((dN p l t).take k)/\iw ((dN p l t).take k)<=30000000:=by
 obtain ⟨h1,h2⟩:=jY h
 have h3:=yz (l:=(dN p l t).take k) fun u hu=>h2 u (kD (List.mem_of_mem_take hu))
 have h4:=oO (cz p t) l
 have h5:((dN p l t).take k).length<=(dN p l t).length:=by rw [List.length_take];exact Nat.min_le_right _ _
 have h6:(dN p l t).length<=30:=Nat.le_trans h4 h1
 omega
theorem Fl {α:Type} {a b x:α} {q:Nat} (h:[a,b][q]?=some x):(q=0/\x=a)\/(q=1/\x=b):=by
 match q with
 |0=>left;simp_all
 |1=>right;simp_all
 |q+2=>simp at h
theorem mU {l:List db} {t:Int} {u:db} (h:l[l.length - 1]?=some u):ig l t=decide (u.time > t):=by
 unfold ig
 rw [List.getLast?_eq_getElem?,h]
end
section
end
section
theorem Bx {p:eI} {l r:List db} {x:db} (h:eK p l x=(r,0)):fC p=0/\(fP l).err=0/\(fP [x]).err=0/\ig l x.time=false/\((dN p l x.time).length:Int)+1<=p.count/\iw (dN p l x.time)+x.sum<=p.sum/\r=dN p l x.time++[x]:=by
 unfold eK at h
 split at h
 ·rename_i h1;simp only [Prod.mk.injEq] at h;exact absurd h.2 h1
 split at h
 ·rename_i h1;simp only [Prod.mk.injEq] at h;exact absurd h.2 h1
 split at h
 ·rename_i h1;simp only [Prod.mk.injEq] at h;exact absurd h.2 h1
 split at h
 ·simp at h
 split at h
 ·simp at h
 ·rename_i h1 h2 h3 h4 h5
  simp only [Prod.mk.injEq] at h
  exact ⟨by omega,by omega,by omega,by simpa using h4,by omega,by omega,h.1.symm⟩
structure Kept (p:eI) (all kept:List db):Prop where
 times:∀ u∈all,∀ v,all.getLast?=some v->u.time<=v.time
 last:kept.getLast?=all.getLast?
 HF:∀ t,(∀ v,all.getLast?=some v->v.time<=t)->dN p kept t=dN p all t
 eo:∀ i u,all[i]?=some u->((dN p (all.take (i+1)) u.time).length:Int)<=p.count/\iw (dN p (all.take (i+1)) u.time)<=p.sum
 bound:∀ u∈all,0<=u.time/\u.time<=1000000/\0<=u.sum/\u.sum<=1000000
theorem Kept.nil (p:eI):Kept p [] []:=⟨fun u h=>by simp at h,rfl,fun _ _=>rfl,fun i u h=>by simp at h,fun u h=>by simp at h⟩
theorem oN (p:db->Bool) (l:List db) (x:db):dP p (l++[x])=dP p l++if p x then [] else [x]:=by
 rw [dP,dP,List.filter_append]
 cases hp:p x<;>simp [hp]
theorem Kept.add {p:eI} {all kept r:List db} {x:db} (h:Kept p all kept) (ha:eK p kept x=(r,0)):Kept p (all++[x]) r:=by
 obtain ⟨h1,h2,h3,h4,h5,h6,rfl⟩:=Bx ha
 have hp:=oB h1
 have hl:∀ v,all.getLast?=some v->v.time<=x.time:=fun v hv=>by
  unfold ig at h4
  rw [h.last,hv] at h4
  simpa using h4
 have hx:=(jY h3).2 x (by simp)
 have hrec:dN p kept x.time=dN p all x.time:=h.HF _ hl
 have hold:∀ t,cz p t x=false\/t - p.cQ>=x.time:=fun t=>by unfold cz;by_cases h:x.time<=t - p.cQ<;>simp [h]
 have hx0:cz p x.time x=false:=by unfold cz;simp;omega
 refine ⟨fun u hu v hv=>?_,by simp,fun t ht=>?_,fun i u hi=>?_,fun u hu=>?_⟩
 ·have hv':v=x:=by simpa using hv.symm
  subst hv'
  rcases List.mem_append.1 hu with hu|hu
  ·cases hg:all.getLast? with
   |none=>rw [List.getLast?_eq_none_iff] at hg;subst hg;simp at hu
   |some w=>have:=h.times u hu w hg;have:=hl w hg;omega
  ·have:u=v:=by simpa using hu
   subst this;omega
 ·have htx:x.time<=t:=ht x (by simp)
  unfold dN
  rw [oN,oN]
  congr 1
  show dP (cz p t) (dN p kept x.time)=dP (cz p t) all
  rw [hrec]
  unfold dN dP
  rw [List.filter_filter]
  apply List.filter_congr
  intro u _
  unfold cz
  by_cases h1:u.time<=t - p.cQ
  ·simp [h1]
  ·have:¬u.time<=x.time - p.cQ:=by omega
   simp [h1,this]
 ·by_cases hi':i < all.length
  ·rw [List.getElem?_append_left hi'] at hi
   rw [List.take_append_of_le_length (by omega)]
   exact h.eo i u hi
  ·have hlt:=(List.getElem?_eq_some_iff.1 hi).1
   simp at hlt
   obtain rfl:i=all.length:=by omega
   have hux:u=x:=by simpa using hi.symm
   subst hux
   rw [List.take_of_length_le (by simp)]
   unfold dN at *
   rw [oN,hx0,<-hrec]
   simp only [Bool.false_eq_true,if_false,List.length_append,List.length_singleton,kZ]
   omega
 ·rcases List.mem_append.1 hu with hu|hu
  ·exact h.bound u hu
  ·have:u=x:=by simpa using hu
   subst this;exact hx
end
section
def cX (c:bI):Int:=
 if c.bN < -1000000000000\/c.bN > 1000000000000\/c.held < 0\/c.held > 1000000000000 then 3 else if fC c.cq≠0 then fC c.cq else (fP c.cY).err
def oK:bI:=⟨0,0,⟨0,0,0⟩,[]⟩
def dZ (c:bI) (n time:Int):bI×Int:=
 if cX c≠0 then (oK,cX c)
 else if n < 1\/n > 1000000\/time < 0\/time > 1000000 then (oK,3)
 else if c.held+n > c.bN then (oK,10)
 else if (eK c.cq c.cY ⟨time,n⟩).2≠0 then (oK,(eK c.cq c.cY ⟨time,n⟩).2)
 else (⟨c.bN,c.held+n,c.cq,(eK c.cq c.cY ⟨time,n⟩).1⟩,0)
def fa (c:bI) (n:Int):bI×Int:=
 if cX c≠0 then (oK,cX c)
 else if n < 1\/n > 1000000\/c.held+n > 1000000000000 then (oK,3)
 else (⟨c.bN,c.held+n,c.cq,c.cY⟩,0)
def en (c:bI) (held bN:Int):bI×Int:=
 if cX c≠0 then (oK,cX c)
 else if held < -1000000000000\/held > 1000000000000\/bN < -1000000000000\/bN > 1000000000000 then (oK,3)
 else if cX ⟨c.bN+bN,c.held+held,c.cq,c.cY⟩≠0 then (oK,10)
 else (⟨c.bN+bN,c.held+held,c.cq,c.cY⟩,0)
theorem jv {c:bI} (h:cX c=0):-1000000000000<=c.bN/\c.bN<=1000000000000/\0<=c.held/\c.held<=1000000000000/\fC c.cq=0/\(fP c.cY).err=0:=by
 unfold cX at h
 split at h
 ·cases h
 ·split at h
  ·omega
  ·omega
theorem pC {c:bI} (h:-1000000000000<=c.bN/\c.bN<=1000000000000/\0<=c.held/\c.held<=1000000000000) (h1:fC c.cq=0) (h2:(fP c.cY).err=0):cX c=0:=by
 unfold cX
 rw [if_neg (by omega),if_neg (by omega),h2]
theorem nt {c:bI} (h:cX c=0):c.cY.length<=30:=(jY (jv h).2.2.2.2.2).1
theorem qM {c x:bI} {a m e:Int} (h:en c a m=(x,e)):(e≠0/\x=oK/\(e=3->cX c=0->(a < -1000000000000\/a > 1000000000000\/m < -1000000000000\/m > 1000000000000)))\/(e=0/\cX c=0/\-1000000000000<=a/\a<=1000000000000/\-1000000000000<=m/\m<=1000000000000/\x=⟨c.bN+m,c.held+a,c.cq,c.cY⟩/\cX x=0):=by
 unfold en at h
 split at h
 ·rename_i h1;simp only [Prod.mk.injEq] at h;exact .inl ⟨h.2▸h1,h.1.symm,fun _ h3=>absurd h3 h1⟩
 split at h
 ·rename_i h1;simp only [Prod.mk.injEq] at h;exact .inl ⟨by omega,h.1.symm,fun _ _=>h1⟩
 split at h
 ·simp only [Prod.mk.injEq] at h;exact .inl ⟨by omega,h.1.symm,fun h3=>by omega⟩
 ·rename_i h1 h2 h3
  simp only [Prod.mk.injEq] at h
  obtain ⟨rfl,rfl⟩:=h
  exact .inr ⟨rfl,by omega,by omega,by omega,by omega,by omega,rfl,by omega⟩
theorem rn {c x:bI} {n t e:Int} (h:dZ c n t=(x,e)):(e≠0/\x=oK/\(e=10->cX c=0->c.held+n > c.bN\/(eK c.cq c.cY ⟨t,n⟩).2=10))\/(e=0/\cX c=0/\1<=n/\n<=1000000/\0<=t/\t<=1000000/\c.held+n<=c.bN/\∃ l,eK c.cq c.cY ⟨t,n⟩=(l,0)/\x=⟨c.bN,c.held+n,c.cq,l⟩):=by
 unfold dZ at h
 split at h
 ·rename_i h1;simp only [Prod.mk.injEq] at h;exact .inl ⟨h.2▸h1,h.1.symm,fun _ h3=>absurd h3 h1⟩
 split at h
 ·simp only [Prod.mk.injEq] at h;exact .inl ⟨by omega,h.1.symm,fun h3=>by omega⟩
 split at h
 ·rename_i h1;simp only [Prod.mk.injEq] at h;exact .inl ⟨by omega,h.1.symm,fun _ _=>.inl h1⟩
 split at h
 ·rename_i h1;simp only [Prod.mk.injEq] at h;exact .inl ⟨h.2▸h1,h.1.symm,fun h3 _=>.inr (h.2.trans h3)⟩
 ·rename_i h1 h2 h3 h4
  simp only [Prod.mk.injEq] at h
  refine .inr ⟨h.2.symm,by omega,by omega,by omega,by omega,by omega,by omega,_,Prod.ext rfl (by simpa using h4),h.1.symm⟩
end
section
end
section
theorem sK {l:List db}:(fP l).err=0↔l.length<=30/\(∀ u∈l,0<=u.time/\u.time<=1000000/\0<=u.sum/\u.sum<=1000000)/\l.Pairwise fun a b=>a.time<=b.time:=by
 constructor
 ·intro h
  obtain ⟨h1,h2⟩:=qH.1 h
  refine ⟨h1,(jY h).2,?_⟩
  rw [List.pairwise_iff_getElem]
  have step:∀ i (hi:i+1 < l.length),l[i].time<=l[i+1].time:=fun i hi=>by
   have h3:=((qJ (List.getElem?_eq_getElem hi)).1 (h2 (i+1) hi)).2 l[i] (by omega) (List.getElem?_eq_getElem (by omega))
   exact h3
  intro i j hi hj hij
  obtain ⟨k,rfl⟩:∃ k,j=i+1+k:=⟨j - i - 1,by omega⟩
  clear hij
  induction k with
  |zero=>exact step i hj
  |succ k ih=>
   have h4:=ih (by omega)
   have h5:=step (i+1+k) hj
   exact Int.le_trans h4 h5
 ·rintro ⟨h1,h2,h3⟩
  refine qH.2 ⟨h1,fun i hi=>?_⟩
  refine (qJ (List.getElem?_eq_getElem hi)).2 ⟨h2 _ (List.getElem_mem hi),fun v h0 hv=>?_⟩
  rw [List.pairwise_iff_getElem] at h3
  obtain ⟨h5,rfl⟩:=List.getElem?_eq_some_iff.1 hv
  exact h3 (i - 1) i h5 hi (by omega)
theorem Bw {p:eI} {l r:List db} {x:db} (h:eK p l x=(r,0)):(fP r).err=0:=by
 obtain ⟨h1,h2,h3,h4,h5,h6,rfl⟩:=Bx h
 have hp:=oB h1
 obtain ⟨h7,h8,h9⟩:=sK.1 h2
 have hx:=(jY h3).2 x (by simp)
 refine sK.2 ⟨by rw [List.length_append,List.length_singleton];omega,fun u hu=>?_,?_⟩
 ·rcases List.mem_append.1 hu with hu|hu
  ·exact h8 u (kD hu)
  ·have:u=x:=by simpa using hu
   subst this;exact hx
 ·rw [List.pairwise_append]
  refine ⟨List.Pairwise.filter _ h9,by simp,fun u hu v hv=>?_⟩
  have:v=x:=by simpa using hv
  subst this
  have hu':=kD hu
  have hne:l≠[]:=by intro e;subst e;simp at hu'
  have hlast:(l.getLast hne).time<=v.time:=by
   unfold ig at h4
   rw [List.getLast?_eq_some_getLast hne] at h4
   simpa using h4
  refine Int.le_trans ?_ hlast
  obtain ⟨i,hi,rfl⟩:=List.mem_iff_getElem.1 hu'
  rw [List.getLast_eq_getElem]
  by_cases e:i=l.length - 1
  ·subst e;exact Int.le_refl _
  ·rw [List.pairwise_iff_getElem] at h9
   exact h9 i (l.length - 1) hi (by omega) (by omega)
end
section

end
section
def mE (s:bY) (q:Nat):Int:=
 match s.kept[q]? with
 |some t=>if t.kind < 1\/t.kind > 3 then 1 else if t.ba < 0\/t.ba > 29\/t.sum < 1\/t.sum > 1000000 then 3 else if t.number≠s.bX - s.kept.length+1+q then 2 else 0
 |none=>0
def jS (s:bY):Int×Int:=
 if s.kept.length > 40 then (5,0) else if s.bX < s.kept.length\/s.bX > 1000000 then (3,0) else scan (mE s) 0 s.kept.length
def cP (s:bY):cW:=⟨(jS s).1,(jS s).2⟩
def xQ:bY:=⟨0,[]⟩
def lV (s:bY) (t:bo):bY:=⟨s.bX+1,s.kept++[⟨s.bX+1,t.kind,t.ba,t.sum⟩]⟩
def gP (s:bY) (t:bo):bY×Int:=
 if (cP s).err≠0 then (xQ,(cP s).err)
 else if (cP (lV s t)).err≠0 then (xQ,(cP (lV s t)).err) else (lV s t,0)
def came (seen:Int) (t:bo):Bool:=decide (t.number<=seen)
def ej (s:bY) (seen:Int):bY×Int:=
 if (cP s).err≠0 then (xQ,(cP s).err)
 else if seen < 0\/seen > s.bX then (xQ,3) else (⟨s.bX,dP (came seen) s.kept⟩,0)
def iB (seen:Int) (t:bo):Int×Bool:=
 if seen < 0\/seen>=1000000\/t.number≠seen+1 then (seen,false) else (seen+1,true)
theorem lF {s:bY}:(cP s).err=0↔s.kept.length<=40/\(s.kept.length:Int)<=s.bX/\s.bX<=1000000/\∀ i,i < s.kept.length->mE s i=0:=by
 unfold cP jS
 dsimp only
 split
 ·constructor
  ·intro h;cases h
  ·intro h;omega
 ·split
  ·constructor
   ·intro h;cases h
   ·intro h;omega
  ·rw [nr]
   constructor
   ·exact fun h=>⟨by omega,by omega,by omega,fun i hi=>h i (Nat.zero_le _) (by omega)⟩
   ·exact fun h i _ hi=>h.2.2.2 i (by omega)
theorem vf {s:bY} {q:Nat} {t:bo} (h:s.kept[q]?=some t):mE s q=0↔1<=t.kind/\t.kind<=3/\0<=t.ba/\t.ba<=29/\1<=t.sum/\t.sum<=1000000/\t.number=s.bX - s.kept.length+1+q:=by
 unfold mE
 rw [h]
 dsimp only
 split
 ·constructor
  ·intro h;cases h
  ·intro h;omega
 ·split
  ·constructor
   ·intro h;cases h
   ·intro h;omega
  ·split
   ·constructor
    ·intro h;cases h
    ·intro h;omega
   ·constructor
    ·intro _;omega
    ·intro _;rfl
theorem vz {s:bY} (h:(cP s).err=0):s.kept.length<=40/\(s.kept.length:Int)<=s.bX/\s.bX<=1000000/\∀ (i:Nat) (t:bo),s.kept[i]?=some t->1<=t.kind/\t.kind<=3/\0<=t.ba/\t.ba<=29/\1<=t.sum/\t.sum<=1000000/\t.number=s.bX - s.kept.length+1+i:=by
 obtain ⟨h1,h2,h3,h4⟩:=lF.1 h
 exact ⟨h1,h2,h3,fun i t ht=>(vf ht).1 (h4 i (List.getElem?_eq_some_iff.1 ht).1)⟩
theorem DX {s:bY} (h1:s.kept.length<=40) (h2:(s.kept.length:Int)<=s.bX) (h3:s.bX<=1000000) (h4:∀ (i:Nat) (t:bo),s.kept[i]?=some t->1<=t.kind/\t.kind<=3/\0<=t.ba/\t.ba<=29/\1<=t.sum/\t.sum<=1000000/\t.number=s.bX - s.kept.length+1+i):(cP s).err=0:=
 lF.2 ⟨h1,h2,h3,fun i hi=>by
  have ht:s.kept[i]?=some s.kept[i]:=List.getElem?_eq_getElem hi
  exact (vf ht).2 (h4 i _ ht)⟩
theorem AA {s:bY} (h:(cP s).err=0) (seen:Int):dP (came seen) s.kept=s.kept.drop (seen - (s.bX - s.kept.length)).toNat:=by
 obtain ⟨h1,h2,h3,h4⟩:=vz h
 have gen:∀ (l:List bo) (a:Int),(∀ (i:Nat) (t:bo),l[i]?=some t->t.number=a+1+i)->dP (came seen) l=l.drop (seen - a).toNat:=by
  intro l
  induction l with
  |nil=>intro a _;simp [dP]
  |cons t l ih=>
   intro a ha
   have ht:=ha 0 t rfl
   have ih:=ih (a+1) fun i u hu=>by have:=ha (i+1) u (by simpa using hu);omega
   unfold dP at ih ⊢
   rw [List.filter_cons]
   by_cases hs:t.number<=seen
   ·have h0:came seen t=true:=by simp [came,hs]
    rw [h0,if_neg (by simp),ih]
    have:(seen - a).toNat=(seen - (a+1)).toNat+1:=by omega
    rw [this,List.drop_succ_cons]
   ·have h0:came seen t=false:=by simp [came,hs]
    rw [h0,if_pos (by simp),ih]
    have h1:(seen - (a+1)).toNat=0:=by omega
    have h2:(seen - a).toNat=0:=by omega
    rw [h1,h2];rfl
 exact gen s.kept _ fun i t ht=>(h4 i t ht).2.2.2.2.2.2
end
section
theorem pP {s x:bY} {seen e:Int} (h:ej s seen=(x,e)):(e≠0/\x=xQ)\/(e=0/\(cP s).err=0/\0<=seen/\seen<=s.bX/\x=⟨s.bX,dP (came seen) s.kept⟩):=by
 unfold ej at h
 split at h
 ·rename_i h1;simp only [Prod.mk.injEq] at h;exact .inl ⟨h.2▸h1,h.1.symm⟩
 split at h
 ·simp only [Prod.mk.injEq] at h;exact .inl ⟨by omega,h.1.symm⟩
 ·simp only [Prod.mk.injEq] at h;exact .inr ⟨h.2.symm,by omega,by omega,by omega,h.1.symm⟩
theorem zx {s:bY} {seen:Int} (h:(cP s).err=0) (h0:0<=seen) (h1:seen<=s.bX):(cP ⟨s.bX,dP (came seen) s.kept⟩).err=0:=by
 obtain ⟨h2,h3,h4,h5⟩:=vz h
 rw [AA h]
 generalize hd:(seen - (s.bX - s.kept.length)).toNat=d
 refine DX (by simp;omega) (by simp;omega) h4 fun i t ht=>?_
 rw [List.getElem?_drop] at ht
 have h6:=h5 (d+i) t ht
 have hlt:=(List.getElem?_eq_some_iff.1 ht).1
 simp only [List.length_drop]
 omega
end
theorem aK.HG {P:Program} {o:Oper} {st:aJ} {nb:List (Nat×AB)} {E:List Nat} {cs cs':List CV} (i K:Nat) (g:aK P o st (.v (.g cs)) nb E) (hc:cs[i]?=some cN) (he:cs.set i (cR K [])=cs'):aK P o st (.v (.g cs')) nb E:=by
 subst he
 refine fun σ T a w C hn=>iE (g σ T a w C hn) ?_
 rintro a w ⟨u,σ',T',h1,h2,vs,hv,hall⟩
 refine ⟨u,σ',T',h1,h2,vs,hv,?_⟩
 obtain ⟨v,hv',hr⟩:=hall.get hc
 have hnil:v=.slice none 0 0:=bj.inv hr
 have hs:=hall.set (x:=cR K []) (y:=v) (by rw [hnil];exact bj.nil K none 0) i
 have e:vs.set i v=vs:=by
  apply List.ext_getElem?
  intro m
  rw [List.getElem?_set]
  split
  ·rename_i e;subst e
   split
   ·exact hv'.symm
   ·rename_i hlt;exact absurd (List.getElem?_eq_some_iff.1 hv').1 hlt
  ·rfl
 rwa [e] at hs
section

structure TI where
 fs:List (Nat×Nat)
 agg:Bool
 size:Nat
 zero:List Value
structure Dl (P:Program) (t:TypeId) (i:TI):Prop where
 Hp:∃ d,P.underlying t=some d/\kM d=i.agg
 Fy:i.fs=[]\/((Program.fieldsOf P t).bind fun fs=>fs.toList.mapM fun f=>(P.info? f.type).map fun i=>(f.offset,i.size))=some i.fs
 size:(P.info? t).map (·.size)=some i.size
 zero:i.zero=[]\/(((P.info? t).bind (·.zero)).map (fun v=>v.cells.toList)=some i.zero/\i.zero.all (·.oneCell')=true)
def gE (P:Program):List (Nat×TI)->Prop
 |[]=>True
 |x::l=>Dl P x.1 x.2/\gE P l
theorem gE.get {P:Program}:∀ {T:List (Nat×TI)},gE P T->∀ {t:Nat} {i:TI},look T t=some i->Dl P t i
 |x::l,h,t,i,hl=>by
  obtain ⟨k,j⟩:=x
  rw [bO] at hl
  split at hl
  ·rename_i e;injection hl with hl;subst e hl;exact h.1
  ·exact gE.get h.2 hl
def uQ:Nat->List CV->Option (List CV)
 |0,_=>some []
 |_+1,[]=>none
 |n+1,c::l=>match uQ n l with
  |some r=>some (c::r)
  |none=>none
theorem ve:∀ {n:Nat} {l r:List CV},uQ n l=some r->l.take n=r/\r.length=n
 |0,l,r,h=>by cases h;simp
 |n+1,[],r,h=>by cases h
 |n+1,c::l,r,h=>by
  unfold uQ at h
  split at h
  ·rename_i r' h';injection h with h;subst h
   obtain ⟨h1,h2⟩:=ve h'
   simp [h1,h2]
  ·cases h
def xP:List CV->List CV->Option (List CV)
 |cs,[]=>some cs
 |[],_::_=>none
 |_::cs,x::xs=>match xP cs xs with
  |some r=>some (x::r)
  |none=>none
theorem Ah:∀ {cs xs r:List CV},xP cs xs=some r->xs.length<=cs.length/\r=xs++cs.drop xs.length
 |cs,[],r,h=>by unfold xP at h;injection h with h;subst h;simp
 |[],_::_,r,h=>by cases h
 |c::cs,x::xs,r,h=>by
  unfold xP at h
  split at h
  ·rename_i r' h';injection h with h;subst h
   obtain ⟨h1,h2⟩:=Ah h'
   simp [h2];omega
  ·cases h
def kz:List CV->Nat->List CV->Option (List CV)
 |cs,0,xs=>xP cs xs
 |[],_+1,_=>none
 |c::cs,n+1,xs=>match kz cs n xs with
  |some r=>some (c::r)
  |none=>none
theorem ky:∀ {cs:List CV} {n:Nat} {xs r:List CV},kz cs n xs=some r->n+xs.length<=cs.length/\cs.take n++xs++cs.drop (n+xs.length)=r
 |cs,0,xs,r,h=>by
  have h:xP cs xs=some r:=by cases cs<;>exact h
  obtain ⟨h1,h2⟩:=Ah h
  simp [h2];omega
 |[],n+1,xs,r,h=>by cases h
 |c::cs,n+1,xs,r,h=>by
  unfold kz at h
  split at h
  ·rename_i r' h';injection h with h;subst h
   obtain ⟨h1,h2⟩:=ky h'
   refine ⟨by simp;omega,?_⟩
   rw [show n+1+xs.length=n+xs.length+1 by omega]
   simp [<-h2]
  ·cases h
def lR:List (Nat×AB)->Nat->AB->Option (List (Nat×AB))
 |[],_,_=>none
 |(j,x)::l,k,b=>bif Nat.beq j k then some ((j,b)::l) else match lR l k b with
  |some r=>some ((j,x)::r)
  |none=>none
theorem mQ:∀ {l:List (Nat×AB)} {k:Nat} {b:AB} {r:List (Nat×AB)},lR l k b=some r->kY l k b=r
 |(j,x)::l,k,b,r,h=>by
  unfold lR at h
  unfold kY
  cases hjk:Nat.beq j k with
  |true=>rw [hjk] at h;simpa using h
  |false=>
   rw [hjk] at h
   simp only [cond_false] at h ⊢
   split at h
   ·rename_i r' h';injection h with h;subst h;rw [mQ h']
   ·cases h
def ng:List Value->Option (List CV)
 |[]=>some []
 |v::l=>match ng l with
  |some r=>some (.d (.v v)::r)
  |none=>none
theorem lQ:∀ {l:List Value} {r:List CV},ng l=some r->(l.map fun x=>CV.d (.v x))=r
 |[],r,h=>by cases h;rfl
 |v::l,r,h=>by
  unfold ng at h
  split at h
  ·rename_i r' h';injection h with h;subst h;rw [<-lQ h'];rfl
  ·cases h
def yG:List D->Option (List CV)
 |[]=>some []
 |v::l=>match yG l with
  |some r=>some (.d v::r)
  |none=>none
theorem xH:∀ {l:List D} {r:List CV},yG l=some r->l.map CV.d=r
 |[],r,h=>by cases h;rfl
 |v::l,r,h=>by
  unfold yG at h
  split at h
  ·rename_i r' h';injection h with h;subst h;rw [<-xH h'];rfl
  ·cases h
def rU (s:List (Nat×AV)):List (Nat×Operand)->Option (List (Nat×GV))
 |[]=>some []
 |(i,x)::l=>match jn s x with
  |some (.v g)=>match rU s l with
   |some r=>some ((i,g)::r)
   |none=>none
  |_=>none
theorem tS {s:List (Nat×AV)} {h:List (Nat×AB)} {n:Nat}:∀ {l:List (Nat×Operand)} {r:List (Nat×GV)},rU s l=some r->BB ⟨s,h,n⟩ l r
 |[],r,hr=>by cases hr;trivial
 |(i,x)::l,r,hr=>by
  unfold rU at hr
  split at hr
  ·rename_i g hg
   split at hr
   ·rename_i r' h';injection hr with hr;subst hr;exact ⟨⟨rfl,eC hg⟩,tS h'⟩
   ·cases hr
  ·cases hr
def sg (places:List (Nat×Nat)):List CV->List (Nat×GV)->Option (List CV)
 |cells,[]=>some cells
 |cells,(i,g)::rest=>match places[i]? with
  |none=>none
  |some (off,size)=>bif Nat.beq (eD g).length size then (match kz cells off (eD g) with
   |some c=>sg places c rest
   |none=>none) else none
theorem wm {places:List (Nat×Nat)}:∀ {l:List (Nat×GV)} {cells r:List CV},sg places cells l=some r->lL (fun i=>places[i]?) cells (l.map fun y=>(y.1,eD y.2))=some r
 |[],cells,r,h=>by unfold sg at h;exact h
 |(i,g)::rest,cells,r,h=>by
  unfold sg at h
  split at h
  ·cases h
  rename_i off size hp
  cases hs:Nat.beq (eD g).length size with
  |false=>rw [hs] at h;cases h
  |true=>
   rw [hs] at h
   simp only [cond_true] at h
   split at h
   ·rename_i c hc
    obtain ⟨h1,h2⟩:=ky hc
    show lL _ cells ((i,eD g)::rest.map _)=_
    unfold lL
    rw [hp]
    dsimp only
    rw [if_pos ⟨Nat.eq_of_beq_eq_true hs,h1⟩,h2]
    exact wm h
   ·cases h
def FC:IntKind->IntKind->Bool
 |.i64,.i64=>true
 |.u8,.u8=>true
 |_,_=>false
theorem FB {a b:IntKind} (h:FC a b=true):a=b:=by cases a<;>cases b<;>first|rfl|cases h
def Bb (T:List (Nat×TI)) (s:List (Nat×AV)) (h:List (Nat×AB)):Op->Option AV
 |.move x=>jn s x
 |.assign x=>jn s x
 |.pick c x y=>match jn s c with
  |some (.v (.c (.d (.v (.bool b)))))=>jn s (bif b then x else y)
  |_=>none
 |.nilCheck x=>match jn s x with
  |some v=>bif vI v then some v else none
  |none=>none
 |.fieldAddr t x i=>match look T t with
  |none=>none
  |some ti=>match ti.fs[i]? with
   |none=>none
   |some (off,sz)=>bif Nat.beq sz 0 then none else (match jn s x with
    |some (.v (.c (.p k r K o)))=>some (.v (.c (.p k r K (o+off))))
    |some (.v (.c (.q row o)))=>some (.v (.c (.q row (o+off))))
    |_=>none)
 |.load t x=>match look T t with
  |none=>none
  |some ti=>match jn s x with
   |some (.v (.c (.q row j)))=>bif ti.agg then (bif Nat.beq j 0 && Nat.beq row.length ti.size then (match yG row with
     |some xs=>some (.v (.g xs))
     |none=>none) else none) else (match row[j]? with
    |some d=>some (.v (.c (.d d)))
    |none=>none)
   |some (.v (.c (.p k r K j)))=>bif Nat.beq r 0 && Nat.beq K 0 then (match look h k with
    |some (.box _ cs)=>bif ti.agg then (match uQ ti.size (cs.drop j) with
      |some xs=>some (.v (.g xs))
      |none=>none) else (match cs[j]? with
     |some c=>some (.v (.c c))
     |none=>none)
    |_=>none) else none
   |_=>none
 |.binOp op _ x y _=>match jn s x with
  |some (.v (.c (.d (.v (.int k a)))))=>(match jn s y with
   |some (.v (.c (.d (.v (.int k' b)))))=>bif FC k k' then (match zv op k a b with
    |some c=>some (.v (.c (.d (.v c))))
    |none=>none) else none
   |_=>none)
  |_=>none
 |.unOp .not _ x=>match jn s x with
  |some (.v (.c (.d (.v (.bool b)))))=>some (.v (.c (.d (.v (.bool !b)))))
  |_=>none
 |.extract x i=>match jn s x with
  |some (.t gs)=>(match gs[i]? with
   |some g=>some (.v g)
   |none=>none)
  |_=>none
 |.build t parts=>match look T t with
  |none=>none
  |some ti=>bif ti.fs.isEmpty||ti.zero.isEmpty then none else (match rU s parts.toList with
   |none=>none
   |some ps=>bif ps.all (fun y=>y.2.known) then (match ng ti.zero with
    |none=>none
    |some z=>match sg ti.fs z ps with
     |some cs=>some (.v (.g cs))
     |none=>none) else none)
 |_=>none
theorem xi {P:Program} {t:TypeId} {ti:TI} (hT:Dl P t ti) {i off sz:Nat} (hf:ti.fs[i]?=some (off,sz)):∃ fs f,P.underlying t=some (.struct fs)/\fs[i]?=some f/\f.offset=off/\(P.info? f.type).map (·.size)=some sz:=by
 rcases hT.Fy with h|h
 ·rw [h] at hf;cases hf
 ·cases hfs:Program.fieldsOf P t with
  |none=>rw [hfs] at h;cases h
  |some fs=>
   rw [hfs] at h
   simp only [Option.bind_some] at h
   have hu:P.underlying t=some (.struct fs):=by
    unfold Program.fieldsOf at hfs
    split at hfs
    ·rename_i e;injection hfs with hfs;subst hfs;exact e
    ·cases hfs
   have gen:∀ (l:List Field) (r:List (Nat×Nat)) (i:Nat),(l.mapM fun f=>(P.info? f.type).map fun i=>(f.offset,i.size))=some r->r[i]?=some (off,sz)->∃ f,l[i]?=some f/\f.offset=off/\(P.info? f.type).map (·.size)=some sz:=by
    intro l
    induction l with
    |nil=>intro r i h1 h2;simp at h1;subst h1;simp at h2
    |cons f l ih=>
     intro r i h1 h2
     simp only [List.mapM_cons] at h1
     cases hi:P.info? f.type with
     |none=>rw [hi] at h1;simp at h1
     |some inf=>
      rw [hi] at h1
      cases hr:(l.mapM fun f=>(P.info? f.type).map fun i=>(f.offset,i.size)) with
      |none=>rw [hr] at h1;simp at h1
      |some r'=>
       rw [hr] at h1
       simp at h1
       subst h1
       cases i with
       |zero=>simp at h2;exact ⟨f,rfl,h2.1,by rw [hi];simp [h2.2]⟩
       |succ i=>simp at h2;obtain ⟨g,h3,h4,h5⟩:=ih r' i hr h2;exact ⟨g,by simpa using h3,h4,h5⟩
   obtain ⟨f,h1,h2,h3⟩:=gen fs.toList ti.fs i h hf
   exact ⟨fs,f,hu,by simpa using h1,h2,h3⟩
theorem wo {P:Program} {T:List (Nat×TI)} (hT:gE P T) {o:Oper} {s:List (Nat×AV)} {h:List (Nat×AB)} {n:Nat} {v:AV} (he:Bb T s h o.op=some v):aK P o ⟨s,h,n⟩ v [] []:=by
 unfold Bb at he
 split at he
 ·rename_i x ho;exact Fs ho (eC he)
 ·rename_i x ho;exact CF ho (eC he)
 ·rename_i c x y ho
  split at he
  ·rename_i b hb;exact Fp ho (eC hb) (by cases b<;>exact eC he)
  ·cases he
 ·rename_i x ho
  split at he
  ·rename_i v' hv
   cases hn:vI v' with
   |true=>rw [hn] at he;injection he with he;subst he;exact zb ho (eC hv) hn
   |false=>rw [hn] at he;cases he
  ·cases he
 ·rename_i t x i ho
  split at he
  ·cases he
  rename_i ti ht
  split at he
  ·cases he
  rename_i off sz hf
  cases hz:Nat.beq sz 0 with
  |true=>rw [hz] at he;cases he
  |false=>
   rw [hz] at he
   simp only [cond_false] at he
   obtain ⟨fs,f,h1,h2,h3,h4⟩:=xi (hT.get ht) hf
   have hne:sz≠0:=fun e=>by subst e;cases hz
   split at he
   ·rename_i k r K o' hx;injection he with he;subst he h3;exact CC ho (eC hx) h1 h2 h4 hne
   ·rename_i row o' hx;injection he with he;subst he h3;exact CB ho (eC hx) h1 h2 h4 hne
   ·cases he
 ·rename_i t x ho
  split at he
  ·cases he
  rename_i ti ht
  obtain ⟨d,hu,hd⟩:=(hT.get ht).Hp
  split at he
  ·rename_i row j hx
   cases ha:ti.agg with
   |true=>
    rw [ha] at he
    simp only [cond_true] at he
    cases hc:(Nat.beq j 0 && Nat.beq row.length ti.size) with
    |false=>rw [hc] at he;cases he
    |true=>
     rw [hc] at he
     simp only [cond_true] at he
     rw [Bool.and_eq_true] at hc
     have hj:=Nat.eq_of_beq_eq_true hc.1
     subst hj
     split at he
     ·rename_i xs hxs;injection he with he;subst he
      exact Cy ho (eC hx) hu (hd.trans ha) (hT.get ht).size (Nat.eq_of_beq_eq_true hc.2) (xH hxs)
     ·cases he
   |false=>
    rw [ha] at he
    simp only [cond_false] at he
    split at he
    ·rename_i c hc;injection he with he;subst he;exact Eo ho (eC hx) hu (hd.trans ha) hc
    ·cases he
  ·rename_i k r K j hx
   cases hc:(Nat.beq r 0 && Nat.beq K 0) with
   |false=>rw [hc] at he;cases he
   |true=>
    rw [hc] at he
    simp only [cond_true] at he
    rw [Bool.and_eq_true] at hc
    have hr:=Nat.eq_of_beq_eq_true hc.1
    have hK:=Nat.eq_of_beq_eq_true hc.2
    subst hr hK
    split at he
    ·rename_i bt cs hb
     cases ha:ti.agg with
     |true=>
      rw [ha] at he
      simp only [cond_true] at he
      split at he
      ·rename_i xs hxs;injection he with he;subst he
       obtain ⟨h1,h2⟩:=ve hxs
       exact Cz ho (eC hx) hb hu (hd.trans ha) (hT.get ht).size h1 h2
      ·cases he
     |false=>
      rw [ha] at he
      simp only [cond_false] at he
      split at he
      ·rename_i c hc';injection he with he;subst he;exact Ep ho (eC hx) hb hu (hd.trans ha) hc'
      ·cases he
    ·cases he
  ·cases he
 ·rename_i op xt x y yt ho
  split at he
  ·rename_i k a hx
   split at he
   ·rename_i k' b hy
    cases hk:FC k k' with
    |false=>rw [hk] at he;cases he
    |true=>
     rw [hk] at he
     have:=FB hk
     subst this
     simp only [cond_true] at he
     split at he
     ·rename_i c hc;injection he with he;subst he;exact aM ho (eC hx) (eC hy) hc
     ·cases he
   ·cases he
  ·cases he
 ·rename_i t x ho
  split at he
  ·rename_i b hb;injection he with he;subst he;exact Fq ho (eC hb)
  ·cases he
 ·rename_i x i ho
  split at he
  ·rename_i gs hx
   split at he
   ·rename_i g hg;injection he with he;subst he;exact AX ho (eC hx) hg
   ·cases he
  ·cases he
 ·rename_i t parts ho
  split at he
  ·cases he
  rename_i ti ht
  cases hc:(ti.fs.isEmpty||ti.zero.isEmpty) with
  |true=>rw [hc] at he;cases he
  |false=>
   rw [hc] at he
   simp only [cond_false] at he
   rw [Bool.or_eq_false_iff] at hc
   split at he
   ·cases he
   rename_i ps hps
   cases hk:ps.all (fun y=>y.2.known) with
   |false=>rw [hk] at he;cases he
   |true=>
    rw [hk] at he
    simp only [cond_true] at he
    split at he
    ·cases he
    rename_i z hz
    split at he
    ·rename_i cs hcs;injection he with he;subst he
     have h1:ti.fs≠[]:=fun e=>by rw [e] at hc;simp at hc
     have h2:ti.zero≠[]:=fun e=>by rw [e] at hc;simp at hc
     have h3:=(hT.get ht).Fy.resolve_left h1
     have h4:=(hT.get ht).zero.resolve_left h2
     exact yc ho ⟨h4.1,h3⟩ h4.2 (tS hps) hk (by rw [lQ hz];exact wm hcs)
    ·cases he
 ·cases he
def ET (T:List (Nat×TI)) (N:Nat) (o:Oper) (s:List (Nat×AV)) (h:List (Nat×AB)) (n:Nat):Option (List (Nat×AV)×List (Nat×AB)×Nat):=
 match o.op with
 |.alloc t=>match look T t with
  |none=>none
  |some ti=>match o.dst with
   |none=>none
   |some d=>bif ti.zero.isEmpty||!Nat.blt d N then none else (match ng ti.zero with
    |some cs=>some ((d,.v (.c (.p n 0 0 0)))::s,(n,.box t cs)::h,n+1)
    |none=>none)
 |.box t x=>match o.dst with
  |none=>none
  |some d=>bif Nat.blt d N then (match jn s x with
   |some (.v (.c c))=>bif c.known then some ((d,.v (.c (.p n 0 0 0)))::s,(n,.box t [c])::h,n+1) else none
   |some (.v (.g cs))=>some ((d,.v (.c (.p n 0 0 0)))::s,(n,.box t cs)::h,n+1)
   |_=>none) else none
 |.store t x y=>match look T t with
  |none=>none
  |some ti=>match o.dst with
   |some _=>none
   |none=>match jn s x with
    |some (.v (.c (.p k r K j)))=>bif Nat.beq r 0 && Nat.beq K 0 && Nat.blt k n then (match jn s y with
     |some (.v gv)=>bif (eD gv).all CV.known && Nat.beq (eD gv).length ti.size then (match look h k with
      |some (.box bt cs)=>(match kz cs j (eD gv) with
       |some cs'=>(match lR h k (.box bt cs') with
        |some h'=>some (s,h',n)
        |none=>none)
       |none=>none)
      |_=>none) else none
     |_=>none) else none
    |_=>none
 |op=>match Bb T s h op with
  |none=>none
  |some v=>match o.dst with
   |none=>none
   |some d=>bif Nat.blt d N then some ((d,v)::s,h,n) else none
def vw (ops:Array Oper) (T:List (Nat×TI)) (N:Nat) (o:Oper) (s:List (Nat×AV)) (h:List (Nat×AB)) (n:Nat):Option (List (Nat×AV)×List (Nat×AB)×Nat):=
 match oV ops s o with
 |some false=>(match o.dst with
  |some d=>bif Nat.blt d N then some ((d,.t [])::s,h,n) else none
  |none=>none)
 |some true=>ET T N o s h n
 |none=>none
def vv (ops:Array Oper) (T:List (Nat×TI)) (N:Nat):Nat->List Oper->List (Nat×AV)->List (Nat×AB)->Nat->Option (List Oper×List (Nat×AV)×List (Nat×AB)×Nat)
 |0,l,s,h,n=>some (l,s,h,n)
 |_+1,[],s,h,n=>some ([],s,h,n)
 |k+1,o::l,s,h,n=>match vw ops T N o s h n with
  |some (s',h',n')=>vv ops T N k l s' h' n'
  |none=>none
section
variable {P:Program} {W0:World} {F:Nat->Prop} {N:NT} {T0:Nat->Prop} {pin:List (Nat×bM)} {ops:Array Oper} {Q:Exit->aJ->Prop}
theorem ED {T:List (Nat×TI)} (hT:gE P T) {o:Oper} {l:List Oper} {s s':List (Nat×AV)} {h h':List (Nat×AB)} {n n':Nat} (hr:Dev.vw ops T N.1 o s h n=some (s',h',n')) (k:AL P W0 F N T0 pin ops Q l ⟨s',h',n'⟩):AL P W0 F N T0 pin ops Q (o::l) ⟨s,h,n⟩:=by
 unfold Dev.vw at hr
 split at hr
 ·rename_i hg
  split at hr
  ·rename_i d hd
   cases hN:Nat.blt d N.1 with
   |false=>rw [hN] at hr;cases hr
   |true=>
    rw [hN] at hr
    simp only [cond_true] at hr
    injection hr with hr;injection hr with h1 h2;injection h2 with h2 h3
    subst h1 h2 h3
    exact Ho ((iL hg).2 rfl) hd hN k
  ·cases hr
 ·rename_i hg
  have hw:ak ops o ⟨s,h,n⟩:=(iL hg).1 rfl
  unfold ET at hr
  split at hr
  ·rename_i t ho
   split at hr
   ·cases hr
   rename_i ti ht
   split at hr
   ·cases hr
   rename_i d hd
   cases hc:(ti.zero.isEmpty||!Nat.blt d N.1) with
   |true=>rw [hc] at hr;cases hr
   |false=>
    rw [hc] at hr
    simp only [cond_false] at hr
    rw [Bool.or_eq_false_iff] at hc
    split at hr
    ·rename_i cs hcs
     injection hr with hr;injection hr with h1 h2;injection h2 with h2 h3
     subst h1 h2 h3
     have h2:ti.zero≠[]:=fun e=>by rw [e] at hc;simp at hc
     have h4:=(hT.get ht).zero.resolve_left h2
     cases hz:(P.info? t).bind (·.zero) with
     |none=>rw [hz] at h4;exact absurd h4.1 (by simp)
     |some z=>
      rw [hz] at h4
      refine wW hw (tb n ho hz (Option.some.inj h4.1) h4.2 (lQ hcs)) hd (by simpa using hc.2) rfl k
    ·cases hr
  ·rename_i t x ho
   split at hr
   ·cases hr
   rename_i d hd
   cases hN:Nat.blt d N.1 with
   |false=>rw [hN] at hr;cases hr
   |true=>
    rw [hN] at hr
    simp only [cond_true] at hr
    split at hr
    ·rename_i c hx
     cases hk:c.known with
     |false=>rw [hk] at hr;cases hr
     |true=>
      rw [hk] at hr
      simp only [cond_true] at hr
      injection hr with hr;injection hr with h1 h2;injection h2 with h2 h3
      subst h1 h2 h3
      exact wW hw (wh n ho (eC hx) hk) hd hN rfl k
    ·rename_i cs hx
     injection hr with hr;injection hr with h1 h2;injection h2 with h2 h3
     subst h1 h2 h3
     exact wW hw (wg n ho (eC hx)) hd hN rfl k
    ·cases hr
  ·rename_i t x y ho
   split at hr
   ·cases hr
   rename_i ti ht
   split at hr
   ·cases hr
   rename_i hd
   split at hr
   ·rename_i kk r K j hx
    cases hc:(Nat.beq r 0 && Nat.beq K 0 && Nat.blt kk n) with
    |false=>rw [hc] at hr;cases hr
    |true=>
     rw [hc] at hr
     simp only [cond_true] at hr
     simp only [Bool.and_eq_true] at hc
     obtain ⟨⟨c1,c2⟩,c3⟩:=hc
     have c1:=Nat.eq_of_beq_eq_true c1
     have c2:=Nat.eq_of_beq_eq_true c2
     subst c1 c2
     split at hr
     ·rename_i gv hy
      cases hk:((eD gv).all CV.known && Nat.beq (eD gv).length ti.size) with
      |false=>rw [hk] at hr;cases hr
      |true=>
       rw [hk] at hr
       simp only [cond_true] at hr
       rw [Bool.and_eq_true] at hk
       split at hr
       ·rename_i bt cs hb
        split at hr
        ·rename_i cs' hcs
         split at hr
         ·rename_i h2 hh
          injection hr with hr;injection hr with e1 e2;injection e2 with e2 e3
          subst e1 e2 e3
          obtain ⟨p1,p2⟩:=ky hcs
          have hl:=Nat.eq_of_beq_eq_true hk.2
          exact BD hw (wa ho (eC hx) (eC hy) hb hk.1 (hT.get ht).size hl (by rw [<-hl];exact p1) (by rw [<-hl];exact p2)) hd hb c3 (mQ hh) k
         ·cases hr
        ·cases hr
       ·cases hr
     ·cases hr
   ·cases hr
  ·split at hr
   ·cases hr
   rename_i v hv
   split at hr
   ·cases hr
   rename_i d hd
   cases hN:Nat.blt d N.1 with
   |false=>rw [hN] at hr;cases hr
   |true=>
    rw [hN] at hr
    simp only [cond_true] at hr
    injection hr with hr;injection hr with h1 h2;injection h2 with h2 h3
    subst h1 h2 h3
    exact dA hw (wo hT hv) hd hN k
 ·cases hr
theorem ad {T:List (Nat×TI)} (hT:gE P T):∀ (k:Nat) {l l':List Oper} {s s':List (Nat×AV)} {h h':List (Nat×AB)} {n n':Nat},vv ops T N.1 k l s h n=some (l',s',h',n')->AL P W0 F N T0 pin ops Q l' ⟨s',h',n'⟩->AL P W0 F N T0 pin ops Q l ⟨s,h,n⟩
 |0,l,l',s,s',h,h',n,n',hr,k=>by
  have:(l,s,h,n)=(l',s',h',n'):=by cases l<;>exact Option.some.inj hr
  injection this with e1 e2;injection e2 with e2 e3;injection e3 with e3 e4
  subst e1 e2 e3 e4;exact k
 |_+1,[],l',s,s',h,h',n,n',hr,k=>by
  have:(([]:List Oper),s,h,n)=(l',s',h',n'):=Option.some.inj hr
  injection this with e1 e2;injection e2 with e2 e3;injection e3 with e3 e4
  subst e1 e2 e3 e4;exact k
 |f+1,o::l,l',s,s',h,h',n,n',hr,k=>by
  unfold vv at hr
  split at hr
  ·rename_i s1 h1 n1 h1'
   exact ED hT h1' (ad hT f hr k)
  ·cases hr
theorem aF {T:List (Nat×TI)} (hT:gE P T) {id:Nat} {l:List Oper} {y:Code} (k:Nat) {l':List Oper} {s s':List (Nat×AV)} {h h':List (Nat×AB)} {n n':Nat} (hr:vv l.toArray T N.1 k l s h n=some (l',s',h',n'))
  (g:AL P W0 F N T0 pin l.toArray (iO (AC P W0 F N T0 pin Q y) Q) l' ⟨s',h',n'⟩):AC P W0 F N T0 pin Q (.seq (.region id l.toArray false) y) ⟨s,h,n⟩:=
 ag (ax (ad hT k hr g))
theorem ae {T:List (Nat×TI)} (hT:gE P T) {id:Nat} {l:List Oper} {y:Code} (k:Nat) {s s':List (Nat×AV)} {h h':List (Nat×AB)} {n n':Nat} (hr:vv l.toArray T N.1 k l s h n=some ([],s',h',n'))
  (g:AC P W0 F N T0 pin Q y ⟨s',h',n'⟩):AC P W0 F N T0 pin Q (.seq (.region id l.toArray false) y) ⟨s,h,n⟩:=
 aF hT k hr (bZ g)
end
end
section

def jC {α:Type} (s:List (Nat×α)):List Nat->Option (List (Nat×α))
 |[]=>some []
 |t::ts=>match look s t with
  |none=>none
  |some v=>match jC s ts with
   |some r=>some ((t,v)::r)
   |none=>none
theorem lI {α:Type} {s:List (Nat×α)}:∀ {ts:List Nat} {r:List (Nat×α)},jC s ts=some r->∀ x∈r,look s x.1=some x.2
 |[],r,h,x,hx=>by cases h;cases hx
 |t::ts,r,h,x,hx=>by
  unfold jC at h
  split at h
  ·cases h
  rename_i v hv
  split at h
  ·rename_i r' hr;injection h with h;subst h
   rcases List.mem_cons.1 hx with rfl|hx
   ·exact hv
   ·exact lI hr x hx
  ·cases h
theorem jb {α:Type} {s:List (Nat×α)} {ts:List Nat} {r:List (Nat×α)} (h:jC s ts=some r) {i:Nat} {v:α} (hi:look r i=some v):look s i=some v:=lI h _ (bJ hi)
def findD:List bF->Nat->Nat->Option (Nat×AV)
 |[],_,_=>none
 |_,0,_=>none
 |r::l,i+1,t=>match r.dst with
  |some d=>bif Nat.beq d t then some (i,r.v) else findD l i t
  |none=>findD l i t
def nF:List bF->Nat->Nat->Option (Nat×AB)
 |[],_,_=>none
 |_,0,_=>none
 |r::l,i+1,k=>match look r.nb k with
  |some b=>some (i,b)
  |none=>nF l i k
theorem qX:∀ {l:List bF} {i t:Nat} {j:Nat} {v:AV},l.length=i->findD l i t=some (j,v)->∃ q,l.reverse[j]?=some q/\q.dst=some t/\q.v=v
 |[],i,t,j,v,hl,h=>by cases h
 |r::l,0,t,j,v,hl,h=>by cases hl
 |r::l,i+1,t,j,v,hl,h=>by
  have hl:l.length=i:=by simpa using hl
  have rest:findD l i t=some (j,v)->∃ q,(r::l).reverse[j]?=some q/\q.dst=some t/\q.v=v:=fun h=>by
   obtain ⟨q,h1,h2⟩:=qX hl h
   exact ⟨q,by rw [List.reverse_cons,List.getElem?_append_left (List.getElem?_eq_some_iff.1 h1).1];exact h1,h2⟩
  unfold findD at h
  split at h
  ·rename_i d hd
   cases hb:Nat.beq d t with
   |true=>
    rw [hb] at h
    simp only [cond_true,Option.some.injEq,Prod.mk.injEq] at h
    obtain ⟨rfl,rfl⟩:=h
    exact ⟨r,by rw [List.reverse_cons,List.getElem?_append_right (by simp [hl])];simp [hl],by rw [hd,Nat.eq_of_beq_eq_true hb],rfl⟩
   |false=>rw [hb] at h;exact rest h
  ·exact rest h
theorem qY:∀ {l:List bF} {i k:Nat} {j:Nat} {b:AB},l.length=i->nF l i k=some (j,b)->∃ q,l.reverse[j]?=some q/\(k,b)∈q.nb
 |[],i,t,j,v,hl,h=>by cases h
 |r::l,0,t,j,v,hl,h=>by cases hl
 |r::l,i+1,k,j,b,hl,h=>by
  have hl:l.length=i:=by simpa using hl
  unfold nF at h
  split at h
  ·rename_i b' hb
   simp only [Option.some.injEq,Prod.mk.injEq] at h
   obtain ⟨rfl,rfl⟩:=h
   exact ⟨r,by rw [List.reverse_cons,List.getElem?_append_right (by simp [hl])];simp [hl],bJ hb⟩
  ·obtain ⟨q,h1,h2⟩:=qY hl h
   exact ⟨q,by rw [List.reverse_cons,List.getElem?_append_left (List.getElem?_eq_some_iff.1 h1).1];exact h1,h2⟩
def hG (s:List (Nat×AV)) (racc:List bF) (i:Nat):List Nat->List (Nat×AV)×List Nat
 |[]=>([],[])
 |t::ts=>match hG s racc i ts with
  |(sv,pre)=>match findD racc i t with
   |some (j,v)=>((t,v)::sv,j::pre)
   |none=>match look s t with
    |some v=>((t,v)::sv,pre)
    |none=>(sv,pre)
def gu (h:List (Nat×AB)) (racc:List bF) (i:Nat):List Nat->List (Nat×AB)×List Nat
 |[]=>([],[])
 |k::ks=>match gu h racc i ks with
  |(hv,pre)=>match nF racc i k with
   |some (j,b)=>((k,b)::hv,j::pre)
   |none=>match look h k with
    |some b=>((k,b)::hv,pre)
    |none=>(hv,pre)
def Dm (s:List (Nat×AV)) (aR:List bF) (pre:List Nat) (x:Nat×AV):Prop:=look s x.1=some x.2\/∃ j,j∈pre/\∃ q,aR[j]?=some q/\q.dst=some x.1/\q.v=x.2
def Dn (h:List (Nat×AB)) (aR:List bF) (pre:List Nat) (x:Nat×AB):Prop:=look h x.1=some x.2\/∃ j,j∈pre/\∃ q,aR[j]?=some q/\x∈q.nb
theorem qF {s:List (Nat×AV)} {racc:List bF} {i:Nat} (hl:racc.length=i):∀ {ts:List Nat} {sv:List (Nat×AV)} {pre:List Nat},hG s racc i ts=(sv,pre)->∀ x∈sv,Dm s racc.reverse pre x
 |[],sv,pre,h,x,hx=>by cases h;cases hx
 |t::ts,sv,pre,h,x,hx=>by
  unfold hG at h
  cases hv:hG s racc i ts with
  |mk sv0 pre0=>
   rw [hv] at h
   have ih:=qF hl hv
   dsimp only at h
   split at h
   ·rename_i j v hf
    injection h with h1 h2;subst h1 h2
    rcases List.mem_cons.1 hx with rfl|hx
    ·obtain ⟨q,h1,h2,h3⟩:=qX hl hf
     exact .inr ⟨j,List.mem_cons_self,q,h1,h2,h3⟩
    ·rcases ih x hx with h|⟨j',h1,h2⟩
     ·exact .inl h
     ·exact .inr ⟨j',List.mem_cons_of_mem _ h1,h2⟩
   ·split at h
    ·rename_i v hf
     injection h with h1 h2;subst h1 h2
     rcases List.mem_cons.1 hx with rfl|hx
     ·exact .inl hf
     ·exact ih x hx
    ·injection h with h1 h2;subst h1 h2;exact ih x hx
theorem qG {s:List (Nat×AB)} {racc:List bF} {i:Nat} (hl:racc.length=i):∀ {ts:List Nat} {sv:List (Nat×AB)} {pre:List Nat},gu s racc i ts=(sv,pre)->∀ x∈sv,Dn s racc.reverse pre x
 |[],sv,pre,h,x,hx=>by cases h;cases hx
 |t::ts,sv,pre,h,x,hx=>by
  unfold gu at h
  cases hv:gu s racc i ts with
  |mk sv0 pre0=>
   rw [hv] at h
   have ih:=qG hl hv
   dsimp only at h
   split at h
   ·rename_i j v hf
    injection h with h1 h2;subst h1 h2
    rcases List.mem_cons.1 hx with rfl|hx
    ·obtain ⟨q,h1,h2⟩:=qY hl hf
     exact .inr ⟨j,List.mem_cons_self,q,h1,h2⟩
    ·rcases ih x hx with h|⟨j',h1,h2⟩
     ·exact .inl h
     ·exact .inr ⟨j',List.mem_cons_of_mem _ h1,h2⟩
   ·split at h
    ·rename_i v hf
     injection h with h1 h2;subst h1 h2
     rcases List.mem_cons.1 hx with rfl|hx
     ·exact .inl hf
     ·exact ih x hx
    ·injection h with h1 h2;subst h1 h2;exact ih x hx
def Seen (st:aJ) (aR:List bF) (r:bF):Prop:=(∀ x∈r.s,Dm st.s aR r.pre x)/\∀ x∈r.h,Dn st.h aR r.pre x
theorem Seen.more {st:aJ} {aR more:List bF} {r:bF} (h:Seen st aR r):Seen st (aR++more) r:=by
 have g:∀ {j:Nat} {q:bF},aR[j]?=some q->(aR++more)[j]?=some q:=fun hj=>by rw [List.getElem?_append_left (List.getElem?_eq_some_iff.1 hj).1];exact hj
 refine ⟨fun x hx=>?_,fun x hx=>?_⟩
 ·rcases h.1 x hx with h1|⟨j,h1,q,h2,h3⟩
  ·exact .inl h1
  ·exact .inr ⟨j,h1,q,g h2,h3⟩
 ·rcases h.2 x hx with h1|⟨j,h1,q,h2,h3⟩
  ·exact .inl h1
  ·exact .inr ⟨j,h1,q,g h2,h3⟩
theorem sO {st:aJ} {aR:List bF}:∀ {rs:List bF},(∀ r∈rs,Seen st aR r)->lk st aR rs
 |[],_=>trivial
 |r::rs,h=>⟨⟨fq (h r List.mem_cons_self).1,fq (h r List.mem_cons_self).2⟩,sO fun q hq=>h q (List.mem_cons_of_mem _ hq)⟩
def PD (P:Program) (ops:Array Oper) (st:aJ) (K:List bF->Prop) (i:Nat) (racc:List bF) (n:Nat) (l:List Oper):Prop:=
 racc.length=i->(∀ r∈racc,Seen st racc.reverse r)->∃ rows,jy P ops rows l/\(∀ r∈racc.reverse++rows,Seen st (racc.reverse++rows) r)/\K (racc.reverse++rows)
section
variable {P:Program} {ops:Array Oper} {st:aJ} {K:List bF->Prop} {i n:Nat} {racc:List bF} {l:List Oper}
theorem BA {o:Oper} {r:bF} {n':Nat} (hr:mC P ops r o) (hs:racc.length=i->Seen st racc.reverse r) (h:PD P ops st K (i+1) (r::racc) n' l):PD P ops st K i racc n (o::l):=fun hl hsee=>by
 obtain ⟨rows,h1,h2,h3⟩:=h (by rw [List.length_cons,hl]) (fun q hq=>by
  rw [List.reverse_cons]
  rcases List.mem_cons.1 hq with rfl|hq
  ·exact (hs hl).more
  ·exact (hsee q hq).more)
 rw [List.reverse_cons,List.append_assoc] at h2 h3
 exact ⟨r::rows,⟨hr,h1⟩,h2,h3⟩
theorem aT {o:Oper} {v:AV} {nb:List (Nat×AB)} {E pre pre':List Nat} {sv:List (Nat×AV)} {hv:List (Nat×AB)} {n':Nat} (ts ks:List Nat) (hs:hG st.s racc i ts=(sv,pre)) (hh:gu st.h racc i ks=(hv,pre'))
  (hr:mC P ops ⟨o.dst,v,nb,E,pre++pre',sv,hv⟩ o) (hn:iQ nb n=n') (h:PD P ops st K (i+1) (⟨o.dst,v,nb,E,pre++pre',sv,hv⟩::racc) n' l):PD P ops st K i racc n (o::l):=
 BA hr (fun hl=>⟨fun x hx=>by
  rcases qF hl hs x hx with h1|⟨j,h1,h2⟩
  ·exact .inl h1
  ·exact .inr ⟨j,List.mem_append_left _ h1,h2⟩,fun x hx=>by
  rcases qG hl hh x hx with h1|⟨j,h1,h2⟩
  ·exact .inl h1
  ·exact .inr ⟨j,List.mem_append_right _ h1,h2⟩⟩) h
end
def jN:Operand->List Nat->List Nat
 |.tmp t,l=>t::l
 |_,l=>l
def Hs:List (Nat×Operand)->List Nat
 |[]=>[]
 |(_,x)::l=>jN x (Hs l)
def Cg:Op->List Nat
 |.move x=>jN x []
 |.assign x=>jN x []
 |.pick c x y=>jN c (jN x (jN y []))
 |.nilCheck x=>jN x []
 |.fieldAddr _ x _=>jN x []
 |.load _ x=>jN x []
 |.binOp _ _ x y _=>jN x (jN y [])
 |.unOp _ _ x=>jN x []
 |.extract x _=>jN x []
 |.build _ ps=>Hs ps.toList
 |.box _ x=>jN x []
 |_=>[]
def EU (ops:Array Oper) (o:Oper):List Nat:=
 match o.guard with
 |none=>Cg o.op
 |some (j,_)=>match (ops[j]?).bind (·.dst) with
  |some t=>t::Cg o.op
  |none=>Cg o.op
def sD (s:List (Nat×AV)):Op->List Nat
 |.load _ x=>match jn s x with
  |some (.v (.c (.p k _ _ _)))=>[k]
  |_=>[]
 |_=>[]
def nL (kn:List (Nat×Bool)) (d:Nat) (v:AV):AV×List (Bool×Bool):=
 match look kn d with
 |none=>(v,[])
 |some c=>match v with
  |.v (.c (.d (.v (.bool b))))=>(.v (.c (.d (.v (.bool c)))),[(b,c)])
  |v=>(v,[])
theorem yh {kn:List (Nat×Bool)} {d:Nat} {v v':AV} {ob:List (Bool×Bool)} (h:nL kn d v=(v',ob)) (ho:∀ x∈ob,x.1=x.2):v=v':=by
 unfold nL at h
 split at h
 ·exact (Prod.mk.inj h).1
 ·split at h
  ·rename_i c _ _ b
   obtain ⟨h1,h2⟩:=Prod.mk.inj h
   have:=ho (b,c) (by rw [<-h2];exact List.mem_singleton_self _)
   dsimp only at this
   rw [<-h1,this]
  ·exact (Prod.mk.inj h).1
def vy (ops:Array Oper) (T:List (Nat×TI)) (st:aJ) (kn:List (Nat×Bool)) (i:Nat) (racc:List bF) (n:Nat) (o:Oper):Option (bF×Nat×List (Bool×Bool)):=
 match o.dst with
 |none=>none
 |some d=>match hG st.s racc i (EU ops o) with
  |(sv,pre)=>match oV ops sv o with
   |none=>none
   |some false=>some (⟨some d,.t [],[],[],pre,sv,[]⟩,n,[])
   |some true=>match o.op with
    |.alloc t=>(match look T t with
     |none=>none
     |some ti=>bif ti.zero.isEmpty then none else (match ng ti.zero with
      |some cs=>some (⟨some d,.v (.c (.p n 0 0 0)),[(n,.box t cs)],[],pre,sv,[]⟩,n+1,[])
      |none=>none))
    |.box t x=>(match jn sv x with
     |some (.v (.c c))=>bif c.known then some (⟨some d,.v (.c (.p n 0 0 0)),[(n,.box t [c])],[],pre,sv,[]⟩,n+1,[]) else none
     |some (.v (.g cs))=>some (⟨some d,.v (.c (.p n 0 0 0)),[(n,.box t cs)],[],pre,sv,[]⟩,n+1,[])
     |_=>none)
    |op=>match gu st.h racc i (sD sv op) with
     |(hv,pre')=>match Bb T sv hv op with
      |none=>none
      |some v=>match nL kn d v with
       |(v',ob)=>some (⟨some d,v',[],[],pre++pre',sv,hv⟩,n,ob)
def BX (ops:Array Oper) (T:List (Nat×TI)) (st:aJ) (kn:List (Nat×Bool)):Nat->Nat->List bF->Nat->List Oper->Option (Nat×List bF×Nat×List Oper×List (Bool×Bool))
 |0,i,racc,n,l=>some (i,racc,n,l,[])
 |_+1,i,racc,n,[]=>some (i,racc,n,[],[])
 |k+1,i,racc,n,o::l=>match vy ops T st kn i racc n o with
  |none=>none
  |some (r,n',ob)=>match BX ops T st kn k (i+1) (r::racc) n' l with
   |none=>none
   |some (i2,racc2,n2,l2,ob2)=>match ob with
    |[]=>some (i2,racc2,n2,l2,ob2)
    |x::_=>some (i2,racc2,n2,l2,x::ob2)
section
variable {P:Program} {ops:Array Oper} {st:aJ} {K:List bF->Prop} {T:List (Nat×TI)} {kn:List (Nat×Bool)}
theorem DW (hT:gE P T) {i n n':Nat} {racc:List bF} {o:Oper} {r:bF} {ob:List (Bool×Bool)} (h:vy ops T st kn i racc n o=some (r,n',ob)) (hob:∀ x∈ob,x.1=x.2):mC P ops r o/\(racc.length=i->Seen st racc.reverse r):=by
 unfold vy at h
 split at h
 ·cases h
 rename_i d hd
 cases hv:hG st.s racc i (EU ops o) with
 |mk sv pre=>
  rw [hv] at h
  dsimp only at h
  have hsee:racc.length=i->∀ x∈sv,Dm st.s racc.reverse pre x:=fun hl=>qF hl hv
  have none_:∀ x∈([]:List (Nat×AB)),Dn st.h racc.reverse pre x:=fun x hx=>by cases hx
  split at h
  ·cases h
  ·rename_i hg
   simp only [Option.some.injEq,Prod.mk.injEq] at h
   obtain ⟨rfl,_,_⟩:=h
   exact ⟨.inr ⟨(iL (s:=sv) (h:=[]) (n:=0) hg).2 rfl,rfl,rfl,rfl⟩,fun hl=>⟨hsee hl,none_⟩⟩
  ·rename_i hg
   have hw:∀ hh,ak ops o ⟨sv,hh,0⟩:=fun hh=>(iL hg).1 rfl
   split at h
   ·rename_i t ho
    split at h
    ·cases h
    rename_i ti ht
    cases hz:ti.zero.isEmpty with
    |true=>rw [hz] at h;cases h
    |false=>
     rw [hz] at h
     simp only [cond_false] at h
     split at h
     ·rename_i cs hcs
      simp only [Option.some.injEq,Prod.mk.injEq] at h
      obtain ⟨rfl,_,_⟩:=h
      have h2:ti.zero≠[]:=fun e=>by rw [e] at hz;simp at hz
      have h4:=(hT.get ht).zero.resolve_left h2
      cases hz2:(P.info? t).bind (·.zero) with
      |none=>rw [hz2] at h4;exact absurd h4.1 (by simp)
      |some z=>
       rw [hz2] at h4
       exact ⟨.inl ⟨hw _,tb n ho hz2 (Option.some.inj h4.1) h4.2 (lQ hcs)⟩,fun hl=>⟨hsee hl,none_⟩⟩
     ·cases h
   ·rename_i t x ho
    split at h
    ·rename_i c hx
     cases hk:c.known with
     |false=>rw [hk] at h;cases h
     |true=>
      rw [hk] at h
      simp only [cond_true,Option.some.injEq,Prod.mk.injEq] at h
      obtain ⟨rfl,_,_⟩:=h
      exact ⟨.inl ⟨hw _,wh n ho (eC hx) hk⟩,fun hl=>⟨hsee hl,none_⟩⟩
    ·rename_i cs hx
     simp only [Option.some.injEq,Prod.mk.injEq] at h
     obtain ⟨rfl,_,_⟩:=h
     exact ⟨.inl ⟨hw _,wg n ho (eC hx)⟩,fun hl=>⟨hsee hl,none_⟩⟩
    ·cases h
   ·cases hvh:gu st.h racc i (sD sv o.op) with
    |mk hv pre'=>
     rw [hvh] at h
     dsimp only at h
     split at h
     ·cases h
     rename_i v he
     cases hdv:nL kn d v with
     |mk v' ob'=>
      rw [hdv] at h
      simp only [Option.some.injEq,Prod.mk.injEq] at h
      obtain ⟨rfl,_,rfl⟩:=h
      have:=yh hdv hob
      subst this
      refine ⟨.inl ⟨hw _,wo hT he⟩,fun hl=>⟨fun x hx=>?_,fun x hx=>?_⟩⟩
      ·rcases hsee hl x hx with h1|⟨j,h1,h2⟩
       ·exact .inl h1
       ·exact .inr ⟨j,List.mem_append_left _ h1,h2⟩
      ·rcases qG hl hvh x hx with h1|⟨j,h1,h2⟩
       ·exact .inl h1
       ·exact .inr ⟨j,List.mem_append_right _ h1,h2⟩
theorem wy {kn:List (Nat×Bool)} {d:Nat} {v v':AV} {ob:List (Bool×Bool)} (h:nL kn d v=(v',ob)):ob.length<=1:=by
 unfold nL at h
 split at h
 ·rw [<-(Prod.mk.inj h).2];exact Nat.zero_le _
 ·split at h
  ·rw [<-(Prod.mk.inj h).2];exact Nat.le_refl _
  ·rw [<-(Prod.mk.inj h).2];exact Nat.zero_le _
theorem Cc {i n n':Nat} {racc:List bF} {o:Oper} {r:bF} {ob:List (Bool×Bool)} (h:vy ops T st kn i racc n o=some (r,n',ob)):ob.length<=1:=by
 unfold vy at h
 split at h
 ·cases h
 rename_i d hd
 dsimp only at h
 split at h
 ·cases h
 ·simp only [Option.some.injEq,Prod.mk.injEq] at h;rw [<-h.2.2];exact Nat.zero_le _
 ·split at h
  ·split at h
   ·cases h
   rename_i ti _
   cases hz:ti.zero.isEmpty with
   |true=>rw [hz] at h;cases h
   |false=>
    rw [hz] at h
    simp only [cond_false] at h
    split at h
    ·simp only [Option.some.injEq,Prod.mk.injEq] at h;rw [<-h.2.2];exact Nat.zero_le _
    ·cases h
  ·split at h
   ·rename_i c _
    cases hk:c.known with
    |false=>rw [hk] at h;cases h
    |true=>rw [hk] at h;simp only [cond_true,Option.some.injEq,Prod.mk.injEq] at h;rw [<-h.2.2];exact Nat.zero_le _
   ·simp only [Option.some.injEq,Prod.mk.injEq] at h;rw [<-h.2.2];exact Nat.zero_le _
   ·cases h
  ·split at h
   ·cases h
   ·rename_i v _
    cases hdv:nL kn d v with
    |mk v' ob'=>
     rw [hdv] at h
     simp only [Option.some.injEq,Prod.mk.injEq] at h
     rw [<-h.2.2];exact wy hdv
theorem aD (hT:gE P T):∀ (k:Nat) {i i' n n':Nat} {racc racc':List bF} {l l':List Oper} {ob:List (Bool×Bool)},BX ops T st kn k i racc n l=some (i',racc',n',l',ob)->dq (fun x=>x.1=x.2) ob->PD P ops st K i' racc' n' l'->PD P ops st K i racc n l
 |0,i,i',n,n',racc,racc',l,l',ob,h,_,k=>by
  have:some (i,racc,n,l,([]:List (Bool×Bool)))=some (i',racc',n',l',ob):=by rw [<-h];cases l<;>rfl
  simp only [Option.some.injEq,Prod.mk.injEq] at this
  obtain ⟨rfl,rfl,rfl,rfl,_⟩:=this
  exact k
 |_+1,i,i',n,n',racc,racc',[],l',ob,h,_,k=>by
  have:some (i,racc,n,([]:List Oper),([]:List (Bool×Bool)))=some (i',racc',n',l',ob):=by rw [<-h];rfl
  simp only [Option.some.injEq,Prod.mk.injEq] at this
  obtain ⟨rfl,rfl,rfl,rfl,_⟩:=this
  exact k
 |f+1,i,i',n,n',racc,racc',o::l,l',ob,h,hob,k=>by
  unfold BX at h
  split at h
  ·cases h
  rename_i r n1 ob1 hr
  split at h
  ·cases h
  rename_i i2 racc2 n2 l2 ob2 h2
  have hone:=Cc hr
  have key:i2=i'/\racc2=racc'/\n2=n'/\l2=l'/\(∀ x∈ob1,x∈ob)/\∀ x∈ob2,x∈ob:=by
   split at h
   ·simp only [Option.some.injEq,Prod.mk.injEq] at h
    obtain ⟨h1,h2,h3,h4,rfl⟩:=h
    exact ⟨h1,h2,h3,h4,(fun x hx=>by cases hx),fun x hx=>hx⟩
   ·rename_i y ys
    simp only [Option.some.injEq,Prod.mk.injEq] at h
    obtain ⟨h1,h2,h3,h4,rfl⟩:=h
    have hys:ys=[]:=by simpa using hone
    subst hys
    exact ⟨h1,h2,h3,h4,fun x hx=>by rw [List.mem_singleton.1 hx];exact List.mem_cons_self,fun x hx=>List.mem_cons_of_mem _ hx⟩
  obtain ⟨rfl,rfl,rfl,rfl,k1,k2⟩:=key
  have hob:=hob.mem
  obtain ⟨h3,h4⟩:=DW hT hr fun x hx=>hob x (k1 x hx)
  exact BA h3 h4 (aD hT f h2 (fq fun x hx=>hob x (k2 x hx)) k)
end
def zf:List bF->List (Nat×AV)->Option (List (Nat×AV))
 |[],s=>some s
 |r::l,s=>match zf l s with
  |none=>none
  |some s'=>match r.dst with
   |some d=>some ((d,r.v)::s')
   |none=>some s'
def zg:List bF->List (Nat×AB)->Option (List (Nat×AB))
 |[],h=>some h
 |r::l,h=>match zg l h with
  |none=>none
  |some h'=>some (r.nb++h')
theorem wj:∀ {l:List bF} {s s':List (Nat×AV)},zf l s=some s'->∀ x∈s',x∈s\/∃ r∈l,r.dst=some x.1/\r.v=x.2
 |[],s,s',h,x,hx=>by cases h;exact .inl hx
 |r::l,s,s',h,x,hx=>by
  unfold zf at h
  split at h
  ·cases h
  rename_i s1 h1
  have ih:=wj h1
  split at h
  ·rename_i d hd
   injection h with h;subst h
   rcases List.mem_cons.1 hx with rfl|hx
   ·exact .inr ⟨r,List.mem_cons_self,hd,rfl⟩
   ·rcases ih x hx with h2|⟨q,h2,h3⟩
    ·exact .inl h2
    ·exact .inr ⟨q,List.mem_cons_of_mem _ h2,h3⟩
  ·injection h with h;subst h
   rcases ih x hx with h2|⟨q,h2,h3⟩
   ·exact .inl h2
   ·exact .inr ⟨q,List.mem_cons_of_mem _ h2,h3⟩
theorem wk:∀ {l:List bF} {s s':List (Nat×AB)},zg l s=some s'->∀ x∈s',x∈s\/∃ r∈l,x∈r.nb
 |[],s,s',h,x,hx=>by cases h;exact .inl hx
 |r::l,s,s',h,x,hx=>by
  unfold zg at h
  split at h
  ·cases h
  rename_i s1 h1
  have ih:=wk h1
  injection h with h;subst h
  rcases List.mem_append.1 hx with hx|hx
  ·exact .inr ⟨r,List.mem_cons_self,hx⟩
  ·rcases ih x hx with h2|⟨q,h2,h3⟩
   ·exact .inl h2
   ·exact .inr ⟨q,List.mem_cons_of_mem _ h2,h3⟩
section
variable {P:Program} {W0:World} {F:Nat->Prop} {N:NT} {T0:Nat->Prop} {pin:List (Nat×bM)} {Q:Exit->aJ->Prop}
def zF (P:Program) (W0:World) (F:Nat->Prop) (N:NT) (T0:Nat->Prop) (pin:List (Nat×bM)) (Q:Exit->aJ->Prop) (l:List Oper) (st:aJ) (aR:List bF):Prop:=
 (∀ x∈st.s,look st.s x.1=some x.2)->(∀ x∈st.h,look st.h x.1=some x.2)->∃ fin,pN l.toArray aR N.1 st fin=true/\uX st aR fin/\AL P W0 F N T0 pin l.toArray Q (l.drop aR.length) fin
theorem ua {α:Type}:∀ {l:List (Nat×α)} {x:Nat×α},x∈l->∃ v,look l x.1=some v
 |y::l,x,h=>by
  obtain ⟨k,v⟩:=y
  rw [bO]
  split
  ·exact ⟨v,rfl⟩
  ·rename_i hne
   rcases List.mem_cons.1 h with rfl|h
   ·exact absurd rfl hne
   ·exact ua h
theorem mq {α:Type} {s:List (Nat×α)} {ts:List Nat} {r:List (Nat×α)} (h:jC s ts=some r):∀ x∈r,look r x.1=some x.2:=fun x hx=>by
 obtain ⟨v,hv⟩:=ua hx
 have h1:=jb h hv
 rw [lI h x hx] at h1
 rw [hv,h1]
theorem aX {id:Nat} {l:List Oper} {s s0:List (Nat×AV)} {h h0:List (Nat×AB)} {n:Nat} (lv hv:List Nat) (hm:P.follows .mixedOrders=true) (h1:jC s lv=some s0) (h2:jC h hv=some h0)
  (k:PD P l.toArray ⟨s0,h0,n⟩ (zF P W0 F N T0 pin Q l ⟨s0,h0,n⟩) 0 [] n l):AC P W0 F N T0 pin Q (.region id l.toArray true) ⟨s,h,n⟩:=by
 refine gI (st':=⟨s0,h0,n⟩) (aH.sub (fun i v hi=>jb h1 hi) (fun i v hi=>jb h2 hi) rfl) ?_
 obtain ⟨rows,h3,h4,h5'⟩:=k rfl (fun r hr=>by cases hr)
 obtain ⟨fin,h5,h6,h7⟩:=h5' (mq h1) (mq h2)
 exact EF rows fin hm h5 h3 (sO h4) h6 h7
theorem bA {l l':List Oper} {s0 fs:List (Nat×AV)} {h0 h1 fh:List (Nat×AB)} {n0 i n:Nat} {racc:List bF} (ev:List Nat) (hs:zf racc s0=some fs) (hh:zg racc h0=some h1) (he:jC h1 ev=some fh) (hd:l.drop i=l')
  (hB:pN l.toArray racc.reverse N.1 ⟨s0,h0,n0⟩ ⟨fs,fh,n⟩=true) (k:AL P W0 F N T0 pin l.toArray Q l' ⟨fs,fh,n⟩):
  PD P l.toArray ⟨s0,h0,n0⟩ (zF P W0 F N T0 pin Q l ⟨s0,h0,n0⟩) i racc n l':=fun hl hsee=>by
 refine ⟨[],trivial,by rw [List.append_nil];exact fun r hr=>hsee r (List.mem_reverse.1 hr),?_⟩
 rw [List.append_nil]
 have at_:∀ r∈racc,∃ j,racc.reverse[j]?=some r:=fun r hr=>List.getElem?_of_mem (List.mem_reverse.2 hr)
 refine fun hs0 hh0=>⟨⟨fs,fh,n⟩,hB,⟨fq fun x hx=>?_,fq fun x hx=>?_⟩,?_⟩
 ·rcases wj hs x hx with h1|⟨r,h1,h2,h3⟩
  ·exact .inl (hs0 x h1)
  ·obtain ⟨j,hj⟩:=at_ r h1
   exact .inr ⟨j,r,hj,h2,h3⟩
 ·rcases wk hh x (bJ (lI he x hx)) with h1|⟨r,h1,h2⟩
  ·exact .inl (hh0 x h1)
  ·obtain ⟨j,hj⟩:=at_ r h1
   exact .inr ⟨j,r,hj,h2⟩
 ·rw [List.length_reverse,hl,hd];exact k
end
end
end Go.Proofs.Ytegepioggeggaaa.Dev
