/- A part of the proof: Sh27, Sh28, PlDel, PlPace, PlCard, PlPost, Sh29, Sh30, Sh31. No condition. -/
import Derived.Test.YtegepioggeggaaaD03
set_option linter.unusedVariables false
set_option linter.unusedSimpArgs false
namespace Go.Proofs.Ytegepioggeggaaa.Dev
open Go.RowKit
section
section
variable {P:Program}
theorem cM.Ed {f:FuncId} {fn:Func} {c:Code} {ins:List GV} {bN:List (Nat×AB)} {cS:List Nat} {av:AV} {nb:List (Nat×AB)} (N:Nat) (s:List (Nat×AV)) (n:Nat) (hf:P.funcs[f]?=some fn) (hb:fn.body=some c) (hn:fn.ntmps=N) (hN:Nat.ble ins.length N=true) (hs:slotsOf 0 ins=s)
  (hin0:eo (keys bN)=true) (hin1:bN.all (fun x=>Nat.blt x.1 n)=true) (hok:ins.all (GV.ok (bu bN))=true) (hokb:bN.all (fun x=>x.2.ok (bu bN))=true) (hkeep:cS.all (fun k=>bu bN k)=true)
  (h:∀ (W0:World) (F T:Nat->Prop) (pg:Nat->bQ),(∀ b,F b->∃ k∈keys bN,(pg k).g=b)->AC P W0 F (N,[]) T (cS.map fun k=>(k,pg k)) (kr P fn (cS.map fun k=>(k,pg k)) av nb) c ⟨s,bN,n⟩):cM P f ins bN cS av nb:=by
 subst hn hs
 intro T σ w args hT hheap hinj hk hargs
 have hlen:=hargs.length
 have hlen:ins.length=args.size:=by simpa using hlen
 have hN:=Nat.le_of_ble_eq_true hN
 let σ0:Nat->Option bQ:=fun k=>if bu bN k=true then σ k else none
 have hσ:∀ k,bu bN k=true->σ0 k=σ (id k):=fun k hk=>if_pos hk
 have hnd:=jY hin0
 let pg:Nat->bQ:=fun k=>(σ k).getD ⟨0,0⟩
 have F:Nat->Prop:=fun b=>True
 clear F
 refine calls_of_wp hf hb (Code.wp_mono ?_ (h w (fun b=>∃ k∈keys bN,∃ g,σ k=some g/\g.g=b) T pg (fun b ⟨k,hk,g,hg,hb⟩=>⟨k,hk,by show ((σ k).getD ⟨0,0⟩).g=b;rw [hg];exact hb⟩) _ w ⟨σ0,T,fun _ _=>⟨fun h=>h,fun h=>h⟩,⟨⟨?_,?_,?_,hT⟩,rfl,rfl,rfl,Nat.le_refl _,fun _ _ _=>rfl,?_,?_,?_,?_,rfl⟩,?_⟩))
 ·rintro e a' w' ⟨st,⟨he,st',gs,hw,hr,rfl,hnb⟩,hI⟩
  obtain ⟨σ',T',hT',S,hp⟩:=hw _ _ _ _ _ _ hI
  obtain ⟨v,hv,hrel⟩:=mE S.core hr
  have hpost:a'.defers=[]/\∃ v,(results fn a'.tmps).run P w'=.ok v w'/\∃ v' σ' T',Ending.returned v=.returned v'/\CD σ T w bN cS w' σ' T' (fW gs) nb v':=by
   refine ⟨S.jt,v,hv,v,σ',T',rfl,S.os,S.tape,S.output,S.size,fun b hb hno=>S.cw b hb ?_,hrel,fun b hb=>(hT' b hb).1,fun b hb=>(hT' b (hT b hb)).2 hb,S.core.eB,fun k b hk=>S.core.heap k b (hnb.mem _ hk),fun k b g hk hg=>?_,
    fun k k' b b' g g' hk hk' hg hg' hgg=>S.core.inj k k' b b' g g' (hnb.mem _ hk) (hnb.mem _ hk') hg hg' hgg,fun k hkk=>?_⟩
   ·rintro ⟨k,hk,g,hg,hgb⟩;exact hno k hk g hg hgb
   ·rcases S.own k b g (hnb.mem _ hk) hg with h|⟨e,he,g',hg',hgg⟩
    ·exact .inl h
    ·exact .inr ⟨e,he,g',hg',hgg⟩
   ·obtain ⟨g,hg⟩:=hk k hkk
    have hl:=oT pg hkk
    have hpg:pg k=g:=by show (σ k).getD ⟨0,0⟩=g;rw [hg];rfl
    rw [hg,<-hpg]
    exact hp k _ hl
  rcases he with rfl|rfl<;>exact hpost
 ·intro i v hi
  obtain ⟨g,rfl,_,hg⟩:=lL hi
  obtain ⟨x,hx,hrel⟩:=hargs.get hg
  have hx':(args++Array.replicate (fn.ntmps - args.size) undef).getD i undef=x:=by
   rw [Nat.sub_zero] at hx
   have hlt:=(List.getElem?_eq_some_iff.1 hx).1
   rw [Array.getD_eq_getD_getElem?,Array.getElem?_append_left (by simpa using hlt),<-Array.getElem?_toList,hx]
   rfl
  rw [hx']
  have hgo:=List.all_eq_true.1 hok g (List.mem_of_getElem? hg)
  have hid:g.map id=g:=by cases g with
   |c x=>cases x<;>simp [GV.map,CV.map]
   |g xs=>
    have:xs.map (CV.map id)=xs:=by
     induction xs with
     |nil=>rfl
     |cons y l ih=>
      have hy:y.map id=y:=by cases y<;>simp [CV.map]
      simp only [List.map_cons,hy]
      congr 1
      induction l with
      |nil=>rfl
      |cons z l _=>exact (by
        have hz:∀ c:CV,c.map id=c:=fun c=>by cases c<;>simp [CV.map]
        exact List.map_congr_left (fun c _=>hz c)|>.trans (List.map_id _))
    simp [GV.map,this]
  exact dp.bL (ρ:=id) hσ (x:=g) (by rw [hid];exact hrel) hgo
 ·intro k b hk
  have hm:=bO hk
  have hkin:bu bN k=true:=cY hm
  rw [hσ k hkin]
  have hgo:=List.all_eq_true.1 hokb _ hm
  refine dn.bL (ρ:=id) hσ ?_ hgo
  have hz:∀ c:CV,c.map id=c:=fun c=>by cases c<;>simp [CV.map]
  have hid:b.map' id=b:=by cases b with
   |box t cs=>simp only [AB.map'];congr 1;exact (List.map_congr_left (fun c _=>hz c)).trans (List.map_id _)
   |arr=>rfl
   |map=>rfl
  rw [hid]
  exact hheap k b hm
 ·intro k k' b b' g g' hk hk' hg hg' hgg
  rw [hσ k (cY (bO hk))] at hg
  rw [hσ k' (cY (bO hk'))] at hg'
  exact hinj k k' b b' g g' (bO hk) (bO hk') hg hg' hgg
 ·intro k b g hk hg
  rw [hσ k (cY (bO hk))] at hg
  exact .inr ⟨k,List.mem_map.2 ⟨(k,b),bO hk,rfl⟩,g,hg,rfl⟩
 ·intro k hk
  refine if_neg fun hkin=>?_
  obtain ⟨b,hb⟩:=gz hkin
  have:=List.all_eq_true.1 hin1 _ hb
  rw [Nat.blt_eq] at this
  have:k < n:=this
  have hk:n<=k:=hk
  omega
 ·intro k b hk
  have:=List.all_eq_true.1 hin1 _ (bO hk)
  rw [Nat.blt_eq] at this
  exact this
 ·simp;omega
 ·intro k g hl
  obtain ⟨k',hk',he⟩:=List.mem_map.1 (bO hl)
  injection he with e1 e2
  subst e1
  have hkin:=List.all_eq_true.1 hkeep k' hk'
  rw [hσ k' hkin]
  obtain ⟨g',hg'⟩:=hk k' hk'
  subst e2
  show σ k'=some ((σ k').getD ⟨0,0⟩)
  rw [hg'];rfl
end
section
variable {P:Program} {W0:World} {N:NT} {T0:Nat->Prop} {Q:Exit->aM->Prop} {s s':List (Nat×AV)} {h h':List (Nat×AB)} {n:Nat}
theorem wO {a:Go.Act} {w:World} (k:Nat) (k0:Nat) {g0:bQ} {F:Nat->Prop} (hF:∀ b,F b->g0.g=b) (hk0:bu h' k0=true) (hk:bu h k=true) (hs:du (fun x=>∃ y,look s x.1=some y/\ya ⟨s,h,n⟩ k (bu h') y x.2) s') (hh:du (fun x=>look h x.1=some x.2) h') (hok:h'.all (fun x=>!Nat.beq x.1 k && x.2.ok (bu h'))=true)
  (hI:Inv W0 F N T0 [(k0,g0)] ⟨s,h,n⟩ a w):Inv W0 F N T0 [(k0,g0)] ⟨s',h',n⟩ a w:=by
 obtain ⟨σ,T,hT,S,hp⟩:=hI
 obtain ⟨b0,hb0⟩:=kb hk
 have hh':∀ j b,look h' j=some b->look h j=some b/\j≠k/\b.ok (bu h')=true:=fun j b hj=>by
  have h1:=List.all_eq_true.1 hok _ (bO hj)
  simp only [Bool.and_eq_true,Bool.not_eq_true'] at h1
  exact ⟨hh.mem _ (bO hj),(fun e=>by subst e;rw [Nat.beq_refl] at h1;exact absurd h1.1 (by simp)),h1.2⟩
 have C:=S.core.freeze (st':=⟨s',h',n⟩) k (fun i v hi=>hs.mem _ (bO hi)) hh' ⟨b0,hb0⟩
 have q1:∀ b,b < W0.heap.size->(fJ σ T [k] b->T0 b)/\(T0 b->fJ σ T [k] b):=fun b hb=>⟨fun hb'=>(hT b hb).1 hb'.1,fun h0=>⟨(hT b hb).2 h0,fun e he g hg hgb=>by
  rw [List.mem_singleton.1 he] at hg
  rcases S.own k b0 g hb0 hg with h1|h1
  ·omega
  ·obtain ⟨b1,hb1⟩:=kb hk0
   have hb2:=hh' k0 b1 hb1
   exact absurd (S.core.inj k0 k b1 b0 g0 g hb2.1 hb0 (hp k0 g0 (by rw [bY,if_pos rfl])) hg (hF _ h1)) hb2.2.1⟩⟩
 have q2:∀ j b g,look h' j=some b->(if bu h' j=true then σ j else none)=some g->W0.heap.size<=g.g\/F g.g:=fun j b g hj hg=>by
  split at hg
  ·exact S.own j b g (hh' j b hj).1 hg
  ·cases hg
 have q3:∀ j,n<=j->(if bu h' j=true then σ j else none)=none:=fun j hj=>by
  split
  ·exact S.next j hj
  ·rfl
 exact ⟨_,_,q1,⟨C,S.os,S.tape,S.output,S.size,S.cw,q2,q3,fun j b hj=>S.hn j b (hh' j b hj).1,S.jR,S.jt⟩,fun j g hj=>by
  show (if bu h' j=true then σ j else none)=some g
  have h1:=hp j g hj
  rw [bY] at hj
  split at hj
  ·rename_i e;subst e;rw [if_pos hk0];exact h1
  ·cases hj⟩

theorem ss {c:Code} {F:Nat->Prop} {g0:bQ} (hF:∀ b,F b->g0.g=b) (k:Nat) (hk0:bu h' 0=true) (hk:bu h k=true) (hs:du (fun x=>∃ y,look s x.1=some y/\ya ⟨s,h,n⟩ k (bu h') y x.2) s') (hh:du (fun x=>look h x.1=some x.2) h') (hok:h'.all (fun x=>!Nat.beq x.1 k && x.2.ok (bu h'))=true)
  (hn:AC P W0 F N T0 [(0,g0)] Q c ⟨s',h',n⟩):AC P W0 F N T0 [(0,g0)] Q c ⟨s,h,n⟩:=fun a w hI=>hn a w (wO k 0 hF hk0 hk hs hh hok hI)
end
section
variable {P:Program} {W0:World} {F:Nat->Prop} {N:NT} {T0:Nat->Prop} {pin:List (Nat×bQ)} {ops:Array Oper} {Q:Exit->aM->Prop}
theorem Fz {o:Oper} {rest:List Oper} {s:List (Nat×AV)} {h:List (Nat×AB)} {n d:Nat} {av av':AV} {nb:List (Nat×AB)} (hw:ah ops o ⟨s,h,n⟩) (g:aJ P o ⟨s,h,n⟩ av nb []) (hf:Fx nb av av') (hd:o.dst=some d) (hN:Nat.blt d N.1=true) (hnb:nb.all (fun x=>Nat.ble n x.1)=true)
  (hr:AL P W0 F N T0 pin ops Q rest ⟨(d,av')::s,h,n⟩):AL P W0 F N T0 pin ops Q (o::rest) ⟨s,h,n⟩:=by
 rintro a w ⟨σ,T,hT,S,hp⟩
 refine wpList_step fun K hK=>?_
 rw [if_pos (hw σ T a w S.core)]
 refine nh (ix (g σ T a w S.core fun k b hk _=>S.next k (Nat.le_of_ble_eq_true (List.all_eq_true.1 hnb _ hk))) ?_)
 rintro a' w' ⟨u,σ',T',rfl,X,hv⟩
 have hfresh:∀ k b g,(k,b)∈nb->σ' k=some g->w.heap.size<=g.g:=fun k b g hk hg=>(X.fresh k b g hk hg).resolve_right (fun ⟨e,he,_⟩=>by cases he)
 have hlow:∀ b,(T' b/\b < w.heap.size)->T' b:=fun b h=>h.1
 have X2:Ext σ T w σ (fun b=>T' b/\b < w.heap.size) w' [] []:=⟨X.os,X.tape,X.output,⟨X.grow.size,X.grow.cw,(fun b ⟨k,hk,_⟩=>by cases hk),fun b hb h=>X.grow.lk b hb h.1,fun _ _ h=>h⟩,fun b h=>⟨X.mv b h,S.core.eB b h⟩,fun b h=>X.eB b h.1,fun _ _=>rfl,(fun _ _ h=>by cases h),(fun _ _ _ h=>by cases h),(fun _ _ _ _ _ _ h=>by cases h)⟩
 have hc:∀ c d u,zm nb c d->cU σ' T' w' c u->cU σ (fun b=>T' b/\b < w.heap.size) w' d u:=by
  rintro c d u (⟨x,rfl,rfl⟩|⟨k,t,K,n,rows,rfl,rfl,hk,hn⟩) hu
  ·exact br.fD hlow hu
  ·have hh:=X.rel k _ (bO hk)
   obtain ⟨hK,hh⟩:=hh
   rcases hu with ⟨h0,rfl⟩|⟨g,hg,rfl,hcap,hmax⟩
   ·subst h0
    have:rows=[]:=List.eq_nil_of_length_eq_zero hn
    subst this
    exact br.nil _ _ _
   ·rcases hh with ⟨h1,h2⟩|⟨g',vs,h1,h2,h3,h4,h5,h6⟩
    ·rw [hg] at h2;cases h2
    ·rw [hg] at h1;injection h1 with h1;subst h1
     have hfr:=hfresh k _ g (bO hk) hg
     have:=br.r (T:=fun b=>T' b/\b < w.heap.size) (w:=w') K rows g.g (0 * K) (g.c - 0) (fun i j=>(vs[i * K+j]?).getD undef) (X.eB _ h2) (fun hb=>by have:=hb.2;omega) (by omega) (by omega) (fun i row hr=>(h6.2 i row hr).1) (fun i row j d hr hd=>?_) (fun i row j d hr hd=>?_)
     ·rw [hn] at this;exact this
     ·obtain ⟨u,hu,_⟩:=(h6.2 i row hr).2 j d hd
      rw [Nat.zero_mul,Nat.zero_add,cell_of_row w' g.g (i * K+j) _ _ (0,0) h3]
      simp only [List.getElem?_toArray,hu,Option.getD_some]
     ·obtain ⟨u,hu,hr'⟩:=(h6.2 i row hr).2 j d hd
      simp only [hu,Option.getD_some]
      exact hr'.fD hlow
 have hgv:∀ c d u,zl nb c d->dp σ' T' w' c u->dp σ (fun b=>T' b/\b < w.heap.size) w' d u:=by
  intro c d u hcd hu
  match c,d,hcd with
  |.c c,.c d,hcd=>exact hc c d u hcd hu
  |.g cs,.g ds,hcd=>obtain ⟨vs,h1,h2⟩:=hu;exact ⟨vs,h1,cm.comp (fun x y z h1 h2=>hc x y z h1 h2) hcd h2⟩
 have hv2:eI σ (fun b=>T' b/\b < w.heap.size) w' av' u:=by
  match av,av',hf with
  |.v c,.v d,hf=>exact hgv c d u hf hv
  |.t cs,.t ds,hf=>obtain ⟨vs,h1,h2⟩:=hv;exact ⟨vs,h1,cm.comp (fun x y z h1 h2=>hgv x y z h1 h2) hf h2⟩
 have hS:=S.step (nb:=[]) (E:=[]) (dst:=o.dst) (fun _ h=>by cases h) (fun d' h'=>by rw [hd] at h';injection h' with h';subst h';rw [Nat.blt_eq] at hN;exact hN) X2 hv2
 rw [add_nil,hd] at hS
 rw [hd]
 exact hK _ _ (hr _ _ ⟨σ,_,fun b hb=>⟨fun hb'=>(hT b hb).1 (X.grow.lk b (Nat.lt_of_lt_of_le hb S.size) hb'.1),fun h0=>⟨X.mv b ((hT b hb).2 h0),Nat.lt_of_lt_of_le hb S.size⟩⟩,hS,hp⟩)
end
end
section
def mz (a:Answer):Value:=.agg #[.int .i64 a.err,.int .i64 a.bd]
def tV (ps:List (Int×Answer)):List (Int×Value):=ps.map fun p=>(p.1,mz p.2)
def jj:List (Int×Answer)->Int->Option Answer
 |[],_=>none
 |(k,v)::l,a=>if k=a then some v else jj l a
def qI:List (Int×Answer)->Int->Answer->List (Int×Answer)
 |[],a,v=>[(a,v)]
 |(k,u)::l,a,v=>if k=a then (a,v)::l else (k,u)::qI l a v
theorem pd {a:Int}:∀ {ps:List (Int×Answer)} {ms:List MapEntry} (i:Nat),ms.map (fun e=>(e.key,e.val))=(tV ps).map (fun e=>(Value.int .i64 e.1,e.2))->
  (∃ j v,Instr.findNow (.int .i64) (.int .i64 a) ms i=some (some (i+j,mz v))/\jj ps a=some v/\(∃ e,ms[j]?=some e/\e.key=.int .i64 a)/\∀ u,tV (qI ps a u)=(tV ps).set j (a,mz u))\/
  (Instr.findNow (.int .i64) (.int .i64 a) ms i=some none/\jj ps a=none/\∀ u,qI ps a u=ps++[(a,u)])
 |[],[],i,_=>.inr ⟨rfl,rfl,fun _=>rfl⟩
 |[],_::_,_,h=>by cases h
 |_::_,[],_,h=>by cases h
 |(k,v)::ps,e::ms,i,h=>by
  obtain ⟨h1,h2⟩:=List.cons.inj h
  injection h1 with h3 h4
  unfold Instr.findNow jj qI
  rw [h3,h4]
  by_cases hk:k=a
  ·subst hk
   exact .inl ⟨0,v,by simp [Instr.sameNow],by simp,⟨e,rfl,h3⟩,fun u=>by simp [tV]⟩
  ·have hk':(a==k)=false:=beq_eq_false_iff_ne.2 fun e=>hk e.symm
   rcases pd (ps:=ps) (ms:=ms) (a:=a) (i+1) h2 with ⟨j,w,h5,h6,⟨e',h7,h8⟩,h9⟩|⟨h5,h6,h7⟩
   ·refine .inl ⟨j+1,w,?_,by simp [hk,h6],⟨e',by simpa using h7,h8⟩,fun u=>?_⟩
    ·simp only [Instr.sameNow,hk',h5]
     simp [show i+1+j=i+(j+1) by omega]
    ·rw [if_neg hk]
     have:=h9 u
     simp only [tV] at this ⊢
     simp [this]
   ·exact .inr ⟨by simp [Instr.sameNow,hk',h5],by simp [hk,h6],fun u=>by rw [if_neg hk,h7];rfl⟩
section
variable {P:Program} {st:aM} {o:Oper}
theorem Ax {t kt et:TypeId} {m x:Operand} {k cl:Nat} {a:Int} {ps:List (Int×Answer)} (hu:P.underlying t=some (.map kt et)) (hkt:P.underlying kt=some (.int .i64)) (hz:(P.info? et).bind (fun i=>i.zero)=some (.agg #[.int .i64 0,.int .i64 0])) (ho:o.op=.lookup t m x true)
  (hm:ev st m (.v (.c (.m k)))) (hx:ev st x (.v (.c (.d (.v (.int .i64 a)))))) (hb:look st.h k=some (.map (tV ps) cl)):
  aJ P o st (.t [.g [cI ((jj ps a).getD ⟨0,0⟩).err,cI ((jj ps a).getD ⟨0,0⟩).bd],.c (cB (jj ps a).isSome)]) [] []:=
 aJ.val fun σ T ac w C=>by
  obtain ⟨g,h1,h2⟩:=bG C hm
  have h3:=br.inv (bG C hx)
  obtain ⟨g',ms,e1,e2,e3,e4⟩:=C.heap k _ hb
  rw [h1] at e1;injection e1 with e1;subst e1
  refine ⟨.tuple #[mz ((jj ps a).getD ⟨0,0⟩),.bool (jj ps a).isSome],?_,⟨_,rfl,⟨_,rfl,br.v _ rfl,br.v _ rfl,trivial⟩,br.v _ rfl,trivial⟩⟩
  cases hq:P.info? et with
  |none=>simp [hq] at hz
  |some i=>
   have hzz:i.zero=some (.agg #[.int .i64 0,.int .i64 0]):=by simpa [hq] using hz
   unfold execOp
   rcases pd (a:=a) 0 e4 with ⟨j,v,hf,hg,_⟩|⟨hf,hg,_⟩
   ·simp [ho,h2,h3,hg,Instr.lookup,run_underlying hu,MapKept.run_getObj_map e3,MapKept.run_checkKey hkt (show MapKept.IsKey (.int .i64) (.int .i64 a) from rfl),MapKept.run_findKey hkt hf,Result.andThen]
   ·simp [ho,h2,h3,hg,Instr.lookup,run_underlying hu,MapKept.run_getObj_map e3,MapKept.run_checkKey hkt (show MapKept.IsKey (.int .i64) (.int .i64 a) from rfl),MapKept.run_findKey hkt hf,Result.andThen,zeroValue,typeInfo,hq,hzz,mz]
theorem Av {t kt et:TypeId} {m x y:Operand} {k cl:Nat} {a e u:Int} {ps:List (Int×Answer)} (hu:P.underlying t=some (.map kt et)) (hkt:P.underlying kt=some (.int .i64)) (ho:o.op=.mapUpdate t m x y)
  (hm:ev st m (.v (.c (.m k)))) (hx:ev st x (.v (.c (.d (.v (.int .i64 a)))))) (hy:ev st y (.v (.g [cI e,cI u]))) (hb:look st.h k=some (.map (tV ps) cl)):
  aJ P o st (.v (.c .any)) [(k,.map (tV (qI ps a ⟨e,u⟩)) (if (jj ps a).isSome then cl else cl+1))] [k]:=by
 intro σ T ac w C _
 obtain ⟨g,h1,h2⟩:=bG C hm
 have h3:=br.inv (bG C hx)
 obtain ⟨vs,h4,h5⟩:=bG C hy
 have h4:ac.eval y=mz ⟨e,u⟩:=by
  match vs,h5 with
  |[v1,v2],h5=>rw [h4,br.inv h5.1,br.inv h5.2.1];rfl
 obtain ⟨g',ms,e1,e2,e3,e4⟩:=C.heap k _ hb
 rw [h1] at e1;injection e1 with e1;subst e1
 have hlt:=(Array.getElem?_eq_some_iff.1 e3).1
 rcases pd (a:=a) 0 e4 with ⟨j,v,hf,hg,⟨e0,hj,hk⟩,hp⟩|⟨hf,hg,hp⟩
 ·rw [Nat.zero_add] at hf
  have hj':ms[j]?=some e0:=by simpa using hj
  refine ng (w':={w with heap:=w.heap.setIfInBounds g.g (.map (ms.modify j fun e'=>{e' with key:=.int .i64 a,val:=mz ⟨e,u⟩}) cl)}) ?_ ⟨undef,σ,T,rfl,Ext.write C hb h1 rfl rfl rfl (by simp) (fun i hi=>(MapKept.heap_set e3).2 i hi) fun G=>?_,trivial⟩
  ·unfold execOp
   simp [ho,h2,h3,h4,Instr.mapUpdate,Sem.run_bind,run_underlying hu,Result.andThen_ok,MapKept.run_getObj_map e3,MapKept.run_checkKey hkt (show MapKept.IsKey (.int .i64) (.int .i64 a) from rfl),MapKept.run_findKey hkt hf,hj',hk,MapKept.run_keyThatStays (show MapKept.IsKey (.int .i64) (.int .i64 a) from rfl),MapKept.run_setObj_map _ e3]
  ·refine ⟨g,(ms.modify j fun e'=>{e' with key:=.int .i64 a,val:=mz ⟨e,u⟩}),rfl,e2,?_,?_⟩
   ·rw [hg];exact (MapKept.heap_set e3).1
   ·rw [hp,List.map_set,<-e4]
    refine List.ext_getElem? fun q=>?_
    rw [List.getElem?_map,Array.getElem?_toList,Array.getElem?_modify,List.getElem?_set,List.getElem?_map,Array.getElem?_toList]
    by_cases hq:j=q
    ·subst hq
     have hjl:=(Array.getElem?_eq_some_iff.1 hj').1
     simp [hj',hjl]
    ·simp [hq]
 ·refine ng (w':={w with heap:=w.heap.setIfInBounds g.g (.map (ms.push {key:=.int .i64 a,val:=mz ⟨e,u⟩,born:=cl}) (cl+1))}) ?_ ⟨undef,σ,T,rfl,Ext.write C hb h1 rfl rfl rfl (by simp) (fun i hi=>(MapKept.heap_set e3).2 i hi) fun G=>?_,trivial⟩
  ·unfold execOp
   simp only [ho,h2,h3,h4,Instr.mapUpdate,Sem.run_bind,run_underlying hu,Result.andThen_ok,MapKept.run_getObj_map e3,MapKept.run_checkKey hkt (show MapKept.IsKey (.int .i64) (.int .i64 a) from rfl),MapKept.run_findKey hkt hf,MapKept.run_setObj_map _ e3]
   rfl
  ·refine ⟨g,(ms.push {key:=.int .i64 a,val:=mz ⟨e,u⟩,born:=cl}),rfl,e2,?_,?_⟩
   ·rw [hg];exact (MapKept.heap_set e3).1
   ·rw [hp,Array.toList_push,List.map_append,e4]
    simp [tV]
theorem yL {t:TypeId} (k:Nat) (ho:o.op=.makeMap t none):aJ P o st (.v (.c (.m k))) [(k,.map (tV []) 0)] []:=Aw k ho
end
end
section
def dC {α:Type} (p:α->Bool) (l:List α):List α:=l.filter fun x=>!p x
def gZ {α:Type} (p:α->Bool) (l:List α):Int:=
 match l.findIdx? p with
 |some i=>i
 |none=>-1
variable {α:Type} {p:α->Bool} {l c:List α} {i j q:Nat} {x:α}
theorem nL (h:l[j]?=some x):dC p (l.take (j+1))=dC p (l.take j)++if p x then [] else [x]:=by
 rw [gV h,dC,dC,List.filter_append]
 cases hp:p x<;>simp [hp]
theorem oV (p:α->Bool) (l:List α):(dC p l).length<=l.length:=List.length_filter_le _ _
theorem tS (h:(l.take q).all (fun y=>!p y)=true) (hx:l[q]?=some x) (hp:p x=true):gZ p l=q:=by
 unfold gZ
 have hq:=(List.getElem?_eq_some_iff.1 hx).1
 have:l.findIdx? p=some q:=by
  rw [List.findIdx?_eq_some_iff_getElem]
  refine ⟨hq,?_,fun r hr=>?_⟩
  ·have:=(List.getElem?_eq_some_iff.1 hx).2;rw [this];exact hp
  ·rw [List.all_eq_true] at h
   have hm:l[r]'(by omega)∈l.take q:=by
    rw [List.mem_iff_getElem]
    exact ⟨r,by rw [List.length_take];omega,by simp⟩
   have:=h _ hm
   simpa using this
 rw [this]
theorem vC (h:l.all (fun y=>!p y)=true):gZ p l=-1:=by
 unfold gZ
 have:l.findIdx? p=none:=by
  rw [List.findIdx?_eq_none_iff]
  intro y hy
  have:=List.all_eq_true.1 h y hy
  simpa using this
 rw [this]
theorem wx (h:(l.take q).all (fun y=>!p y)=true) (hx:l[q]?=some x) (hp:p x=false):(l.take (q+1)).all (fun y=>!p y)=true:=xW h hx (by simp [hp])
theorem tT (p:α->Bool) (l:List α):(gZ p l=-1/\dC p l=l)\/∃ i:Nat,gZ p l=i/\i < l.length/\∃ x,l[i]?=some x/\p x=true/\dC p (l.take i)=l.take i:=by
 unfold gZ
 cases h:l.findIdx? p with
 |none=>
  refine .inl ⟨rfl,?_⟩
  rw [List.findIdx?_eq_none_iff] at h
  exact List.filter_eq_self.2 fun y hy=>by simp [h y hy]
 |some i=>
  rw [List.findIdx?_eq_some_iff_getElem] at h
  obtain ⟨h1,h2,h3⟩:=h
  refine .inr ⟨i,rfl,h1,l[i],List.getElem?_eq_getElem h1,h2,?_⟩
  refine List.filter_eq_self.2 fun y hy=>?_
  obtain ⟨r,hr,rfl⟩:=List.mem_iff_getElem.1 hy
  rw [List.length_take] at hr
  have:=h3 r (by omega)
  simp [this]
structure ll (p:α->Bool) (l c:List α) (i j:Nat):Prop where
 len:c.length=l.length
 ij:i < j
 jl:j<=l.length
 pre:c.take i=dC p (l.take j)
 post:c.drop j=l.drop j
theorem ll.get (h:ll p l c i j) (hx:c[j]?=some x):l[j]?=some x:=by
 have h1:(c.drop j)[0]?=(l.drop j)[0]?:=by rw [h.post]
 simpa [hx] using h1.symm
theorem ll.skip (h:ll p l c i j) (hx:c[j]?=some x) (hp:p x=true):ll p l c i (j+1):=by
 have hl:=h.get hx
 have hj:=(List.getElem?_eq_some_iff.1 hl).1
 refine ⟨h.len,Nat.lt_succ_of_lt h.ij,hj,?_,?_⟩
 ·rw [nL hl,hp,h.pre];simp
 ·rw [<-List.drop_drop,<-List.drop_drop,h.post]
theorem ll.cS (h:ll p l c i j) (hx:c[j]?=some x) (hp:p x=false):ll p l (c.set i x) (i+1) (j+1):=by
 have hl:=h.get hx
 have hj:=(List.getElem?_eq_some_iff.1 hl).1
 have hi:i < c.length:=by have:=h.ij;rw [h.len];omega
 refine ⟨by rw [List.length_set];exact h.len,Nat.succ_lt_succ h.ij,hj,?_,?_⟩
 ·rw [nL hl,hp,<-h.pre]
  rw [List.take_succ_eq_append_getElem (by rw [List.length_set];exact hi)]
  simp [List.take_set_of_le]
 ·rw [List.drop_set_of_lt (by have:=h.ij;omega),<-List.drop_drop,<-List.drop_drop,h.post]
theorem ll.start {i:Nat} (hx:l[i]?=some x) (hp:p x=true) (hk:dC p (l.take i)=l.take i):ll p l l i (i+1):=by
 have hi:=(List.getElem?_eq_some_iff.1 hx).1
 refine ⟨rfl,Nat.lt_succ_self i,hi,?_,rfl⟩
 rw [nL hx,hp,hk];simp
theorem ll.done (h:ll p l c i j) (hj:l.length<=j):c.take i=dC p l:=by
 rw [h.pre,List.take_of_length_le hj]
end
section
section
variable {α:Type} [DecidableEq α] {a b:List α}
end
end
section
def jI (a b c:Int):Int:=if a < 1\/a > 1000000\/b < 0\/b > 30\/c < 0\/c > 1000000000000 then 3 else 0
def scan (e:Nat->Int) (q:Nat):Nat->Int×Int
 |0=>(0,0)
 |k+1=>if e q≠0 then (e q,(q:Int)) else scan e (q+1) k
theorem mP {e:Nat->Int} {q n:Nat} (hq:q < n) (h:e q=0):scan e q (n - q)=scan e (q+1) (n - (q+1)):=by
 rw [show n - q=(n - (q+1))+1 by omega,scan,if_neg (by simp [h])]
theorem iw {e:Nat->Int} {q n:Nat} (hq:q < n) {c:Int} (h:e q=c) (hc:c≠0):scan e q (n - q)=(c,(q:Int)):=by
 rw [show n - q=(n - (q+1))+1 by omega,scan,if_pos (by rw [h];exact hc),h]
theorem nv {e:Nat->Int} {q n:Nat} (hq:¬q < n):scan e q (n - q)=(0,0):=by rw [show n - q=0 by omega];rfl
theorem nw {e:Nat->Int}:∀ (n q:Nat),(scan e q n).1=0↔∀ i,q<=i->i < q+n->e i=0
 |0,q=>by simp [scan];intro i h1 h2;omega
 |n+1,q=>by
  rw [scan]
  split
  ·rename_i h;exact ⟨fun h'=>absurd h' h,fun h'=>absurd (h' q (Nat.le_refl _) (by omega)) h⟩
  ·rename_i h
   rw [nw n (q+1)]
   constructor
   ·intro h' i h1 h2
    by_cases hi:i=q
    ·subst hi;omega
    ·exact h' i (by omega) (by omega)
   ·exact fun h' i h1 h2=>h' i (by omega) (by omega)
def ki (l:List de) (q:Nat):Int:=
 match l[q]? with
 |some u=>if u.time < 0\/u.time > 1000000\/u.sum < 0\/u.sum > 1000000 then 3 else if 0 < q/\(l.getD (q - 1) ⟨0,0⟩).time > u.time then 2 else 0
 |none=>0
def cW (l:List de):Int×Int:=if l.length > 30 then (5,0) else scan (ki l) 0 l.length
def ft (p:ew):Int:=jI p.cG p.count p.sum
def fa (l:List de):dc:=⟨(cW l).1,(cW l).2⟩
def cw (p:ew) (t:Int) (u:de):Bool:=decide (u.time<=t - p.cG)
def dM (p:ew) (l:List de) (t:Int):List de:=dC (cw p t) l
def hZ:List de->Int
 |[]=>0
 |u::l=>u.sum+hZ l
def gY (l:List de) (t:Int):Bool:=match l.getLast? with
 |some u=>decide (u.time > t)
 |none=>false
def ed (p:ew) (l:List de) (x:de):List de×Int:=
 if ft p≠0 then ([],ft p)
 else if (fa l).err≠0 then ([],(fa l).err)
 else if (fa [x]).err≠0 then ([],(fa [x]).err)
 else if gY l x.time=true then ([],2)
 else if p.count < ((dM p l x.time).length:Int)+1\/p.sum < hZ (dM p l x.time)+x.sum then ([],11)
 else (dM p l x.time++[x],0)
theorem oM {p:ew} (h:ft p=0):1<=p.cG/\p.cG<=1000000/\0<=p.count/\p.count<=30/\0<=p.sum/\p.sum<=1000000000000:=by
 unfold ft jI at h
 split at h
 ·cases h
 ·omega
theorem nk {l:List de}:(fa l).err=0↔l.length<=30/\∀ i,i < l.length->ki l i=0:=by
 unfold fa cW
 dsimp only
 split
 ·constructor
  ·intro h;cases h
  ·intro h;omega
 ·rw [nw]
  constructor
  ·exact fun h=>⟨by omega,fun i hi=>h i (Nat.zero_le _) (by omega)⟩
  ·exact fun h i _ hi=>h.2 i (by omega)
theorem nm {l:List de} {q:Nat} {u:de} (h:l[q]?=some u):ki l q=0↔(0<=u.time/\u.time<=1000000/\0<=u.sum/\u.sum<=1000000)/\∀ v,0 < q->l[q - 1]?=some v->v.time<=u.time:=by
 unfold ki
 rw [h]
 dsimp only
 have hq:=(List.getElem?_eq_some_iff.1 h).1
 split
 ·constructor
  ·intro h;cases h
  ·intro h;omega
 ·split
  ·rename_i h1 h2
   constructor
   ·intro h;cases h
   ·intro h3
    have hv:l[q - 1]?=some l[q - 1]:=List.getElem?_eq_getElem (by omega)
    have:=h3.2 _ h2.1 hv
    rw [List.getD_eq_getElem?_getD,hv] at h2
    simp only [Option.getD_some] at h2
    omega
  ·rename_i h1 h2
   refine ⟨fun _=>⟨by omega,fun v h3 h4=>?_⟩,fun _=>rfl⟩
   rw [List.getD_eq_getElem?_getD,h4] at h2
   simp only [Option.getD_some] at h2
   omega
theorem jV {l:List de} (h:(fa l).err=0):l.length<=30/\∀ u∈l,0<=u.time/\u.time<=1000000/\0<=u.sum/\u.sum<=1000000:=by
 obtain ⟨h1,h2⟩:=nk.1 h
 refine ⟨h1,fun u hu=>?_⟩
 obtain ⟨i,hi⟩:=List.getElem?_of_mem hu
 exact ((nm hi).1 (h2 i (List.getElem?_eq_some_iff.1 hi).1)).1
theorem kP (l:List de) (u:de):hZ (l++[u])=hZ l+u.sum:=by
 induction l with
 |nil=>simp [hZ]
 |cons x l ih=>simp only [List.cons_append,hZ,ih];omega
theorem yg {l:List de} (h:∀ u∈l,0<=u.time/\u.time<=1000000/\0<=u.sum/\u.sum<=1000000):0<=hZ l/\hZ l<=1000000 * l.length:=by
 induction l with
 |nil=>simp [hZ]
 |cons x l ih=>
  have h1:=ih fun u hu=>h u (List.mem_cons_of_mem _ hu)
  have h2:=h x List.mem_cons_self
  simp only [hZ,List.length_cons]
  omega
theorem ku {α:Type} {p:α->Bool} {l:List α} {x:α} (h:x∈dC p l):x∈l:=(List.mem_filter.1 h).1
theorem qb {p:ew} {l:List de} {t:Int} {k:Nat} (h:(fa l).err=0):0<=hZ ((dM p l t).take k)/\hZ ((dM p l t).take k)<=30000000:=by
 obtain ⟨h1,h2⟩:=jV h
 have h3:=yg (l:=(dM p l t).take k) fun u hu=>h2 u (ku (List.mem_of_mem_take hu))
 have h4:=oV (cw p t) l
 have h5:((dM p l t).take k).length<=(dM p l t).length:=by rw [List.length_take];exact Nat.min_le_right _ _
 have h6:(dM p l t).length<=30:=Nat.le_trans h4 h1
 omega
theorem Ek {α:Type} {a b x:α} {q:Nat} (h:[a,b][q]?=some x):(q=0/\x=a)\/(q=1/\x=b):=by
 match q with
 |0=>left;simp_all
 |1=>right;simp_all
 |q+2=>simp at h
theorem mU {l:List de} {t:Int} {u:de} (h:l[l.length - 1]?=some u):gY l t=decide (u.time > t):=by
 unfold gY
 rw [List.getLast?_eq_getElem?,h]
end
section
end
section
theorem Bb {p:ew} {l r:List de} {x:de} (h:ed p l x=(r,0)):ft p=0/\(fa l).err=0/\(fa [x]).err=0/\gY l x.time=false/\((dM p l x.time).length:Int)+1<=p.count/\hZ (dM p l x.time)+x.sum<=p.sum/\r=dM p l x.time++[x]:=by
 unfold ed at h
 split at h
 ·rename_i h1;simp only [Prod.mk.injEq] at h;exact absurd h.2 h1
 split at h
 ·rename_i h1;simp only [Prod.mk.injEq] at h;exact absurd h.2 h1
 split at h
 ·rename_i h1;simp only [Prod.mk.injEq] at h;exact absurd h.2 h1
 split at h
 ·simp at h
 split at h
 ·simp at h
 ·rename_i h1 h2 h3 h4 h5
  simp only [Prod.mk.injEq] at h
  exact ⟨by omega,by omega,by omega,by simpa using h4,by omega,by omega,h.1.symm⟩
structure Kept (p:ew) (all kept:List de):Prop where
 times:∀ u∈all,∀ v,all.getLast?=some v->u.time<=v.time
 last:kept.getLast?=all.getLast?
 GP:∀ t,(∀ v,all.getLast?=some v->v.time<=t)->dM p kept t=dM p all t
 ej:∀ i u,all[i]?=some u->((dM p (all.take (i+1)) u.time).length:Int)<=p.count/\hZ (dM p (all.take (i+1)) u.time)<=p.sum
 bound:∀ u∈all,0<=u.time/\u.time<=1000000/\0<=u.sum/\u.sum<=1000000
theorem Kept.nil (p:ew):Kept p [] []:=⟨fun u h=>by simp at h,rfl,fun _ _=>rfl,fun i u h=>by simp at h,fun u h=>by simp at h⟩
theorem oU (p:de->Bool) (l:List de) (x:de):dC p (l++[x])=dC p l++if p x then [] else [x]:=by
 rw [dC,dC,List.filter_append]
 cases hp:p x<;>simp [hp]
theorem Kept.add {p:ew} {all kept r:List de} {x:de} (h:Kept p all kept) (ha:ed p kept x=(r,0)):Kept p (all++[x]) r:=by
 obtain ⟨h1,h2,h3,h4,h5,h6,rfl⟩:=Bb ha
 have hp:=oM h1
 have hl:∀ v,all.getLast?=some v->v.time<=x.time:=fun v hv=>by
  unfold gY at h4
  rw [h.last,hv] at h4
  simpa using h4
 have hx:=(jV h3).2 x (by simp)
 have hrec:dM p kept x.time=dM p all x.time:=h.GP _ hl
 have hold:∀ t,cw p t x=false\/t - p.cG>=x.time:=fun t=>by unfold cw;by_cases h:x.time<=t - p.cG<;>simp [h]
 have hx0:cw p x.time x=false:=by unfold cw;simp;omega
 refine ⟨fun u hu v hv=>?_,by simp,fun t ht=>?_,fun i u hi=>?_,fun u hu=>?_⟩
 ·have hv':v=x:=by simpa using hv.symm
  subst hv'
  rcases List.mem_append.1 hu with hu|hu
  ·cases hg:all.getLast? with
   |none=>rw [List.getLast?_eq_none_iff] at hg;subst hg;simp at hu
   |some w=>have:=h.times u hu w hg;have:=hl w hg;omega
  ·have:u=v:=by simpa using hu
   subst this;omega
 ·have htx:x.time<=t:=ht x (by simp)
  unfold dM
  rw [oU,oU]
  congr 1
  show dC (cw p t) (dM p kept x.time)=dC (cw p t) all
  rw [hrec]
  unfold dM dC
  rw [List.filter_filter]
  apply List.filter_congr
  intro u _
  unfold cw
  by_cases h1:u.time<=t - p.cG
  ·simp [h1]
  ·have:¬u.time<=x.time - p.cG:=by omega
   simp [h1,this]
 ·by_cases hi':i < all.length
  ·rw [List.getElem?_append_left hi'] at hi
   rw [List.take_append_of_le_length (by omega)]
   exact h.ej i u hi
  ·have hlt:=(List.getElem?_eq_some_iff.1 hi).1
   simp at hlt
   obtain rfl:i=all.length:=by omega
   have hux:u=x:=by simpa using hi.symm
   subst hux
   rw [List.take_of_length_le (by simp)]
   unfold dM at *
   rw [oU,hx0,<-hrec]
   simp only [Bool.false_eq_true,if_false,List.length_append,List.length_singleton,kP]
   omega
 ·rcases List.mem_append.1 hu with hu|hu
  ·exact h.bound u hu
  ·have:u=x:=by simpa using hu
   subst this;exact hx
end
section
def cQ (c:bD):Int:=
 if c.bE < -1000000000000\/c.bE > 1000000000000\/c.held < 0\/c.held > 1000000000000 then 3 else if ft c.bZ≠0 then ft c.bZ else (fa c.cW).err
def ou:bD:=⟨0,0,⟨0,0,0⟩,[]⟩
def dz (c:bD) (n time:Int):bD×Int:=
 if cQ c≠0 then (ou,cQ c)
 else if n < 1\/n > 1000000\/time < 0\/time > 1000000 then (ou,3)
 else if c.held+n > c.bE then (ou,10)
 else if (ed c.bZ c.cW ⟨time,n⟩).2≠0 then (ou,(ed c.bZ c.cW ⟨time,n⟩).2)
 else (⟨c.bE,c.held+n,c.bZ,(ed c.bZ c.cW ⟨time,n⟩).1⟩,0)
def eP (c:bD) (n:Int):bD×Int:=
 if cQ c≠0 then (ou,cQ c)
 else if n < 1\/n > 1000000\/c.held+n > 1000000000000 then (ou,3)
 else (⟨c.bE,c.held+n,c.bZ,c.cW⟩,0)
def ei (c:bD) (held bE:Int):bD×Int:=
 if cQ c≠0 then (ou,cQ c)
 else if held < -1000000000000\/held > 1000000000000\/bE < -1000000000000\/bE > 1000000000000 then (ou,3)
 else if cQ ⟨c.bE+bE,c.held+held,c.bZ,c.cW⟩≠0 then (ou,10)
 else (⟨c.bE+bE,c.held+held,c.bZ,c.cW⟩,0)
theorem iD {c:bD} (h:cQ c=0):-1000000000000<=c.bE/\c.bE<=1000000000000/\0<=c.held/\c.held<=1000000000000/\ft c.bZ=0/\(fa c.cW).err=0:=by
 unfold cQ at h
 split at h
 ·cases h
 ·split at h
  ·omega
  ·omega
theorem mR {c:bD} (h:-1000000000000<=c.bE/\c.bE<=1000000000000/\0<=c.held/\c.held<=1000000000000) (h1:ft c.bZ=0) (h2:(fa c.cW).err=0):cQ c=0:=by
 unfold cQ
 rw [if_neg (by omega),if_neg (by omega),h2]
theorem nB {c:bD} (h:cQ c=0):c.cW.length<=30:=(jV (iD h).2.2.2.2.2).1
theorem qK {c x:bD} {a m e:Int} (h:ei c a m=(x,e)):(e≠0/\x=ou/\(e=3->cQ c=0->(a < -1000000000000\/a > 1000000000000\/m < -1000000000000\/m > 1000000000000)))\/(e=0/\cQ c=0/\-1000000000000<=a/\a<=1000000000000/\-1000000000000<=m/\m<=1000000000000/\x=⟨c.bE+m,c.held+a,c.bZ,c.cW⟩/\cQ x=0):=by
 unfold ei at h
 split at h
 ·rename_i h1;simp only [Prod.mk.injEq] at h;exact .inl ⟨h.2▸h1,h.1.symm,fun _ h3=>absurd h3 h1⟩
 split at h
 ·rename_i h1;simp only [Prod.mk.injEq] at h;exact .inl ⟨by omega,h.1.symm,fun _ _=>h1⟩
 split at h
 ·simp only [Prod.mk.injEq] at h;exact .inl ⟨by omega,h.1.symm,fun h3=>by omega⟩
 ·rename_i h1 h2 h3
  simp only [Prod.mk.injEq] at h
  obtain ⟨rfl,rfl⟩:=h
  exact .inr ⟨rfl,by omega,by omega,by omega,by omega,by omega,rfl,by omega⟩
theorem oe {c x:bD} {n t e:Int} (h:dz c n t=(x,e)):(e≠0/\x=ou/\(e=10->cQ c=0->c.held+n > c.bE\/(ed c.bZ c.cW ⟨t,n⟩).2=10))\/(e=0/\cQ c=0/\1<=n/\n<=1000000/\0<=t/\t<=1000000/\c.held+n<=c.bE/\∃ l,ed c.bZ c.cW ⟨t,n⟩=(l,0)/\x=⟨c.bE,c.held+n,c.bZ,l⟩):=by
 unfold dz at h
 split at h
 ·rename_i h1;simp only [Prod.mk.injEq] at h;exact .inl ⟨h.2▸h1,h.1.symm,fun _ h3=>absurd h3 h1⟩
 split at h
 ·simp only [Prod.mk.injEq] at h;exact .inl ⟨by omega,h.1.symm,fun h3=>by omega⟩
 split at h
 ·rename_i h1;simp only [Prod.mk.injEq] at h;exact .inl ⟨by omega,h.1.symm,fun _ _=>.inl h1⟩
 split at h
 ·rename_i h1;simp only [Prod.mk.injEq] at h;exact .inl ⟨h.2▸h1,h.1.symm,fun h3 _=>.inr (h.2.trans h3)⟩
 ·rename_i h1 h2 h3 h4
  simp only [Prod.mk.injEq] at h
  refine .inr ⟨h.2.symm,by omega,by omega,by omega,by omega,by omega,by omega,_,Prod.ext rfl (by simpa using h4),h.1.symm⟩
theorem Cz {p:ew} {l:List de} {x:de} (hp:ft p=0) (hl:(fa l).err=0) (hx:(fa [x]).err=0):(ed p l x).2=0\/(ed p l x).2=2\/(ed p l x).2=11:=by
 unfold ed
 rw [if_neg (by omega),if_neg (by omega),if_neg (by omega)]
 split
 ·exact .inr (.inl rfl)
 ·split
  ·exact .inr (.inr rfl)
  ·exact .inl rfl
theorem zu {t n:Int} (h:0<=t/\t<=1000000/\0<=n/\n<=1000000):(fa [⟨t,n⟩]).err=0:=by
 refine nk.2 ⟨by simp,fun i hi=>?_⟩
 have hi:i=0:=by simpa using hi
 subst hi
 exact (nm (u:=⟨t,n⟩) rfl).2 ⟨h,fun v h0=>by omega⟩
end
section
end
section
theorem su {l:List de}:(fa l).err=0↔l.length<=30/\(∀ u∈l,0<=u.time/\u.time<=1000000/\0<=u.sum/\u.sum<=1000000)/\l.Pairwise fun a b=>a.time<=b.time:=by
 constructor
 ·intro h
  obtain ⟨h1,h2⟩:=nk.1 h
  refine ⟨h1,(jV h).2,?_⟩
  rw [List.pairwise_iff_getElem]
  have step:∀ i (hi:i+1 < l.length),l[i].time<=l[i+1].time:=fun i hi=>by
   have h3:=((nm (List.getElem?_eq_getElem hi)).1 (h2 (i+1) hi)).2 l[i] (by omega) (List.getElem?_eq_getElem (by omega))
   exact h3
  intro i j hi hj hij
  obtain ⟨k,rfl⟩:∃ k,j=i+1+k:=⟨j - i - 1,by omega⟩
  clear hij
  induction k with
  |zero=>exact step i hj
  |succ k ih=>
   have h4:=ih (by omega)
   have h5:=step (i+1+k) hj
   exact Int.le_trans h4 h5
 ·rintro ⟨h1,h2,h3⟩
  refine nk.2 ⟨h1,fun i hi=>?_⟩
  refine (nm (List.getElem?_eq_getElem hi)).2 ⟨h2 _ (List.getElem_mem hi),fun v h0 hv=>?_⟩
  rw [List.pairwise_iff_getElem] at h3
  obtain ⟨h5,rfl⟩:=List.getElem?_eq_some_iff.1 hv
  exact h3 (i - 1) i h5 hi (by omega)
theorem uo {p:ew} {l r:List de} {x:de} (h:ed p l x=(r,0)):(fa r).err=0:=by
 obtain ⟨h1,h2,h3,h4,h5,h6,rfl⟩:=Bb h
 have hp:=oM h1
 obtain ⟨h7,h8,h9⟩:=su.1 h2
 have hx:=(jV h3).2 x (by simp)
 refine su.2 ⟨by rw [List.length_append,List.length_singleton];omega,fun u hu=>?_,?_⟩
 ·rcases List.mem_append.1 hu with hu|hu
  ·exact h8 u (ku hu)
  ·have:u=x:=by simpa using hu
   subst this;exact hx
 ·rw [List.pairwise_append]
  refine ⟨List.Pairwise.filter _ h9,by simp,fun u hu v hv=>?_⟩
  have:v=x:=by simpa using hv
  subst this
  have hu':=ku hu
  have hne:l≠[]:=by intro e;subst e;simp at hu'
  have hlast:(l.getLast hne).time<=v.time:=by
   unfold gY at h4
   rw [List.getLast?_eq_some_getLast hne] at h4
   simpa using h4
  refine Int.le_trans ?_ hlast
  obtain ⟨i,hi,rfl⟩:=List.mem_iff_getElem.1 hu'
  rw [List.getLast_eq_getElem]
  by_cases e:i=l.length - 1
  ·subst e;exact Int.le_refl _
  ·rw [List.pairwise_iff_getElem] at h9
   exact h9 i (l.length - 1) hi (by omega) (by omega)
theorem zt (l:List de):(fa l).err≠10:=by
 have hs:∀ (e:Nat->Int),(∀ q,e q≠10)->∀ n q,(scan e q n).1≠10:=by
  intro e he n
  induction n with
  |zero=>intro q;simp [scan]
  |succ n ih=>intro q;rw [scan];split;exact he q;exact ih (q+1)
 unfold fa cW
 dsimp only
 split
 ·decide
 ·refine hs _ (fun q=>?_) _ _
  unfold ki
  split
  ·split
   ·decide
   ·split<;>decide
  ·decide
theorem wD (c:bD):cQ c≠10:=by
 unfold cQ
 split
 ·decide
 ·split
  ·unfold ft jI;split<;>decide
  ·exact zt _
theorem xf {c x:bD} {n t e:Int} (h:dz c n t=(x,e)):(e=0->cQ c=0/\cQ x=0/\x.bE=c.bE/\x.held=c.held+n/\1<=n/\n<=1000000/\c.held+n<=c.bE)/\(e=10->cQ c=0/\c.held+n > c.bE)/\(e≠0->x=ou):=by
 have hw:=wD c
 rcases oe h with ⟨h1,h2,h3⟩|⟨h1,h2,h3,h4,h5,h6,h7,l,h8,rfl⟩
 ·refine ⟨fun h0=>absurd h0 h1,fun h0=>?_,fun _=>h2⟩
  have hc:cQ c=0:=by
   unfold dz at h
   split at h
   ·simp only [Prod.mk.injEq] at h;omega
   ·omega
  refine ⟨hc,?_⟩
  rcases h3 h0 hc with h4|h4
  ·exact h4
  ·unfold dz at h
   split at h
   ·simp only [Prod.mk.injEq] at h;omega
   split at h
   ·simp only [Prod.mk.injEq] at h;omega
   split at h
   ·omega
   ·have hr:=iD hc
    rcases Cz (x:=⟨t,n⟩) hr.2.2.2.2.1 hr.2.2.2.2.2 (zu (by omega)) with h5|h5|h5<;>omega
 ·have hr:=iD h2
  exact ⟨fun _=>⟨h2,mR (by dsimp only;omega) hr.2.2.2.2.1 (uo h8),rfl,rfl,h3,h4,h7⟩,fun h0=>by omega,fun h0=>absurd h1 h0⟩
end
section

end
section
def mA (s:bS) (q:Nat):Int:=
 match s.kept[q]? with
 |some t=>if t.kind < 1\/t.kind > 3 then 1 else if t.bd < 0\/t.bd > 29\/t.sum < 1\/t.sum > 1000000 then 3 else if t.number≠s.bq - s.kept.length+1+q then 2 else 0
 |none=>0
def jQ (s:bS):Int×Int:=
 if s.kept.length > 40 then (5,0) else if s.bq < s.kept.length\/s.bq > 1000000 then (3,0) else scan (mA s) 0 s.kept.length
def cK (s:bS):dc:=⟨(jQ s).1,(jQ s).2⟩
def xy:bS:=⟨0,[]⟩
def gO (s:bS) (t:bg):bS:=⟨s.bq+1,s.kept++[⟨s.bq+1,t.kind,t.bd,t.sum⟩]⟩
def gG (s:bS) (t:bg):bS×Int:=
 if (cK s).err≠0 then (xy,(cK s).err)
 else if (cK (gO s t)).err≠0 then (xy,(cK (gO s t)).err) else (gO s t,0)
def came (seen:Int) (t:bg):Bool:=decide (t.number<=seen)
def eh (s:bS) (seen:Int):bS×Int:=
 if (cK s).err≠0 then (xy,(cK s).err)
 else if seen < 0\/seen > s.bq then (xy,3) else (⟨s.bq,dC (came seen) s.kept⟩,0)
def fV (seen:Int) (t:bg):Int×Bool:=
 if seen < 0\/seen>=1000000\/t.number≠seen+1 then (seen,false) else (seen+1,true)
theorem ln {s:bS}:(cK s).err=0↔s.kept.length<=40/\(s.kept.length:Int)<=s.bq/\s.bq<=1000000/\∀ i,i < s.kept.length->mA s i=0:=by
 unfold cK jQ
 dsimp only
 split
 ·constructor
  ·intro h;cases h
  ·intro h;omega
 ·split
  ·constructor
   ·intro h;cases h
   ·intro h;omega
  ·rw [nw]
   constructor
   ·exact fun h=>⟨by omega,by omega,by omega,fun i hi=>h i (Nat.zero_le _) (by omega)⟩
   ·exact fun h i _ hi=>h.2.2.2 i (by omega)
theorem uR {s:bS} {q:Nat} {t:bg} (h:s.kept[q]?=some t):mA s q=0↔1<=t.kind/\t.kind<=3/\0<=t.bd/\t.bd<=29/\1<=t.sum/\t.sum<=1000000/\t.number=s.bq - s.kept.length+1+q:=by
 unfold mA
 rw [h]
 dsimp only
 split
 ·constructor
  ·intro h;cases h
  ·intro h;omega
 ·split
  ·constructor
   ·intro h;cases h
   ·intro h;omega
  ·split
   ·constructor
    ·intro h;cases h
    ·intro h;omega
   ·constructor
    ·intro _;omega
    ·intro _;rfl
theorem iC {s:bS} (h:(cK s).err=0):s.kept.length<=40/\(s.kept.length:Int)<=s.bq/\s.bq<=1000000/\∀ (i:Nat) (t:bg),s.kept[i]?=some t->1<=t.kind/\t.kind<=3/\0<=t.bd/\t.bd<=29/\1<=t.sum/\t.sum<=1000000/\t.number=s.bq - s.kept.length+1+i:=by
 obtain ⟨h1,h2,h3,h4⟩:=ln.1 h
 exact ⟨h1,h2,h3,fun i t ht=>(uR ht).1 (h4 i (List.getElem?_eq_some_iff.1 ht).1)⟩
theorem Df {s:bS} (h1:s.kept.length<=40) (h2:(s.kept.length:Int)<=s.bq) (h3:s.bq<=1000000) (h4:∀ (i:Nat) (t:bg),s.kept[i]?=some t->1<=t.kind/\t.kind<=3/\0<=t.bd/\t.bd<=29/\1<=t.sum/\t.sum<=1000000/\t.number=s.bq - s.kept.length+1+i):(cK s).err=0:=
 ln.2 ⟨h1,h2,h3,fun i hi=>by
  have ht:s.kept[i]?=some s.kept[i]:=List.getElem?_eq_getElem hi
  exact (uR ht).2 (h4 i _ ht)⟩
theorem tL {s:bS} (h:(cK s).err=0) (seen:Int):dC (came seen) s.kept=s.kept.drop (seen - (s.bq - s.kept.length)).toNat:=by
 obtain ⟨h1,h2,h3,h4⟩:=iC h
 have gen:∀ (l:List bg) (a:Int),(∀ (i:Nat) (t:bg),l[i]?=some t->t.number=a+1+i)->dC (came seen) l=l.drop (seen - a).toNat:=by
  intro l
  induction l with
  |nil=>intro a _;simp [dC]
  |cons t l ih=>
   intro a ha
   have ht:=ha 0 t rfl
   have ih:=ih (a+1) fun i u hu=>by have:=ha (i+1) u (by simpa using hu);omega
   unfold dC at ih ⊢
   rw [List.filter_cons]
   by_cases hs:t.number<=seen
   ·have h0:came seen t=true:=by simp [came,hs]
    rw [h0,if_neg (by simp),ih]
    have:(seen - a).toNat=(seen - (a+1)).toNat+1:=by omega
    rw [this,List.drop_succ_cons]
   ·have h0:came seen t=false:=by simp [came,hs]
    rw [h0,if_pos (by simp),ih]
    have h1:(seen - (a+1)).toNat=0:=by omega
    have h2:(seen - a).toNat=0:=by omega
    rw [h1,h2];rfl
 exact gen s.kept _ fun i t ht=>(h4 i t ht).2.2.2.2.2.2
end
section
theorem pT {s x:bS} {seen e:Int} (h:eh s seen=(x,e)):(e≠0/\x=xy)\/(e=0/\(cK s).err=0/\0<=seen/\seen<=s.bq/\x=⟨s.bq,dC (came seen) s.kept⟩):=by
 unfold eh at h
 split at h
 ·rename_i h1;simp only [Prod.mk.injEq] at h;exact .inl ⟨h.2▸h1,h.1.symm⟩
 split at h
 ·simp only [Prod.mk.injEq] at h;exact .inl ⟨by omega,h.1.symm⟩
 ·simp only [Prod.mk.injEq] at h;exact .inr ⟨h.2.symm,by omega,by omega,by omega,h.1.symm⟩
theorem zg {s:bS} {seen:Int} (h:(cK s).err=0) (h0:0<=seen) (h1:seen<=s.bq):(cK ⟨s.bq,dC (came seen) s.kept⟩).err=0:=by
 obtain ⟨h2,h3,h4,h5⟩:=iC h
 rw [tL h]
 generalize hd:(seen - (s.bq - s.kept.length)).toNat=d
 refine Df (by simp;omega) (by simp;omega) h4 fun i t ht=>?_
 rw [List.getElem?_drop] at ht
 have h6:=h5 (d+i) t ht
 have hlt:=(List.getElem?_eq_some_iff.1 ht).1
 simp only [List.length_drop]
 omega
end
theorem aJ.GQ {P:Program} {o:Oper} {st:aM} {nb:List (Nat×AB)} {E:List Nat} {cs cs':List CV} (i K:Nat) (g:aJ P o st (.v (.g cs)) nb E) (hc:cs[i]?=some cN) (he:cs.set i (cR K [])=cs'):aJ P o st (.v (.g cs')) nb E:=by
 subst he
 refine fun σ T a w C hn=>ix (g σ T a w C hn) ?_
 rintro a w ⟨u,σ',T',h1,h2,vs,hv,hall⟩
 refine ⟨u,σ',T',h1,h2,vs,hv,?_⟩
 obtain ⟨v,hv',hr⟩:=hall.get hc
 have hnil:v=.slice none 0 0:=br.inv hr
 have hs:=hall.set (x:=cR K []) (y:=v) (by rw [hnil];exact br.nil K none 0) i
 have e:vs.set i v=vs:=by
  apply List.ext_getElem?
  intro m
  rw [List.getElem?_set]
  split
  ·rename_i e;subst e
   split
   ·exact hv'.symm
   ·rename_i hlt;exact absurd (List.getElem?_eq_some_iff.1 hv').1 hlt
  ·rfl
 rwa [e] at hs
section

structure TI where
 fs:List (Nat×Nat)
 agg:Bool
 size:Nat
 zero:List Value
structure CA (P:Program) (t:TypeId) (i:TI):Prop where
 Gw:∃ d,P.underlying t=some d/\jn d=i.agg
 Ew:i.fs=[]\/((Program.fieldsOf P t).bind fun fs=>fs.toList.mapM fun f=>(P.info? f.type).map fun i=>(f.offset,i.size))=some i.fs
 size:(P.info? t).map (·.size)=some i.size
 zero:i.zero=[]\/(((P.info? t).bind (·.zero)).map (fun v=>v.cells.toList)=some i.zero/\i.zero.all (·.oneCell')=true)
def gu (P:Program):List (Nat×TI)->Prop
 |[]=>True
 |x::l=>CA P x.1 x.2/\gu P l
theorem gu.get {P:Program}:∀ {T:List (Nat×TI)},gu P T->∀ {t:Nat} {i:TI},look T t=some i->CA P t i
 |x::l,h,t,i,hl=>by
  obtain ⟨k,j⟩:=x
  rw [bY] at hl
  split at hl
  ·rename_i e;injection hl with hl;subst e hl;exact h.1
  ·exact gu.get h.2 hl
def uE:Nat->List CV->Option (List CV)
 |0,_=>some []
 |_+1,[]=>none
 |n+1,c::l=>match uE n l with
  |some r=>some (c::r)
  |none=>none
theorem uQ:∀ {n:Nat} {l r:List CV},uE n l=some r->l.take n=r/\r.length=n
 |0,l,r,h=>by cases h;simp
 |n+1,[],r,h=>by cases h
 |n+1,c::l,r,h=>by
  unfold uE at h
  split at h
  ·rename_i r' h';injection h with h;subst h
   obtain ⟨h1,h2⟩:=uQ h'
   simp [h1,h2]
  ·cases h
def xw:List CV->List CV->Option (List CV)
 |cs,[]=>some cs
 |[],_::_=>none
 |_::cs,x::xs=>match xw cs xs with
  |some r=>some (x::r)
  |none=>none
theorem zT:∀ {cs xs r:List CV},xw cs xs=some r->xs.length<=cs.length/\r=xs++cs.drop xs.length
 |cs,[],r,h=>by unfold xw at h;injection h with h;subst h;simp
 |[],_::_,r,h=>by cases h
 |c::cs,x::xs,r,h=>by
  unfold xw at h
  split at h
  ·rename_i r' h';injection h with h;subst h
   obtain ⟨h1,h2⟩:=zT h'
   simp [h2];omega
  ·cases h
def kp:List CV->Nat->List CV->Option (List CV)
 |cs,0,xs=>xw cs xs
 |[],_+1,_=>none
 |c::cs,n+1,xs=>match kp cs n xs with
  |some r=>some (c::r)
  |none=>none
theorem ko:∀ {cs:List CV} {n:Nat} {xs r:List CV},kp cs n xs=some r->n+xs.length<=cs.length/\cs.take n++xs++cs.drop (n+xs.length)=r
 |cs,0,xs,r,h=>by
  have h:xw cs xs=some r:=by cases cs<;>exact h
  obtain ⟨h1,h2⟩:=zT h
  simp [h2];omega
 |[],n+1,xs,r,h=>by cases h
 |c::cs,n+1,xs,r,h=>by
  unfold kp at h
  split at h
  ·rename_i r' h';injection h with h;subst h
   obtain ⟨h1,h2⟩:=ko h'
   refine ⟨by simp;omega,?_⟩
   rw [show n+1+xs.length=n+xs.length+1 by omega]
   simp [<-h2]
  ·cases h
def lI:List (Nat×AB)->Nat->AB->Option (List (Nat×AB))
 |[],_,_=>none
 |(j,x)::l,k,b=>bif Nat.beq j k then some ((j,b)::l) else match lI l k b with
  |some r=>some ((j,x)::r)
  |none=>none
theorem mO:∀ {l:List (Nat×AB)} {k:Nat} {b:AB} {r:List (Nat×AB)},lI l k b=some r->kO l k b=r
 |(j,x)::l,k,b,r,h=>by
  unfold lI at h
  unfold kO
  cases hjk:Nat.beq j k with
  |true=>rw [hjk] at h;simpa using h
  |false=>
   rw [hjk] at h
   simp only [cond_false] at h ⊢
   split at h
   ·rename_i r' h';injection h with h;subst h;rw [mO h']
   ·cases h
def nf:List Value->Option (List CV)
 |[]=>some []
 |v::l=>match nf l with
  |some r=>some (.d (.v v)::r)
  |none=>none
theorem lH:∀ {l:List Value} {r:List CV},nf l=some r->(l.map fun x=>CV.d (.v x))=r
 |[],r,h=>by cases h;rfl
 |v::l,r,h=>by
  unfold nf at h
  split at h
  ·rename_i r' h';injection h with h;subst h;rw [<-lH h'];rfl
  ·cases h
def yn:List D->Option (List CV)
 |[]=>some []
 |v::l=>match yn l with
  |some r=>some (.d v::r)
  |none=>none
theorem xm:∀ {l:List D} {r:List CV},yn l=some r->l.map CV.d=r
 |[],r,h=>by cases h;rfl
 |v::l,r,h=>by
  unfold yn at h
  split at h
  ·rename_i r' h';injection h with h;subst h;rw [<-xm h'];rfl
  ·cases h
def rJ (s:List (Nat×AV)):List (Nat×Operand)->Option (List (Nat×GV))
 |[]=>some []
 |(i,x)::l=>match jh s x with
  |some (.v g)=>match rJ s l with
   |some r=>some ((i,g)::r)
   |none=>none
  |_=>none
theorem tD {s:List (Nat×AV)} {h:List (Nat×AB)} {n:Nat}:∀ {l:List (Nat×Operand)} {r:List (Nat×GV)},rJ s l=some r->Bf ⟨s,h,n⟩ l r
 |[],r,hr=>by cases hr;trivial
 |(i,x)::l,r,hr=>by
  unfold rJ at hr
  split at hr
  ·rename_i g hg
   split at hr
   ·rename_i r' h';injection hr with hr;subst hr;exact ⟨⟨rfl,ez hg⟩,tD h'⟩
   ·cases hr
  ·cases hr
def rW (places:List (Nat×Nat)):List CV->List (Nat×GV)->Option (List CV)
 |cells,[]=>some cells
 |cells,(i,g)::rest=>match places[i]? with
  |none=>none
  |some (off,size)=>bif Nat.beq (eA g).length size then (match kp cells off (eA g) with
   |some c=>rW places c rest
   |none=>none) else none
theorem vT {places:List (Nat×Nat)}:∀ {l:List (Nat×GV)} {cells r:List CV},rW places cells l=some r->lz (fun i=>places[i]?) cells (l.map fun y=>(y.1,eA y.2))=some r
 |[],cells,r,h=>by unfold rW at h;exact h
 |(i,g)::rest,cells,r,h=>by
  unfold rW at h
  split at h
  ·cases h
  rename_i off size hp
  cases hs:Nat.beq (eA g).length size with
  |false=>rw [hs] at h;cases h
  |true=>
   rw [hs] at h
   simp only [cond_true] at h
   split at h
   ·rename_i c hc
    obtain ⟨h1,h2⟩:=ko hc
    show lz _ cells ((i,eA g)::rest.map _)=_
    unfold lz
    rw [hp]
    dsimp only
    rw [if_pos ⟨Nat.eq_of_beq_eq_true hs,h1⟩,h2]
    exact vT h
   ·cases h
def EA:IntKind->IntKind->Bool
 |.i64,.i64=>true
 |.u8,.u8=>true
 |_,_=>false
theorem Ez {a b:IntKind} (h:EA a b=true):a=b:=by cases a<;>cases b<;>first|rfl|cases h
def AD (T:List (Nat×TI)) (s:List (Nat×AV)) (h:List (Nat×AB)):Op->Option AV
 |.move x=>jh s x
 |.assign x=>jh s x
 |.pick c x y=>match jh s c with
  |some (.v (.c (.d (.v (.bool b)))))=>jh s (bif b then x else y)
  |_=>none
 |.nilCheck x=>match jh s x with
  |some v=>bif vn v then some v else none
  |none=>none
 |.fieldAddr t x i=>match look T t with
  |none=>none
  |some ti=>match ti.fs[i]? with
   |none=>none
   |some (off,sz)=>bif Nat.beq sz 0 then none else (match jh s x with
    |some (.v (.c (.p k r K o)))=>some (.v (.c (.p k r K (o+off))))
    |some (.v (.c (.q row o)))=>some (.v (.c (.q row (o+off))))
    |_=>none)
 |.load t x=>match look T t with
  |none=>none
  |some ti=>match jh s x with
   |some (.v (.c (.q row j)))=>bif ti.agg then (bif Nat.beq j 0 && Nat.beq row.length ti.size then (match yn row with
     |some xs=>some (.v (.g xs))
     |none=>none) else none) else (match row[j]? with
    |some d=>some (.v (.c (.d d)))
    |none=>none)
   |some (.v (.c (.p k r K j)))=>bif Nat.beq r 0 && Nat.beq K 0 then (match look h k with
    |some (.box _ cs)=>bif ti.agg then (match uE ti.size (cs.drop j) with
      |some xs=>some (.v (.g xs))
      |none=>none) else (match cs[j]? with
     |some c=>some (.v (.c c))
     |none=>none)
    |_=>none) else none
   |_=>none
 |.binOp op _ x y _=>match jh s x with
  |some (.v (.c (.d (.v (.int k a)))))=>(match jh s y with
   |some (.v (.c (.d (.v (.int k' b)))))=>bif EA k k' then (match zf op k a b with
    |some c=>some (.v (.c (.d (.v c))))
    |none=>none) else none
   |_=>none)
  |_=>none
 |.unOp .not _ x=>match jh s x with
  |some (.v (.c (.d (.v (.bool b)))))=>some (.v (.c (.d (.v (.bool !b)))))
  |_=>none
 |.extract x i=>match jh s x with
  |some (.t gs)=>(match gs[i]? with
   |some g=>some (.v g)
   |none=>none)
  |_=>none
 |.build t parts=>match look T t with
  |none=>none
  |some ti=>bif ti.fs.isEmpty||ti.zero.isEmpty then none else (match rJ s parts.toList with
   |none=>none
   |some ps=>bif ps.all (fun y=>y.2.known) then (match nf ti.zero with
    |none=>none
    |some z=>match rW ti.fs z ps with
     |some cs=>some (.v (.g cs))
     |none=>none) else none)
 |_=>none
theorem wQ {P:Program} {t:TypeId} {ti:TI} (hT:CA P t ti) {i off sz:Nat} (hf:ti.fs[i]?=some (off,sz)):∃ fs f,P.underlying t=some (.struct fs)/\fs[i]?=some f/\f.offset=off/\(P.info? f.type).map (·.size)=some sz:=by
 rcases hT.Ew with h|h
 ·rw [h] at hf;cases hf
 ·cases hfs:Program.fieldsOf P t with
  |none=>rw [hfs] at h;cases h
  |some fs=>
   rw [hfs] at h
   simp only [Option.bind_some] at h
   have hu:P.underlying t=some (.struct fs):=by
    unfold Program.fieldsOf at hfs
    split at hfs
    ·rename_i e;injection hfs with hfs;subst hfs;exact e
    ·cases hfs
   have gen:∀ (l:List Field) (r:List (Nat×Nat)) (i:Nat),(l.mapM fun f=>(P.info? f.type).map fun i=>(f.offset,i.size))=some r->r[i]?=some (off,sz)->∃ f,l[i]?=some f/\f.offset=off/\(P.info? f.type).map (·.size)=some sz:=by
    intro l
    induction l with
    |nil=>intro r i h1 h2;simp at h1;subst h1;simp at h2
    |cons f l ih=>
     intro r i h1 h2
     simp only [List.mapM_cons] at h1
     cases hi:P.info? f.type with
     |none=>rw [hi] at h1;simp at h1
     |some inf=>
      rw [hi] at h1
      cases hr:(l.mapM fun f=>(P.info? f.type).map fun i=>(f.offset,i.size)) with
      |none=>rw [hr] at h1;simp at h1
      |some r'=>
       rw [hr] at h1
       simp at h1
       subst h1
       cases i with
       |zero=>simp at h2;exact ⟨f,rfl,h2.1,by rw [hi];simp [h2.2]⟩
       |succ i=>simp at h2;obtain ⟨g,h3,h4,h5⟩:=ih r' i hr h2;exact ⟨g,by simpa using h3,h4,h5⟩
   obtain ⟨f,h1,h2,h3⟩:=gen fs.toList ti.fs i h hf
   exact ⟨fs,f,hu,by simpa using h1,h2,h3⟩
theorem vU {P:Program} {T:List (Nat×TI)} (hT:gu P T) {o:Oper} {s:List (Nat×AV)} {h:List (Nat×AB)} {n:Nat} {v:AV} (he:AD T s h o.op=some v):aJ P o ⟨s,h,n⟩ v [] []:=by
 unfold AD at he
 split at he
 ·rename_i x ho;exact Ep ho (ez he)
 ·rename_i x ho;exact BZ ho (ez he)
 ·rename_i c x y ho
  split at he
  ·rename_i b hb;exact Em ho (ez hb) (by cases b<;>exact ez he)
  ·cases he
 ·rename_i x ho
  split at he
  ·rename_i v' hv
   cases hn:vn v' with
   |true=>rw [hn] at he;injection he with he;subst he;exact yK ho (ez hv) hn
   |false=>rw [hn] at he;cases he
  ·cases he
 ·rename_i t x i ho
  split at he
  ·cases he
  rename_i ti ht
  split at he
  ·cases he
  rename_i off sz hf
  cases hz:Nat.beq sz 0 with
  |true=>rw [hz] at he;cases he
  |false=>
   rw [hz] at he
   simp only [cond_false] at he
   obtain ⟨fs,f,h1,h2,h3,h4⟩:=wQ (hT.get ht) hf
   have hne:sz≠0:=fun e=>by subst e;cases hz
   split at he
   ·rename_i k r K o' hx;injection he with he;subst he h3;exact BW ho (ez hx) h1 h2 h4 hne
   ·rename_i row o' hx;injection he with he;subst he h3;exact BV ho (ez hx) h1 h2 h4 hne
   ·cases he
 ·rename_i t x ho
  split at he
  ·cases he
  rename_i ti ht
  obtain ⟨d,hu,hd⟩:=(hT.get ht).Gw
  split at he
  ·rename_i row j hx
   cases ha:ti.agg with
   |true=>
    rw [ha] at he
    simp only [cond_true] at he
    cases hc:(Nat.beq j 0 && Nat.beq row.length ti.size) with
    |false=>rw [hc] at he;cases he
    |true=>
     rw [hc] at he
     simp only [cond_true] at he
     rw [Bool.and_eq_true] at hc
     have hj:=Nat.eq_of_beq_eq_true hc.1
     subst hj
     split at he
     ·rename_i xs hxs;injection he with he;subst he
      exact BS ho (ez hx) hu (hd.trans ha) (hT.get ht).size (Nat.eq_of_beq_eq_true hc.2) (xm hxs)
     ·cases he
   |false=>
    rw [ha] at he
    simp only [cond_false] at he
    split at he
    ·rename_i c hc;injection he with he;subst he;exact Dt ho (ez hx) hu (hd.trans ha) hc
    ·cases he
  ·rename_i k r K j hx
   cases hc:(Nat.beq r 0 && Nat.beq K 0) with
   |false=>rw [hc] at he;cases he
   |true=>
    rw [hc] at he
    simp only [cond_true] at he
    rw [Bool.and_eq_true] at hc
    have hr:=Nat.eq_of_beq_eq_true hc.1
    have hK:=Nat.eq_of_beq_eq_true hc.2
    subst hr hK
    split at he
    ·rename_i bt cs hb
     cases ha:ti.agg with
     |true=>
      rw [ha] at he
      simp only [cond_true] at he
      split at he
      ·rename_i xs hxs;injection he with he;subst he
       obtain ⟨h1,h2⟩:=uQ hxs
       exact nP ho (ez hx) hb hu (hd.trans ha) (hT.get ht).size h1 h2
      ·cases he
     |false=>
      rw [ha] at he
      simp only [cond_false] at he
      split at he
      ·rename_i c hc';injection he with he;subst he;exact Du ho (ez hx) hb hu (hd.trans ha) hc'
      ·cases he
    ·cases he
  ·cases he
 ·rename_i op xt x y yt ho
  split at he
  ·rename_i k a hx
   split at he
   ·rename_i k' b hy
    cases hk:EA k k' with
    |false=>rw [hk] at he;cases he
    |true=>
     rw [hk] at he
     have:=Ez hk
     subst this
     simp only [cond_true] at he
     split at he
     ·rename_i c hc;injection he with he;subst he;exact aK ho (ez hx) (ez hy) hc
     ·cases he
   ·cases he
  ·cases he
 ·rename_i t x ho
  split at he
  ·rename_i b hb;injection he with he;subst he;exact En ho (ez hb)
  ·cases he
 ·rename_i x i ho
  split at he
  ·rename_i gs hx
   split at he
   ·rename_i g hg;injection he with he;subst he;exact Az ho (ez hx) hg
   ·cases he
  ·cases he
 ·rename_i t parts ho
  split at he
  ·cases he
  rename_i ti ht
  cases hc:(ti.fs.isEmpty||ti.zero.isEmpty) with
  |true=>rw [hc] at he;cases he
  |false=>
   rw [hc] at he
   simp only [cond_false] at he
   rw [Bool.or_eq_false_iff] at hc
   split at he
   ·cases he
   rename_i ps hps
   cases hk:ps.all (fun y=>y.2.known) with
   |false=>rw [hk] at he;cases he
   |true=>
    rw [hk] at he
    simp only [cond_true] at he
    split at he
    ·cases he
    rename_i z hz
    split at he
    ·rename_i cs hcs;injection he with he;subst he
     have h1:ti.fs≠[]:=fun e=>by rw [e] at hc;simp at hc
     have h2:ti.zero≠[]:=fun e=>by rw [e] at hc;simp at hc
     have h3:=(hT.get ht).Ew.resolve_left h1
     have h4:=(hT.get ht).zero.resolve_left h2
     exact xL ho ⟨h4.1,h3⟩ h4.2 (tD hps) hk (by rw [lH hz];exact vT hcs)
    ·cases he
 ·cases he
def DU (T:List (Nat×TI)) (N:Nat) (o:Oper) (s:List (Nat×AV)) (h:List (Nat×AB)) (n:Nat):Option (List (Nat×AV)×List (Nat×AB)×Nat):=
 match o.op with
 |.alloc t=>match look T t with
  |none=>none
  |some ti=>match o.dst with
   |none=>none
   |some d=>bif ti.zero.isEmpty||!Nat.blt d N then none else (match nf ti.zero with
    |some cs=>some ((d,.v (.c (.p n 0 0 0)))::s,(n,.box t cs)::h,n+1)
    |none=>none)
 |.box t x=>match o.dst with
  |none=>none
  |some d=>bif Nat.blt d N then (match jh s x with
   |some (.v (.c c))=>bif c.known then some ((d,.v (.c (.p n 0 0 0)))::s,(n,.box t [c])::h,n+1) else none
   |some (.v (.g cs))=>some ((d,.v (.c (.p n 0 0 0)))::s,(n,.box t cs)::h,n+1)
   |_=>none) else none
 |.store t x y=>match look T t with
  |none=>none
  |some ti=>match o.dst with
   |some _=>none
   |none=>match jh s x with
    |some (.v (.c (.p k r K j)))=>bif Nat.beq r 0 && Nat.beq K 0 && Nat.blt k n then (match jh s y with
     |some (.v gv)=>bif (eA gv).all CV.known && Nat.beq (eA gv).length ti.size then (match look h k with
      |some (.box bt cs)=>(match kp cs j (eA gv) with
       |some cs'=>(match lI h k (.box bt cs') with
        |some h'=>some (s,h',n)
        |none=>none)
       |none=>none)
      |_=>none) else none
     |_=>none) else none
    |_=>none
 |op=>match AD T s h op with
  |none=>none
  |some v=>match o.dst with
   |none=>none
   |some d=>bif Nat.blt d N then some ((d,v)::s,h,n) else none
def vd (ops:Array Oper) (T:List (Nat×TI)) (N:Nat) (o:Oper) (s:List (Nat×AV)) (h:List (Nat×AB)) (n:Nat):Option (List (Nat×AV)×List (Nat×AB)×Nat):=
 match pa ops s o with
 |some false=>(match o.dst with
  |some d=>bif Nat.blt d N then some ((d,.t [])::s,h,n) else none
  |none=>none)
 |some true=>DU T N o s h n
 |none=>none
def vc (ops:Array Oper) (T:List (Nat×TI)) (N:Nat):Nat->List Oper->List (Nat×AV)->List (Nat×AB)->Nat->Option (List Oper×List (Nat×AV)×List (Nat×AB)×Nat)
 |0,l,s,h,n=>some (l,s,h,n)
 |_+1,[],s,h,n=>some ([],s,h,n)
 |k+1,o::l,s,h,n=>match vd ops T N o s h n with
  |some (s',h',n')=>vc ops T N k l s' h' n'
  |none=>none
section
variable {P:Program} {W0:World} {F:Nat->Prop} {N:NT} {T0:Nat->Prop} {pin:List (Nat×bQ)} {ops:Array Oper} {Q:Exit->aM->Prop}
theorem DH {T:List (Nat×TI)} (hT:gu P T) {o:Oper} {l:List Oper} {s s':List (Nat×AV)} {h h':List (Nat×AB)} {n n':Nat} (hr:Dev.vd ops T N.1 o s h n=some (s',h',n')) (k:AL P W0 F N T0 pin ops Q l ⟨s',h',n'⟩):AL P W0 F N T0 pin ops Q (o::l) ⟨s,h,n⟩:=by
 unfold Dev.vd at hr
 split at hr
 ·rename_i hg
  split at hr
  ·rename_i d hd
   cases hN:Nat.blt d N.1 with
   |false=>rw [hN] at hr;cases hr
   |true=>
    rw [hN] at hr
    simp only [cond_true] at hr
    injection hr with hr;injection hr with h1 h2;injection h2 with h2 h3
    subst h1 h2 h3
    exact Gu ((iH hg).2 rfl) hd hN k
  ·cases hr
 ·rename_i hg
  have hw:ah ops o ⟨s,h,n⟩:=(iH hg).1 rfl
  unfold DU at hr
  split at hr
  ·rename_i t ho
   split at hr
   ·cases hr
   rename_i ti ht
   split at hr
   ·cases hr
   rename_i d hd
   cases hc:(ti.zero.isEmpty||!Nat.blt d N.1) with
   |true=>rw [hc] at hr;cases hr
   |false=>
    rw [hc] at hr
    simp only [cond_false] at hr
    rw [Bool.or_eq_false_iff] at hc
    split at hr
    ·rename_i cs hcs
     injection hr with hr;injection hr with h1 h2;injection h2 with h2 h3
     subst h1 h2 h3
     have h2:ti.zero≠[]:=fun e=>by rw [e] at hc;simp at hc
     have h4:=(hT.get ht).zero.resolve_left h2
     cases hz:(P.info? t).bind (·.zero) with
     |none=>rw [hz] at h4;exact absurd h4.1 (by simp)
     |some z=>
      rw [hz] at h4
      refine wB hw (sP n ho hz (Option.some.inj h4.1) h4.2 (lH hcs)) hd (by simpa using hc.2) rfl k
    ·cases hr
  ·rename_i t x ho
   split at hr
   ·cases hr
   rename_i d hd
   cases hN:Nat.blt d N.1 with
   |false=>rw [hN] at hr;cases hr
   |true=>
    rw [hN] at hr
    simp only [cond_true] at hr
    split at hr
    ·rename_i c hx
     cases hk:c.known with
     |false=>rw [hk] at hr;cases hr
     |true=>
      rw [hk] at hr
      simp only [cond_true] at hr
      injection hr with hr;injection hr with h1 h2;injection h2 with h2 h3
      subst h1 h2 h3
      exact wB hw (vQ n ho (ez hx) hk) hd hN rfl k
    ·rename_i cs hx
     injection hr with hr;injection hr with h1 h2;injection h2 with h2 h3
     subst h1 h2 h3
     exact wB hw (vP n ho (ez hx)) hd hN rfl k
    ·cases hr
  ·rename_i t x y ho
   split at hr
   ·cases hr
   rename_i ti ht
   split at hr
   ·cases hr
   rename_i hd
   split at hr
   ·rename_i kk r K j hx
    cases hc:(Nat.beq r 0 && Nat.beq K 0 && Nat.blt kk n) with
    |false=>rw [hc] at hr;cases hr
    |true=>
     rw [hc] at hr
     simp only [cond_true] at hr
     simp only [Bool.and_eq_true] at hc
     obtain ⟨⟨c1,c2⟩,c3⟩:=hc
     have c1:=Nat.eq_of_beq_eq_true c1
     have c2:=Nat.eq_of_beq_eq_true c2
     subst c1 c2
     split at hr
     ·rename_i gv hy
      cases hk:((eA gv).all CV.known && Nat.beq (eA gv).length ti.size) with
      |false=>rw [hk] at hr;cases hr
      |true=>
       rw [hk] at hr
       simp only [cond_true] at hr
       rw [Bool.and_eq_true] at hk
       split at hr
       ·rename_i bt cs hb
        split at hr
        ·rename_i cs' hcs
         split at hr
         ·rename_i h2 hh
          injection hr with hr;injection hr with e1 e2;injection e2 with e2 e3
          subst e1 e2 e3
          obtain ⟨p1,p2⟩:=ko hcs
          have hl:=Nat.eq_of_beq_eq_true hk.2
          exact Bh hw (vI ho (ez hx) (ez hy) hb hk.1 (hT.get ht).size hl (by rw [<-hl];exact p1) (by rw [<-hl];exact p2)) hd hb c3 (mO hh) k
         ·cases hr
        ·cases hr
       ·cases hr
     ·cases hr
   ·cases hr
  ·split at hr
   ·cases hr
   rename_i v hv
   split at hr
   ·cases hr
   rename_i d hd
   cases hN:Nat.blt d N.1 with
   |false=>rw [hN] at hr;cases hr
   |true=>
    rw [hN] at hr
    simp only [cond_true] at hr
    injection hr with hr;injection hr with h1 h2;injection h2 with h2 h3
    subst h1 h2 h3
    exact cD hw (vU hT hv) hd hN k
 ·cases hr
theorem ad {T:List (Nat×TI)} (hT:gu P T):∀ (k:Nat) {l l':List Oper} {s s':List (Nat×AV)} {h h':List (Nat×AB)} {n n':Nat},vc ops T N.1 k l s h n=some (l',s',h',n')->AL P W0 F N T0 pin ops Q l' ⟨s',h',n'⟩->AL P W0 F N T0 pin ops Q l ⟨s,h,n⟩
 |0,l,l',s,s',h,h',n,n',hr,k=>by
  have:(l,s,h,n)=(l',s',h',n'):=by cases l<;>exact Option.some.inj hr
  injection this with e1 e2;injection e2 with e2 e3;injection e3 with e3 e4
  subst e1 e2 e3 e4;exact k
 |_+1,[],l',s,s',h,h',n,n',hr,k=>by
  have:(([]:List Oper),s,h,n)=(l',s',h',n'):=Option.some.inj hr
  injection this with e1 e2;injection e2 with e2 e3;injection e3 with e3 e4
  subst e1 e2 e3 e4;exact k
 |f+1,o::l,l',s,s',h,h',n,n',hr,k=>by
  unfold vc at hr
  split at hr
  ·rename_i s1 h1 n1 h1'
   exact DH hT h1' (ad hT f hr k)
  ·cases hr
theorem aH {T:List (Nat×TI)} (hT:gu P T) {id:Nat} {l:List Oper} {y:Code} (k:Nat) {l':List Oper} {s s':List (Nat×AV)} {h h':List (Nat×AB)} {n n':Nat} (hr:vc l.toArray T N.1 k l s h n=some (l',s',h',n'))
  (g:AL P W0 F N T0 pin l.toArray (iT (AC P W0 F N T0 pin Q y) Q) l' ⟨s',h',n'⟩):AC P W0 F N T0 pin Q (.seq (.region id l.toArray false) y) ⟨s,h,n⟩:=
 ag (aw (ad hT k hr g))
theorem ae {T:List (Nat×TI)} (hT:gu P T) {id:Nat} {l:List Oper} {y:Code} (k:Nat) {s s':List (Nat×AV)} {h h':List (Nat×AB)} {n n':Nat} (hr:vc l.toArray T N.1 k l s h n=some ([],s',h',n'))
  (g:AC P W0 F N T0 pin Q y ⟨s',h',n'⟩):AC P W0 F N T0 pin Q (.seq (.region id l.toArray false) y) ⟨s,h,n⟩:=
 aH hT k hr (cf g)
end
end
section

def kI {α:Type} (s:List (Nat×α)):List Nat->Option (List (Nat×α))
 |[]=>some []
 |t::ts=>match look s t with
  |none=>none
  |some v=>match kI s ts with
   |some r=>some ((t,v)::r)
   |none=>none
theorem lu {α:Type} {s:List (Nat×α)}:∀ {ts:List Nat} {r:List (Nat×α)},kI s ts=some r->∀ x∈r,look s x.1=some x.2
 |[],r,h,x,hx=>by cases h;cases hx
 |t::ts,r,h,x,hx=>by
  unfold kI at h
  split at h
  ·cases h
  rename_i v hv
  split at h
  ·rename_i r' hr;injection h with h;subst h
   rcases List.mem_cons.1 hx with rfl|hx
   ·exact hv
   ·exact lu hr x hx
  ·cases h
theorem kR {α:Type} {s:List (Nat×α)} {ts:List Nat} {r:List (Nat×α)} (h:kI s ts=some r) {i:Nat} {v:α} (hi:look r i=some v):look s i=some v:=lu h _ (bO hi)
def findD:List bI->Nat->Nat->Option (Nat×AV)
 |[],_,_=>none
 |_,0,_=>none
 |r::l,i+1,t=>match r.dst with
  |some d=>bif Nat.beq d t then some (i,r.v) else findD l i t
  |none=>findD l i t
def nR:List bI->Nat->Nat->Option (Nat×AB)
 |[],_,_=>none
 |_,0,_=>none
 |r::l,i+1,k=>match look r.nb k with
  |some b=>some (i,b)
  |none=>nR l i k
theorem qV:∀ {l:List bI} {i t:Nat} {j:Nat} {v:AV},l.length=i->findD l i t=some (j,v)->∃ q,l.reverse[j]?=some q/\q.dst=some t/\q.v=v
 |[],i,t,j,v,hl,h=>by cases h
 |r::l,0,t,j,v,hl,h=>by cases hl
 |r::l,i+1,t,j,v,hl,h=>by
  have hl:l.length=i:=by simpa using hl
  have rest:findD l i t=some (j,v)->∃ q,(r::l).reverse[j]?=some q/\q.dst=some t/\q.v=v:=fun h=>by
   obtain ⟨q,h1,h2⟩:=qV hl h
   exact ⟨q,by rw [List.reverse_cons,List.getElem?_append_left (List.getElem?_eq_some_iff.1 h1).1];exact h1,h2⟩
  unfold findD at h
  split at h
  ·rename_i d hd
   cases hb:Nat.beq d t with
   |true=>
    rw [hb] at h
    simp only [cond_true,Option.some.injEq,Prod.mk.injEq] at h
    obtain ⟨rfl,rfl⟩:=h
    exact ⟨r,by rw [List.reverse_cons,List.getElem?_append_right (by simp [hl])];simp [hl],by rw [hd,Nat.eq_of_beq_eq_true hb],rfl⟩
   |false=>rw [hb] at h;exact rest h
  ·exact rest h
theorem qW:∀ {l:List bI} {i k:Nat} {j:Nat} {b:AB},l.length=i->nR l i k=some (j,b)->∃ q,l.reverse[j]?=some q/\(k,b)∈q.nb
 |[],i,t,j,v,hl,h=>by cases h
 |r::l,0,t,j,v,hl,h=>by cases hl
 |r::l,i+1,k,j,b,hl,h=>by
  have hl:l.length=i:=by simpa using hl
  unfold nR at h
  split at h
  ·rename_i b' hb
   simp only [Option.some.injEq,Prod.mk.injEq] at h
   obtain ⟨rfl,rfl⟩:=h
   exact ⟨r,by rw [List.reverse_cons,List.getElem?_append_right (by simp [hl])];simp [hl],bO hb⟩
  ·obtain ⟨q,h1,h2⟩:=qW hl h
   exact ⟨q,by rw [List.reverse_cons,List.getElem?_append_left (List.getElem?_eq_some_iff.1 h1).1];exact h1,h2⟩
def gQ (s:List (Nat×AV)) (racc:List bI) (i:Nat):List Nat->List (Nat×AV)×List Nat
 |[]=>([],[])
 |t::ts=>match gQ s racc i ts with
  |(sv,pre)=>match findD racc i t with
   |some (j,v)=>((t,v)::sv,j::pre)
   |none=>match look s t with
    |some v=>((t,v)::sv,pre)
    |none=>(sv,pre)
def gl (h:List (Nat×AB)) (racc:List bI) (i:Nat):List Nat->List (Nat×AB)×List Nat
 |[]=>([],[])
 |k::ks=>match gl h racc i ks with
  |(hv,pre)=>match nR racc i k with
   |some (j,b)=>((k,b)::hv,j::pre)
   |none=>match look h k with
    |some b=>((k,b)::hv,pre)
    |none=>(hv,pre)
def CB (s:List (Nat×AV)) (aV:List bI) (pre:List Nat) (x:Nat×AV):Prop:=look s x.1=some x.2\/∃ j,j∈pre/\∃ q,aV[j]?=some q/\q.dst=some x.1/\q.v=x.2
def CC (h:List (Nat×AB)) (aV:List bI) (pre:List Nat) (x:Nat×AB):Prop:=look h x.1=some x.2\/∃ j,j∈pre/\∃ q,aV[j]?=some q/\x∈q.nb
theorem qE {s:List (Nat×AV)} {racc:List bI} {i:Nat} (hl:racc.length=i):∀ {ts:List Nat} {sv:List (Nat×AV)} {pre:List Nat},gQ s racc i ts=(sv,pre)->∀ x∈sv,CB s racc.reverse pre x
 |[],sv,pre,h,x,hx=>by cases h;cases hx
 |t::ts,sv,pre,h,x,hx=>by
  unfold gQ at h
  cases hv:gQ s racc i ts with
  |mk sv0 pre0=>
   rw [hv] at h
   have ih:=qE hl hv
   dsimp only at h
   split at h
   ·rename_i j v hf
    injection h with h1 h2;subst h1 h2
    rcases List.mem_cons.1 hx with rfl|hx
    ·obtain ⟨q,h1,h2,h3⟩:=qV hl hf
     exact .inr ⟨j,List.mem_cons_self,q,h1,h2,h3⟩
    ·rcases ih x hx with h|⟨j',h1,h2⟩
     ·exact .inl h
     ·exact .inr ⟨j',List.mem_cons_of_mem _ h1,h2⟩
   ·split at h
    ·rename_i v hf
     injection h with h1 h2;subst h1 h2
     rcases List.mem_cons.1 hx with rfl|hx
     ·exact .inl hf
     ·exact ih x hx
    ·injection h with h1 h2;subst h1 h2;exact ih x hx
theorem qF {s:List (Nat×AB)} {racc:List bI} {i:Nat} (hl:racc.length=i):∀ {ts:List Nat} {sv:List (Nat×AB)} {pre:List Nat},gl s racc i ts=(sv,pre)->∀ x∈sv,CC s racc.reverse pre x
 |[],sv,pre,h,x,hx=>by cases h;cases hx
 |t::ts,sv,pre,h,x,hx=>by
  unfold gl at h
  cases hv:gl s racc i ts with
  |mk sv0 pre0=>
   rw [hv] at h
   have ih:=qF hl hv
   dsimp only at h
   split at h
   ·rename_i j v hf
    injection h with h1 h2;subst h1 h2
    rcases List.mem_cons.1 hx with rfl|hx
    ·obtain ⟨q,h1,h2⟩:=qW hl hf
     exact .inr ⟨j,List.mem_cons_self,q,h1,h2⟩
    ·rcases ih x hx with h|⟨j',h1,h2⟩
     ·exact .inl h
     ·exact .inr ⟨j',List.mem_cons_of_mem _ h1,h2⟩
   ·split at h
    ·rename_i v hf
     injection h with h1 h2;subst h1 h2
     rcases List.mem_cons.1 hx with rfl|hx
     ·exact .inl hf
     ·exact ih x hx
    ·injection h with h1 h2;subst h1 h2;exact ih x hx
def Seen (st:aM) (aV:List bI) (r:bI):Prop:=(∀ x∈r.s,CB st.s aV r.pre x)/\∀ x∈r.h,CC st.h aV r.pre x
theorem Seen.more {st:aM} {aV more:List bI} {r:bI} (h:Seen st aV r):Seen st (aV++more) r:=by
 have g:∀ {j:Nat} {q:bI},aV[j]?=some q->(aV++more)[j]?=some q:=fun hj=>by rw [List.getElem?_append_left (List.getElem?_eq_some_iff.1 hj).1];exact hj
 refine ⟨fun x hx=>?_,fun x hx=>?_⟩
 ·rcases h.1 x hx with h1|⟨j,h1,q,h2,h3⟩
  ·exact .inl h1
  ·exact .inr ⟨j,h1,q,g h2,h3⟩
 ·rcases h.2 x hx with h1|⟨j,h1,q,h2,h3⟩
  ·exact .inl h1
  ·exact .inr ⟨j,h1,q,g h2,h3⟩
theorem xk {st:aM} {aV:List bI}:∀ {rs:List bI},(∀ r∈rs,Seen st aV r)->kW st aV rs
 |[],_=>trivial
 |r::rs,h=>⟨⟨fr (h r List.mem_cons_self).1,fr (h r List.mem_cons_self).2⟩,xk fun q hq=>h q (List.mem_cons_of_mem _ hq)⟩
def PD (P:Program) (ops:Array Oper) (st:aM) (K:List bI->Prop) (i:Nat) (racc:List bI) (n:Nat) (l:List Oper):Prop:=
 racc.length=i->(∀ r∈racc,Seen st racc.reverse r)->∃ rows,jy P ops rows l/\(∀ r∈racc.reverse++rows,Seen st (racc.reverse++rows) r)/\K (racc.reverse++rows)
section
variable {P:Program} {ops:Array Oper} {st:aM} {K:List bI->Prop} {i n:Nat} {racc:List bI} {l:List Oper}
theorem Bd {o:Oper} {r:bI} {n':Nat} (hr:mw P ops r o) (hs:racc.length=i->Seen st racc.reverse r) (h:PD P ops st K (i+1) (r::racc) n' l):PD P ops st K i racc n (o::l):=fun hl hsee=>by
 obtain ⟨rows,h1,h2,h3⟩:=h (by rw [List.length_cons,hl]) (fun q hq=>by
  rw [List.reverse_cons]
  rcases List.mem_cons.1 hq with rfl|hq
  ·exact (hs hl).more
  ·exact (hsee q hq).more)
 rw [List.reverse_cons,List.append_assoc] at h2 h3
 exact ⟨r::rows,⟨hr,h1⟩,h2,h3⟩
theorem aP {o:Oper} {v:AV} {nb:List (Nat×AB)} {E pre pre':List Nat} {sv:List (Nat×AV)} {hv:List (Nat×AB)} {n':Nat} (ts ks:List Nat) (hs:gQ st.s racc i ts=(sv,pre)) (hh:gl st.h racc i ks=(hv,pre'))
  (hr:mw P ops ⟨o.dst,v,nb,E,pre++pre',sv,hv⟩ o) (hn:iK nb n=n') (h:PD P ops st K (i+1) (⟨o.dst,v,nb,E,pre++pre',sv,hv⟩::racc) n' l):PD P ops st K i racc n (o::l):=
 Bd hr (fun hl=>⟨fun x hx=>by
  rcases qE hl hs x hx with h1|⟨j,h1,h2⟩
  ·exact .inl h1
  ·exact .inr ⟨j,List.mem_append_left _ h1,h2⟩,fun x hx=>by
  rcases qF hl hh x hx with h1|⟨j,h1,h2⟩
  ·exact .inl h1
  ·exact .inr ⟨j,List.mem_append_right _ h1,h2⟩⟩) h
end
def jO:Operand->List Nat->List Nat
 |.tmp t,l=>t::l
 |_,l=>l
def Gz:List (Nat×Operand)->List Nat
 |[]=>[]
 |(_,x)::l=>jO x (Gz l)
def BC:Op->List Nat
 |.move x=>jO x []
 |.assign x=>jO x []
 |.pick c x y=>jO c (jO x (jO y []))
 |.nilCheck x=>jO x []
 |.fieldAddr _ x _=>jO x []
 |.load _ x=>jO x []
 |.binOp _ _ x y _=>jO x (jO y [])
 |.unOp _ _ x=>jO x []
 |.extract x _=>jO x []
 |.build _ ps=>Gz ps.toList
 |.box _ x=>jO x []
 |_=>[]
def DW (ops:Array Oper) (o:Oper):List Nat:=
 match o.guard with
 |none=>BC o.op
 |some (j,_)=>match (ops[j]?).bind (·.dst) with
  |some t=>t::BC o.op
  |none=>BC o.op
def sj (s:List (Nat×AV)):Op->List Nat
 |.load _ x=>match jh s x with
  |some (.v (.c (.p k _ _ _)))=>[k]
  |_=>[]
 |_=>[]
def nW (kn:List (Nat×Bool)) (d:Nat) (v:AV):AV×List (Bool×Bool):=
 match look kn d with
 |none=>(v,[])
 |some c=>match v with
  |.v (.c (.d (.v (.bool b))))=>(.v (.c (.d (.v (.bool c)))),[(b,c)])
  |v=>(v,[])
theorem xQ {kn:List (Nat×Bool)} {d:Nat} {v v':AV} {ob:List (Bool×Bool)} (h:nW kn d v=(v',ob)) (ho:∀ x∈ob,x.1=x.2):v=v':=by
 unfold nW at h
 split at h
 ·exact (Prod.mk.inj h).1
 ·split at h
  ·rename_i c _ _ b
   obtain ⟨h1,h2⟩:=Prod.mk.inj h
   have:=ho (b,c) (by rw [<-h2];exact List.mem_singleton_self _)
   dsimp only at this
   rw [<-h1,this]
  ·exact (Prod.mk.inj h).1
def vf (ops:Array Oper) (T:List (Nat×TI)) (st:aM) (kn:List (Nat×Bool)) (i:Nat) (racc:List bI) (n:Nat) (o:Oper):Option (bI×Nat×List (Bool×Bool)):=
 match o.dst with
 |none=>none
 |some d=>match gQ st.s racc i (DW ops o) with
  |(sv,pre)=>match pa ops sv o with
   |none=>none
   |some false=>some (⟨some d,.t [],[],[],pre,sv,[]⟩,n,[])
   |some true=>match o.op with
    |.alloc t=>(match look T t with
     |none=>none
     |some ti=>bif ti.zero.isEmpty then none else (match nf ti.zero with
      |some cs=>some (⟨some d,.v (.c (.p n 0 0 0)),[(n,.box t cs)],[],pre,sv,[]⟩,n+1,[])
      |none=>none))
    |.box t x=>(match jh sv x with
     |some (.v (.c c))=>bif c.known then some (⟨some d,.v (.c (.p n 0 0 0)),[(n,.box t [c])],[],pre,sv,[]⟩,n+1,[]) else none
     |some (.v (.g cs))=>some (⟨some d,.v (.c (.p n 0 0 0)),[(n,.box t cs)],[],pre,sv,[]⟩,n+1,[])
     |_=>none)
    |op=>match gl st.h racc i (sj sv op) with
     |(hv,pre')=>match AD T sv hv op with
      |none=>none
      |some v=>match nW kn d v with
       |(v',ob)=>some (⟨some d,v',[],[],pre++pre',sv,hv⟩,n,ob)
def Bt (ops:Array Oper) (T:List (Nat×TI)) (st:aM) (kn:List (Nat×Bool)):Nat->Nat->List bI->Nat->List Oper->Option (Nat×List bI×Nat×List Oper×List (Bool×Bool))
 |0,i,racc,n,l=>some (i,racc,n,l,[])
 |_+1,i,racc,n,[]=>some (i,racc,n,[],[])
 |k+1,i,racc,n,o::l=>match vf ops T st kn i racc n o with
  |none=>none
  |some (r,n',ob)=>match Bt ops T st kn k (i+1) (r::racc) n' l with
   |none=>none
   |some (i2,racc2,n2,l2,ob2)=>match ob with
    |[]=>some (i2,racc2,n2,l2,ob2)
    |x::_=>some (i2,racc2,n2,l2,x::ob2)
section
variable {P:Program} {ops:Array Oper} {st:aM} {K:List bI->Prop} {T:List (Nat×TI)} {kn:List (Nat×Bool)}
theorem De (hT:gu P T) {i n n':Nat} {racc:List bI} {o:Oper} {r:bI} {ob:List (Bool×Bool)} (h:vf ops T st kn i racc n o=some (r,n',ob)) (hob:∀ x∈ob,x.1=x.2):mw P ops r o/\(racc.length=i->Seen st racc.reverse r):=by
 unfold vf at h
 split at h
 ·cases h
 rename_i d hd
 cases hv:gQ st.s racc i (DW ops o) with
 |mk sv pre=>
  rw [hv] at h
  dsimp only at h
  have hsee:racc.length=i->∀ x∈sv,CB st.s racc.reverse pre x:=fun hl=>qE hl hv
  have none_:∀ x∈([]:List (Nat×AB)),CC st.h racc.reverse pre x:=fun x hx=>by cases hx
  split at h
  ·cases h
  ·rename_i hg
   simp only [Option.some.injEq,Prod.mk.injEq] at h
   obtain ⟨rfl,_,_⟩:=h
   exact ⟨.inr ⟨(iH (s:=sv) (h:=[]) (n:=0) hg).2 rfl,rfl,rfl,rfl⟩,fun hl=>⟨hsee hl,none_⟩⟩
  ·rename_i hg
   have hw:∀ hh,ah ops o ⟨sv,hh,0⟩:=fun hh=>(iH hg).1 rfl
   split at h
   ·rename_i t ho
    split at h
    ·cases h
    rename_i ti ht
    cases hz:ti.zero.isEmpty with
    |true=>rw [hz] at h;cases h
    |false=>
     rw [hz] at h
     simp only [cond_false] at h
     split at h
     ·rename_i cs hcs
      simp only [Option.some.injEq,Prod.mk.injEq] at h
      obtain ⟨rfl,_,_⟩:=h
      have h2:ti.zero≠[]:=fun e=>by rw [e] at hz;simp at hz
      have h4:=(hT.get ht).zero.resolve_left h2
      cases hz2:(P.info? t).bind (·.zero) with
      |none=>rw [hz2] at h4;exact absurd h4.1 (by simp)
      |some z=>
       rw [hz2] at h4
       exact ⟨.inl ⟨hw _,sP n ho hz2 (Option.some.inj h4.1) h4.2 (lH hcs)⟩,fun hl=>⟨hsee hl,none_⟩⟩
     ·cases h
   ·rename_i t x ho
    split at h
    ·rename_i c hx
     cases hk:c.known with
     |false=>rw [hk] at h;cases h
     |true=>
      rw [hk] at h
      simp only [cond_true,Option.some.injEq,Prod.mk.injEq] at h
      obtain ⟨rfl,_,_⟩:=h
      exact ⟨.inl ⟨hw _,vQ n ho (ez hx) hk⟩,fun hl=>⟨hsee hl,none_⟩⟩
    ·rename_i cs hx
     simp only [Option.some.injEq,Prod.mk.injEq] at h
     obtain ⟨rfl,_,_⟩:=h
     exact ⟨.inl ⟨hw _,vP n ho (ez hx)⟩,fun hl=>⟨hsee hl,none_⟩⟩
    ·cases h
   ·cases hvh:gl st.h racc i (sj sv o.op) with
    |mk hv pre'=>
     rw [hvh] at h
     dsimp only at h
     split at h
     ·cases h
     rename_i v he
     cases hdv:nW kn d v with
     |mk v' ob'=>
      rw [hdv] at h
      simp only [Option.some.injEq,Prod.mk.injEq] at h
      obtain ⟨rfl,_,rfl⟩:=h
      have:=xQ hdv hob
      subst this
      refine ⟨.inl ⟨hw _,vU hT he⟩,fun hl=>⟨fun x hx=>?_,fun x hx=>?_⟩⟩
      ·rcases hsee hl x hx with h1|⟨j,h1,h2⟩
       ·exact .inl h1
       ·exact .inr ⟨j,List.mem_append_left _ h1,h2⟩
      ·rcases qF hl hvh x hx with h1|⟨j,h1,h2⟩
       ·exact .inl h1
       ·exact .inr ⟨j,List.mem_append_right _ h1,h2⟩
theorem vY {kn:List (Nat×Bool)} {d:Nat} {v v':AV} {ob:List (Bool×Bool)} (h:nW kn d v=(v',ob)):ob.length<=1:=by
 unfold nW at h
 split at h
 ·rw [<-(Prod.mk.inj h).2];exact Nat.zero_le _
 ·split at h
  ·rw [<-(Prod.mk.inj h).2];exact Nat.le_refl _
  ·rw [<-(Prod.mk.inj h).2];exact Nat.zero_le _
theorem Bx {i n n':Nat} {racc:List bI} {o:Oper} {r:bI} {ob:List (Bool×Bool)} (h:vf ops T st kn i racc n o=some (r,n',ob)):ob.length<=1:=by
 unfold vf at h
 split at h
 ·cases h
 rename_i d hd
 dsimp only at h
 split at h
 ·cases h
 ·simp only [Option.some.injEq,Prod.mk.injEq] at h;rw [<-h.2.2];exact Nat.zero_le _
 ·split at h
  ·split at h
   ·cases h
   rename_i ti _
   cases hz:ti.zero.isEmpty with
   |true=>rw [hz] at h;cases h
   |false=>
    rw [hz] at h
    simp only [cond_false] at h
    split at h
    ·simp only [Option.some.injEq,Prod.mk.injEq] at h;rw [<-h.2.2];exact Nat.zero_le _
    ·cases h
  ·split at h
   ·rename_i c _
    cases hk:c.known with
    |false=>rw [hk] at h;cases h
    |true=>rw [hk] at h;simp only [cond_true,Option.some.injEq,Prod.mk.injEq] at h;rw [<-h.2.2];exact Nat.zero_le _
   ·simp only [Option.some.injEq,Prod.mk.injEq] at h;rw [<-h.2.2];exact Nat.zero_le _
   ·cases h
  ·split at h
   ·cases h
   ·rename_i v _
    cases hdv:nW kn d v with
    |mk v' ob'=>
     rw [hdv] at h
     simp only [Option.some.injEq,Prod.mk.injEq] at h
     rw [<-h.2.2];exact vY hdv
theorem ay (hT:gu P T):∀ (k:Nat) {i i' n n':Nat} {racc racc':List bI} {l l':List Oper} {ob:List (Bool×Bool)},Bt ops T st kn k i racc n l=some (i',racc',n',l',ob)->du (fun x=>x.1=x.2) ob->PD P ops st K i' racc' n' l'->PD P ops st K i racc n l
 |0,i,i',n,n',racc,racc',l,l',ob,h,_,k=>by
  have:some (i,racc,n,l,([]:List (Bool×Bool)))=some (i',racc',n',l',ob):=by rw [<-h];cases l<;>rfl
  simp only [Option.some.injEq,Prod.mk.injEq] at this
  obtain ⟨rfl,rfl,rfl,rfl,_⟩:=this
  exact k
 |_+1,i,i',n,n',racc,racc',[],l',ob,h,_,k=>by
  have:some (i,racc,n,([]:List Oper),([]:List (Bool×Bool)))=some (i',racc',n',l',ob):=by rw [<-h];rfl
  simp only [Option.some.injEq,Prod.mk.injEq] at this
  obtain ⟨rfl,rfl,rfl,rfl,_⟩:=this
  exact k
 |f+1,i,i',n,n',racc,racc',o::l,l',ob,h,hob,k=>by
  unfold Bt at h
  split at h
  ·cases h
  rename_i r n1 ob1 hr
  split at h
  ·cases h
  rename_i i2 racc2 n2 l2 ob2 h2
  have hone:=Bx hr
  have key:i2=i'/\racc2=racc'/\n2=n'/\l2=l'/\(∀ x∈ob1,x∈ob)/\∀ x∈ob2,x∈ob:=by
   split at h
   ·simp only [Option.some.injEq,Prod.mk.injEq] at h
    obtain ⟨h1,h2,h3,h4,rfl⟩:=h
    exact ⟨h1,h2,h3,h4,(fun x hx=>by cases hx),fun x hx=>hx⟩
   ·rename_i y ys
    simp only [Option.some.injEq,Prod.mk.injEq] at h
    obtain ⟨h1,h2,h3,h4,rfl⟩:=h
    have hys:ys=[]:=by simpa using hone
    subst hys
    exact ⟨h1,h2,h3,h4,fun x hx=>by rw [List.mem_singleton.1 hx];exact List.mem_cons_self,fun x hx=>List.mem_cons_of_mem _ hx⟩
  obtain ⟨rfl,rfl,rfl,rfl,k1,k2⟩:=key
  have hob:=hob.mem
  obtain ⟨h3,h4⟩:=De hT hr fun x hx=>hob x (k1 x hx)
  exact Bd h3 h4 (ay hT f h2 (fr fun x hx=>hob x (k2 x hx)) k)
end
def yO:List bI->List (Nat×AV)->Option (List (Nat×AV))
 |[],s=>some s
 |r::l,s=>match yO l s with
  |none=>none
  |some s'=>match r.dst with
   |some d=>some ((d,r.v)::s')
   |none=>some s'
def yP:List bI->List (Nat×AB)->Option (List (Nat×AB))
 |[],h=>some h
 |r::l,h=>match yP l h with
  |none=>none
  |some h'=>some (r.nb++h')
theorem vR:∀ {l:List bI} {s s':List (Nat×AV)},yO l s=some s'->∀ x∈s',x∈s\/∃ r∈l,r.dst=some x.1/\r.v=x.2
 |[],s,s',h,x,hx=>by cases h;exact .inl hx
 |r::l,s,s',h,x,hx=>by
  unfold yO at h
  split at h
  ·cases h
  rename_i s1 h1
  have ih:=vR h1
  split at h
  ·rename_i d hd
   injection h with h;subst h
   rcases List.mem_cons.1 hx with rfl|hx
   ·exact .inr ⟨r,List.mem_cons_self,hd,rfl⟩
   ·rcases ih x hx with h2|⟨q,h2,h3⟩
    ·exact .inl h2
    ·exact .inr ⟨q,List.mem_cons_of_mem _ h2,h3⟩
  ·injection h with h;subst h
   rcases ih x hx with h2|⟨q,h2,h3⟩
   ·exact .inl h2
   ·exact .inr ⟨q,List.mem_cons_of_mem _ h2,h3⟩
theorem vS:∀ {l:List bI} {s s':List (Nat×AB)},yP l s=some s'->∀ x∈s',x∈s\/∃ r∈l,x∈r.nb
 |[],s,s',h,x,hx=>by cases h;exact .inl hx
 |r::l,s,s',h,x,hx=>by
  unfold yP at h
  split at h
  ·cases h
  rename_i s1 h1
  have ih:=vS h1
  injection h with h;subst h
  rcases List.mem_append.1 hx with hx|hx
  ·exact .inr ⟨r,List.mem_cons_self,hx⟩
  ·rcases ih x hx with h2|⟨q,h2,h3⟩
   ·exact .inl h2
   ·exact .inr ⟨q,List.mem_cons_of_mem _ h2,h3⟩
section
variable {P:Program} {W0:World} {F:Nat->Prop} {N:NT} {T0:Nat->Prop} {pin:List (Nat×bQ)} {Q:Exit->aM->Prop}
def Da (P:Program) (W0:World) (F:Nat->Prop) (N:NT) (T0:Nat->Prop) (pin:List (Nat×bQ)) (Q:Exit->aM->Prop) (l:List Oper) (st:aM) (aV:List bI):Prop:=
 (∀ x∈st.s,look st.s x.1=some x.2)->(∀ x∈st.h,look st.h x.1=some x.2)->∃ fin,pP l.toArray aV N.1 st fin=true/\uM st aV fin/\AL P W0 F N T0 pin l.toArray Q (l.drop aV.length) fin
theorem tJ {α:Type}:∀ {l:List (Nat×α)} {x:Nat×α},x∈l->∃ v,look l x.1=some v
 |y::l,x,h=>by
  obtain ⟨k,v⟩:=y
  rw [bY]
  split
  ·exact ⟨v,rfl⟩
  ·rename_i hne
   rcases List.mem_cons.1 h with rfl|h
   ·exact absurd rfl hne
   ·exact tJ h
theorem tC {α:Type} {s:List (Nat×α)} {ts:List Nat} {r:List (Nat×α)} (h:kI s ts=some r):∀ x∈r,look r x.1=some x.2:=fun x hx=>by
 obtain ⟨v,hv⟩:=tJ hx
 have h1:=kR h hv
 rw [lu h x hx] at h1
 rw [hv,h1]
theorem aX {id:Nat} {l:List Oper} {s s0:List (Nat×AV)} {h h0:List (Nat×AB)} {n:Nat} (lv hv:List Nat) (hm:P.follows .mixedOrders=true) (h1:kI s lv=some s0) (h2:kI h hv=some h0)
  (k:PD P l.toArray ⟨s0,h0,n⟩ (Da P W0 F N T0 pin Q l ⟨s0,h0,n⟩) 0 [] n l):AC P W0 F N T0 pin Q (.region id l.toArray true) ⟨s,h,n⟩:=by
 refine ik (st':=⟨s0,h0,n⟩) (aF.sub (fun i v hi=>kR h1 hi) (fun i v hi=>kR h2 hi) rfl) ?_
 obtain ⟨rows,h3,h4,h5'⟩:=k rfl (fun r hr=>by cases hr)
 obtain ⟨fin,h5,h6,h7⟩:=h5' (tC h1) (tC h2)
 exact DI rows fin hm h5 h3 (xk h4) h6 h7
theorem bw {l l':List Oper} {s0 fs:List (Nat×AV)} {h0 h1 fh:List (Nat×AB)} {n0 i n:Nat} {racc:List bI} (ev:List Nat) (hs:yO racc s0=some fs) (hh:yP racc h0=some h1) (he:kI h1 ev=some fh) (hd:l.drop i=l')
  (hB:pP l.toArray racc.reverse N.1 ⟨s0,h0,n0⟩ ⟨fs,fh,n⟩=true) (k:AL P W0 F N T0 pin l.toArray Q l' ⟨fs,fh,n⟩):
  PD P l.toArray ⟨s0,h0,n0⟩ (Da P W0 F N T0 pin Q l ⟨s0,h0,n0⟩) i racc n l':=fun hl hsee=>by
 refine ⟨[],trivial,by rw [List.append_nil];exact fun r hr=>hsee r (List.mem_reverse.1 hr),?_⟩
 rw [List.append_nil]
 have at_:∀ r∈racc,∃ j,racc.reverse[j]?=some r:=fun r hr=>List.getElem?_of_mem (List.mem_reverse.2 hr)
 refine fun hs0 hh0=>⟨⟨fs,fh,n⟩,hB,⟨fr fun x hx=>?_,fr fun x hx=>?_⟩,?_⟩
 ·rcases vR hs x hx with h1|⟨r,h1,h2,h3⟩
  ·exact .inl (hs0 x h1)
  ·obtain ⟨j,hj⟩:=at_ r h1
   exact .inr ⟨j,r,hj,h2,h3⟩
 ·rcases vS hh x (bO (lu he x hx)) with h1|⟨r,h1,h2⟩
  ·exact .inl (hh0 x h1)
  ·obtain ⟨j,hj⟩:=at_ r h1
   exact .inr ⟨j,r,hj,h2⟩
 ·rw [List.length_reverse,hl,hd];exact k
end
end
end Go.Proofs.Ytegepioggeggaaa.Dev
