/- A part of the proof: Sh27, Sh28, PlDel, PlPace, PlCard, PlPost, Sh29, Sh30, Sh31. No condition. -/
import Derived.Test.YtegepioggeggaaaD03
set_option linter.unusedVariables false
set_option linter.unusedSimpArgs false
namespace Go.Proofs.Ytegepioggeggaaa.Dev
open Go.RowKit
section
section
variable {P:Program}
theorem cJ.Gb {f:FuncId} {fn:Func} {c:Code} {ins:List GV} {bT:List (Nat×AB)} {cK:List Nat} {av:AV} {nb:List (Nat×AB)} (N:Nat) (s:List (Nat×AV)) (n:Nat) (hf:P.funcs[f]?=some fn) (hb:fn.body=some c) (hn:fn.ntmps=N) (hN:Nat.ble ins.length N=true) (hs:slotsOf 0 ins=s)
  (hin0:eu (keys bT)=true) (hin1:bT.all (fun x=>Nat.blt x.1 n)=true) (hok:ins.all (GV.ok (br bT))=true) (hokb:bT.all (fun x=>x.2.ok (br bT))=true) (hkeep:cK.all (fun k=>br bT k)=true)
  (h:∀ (W0:World) (F T:Nat->Prop) (pg:Nat->bR),(∀ b,F b->∃ k∈keys bT,(pg k).g=b)->AC P W0 F (N,[]) T (cK.map fun k=>(k,pg k)) (jm P fn (cK.map fun k=>(k,pg k)) av nb) c ⟨s,bT,n⟩):cJ P f ins bT cK av nb:=by
 subst hn hs
 intro T σ w args hT hheap hinj hk hargs
 have hlen:=hargs.length
 have hlen:ins.length=args.size:=by simpa using hlen
 have hN:=Nat.le_of_ble_eq_true hN
 let σ0:Nat->Option bR:=fun k=>if br bT k=true then σ k else none
 have hσ:∀ k,br bT k=true->σ0 k=σ (id k):=fun k hk=>if_pos hk
 have hnd:=kr hin0
 let pg:Nat->bR:=fun k=>(σ k).getD ⟨0,0⟩
 have F:Nat->Prop:=fun b=>True
 clear F
 refine calls_of_wp hf hb (Code.wp_mono ?_ (h w (fun b=>∃ k∈keys bT,∃ g,σ k=some g/\g.g=b) T pg (fun b ⟨k,hk,g,hg,hb⟩=>⟨k,hk,by show ((σ k).getD ⟨0,0⟩).g=b;rw [hg];exact hb⟩) _ w ⟨σ0,T,fun _ _=>⟨fun h=>h,fun h=>h⟩,⟨⟨?_,?_,?_,hT⟩,rfl,rfl,rfl,Nat.le_refl _,fun _ _ _=>rfl,?_,?_,?_,?_,rfl⟩,?_⟩))
 ·rintro e a' w' ⟨st,⟨he,st',gs,hw,hr,rfl,hnb⟩,hI⟩
  obtain ⟨σ',T',hT',S,hp⟩:=hw _ _ _ _ _ _ hI
  obtain ⟨v,hv,hrel⟩:=la S.core hr
  have hpost:a'.defers=[]/\∃ v,(results fn a'.tmps).run P w'=.ok v w'/\∃ v' σ' T',Ending.returned v=.returned v'/\Ek σ T w bT cK w' σ' T' (fS gs) nb v':=by
   refine ⟨S.gU,v,hv,v,σ',T',rfl,S.os,S.tape,S.output,S.size,fun b hb hno=>S.cC b hb ?_,hrel,fun b hb=>(hT' b hb).1,fun b hb=>(hT' b (hT b hb)).2 hb,S.core.dZ,fun k b hk=>S.core.heap k b (hnb.mem _ hk),fun k b g hk hg=>?_,
    fun k k' b b' g g' hk hk' hg hg' hgg=>S.core.inj k k' b b' g g' (hnb.mem _ hk) (hnb.mem _ hk') hg hg' hgg,fun k hkk=>?_⟩
   ·rintro ⟨k,hk,g,hg,hgb⟩;exact hno k hk g hg hgb
   ·rcases S.own k b g (hnb.mem _ hk) hg with h|⟨e,he,g',hg',hgg⟩
    ·exact .inl h
    ·exact .inr ⟨e,he,g',hg',hgg⟩
   ·obtain ⟨g,hg⟩:=hk k hkk
    have hl:=pA pg hkk
    have hpg:pg k=g:=by show (σ k).getD ⟨0,0⟩=g;rw [hg];rfl
    rw [hg,<-hpg]
    exact hp k _ hl
  rcases he with rfl|rfl<;>exact hpost
 ·intro i v hi
  obtain ⟨g,rfl,_,hg⟩:=kj hi
  obtain ⟨x,hx,hrel⟩:=hargs.get hg
  have hx':(args++Array.replicate (fn.ntmps - args.size) undef).getD i undef=x:=by
   rw [Nat.sub_zero] at hx
   have hlt:=(List.getElem?_eq_some_iff.1 hx).1
   rw [Array.getD_eq_getD_getElem?,Array.getElem?_append_left (by simpa using hlt),<-Array.getElem?_toList,hx]
   rfl
  rw [hx']
  have hgo:=List.all_eq_true.1 hok g (List.mem_of_getElem? hg)
  have hid:g.map id=g:=by cases g with
   |c x=>cases x<;>simp [GV.map,CV.map]
   |g xs=>
    have:xs.map (CV.map id)=xs:=by
     induction xs with
     |nil=>rfl
     |cons y l ih=>
      have hy:y.map id=y:=by cases y<;>simp [CV.map]
      simp only [List.map_cons,hy]
      congr 1
      induction l with
      |nil=>rfl
      |cons z l _=>exact (by
        have hz:∀ c:CV,c.map id=c:=fun c=>by cases c<;>simp [CV.map]
        exact List.map_congr_left (fun c _=>hz c)|>.trans (List.map_id _))
    simp [GV.map,this]
  exact dk.bW (ρ:=id) hσ (x:=g) (by rw [hid];exact hrel) hgo
 ·intro k b hk
  have hm:=bO hk
  have hkin:br bT k=true:=cW hm
  rw [hσ k hkin]
  have hgo:=List.all_eq_true.1 hokb _ hm
  refine dj.bW (ρ:=id) hσ ?_ hgo
  have hz:∀ c:CV,c.map id=c:=fun c=>by cases c<;>simp [CV.map]
  have hid:b.map' id=b:=by cases b with
   |box t cs=>simp only [AB.map'];congr 1;exact (List.map_congr_left (fun c _=>hz c)).trans (List.map_id _)
   |arr=>rfl
   |map=>rfl
  rw [hid]
  exact hheap k b hm
 ·intro k k' b b' g g' hk hk' hg hg' hgg
  rw [hσ k (cW (bO hk))] at hg
  rw [hσ k' (cW (bO hk'))] at hg'
  exact hinj k k' b b' g g' (bO hk) (bO hk') hg hg' hgg
 ·intro k b g hk hg
  rw [hσ k (cW (bO hk))] at hg
  exact .inr ⟨k,List.mem_map.2 ⟨(k,b),bO hk,rfl⟩,g,hg,rfl⟩
 ·intro k hk
  refine if_neg fun hkin=>?_
  obtain ⟨b,hb⟩:=gK hkin
  have:=List.all_eq_true.1 hin1 _ hb
  rw [Nat.blt_eq] at this
  have:k < n:=this
  have hk:n<=k:=hk
  omega
 ·intro k b hk
  have:=List.all_eq_true.1 hin1 _ (bO hk)
  rw [Nat.blt_eq] at this
  exact this
 ·simp;omega
 ·intro k g hl
  obtain ⟨k',hk',he⟩:=List.mem_map.1 (bO hl)
  injection he with e1 e2
  subst e1
  have hkin:=List.all_eq_true.1 hkeep k' hk'
  rw [hσ k' hkin]
  obtain ⟨g',hg'⟩:=hk k' hk'
  subst e2
  show σ k'=some ((σ k').getD ⟨0,0⟩)
  rw [hg'];rfl
end
section
variable {P:Program} {W0:World} {N:NT} {T0:Nat->Prop} {Q:Exit->aK->Prop} {s s':List (Nat×AV)} {h h':List (Nat×AB)} {n:Nat}
theorem xZ {a:Go.Act} {w:World} (k:Nat) (k0:Nat) {g0:bR} {F:Nat->Prop} (hF:∀ b,F b->g0.g=b) (hk0:br h' k0=true) (hk:br h k=true) (hs:dq (fun x=>∃ y,look s x.1=some y/\zj ⟨s,h,n⟩ k (br h') y x.2) s') (hh:dq (fun x=>look h x.1=some x.2) h') (hok:h'.all (fun x=>!Nat.beq x.1 k && x.2.ok (br h'))=true)
  (hI:Inv W0 F N T0 [(k0,g0)] ⟨s,h,n⟩ a w):Inv W0 F N T0 [(k0,g0)] ⟨s',h',n⟩ a w:=by
 obtain ⟨σ,T,hT,S,hp⟩:=hI
 obtain ⟨b0,hb0⟩:=kz hk
 have hh':∀ j b,look h' j=some b->look h j=some b/\j≠k/\b.ok (br h')=true:=fun j b hj=>by
  have h1:=List.all_eq_true.1 hok _ (bO hj)
  simp only [Bool.and_eq_true,Bool.not_eq_true'] at h1
  exact ⟨hh.mem _ (bO hj),(fun e=>by subst e;rw [Nat.beq_refl] at h1;exact absurd h1.1 (by simp)),h1.2⟩
 have C:=S.core.freeze (st':=⟨s',h',n⟩) k (fun i v hi=>hs.mem _ (bO hi)) hh' ⟨b0,hb0⟩
 have q1:∀ b,b < W0.heap.size->(fU σ T [k] b->T0 b)/\(T0 b->fU σ T [k] b):=fun b hb=>⟨fun hb'=>(hT b hb).1 hb'.1,fun h0=>⟨(hT b hb).2 h0,fun e he g hg hgb=>by
  rw [List.mem_singleton.1 he] at hg
  rcases S.own k b0 g hb0 hg with h1|h1
  ·omega
  ·obtain ⟨b1,hb1⟩:=kz hk0
   have hb2:=hh' k0 b1 hb1
   exact absurd (S.core.inj k0 k b1 b0 g0 g hb2.1 hb0 (hp k0 g0 (by rw [bS,if_pos rfl])) hg (hF _ h1)) hb2.2.1⟩⟩
 have q2:∀ j b g,look h' j=some b->(if br h' j=true then σ j else none)=some g->W0.heap.size<=g.g\/F g.g:=fun j b g hj hg=>by
  split at hg
  ·exact S.own j b g (hh' j b hj).1 hg
  ·cases hg
 have q3:∀ j,n<=j->(if br h' j=true then σ j else none)=none:=fun j hj=>by
  split
  ·exact S.next j hj
  ·rfl
 exact ⟨_,_,q1,⟨C,S.os,S.tape,S.output,S.size,S.cC,q2,q3,fun j b hj=>S.hn j b (hh' j b hj).1,S.ji,S.gU⟩,fun j g hj=>by
  show (if br h' j=true then σ j else none)=some g
  have h1:=hp j g hj
  rw [bS] at hj
  split at hj
  ·rename_i e;subst e;rw [if_pos hk0];exact h1
  ·cases hj⟩

theorem tx {c:Code} {F:Nat->Prop} {g0:bR} (hF:∀ b,F b->g0.g=b) (k:Nat) (hk0:br h' 0=true) (hk:br h k=true) (hs:dq (fun x=>∃ y,look s x.1=some y/\zj ⟨s,h,n⟩ k (br h') y x.2) s') (hh:dq (fun x=>look h x.1=some x.2) h') (hok:h'.all (fun x=>!Nat.beq x.1 k && x.2.ok (br h'))=true)
  (hn:AC P W0 F N T0 [(0,g0)] Q c ⟨s',h',n⟩):AC P W0 F N T0 [(0,g0)] Q c ⟨s,h,n⟩:=fun a w hI=>hn a w (xZ k 0 hF hk0 hk hs hh hok hI)
end
section
variable {P:Program} {W0:World} {F:Nat->Prop} {N:NT} {T0:Nat->Prop} {pin:List (Nat×bR)} {ops:Array Oper} {Q:Exit->aK->Prop}
theorem Hs {o:Oper} {rest:List Oper} {s:List (Nat×AV)} {h:List (Nat×AB)} {n d:Nat} {av av':AV} {nb:List (Nat×AB)} (hw:ak ops o ⟨s,h,n⟩) (g:aM P o ⟨s,h,n⟩ av nb []) (hf:Hq nb av av') (hd:o.dst=some d) (hN:Nat.blt d N.1=true) (hnb:nb.all (fun x=>Nat.ble n x.1)=true)
  (hr:AL P W0 F N T0 pin ops Q rest ⟨(d,av')::s,h,n⟩):AL P W0 F N T0 pin ops Q (o::rest) ⟨s,h,n⟩:=by
 rintro a w ⟨σ,T,hT,S,hp⟩
 refine wpList_step fun K hK=>?_
 rw [if_pos (hw σ T a w S.core)]
 refine nM (iN (g σ T a w S.core fun k b hk _=>S.next k (Nat.le_of_ble_eq_true (List.all_eq_true.1 hnb _ hk))) ?_)
 rintro a' w' ⟨u,σ',T',rfl,X,hv⟩
 have hfresh:∀ k b g,(k,b)∈nb->σ' k=some g->w.heap.size<=g.g:=fun k b g hk hg=>(X.fresh k b g hk hg).resolve_right (fun ⟨e,he,_⟩=>by cases he)
 have hlow:∀ b,(T' b/\b < w.heap.size)->T' b:=fun b h=>h.1
 have X2:Ext σ T w σ (fun b=>T' b/\b < w.heap.size) w' [] []:=⟨X.os,X.tape,X.output,⟨X.grow.size,X.grow.cC,(fun b ⟨k,hk,_⟩=>by cases hk),fun b hb h=>X.grow.lO b hb h.1,fun _ _ h=>h⟩,fun b h=>⟨X.mU b h,S.core.dZ b h⟩,fun b h=>X.dZ b h.1,fun _ _=>rfl,(fun _ _ h=>by cases h),(fun _ _ _ h=>by cases h),(fun _ _ _ _ _ _ h=>by cases h)⟩
 have hc:∀ c d u,Ar nb c d->cV σ' T' w' c u->cV σ (fun b=>T' b/\b < w.heap.size) w' d u:=by
  rintro c d u (⟨x,rfl,rfl⟩|⟨k,t,K,n,rows,rfl,rfl,hk,hn⟩) hu
  ·exact bo.fN hlow hu
  ·have hh:=X.rel k _ (bO hk)
   obtain ⟨hK,hh⟩:=hh
   rcases hu with ⟨h0,rfl⟩|⟨g,hg,rfl,hcap,hmax⟩
   ·subst h0
    have:rows=[]:=List.eq_nil_of_length_eq_zero hn
    subst this
    exact bo.nil _ _ _
   ·rcases hh with ⟨h1,h2⟩|⟨g',vs,h1,h2,h3,h4,h5,h6⟩
    ·rw [hg] at h2;cases h2
    ·rw [hg] at h1;injection h1 with h1;subst h1
     have hfr:=hfresh k _ g (bO hk) hg
     have:=bo.r (T:=fun b=>T' b/\b < w.heap.size) (w:=w') K rows g.g (0 * K) (g.c - 0) (fun i j=>(vs[i * K+j]?).getD undef) (X.dZ _ h2) (fun hb=>by have:=hb.2;omega) (by omega) (by omega) (fun i row hr=>(h6.2 i row hr).1) (fun i row j d hr hd=>?_) (fun i row j d hr hd=>?_)
     ·rw [hn] at this;exact this
     ·obtain ⟨u,hu,_⟩:=(h6.2 i row hr).2 j d hd
      rw [Nat.zero_mul,Nat.zero_add,cell_of_row w' g.g (i * K+j) _ _ (0,0) h3]
      simp only [List.getElem?_toArray,hu,Option.getD_some]
     ·obtain ⟨u,hu,hr'⟩:=(h6.2 i row hr).2 j d hd
      simp only [hu,Option.getD_some]
      exact hr'.fN hlow
 have hgv:∀ c d u,Aq nb c d->dk σ' T' w' c u->dk σ (fun b=>T' b/\b < w.heap.size) w' d u:=by
  intro c d u hcd hu
  match c,d,hcd with
  |.c c,.c d,hcd=>exact hc c d u hcd hu
  |.g cs,.g ds,hcd=>obtain ⟨vs,h1,h2⟩:=hu;exact ⟨vs,h1,cq.comp (fun x y z h1 h2=>hc x y z h1 h2) hcd h2⟩
 have hv2:eQ σ (fun b=>T' b/\b < w.heap.size) w' av' u:=by
  match av,av',hf with
  |.v c,.v d,hf=>exact hgv c d u hf hv
  |.t cs,.t ds,hf=>obtain ⟨vs,h1,h2⟩:=hv;exact ⟨vs,h1,cq.comp (fun x y z h1 h2=>hgv x y z h1 h2) hf h2⟩
 have hS:=S.step (nb:=[]) (E:=[]) (dst:=o.dst) (fun _ h=>by cases h) (fun d' h'=>by rw [hd] at h';injection h' with h';subst h';rw [Nat.blt_eq] at hN;exact hN) X2 hv2
 rw [add_nil,hd] at hS
 rw [hd]
 exact hK _ _ (hr _ _ ⟨σ,_,fun b hb=>⟨fun hb'=>(hT b hb).1 (X.grow.lO b (Nat.lt_of_lt_of_le hb S.size) hb'.1),fun h0=>⟨X.mU b ((hT b hb).2 h0),Nat.lt_of_lt_of_le hb S.size⟩⟩,hS,hp⟩)
end
end
section
def mY (a:Answer):Value:=.agg #[.int .i64 a.err,.int .i64 a.bc]
def tV (ps:List (Int×Answer)):List (Int×Value):=ps.map fun p=>(p.1,mY p.2)
def jj:List (Int×Answer)->Int->Option Answer
 |[],_=>none
 |(k,v)::l,a=>if k=a then some v else jj l a
def oV:List (Int×Answer)->Int->Answer->List (Int×Answer)
 |[],a,v=>[(a,v)]
 |(k,u)::l,a,v=>if k=a then (a,v)::l else (k,u)::oV l a v
theorem pM {a:Int}:∀ {ps:List (Int×Answer)} {ms:List MapEntry} (i:Nat),ms.map (fun e=>(e.key,e.val))=(tV ps).map (fun e=>(Value.int .i64 e.1,e.2))->
  (∃ j v,Instr.findNow (.int .i64) (.int .i64 a) ms i=some (some (i+j,mY v))/\jj ps a=some v/\(∃ e,ms[j]?=some e/\e.key=.int .i64 a)/\∀ u,tV (oV ps a u)=(tV ps).set j (a,mY u))\/
  (Instr.findNow (.int .i64) (.int .i64 a) ms i=some none/\jj ps a=none/\∀ u,oV ps a u=ps++[(a,u)])
 |[],[],i,_=>.inr ⟨rfl,rfl,fun _=>rfl⟩
 |[],_::_,_,h=>by cases h
 |_::_,[],_,h=>by cases h
 |(k,v)::ps,e::ms,i,h=>by
  obtain ⟨h1,h2⟩:=List.cons.inj h
  injection h1 with h3 h4
  unfold Instr.findNow jj oV
  rw [h3,h4]
  by_cases hk:k=a
  ·subst hk
   exact .inl ⟨0,v,by simp [Instr.sameNow],by simp,⟨e,rfl,h3⟩,fun u=>by simp [tV]⟩
  ·have hk':(a==k)=false:=beq_eq_false_iff_ne.2 fun e=>hk e.symm
   rcases pM (ps:=ps) (ms:=ms) (a:=a) (i+1) h2 with ⟨j,w,h5,h6,⟨e',h7,h8⟩,h9⟩|⟨h5,h6,h7⟩
   ·refine .inl ⟨j+1,w,?_,by simp [hk,h6],⟨e',by simpa using h7,h8⟩,fun u=>?_⟩
    ·simp only [Instr.sameNow,hk',h5]
     simp [show i+1+j=i+(j+1) by omega]
    ·rw [if_neg hk]
     have:=h9 u
     simp only [tV] at this ⊢
     simp [this]
   ·exact .inr ⟨by simp [Instr.sameNow,hk',h5],by simp [hk,h6],fun u=>by rw [if_neg hk,h7];rfl⟩
section
variable {P:Program} {st:aK} {o:Oper}
theorem BK {t kt et:TypeId} {m x:Operand} {k cl:Nat} {a:Int} {ps:List (Int×Answer)} (hu:P.underlying t=some (.map kt et)) (hkt:P.underlying kt=some (.int .i64)) (hz:(P.info? et).bind (fun i=>i.zero)=some (.agg #[.int .i64 0,.int .i64 0])) (ho:o.op=.lookup t m x true)
  (hm:ev st m (.v (.c (.m k)))) (hx:ev st x (.v (.c (.d (.v (.int .i64 a)))))) (hb:look st.h k=some (.map (tV ps) cl)):
  aM P o st (.t [.g [cI ((jj ps a).getD ⟨0,0⟩).err,cI ((jj ps a).getD ⟨0,0⟩).bc],.c (cB (jj ps a).isSome)]) [] []:=
 aM.val fun σ T ac w C=>by
  obtain ⟨g,h1,h2⟩:=bM C hm
  have h3:=bo.inv (bM C hx)
  obtain ⟨g',ms,e1,e2,e3,e4⟩:=C.heap k _ hb
  rw [h1] at e1;injection e1 with e1;subst e1
  refine ⟨.tuple #[mY ((jj ps a).getD ⟨0,0⟩),.bool (jj ps a).isSome],?_,⟨_,rfl,⟨_,rfl,bo.v _ rfl,bo.v _ rfl,trivial⟩,bo.v _ rfl,trivial⟩⟩
  cases hq:P.info? et with
  |none=>simp [hq] at hz
  |some i=>
   have hzz:i.zero=some (.agg #[.int .i64 0,.int .i64 0]):=by simpa [hq] using hz
   unfold execOp
   rcases pM (a:=a) 0 e4 with ⟨j,v,hf,hg,_⟩|⟨hf,hg,_⟩
   ·simp [ho,h2,h3,hg,Instr.lookup,run_underlying hu,MapKept.run_getObj_map e3,MapKept.run_checkKey hkt (show MapKept.IsKey (.int .i64) (.int .i64 a) from rfl),MapKept.run_findKey hkt hf,Result.andThen]
   ·simp [ho,h2,h3,hg,Instr.lookup,run_underlying hu,MapKept.run_getObj_map e3,MapKept.run_checkKey hkt (show MapKept.IsKey (.int .i64) (.int .i64 a) from rfl),MapKept.run_findKey hkt hf,Result.andThen,zeroValue,typeInfo,hq,hzz,mY]
theorem BI {t kt et:TypeId} {m x y:Operand} {k cl:Nat} {a e u:Int} {ps:List (Int×Answer)} (hu:P.underlying t=some (.map kt et)) (hkt:P.underlying kt=some (.int .i64)) (ho:o.op=.mapUpdate t m x y)
  (hm:ev st m (.v (.c (.m k)))) (hx:ev st x (.v (.c (.d (.v (.int .i64 a)))))) (hy:ev st y (.v (.g [cI e,cI u]))) (hb:look st.h k=some (.map (tV ps) cl)):
  aM P o st (.v (.c .any)) [(k,.map (tV (oV ps a ⟨e,u⟩)) (if (jj ps a).isSome then cl else cl+1))] [k]:=by
 intro σ T ac w C _
 obtain ⟨g,h1,h2⟩:=bM C hm
 have h3:=bo.inv (bM C hx)
 obtain ⟨vs,h4,h5⟩:=bM C hy
 have h4:ac.eval y=mY ⟨e,u⟩:=by
  match vs,h5 with
  |[v1,v2],h5=>rw [h4,bo.inv h5.1,bo.inv h5.2.1];rfl
 obtain ⟨g',ms,e1,e2,e3,e4⟩:=C.heap k _ hb
 rw [h1] at e1;injection e1 with e1;subst e1
 have hlt:=(Array.getElem?_eq_some_iff.1 e3).1
 rcases pM (a:=a) 0 e4 with ⟨j,v,hf,hg,⟨e0,hj,hk⟩,hp⟩|⟨hf,hg,hp⟩
 ·rw [Nat.zero_add] at hf
  have hj':ms[j]?=some e0:=by simpa using hj
  refine nL (w':={w with heap:=w.heap.setIfInBounds g.g (.map (ms.modify j fun e'=>{e' with key:=.int .i64 a,val:=mY ⟨e,u⟩}) cl)}) ?_ ⟨undef,σ,T,rfl,Ext.write C hb h1 rfl rfl rfl (by simp) (fun i hi=>(MapKept.heap_set e3).2 i hi) fun G=>?_,trivial⟩
  ·unfold execOp
   simp [ho,h2,h3,h4,Instr.mapUpdate,Sem.run_bind,run_underlying hu,Result.andThen_ok,MapKept.run_getObj_map e3,MapKept.run_checkKey hkt (show MapKept.IsKey (.int .i64) (.int .i64 a) from rfl),MapKept.run_findKey hkt hf,hj',hk,MapKept.run_keyThatStays (show MapKept.IsKey (.int .i64) (.int .i64 a) from rfl),MapKept.run_setObj_map _ e3]
  ·refine ⟨g,(ms.modify j fun e'=>{e' with key:=.int .i64 a,val:=mY ⟨e,u⟩}),rfl,e2,?_,?_⟩
   ·rw [hg];exact (MapKept.heap_set e3).1
   ·rw [hp,List.map_set,<-e4]
    refine List.ext_getElem? fun q=>?_
    rw [List.getElem?_map,Array.getElem?_toList,Array.getElem?_modify,List.getElem?_set,List.getElem?_map,Array.getElem?_toList]
    by_cases hq:j=q
    ·subst hq
     have hjl:=(Array.getElem?_eq_some_iff.1 hj').1
     simp [hj',hjl]
    ·simp [hq]
 ·refine nL (w':={w with heap:=w.heap.setIfInBounds g.g (.map (ms.push {key:=.int .i64 a,val:=mY ⟨e,u⟩,born:=cl}) (cl+1))}) ?_ ⟨undef,σ,T,rfl,Ext.write C hb h1 rfl rfl rfl (by simp) (fun i hi=>(MapKept.heap_set e3).2 i hi) fun G=>?_,trivial⟩
  ·unfold execOp
   simp only [ho,h2,h3,h4,Instr.mapUpdate,Sem.run_bind,run_underlying hu,Result.andThen_ok,MapKept.run_getObj_map e3,MapKept.run_checkKey hkt (show MapKept.IsKey (.int .i64) (.int .i64 a) from rfl),MapKept.run_findKey hkt hf,MapKept.run_setObj_map _ e3]
   rfl
  ·refine ⟨g,(ms.push {key:=.int .i64 a,val:=mY ⟨e,u⟩,born:=cl}),rfl,e2,?_,?_⟩
   ·rw [hg];exact (MapKept.heap_set e3).1
   ·rw [hp,Array.toList_push,List.map_append,e4]
    simp [tV]
theorem zT {t:TypeId} (k:Nat) (ho:o.op=.makeMap t none):aM P o st (.v (.c (.m k))) [(k,.map (tV []) 0)] []:=BJ k ho
end
end
section
def dC {α:Type} (p:α->Bool) (l:List α):List α:=l.filter fun x=>!p x
def im {α:Type} (p:α->Bool) (l:List α):Int:=
 match l.findIdx? p with
 |some i=>i
 |none=>-1
variable {α:Type} {p:α->Bool} {l c:List α} {i j q:Nat} {x:α}
theorem oh (h:l[j]?=some x):dC p (l.take (j+1))=dC p (l.take j)++if p x then [] else [x]:=by
 rw [ia h,dC,dC,List.filter_append]
 cases hp:p x<;>simp [hp]
theorem pC (p:α->Bool) (l:List α):(dC p l).length<=l.length:=List.length_filter_le _ _
theorem uW (h:(l.take q).all (fun y=>!p y)=true) (hx:l[q]?=some x) (hp:p x=true):im p l=q:=by
 unfold im
 have hq:=(List.getElem?_eq_some_iff.1 hx).1
 have:l.findIdx? p=some q:=by
  rw [List.findIdx?_eq_some_iff_getElem]
  refine ⟨hq,?_,fun r hr=>?_⟩
  ·have:=(List.getElem?_eq_some_iff.1 hx).2;rw [this];exact hp
  ·rw [List.all_eq_true] at h
   have hm:l[r]'(by omega)∈l.take q:=by
    rw [List.mem_iff_getElem]
    exact ⟨r,by rw [List.length_take];omega,by simp⟩
   have:=h _ hm
   simpa using this
 rw [this]
theorem wQ (h:l.all (fun y=>!p y)=true):im p l=-1:=by
 unfold im
 have:l.findIdx? p=none:=by
  rw [List.findIdx?_eq_none_iff]
  intro y hy
  have:=List.all_eq_true.1 h y hy
  simpa using this
 rw [this]
theorem xH (h:(l.take q).all (fun y=>!p y)=true) (hx:l[q]?=some x) (hp:p x=false):(l.take (q+1)).all (fun y=>!p y)=true:=zf h hx (by simp [hp])
theorem uX (p:α->Bool) (l:List α):(im p l=-1/\dC p l=l)\/∃ i:Nat,im p l=i/\i < l.length/\∃ x,l[i]?=some x/\p x=true/\dC p (l.take i)=l.take i:=by
 unfold im
 cases h:l.findIdx? p with
 |none=>
  refine .inl ⟨rfl,?_⟩
  rw [List.findIdx?_eq_none_iff] at h
  exact List.filter_eq_self.2 fun y hy=>by simp [h y hy]
 |some i=>
  rw [List.findIdx?_eq_some_iff_getElem] at h
  obtain ⟨h1,h2,h3⟩:=h
  refine .inr ⟨i,rfl,h1,l[i],List.getElem?_eq_getElem h1,h2,?_⟩
  refine List.filter_eq_self.2 fun y hy=>?_
  obtain ⟨r,hr,rfl⟩:=List.mem_iff_getElem.1 hy
  rw [List.length_take] at hr
  have:=h3 r (by omega)
  simp [this]
structure lP (p:α->Bool) (l c:List α) (i j:Nat):Prop where
 len:c.length=l.length
 ij:i < j
 jl:j<=l.length
 pre:c.take i=dC p (l.take j)
 post:c.drop j=l.drop j
theorem lP.get (h:lP p l c i j) (hx:c[j]?=some x):l[j]?=some x:=by
 have h1:(c.drop j)[0]?=(l.drop j)[0]?:=by rw [h.post]
 simpa [hx] using h1.symm
theorem lP.skip (h:lP p l c i j) (hx:c[j]?=some x) (hp:p x=true):lP p l c i (j+1):=by
 have hl:=h.get hx
 have hj:=(List.getElem?_eq_some_iff.1 hl).1
 refine ⟨h.len,Nat.lt_succ_of_lt h.ij,hj,?_,?_⟩
 ·rw [oh hl,hp,h.pre];simp
 ·rw [<-List.drop_drop,<-List.drop_drop,h.post]
theorem lP.cK (h:lP p l c i j) (hx:c[j]?=some x) (hp:p x=false):lP p l (c.set i x) (i+1) (j+1):=by
 have hl:=h.get hx
 have hj:=(List.getElem?_eq_some_iff.1 hl).1
 have hi:i < c.length:=by have:=h.ij;rw [h.len];omega
 refine ⟨by rw [List.length_set];exact h.len,Nat.succ_lt_succ h.ij,hj,?_,?_⟩
 ·rw [oh hl,hp,<-h.pre]
  rw [List.take_succ_eq_append_getElem (by rw [List.length_set];exact hi)]
  simp [List.take_set_of_le]
 ·rw [List.drop_set_of_lt (by have:=h.ij;omega),<-List.drop_drop,<-List.drop_drop,h.post]
theorem lP.start {i:Nat} (hx:l[i]?=some x) (hp:p x=true) (hk:dC p (l.take i)=l.take i):lP p l l i (i+1):=by
 have hi:=(List.getElem?_eq_some_iff.1 hx).1
 refine ⟨rfl,Nat.lt_succ_self i,hi,?_,rfl⟩
 rw [oh hx,hp,hk];simp
theorem lP.done (h:lP p l c i j) (hj:l.length<=j):c.take i=dC p l:=by
 rw [h.pre,List.take_of_length_le hj]
end
section
section
variable {α:Type} [DecidableEq α] {a b:List α}
end
end
section
def lj (a b c:Int):Int:=if a < 1\/a > 1000000\/b < 0\/b > 30\/c < 0\/c > 1000000000000 then 3 else 0
def scan (e:Nat->Int) (q:Nat):Nat->Int×Int
 |0=>(0,0)
 |k+1=>if e q≠0 then (e q,(q:Int)) else scan e (q+1) k
theorem nw {e:Nat->Int} {q n:Nat} (hq:q < n) (h:e q=0):scan e q (n - q)=scan e (q+1) (n - (q+1)):=by
 rw [show n - q=(n - (q+1))+1 by omega,scan,if_neg (by simp [h])]
theorem iJ {e:Nat->Int} {q n:Nat} (hq:q < n) {c:Int} (h:e q=c) (hc:c≠0):scan e q (n - q)=(c,(q:Int)):=by
 rw [show n - q=(n - (q+1))+1 by omega,scan,if_pos (by rw [h];exact hc),h]
theorem nU {e:Nat->Int} {q n:Nat} (hq:¬q < n):scan e q (n - q)=(0,0):=by rw [show n - q=0 by omega];rfl
theorem nV {e:Nat->Int}:∀ (n q:Nat),(scan e q n).1=0↔∀ i,q<=i->i < q+n->e i=0
 |0,q=>by simp [scan];intro i h1 h2;omega
 |n+1,q=>by
  rw [scan]
  split
  ·rename_i h;exact ⟨fun h'=>absurd h' h,fun h'=>absurd (h' q (Nat.le_refl _) (by omega)) h⟩
  ·rename_i h
   rw [nV n (q+1)]
   constructor
   ·intro h' i h1 h2
    by_cases hi:i=q
    ·subst hi;omega
    ·exact h' i (by omega) (by omega)
   ·exact fun h' i h1 h2=>h' i (by omega) (by omega)
def jD (l:List db) (q:Nat):Int:=
 match l[q]? with
 |some u=>if u.time < 0\/u.time > 1000000\/u.sum < 0\/u.sum > 1000000 then 3 else if 0 < q/\(l.getD (q - 1) ⟨0,0⟩).time > u.time then 2 else 0
 |none=>0
def cO (l:List db):Int×Int:=if l.length > 30 then (5,0) else scan (jD l) 0 l.length
def fA (p:dw):Int:=lj p.cU p.count p.sum
def fx (l:List db):dc:=⟨(cO l).1,(cO l).2⟩
def cC (p:dw) (t:Int) (u:db):Bool:=decide (u.time<=t - p.cU)
def dM (p:dw) (l:List db) (t:Int):List db:=dC (cC p t) l
def ib:List db->Int
 |[]=>0
 |u::l=>u.sum+ib l
def gQ (l:List db) (t:Int):Bool:=match l.getLast? with
 |some u=>decide (u.time > t)
 |none=>false
def ez (p:dw) (l:List db) (x:db):List db×Int:=
 if fA p≠0 then ([],fA p)
 else if (fx l).err≠0 then ([],(fx l).err)
 else if (fx [x]).err≠0 then ([],(fx [x]).err)
 else if gQ l x.time=true then ([],2)
 else if p.count < ((dM p l x.time).length:Int)+1\/p.sum < ib (dM p l x.time)+x.sum then ([],11)
 else (dM p l x.time++[x],0)
theorem ph {p:dw} (h:fA p=0):1<=p.cU/\p.cU<=1000000/\0<=p.count/\p.count<=30/\0<=p.sum/\p.sum<=1000000000000:=by
 unfold fA lj at h
 split at h
 ·cases h
 ·omega
theorem rk {l:List db}:(fx l).err=0↔l.length<=30/\∀ i,i < l.length->jD l i=0:=by
 unfold fx cO
 dsimp only
 split
 ·constructor
  ·intro h;cases h
  ·intro h;omega
 ·rw [nV]
  constructor
  ·exact fun h=>⟨by omega,fun i hi=>h i (Nat.zero_le _) (by omega)⟩
  ·exact fun h i _ hi=>h.2 i (by omega)
theorem rm {l:List db} {q:Nat} {u:db} (h:l[q]?=some u):jD l q=0↔(0<=u.time/\u.time<=1000000/\0<=u.sum/\u.sum<=1000000)/\∀ v,0 < q->l[q - 1]?=some v->v.time<=u.time:=by
 unfold jD
 rw [h]
 dsimp only
 have hq:=(List.getElem?_eq_some_iff.1 h).1
 split
 ·constructor
  ·intro h;cases h
  ·intro h;omega
 ·split
  ·rename_i h1 h2
   constructor
   ·intro h;cases h
   ·intro h3
    have hv:l[q - 1]?=some l[q - 1]:=List.getElem?_eq_getElem (by omega)
    have:=h3.2 _ h2.1 hv
    rw [List.getD_eq_getElem?_getD,hv] at h2
    simp only [Option.getD_some] at h2
    omega
  ·rename_i h1 h2
   refine ⟨fun _=>⟨by omega,fun v h3 h4=>?_⟩,fun _=>rfl⟩
   rw [List.getD_eq_getElem?_getD,h4] at h2
   simp only [Option.getD_some] at h2
   omega
theorem ko {l:List db} (h:(fx l).err=0):l.length<=30/\∀ u∈l,0<=u.time/\u.time<=1000000/\0<=u.sum/\u.sum<=1000000:=by
 obtain ⟨h1,h2⟩:=rk.1 h
 refine ⟨h1,fun u hu=>?_⟩
 obtain ⟨i,hi⟩:=List.getElem?_of_mem hu
 exact ((rm hi).1 (h2 i (List.getElem?_eq_some_iff.1 hi).1)).1
theorem lp (l:List db) (u:db):ib (l++[u])=ib l+u.sum:=by
 induction l with
 |nil=>simp [ib]
 |cons x l ih=>simp only [List.cons_append,ib,ih];omega
theorem zp {l:List db} (h:∀ u∈l,0<=u.time/\u.time<=1000000/\0<=u.sum/\u.sum<=1000000):0<=ib l/\ib l<=1000000 * l.length:=by
 induction l with
 |nil=>simp [ib]
 |cons x l ih=>
  have h1:=ih fun u hu=>h u (List.mem_cons_of_mem _ hu)
  have h2:=h x List.mem_cons_self
  simp only [ib,List.length_cons]
  omega
theorem kP {α:Type} {p:α->Bool} {l:List α} {x:α} (h:x∈dC p l):x∈l:=(List.mem_filter.1 h).1
theorem qC {p:dw} {l:List db} {t:Int} {k:Nat} (h:(fx l).err=0):0<=ib ((dM p l t).take k)/\ib ((dM p l t).take k)<=30000000:=by
 obtain ⟨h1,h2⟩:=ko h
 have h3:=zp (l:=(dM p l t).take k) fun u hu=>h2 u (kP (List.mem_of_mem_take hu))
 have h4:=pC (cC p t) l
 have h5:((dM p l t).take k).length<=(dM p l t).length:=by rw [List.length_take];exact Nat.min_le_right _ _
 have h6:(dM p l t).length<=30:=Nat.le_trans h4 h1
 omega
theorem Gk {α:Type} {a b x:α} {q:Nat} (h:[a,b][q]?=some x):(q=0/\x=a)\/(q=1/\x=b):=by
 match q with
 |0=>left;simp_all
 |1=>right;simp_all
 |q+2=>simp at h
theorem nC {l:List db} {t:Int} {u:db} (h:l[l.length - 1]?=some u):gQ l t=decide (u.time > t):=by
 unfold gQ
 rw [List.getLast?_eq_getElem?,h]
end
section
end
section
theorem Cq {p:dw} {l r:List db} {x:db} (h:ez p l x=(r,0)):fA p=0/\(fx l).err=0/\(fx [x]).err=0/\gQ l x.time=false/\((dM p l x.time).length:Int)+1<=p.count/\ib (dM p l x.time)+x.sum<=p.sum/\r=dM p l x.time++[x]:=by
 unfold ez at h
 split at h
 ·rename_i h1;simp only [Prod.mk.injEq] at h;exact absurd h.2 h1
 split at h
 ·rename_i h1;simp only [Prod.mk.injEq] at h;exact absurd h.2 h1
 split at h
 ·rename_i h1;simp only [Prod.mk.injEq] at h;exact absurd h.2 h1
 split at h
 ·simp at h
 split at h
 ·simp at h
 ·rename_i h1 h2 h3 h4 h5
  simp only [Prod.mk.injEq] at h
  exact ⟨by omega,by omega,by omega,by simpa using h4,by omega,by omega,h.1.symm⟩
structure Kept (p:dw) (all kept:List db):Prop where
 times:∀ u∈all,∀ v,all.getLast?=some v->u.time<=v.time
 last:kept.getLast?=all.getLast?
 ID:∀ t,(∀ v,all.getLast?=some v->v.time<=t)->dM p kept t=dM p all t
 en:∀ i u,all[i]?=some u->((dM p (all.take (i+1)) u.time).length:Int)<=p.count/\ib (dM p (all.take (i+1)) u.time)<=p.sum
 bound:∀ u∈all,0<=u.time/\u.time<=1000000/\0<=u.sum/\u.sum<=1000000
theorem Kept.nil (p:dw):Kept p [] []:=⟨fun u h=>by simp at h,rfl,fun _ _=>rfl,fun i u h=>by simp at h,fun u h=>by simp at h⟩
theorem pB (p:db->Bool) (l:List db) (x:db):dC p (l++[x])=dC p l++if p x then [] else [x]:=by
 rw [dC,dC,List.filter_append]
 cases hp:p x<;>simp [hp]
theorem Kept.add {p:dw} {all kept r:List db} {x:db} (h:Kept p all kept) (ha:ez p kept x=(r,0)):Kept p (all++[x]) r:=by
 obtain ⟨h1,h2,h3,h4,h5,h6,rfl⟩:=Cq ha
 have hp:=ph h1
 have hl:∀ v,all.getLast?=some v->v.time<=x.time:=fun v hv=>by
  unfold gQ at h4
  rw [h.last,hv] at h4
  simpa using h4
 have hx:=(ko h3).2 x (by simp)
 have hrec:dM p kept x.time=dM p all x.time:=h.ID _ hl
 have hold:∀ t,cC p t x=false\/t - p.cU>=x.time:=fun t=>by unfold cC;by_cases h:x.time<=t - p.cU<;>simp [h]
 have hx0:cC p x.time x=false:=by unfold cC;simp;omega
 refine ⟨fun u hu v hv=>?_,by simp,fun t ht=>?_,fun i u hi=>?_,fun u hu=>?_⟩
 ·have hv':v=x:=by simpa using hv.symm
  subst hv'
  rcases List.mem_append.1 hu with hu|hu
  ·cases hg:all.getLast? with
   |none=>rw [List.getLast?_eq_none_iff] at hg;subst hg;simp at hu
   |some w=>have:=h.times u hu w hg;have:=hl w hg;omega
  ·have:u=v:=by simpa using hu
   subst this;omega
 ·have htx:x.time<=t:=ht x (by simp)
  unfold dM
  rw [pB,pB]
  congr 1
  show dC (cC p t) (dM p kept x.time)=dC (cC p t) all
  rw [hrec]
  unfold dM dC
  rw [List.filter_filter]
  apply List.filter_congr
  intro u _
  unfold cC
  by_cases h1:u.time<=t - p.cU
  ·simp [h1]
  ·have:¬u.time<=x.time - p.cU:=by omega
   simp [h1,this]
 ·by_cases hi':i < all.length
  ·rw [List.getElem?_append_left hi'] at hi
   rw [List.take_append_of_le_length (by omega)]
   exact h.en i u hi
  ·have hlt:=(List.getElem?_eq_some_iff.1 hi).1
   simp at hlt
   obtain rfl:i=all.length:=by omega
   have hux:u=x:=by simpa using hi.symm
   subst hux
   rw [List.take_of_length_le (by simp)]
   unfold dM at *
   rw [pB,hx0,<-hrec]
   simp only [Bool.false_eq_true,if_false,List.length_append,List.length_singleton,lp]
   omega
 ·rcases List.mem_append.1 hu with hu|hu
  ·exact h.bound u hu
  ·have:u=x:=by simpa using hu
   subst this;exact hx
end
section
def cA (c:bE):Int:=
 if c.bx < -1000000000000\/c.bx > 1000000000000\/c.held < 0\/c.held > 1000000000000 then 3 else if fA c.ch≠0 then fA c.ch else (fx c.cO).err
def px:bE:=⟨0,0,⟨0,0,0⟩,[]⟩
def dO (c:bE) (n time:Int):bE×Int:=
 if cA c≠0 then (px,cA c)
 else if n < 1\/n > 1000000\/time < 0\/time > 1000000 then (px,3)
 else if c.held+n > c.bx then (px,10)
 else if (ez c.ch c.cO ⟨time,n⟩).2≠0 then (px,(ez c.ch c.cO ⟨time,n⟩).2)
 else (⟨c.bx,c.held+n,c.ch,(ez c.ch c.cO ⟨time,n⟩).1⟩,0)
def fe (c:bE) (n:Int):bE×Int:=
 if cA c≠0 then (px,cA c)
 else if n < 1\/n > 1000000\/c.held+n > 1000000000000 then (px,3)
 else (⟨c.bx,c.held+n,c.ch,c.cO⟩,0)
def ec (c:bE) (held bx:Int):bE×Int:=
 if cA c≠0 then (px,cA c)
 else if held < -1000000000000\/held > 1000000000000\/bx < -1000000000000\/bx > 1000000000000 then (px,3)
 else if cA ⟨c.bx+bx,c.held+held,c.ch,c.cO⟩≠0 then (px,10)
 else (⟨c.bx+bx,c.held+held,c.ch,c.cO⟩,0)
theorem gO {c:bE} (h:cA c=0):-1000000000000<=c.bx/\c.bx<=1000000000000/\0<=c.held/\c.held<=1000000000000/\fA c.ch=0/\(fx c.cO).err=0:=by
 unfold cA at h
 split at h
 ·cases h
 ·split at h
  ·omega
  ·omega
theorem qf {c:bE} (h:-1000000000000<=c.bx/\c.bx<=1000000000000/\0<=c.held/\c.held<=1000000000000) (h1:fA c.ch=0) (h2:(fx c.cO).err=0):cA c=0:=by
 unfold cA
 rw [if_neg (by omega),if_neg (by omega),h2]
theorem nX {c:bE} (h:cA c=0):c.cO.length<=30:=(ko (gO h).2.2.2.2.2).1
theorem rp {c x:bE} {a m e:Int} (h:ec c a m=(x,e)):(e≠0/\x=px/\(e=3->cA c=0->(a < -1000000000000\/a > 1000000000000\/m < -1000000000000\/m > 1000000000000)))\/(e=0/\cA c=0/\-1000000000000<=a/\a<=1000000000000/\-1000000000000<=m/\m<=1000000000000/\x=⟨c.bx+m,c.held+a,c.ch,c.cO⟩/\cA x=0):=by
 unfold ec at h
 split at h
 ·rename_i h1;simp only [Prod.mk.injEq] at h;exact .inl ⟨h.2▸h1,h.1.symm,fun _ h3=>absurd h3 h1⟩
 split at h
 ·rename_i h1;simp only [Prod.mk.injEq] at h;exact .inl ⟨by omega,h.1.symm,fun _ _=>h1⟩
 split at h
 ·simp only [Prod.mk.injEq] at h;exact .inl ⟨by omega,h.1.symm,fun h3=>by omega⟩
 ·rename_i h1 h2 h3
  simp only [Prod.mk.injEq] at h
  obtain ⟨rfl,rfl⟩:=h
  exact .inr ⟨rfl,by omega,by omega,by omega,by omega,by omega,rfl,by omega⟩
theorem rT {c x:bE} {n t e:Int} (h:dO c n t=(x,e)):(e≠0/\x=px/\(e=10->cA c=0->c.held+n > c.bx\/(ez c.ch c.cO ⟨t,n⟩).2=10))\/(e=0/\cA c=0/\1<=n/\n<=1000000/\0<=t/\t<=1000000/\c.held+n<=c.bx/\∃ l,ez c.ch c.cO ⟨t,n⟩=(l,0)/\x=⟨c.bx,c.held+n,c.ch,l⟩):=by
 unfold dO at h
 split at h
 ·rename_i h1;simp only [Prod.mk.injEq] at h;exact .inl ⟨h.2▸h1,h.1.symm,fun _ h3=>absurd h3 h1⟩
 split at h
 ·simp only [Prod.mk.injEq] at h;exact .inl ⟨by omega,h.1.symm,fun h3=>by omega⟩
 split at h
 ·rename_i h1;simp only [Prod.mk.injEq] at h;exact .inl ⟨by omega,h.1.symm,fun _ _=>.inl h1⟩
 split at h
 ·rename_i h1;simp only [Prod.mk.injEq] at h;exact .inl ⟨h.2▸h1,h.1.symm,fun h3 _=>.inr (h.2.trans h3)⟩
 ·rename_i h1 h2 h3 h4
  simp only [Prod.mk.injEq] at h
  refine .inr ⟨h.2.symm,by omega,by omega,by omega,by omega,by omega,by omega,_,Prod.ext rfl (by simpa using h4),h.1.symm⟩
end
section
end
section
theorem tz {l:List db}:(fx l).err=0↔l.length<=30/\(∀ u∈l,0<=u.time/\u.time<=1000000/\0<=u.sum/\u.sum<=1000000)/\l.Pairwise fun a b=>a.time<=b.time:=by
 constructor
 ·intro h
  obtain ⟨h1,h2⟩:=rk.1 h
  refine ⟨h1,(ko h).2,?_⟩
  rw [List.pairwise_iff_getElem]
  have step:∀ i (hi:i+1 < l.length),l[i].time<=l[i+1].time:=fun i hi=>by
   have h3:=((rm (List.getElem?_eq_getElem hi)).1 (h2 (i+1) hi)).2 l[i] (by omega) (List.getElem?_eq_getElem (by omega))
   exact h3
  intro i j hi hj hij
  obtain ⟨k,rfl⟩:∃ k,j=i+1+k:=⟨j - i - 1,by omega⟩
  clear hij
  induction k with
  |zero=>exact step i hj
  |succ k ih=>
   have h4:=ih (by omega)
   have h5:=step (i+1+k) hj
   exact Int.le_trans h4 h5
 ·rintro ⟨h1,h2,h3⟩
  refine rk.2 ⟨h1,fun i hi=>?_⟩
  refine (rm (List.getElem?_eq_getElem hi)).2 ⟨h2 _ (List.getElem_mem hi),fun v h0 hv=>?_⟩
  rw [List.pairwise_iff_getElem] at h3
  obtain ⟨h5,rfl⟩:=List.getElem?_eq_some_iff.1 hv
  exact h3 (i - 1) i h5 hi (by omega)
theorem Cp {p:dw} {l r:List db} {x:db} (h:ez p l x=(r,0)):(fx r).err=0:=by
 obtain ⟨h1,h2,h3,h4,h5,h6,rfl⟩:=Cq h
 have hp:=ph h1
 obtain ⟨h7,h8,h9⟩:=tz.1 h2
 have hx:=(ko h3).2 x (by simp)
 refine tz.2 ⟨by rw [List.length_append,List.length_singleton];omega,fun u hu=>?_,?_⟩
 ·rcases List.mem_append.1 hu with hu|hu
  ·exact h8 u (kP hu)
  ·have:u=x:=by simpa using hu
   subst this;exact hx
 ·rw [List.pairwise_append]
  refine ⟨List.Pairwise.filter _ h9,by simp,fun u hu v hv=>?_⟩
  have:v=x:=by simpa using hv
  subst this
  have hu':=kP hu
  have hne:l≠[]:=by intro e;subst e;simp at hu'
  have hlast:(l.getLast hne).time<=v.time:=by
   unfold gQ at h4
   rw [List.getLast?_eq_some_getLast hne] at h4
   simpa using h4
  refine Int.le_trans ?_ hlast
  obtain ⟨i,hi,rfl⟩:=List.mem_iff_getElem.1 hu'
  rw [List.getLast_eq_getElem]
  by_cases e:i=l.length - 1
  ·subst e;exact Int.le_refl _
  ·rw [List.pairwise_iff_getElem] at h9
   exact h9 i (l.length - 1) hi (by omega) (by omega)
end
section

end
section
def mZ (s:bX) (q:Nat):Int:=
 match s.kept[q]? with
 |some t=>if t.kind < 1\/t.kind > 3 then 1 else if t.bc < 0\/t.bc > 29\/t.sum < 1\/t.sum > 1000000 then 3 else if t.number≠s.bL - s.kept.length+1+q then 2 else 0
 |none=>0
def kh (s:bX):Int×Int:=
 if s.kept.length > 40 then (5,0) else if s.bL < s.kept.length\/s.bL > 1000000 then (3,0) else scan (mZ s) 0 s.kept.length
def ct (s:bX):dc:=⟨(kh s).1,(kh s).2⟩
def yH:bX:=⟨0,[]⟩
def mm (s:bX) (t:aT):bX:=⟨s.bL+1,s.kept++[⟨s.bL+1,t.kind,t.bc,t.sum⟩]⟩
def fL (s:bX) (t:aT):bX×Int:=
 if (ct s).err≠0 then (yH,(ct s).err)
 else if (ct (mm s t)).err≠0 then (yH,(ct (mm s t)).err) else (mm s t,0)
def came (seen:Int) (t:aT):Bool:=decide (t.number<=seen)
def dT (s:bX) (seen:Int):bX×Int:=
 if (ct s).err≠0 then (yH,(ct s).err)
 else if seen < 0\/seen > s.bL then (yH,3) else (⟨s.bL,dC (came seen) s.kept⟩,0)
def fJ (seen:Int) (t:aT):Int×Bool:=
 if seen < 0\/seen>=1000000\/t.number≠seen+1 then (seen,false) else (seen+1,true)
theorem lQ {s:bX}:(ct s).err=0↔s.kept.length<=40/\(s.kept.length:Int)<=s.bL/\s.bL<=1000000/\∀ i,i < s.kept.length->mZ s i=0:=by
 unfold ct kh
 dsimp only
 split
 ·constructor
  ·intro h;cases h
  ·intro h;omega
 ·split
  ·constructor
   ·intro h;cases h
   ·intro h;omega
  ·rw [nV]
   constructor
   ·exact fun h=>⟨by omega,by omega,by omega,fun i hi=>h i (Nat.zero_le _) (by omega)⟩
   ·exact fun h i _ hi=>h.2.2.2 i (by omega)
theorem vT {s:bX} {q:Nat} {t:aT} (h:s.kept[q]?=some t):mZ s q=0↔1<=t.kind/\t.kind<=3/\0<=t.bc/\t.bc<=29/\1<=t.sum/\t.sum<=1000000/\t.number=s.bL - s.kept.length+1+q:=by
 unfold mZ
 rw [h]
 dsimp only
 split
 ·constructor
  ·intro h;cases h
  ·intro h;omega
 ·split
  ·constructor
   ·intro h;cases h
   ·intro h;omega
  ·split
   ·constructor
    ·intro h;cases h
    ·intro h;omega
   ·constructor
    ·intro _;omega
    ·intro _;rfl
theorem sy {s:bX} (h:(ct s).err=0):s.kept.length<=40/\(s.kept.length:Int)<=s.bL/\s.bL<=1000000/\∀ (i:Nat) (t:aT),s.kept[i]?=some t->1<=t.kind/\t.kind<=3/\0<=t.bc/\t.bc<=29/\1<=t.sum/\t.sum<=1000000/\t.number=s.bL - s.kept.length+1+i:=by
 obtain ⟨h1,h2,h3,h4⟩:=lQ.1 h
 exact ⟨h1,h2,h3,fun i t ht=>(vT ht).1 (h4 i (List.getElem?_eq_some_iff.1 ht).1)⟩
theorem yy {s:bX} (h1:s.kept.length<=40) (h2:(s.kept.length:Int)<=s.bL) (h3:s.bL<=1000000) (h4:∀ (i:Nat) (t:aT),s.kept[i]?=some t->1<=t.kind/\t.kind<=3/\0<=t.bc/\t.bc<=29/\1<=t.sum/\t.sum<=1000000/\t.number=s.bL - s.kept.length+1+i):(ct s).err=0:=
 lQ.2 ⟨h1,h2,h3,fun i hi=>by
  have ht:s.kept[i]?=some s.kept[i]:=List.getElem?_eq_getElem hi
  exact (vT ht).2 (h4 i _ ht)⟩
theorem Bv {s:bX} (h:(ct s).err=0) (seen:Int):dC (came seen) s.kept=s.kept.drop (seen - (s.bL - s.kept.length)).toNat:=by
 obtain ⟨h1,h2,h3,h4⟩:=sy h
 have gen:∀ (l:List aT) (a:Int),(∀ (i:Nat) (t:aT),l[i]?=some t->t.number=a+1+i)->dC (came seen) l=l.drop (seen - a).toNat:=by
  intro l
  induction l with
  |nil=>intro a _;simp [dC]
  |cons t l ih=>
   intro a ha
   have ht:=ha 0 t rfl
   have ih:=ih (a+1) fun i u hu=>by have:=ha (i+1) u (by simpa using hu);omega
   unfold dC at ih ⊢
   rw [List.filter_cons]
   by_cases hs:t.number<=seen
   ·have h0:came seen t=true:=by simp [came,hs]
    rw [h0,if_neg (by simp),ih]
    have:(seen - a).toNat=(seen - (a+1)).toNat+1:=by omega
    rw [this,List.drop_succ_cons]
   ·have h0:came seen t=false:=by simp [came,hs]
    rw [h0,if_pos (by simp),ih]
    have h1:(seen - (a+1)).toNat=0:=by omega
    have h2:(seen - a).toNat=0:=by omega
    rw [h1,h2];rfl
 exact gen s.kept _ fun i t ht=>(h4 i t ht).2.2.2.2.2.2
end
section
theorem qt {s x:bX} {seen e:Int} (h:dT s seen=(x,e)):(e≠0/\x=yH)\/(e=0/\(ct s).err=0/\0<=seen/\seen<=s.bL/\x=⟨s.bL,dC (came seen) s.kept⟩):=by
 unfold dT at h
 split at h
 ·rename_i h1;simp only [Prod.mk.injEq] at h;exact .inl ⟨h.2▸h1,h.1.symm⟩
 split at h
 ·simp only [Prod.mk.injEq] at h;exact .inl ⟨by omega,h.1.symm⟩
 ·simp only [Prod.mk.injEq] at h;exact .inr ⟨h.2.symm,by omega,by omega,by omega,h.1.symm⟩
theorem Am {s:bX} {seen:Int} (h:(ct s).err=0) (h0:0<=seen) (h1:seen<=s.bL):(ct ⟨s.bL,dC (came seen) s.kept⟩).err=0:=by
 obtain ⟨h2,h3,h4,h5⟩:=sy h
 rw [Bv h]
 generalize hd:(seen - (s.bL - s.kept.length)).toNat=d
 refine yy (by simp;omega) (by simp;omega) h4 fun i t ht=>?_
 rw [List.getElem?_drop] at ht
 have h6:=h5 (d+i) t ht
 have hlt:=(List.getElem?_eq_some_iff.1 ht).1
 simp only [List.length_drop]
 omega
end
theorem aM.IE {P:Program} {o:Oper} {st:aK} {nb:List (Nat×AB)} {E:List Nat} {cs cs':List CV} (i K:Nat) (g:aM P o st (.v (.g cs)) nb E) (hc:cs[i]?=some cN) (he:cs.set i (cR K [])=cs'):aM P o st (.v (.g cs')) nb E:=by
 subst he
 refine fun σ T a w C hn=>iN (g σ T a w C hn) ?_
 rintro a w ⟨u,σ',T',h1,h2,vs,hv,hall⟩
 refine ⟨u,σ',T',h1,h2,vs,hv,?_⟩
 obtain ⟨v,hv',hr⟩:=hall.get hc
 have hnil:v=.slice none 0 0:=bo.inv hr
 have hs:=hall.set (x:=cR K []) (y:=v) (by rw [hnil];exact bo.nil K none 0) i
 have e:vs.set i v=vs:=by
  apply List.ext_getElem?
  intro m
  rw [List.getElem?_set]
  split
  ·rename_i e;subst e
   split
   ·exact hv'.symm
   ·rename_i hlt;exact absurd (List.getElem?_eq_some_iff.1 hv').1 hlt
  ·rfl
 rwa [e] at hs
section

structure TI where
 fs:List (Nat×Nat)
 agg:Bool
 size:Nat
 zero:List Value
structure Eh (P:Program) (t:TypeId) (i:TI):Prop where
 Il:∃ d,P.underlying t=some d/\lL d=i.agg
 Gx:i.fs=[]\/((Program.fieldsOf P t).bind fun fs=>fs.toList.mapM fun f=>(P.info? f.type).map fun i=>(f.offset,i.size))=some i.fs
 size:(P.info? t).map (·.size)=some i.size
 zero:i.zero=[]\/(((P.info? t).bind (·.zero)).map (fun v=>v.cells.toList)=some i.zero/\i.zero.all (·.oneCell')=true)
def gH (P:Program):List (Nat×TI)->Prop
 |[]=>True
 |x::l=>Eh P x.1 x.2/\gH P l
theorem gH.get {P:Program}:∀ {T:List (Nat×TI)},gH P T->∀ {t:Nat} {i:TI},look T t=some i->Eh P t i
 |x::l,h,t,i,hl=>by
  obtain ⟨k,j⟩:=x
  rw [bS] at hl
  split at hl
  ·rename_i e;injection hl with hl;subst e hl;exact h.1
  ·exact gH.get h.2 hl
def vD:Nat->List CV->Option (List CV)
 |0,_=>some []
 |_+1,[]=>none
 |n+1,c::l=>match vD n l with
  |some r=>some (c::r)
  |none=>none
theorem vS:∀ {n:Nat} {l r:List CV},vD n l=some r->l.take n=r/\r.length=n
 |0,l,r,h=>by cases h;simp
 |n+1,[],r,h=>by cases h
 |n+1,c::l,r,h=>by
  unfold vD at h
  split at h
  ·rename_i r' h';injection h with h;subst h
   obtain ⟨h1,h2⟩:=vS h'
   simp [h1,h2]
  ·cases h
def yG:List CV->List CV->Option (List CV)
 |cs,[]=>some cs
 |[],_::_=>none
 |_::cs,x::xs=>match yG cs xs with
  |some r=>some (x::r)
  |none=>none
theorem Bc:∀ {cs xs r:List CV},yG cs xs=some r->xs.length<=cs.length/\r=xs++cs.drop xs.length
 |cs,[],r,h=>by unfold yG at h;injection h with h;subst h;simp
 |[],_::_,r,h=>by cases h
 |c::cs,x::xs,r,h=>by
  unfold yG at h
  split at h
  ·rename_i r' h';injection h with h;subst h
   obtain ⟨h1,h2⟩:=Bc h'
   simp [h2];omega
  ·cases h
def kL:List CV->Nat->List CV->Option (List CV)
 |cs,0,xs=>yG cs xs
 |[],_+1,_=>none
 |c::cs,n+1,xs=>match kL cs n xs with
  |some r=>some (c::r)
  |none=>none
theorem kK:∀ {cs:List CV} {n:Nat} {xs r:List CV},kL cs n xs=some r->n+xs.length<=cs.length/\cs.take n++xs++cs.drop (n+xs.length)=r
 |cs,0,xs,r,h=>by
  have h:yG cs xs=some r:=by cases cs<;>exact h
  obtain ⟨h1,h2⟩:=Bc h
  simp [h2];omega
 |[],n+1,xs,r,h=>by cases h
 |c::cs,n+1,xs,r,h=>by
  unfold kL at h
  split at h
  ·rename_i r' h';injection h with h;subst h
   obtain ⟨h1,h2⟩:=kK h'
   refine ⟨by simp;omega,?_⟩
   rw [show n+1+xs.length=n+xs.length+1 by omega]
   simp [<-h2]
  ·cases h
def mh:List (Nat×AB)->Nat->AB->Option (List (Nat×AB))
 |[],_,_=>none
 |(j,x)::l,k,b=>bif Nat.beq j k then some ((j,b)::l) else match mh l k b with
  |some r=>some ((j,x)::r)
  |none=>none
theorem nu:∀ {l:List (Nat×AB)} {k:Nat} {b:AB} {r:List (Nat×AB)},mh l k b=some r->ll l k b=r
 |(j,x)::l,k,b,r,h=>by
  unfold mh at h
  unfold ll
  cases hjk:Nat.beq j k with
  |true=>rw [hjk] at h;simpa using h
  |false=>
   rw [hjk] at h
   simp only [cond_false] at h ⊢
   split at h
   ·rename_i r' h';injection h with h;subst h;rw [nu h']
   ·cases h
def nK:List Value->Option (List CV)
 |[]=>some []
 |v::l=>match nK l with
  |some r=>some (.d (.v v)::r)
  |none=>none
theorem mg:∀ {l:List Value} {r:List CV},nK l=some r->(l.map fun x=>CV.d (.v x))=r
 |[],r,h=>by cases h;rfl
 |v::l,r,h=>by
  unfold nK at h
  split at h
  ·rename_i r' h';injection h with h;subst h;rw [<-mg h'];rfl
  ·cases h
def zw:List D->Option (List CV)
 |[]=>some []
 |v::l=>match zw l with
  |some r=>some (.d v::r)
  |none=>none
theorem yx:∀ {l:List D} {r:List CV},zw l=some r->l.map CV.d=r
 |[],r,h=>by cases h;rfl
 |v::l,r,h=>by
  unfold zw at h
  split at h
  ·rename_i r' h';injection h with h;subst h;rw [<-yx h'];rfl
  ·cases h
def sI (s:List (Nat×AV)):List (Nat×Operand)->Option (List (Nat×GV))
 |[]=>some []
 |(i,x)::l=>match jB s x with
  |some (.v g)=>match sI s l with
   |some r=>some ((i,g)::r)
   |none=>none
  |_=>none
theorem uF {s:List (Nat×AV)} {h:List (Nat×AB)} {n:Nat}:∀ {l:List (Nat×Operand)} {r:List (Nat×GV)},sI s l=some r->Cu ⟨s,h,n⟩ l r
 |[],r,hr=>by cases hr;trivial
 |(i,x)::l,r,hr=>by
  unfold sI at hr
  split at hr
  ·rename_i g hg
   split at hr
   ·rename_i r' h';injection hr with hr;subst hr;exact ⟨⟨rfl,eF hg⟩,uF h'⟩
   ·cases hr
  ·cases hr
def sR (places:List (Nat×Nat)):List CV->List (Nat×GV)->Option (List CV)
 |cells,[]=>some cells
 |cells,(i,g)::rest=>match places[i]? with
  |none=>none
  |some (off,size)=>bif Nat.beq (eG g).length size then (match kL cells off (eG g) with
   |some c=>sR places c rest
   |none=>none) else none
theorem xe {places:List (Nat×Nat)}:∀ {l:List (Nat×GV)} {cells r:List CV},sR places cells l=some r->lX (fun i=>places[i]?) cells (l.map fun y=>(y.1,eG y.2))=some r
 |[],cells,r,h=>by unfold sR at h;exact h
 |(i,g)::rest,cells,r,h=>by
  unfold sR at h
  split at h
  ·cases h
  rename_i off size hp
  cases hs:Nat.beq (eG g).length size with
  |false=>rw [hs] at h;cases h
  |true=>
   rw [hs] at h
   simp only [cond_true] at h
   split at h
   ·rename_i c hc
    obtain ⟨h1,h2⟩:=kK hc
    show lX _ cells ((i,eG g)::rest.map _)=_
    unfold lX
    rw [hp]
    dsimp only
    rw [if_pos ⟨Nat.eq_of_beq_eq_true hs,h1⟩,h2]
    exact xe h
   ·cases h
def GB:IntKind->IntKind->Bool
 |.i64,.i64=>true
 |.u8,.u8=>true
 |_,_=>false
theorem GA {a b:IntKind} (h:GB a b=true):a=b:=by cases a<;>cases b<;>first|rfl|cases h
def BN (T:List (Nat×TI)) (s:List (Nat×AV)) (h:List (Nat×AB)):Op->Option AV
 |.move x=>jB s x
 |.assign x=>jB s x
 |.pick c x y=>match jB s c with
  |some (.v (.c (.d (.v (.bool b)))))=>jB s (bif b then x else y)
  |_=>none
 |.nilCheck x=>match jB s x with
  |some v=>bif wB v then some v else none
  |none=>none
 |.fieldAddr t x i=>match look T t with
  |none=>none
  |some ti=>match ti.fs[i]? with
   |none=>none
   |some (off,sz)=>bif Nat.beq sz 0 then none else (match jB s x with
    |some (.v (.c (.p k r K o)))=>some (.v (.c (.p k r K (o+off))))
    |some (.v (.c (.q row o)))=>some (.v (.c (.q row (o+off))))
    |_=>none)
 |.load t x=>match look T t with
  |none=>none
  |some ti=>match jB s x with
   |some (.v (.c (.q row j)))=>bif ti.agg then (bif Nat.beq j 0 && Nat.beq row.length ti.size then (match zw row with
     |some xs=>some (.v (.g xs))
     |none=>none) else none) else (match row[j]? with
    |some d=>some (.v (.c (.d d)))
    |none=>none)
   |some (.v (.c (.p k r K j)))=>bif Nat.beq r 0 && Nat.beq K 0 then (match look h k with
    |some (.box _ cs)=>bif ti.agg then (match vD ti.size (cs.drop j) with
      |some xs=>some (.v (.g xs))
      |none=>none) else (match cs[j]? with
     |some c=>some (.v (.c c))
     |none=>none)
    |_=>none) else none
   |_=>none
 |.binOp op _ x y _=>match jB s x with
  |some (.v (.c (.d (.v (.int k a)))))=>(match jB s y with
   |some (.v (.c (.d (.v (.int k' b)))))=>bif GB k k' then (match Al op k a b with
    |some c=>some (.v (.c (.d (.v c))))
    |none=>none) else none
   |_=>none)
  |_=>none
 |.unOp .not _ x=>match jB s x with
  |some (.v (.c (.d (.v (.bool b)))))=>some (.v (.c (.d (.v (.bool !b)))))
  |_=>none
 |.extract x i=>match jB s x with
  |some (.t gs)=>(match gs[i]? with
   |some g=>some (.v g)
   |none=>none)
  |_=>none
 |.build t parts=>match look T t with
  |none=>none
  |some ti=>bif ti.fs.isEmpty||ti.zero.isEmpty then none else (match sI s parts.toList with
   |none=>none
   |some ps=>bif ps.all (fun y=>y.2.known) then (match nK ti.zero with
    |none=>none
    |some z=>match sR ti.fs z ps with
     |some cs=>some (.v (.g cs))
     |none=>none) else none)
 |_=>none
theorem yb {P:Program} {t:TypeId} {ti:TI} (hT:Eh P t ti) {i off sz:Nat} (hf:ti.fs[i]?=some (off,sz)):∃ fs f,P.underlying t=some (.struct fs)/\fs[i]?=some f/\f.offset=off/\(P.info? f.type).map (·.size)=some sz:=by
 rcases hT.Gx with h|h
 ·rw [h] at hf;cases hf
 ·cases hfs:Program.fieldsOf P t with
  |none=>rw [hfs] at h;cases h
  |some fs=>
   rw [hfs] at h
   simp only [Option.bind_some] at h
   have hu:P.underlying t=some (.struct fs):=by
    unfold Program.fieldsOf at hfs
    split at hfs
    ·rename_i e;injection hfs with hfs;subst hfs;exact e
    ·cases hfs
   have gen:∀ (l:List Field) (r:List (Nat×Nat)) (i:Nat),(l.mapM fun f=>(P.info? f.type).map fun i=>(f.offset,i.size))=some r->r[i]?=some (off,sz)->∃ f,l[i]?=some f/\f.offset=off/\(P.info? f.type).map (·.size)=some sz:=by
    intro l
    induction l with
    |nil=>intro r i h1 h2;simp at h1;subst h1;simp at h2
    |cons f l ih=>
     intro r i h1 h2
     simp only [List.mapM_cons] at h1
     cases hi:P.info? f.type with
     |none=>rw [hi] at h1;simp at h1
     |some inf=>
      rw [hi] at h1
      cases hr:(l.mapM fun f=>(P.info? f.type).map fun i=>(f.offset,i.size)) with
      |none=>rw [hr] at h1;simp at h1
      |some r'=>
       rw [hr] at h1
       simp at h1
       subst h1
       cases i with
       |zero=>simp at h2;exact ⟨f,rfl,h2.1,by rw [hi];simp [h2.2]⟩
       |succ i=>simp at h2;obtain ⟨g,h3,h4,h5⟩:=ih r' i hr h2;exact ⟨g,by simpa using h3,h4,h5⟩
   obtain ⟨f,h1,h2,h3⟩:=gen fs.toList ti.fs i h hf
   exact ⟨fs,f,hu,by simpa using h1,h2,h3⟩
theorem xf {P:Program} {T:List (Nat×TI)} (hT:gH P T) {o:Oper} {s:List (Nat×AV)} {h:List (Nat×AB)} {n:Nat} {v:AV} (he:BN T s h o.op=some v):aM P o ⟨s,h,n⟩ v [] []:=by
 unfold BN at he
 split at he
 ·rename_i x ho;exact Gq ho (eF he)
 ·rename_i x ho;exact Du ho (eF he)
 ·rename_i c x y ho
  split at he
  ·rename_i b hb;exact Gn ho (eF hb) (by cases b<;>exact eF he)
  ·cases he
 ·rename_i x ho
  split at he
  ·rename_i v' hv
   cases hn:wB v' with
   |true=>rw [hn] at he;injection he with he;subst he;exact zS ho (eF hv) hn
   |false=>rw [hn] at he;cases he
  ·cases he
 ·rename_i t x i ho
  split at he
  ·cases he
  rename_i ti ht
  split at he
  ·cases he
  rename_i off sz hf
  cases hz:Nat.beq sz 0 with
  |true=>rw [hz] at he;cases he
  |false=>
   rw [hz] at he
   simp only [cond_false] at he
   obtain ⟨fs,f,h1,h2,h3,h4⟩:=yb (hT.get ht) hf
   have hne:sz≠0:=fun e=>by subst e;cases hz
   split at he
   ·rename_i k r K o' hx;injection he with he;subst he h3;exact Dr ho (eF hx) h1 h2 h4 hne
   ·rename_i row o' hx;injection he with he;subst he h3;exact Dq ho (eF hx) h1 h2 h4 hne
   ·cases he
 ·rename_i t x ho
  split at he
  ·cases he
  rename_i ti ht
  obtain ⟨d,hu,hd⟩:=(hT.get ht).Il
  split at he
  ·rename_i row j hx
   cases ha:ti.agg with
   |true=>
    rw [ha] at he
    simp only [cond_true] at he
    cases hc:(Nat.beq j 0 && Nat.beq row.length ti.size) with
    |false=>rw [hc] at he;cases he
    |true=>
     rw [hc] at he
     simp only [cond_true] at he
     rw [Bool.and_eq_true] at hc
     have hj:=Nat.eq_of_beq_eq_true hc.1
     subst hj
     split at he
     ·rename_i xs hxs;injection he with he;subst he
      exact Dm ho (eF hx) hu (hd.trans ha) (hT.get ht).size (Nat.eq_of_beq_eq_true hc.2) (yx hxs)
     ·cases he
   |false=>
    rw [ha] at he
    simp only [cond_false] at he
    split at he
    ·rename_i c hc;injection he with he;subst he;exact Fe ho (eF hx) hu (hd.trans ha) hc
    ·cases he
  ·rename_i k r K j hx
   cases hc:(Nat.beq r 0 && Nat.beq K 0) with
   |false=>rw [hc] at he;cases he
   |true=>
    rw [hc] at he
    simp only [cond_true] at he
    rw [Bool.and_eq_true] at hc
    have hr:=Nat.eq_of_beq_eq_true hc.1
    have hK:=Nat.eq_of_beq_eq_true hc.2
    subst hr hK
    split at he
    ·rename_i bt cs hb
     cases ha:ti.agg with
     |true=>
      rw [ha] at he
      simp only [cond_true] at he
      split at he
      ·rename_i xs hxs;injection he with he;subst he
       obtain ⟨h1,h2⟩:=vS hxs
       exact Dn ho (eF hx) hb hu (hd.trans ha) (hT.get ht).size h1 h2
      ·cases he
     |false=>
      rw [ha] at he
      simp only [cond_false] at he
      split at he
      ·rename_i c hc';injection he with he;subst he;exact Ff ho (eF hx) hb hu (hd.trans ha) hc'
      ·cases he
    ·cases he
  ·cases he
 ·rename_i op xt x y yt ho
  split at he
  ·rename_i k a hx
   split at he
   ·rename_i k' b hy
    cases hk:GB k k' with
    |false=>rw [hk] at he;cases he
    |true=>
     rw [hk] at he
     have:=GA hk
     subst this
     simp only [cond_true] at he
     split at he
     ·rename_i c hc;injection he with he;subst he;exact aL ho (eF hx) (eF hy) hc
     ·cases he
   ·cases he
  ·cases he
 ·rename_i t x ho
  split at he
  ·rename_i b hb;injection he with he;subst he;exact Gp ho (eF hb)
  ·cases he
 ·rename_i x i ho
  split at he
  ·rename_i gs hx
   split at he
   ·rename_i g hg;injection he with he;subst he;exact BL ho (eF hx) hg
   ·cases he
  ·cases he
 ·rename_i t parts ho
  split at he
  ·cases he
  rename_i ti ht
  cases hc:(ti.fs.isEmpty||ti.zero.isEmpty) with
  |true=>rw [hc] at he;cases he
  |false=>
   rw [hc] at he
   simp only [cond_false] at he
   rw [Bool.or_eq_false_iff] at hc
   split at he
   ·cases he
   rename_i ps hps
   cases hk:ps.all (fun y=>y.2.known) with
   |false=>rw [hk] at he;cases he
   |true=>
    rw [hk] at he
    simp only [cond_true] at he
    split at he
    ·cases he
    rename_i z hz
    split at he
    ·rename_i cs hcs;injection he with he;subst he
     have h1:ti.fs≠[]:=fun e=>by rw [e] at hc;simp at hc
     have h2:ti.zero≠[]:=fun e=>by rw [e] at hc;simp at hc
     have h3:=(hT.get ht).Gx.resolve_left h1
     have h4:=(hT.get ht).zero.resolve_left h2
     exact yT ho ⟨h4.1,h3⟩ h4.2 (uF hps) hk (by rw [mg hz];exact xe hcs)
    ·cases he
 ·cases he
def FR (T:List (Nat×TI)) (N:Nat) (o:Oper) (s:List (Nat×AV)) (h:List (Nat×AB)) (n:Nat):Option (List (Nat×AV)×List (Nat×AB)×Nat):=
 match o.op with
 |.alloc t=>match look T t with
  |none=>none
  |some ti=>match o.dst with
   |none=>none
   |some d=>bif ti.zero.isEmpty||!Nat.blt d N then none else (match nK ti.zero with
    |some cs=>some ((d,.v (.c (.p n 0 0 0)))::s,(n,.box t cs)::h,n+1)
    |none=>none)
 |.box t x=>match o.dst with
  |none=>none
  |some d=>bif Nat.blt d N then (match jB s x with
   |some (.v (.c c))=>bif c.known then some ((d,.v (.c (.p n 0 0 0)))::s,(n,.box t [c])::h,n+1) else none
   |some (.v (.g cs))=>some ((d,.v (.c (.p n 0 0 0)))::s,(n,.box t cs)::h,n+1)
   |_=>none) else none
 |.store t x y=>match look T t with
  |none=>none
  |some ti=>match o.dst with
   |some _=>none
   |none=>match jB s x with
    |some (.v (.c (.p k r K j)))=>bif Nat.beq r 0 && Nat.beq K 0 && Nat.blt k n then (match jB s y with
     |some (.v gv)=>bif (eG gv).all CV.known && Nat.beq (eG gv).length ti.size then (match look h k with
      |some (.box bt cs)=>(match kL cs j (eG gv) with
       |some cs'=>(match mh h k (.box bt cs') with
        |some h'=>some (s,h',n)
        |none=>none)
       |none=>none)
      |_=>none) else none
     |_=>none) else none
    |_=>none
 |op=>match BN T s h op with
  |none=>none
  |some v=>match o.dst with
   |none=>none
   |some d=>bif Nat.blt d N then some ((d,v)::s,h,n) else none
def wk (ops:Array Oper) (T:List (Nat×TI)) (N:Nat) (o:Oper) (s:List (Nat×AV)) (h:List (Nat×AB)) (n:Nat):Option (List (Nat×AV)×List (Nat×AB)×Nat):=
 match pI ops s o with
 |some false=>(match o.dst with
  |some d=>bif Nat.blt d N then some ((d,.t [])::s,h,n) else none
  |none=>none)
 |some true=>FR T N o s h n
 |none=>none
def wj (ops:Array Oper) (T:List (Nat×TI)) (N:Nat):Nat->List Oper->List (Nat×AV)->List (Nat×AB)->Nat->Option (List Oper×List (Nat×AV)×List (Nat×AB)×Nat)
 |0,l,s,h,n=>some (l,s,h,n)
 |_+1,[],s,h,n=>some ([],s,h,n)
 |k+1,o::l,s,h,n=>match wk ops T N o s h n with
  |some (s',h',n')=>wj ops T N k l s' h' n'
  |none=>none
section
variable {P:Program} {W0:World} {F:Nat->Prop} {N:NT} {T0:Nat->Prop} {pin:List (Nat×bR)} {ops:Array Oper} {Q:Exit->aK->Prop}
theorem FC {T:List (Nat×TI)} (hT:gH P T) {o:Oper} {l:List Oper} {s s':List (Nat×AV)} {h h':List (Nat×AB)} {n n':Nat} (hr:Dev.wk ops T N.1 o s h n=some (s',h',n')) (k:AL P W0 F N T0 pin ops Q l ⟨s',h',n'⟩):AL P W0 F N T0 pin ops Q (o::l) ⟨s,h,n⟩:=by
 unfold Dev.wk at hr
 split at hr
 ·rename_i hg
  split at hr
  ·rename_i d hd
   cases hN:Nat.blt d N.1 with
   |false=>rw [hN] at hr;cases hr
   |true=>
    rw [hN] at hr
    simp only [cond_true] at hr
    injection hr with hr;injection hr with h1 h2;injection h2 with h2 h3
    subst h1 h2 h3
    exact Ij ((iW hg).2 rfl) hd hN k
  ·cases hr
 ·rename_i hg
  have hw:ak ops o ⟨s,h,n⟩:=(iW hg).1 rfl
  unfold FR at hr
  split at hr
  ·rename_i t ho
   split at hr
   ·cases hr
   rename_i ti ht
   split at hr
   ·cases hr
   rename_i d hd
   cases hc:(ti.zero.isEmpty||!Nat.blt d N.1) with
   |true=>rw [hc] at hr;cases hr
   |false=>
    rw [hc] at hr
    simp only [cond_false] at hr
    rw [Bool.or_eq_false_iff] at hc
    split at hr
    ·rename_i cs hcs
     injection hr with hr;injection hr with h1 h2;injection h2 with h2 h3
     subst h1 h2 h3
     have h2:ti.zero≠[]:=fun e=>by rw [e] at hc;simp at hc
     have h4:=(hT.get ht).zero.resolve_left h2
     cases hz:(P.info? t).bind (·.zero) with
     |none=>rw [hz] at h4;exact absurd h4.1 (by simp)
     |some z=>
      rw [hz] at h4
      refine xN hw (tU n ho hz (Option.some.inj h4.1) h4.2 (mg hcs)) hd (by simpa using hc.2) rfl k
    ·cases hr
  ·rename_i t x ho
   split at hr
   ·cases hr
   rename_i d hd
   cases hN:Nat.blt d N.1 with
   |false=>rw [hN] at hr;cases hr
   |true=>
    rw [hN] at hr
    simp only [cond_true] at hr
    split at hr
    ·rename_i c hx
     cases hk:c.known with
     |false=>rw [hk] at hr;cases hr
     |true=>
      rw [hk] at hr
      simp only [cond_true] at hr
      injection hr with hr;injection hr with h1 h2;injection h2 with h2 h3
      subst h1 h2 h3
      exact xN hw (xa n ho (eF hx) hk) hd hN rfl k
    ·rename_i cs hx
     injection hr with hr;injection hr with h1 h2;injection h2 with h2 h3
     subst h1 h2 h3
     exact xN hw (wZ n ho (eF hx)) hd hN rfl k
    ·cases hr
  ·rename_i t x y ho
   split at hr
   ·cases hr
   rename_i ti ht
   split at hr
   ·cases hr
   rename_i hd
   split at hr
   ·rename_i kk r K j hx
    cases hc:(Nat.beq r 0 && Nat.beq K 0 && Nat.blt kk n) with
    |false=>rw [hc] at hr;cases hr
    |true=>
     rw [hc] at hr
     simp only [cond_true] at hr
     simp only [Bool.and_eq_true] at hc
     obtain ⟨⟨c1,c2⟩,c3⟩:=hc
     have c1:=Nat.eq_of_beq_eq_true c1
     have c2:=Nat.eq_of_beq_eq_true c2
     subst c1 c2
     split at hr
     ·rename_i gv hy
      cases hk:((eG gv).all CV.known && Nat.beq (eG gv).length ti.size) with
      |false=>rw [hk] at hr;cases hr
      |true=>
       rw [hk] at hr
       simp only [cond_true] at hr
       rw [Bool.and_eq_true] at hk
       split at hr
       ·rename_i bt cs hb
        split at hr
        ·rename_i cs' hcs
         split at hr
         ·rename_i h2 hh
          injection hr with hr;injection hr with e1 e2;injection e2 with e2 e3
          subst e1 e2 e3
          obtain ⟨p1,p2⟩:=kK hcs
          have hl:=Nat.eq_of_beq_eq_true hk.2
          exact Cw hw (wV ho (eF hx) (eF hy) hb hk.1 (hT.get ht).size hl (by rw [<-hl];exact p1) (by rw [<-hl];exact p2)) hd hb c3 (nu hh) k
         ·cases hr
        ·cases hr
       ·cases hr
     ·cases hr
   ·cases hr
  ·split at hr
   ·cases hr
   rename_i v hv
   split at hr
   ·cases hr
   rename_i d hd
   cases hN:Nat.blt d N.1 with
   |false=>rw [hN] at hr;cases hr
   |true=>
    rw [hN] at hr
    simp only [cond_true] at hr
    injection hr with hr;injection hr with h1 h2;injection h2 with h2 h3
    subst h1 h2 h3
    exact dQ hw (xf hT hv) hd hN k
 ·cases hr
theorem ad {T:List (Nat×TI)} (hT:gH P T):∀ (k:Nat) {l l':List Oper} {s s':List (Nat×AV)} {h h':List (Nat×AB)} {n n':Nat},wj ops T N.1 k l s h n=some (l',s',h',n')->AL P W0 F N T0 pin ops Q l' ⟨s',h',n'⟩->AL P W0 F N T0 pin ops Q l ⟨s,h,n⟩
 |0,l,l',s,s',h,h',n,n',hr,k=>by
  have:(l,s,h,n)=(l',s',h',n'):=by cases l<;>exact Option.some.inj hr
  injection this with e1 e2;injection e2 with e2 e3;injection e3 with e3 e4
  subst e1 e2 e3 e4;exact k
 |_+1,[],l',s,s',h,h',n,n',hr,k=>by
  have:(([]:List Oper),s,h,n)=(l',s',h',n'):=Option.some.inj hr
  injection this with e1 e2;injection e2 with e2 e3;injection e3 with e3 e4
  subst e1 e2 e3 e4;exact k
 |f+1,o::l,l',s,s',h,h',n,n',hr,k=>by
  unfold wj at hr
  split at hr
  ·rename_i s1 h1 n1 h1'
   exact FC hT h1' (ad hT f hr k)
  ·cases hr
theorem aH {T:List (Nat×TI)} (hT:gH P T) {id:Nat} {l:List Oper} {y:Code} (k:Nat) {l':List Oper} {s s':List (Nat×AV)} {h h':List (Nat×AB)} {n n':Nat} (hr:wj l.toArray T N.1 k l s h n=some (l',s',h',n'))
  (g:AL P W0 F N T0 pin l.toArray (iY (AC P W0 F N T0 pin Q y) Q) l' ⟨s',h',n'⟩):AC P W0 F N T0 pin Q (.seq (.region id l.toArray false) y) ⟨s,h,n⟩:=
 ag (au (ad hT k hr g))
theorem ae {T:List (Nat×TI)} (hT:gH P T) {id:Nat} {l:List Oper} {y:Code} (k:Nat) {s s':List (Nat×AV)} {h h':List (Nat×AB)} {n n':Nat} (hr:wj l.toArray T N.1 k l s h n=some ([],s',h',n'))
  (g:AC P W0 F N T0 pin Q y ⟨s',h',n'⟩):AC P W0 F N T0 pin Q (.seq (.region id l.toArray false) y) ⟨s,h,n⟩:=
 aH hT k hr (bY g)
end
end
section

def jO {α:Type} (s:List (Nat×α)):List Nat->Option (List (Nat×α))
 |[]=>some []
 |t::ts=>match look s t with
  |none=>none
  |some v=>match jO s ts with
   |some r=>some ((t,v)::r)
   |none=>none
theorem lU {α:Type} {s:List (Nat×α)}:∀ {ts:List Nat} {r:List (Nat×α)},jO s ts=some r->∀ x∈r,look s x.1=some x.2
 |[],r,h,x,hx=>by cases h;cases hx
 |t::ts,r,h,x,hx=>by
  unfold jO at h
  split at h
  ·cases h
  rename_i v hv
  split at h
  ·rename_i r' hr;injection h with h;subst h
   rcases List.mem_cons.1 hx with rfl|hx
   ·exact hv
   ·exact lU hr x hx
  ·cases h
theorem jo {α:Type} {s:List (Nat×α)} {ts:List Nat} {r:List (Nat×α)} (h:jO s ts=some r) {i:Nat} {v:α} (hi:look r i=some v):look s i=some v:=lU h _ (bO hi)
def findD:List bJ->Nat->Nat->Option (Nat×AV)
 |[],_,_=>none
 |_,0,_=>none
 |r::l,i+1,t=>match r.dst with
  |some d=>bif Nat.beq d t then some (i,r.v) else findD l i t
  |none=>findD l i t
def ou:List bJ->Nat->Nat->Option (Nat×AB)
 |[],_,_=>none
 |_,0,_=>none
 |r::l,i+1,k=>match look r.nb k with
  |some b=>some (i,b)
  |none=>ou l i k
theorem rH:∀ {l:List bJ} {i t:Nat} {j:Nat} {v:AV},l.length=i->findD l i t=some (j,v)->∃ q,l.reverse[j]?=some q/\q.dst=some t/\q.v=v
 |[],i,t,j,v,hl,h=>by cases h
 |r::l,0,t,j,v,hl,h=>by cases hl
 |r::l,i+1,t,j,v,hl,h=>by
  have hl:l.length=i:=by simpa using hl
  have rest:findD l i t=some (j,v)->∃ q,(r::l).reverse[j]?=some q/\q.dst=some t/\q.v=v:=fun h=>by
   obtain ⟨q,h1,h2⟩:=rH hl h
   exact ⟨q,by rw [List.reverse_cons,List.getElem?_append_left (List.getElem?_eq_some_iff.1 h1).1];exact h1,h2⟩
  unfold findD at h
  split at h
  ·rename_i d hd
   cases hb:Nat.beq d t with
   |true=>
    rw [hb] at h
    simp only [cond_true,Option.some.injEq,Prod.mk.injEq] at h
    obtain ⟨rfl,rfl⟩:=h
    exact ⟨r,by rw [List.reverse_cons,List.getElem?_append_right (by simp [hl])];simp [hl],by rw [hd,Nat.eq_of_beq_eq_true hb],rfl⟩
   |false=>rw [hb] at h;exact rest h
  ·exact rest h
theorem rJ:∀ {l:List bJ} {i k:Nat} {j:Nat} {b:AB},l.length=i->ou l i k=some (j,b)->∃ q,l.reverse[j]?=some q/\(k,b)∈q.nb
 |[],i,t,j,v,hl,h=>by cases h
 |r::l,0,t,j,v,hl,h=>by cases hl
 |r::l,i+1,k,j,b,hl,h=>by
  have hl:l.length=i:=by simpa using hl
  unfold ou at h
  split at h
  ·rename_i b' hb
   simp only [Option.some.injEq,Prod.mk.injEq] at h
   obtain ⟨rfl,rfl⟩:=h
   exact ⟨r,by rw [List.reverse_cons,List.getElem?_append_right (by simp [hl])];simp [hl],bO hb⟩
  ·obtain ⟨q,h1,h2⟩:=rJ hl h
   exact ⟨q,by rw [List.reverse_cons,List.getElem?_append_left (List.getElem?_eq_some_iff.1 h1).1];exact h1,h2⟩
def gX (s:List (Nat×AV)) (racc:List bJ) (i:Nat):List Nat->List (Nat×AV)×List Nat
 |[]=>([],[])
 |t::ts=>match gX s racc i ts with
  |(sv,pre)=>match findD racc i t with
   |some (j,v)=>((t,v)::sv,j::pre)
   |none=>match look s t with
    |some v=>((t,v)::sv,pre)
    |none=>(sv,pre)
def gC (h:List (Nat×AB)) (racc:List bJ) (i:Nat):List Nat->List (Nat×AB)×List Nat
 |[]=>([],[])
 |k::ks=>match gC h racc i ks with
  |(hv,pre)=>match ou racc i k with
   |some (j,b)=>((k,b)::hv,j::pre)
   |none=>match look h k with
    |some b=>((k,b)::hv,pre)
    |none=>(hv,pre)
def Ei (s:List (Nat×AV)) (aS:List bJ) (pre:List Nat) (x:Nat×AV):Prop:=look s x.1=some x.2\/∃ j,j∈pre/\∃ q,aS[j]?=some q/\q.dst=some x.1/\q.v=x.2
def Ej (h:List (Nat×AB)) (aS:List bJ) (pre:List Nat) (x:Nat×AB):Prop:=look h x.1=some x.2\/∃ j,j∈pre/\∃ q,aS[j]?=some q/\x∈q.nb
theorem rf {s:List (Nat×AV)} {racc:List bJ} {i:Nat} (hl:racc.length=i):∀ {ts:List Nat} {sv:List (Nat×AV)} {pre:List Nat},gX s racc i ts=(sv,pre)->∀ x∈sv,Ei s racc.reverse pre x
 |[],sv,pre,h,x,hx=>by cases h;cases hx
 |t::ts,sv,pre,h,x,hx=>by
  unfold gX at h
  cases hv:gX s racc i ts with
  |mk sv0 pre0=>
   rw [hv] at h
   have ih:=rf hl hv
   dsimp only at h
   split at h
   ·rename_i j v hf
    injection h with h1 h2;subst h1 h2
    rcases List.mem_cons.1 hx with rfl|hx
    ·obtain ⟨q,h1,h2,h3⟩:=rH hl hf
     exact .inr ⟨j,List.mem_cons_self,q,h1,h2,h3⟩
    ·rcases ih x hx with h|⟨j',h1,h2⟩
     ·exact .inl h
     ·exact .inr ⟨j',List.mem_cons_of_mem _ h1,h2⟩
   ·split at h
    ·rename_i v hf
     injection h with h1 h2;subst h1 h2
     rcases List.mem_cons.1 hx with rfl|hx
     ·exact .inl hf
     ·exact ih x hx
    ·injection h with h1 h2;subst h1 h2;exact ih x hx
theorem rh {s:List (Nat×AB)} {racc:List bJ} {i:Nat} (hl:racc.length=i):∀ {ts:List Nat} {sv:List (Nat×AB)} {pre:List Nat},gC s racc i ts=(sv,pre)->∀ x∈sv,Ej s racc.reverse pre x
 |[],sv,pre,h,x,hx=>by cases h;cases hx
 |t::ts,sv,pre,h,x,hx=>by
  unfold gC at h
  cases hv:gC s racc i ts with
  |mk sv0 pre0=>
   rw [hv] at h
   have ih:=rh hl hv
   dsimp only at h
   split at h
   ·rename_i j v hf
    injection h with h1 h2;subst h1 h2
    rcases List.mem_cons.1 hx with rfl|hx
    ·obtain ⟨q,h1,h2⟩:=rJ hl hf
     exact .inr ⟨j,List.mem_cons_self,q,h1,h2⟩
    ·rcases ih x hx with h|⟨j',h1,h2⟩
     ·exact .inl h
     ·exact .inr ⟨j',List.mem_cons_of_mem _ h1,h2⟩
   ·split at h
    ·rename_i v hf
     injection h with h1 h2;subst h1 h2
     rcases List.mem_cons.1 hx with rfl|hx
     ·exact .inl hf
     ·exact ih x hx
    ·injection h with h1 h2;subst h1 h2;exact ih x hx
def Seen (st:aK) (aS:List bJ) (r:bJ):Prop:=(∀ x∈r.s,Ei st.s aS r.pre x)/\∀ x∈r.h,Ej st.h aS r.pre x
theorem Seen.more {st:aK} {aS more:List bJ} {r:bJ} (h:Seen st aS r):Seen st (aS++more) r:=by
 have g:∀ {j:Nat} {q:bJ},aS[j]?=some q->(aS++more)[j]?=some q:=fun hj=>by rw [List.getElem?_append_left (List.getElem?_eq_some_iff.1 hj).1];exact hj
 refine ⟨fun x hx=>?_,fun x hx=>?_⟩
 ·rcases h.1 x hx with h1|⟨j,h1,q,h2,h3⟩
  ·exact .inl h1
  ·exact .inr ⟨j,h1,q,g h2,h3⟩
 ·rcases h.2 x hx with h1|⟨j,h1,q,h2,h3⟩
  ·exact .inl h1
  ·exact .inr ⟨j,h1,q,g h2,h3⟩
theorem tI {st:aK} {aS:List bJ}:∀ {rs:List bJ},(∀ r∈rs,Seen st aS r)->lA st aS rs
 |[],_=>trivial
 |r::rs,h=>⟨⟨fu (h r List.mem_cons_self).1,fu (h r List.mem_cons_self).2⟩,tI fun q hq=>h q (List.mem_cons_of_mem _ hq)⟩
def PD (P:Program) (ops:Array Oper) (st:aK) (K:List bJ->Prop) (i:Nat) (racc:List bJ) (n:Nat) (l:List Oper):Prop:=
 racc.length=i->(∀ r∈racc,Seen st racc.reverse r)->∃ rows,jN P ops rows l/\(∀ r∈racc.reverse++rows,Seen st (racc.reverse++rows) r)/\K (racc.reverse++rows)
section
variable {P:Program} {ops:Array Oper} {st:aK} {K:List bJ->Prop} {i n:Nat} {racc:List bJ} {l:List Oper}
theorem Ct {o:Oper} {r:bJ} {n':Nat} (hr:mW P ops r o) (hs:racc.length=i->Seen st racc.reverse r) (h:PD P ops st K (i+1) (r::racc) n' l):PD P ops st K i racc n (o::l):=fun hl hsee=>by
 obtain ⟨rows,h1,h2,h3⟩:=h (by rw [List.length_cons,hl]) (fun q hq=>by
  rw [List.reverse_cons]
  rcases List.mem_cons.1 hq with rfl|hq
  ·exact (hs hl).more
  ·exact (hsee q hq).more)
 rw [List.reverse_cons,List.append_assoc] at h2 h3
 exact ⟨r::rows,⟨hr,h1⟩,h2,h3⟩
theorem aU {o:Oper} {v:AV} {nb:List (Nat×AB)} {E pre pre':List Nat} {sv:List (Nat×AV)} {hv:List (Nat×AB)} {n':Nat} (ts ks:List Nat) (hs:gX st.s racc i ts=(sv,pre)) (hh:gC st.h racc i ks=(hv,pre'))
  (hr:mW P ops ⟨o.dst,v,nb,E,pre++pre',sv,hv⟩ o) (hn:jb nb n=n') (h:PD P ops st K (i+1) (⟨o.dst,v,nb,E,pre++pre',sv,hv⟩::racc) n' l):PD P ops st K i racc n (o::l):=
 Ct hr (fun hl=>⟨fun x hx=>by
  rcases rf hl hs x hx with h1|⟨j,h1,h2⟩
  ·exact .inl h1
  ·exact .inr ⟨j,List.mem_append_left _ h1,h2⟩,fun x hx=>by
  rcases rh hl hh x hx with h1|⟨j,h1,h2⟩
  ·exact .inl h1
  ·exact .inr ⟨j,List.mem_append_right _ h1,h2⟩⟩) h
end
def jZ:Operand->List Nat->List Nat
 |.tmp t,l=>t::l
 |_,l=>l
def Ip:List (Nat×Operand)->List Nat
 |[]=>[]
 |(_,x)::l=>jZ x (Ip l)
def CU:Op->List Nat
 |.move x=>jZ x []
 |.assign x=>jZ x []
 |.pick c x y=>jZ c (jZ x (jZ y []))
 |.nilCheck x=>jZ x []
 |.fieldAddr _ x _=>jZ x []
 |.load _ x=>jZ x []
 |.binOp _ _ x y _=>jZ x (jZ y [])
 |.unOp _ _ x=>jZ x []
 |.extract x _=>jZ x []
 |.build _ ps=>Ip ps.toList
 |.box _ x=>jZ x []
 |_=>[]
def FT (ops:Array Oper) (o:Oper):List Nat:=
 match o.guard with
 |none=>CU o.op
 |some (j,_)=>match (ops[j]?).bind (·.dst) with
  |some t=>t::CU o.op
  |none=>CU o.op
def tg (s:List (Nat×AV)):Op->List Nat
 |.load _ x=>match jB s x with
  |some (.v (.c (.p k _ _ _)))=>[k]
  |_=>[]
 |_=>[]
def oy (kn:List (Nat×Bool)) (d:Nat) (v:AV):AV×List (Bool×Bool):=
 match look kn d with
 |none=>(v,[])
 |some c=>match v with
  |.v (.c (.d (.v (.bool b))))=>(.v (.c (.d (.v (.bool c)))),[(b,c)])
  |v=>(v,[])
theorem yY {kn:List (Nat×Bool)} {d:Nat} {v v':AV} {ob:List (Bool×Bool)} (h:oy kn d v=(v',ob)) (ho:∀ x∈ob,x.1=x.2):v=v':=by
 unfold oy at h
 split at h
 ·exact (Prod.mk.inj h).1
 ·split at h
  ·rename_i c _ _ b
   obtain ⟨h1,h2⟩:=Prod.mk.inj h
   have:=ho (b,c) (by rw [<-h2];exact List.mem_singleton_self _)
   dsimp only at this
   rw [<-h1,this]
  ·exact (Prod.mk.inj h).1
def wo (ops:Array Oper) (T:List (Nat×TI)) (st:aK) (kn:List (Nat×Bool)) (i:Nat) (racc:List bJ) (n:Nat) (o:Oper):Option (bJ×Nat×List (Bool×Bool)):=
 match o.dst with
 |none=>none
 |some d=>match gX st.s racc i (FT ops o) with
  |(sv,pre)=>match pI ops sv o with
   |none=>none
   |some false=>some (⟨some d,.t [],[],[],pre,sv,[]⟩,n,[])
   |some true=>match o.op with
    |.alloc t=>(match look T t with
     |none=>none
     |some ti=>bif ti.zero.isEmpty then none else (match nK ti.zero with
      |some cs=>some (⟨some d,.v (.c (.p n 0 0 0)),[(n,.box t cs)],[],pre,sv,[]⟩,n+1,[])
      |none=>none))
    |.box t x=>(match jB sv x with
     |some (.v (.c c))=>bif c.known then some (⟨some d,.v (.c (.p n 0 0 0)),[(n,.box t [c])],[],pre,sv,[]⟩,n+1,[]) else none
     |some (.v (.g cs))=>some (⟨some d,.v (.c (.p n 0 0 0)),[(n,.box t cs)],[],pre,sv,[]⟩,n+1,[])
     |_=>none)
    |op=>match gC st.h racc i (tg sv op) with
     |(hv,pre')=>match BN T sv hv op with
      |none=>none
      |some v=>match oy kn d v with
       |(v',ob)=>some (⟨some d,v',[],[],pre++pre',sv,hv⟩,n,ob)
def CL (ops:Array Oper) (T:List (Nat×TI)) (st:aK) (kn:List (Nat×Bool)):Nat->Nat->List bJ->Nat->List Oper->Option (Nat×List bJ×Nat×List Oper×List (Bool×Bool))
 |0,i,racc,n,l=>some (i,racc,n,l,[])
 |_+1,i,racc,n,[]=>some (i,racc,n,[],[])
 |k+1,i,racc,n,o::l=>match wo ops T st kn i racc n o with
  |none=>none
  |some (r,n',ob)=>match CL ops T st kn k (i+1) (r::racc) n' l with
   |none=>none
   |some (i2,racc2,n2,l2,ob2)=>match ob with
    |[]=>some (i2,racc2,n2,l2,ob2)
    |x::_=>some (i2,racc2,n2,l2,x::ob2)
section
variable {P:Program} {ops:Array Oper} {st:aK} {K:List bJ->Prop} {T:List (Nat×TI)} {kn:List (Nat×Bool)}
theorem EN (hT:gH P T) {i n n':Nat} {racc:List bJ} {o:Oper} {r:bJ} {ob:List (Bool×Bool)} (h:wo ops T st kn i racc n o=some (r,n',ob)) (hob:∀ x∈ob,x.1=x.2):mW P ops r o/\(racc.length=i->Seen st racc.reverse r):=by
 unfold wo at h
 split at h
 ·cases h
 rename_i d hd
 cases hv:gX st.s racc i (FT ops o) with
 |mk sv pre=>
  rw [hv] at h
  dsimp only at h
  have hsee:racc.length=i->∀ x∈sv,Ei st.s racc.reverse pre x:=fun hl=>rf hl hv
  have none_:∀ x∈([]:List (Nat×AB)),Ej st.h racc.reverse pre x:=fun x hx=>by cases hx
  split at h
  ·cases h
  ·rename_i hg
   simp only [Option.some.injEq,Prod.mk.injEq] at h
   obtain ⟨rfl,_,_⟩:=h
   exact ⟨.inr ⟨(iW (s:=sv) (h:=[]) (n:=0) hg).2 rfl,rfl,rfl,rfl⟩,fun hl=>⟨hsee hl,none_⟩⟩
  ·rename_i hg
   have hw:∀ hh,ak ops o ⟨sv,hh,0⟩:=fun hh=>(iW hg).1 rfl
   split at h
   ·rename_i t ho
    split at h
    ·cases h
    rename_i ti ht
    cases hz:ti.zero.isEmpty with
    |true=>rw [hz] at h;cases h
    |false=>
     rw [hz] at h
     simp only [cond_false] at h
     split at h
     ·rename_i cs hcs
      simp only [Option.some.injEq,Prod.mk.injEq] at h
      obtain ⟨rfl,_,_⟩:=h
      have h2:ti.zero≠[]:=fun e=>by rw [e] at hz;simp at hz
      have h4:=(hT.get ht).zero.resolve_left h2
      cases hz2:(P.info? t).bind (·.zero) with
      |none=>rw [hz2] at h4;exact absurd h4.1 (by simp)
      |some z=>
       rw [hz2] at h4
       exact ⟨.inl ⟨hw _,tU n ho hz2 (Option.some.inj h4.1) h4.2 (mg hcs)⟩,fun hl=>⟨hsee hl,none_⟩⟩
     ·cases h
   ·rename_i t x ho
    split at h
    ·rename_i c hx
     cases hk:c.known with
     |false=>rw [hk] at h;cases h
     |true=>
      rw [hk] at h
      simp only [cond_true,Option.some.injEq,Prod.mk.injEq] at h
      obtain ⟨rfl,_,_⟩:=h
      exact ⟨.inl ⟨hw _,xa n ho (eF hx) hk⟩,fun hl=>⟨hsee hl,none_⟩⟩
    ·rename_i cs hx
     simp only [Option.some.injEq,Prod.mk.injEq] at h
     obtain ⟨rfl,_,_⟩:=h
     exact ⟨.inl ⟨hw _,wZ n ho (eF hx)⟩,fun hl=>⟨hsee hl,none_⟩⟩
    ·cases h
   ·cases hvh:gC st.h racc i (tg sv o.op) with
    |mk hv pre'=>
     rw [hvh] at h
     dsimp only at h
     split at h
     ·cases h
     rename_i v he
     cases hdv:oy kn d v with
     |mk v' ob'=>
      rw [hdv] at h
      simp only [Option.some.injEq,Prod.mk.injEq] at h
      obtain ⟨rfl,_,rfl⟩:=h
      have:=yY hdv hob
      subst this
      refine ⟨.inl ⟨hw _,xf hT he⟩,fun hl=>⟨fun x hx=>?_,fun x hx=>?_⟩⟩
      ·rcases hsee hl x hx with h1|⟨j,h1,h2⟩
       ·exact .inl h1
       ·exact .inr ⟨j,List.mem_append_left _ h1,h2⟩
      ·rcases rh hl hvh x hx with h1|⟨j,h1,h2⟩
       ·exact .inl h1
       ·exact .inr ⟨j,List.mem_append_right _ h1,h2⟩
theorem xj {kn:List (Nat×Bool)} {d:Nat} {v v':AV} {ob:List (Bool×Bool)} (h:oy kn d v=(v',ob)):ob.length<=1:=by
 unfold oy at h
 split at h
 ·rw [<-(Prod.mk.inj h).2];exact Nat.zero_le _
 ·split at h
  ·rw [<-(Prod.mk.inj h).2];exact Nat.le_refl _
  ·rw [<-(Prod.mk.inj h).2];exact Nat.zero_le _
theorem CP {i n n':Nat} {racc:List bJ} {o:Oper} {r:bJ} {ob:List (Bool×Bool)} (h:wo ops T st kn i racc n o=some (r,n',ob)):ob.length<=1:=by
 unfold wo at h
 split at h
 ·cases h
 rename_i d hd
 dsimp only at h
 split at h
 ·cases h
 ·simp only [Option.some.injEq,Prod.mk.injEq] at h;rw [<-h.2.2];exact Nat.zero_le _
 ·split at h
  ·split at h
   ·cases h
   rename_i ti _
   cases hz:ti.zero.isEmpty with
   |true=>rw [hz] at h;cases h
   |false=>
    rw [hz] at h
    simp only [cond_false] at h
    split at h
    ·simp only [Option.some.injEq,Prod.mk.injEq] at h;rw [<-h.2.2];exact Nat.zero_le _
    ·cases h
  ·split at h
   ·rename_i c _
    cases hk:c.known with
    |false=>rw [hk] at h;cases h
    |true=>rw [hk] at h;simp only [cond_true,Option.some.injEq,Prod.mk.injEq] at h;rw [<-h.2.2];exact Nat.zero_le _
   ·simp only [Option.some.injEq,Prod.mk.injEq] at h;rw [<-h.2.2];exact Nat.zero_le _
   ·cases h
  ·split at h
   ·cases h
   ·rename_i v _
    cases hdv:oy kn d v with
    |mk v' ob'=>
     rw [hdv] at h
     simp only [Option.some.injEq,Prod.mk.injEq] at h
     rw [<-h.2.2];exact xj hdv
theorem aE (hT:gH P T):∀ (k:Nat) {i i' n n':Nat} {racc racc':List bJ} {l l':List Oper} {ob:List (Bool×Bool)},CL ops T st kn k i racc n l=some (i',racc',n',l',ob)->dq (fun x=>x.1=x.2) ob->PD P ops st K i' racc' n' l'->PD P ops st K i racc n l
 |0,i,i',n,n',racc,racc',l,l',ob,h,_,k=>by
  have:some (i,racc,n,l,([]:List (Bool×Bool)))=some (i',racc',n',l',ob):=by rw [<-h];cases l<;>rfl
  simp only [Option.some.injEq,Prod.mk.injEq] at this
  obtain ⟨rfl,rfl,rfl,rfl,_⟩:=this
  exact k
 |_+1,i,i',n,n',racc,racc',[],l',ob,h,_,k=>by
  have:some (i,racc,n,([]:List Oper),([]:List (Bool×Bool)))=some (i',racc',n',l',ob):=by rw [<-h];rfl
  simp only [Option.some.injEq,Prod.mk.injEq] at this
  obtain ⟨rfl,rfl,rfl,rfl,_⟩:=this
  exact k
 |f+1,i,i',n,n',racc,racc',o::l,l',ob,h,hob,k=>by
  unfold CL at h
  split at h
  ·cases h
  rename_i r n1 ob1 hr
  split at h
  ·cases h
  rename_i i2 racc2 n2 l2 ob2 h2
  have hone:=CP hr
  have key:i2=i'/\racc2=racc'/\n2=n'/\l2=l'/\(∀ x∈ob1,x∈ob)/\∀ x∈ob2,x∈ob:=by
   split at h
   ·simp only [Option.some.injEq,Prod.mk.injEq] at h
    obtain ⟨h1,h2,h3,h4,rfl⟩:=h
    exact ⟨h1,h2,h3,h4,(fun x hx=>by cases hx),fun x hx=>hx⟩
   ·rename_i y ys
    simp only [Option.some.injEq,Prod.mk.injEq] at h
    obtain ⟨h1,h2,h3,h4,rfl⟩:=h
    have hys:ys=[]:=by simpa using hone
    subst hys
    exact ⟨h1,h2,h3,h4,fun x hx=>by rw [List.mem_singleton.1 hx];exact List.mem_cons_self,fun x hx=>List.mem_cons_of_mem _ hx⟩
  obtain ⟨rfl,rfl,rfl,rfl,k1,k2⟩:=key
  have hob:=hob.mem
  obtain ⟨h3,h4⟩:=EN hT hr fun x hx=>hob x (k1 x hx)
  exact Ct h3 h4 (aE hT f h2 (fu fun x hx=>hob x (k2 x hx)) k)
end
def zV:List bJ->List (Nat×AV)->Option (List (Nat×AV))
 |[],s=>some s
 |r::l,s=>match zV l s with
  |none=>none
  |some s'=>match r.dst with
   |some d=>some ((d,r.v)::s')
   |none=>some s'
def zW:List bJ->List (Nat×AB)->Option (List (Nat×AB))
 |[],h=>some h
 |r::l,h=>match zW l h with
  |none=>none
  |some h'=>some (r.nb++h')
theorem xc:∀ {l:List bJ} {s s':List (Nat×AV)},zV l s=some s'->∀ x∈s',x∈s\/∃ r∈l,r.dst=some x.1/\r.v=x.2
 |[],s,s',h,x,hx=>by cases h;exact .inl hx
 |r::l,s,s',h,x,hx=>by
  unfold zV at h
  split at h
  ·cases h
  rename_i s1 h1
  have ih:=xc h1
  split at h
  ·rename_i d hd
   injection h with h;subst h
   rcases List.mem_cons.1 hx with rfl|hx
   ·exact .inr ⟨r,List.mem_cons_self,hd,rfl⟩
   ·rcases ih x hx with h2|⟨q,h2,h3⟩
    ·exact .inl h2
    ·exact .inr ⟨q,List.mem_cons_of_mem _ h2,h3⟩
  ·injection h with h;subst h
   rcases ih x hx with h2|⟨q,h2,h3⟩
   ·exact .inl h2
   ·exact .inr ⟨q,List.mem_cons_of_mem _ h2,h3⟩
theorem xd:∀ {l:List bJ} {s s':List (Nat×AB)},zW l s=some s'->∀ x∈s',x∈s\/∃ r∈l,x∈r.nb
 |[],s,s',h,x,hx=>by cases h;exact .inl hx
 |r::l,s,s',h,x,hx=>by
  unfold zW at h
  split at h
  ·cases h
  rename_i s1 h1
  have ih:=xd h1
  injection h with h;subst h
  rcases List.mem_append.1 hx with hx|hx
  ·exact .inr ⟨r,List.mem_cons_self,hx⟩
  ·rcases ih x hx with h2|⟨q,h2,h3⟩
   ·exact .inl h2
   ·exact .inr ⟨q,List.mem_cons_of_mem _ h2,h3⟩
section
variable {P:Program} {W0:World} {F:Nat->Prop} {N:NT} {T0:Nat->Prop} {pin:List (Nat×bR)} {Q:Exit->aK->Prop}
def At (P:Program) (W0:World) (F:Nat->Prop) (N:NT) (T0:Nat->Prop) (pin:List (Nat×bR)) (Q:Exit->aK->Prop) (l:List Oper) (st:aK) (aS:List bJ):Prop:=
 (∀ x∈st.s,look st.s x.1=some x.2)->(∀ x∈st.h,look st.h x.1=some x.2)->∃ fin,qp l.toArray aS N.1 st fin=true/\vM st aS fin/\AL P W0 F N T0 pin l.toArray Q (l.drop aS.length) fin
theorem uN {α:Type}:∀ {l:List (Nat×α)} {x:Nat×α},x∈l->∃ v,look l x.1=some v
 |y::l,x,h=>by
  obtain ⟨k,v⟩:=y
  rw [bS]
  split
  ·exact ⟨v,rfl⟩
  ·rename_i hne
   rcases List.mem_cons.1 h with rfl|h
   ·exact absurd rfl hne
   ·exact uN h
theorem mM {α:Type} {s:List (Nat×α)} {ts:List Nat} {r:List (Nat×α)} (h:jO s ts=some r):∀ x∈r,look r x.1=some x.2:=fun x hx=>by
 obtain ⟨v,hv⟩:=uN hx
 have h1:=jo h hv
 rw [lU h x hx] at h1
 rw [hv,h1]
theorem ba {id:Nat} {l:List Oper} {s s0:List (Nat×AV)} {h h0:List (Nat×AB)} {n:Nat} (lv hv:List Nat) (hm:P.follows .mixedOrders=true) (h1:jO s lv=some s0) (h2:jO h hv=some h0)
  (k:PD P l.toArray ⟨s0,h0,n⟩ (At P W0 F N T0 pin Q l ⟨s0,h0,n⟩) 0 [] n l):AC P W0 F N T0 pin Q (.region id l.toArray true) ⟨s,h,n⟩:=by
 refine iF (st':=⟨s0,h0,n⟩) (aF.sub (fun i v hi=>jo h1 hi) (fun i v hi=>jo h2 hi) rfl) ?_
 obtain ⟨rows,h3,h4,h5'⟩:=k rfl (fun r hr=>by cases hr)
 obtain ⟨fin,h5,h6,h7⟩:=h5' (mM h1) (mM h2)
 exact FD rows fin hm h5 h3 (tI h4) h6 h7
theorem bC {l l':List Oper} {s0 fs:List (Nat×AV)} {h0 h1 fh:List (Nat×AB)} {n0 i n:Nat} {racc:List bJ} (ev:List Nat) (hs:zV racc s0=some fs) (hh:zW racc h0=some h1) (he:jO h1 ev=some fh) (hd:l.drop i=l')
  (hB:qp l.toArray racc.reverse N.1 ⟨s0,h0,n0⟩ ⟨fs,fh,n⟩=true) (k:AL P W0 F N T0 pin l.toArray Q l' ⟨fs,fh,n⟩):
  PD P l.toArray ⟨s0,h0,n0⟩ (At P W0 F N T0 pin Q l ⟨s0,h0,n0⟩) i racc n l':=fun hl hsee=>by
 refine ⟨[],trivial,by rw [List.append_nil];exact fun r hr=>hsee r (List.mem_reverse.1 hr),?_⟩
 rw [List.append_nil]
 have at_:∀ r∈racc,∃ j,racc.reverse[j]?=some r:=fun r hr=>List.getElem?_of_mem (List.mem_reverse.2 hr)
 refine fun hs0 hh0=>⟨⟨fs,fh,n⟩,hB,⟨fu fun x hx=>?_,fu fun x hx=>?_⟩,?_⟩
 ·rcases xc hs x hx with h1|⟨r,h1,h2,h3⟩
  ·exact .inl (hs0 x h1)
  ·obtain ⟨j,hj⟩:=at_ r h1
   exact .inr ⟨j,r,hj,h2,h3⟩
 ·rcases xd hh x (bO (lU he x hx)) with h1|⟨r,h1,h2⟩
  ·exact .inl (hh0 x h1)
  ·obtain ⟨j,hj⟩:=at_ r h1
   exact .inr ⟨j,r,hj,h2⟩
 ·rw [List.length_reverse,hl,hd];exact k
end
end
end Go.Proofs.Ytegepioggeggaaa.Dev
