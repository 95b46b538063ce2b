/- A part of the proof: Sh27, Sh28, PlDel, PlPace, PlCard, PlPost, Sh29, Sh30, Sh31. No condition. -/
import Derived.Test.YtegepioggeggaaaD03
set_option linter.unusedVariables false
set_option linter.unusedSimpArgs false
namespace Go.Proofs.Ytegepioggeggaaa.Dev
open Go.RowKit
section
section
variable {P:Program}
theorem cJ.DE {f:FuncId} {fn:Func} {c:Code} {ins:List GV} {bQ:List (Nat×AB)} {cO:List Nat} {av:AV} {nb:List (Nat×AB)} (N:Nat) (s:List (Nat×AV)) (n:Nat) (hf:P.funcs[f]?=some fn) (hb:fn.body=some c) (hn:fn.ntmps=N) (hN:Nat.ble ins.length N=true) (hs:slotsOf 0 ins=s)
  (hin0:eg (keys bQ)=true) (hin1:bQ.all (fun x=>Nat.blt x.1 n)=true) (hok:ins.all (GV.ok (br bQ))=true) (hokb:bQ.all (fun x=>x.2.ok (br bQ))=true) (hkeep:cO.all (fun k=>br bQ k)=true)
  (h:∀ (W0:World) (F T:Nat->Prop) (pg:Nat->bO),(∀ b,F b->∃ k∈keys bQ,(pg k).g=b)->AC P W0 F (N,[]) T (cO.map fun k=>(k,pg k)) (jY P fn (cO.map fun k=>(k,pg k)) av nb) c ⟨s,bQ,n⟩):cJ P f ins bQ cO av nb:=by
 subst hn hs
 intro T σ w args hT hheap hinj hk hargs
 have hlen:=hargs.length
 have hlen:ins.length=args.size:=by simpa using hlen
 have hN:=Nat.le_of_ble_eq_true hN
 let σ0:Nat->Option bO:=fun k=>if br bQ k=true then σ k else none
 have hσ:∀ k,br bQ k=true->σ0 k=σ (id k):=fun k hk=>if_pos hk
 have hnd:=jE hin0
 let pg:Nat->bO:=fun k=>(σ k).getD ⟨0,0⟩
 have F:Nat->Prop:=fun b=>True
 clear F
 refine calls_of_wp hf hb (Code.wp_mono ?_ (h w (fun b=>∃ k∈keys bQ,∃ g,σ k=some g/\g.g=b) T pg (fun b ⟨k,hk,g,hg,hb⟩=>⟨k,hk,by show ((σ k).getD ⟨0,0⟩).g=b;rw [hg];exact hb⟩) _ w ⟨σ0,T,fun _ _=>⟨fun h=>h,fun h=>h⟩,⟨⟨?_,?_,?_,hT⟩,rfl,rfl,rfl,Nat.le_refl _,fun _ _ _=>rfl,?_,?_,?_,?_,rfl⟩,?_⟩))
 ·rintro e a' w' ⟨st,⟨he,st',gs,hw,hr,rfl,hnb⟩,hI⟩
  obtain ⟨σ',T',hT',S,hp⟩:=hw _ _ _ _ _ _ hI
  obtain ⟨v,hv,hrel⟩:=mo S.core hr
  have hpost:a'.defers=[]/\∃ v,(results fn a'.tmps).run P w'=.ok v w'/\∃ v' σ' T',Ending.returned v=.returned v'/\Ca σ T w bQ cO w' σ' T' (fM gs) nb v':=by
   refine ⟨S.jb,v,hv,v,σ',T',rfl,S.os,S.tape,S.output,S.size,fun b hb hno=>S.cG b hb ?_,hrel,fun b hb=>(hT' b hb).1,fun b hb=>(hT' b (hT b hb)).2 hb,S.core.ep,fun k b hk=>S.core.heap k b (hnb.mem _ hk),fun k b g hk hg=>?_,
    fun k k' b b' g g' hk hk' hg hg' hgg=>S.core.inj k k' b b' g g' (hnb.mem _ hk) (hnb.mem _ hk') hg hg' hgg,fun k hkk=>?_⟩
   ·rintro ⟨k,hk,g,hg,hgb⟩;exact hno k hk g hg hgb
   ·rcases S.own k b g (hnb.mem _ hk) hg with h|⟨e,he,g',hg',hgg⟩
    ·exact .inl h
    ·exact .inr ⟨e,he,g',hg',hgg⟩
   ·obtain ⟨g,hg⟩:=hk k hkk
    have hl:=oq pg hkk
    have hpg:pg k=g:=by show (σ k).getD ⟨0,0⟩=g;rw [hg];rfl
    rw [hg,<-hpg]
    exact hp k _ hl
  rcases he with rfl|rfl<;>exact hpost
 ·intro i v hi
  obtain ⟨g,rfl,_,hg⟩:=lz hi
  obtain ⟨x,hx,hrel⟩:=hargs.get hg
  have hx':(args++Array.replicate (fn.ntmps - args.size) undef).getD i undef=x:=by
   rw [Nat.sub_zero] at hx
   have hlt:=(List.getElem?_eq_some_iff.1 hx).1
   rw [Array.getD_eq_getD_getElem?,Array.getElem?_append_left (by simpa using hlt),<-Array.getElem?_toList,hx]
   rfl
  rw [hx']
  have hgo:=List.all_eq_true.1 hok g (List.mem_of_getElem? hg)
  have hid:g.map id=g:=by cases g with
   |c x=>cases x<;>simp [GV.map,CV.map]
   |g xs=>
    have:xs.map (CV.map id)=xs:=by
     induction xs with
     |nil=>rfl
     |cons y l ih=>
      have hy:y.map id=y:=by cases y<;>simp [CV.map]
      simp only [List.map_cons,hy]
      congr 1
      induction l with
      |nil=>rfl
      |cons z l _=>exact (by
        have hz:∀ c:CV,c.map id=c:=fun c=>by cases c<;>simp [CV.map]
        exact List.map_congr_left (fun c _=>hz c)|>.trans (List.map_id _))
    simp [GV.map,this]
  exact dj.bR (ρ:=id) hσ (x:=g) (by rw [hid];exact hrel) hgo
 ·intro k b hk
  have hm:=bL hk
  have hkin:br bQ k=true:=cV hm
  rw [hσ k hkin]
  have hgo:=List.all_eq_true.1 hokb _ hm
  refine di.bR (ρ:=id) hσ ?_ hgo
  have hz:∀ c:CV,c.map id=c:=fun c=>by cases c<;>simp [CV.map]
  have hid:b.map' id=b:=by cases b with
   |box t cs=>simp only [AB.map'];congr 1;exact (List.map_congr_left (fun c _=>hz c)).trans (List.map_id _)
   |arr=>rfl
   |map=>rfl
  rw [hid]
  exact hheap k b hm
 ·intro k k' b b' g g' hk hk' hg hg' hgg
  rw [hσ k (cV (bL hk))] at hg
  rw [hσ k' (cV (bL hk'))] at hg'
  exact hinj k k' b b' g g' (bL hk) (bL hk') hg hg' hgg
 ·intro k b g hk hg
  rw [hσ k (cV (bL hk))] at hg
  exact .inr ⟨k,List.mem_map.2 ⟨(k,b),bL hk,rfl⟩,g,hg,rfl⟩
 ·intro k hk
  refine if_neg fun hkin=>?_
  obtain ⟨b,hb⟩:=gj hkin
  have:=List.all_eq_true.1 hin1 _ hb
  rw [Nat.blt_eq] at this
  have:k < n:=this
  have hk:n<=k:=hk
  omega
 ·intro k b hk
  have:=List.all_eq_true.1 hin1 _ (bL hk)
  rw [Nat.blt_eq] at this
  exact this
 ·simp;omega
 ·intro k g hl
  obtain ⟨k',hk',he⟩:=List.mem_map.1 (bL hl)
  injection he with e1 e2
  subst e1
  have hkin:=List.all_eq_true.1 hkeep k' hk'
  rw [hσ k' hkin]
  obtain ⟨g',hg'⟩:=hk k' hk'
  subst e2
  show σ k'=some ((σ k').getD ⟨0,0⟩)
  rw [hg'];rfl
end
section
variable {P:Program} {W0:World} {N:NT} {T0:Nat->Prop} {Q:Exit->aK->Prop} {s s':List (Nat×AV)} {h h':List (Nat×AB)} {n:Nat}
theorem wa {a:Go.Act} {w:World} (k:Nat) (k0:Nat) {g0:bO} {F:Nat->Prop} (hF:∀ b,F b->g0.g=b) (hk0:br h' k0=true) (hk:br h k=true) (hs:dr (fun x=>∃ y,look s x.1=some y/\xy ⟨s,h,n⟩ k (br h') y x.2) s') (hh:dr (fun x=>look h x.1=some x.2) h') (hok:h'.all (fun x=>!Nat.beq x.1 k && x.2.ok (br h'))=true)
  (hI:Inv W0 F N T0 [(k0,g0)] ⟨s,h,n⟩ a w):Inv W0 F N T0 [(k0,g0)] ⟨s',h',n⟩ a w:=by
 obtain ⟨σ,T,hT,S,hp⟩:=hI
 obtain ⟨b0,hb0⟩:=jJ hk
 have hh':∀ j b,look h' j=some b->look h j=some b/\j≠k/\b.ok (br h')=true:=fun j b hj=>by
  have h1:=List.all_eq_true.1 hok _ (bL hj)
  simp only [Bool.and_eq_true,Bool.not_eq_true'] at h1
  exact ⟨hh.mem _ (bL hj),(fun e=>by subst e;rw [Nat.beq_refl] at h1;exact absurd h1.1 (by simp)),h1.2⟩
 have C:=S.core.freeze (st':=⟨s',h',n⟩) k (fun i v hi=>hs.mem _ (bL hi)) hh' ⟨b0,hb0⟩
 have q1:∀ b,b < W0.heap.size->(fD σ T [k] b->T0 b)/\(T0 b->fD σ T [k] b):=fun b hb=>⟨fun hb'=>(hT b hb).1 hb'.1,fun h0=>⟨(hT b hb).2 h0,fun e he g hg hgb=>by
  rw [List.mem_singleton.1 he] at hg
  rcases S.own k b0 g hb0 hg with h1|h1
  ·omega
  ·obtain ⟨b1,hb1⟩:=jJ hk0
   have hb2:=hh' k0 b1 hb1
   exact absurd (S.core.inj k0 k b1 b0 g0 g hb2.1 hb0 (hp k0 g0 (by rw [bT,if_pos rfl])) hg (hF _ h1)) hb2.2.1⟩⟩
 have q2:∀ j b g,look h' j=some b->(if br h' j=true then σ j else none)=some g->W0.heap.size<=g.g\/F g.g:=fun j b g hj hg=>by
  split at hg
  ·exact S.own j b g (hh' j b hj).1 hg
  ·cases hg
 have q3:∀ j,n<=j->(if br h' j=true then σ j else none)=none:=fun j hj=>by
  split
  ·exact S.next j hj
  ·rfl
 exact ⟨_,_,q1,⟨C,S.os,S.tape,S.output,S.size,S.cG,q2,q3,fun j b hj=>S.hn j b (hh' j b hj).1,S.ju,S.jb⟩,fun j g hj=>by
  show (if br h' j=true then σ j else none)=some g
  have h1:=hp j g hj
  rw [bT] at hj
  split at hj
  ·rename_i e;subst e;rw [if_pos hk0];exact h1
  ·cases hj⟩

theorem rG {c:Code} {F:Nat->Prop} {g0:bO} (hF:∀ b,F b->g0.g=b) (k:Nat) (hk0:br h' 0=true) (hk:br h k=true) (hs:dr (fun x=>∃ y,look s x.1=some y/\xy ⟨s,h,n⟩ k (br h') y x.2) s') (hh:dr (fun x=>look h x.1=some x.2) h') (hok:h'.all (fun x=>!Nat.beq x.1 k && x.2.ok (br h'))=true)
  (hn:AC P W0 F N T0 [(0,g0)] Q c ⟨s',h',n⟩):AC P W0 F N T0 [(0,g0)] Q c ⟨s,h,n⟩:=fun a w hI=>hn a w (wa k 0 hF hk0 hk hs hh hok hI)
end
section
variable {P:Program} {W0:World} {F:Nat->Prop} {N:NT} {T0:Nat->Prop} {pin:List (Nat×bO)} {ops:Array Oper} {Q:Exit->aK->Prop}
theorem EW {o:Oper} {rest:List Oper} {s:List (Nat×AV)} {h:List (Nat×AB)} {n d:Nat} {av av':AV} {nb:List (Nat×AB)} (hw:ah ops o ⟨s,h,n⟩) (g:aF P o ⟨s,h,n⟩ av nb []) (hf:EU nb av av') (hd:o.dst=some d) (hN:Nat.blt d N.1=true) (hnb:nb.all (fun x=>Nat.ble n x.1)=true)
  (hr:AL P W0 F N T0 pin ops Q rest ⟨(d,av')::s,h,n⟩):AL P W0 F N T0 pin ops Q (o::rest) ⟨s,h,n⟩:=by
 rintro a w ⟨σ,T,hT,S,hp⟩
 refine wpList_step fun K hK=>?_
 rw [if_pos (hw σ T a w S.core)]
 refine mR (ie (g σ T a w S.core fun k b hk _=>S.next k (Nat.le_of_ble_eq_true (List.all_eq_true.1 hnb _ hk))) ?_)
 rintro a' w' ⟨u,σ',T',rfl,X,hv⟩
 have hfresh:∀ k b g,(k,b)∈nb->σ' k=some g->w.heap.size<=g.g:=fun k b g hk hg=>(X.fresh k b g hk hg).resolve_right (fun ⟨e,he,_⟩=>by cases he)
 have hlow:∀ b,(T' b/\b < w.heap.size)->T' b:=fun b h=>h.1
 have X2:Ext σ T w σ (fun b=>T' b/\b < w.heap.size) w' [] []:=⟨X.os,X.tape,X.output,⟨X.grow.size,X.grow.cG,(fun b ⟨k,hk,_⟩=>by cases hk),fun b hb h=>X.grow.kW b hb h.1,fun _ _ h=>h⟩,fun b h=>⟨X.me b h,S.core.ep b h⟩,fun b h=>X.ep b h.1,fun _ _=>rfl,(fun _ _ h=>by cases h),(fun _ _ _ h=>by cases h),(fun _ _ _ _ _ _ h=>by cases h)⟩
 have hc:∀ c d u,yI nb c d->cU σ' T' w' c u->cU σ (fun b=>T' b/\b < w.heap.size) w' d u:=by
  rintro c d u (⟨x,rfl,rfl⟩|⟨k,t,K,n,rows,rfl,rfl,hk,hn⟩) hu
  ·exact bn.fx hlow hu
  ·have hh:=X.rel k _ (bL hk)
   obtain ⟨hK,hh⟩:=hh
   rcases hu with ⟨h0,rfl⟩|⟨g,hg,rfl,hcap,hmax⟩
   ·subst h0
    have:rows=[]:=List.eq_nil_of_length_eq_zero hn
    subst this
    exact bn.nil _ _ _
   ·rcases hh with ⟨h1,h2⟩|⟨g',vs,h1,h2,h3,h4,h5,h6⟩
    ·rw [hg] at h2;cases h2
    ·rw [hg] at h1;injection h1 with h1;subst h1
     have hfr:=hfresh k _ g (bL hk) hg
     have:=bn.r (T:=fun b=>T' b/\b < w.heap.size) (w:=w') K rows g.g (0 * K) (g.c - 0) (fun i j=>(vs[i * K+j]?).getD undef) (X.ep _ h2) (fun hb=>by have:=hb.2;omega) (by omega) (by omega) (fun i row hr=>(h6.2 i row hr).1) (fun i row j d hr hd=>?_) (fun i row j d hr hd=>?_)
     ·rw [hn] at this;exact this
     ·obtain ⟨u,hu,_⟩:=(h6.2 i row hr).2 j d hd
      rw [Nat.zero_mul,Nat.zero_add,cell_of_row w' g.g (i * K+j) _ _ (0,0) h3]
      simp only [List.getElem?_toArray,hu,Option.getD_some]
     ·obtain ⟨u,hu,hr'⟩:=(h6.2 i row hr).2 j d hd
      simp only [hu,Option.getD_some]
      exact hr'.fx hlow
 have hgv:∀ c d u,yH nb c d->dj σ' T' w' c u->dj σ (fun b=>T' b/\b < w.heap.size) w' d u:=by
  intro c d u hcd hu
  match c,d,hcd with
  |.c c,.c d,hcd=>exact hc c d u hcd hu
  |.g cs,.g ds,hcd=>obtain ⟨vs,h1,h2⟩:=hu;exact ⟨vs,h1,cf.comp (fun x y z h1 h2=>hc x y z h1 h2) hcd h2⟩
 have hv2:eA σ (fun b=>T' b/\b < w.heap.size) w' av' u:=by
  match av,av',hf with
  |.v c,.v d,hf=>exact hgv c d u hf hv
  |.t cs,.t ds,hf=>obtain ⟨vs,h1,h2⟩:=hv;exact ⟨vs,h1,cf.comp (fun x y z h1 h2=>hgv x y z h1 h2) hf h2⟩
 have hS:=S.step (nb:=[]) (E:=[]) (dst:=o.dst) (fun _ h=>by cases h) (fun d' h'=>by rw [hd] at h';injection h' with h';subst h';rw [Nat.blt_eq] at hN;exact hN) X2 hv2
 rw [add_nil,hd] at hS
 rw [hd]
 exact hK _ _ (hr _ _ ⟨σ,_,fun b hb=>⟨fun hb'=>(hT b hb).1 (X.grow.kW b (Nat.lt_of_lt_of_le hb S.size) hb'.1),fun h0=>⟨X.me b ((hT b hb).2 h0),Nat.lt_of_lt_of_le hb S.size⟩⟩,hS,hp⟩)
end
end
section
def mj (a:Answer):Value:=.agg #[.int .i64 a.err,.int .i64 a.ba]
def tV (ps:List (Int×Answer)):List (Int×Value):=ps.map fun p=>(p.1,mj p.2)
def fF:List (Int×Answer)->Int->Option Answer
 |[],_=>none
 |(k,v)::l,a=>if k=a then some v else fF l a
def ml:List (Int×Answer)->Int->Answer->List (Int×Answer)
 |[],a,v=>[(a,v)]
 |(k,u)::l,a,v=>if k=a then (a,v)::l else (k,u)::ml l a v
theorem oC {a:Int}:∀ {ps:List (Int×Answer)} {ms:List MapEntry} (i:Nat),ms.map (fun e=>(e.key,e.val))=(tV ps).map (fun e=>(Value.int .i64 e.1,e.2))->
  (∃ j v,Instr.findNow (.int .i64) (.int .i64 a) ms i=some (some (i+j,mj v))/\fF ps a=some v/\(∃ e,ms[j]?=some e/\e.key=.int .i64 a)/\∀ u,tV (ml ps a u)=(tV ps).set j (a,mj u))\/
  (Instr.findNow (.int .i64) (.int .i64 a) ms i=some none/\fF ps a=none/\∀ u,ml ps a u=ps++[(a,u)])
 |[],[],i,_=>.inr ⟨rfl,rfl,fun _=>rfl⟩
 |[],_::_,_,h=>by cases h
 |_::_,[],_,h=>by cases h
 |(k,v)::ps,e::ms,i,h=>by
  obtain ⟨h1,h2⟩:=List.cons.inj h
  injection h1 with h3 h4
  unfold Instr.findNow fF ml
  rw [h3,h4]
  by_cases hk:k=a
  ·subst hk
   exact .inl ⟨0,v,by simp [Instr.sameNow],by simp,⟨e,rfl,h3⟩,fun u=>by simp [tV]⟩
  ·have hk':(a==k)=false:=beq_eq_false_iff_ne.2 fun e=>hk e.symm
   rcases oC (ps:=ps) (ms:=ms) (a:=a) (i+1) h2 with ⟨j,w,h5,h6,⟨e',h7,h8⟩,h9⟩|⟨h5,h6,h7⟩
   ·refine .inl ⟨j+1,w,?_,by simp [hk,h6],⟨e',by simpa using h7,h8⟩,fun u=>?_⟩
    ·simp only [Instr.sameNow,hk',h5]
     simp [show i+1+j=i+(j+1) by omega]
    ·rw [if_neg hk]
     have:=h9 u
     simp only [tV] at this ⊢
     simp [this]
   ·exact .inr ⟨by simp [Instr.sameNow,hk',h5],by simp [hk,h6],fun u=>by rw [if_neg hk,h7];rfl⟩
section
variable {P:Program} {st:aK} {o:Oper}
theorem zQ {t kt et:TypeId} {m x:Operand} {k cl:Nat} {a:Int} {ps:List (Int×Answer)} (hu:P.underlying t=some (.map kt et)) (hkt:P.underlying kt=some (.int .i64)) (hz:(P.info? et).bind (fun i=>i.zero)=some (.agg #[.int .i64 0,.int .i64 0])) (ho:o.op=.lookup t m x true)
  (hm:ev st m (.v (.c (.m k)))) (hx:ev st x (.v (.c (.d (.v (.int .i64 a)))))) (hb:look st.h k=some (.map (tV ps) cl)):
  aF P o st (.t [.g [cI ((fF ps a).getD ⟨0,0⟩).err,cI ((fF ps a).getD ⟨0,0⟩).ba],.c (cB (fF ps a).isSome)]) [] []:=
 aF.val fun σ T ac w C=>by
  obtain ⟨g,h1,h2⟩:=bD C hm
  have h3:=bn.inv (bD C hx)
  obtain ⟨g',ms,e1,e2,e3,e4⟩:=C.heap k _ hb
  rw [h1] at e1;injection e1 with e1;subst e1
  refine ⟨.tuple #[mj ((fF ps a).getD ⟨0,0⟩),.bool (fF ps a).isSome],?_,⟨_,rfl,⟨_,rfl,bn.v _ rfl,bn.v _ rfl,trivial⟩,bn.v _ rfl,trivial⟩⟩
  cases hq:P.info? et with
  |none=>simp [hq] at hz
  |some i=>
   have hzz:i.zero=some (.agg #[.int .i64 0,.int .i64 0]):=by simpa [hq] using hz
   unfold execOp
   rcases oC (a:=a) 0 e4 with ⟨j,v,hf,hg,_⟩|⟨hf,hg,_⟩
   ·simp [ho,h2,h3,hg,Instr.lookup,run_underlying hu,MapKept.run_getObj_map e3,MapKept.run_checkKey hkt (show MapKept.IsKey (.int .i64) (.int .i64 a) from rfl),MapKept.run_findKey hkt hf,Result.andThen]
   ·simp [ho,h2,h3,hg,Instr.lookup,run_underlying hu,MapKept.run_getObj_map e3,MapKept.run_checkKey hkt (show MapKept.IsKey (.int .i64) (.int .i64 a) from rfl),MapKept.run_findKey hkt hf,Result.andThen,zeroValue,typeInfo,hq,hzz,mj]
theorem zO {t kt et:TypeId} {m x y:Operand} {k cl:Nat} {a e u:Int} {ps:List (Int×Answer)} (hu:P.underlying t=some (.map kt et)) (hkt:P.underlying kt=some (.int .i64)) (ho:o.op=.mapUpdate t m x y)
  (hm:ev st m (.v (.c (.m k)))) (hx:ev st x (.v (.c (.d (.v (.int .i64 a)))))) (hy:ev st y (.v (.g [cI e,cI u]))) (hb:look st.h k=some (.map (tV ps) cl)):
  aF P o st (.v (.c .any)) [(k,.map (tV (ml ps a ⟨e,u⟩)) (if (fF ps a).isSome then cl else cl+1))] [k]:=by
 intro σ T ac w C _
 obtain ⟨g,h1,h2⟩:=bD C hm
 have h3:=bn.inv (bD C hx)
 obtain ⟨vs,h4,h5⟩:=bD C hy
 have h4:ac.eval y=mj ⟨e,u⟩:=by
  match vs,h5 with
  |[v1,v2],h5=>rw [h4,bn.inv h5.1,bn.inv h5.2.1];rfl
 obtain ⟨g',ms,e1,e2,e3,e4⟩:=C.heap k _ hb
 rw [h1] at e1;injection e1 with e1;subst e1
 have hlt:=(Array.getElem?_eq_some_iff.1 e3).1
 rcases oC (a:=a) 0 e4 with ⟨j,v,hf,hg,⟨e0,hj,hk⟩,hp⟩|⟨hf,hg,hp⟩
 ·rw [Nat.zero_add] at hf
  have hj':ms[j]?=some e0:=by simpa using hj
  refine mQ (w':={w with heap:=w.heap.setIfInBounds g.g (.map (ms.modify j fun e'=>{e' with key:=.int .i64 a,val:=mj ⟨e,u⟩}) cl)}) ?_ ⟨undef,σ,T,rfl,Ext.write C hb h1 rfl rfl rfl (by simp) (fun i hi=>(MapKept.heap_set e3).2 i hi) fun G=>?_,trivial⟩
  ·unfold execOp
   simp [ho,h2,h3,h4,Instr.mapUpdate,Sem.run_bind,run_underlying hu,Result.andThen_ok,MapKept.run_getObj_map e3,MapKept.run_checkKey hkt (show MapKept.IsKey (.int .i64) (.int .i64 a) from rfl),MapKept.run_findKey hkt hf,hj',hk,MapKept.run_keyThatStays (show MapKept.IsKey (.int .i64) (.int .i64 a) from rfl),MapKept.run_setObj_map _ e3]
  ·refine ⟨g,(ms.modify j fun e'=>{e' with key:=.int .i64 a,val:=mj ⟨e,u⟩}),rfl,e2,?_,?_⟩
   ·rw [hg];exact (MapKept.heap_set e3).1
   ·rw [hp,List.map_set,<-e4]
    refine List.ext_getElem? fun q=>?_
    rw [List.getElem?_map,Array.getElem?_toList,Array.getElem?_modify,List.getElem?_set,List.getElem?_map,Array.getElem?_toList]
    by_cases hq:j=q
    ·subst hq
     have hjl:=(Array.getElem?_eq_some_iff.1 hj').1
     simp [hj',hjl]
    ·simp [hq]
 ·refine mQ (w':={w with heap:=w.heap.setIfInBounds g.g (.map (ms.push {key:=.int .i64 a,val:=mj ⟨e,u⟩,born:=cl}) (cl+1))}) ?_ ⟨undef,σ,T,rfl,Ext.write C hb h1 rfl rfl rfl (by simp) (fun i hi=>(MapKept.heap_set e3).2 i hi) fun G=>?_,trivial⟩
  ·unfold execOp
   simp only [ho,h2,h3,h4,Instr.mapUpdate,Sem.run_bind,run_underlying hu,Result.andThen_ok,MapKept.run_getObj_map e3,MapKept.run_checkKey hkt (show MapKept.IsKey (.int .i64) (.int .i64 a) from rfl),MapKept.run_findKey hkt hf,MapKept.run_setObj_map _ e3]
   rfl
  ·refine ⟨g,(ms.push {key:=.int .i64 a,val:=mj ⟨e,u⟩,born:=cl}),rfl,e2,?_,?_⟩
   ·rw [hg];exact (MapKept.heap_set e3).1
   ·rw [hp,Array.toList_push,List.map_append,e4]
    simp [tV]
theorem yh {t:TypeId} (k:Nat) (ho:o.op=.makeMap t none):aF P o st (.v (.c (.m k))) [(k,.map (tV []) 0)] []:=zP k ho
end
end
section
def dH {α:Type} (p:α->Bool) (l:List α):List α:=l.filter fun x=>!p x
def gO {α:Type} (p:α->Bool) (l:List α):Int:=
 match l.findIdx? p with
 |some i=>i
 |none=>-1
variable {α:Type} {p:α->Bool} {l c:List α} {i j q:Nat} {x:α}
theorem ns (h:l[j]?=some x):dH p (l.take (j+1))=dH p (l.take j)++if p x then [] else [x]:=by
 rw [fV h,dH,dH,List.filter_append]
 cases hp:p x<;>simp [hp]
theorem ou (p:α->Bool) (l:List α):(dH p l).length<=l.length:=List.length_filter_le _ _
theorem td (h:(l.take q).all (fun y=>!p y)=true) (hx:l[q]?=some x) (hp:p x=true):gO p l=q:=by
 unfold gO
 have hq:=(List.getElem?_eq_some_iff.1 hx).1
 have:l.findIdx? p=some q:=by
  rw [List.findIdx?_eq_some_iff_getElem]
  refine ⟨hq,?_,fun r hr=>?_⟩
  ·have:=(List.getElem?_eq_some_iff.1 hx).2;rw [this];exact hp
  ·rw [List.all_eq_true] at h
   have hm:l[r]'(by omega)∈l.take q:=by
    rw [List.mem_iff_getElem]
    exact ⟨r,by rw [List.length_take];omega,by simp⟩
   have:=h _ hm
   simpa using this
 rw [this]
theorem uZ (h:l.all (fun y=>!p y)=true):gO p l=-1:=by
 unfold gO
 have:l.findIdx? p=none:=by
  rw [List.findIdx?_eq_none_iff]
  intro y hy
  have:=List.all_eq_true.1 h y hy
  simpa using this
 rw [this]
theorem vM (h:(l.take q).all (fun y=>!p y)=true) (hx:l[q]?=some x) (hp:p x=false):(l.take (q+1)).all (fun y=>!p y)=true:=xq h hx (by simp [hp])
theorem te (p:α->Bool) (l:List α):(gO p l=-1/\dH p l=l)\/∃ i:Nat,gO p l=i/\i < l.length/\∃ x,l[i]?=some x/\p x=true/\dH p (l.take i)=l.take i:=by
 unfold gO
 cases h:l.findIdx? p with
 |none=>
  refine .inl ⟨rfl,?_⟩
  rw [List.findIdx?_eq_none_iff] at h
  exact List.filter_eq_self.2 fun y hy=>by simp [h y hy]
 |some i=>
  rw [List.findIdx?_eq_some_iff_getElem] at h
  obtain ⟨h1,h2,h3⟩:=h
  refine .inr ⟨i,rfl,h1,l[i],List.getElem?_eq_getElem h1,h2,?_⟩
  refine List.filter_eq_self.2 fun y hy=>?_
  obtain ⟨r,hr,rfl⟩:=List.mem_iff_getElem.1 hy
  rw [List.length_take] at hr
  have:=h3 r (by omega)
  simp [this]
structure kX (p:α->Bool) (l c:List α) (i j:Nat):Prop where
 len:c.length=l.length
 ij:i < j
 jl:j<=l.length
 pre:c.take i=dH p (l.take j)
 post:c.drop j=l.drop j
theorem kX.get (h:kX p l c i j) (hx:c[j]?=some x):l[j]?=some x:=by
 have h1:(c.drop j)[0]?=(l.drop j)[0]?:=by rw [h.post]
 simpa [hx] using h1.symm
theorem kX.skip (h:kX p l c i j) (hx:c[j]?=some x) (hp:p x=true):kX p l c i (j+1):=by
 have hl:=h.get hx
 have hj:=(List.getElem?_eq_some_iff.1 hl).1
 refine ⟨h.len,Nat.lt_succ_of_lt h.ij,hj,?_,?_⟩
 ·rw [ns hl,hp,h.pre];simp
 ·rw [<-List.drop_drop,<-List.drop_drop,h.post]
theorem kX.cO (h:kX p l c i j) (hx:c[j]?=some x) (hp:p x=false):kX p l (c.set i x) (i+1) (j+1):=by
 have hl:=h.get hx
 have hj:=(List.getElem?_eq_some_iff.1 hl).1
 have hi:i < c.length:=by have:=h.ij;rw [h.len];omega
 refine ⟨by rw [List.length_set];exact h.len,Nat.succ_lt_succ h.ij,hj,?_,?_⟩
 ·rw [ns hl,hp,<-h.pre]
  rw [List.take_succ_eq_append_getElem (by rw [List.length_set];exact hi)]
  simp [List.take_set_of_le]
 ·rw [List.drop_set_of_lt (by have:=h.ij;omega),<-List.drop_drop,<-List.drop_drop,h.post]
theorem kX.start {i:Nat} (hx:l[i]?=some x) (hp:p x=true) (hk:dH p (l.take i)=l.take i):kX p l l i (i+1):=by
 have hi:=(List.getElem?_eq_some_iff.1 hx).1
 refine ⟨rfl,Nat.lt_succ_self i,hi,?_,rfl⟩
 rw [ns hx,hp,hk];simp
theorem kX.done (h:kX p l c i j) (hj:l.length<=j):c.take i=dH p l:=by
 rw [h.pre,List.take_of_length_le hj]
end
section
section
variable {α:Type} [DecidableEq α] {a b:List α}
end
end
section
def kx (a b c:Int):Int:=if a < 1\/a > 1000000\/b < 0\/b > 30\/c < 0\/c > 1000000000000 then 3 else 0
def scan (e:Nat->Int) (q:Nat):Nat->Int×Int
 |0=>(0,0)
 |k+1=>if e q≠0 then (e q,(q:Int)) else scan e (q+1) k
theorem mE {e:Nat->Int} {q n:Nat} (hq:q < n) (h:e q=0):scan e q (n - q)=scan e (q+1) (n - (q+1)):=by
 rw [show n - q=(n - (q+1))+1 by omega,scan,if_neg (by simp [h])]
theorem ib {e:Nat->Int} {q n:Nat} (hq:q < n) {c:Int} (h:e q=c) (hc:c≠0):scan e q (n - q)=(c,(q:Int)):=by
 rw [show n - q=(n - (q+1))+1 by omega,scan,if_pos (by rw [h];exact hc),h]
theorem mY {e:Nat->Int} {q n:Nat} (hq:¬q < n):scan e q (n - q)=(0,0):=by rw [show n - q=0 by omega];rfl
theorem mZ {e:Nat->Int}:∀ (n q:Nat),(scan e q n).1=0↔∀ i,q<=i->i < q+n->e i=0
 |0,q=>by simp [scan];intro i h1 h2;omega
 |n+1,q=>by
  rw [scan]
  split
  ·rename_i h;exact ⟨fun h'=>absurd h' h,fun h'=>absurd (h' q (Nat.le_refl _) (by omega)) h⟩
  ·rename_i h
   rw [mZ n (q+1)]
   constructor
   ·intro h' i h1 h2
    by_cases hi:i=q
    ·subst hi;omega
    ·exact h' i (by omega) (by omega)
   ·exact fun h' i h1 h2=>h' i (by omega) (by omega)
def kL (l:List de) (q:Nat):Int:=
 match l[q]? with
 |some u=>if u.time < 0\/u.time > 1000000\/u.sum < 0\/u.sum > 1000000 then 3 else if 0 < q/\(l.getD (q - 1) ⟨0,0⟩).time > u.time then 2 else 0
 |none=>0
def cW (l:List de):Int×Int:=if l.length > 30 then (5,0) else scan (kL l) 0 l.length
def fu (p:eu):Int:=kx p.cE p.count p.sum
def fC (l:List de):df:=⟨(cW l).1,(cW l).2⟩
def cG (p:eu) (t:Int) (u:de):Bool:=decide (u.time<=t - p.cE)
def dE (p:eu) (l:List de) (t:Int):List de:=dH (cG p t) l
def gW:List de->Int
 |[]=>0
 |u::l=>u.sum+gW l
def gN (l:List de) (t:Int):Bool:=match l.getLast? with
 |some u=>decide (u.time > t)
 |none=>false
def ez (p:eu) (l:List de) (x:de):List de×Int:=
 if fu p≠0 then ([],fu p)
 else if (fC l).err≠0 then ([],(fC l).err)
 else if (fC [x]).err≠0 then ([],(fC [x]).err)
 else if gN l x.time=true then ([],2)
 else if p.count < ((dE p l x.time).length:Int)+1\/p.sum < gW (dE p l x.time)+x.sum then ([],11)
 else (dE p l x.time++[x],0)
theorem oc {p:eu} (h:fu p=0):1<=p.cE/\p.cE<=1000000/\0<=p.count/\p.count<=30/\0<=p.sum/\p.sum<=1000000000000:=by
 unfold fu kx at h
 split at h
 ·cases h
 ·omega
theorem pV {l:List de}:(fC l).err=0↔l.length<=30/\∀ i,i < l.length->kL l i=0:=by
 unfold fC cW
 dsimp only
 split
 ·constructor
  ·intro h;cases h
  ·intro h;omega
 ·rw [mZ]
  constructor
  ·exact fun h=>⟨by omega,fun i hi=>h i (Nat.zero_le _) (by omega)⟩
  ·exact fun h i _ hi=>h.2 i (by omega)
theorem pX {l:List de} {q:Nat} {u:de} (h:l[q]?=some u):kL l q=0↔(0<=u.time/\u.time<=1000000/\0<=u.sum/\u.sum<=1000000)/\∀ v,0 < q->l[q - 1]?=some v->v.time<=u.time:=by
 unfold kL
 rw [h]
 dsimp only
 have hq:=(List.getElem?_eq_some_iff.1 h).1
 split
 ·constructor
  ·intro h;cases h
  ·intro h;omega
 ·split
  ·rename_i h1 h2
   constructor
   ·intro h;cases h
   ·intro h3
    have hv:l[q - 1]?=some l[q - 1]:=List.getElem?_eq_getElem (by omega)
    have:=h3.2 _ h2.1 hv
    rw [List.getD_eq_getElem?_getD,hv] at h2
    simp only [Option.getD_some] at h2
    omega
  ·rename_i h1 h2
   refine ⟨fun _=>⟨by omega,fun v h3 h4=>?_⟩,fun _=>rfl⟩
   rw [List.getD_eq_getElem?_getD,h4] at h2
   simp only [Option.getD_some] at h2
   omega
theorem jA {l:List de} (h:(fC l).err=0):l.length<=30/\∀ u∈l,0<=u.time/\u.time<=1000000/\0<=u.sum/\u.sum<=1000000:=by
 obtain ⟨h1,h2⟩:=pV.1 h
 refine ⟨h1,fun u hu=>?_⟩
 obtain ⟨i,hi⟩:=List.getElem?_of_mem hu
 exact ((pX hi).1 (h2 i (List.getElem?_eq_some_iff.1 hi).1)).1
theorem kA (l:List de) (u:de):gW (l++[u])=gW l+u.sum:=by
 induction l with
 |nil=>simp [gW]
 |cons x l ih=>simp only [List.cons_append,gW,ih];omega
theorem xE {l:List de} (h:∀ u∈l,0<=u.time/\u.time<=1000000/\0<=u.sum/\u.sum<=1000000):0<=gW l/\gW l<=1000000 * l.length:=by
 induction l with
 |nil=>simp [gW]
 |cons x l ih=>
  have h1:=ih fun u hu=>h u (List.mem_cons_of_mem _ hu)
  have h2:=h x List.mem_cons_self
  simp only [gW,List.length_cons]
  omega
theorem ka {α:Type} {p:α->Bool} {l:List α} {x:α} (h:x∈dH p l):x∈l:=(List.mem_filter.1 h).1
theorem pt {p:eu} {l:List de} {t:Int} {k:Nat} (h:(fC l).err=0):0<=gW ((dE p l t).take k)/\gW ((dE p l t).take k)<=30000000:=by
 obtain ⟨h1,h2⟩:=jA h
 have h3:=xE (l:=(dE p l t).take k) fun u hu=>h2 u (ka (List.mem_of_mem_take hu))
 have h4:=ou (cG p t) l
 have h5:((dE p l t).take k).length<=(dE p l t).length:=by rw [List.length_take];exact Nat.min_le_right _ _
 have h6:(dE p l t).length<=30:=Nat.le_trans h4 h1
 omega
theorem DM {α:Type} {a b x:α} {q:Nat} (h:[a,b][q]?=some x):(q=0/\x=a)\/(q=1/\x=b):=by
 match q with
 |0=>left;simp_all
 |1=>right;simp_all
 |q+2=>simp at h
theorem mH {l:List de} {t:Int} {u:de} (h:l[l.length - 1]?=some u):gN l t=decide (u.time > t):=by
 unfold gN
 rw [List.getLast?_eq_getElem?,h]
end
section
end
section
theorem Am {p:eu} {l r:List de} {x:de} (h:ez p l x=(r,0)):fu p=0/\(fC l).err=0/\(fC [x]).err=0/\gN l x.time=false/\((dE p l x.time).length:Int)+1<=p.count/\gW (dE p l x.time)+x.sum<=p.sum/\r=dE p l x.time++[x]:=by
 unfold ez at h
 split at h
 ·rename_i h1;simp only [Prod.mk.injEq] at h;exact absurd h.2 h1
 split at h
 ·rename_i h1;simp only [Prod.mk.injEq] at h;exact absurd h.2 h1
 split at h
 ·rename_i h1;simp only [Prod.mk.injEq] at h;exact absurd h.2 h1
 split at h
 ·simp at h
 split at h
 ·simp at h
 ·rename_i h1 h2 h3 h4 h5
  simp only [Prod.mk.injEq] at h
  exact ⟨by omega,by omega,by omega,by simpa using h4,by omega,by omega,h.1.symm⟩
structure Kept (p:eu) (all kept:List de):Prop where
 times:∀ u∈all,∀ v,all.getLast?=some v->u.time<=v.time
 last:kept.getLast?=all.getLast?
 Gk:∀ t,(∀ v,all.getLast?=some v->v.time<=t)->dE p kept t=dE p all t
 ed:∀ i u,all[i]?=some u->((dE p (all.take (i+1)) u.time).length:Int)<=p.count/\gW (dE p (all.take (i+1)) u.time)<=p.sum
 bound:∀ u∈all,0<=u.time/\u.time<=1000000/\0<=u.sum/\u.sum<=1000000
theorem Kept.nil (p:eu):Kept p [] []:=⟨fun u h=>by simp at h,rfl,fun _ _=>rfl,fun i u h=>by simp at h,fun u h=>by simp at h⟩
theorem ot (p:de->Bool) (l:List de) (x:de):dH p (l++[x])=dH p l++if p x then [] else [x]:=by
 rw [dH,dH,List.filter_append]
 cases hp:p x<;>simp [hp]
theorem Kept.add {p:eu} {all kept r:List de} {x:de} (h:Kept p all kept) (ha:ez p kept x=(r,0)):Kept p (all++[x]) r:=by
 obtain ⟨h1,h2,h3,h4,h5,h6,rfl⟩:=Am ha
 have hp:=oc h1
 have hl:∀ v,all.getLast?=some v->v.time<=x.time:=fun v hv=>by
  unfold gN at h4
  rw [h.last,hv] at h4
  simpa using h4
 have hx:=(jA h3).2 x (by simp)
 have hrec:dE p kept x.time=dE p all x.time:=h.Gk _ hl
 have hold:∀ t,cG p t x=false\/t - p.cE>=x.time:=fun t=>by unfold cG;by_cases h:x.time<=t - p.cE<;>simp [h]
 have hx0:cG p x.time x=false:=by unfold cG;simp;omega
 refine ⟨fun u hu v hv=>?_,by simp,fun t ht=>?_,fun i u hi=>?_,fun u hu=>?_⟩
 ·have hv':v=x:=by simpa using hv.symm
  subst hv'
  rcases List.mem_append.1 hu with hu|hu
  ·cases hg:all.getLast? with
   |none=>rw [List.getLast?_eq_none_iff] at hg;subst hg;simp at hu
   |some w=>have:=h.times u hu w hg;have:=hl w hg;omega
  ·have:u=v:=by simpa using hu
   subst this;omega
 ·have htx:x.time<=t:=ht x (by simp)
  unfold dE
  rw [ot,ot]
  congr 1
  show dH (cG p t) (dE p kept x.time)=dH (cG p t) all
  rw [hrec]
  unfold dE dH
  rw [List.filter_filter]
  apply List.filter_congr
  intro u _
  unfold cG
  by_cases h1:u.time<=t - p.cE
  ·simp [h1]
  ·have:¬u.time<=x.time - p.cE:=by omega
   simp [h1,this]
 ·by_cases hi':i < all.length
  ·rw [List.getElem?_append_left hi'] at hi
   rw [List.take_append_of_le_length (by omega)]
   exact h.ed i u hi
  ·have hlt:=(List.getElem?_eq_some_iff.1 hi).1
   simp at hlt
   obtain rfl:i=all.length:=by omega
   have hux:u=x:=by simpa using hi.symm
   subst hux
   rw [List.take_of_length_le (by simp)]
   unfold dE at *
   rw [ot,hx0,<-hrec]
   simp only [Bool.false_eq_true,if_false,List.length_append,List.length_singleton,kA]
   omega
 ·rcases List.mem_append.1 hu with hu|hu
  ·exact h.bound u hu
  ·have:u=x:=by simpa using hu
   subst this;exact hx
end
section
def cZ (c:bI):Int:=
 if c.bJ < -1000000000000\/c.bJ > 1000000000000\/c.held < 0\/c.held > 1000000000000 then 3 else if fu c.bU≠0 then fu c.bU else (fC c.cW).err
def om:bI:=⟨0,0,⟨0,0,0⟩,[]⟩
def dR (c:bI) (n time:Int):bI×Int:=
 if cZ c≠0 then (om,cZ c)
 else if n < 1\/n > 1000000\/time < 0\/time > 1000000 then (om,3)
 else if c.held+n > c.bJ then (om,10)
 else if (ez c.bU c.cW ⟨time,n⟩).2≠0 then (om,(ez c.bU c.cW ⟨time,n⟩).2)
 else (⟨c.bJ,c.held+n,c.bU,(ez c.bU c.cW ⟨time,n⟩).1⟩,0)
def eP (c:bI) (n:Int):bI×Int:=
 if cZ c≠0 then (om,cZ c)
 else if n < 1\/n > 1000000\/c.held+n > 1000000000000 then (om,3)
 else (⟨c.bJ,c.held+n,c.bU,c.cW⟩,0)
def ec (c:bI) (held bJ:Int):bI×Int:=
 if cZ c≠0 then (om,cZ c)
 else if held < -1000000000000\/held > 1000000000000\/bJ < -1000000000000\/bJ > 1000000000000 then (om,3)
 else if cZ ⟨c.bJ+bJ,c.held+held,c.bU,c.cW⟩≠0 then (om,10)
 else (⟨c.bJ+bJ,c.held+held,c.bU,c.cW⟩,0)
theorem iY {c:bI} (h:cZ c=0):-1000000000000<=c.bJ/\c.bJ<=1000000000000/\0<=c.held/\c.held<=1000000000000/\fu c.bU=0/\(fC c.cW).err=0:=by
 unfold cZ at h
 split at h
 ·cases h
 ·split at h
  ·omega
  ·omega
theorem oT {c:bI} (h:-1000000000000<=c.bJ/\c.bJ<=1000000000000/\0<=c.held/\c.held<=1000000000000) (h1:fu c.bU=0) (h2:(fC c.cW).err=0):cZ c=0:=by
 unfold cZ
 rw [if_neg (by omega),if_neg (by omega),h2]
theorem nf {c:bI} (h:cZ c=0):c.cW.length<=30:=(jA (iY h).2.2.2.2.2).1
theorem qa {c x:bI} {a m e:Int} (h:ec c a m=(x,e)):(e≠0/\x=om/\(e=3->cZ c=0->(a < -1000000000000\/a > 1000000000000\/m < -1000000000000\/m > 1000000000000)))\/(e=0/\cZ c=0/\-1000000000000<=a/\a<=1000000000000/\-1000000000000<=m/\m<=1000000000000/\x=⟨c.bJ+m,c.held+a,c.bU,c.cW⟩/\cZ x=0):=by
 unfold ec at h
 split at h
 ·rename_i h1;simp only [Prod.mk.injEq] at h;exact .inl ⟨h.2▸h1,h.1.symm,fun _ h3=>absurd h3 h1⟩
 split at h
 ·rename_i h1;simp only [Prod.mk.injEq] at h;exact .inl ⟨by omega,h.1.symm,fun _ _=>h1⟩
 split at h
 ·simp only [Prod.mk.injEq] at h;exact .inl ⟨by omega,h.1.symm,fun h3=>by omega⟩
 ·rename_i h1 h2 h3
  simp only [Prod.mk.injEq] at h
  obtain ⟨rfl,rfl⟩:=h
  exact .inr ⟨rfl,by omega,by omega,by omega,by omega,by omega,rfl,by omega⟩
theorem qx {c x:bI} {n t e:Int} (h:dR c n t=(x,e)):(e≠0/\x=om/\(e=10->cZ c=0->c.held+n > c.bJ\/(ez c.bU c.cW ⟨t,n⟩).2=10))\/(e=0/\cZ c=0/\1<=n/\n<=1000000/\0<=t/\t<=1000000/\c.held+n<=c.bJ/\∃ l,ez c.bU c.cW ⟨t,n⟩=(l,0)/\x=⟨c.bJ,c.held+n,c.bU,l⟩):=by
 unfold dR at h
 split at h
 ·rename_i h1;simp only [Prod.mk.injEq] at h;exact .inl ⟨h.2▸h1,h.1.symm,fun _ h3=>absurd h3 h1⟩
 split at h
 ·simp only [Prod.mk.injEq] at h;exact .inl ⟨by omega,h.1.symm,fun h3=>by omega⟩
 split at h
 ·rename_i h1;simp only [Prod.mk.injEq] at h;exact .inl ⟨by omega,h.1.symm,fun _ _=>.inl h1⟩
 split at h
 ·rename_i h1;simp only [Prod.mk.injEq] at h;exact .inl ⟨h.2▸h1,h.1.symm,fun h3 _=>.inr (h.2.trans h3)⟩
 ·rename_i h1 h2 h3 h4
  simp only [Prod.mk.injEq] at h
  refine .inr ⟨h.2.symm,by omega,by omega,by omega,by omega,by omega,by omega,_,Prod.ext rfl (by simpa using h4),h.1.symm⟩
end
section
end
section
theorem rH {l:List de}:(fC l).err=0↔l.length<=30/\(∀ u∈l,0<=u.time/\u.time<=1000000/\0<=u.sum/\u.sum<=1000000)/\l.Pairwise fun a b=>a.time<=b.time:=by
 constructor
 ·intro h
  obtain ⟨h1,h2⟩:=pV.1 h
  refine ⟨h1,(jA h).2,?_⟩
  rw [List.pairwise_iff_getElem]
  have step:∀ i (hi:i+1 < l.length),l[i].time<=l[i+1].time:=fun i hi=>by
   have h3:=((pX (List.getElem?_eq_getElem hi)).1 (h2 (i+1) hi)).2 l[i] (by omega) (List.getElem?_eq_getElem (by omega))
   exact h3
  intro i j hi hj hij
  obtain ⟨k,rfl⟩:∃ k,j=i+1+k:=⟨j - i - 1,by omega⟩
  clear hij
  induction k with
  |zero=>exact step i hj
  |succ k ih=>
   have h4:=ih (by omega)
   have h5:=step (i+1+k) hj
   exact Int.le_trans h4 h5
 ·rintro ⟨h1,h2,h3⟩
  refine pV.2 ⟨h1,fun i hi=>?_⟩
  refine (pX (List.getElem?_eq_getElem hi)).2 ⟨h2 _ (List.getElem_mem hi),fun v h0 hv=>?_⟩
  rw [List.pairwise_iff_getElem] at h3
  obtain ⟨h5,rfl⟩:=List.getElem?_eq_some_iff.1 hv
  exact h3 (i - 1) i h5 hi (by omega)
theorem Al {p:eu} {l r:List de} {x:de} (h:ez p l x=(r,0)):(fC r).err=0:=by
 obtain ⟨h1,h2,h3,h4,h5,h6,rfl⟩:=Am h
 have hp:=oc h1
 obtain ⟨h7,h8,h9⟩:=rH.1 h2
 have hx:=(jA h3).2 x (by simp)
 refine rH.2 ⟨by rw [List.length_append,List.length_singleton];omega,fun u hu=>?_,?_⟩
 ·rcases List.mem_append.1 hu with hu|hu
  ·exact h8 u (ka hu)
  ·have:u=x:=by simpa using hu
   subst this;exact hx
 ·rw [List.pairwise_append]
  refine ⟨List.Pairwise.filter _ h9,by simp,fun u hu v hv=>?_⟩
  have:v=x:=by simpa using hv
  subst this
  have hu':=ka hu
  have hne:l≠[]:=by intro e;subst e;simp at hu'
  have hlast:(l.getLast hne).time<=v.time:=by
   unfold gN at h4
   rw [List.getLast?_eq_some_getLast hne] at h4
   simpa using h4
  refine Int.le_trans ?_ hlast
  obtain ⟨i,hi,rfl⟩:=List.mem_iff_getElem.1 hu'
  rw [List.getLast_eq_getElem]
  by_cases e:i=l.length - 1
  ·subst e;exact Int.le_refl _
  ·rw [List.pairwise_iff_getElem] at h9
   exact h9 i (l.length - 1) hi (by omega) (by omega)
end
section

end
section
def mm (s:ca) (q:Nat):Int:=
 match s.kept[q]? with
 |some t=>if t.kind < 1\/t.kind > 3 then 1 else if t.ba < 0\/t.ba > 29\/t.sum < 1\/t.sum > 1000000 then 3 else if t.number≠s.bz - s.kept.length+1+q then 2 else 0
 |none=>0
def jt (s:ca):Int×Int:=
 if s.kept.length > 40 then (5,0) else if s.bz < s.kept.length\/s.bz > 1000000 then (3,0) else scan (mm s) 0 s.kept.length
def cP (s:ca):df:=⟨(jt s).1,(jt s).2⟩
def wS:ca:=⟨0,[]⟩
def lA (s:ca) (t:bu):ca:=⟨s.bz+1,s.kept++[⟨s.bz+1,t.kind,t.ba,t.sum⟩]⟩
def gq (s:ca) (t:bu):ca×Int:=
 if (cP s).err≠0 then (wS,(cP s).err)
 else if (cP (lA s t)).err≠0 then (wS,(cP (lA s t)).err) else (lA s t,0)
def came (seen:Int) (t:bu):Bool:=decide (t.number<=seen)
def ea (s:ca) (seen:Int):ca×Int:=
 if (cP s).err≠0 then (wS,(cP s).err)
 else if seen < 0\/seen > s.bz then (wS,3) else (⟨s.bz,dH (came seen) s.kept⟩,0)
def ia (seen:Int) (t:bu):Int×Bool:=
 if seen < 0\/seen>=1000000\/t.number≠seen+1 then (seen,false) else (seen+1,true)
theorem kY {s:ca}:(cP s).err=0↔s.kept.length<=40/\(s.kept.length:Int)<=s.bz/\s.bz<=1000000/\∀ i,i < s.kept.length->mm s i=0:=by
 unfold cP jt
 dsimp only
 split
 ·constructor
  ·intro h;cases h
  ·intro h;omega
 ·split
  ·constructor
   ·intro h;cases h
   ·intro h;omega
  ·rw [mZ]
   constructor
   ·exact fun h=>⟨by omega,by omega,by omega,fun i hi=>h i (Nat.zero_le _) (by omega)⟩
   ·exact fun h i _ hi=>h.2.2.2 i (by omega)
theorem uf {s:ca} {q:Nat} {t:bu} (h:s.kept[q]?=some t):mm s q=0↔1<=t.kind/\t.kind<=3/\0<=t.ba/\t.ba<=29/\1<=t.sum/\t.sum<=1000000/\t.number=s.bz - s.kept.length+1+q:=by
 unfold mm
 rw [h]
 dsimp only
 split
 ·constructor
  ·intro h;cases h
  ·intro h;omega
 ·split
  ·constructor
   ·intro h;cases h
   ·intro h;omega
  ·split
   ·constructor
    ·intro h;cases h
    ·intro h;omega
   ·constructor
    ·intro _;omega
    ·intro _;rfl
theorem uB {s:ca} (h:(cP s).err=0):s.kept.length<=40/\(s.kept.length:Int)<=s.bz/\s.bz<=1000000/\∀ (i:Nat) (t:bu),s.kept[i]?=some t->1<=t.kind/\t.kind<=3/\0<=t.ba/\t.ba<=29/\1<=t.sum/\t.sum<=1000000/\t.number=s.bz - s.kept.length+1+i:=by
 obtain ⟨h1,h2,h3,h4⟩:=kY.1 h
 exact ⟨h1,h2,h3,fun i t ht=>(uf ht).1 (h4 i (List.getElem?_eq_some_iff.1 ht).1)⟩
theorem CD {s:ca} (h1:s.kept.length<=40) (h2:(s.kept.length:Int)<=s.bz) (h3:s.bz<=1000000) (h4:∀ (i:Nat) (t:bu),s.kept[i]?=some t->1<=t.kind/\t.kind<=3/\0<=t.ba/\t.ba<=29/\1<=t.sum/\t.sum<=1000000/\t.number=s.bz - s.kept.length+1+i):(cP s).err=0:=
 kY.2 ⟨h1,h2,h3,fun i hi=>by
  have ht:s.kept[i]?=some s.kept[i]:=List.getElem?_eq_getElem hi
  exact (uf ht).2 (h4 i _ ht)⟩
theorem zB {s:ca} (h:(cP s).err=0) (seen:Int):dH (came seen) s.kept=s.kept.drop (seen - (s.bz - s.kept.length)).toNat:=by
 obtain ⟨h1,h2,h3,h4⟩:=uB h
 have gen:∀ (l:List bu) (a:Int),(∀ (i:Nat) (t:bu),l[i]?=some t->t.number=a+1+i)->dH (came seen) l=l.drop (seen - a).toNat:=by
  intro l
  induction l with
  |nil=>intro a _;simp [dH]
  |cons t l ih=>
   intro a ha
   have ht:=ha 0 t rfl
   have ih:=ih (a+1) fun i u hu=>by have:=ha (i+1) u (by simpa using hu);omega
   unfold dH at ih ⊢
   rw [List.filter_cons]
   by_cases hs:t.number<=seen
   ·have h0:came seen t=true:=by simp [came,hs]
    rw [h0,if_neg (by simp),ih]
    have:(seen - a).toNat=(seen - (a+1)).toNat+1:=by omega
    rw [this,List.drop_succ_cons]
   ·have h0:came seen t=false:=by simp [came,hs]
    rw [h0,if_pos (by simp),ih]
    have h1:(seen - (a+1)).toNat=0:=by omega
    have h2:(seen - a).toNat=0:=by omega
    rw [h1,h2];rfl
 exact gen s.kept _ fun i t ht=>(h4 i t ht).2.2.2.2.2.2
end
section
theorem pf {s x:ca} {seen e:Int} (h:ea s seen=(x,e)):(e≠0/\x=wS)\/(e=0/\(cP s).err=0/\0<=seen/\seen<=s.bz/\x=⟨s.bz,dH (came seen) s.kept⟩):=by
 unfold ea at h
 split at h
 ·rename_i h1;simp only [Prod.mk.injEq] at h;exact .inl ⟨h.2▸h1,h.1.symm⟩
 split at h
 ·simp only [Prod.mk.injEq] at h;exact .inl ⟨by omega,h.1.symm⟩
 ·simp only [Prod.mk.injEq] at h;exact .inr ⟨h.2.symm,by omega,by omega,by omega,h.1.symm⟩
theorem yD {s:ca} {seen:Int} (h:(cP s).err=0) (h0:0<=seen) (h1:seen<=s.bz):(cP ⟨s.bz,dH (came seen) s.kept⟩).err=0:=by
 obtain ⟨h2,h3,h4,h5⟩:=uB h
 rw [zB h]
 generalize hd:(seen - (s.bz - s.kept.length)).toNat=d
 refine CD (by simp;omega) (by simp;omega) h4 fun i t ht=>?_
 rw [List.getElem?_drop] at ht
 have h6:=h5 (d+i) t ht
 have hlt:=(List.getElem?_eq_some_iff.1 ht).1
 simp only [List.length_drop]
 omega
end
theorem aF.Gl {P:Program} {o:Oper} {st:aK} {nb:List (Nat×AB)} {E:List Nat} {cs cs':List CV} (i K:Nat) (g:aF P o st (.v (.g cs)) nb E) (hc:cs[i]?=some cN) (he:cs.set i (cR K [])=cs'):aF P o st (.v (.g cs')) nb E:=by
 subst he
 refine fun σ T a w C hn=>ie (g σ T a w C hn) ?_
 rintro a w ⟨u,σ',T',h1,h2,vs,hv,hall⟩
 refine ⟨u,σ',T',h1,h2,vs,hv,?_⟩
 obtain ⟨v,hv',hr⟩:=hall.get hc
 have hnil:v=.slice none 0 0:=bn.inv hr
 have hs:=hall.set (x:=cR K []) (y:=v) (by rw [hnil];exact bn.nil K none 0) i
 have e:vs.set i v=vs:=by
  apply List.ext_getElem?
  intro m
  rw [List.getElem?_set]
  split
  ·rename_i e;subst e
   split
   ·exact hv'.symm
   ·rename_i hlt;exact absurd (List.getElem?_eq_some_iff.1 hv').1 hlt
  ·rfl
 rwa [e] at hs
section

structure TI where
 fs:List (Nat×Nat)
 agg:Bool
 size:Nat
 zero:List Value
structure BW (P:Program) (t:TypeId) (i:TI):Prop where
 FW:∃ d,P.underlying t=some d/\jk d=i.agg
 DX:i.fs=[]\/((Program.fieldsOf P t).bind fun fs=>fs.toList.mapM fun f=>(P.info? f.type).map fun i=>(f.offset,i.size))=some i.fs
 size:(P.info? t).map (·.size)=some i.size
 zero:i.zero=[]\/(((P.info? t).bind (·.zero)).map (fun v=>v.cells.toList)=some i.zero/\i.zero.all (·.oneCell')=true)
def gf (P:Program):List (Nat×TI)->Prop
 |[]=>True
 |x::l=>BW P x.1 x.2/\gf P l
theorem gf.get {P:Program}:∀ {T:List (Nat×TI)},gf P T->∀ {t:Nat} {i:TI},look T t=some i->BW P t i
 |x::l,h,t,i,hl=>by
  obtain ⟨k,j⟩:=x
  rw [bT] at hl
  split at hl
  ·rename_i e;injection hl with hl;subst e hl;exact h.1
  ·exact gf.get h.2 hl
def tP:Nat->List CV->Option (List CV)
 |0,_=>some []
 |_+1,[]=>none
 |n+1,c::l=>match tP n l with
  |some r=>some (c::r)
  |none=>none
theorem ue:∀ {n:Nat} {l r:List CV},tP n l=some r->l.take n=r/\r.length=n
 |0,l,r,h=>by cases h;simp
 |n+1,[],r,h=>by cases h
 |n+1,c::l,r,h=>by
  unfold tP at h
  split at h
  ·rename_i r' h';injection h with h;subst h
   obtain ⟨h1,h2⟩:=ue h'
   simp [h1,h2]
  ·cases h
def wP:List CV->List CV->Option (List CV)
 |cs,[]=>some cs
 |[],_::_=>none
 |_::cs,x::xs=>match wP cs xs with
  |some r=>some (x::r)
  |none=>none
theorem zi:∀ {cs xs r:List CV},wP cs xs=some r->xs.length<=cs.length/\r=xs++cs.drop xs.length
 |cs,[],r,h=>by unfold wP at h;injection h with h;subst h;simp
 |[],_::_,r,h=>by cases h
 |c::cs,x::xs,r,h=>by
  unfold wP at h
  split at h
  ·rename_i r' h';injection h with h;subst h
   obtain ⟨h1,h2⟩:=zi h'
   simp [h2];omega
  ·cases h
def jW:List CV->Nat->List CV->Option (List CV)
 |cs,0,xs=>wP cs xs
 |[],_+1,_=>none
 |c::cs,n+1,xs=>match jW cs n xs with
  |some r=>some (c::r)
  |none=>none
theorem jV:∀ {cs:List CV} {n:Nat} {xs r:List CV},jW cs n xs=some r->n+xs.length<=cs.length/\cs.take n++xs++cs.drop (n+xs.length)=r
 |cs,0,xs,r,h=>by
  have h:wP cs xs=some r:=by cases cs<;>exact h
  obtain ⟨h1,h2⟩:=zi h
  simp [h2];omega
 |[],n+1,xs,r,h=>by cases h
 |c::cs,n+1,xs,r,h=>by
  unfold jW at h
  split at h
  ·rename_i r' h';injection h with h;subst h
   obtain ⟨h1,h2⟩:=jV h'
   refine ⟨by simp;omega,?_⟩
   rw [show n+1+xs.length=n+xs.length+1 by omega]
   simp [<-h2]
  ·cases h
def lu:List (Nat×AB)->Nat->AB->Option (List (Nat×AB))
 |[],_,_=>none
 |(j,x)::l,k,b=>bif Nat.beq j k then some ((j,b)::l) else match lu l k b with
  |some r=>some ((j,x)::r)
  |none=>none
theorem mD:∀ {l:List (Nat×AB)} {k:Nat} {b:AB} {r:List (Nat×AB)},lu l k b=some r->kz l k b=r
 |(j,x)::l,k,b,r,h=>by
  unfold lu at h
  unfold kz
  cases hjk:Nat.beq j k with
  |true=>rw [hjk] at h;simpa using h
  |false=>
   rw [hjk] at h
   simp only [cond_false] at h ⊢
   split at h
   ·rename_i r' h';injection h with h;subst h;rw [mD h']
   ·cases h
def mP:List Value->Option (List CV)
 |[]=>some []
 |v::l=>match mP l with
  |some r=>some (.d (.v v)::r)
  |none=>none
theorem lq:∀ {l:List Value} {r:List CV},mP l=some r->(l.map fun x=>CV.d (.v x))=r
 |[],r,h=>by cases h;rfl
 |v::l,r,h=>by
  unfold mP at h
  split at h
  ·rename_i r' h';injection h with h;subst h;rw [<-lq h'];rfl
  ·cases h
def xM:List D->Option (List CV)
 |[]=>some []
 |v::l=>match xM l with
  |some r=>some (.d v::r)
  |none=>none
theorem wG:∀ {l:List D} {r:List CV},xM l=some r->l.map CV.d=r
 |[],r,h=>by cases h;rfl
 |v::l,r,h=>by
  unfold xM at h
  split at h
  ·rename_i r' h';injection h with h;subst h;rw [<-wG h'];rfl
  ·cases h
def qQ (s:List (Nat×AV)):List (Nat×Operand)->Option (List (Nat×GV))
 |[]=>some []
 |(i,x)::l=>match iS s x with
  |some (.v g)=>match qQ s l with
   |some r=>some ((i,g)::r)
   |none=>none
  |_=>none
theorem sN {s:List (Nat×AV)} {h:List (Nat×AB)} {n:Nat}:∀ {l:List (Nat×Operand)} {r:List (Nat×GV)},qQ s l=some r->Aq ⟨s,h,n⟩ l r
 |[],r,hr=>by cases hr;trivial
 |(i,x)::l,r,hr=>by
  unfold qQ at hr
  split at hr
  ·rename_i g hg
   split at hr
   ·rename_i r' h';injection hr with hr;subst hr;exact ⟨⟨rfl,en hg⟩,sN h'⟩
   ·cases hr
  ·cases hr
def rh (places:List (Nat×Nat)):List CV->List (Nat×GV)->Option (List CV)
 |cells,[]=>some cells
 |cells,(i,g)::rest=>match places[i]? with
  |none=>none
  |some (off,size)=>bif Nat.beq (eo g).length size then (match jW cells off (eo g) with
   |some c=>rh places c rest
   |none=>none) else none
theorem vo {places:List (Nat×Nat)}:∀ {l:List (Nat×GV)} {cells r:List CV},rh places cells l=some r->lh (fun i=>places[i]?) cells (l.map fun y=>(y.1,eo y.2))=some r
 |[],cells,r,h=>by unfold rh at h;exact h
 |(i,g)::rest,cells,r,h=>by
  unfold rh at h
  split at h
  ·cases h
  rename_i off size hp
  cases hs:Nat.beq (eo g).length size with
  |false=>rw [hs] at h;cases h
  |true=>
   rw [hs] at h
   simp only [cond_true] at h
   split at h
   ·rename_i c hc
    obtain ⟨h1,h2⟩:=jV hc
    show lh _ cells ((i,eo g)::rest.map _)=_
    unfold lh
    rw [hp]
    dsimp only
    rw [if_pos ⟨Nat.eq_of_beq_eq_true hs,h1⟩,h2]
    exact vo h
   ·cases h
def Eb:IntKind->IntKind->Bool
 |.i64,.i64=>true
 |.u8,.u8=>true
 |_,_=>false
theorem Ea {a b:IntKind} (h:Eb a b=true):a=b:=by cases a<;>cases b<;>first|rfl|cases h
def zU (T:List (Nat×TI)) (s:List (Nat×AV)) (h:List (Nat×AB)):Op->Option AV
 |.move x=>iS s x
 |.assign x=>iS s x
 |.pick c x y=>match iS s c with
  |some (.v (.c (.d (.v (.bool b)))))=>iS s (bif b then x else y)
  |_=>none
 |.nilCheck x=>match iS s x with
  |some v=>bif uL v then some v else none
  |none=>none
 |.fieldAddr t x i=>match look T t with
  |none=>none
  |some ti=>match ti.fs[i]? with
   |none=>none
   |some (off,sz)=>bif Nat.beq sz 0 then none else (match iS s x with
    |some (.v (.c (.p k r K o)))=>some (.v (.c (.p k r K (o+off))))
    |some (.v (.c (.q row o)))=>some (.v (.c (.q row (o+off))))
    |_=>none)
 |.load t x=>match look T t with
  |none=>none
  |some ti=>match iS s x with
   |some (.v (.c (.q row j)))=>bif ti.agg then (bif Nat.beq j 0 && Nat.beq row.length ti.size then (match xM row with
     |some xs=>some (.v (.g xs))
     |none=>none) else none) else (match row[j]? with
    |some d=>some (.v (.c (.d d)))
    |none=>none)
   |some (.v (.c (.p k r K j)))=>bif Nat.beq r 0 && Nat.beq K 0 then (match look h k with
    |some (.box _ cs)=>bif ti.agg then (match tP ti.size (cs.drop j) with
      |some xs=>some (.v (.g xs))
      |none=>none) else (match cs[j]? with
     |some c=>some (.v (.c c))
     |none=>none)
    |_=>none) else none
   |_=>none
 |.binOp op _ x y _=>match iS s x with
  |some (.v (.c (.d (.v (.int k a)))))=>(match iS s y with
   |some (.v (.c (.d (.v (.int k' b)))))=>bif Eb k k' then (match yC op k a b with
    |some c=>some (.v (.c (.d (.v c))))
    |none=>none) else none
   |_=>none)
  |_=>none
 |.unOp .not _ x=>match iS s x with
  |some (.v (.c (.d (.v (.bool b)))))=>some (.v (.c (.d (.v (.bool !b)))))
  |_=>none
 |.extract x i=>match iS s x with
  |some (.t gs)=>(match gs[i]? with
   |some g=>some (.v g)
   |none=>none)
  |_=>none
 |.build t parts=>match look T t with
  |none=>none
  |some ti=>bif ti.fs.isEmpty||ti.zero.isEmpty then none else (match qQ s parts.toList with
   |none=>none
   |some ps=>bif ps.all (fun y=>y.2.known) then (match mP ti.zero with
    |none=>none
    |some z=>match rh ti.fs z ps with
     |some cs=>some (.v (.g cs))
     |none=>none) else none)
 |_=>none
theorem wb {P:Program} {t:TypeId} {ti:TI} (hT:BW P t ti) {i off sz:Nat} (hf:ti.fs[i]?=some (off,sz)):∃ fs f,P.underlying t=some (.struct fs)/\fs[i]?=some f/\f.offset=off/\(P.info? f.type).map (·.size)=some sz:=by
 rcases hT.DX with h|h
 ·rw [h] at hf;cases hf
 ·cases hfs:Program.fieldsOf P t with
  |none=>rw [hfs] at h;cases h
  |some fs=>
   rw [hfs] at h
   simp only [Option.bind_some] at h
   have hu:P.underlying t=some (.struct fs):=by
    unfold Program.fieldsOf at hfs
    split at hfs
    ·rename_i e;injection hfs with hfs;subst hfs;exact e
    ·cases hfs
   have gen:∀ (l:List Field) (r:List (Nat×Nat)) (i:Nat),(l.mapM fun f=>(P.info? f.type).map fun i=>(f.offset,i.size))=some r->r[i]?=some (off,sz)->∃ f,l[i]?=some f/\f.offset=off/\(P.info? f.type).map (·.size)=some sz:=by
    intro l
    induction l with
    |nil=>intro r i h1 h2;simp at h1;subst h1;simp at h2
    |cons f l ih=>
     intro r i h1 h2
     simp only [List.mapM_cons] at h1
     cases hi:P.info? f.type with
     |none=>rw [hi] at h1;simp at h1
     |some inf=>
      rw [hi] at h1
      cases hr:(l.mapM fun f=>(P.info? f.type).map fun i=>(f.offset,i.size)) with
      |none=>rw [hr] at h1;simp at h1
      |some r'=>
       rw [hr] at h1
       simp at h1
       subst h1
       cases i with
       |zero=>simp at h2;exact ⟨f,rfl,h2.1,by rw [hi];simp [h2.2]⟩
       |succ i=>simp at h2;obtain ⟨g,h3,h4,h5⟩:=ih r' i hr h2;exact ⟨g,by simpa using h3,h4,h5⟩
   obtain ⟨f,h1,h2,h3⟩:=gen fs.toList ti.fs i h hf
   exact ⟨fs,f,hu,by simpa using h1,h2,h3⟩
theorem vp {P:Program} {T:List (Nat×TI)} (hT:gf P T) {o:Oper} {s:List (Nat×AV)} {h:List (Nat×AB)} {n:Nat} {v:AV} (he:zU T s h o.op=some v):aF P o ⟨s,h,n⟩ v [] []:=by
 unfold zU at he
 split at he
 ·rename_i x ho;exact DR ho (en he)
 ·rename_i x ho;exact Bs ho (en he)
 ·rename_i c x y ho
  split at he
  ·rename_i b hb;exact DO ho (en hb) (by cases b<;>exact en he)
  ·cases he
 ·rename_i x ho
  split at he
  ·rename_i v' hv
   cases hn:uL v' with
   |true=>rw [hn] at he;injection he with he;subst he;exact yg ho (en hv) hn
   |false=>rw [hn] at he;cases he
  ·cases he
 ·rename_i t x i ho
  split at he
  ·cases he
  rename_i ti ht
  split at he
  ·cases he
  rename_i off sz hf
  cases hz:Nat.beq sz 0 with
  |true=>rw [hz] at he;cases he
  |false=>
   rw [hz] at he
   simp only [cond_false] at he
   obtain ⟨fs,f,h1,h2,h3,h4⟩:=wb (hT.get ht) hf
   have hne:sz≠0:=fun e=>by subst e;cases hz
   split at he
   ·rename_i k r K o' hx;injection he with he;subst he h3;exact Bp ho (en hx) h1 h2 h4 hne
   ·rename_i row o' hx;injection he with he;subst he h3;exact Bo ho (en hx) h1 h2 h4 hne
   ·cases he
 ·rename_i t x ho
  split at he
  ·cases he
  rename_i ti ht
  obtain ⟨d,hu,hd⟩:=(hT.get ht).FW
  split at he
  ·rename_i row j hx
   cases ha:ti.agg with
   |true=>
    rw [ha] at he
    simp only [cond_true] at he
    cases hc:(Nat.beq j 0 && Nat.beq row.length ti.size) with
    |false=>rw [hc] at he;cases he
    |true=>
     rw [hc] at he
     simp only [cond_true] at he
     rw [Bool.and_eq_true] at hc
     have hj:=Nat.eq_of_beq_eq_true hc.1
     subst hj
     split at he
     ·rename_i xs hxs;injection he with he;subst he
      exact Bm ho (en hx) hu (hd.trans ha) (hT.get ht).size (Nat.eq_of_beq_eq_true hc.2) (wG hxs)
     ·cases he
   |false=>
    rw [ha] at he
    simp only [cond_false] at he
    split at he
    ·rename_i c hc;injection he with he;subst he;exact CP ho (en hx) hu (hd.trans ha) hc
    ·cases he
  ·rename_i k r K j hx
   cases hc:(Nat.beq r 0 && Nat.beq K 0) with
   |false=>rw [hc] at he;cases he
   |true=>
    rw [hc] at he
    simp only [cond_true] at he
    rw [Bool.and_eq_true] at hc
    have hr:=Nat.eq_of_beq_eq_true hc.1
    have hK:=Nat.eq_of_beq_eq_true hc.2
    subst hr hK
    split at he
    ·rename_i bt cs hb
     cases ha:ti.agg with
     |true=>
      rw [ha] at he
      simp only [cond_true] at he
      split at he
      ·rename_i xs hxs;injection he with he;subst he
       obtain ⟨h1,h2⟩:=ue hxs
       exact qk ho (en hx) hb hu (hd.trans ha) (hT.get ht).size h1 h2
      ·cases he
     |false=>
      rw [ha] at he
      simp only [cond_false] at he
      split at he
      ·rename_i c hc';injection he with he;subst he;exact CQ ho (en hx) hb hu (hd.trans ha) hc'
      ·cases he
    ·cases he
  ·cases he
 ·rename_i op xt x y yt ho
  split at he
  ·rename_i k a hx
   split at he
   ·rename_i k' b hy
    cases hk:Eb k k' with
    |false=>rw [hk] at he;cases he
    |true=>
     rw [hk] at he
     have:=Ea hk
     subst this
     simp only [cond_true] at he
     split at he
     ·rename_i c hc;injection he with he;subst he;exact aJ ho (en hx) (en hy) hc
     ·cases he
   ·cases he
  ·cases he
 ·rename_i t x ho
  split at he
  ·rename_i b hb;injection he with he;subst he;exact DP ho (en hb)
  ·cases he
 ·rename_i x i ho
  split at he
  ·rename_i gs hx
   split at he
   ·rename_i g hg;injection he with he;subst he;exact zS ho (en hx) hg
   ·cases he
  ·cases he
 ·rename_i t parts ho
  split at he
  ·cases he
  rename_i ti ht
  cases hc:(ti.fs.isEmpty||ti.zero.isEmpty) with
  |true=>rw [hc] at he;cases he
  |false=>
   rw [hc] at he
   simp only [cond_false] at he
   rw [Bool.or_eq_false_iff] at hc
   split at he
   ·cases he
   rename_i ps hps
   cases hk:ps.all (fun y=>y.2.known) with
   |false=>rw [hk] at he;cases he
   |true=>
    rw [hk] at he
    simp only [cond_true] at he
    split at he
    ·cases he
    rename_i z hz
    split at he
    ·rename_i cs hcs;injection he with he;subst he
     have h1:ti.fs≠[]:=fun e=>by rw [e] at hc;simp at hc
     have h2:ti.zero≠[]:=fun e=>by rw [e] at hc;simp at hc
     have h3:=(hT.get ht).DX.resolve_left h1
     have h4:=(hT.get ht).zero.resolve_left h2
     exact xe ho ⟨h4.1,h3⟩ h4.2 (sN hps) hk (by rw [lq hz];exact vo hcs)
    ·cases he
 ·cases he
def Ds (T:List (Nat×TI)) (N:Nat) (o:Oper) (s:List (Nat×AV)) (h:List (Nat×AB)) (n:Nat):Option (List (Nat×AV)×List (Nat×AB)×Nat):=
 match o.op with
 |.alloc t=>match look T t with
  |none=>none
  |some ti=>match o.dst with
   |none=>none
   |some d=>bif ti.zero.isEmpty||!Nat.blt d N then none else (match mP ti.zero with
    |some cs=>some ((d,.v (.c (.p n 0 0 0)))::s,(n,.box t cs)::h,n+1)
    |none=>none)
 |.box t x=>match o.dst with
  |none=>none
  |some d=>bif Nat.blt d N then (match iS s x with
   |some (.v (.c c))=>bif c.known then some ((d,.v (.c (.p n 0 0 0)))::s,(n,.box t [c])::h,n+1) else none
   |some (.v (.g cs))=>some ((d,.v (.c (.p n 0 0 0)))::s,(n,.box t cs)::h,n+1)
   |_=>none) else none
 |.store t x y=>match look T t with
  |none=>none
  |some ti=>match o.dst with
   |some _=>none
   |none=>match iS s x with
    |some (.v (.c (.p k r K j)))=>bif Nat.beq r 0 && Nat.beq K 0 && Nat.blt k n then (match iS s y with
     |some (.v gv)=>bif (eo gv).all CV.known && Nat.beq (eo gv).length ti.size then (match look h k with
      |some (.box bt cs)=>(match jW cs j (eo gv) with
       |some cs'=>(match lu h k (.box bt cs') with
        |some h'=>some (s,h',n)
        |none=>none)
       |none=>none)
      |_=>none) else none
     |_=>none) else none
    |_=>none
 |op=>match zU T s h op with
  |none=>none
  |some v=>match o.dst with
   |none=>none
   |some d=>bif Nat.blt d N then some ((d,v)::s,h,n) else none
def uy (ops:Array Oper) (T:List (Nat×TI)) (N:Nat) (o:Oper) (s:List (Nat×AV)) (h:List (Nat×AB)) (n:Nat):Option (List (Nat×AV)×List (Nat×AB)×Nat):=
 match oz ops s o with
 |some false=>(match o.dst with
  |some d=>bif Nat.blt d N then some ((d,.t [])::s,h,n) else none
  |none=>none)
 |some true=>Ds T N o s h n
 |none=>none
def ux (ops:Array Oper) (T:List (Nat×TI)) (N:Nat):Nat->List Oper->List (Nat×AV)->List (Nat×AB)->Nat->Option (List Oper×List (Nat×AV)×List (Nat×AB)×Nat)
 |0,l,s,h,n=>some (l,s,h,n)
 |_+1,[],s,h,n=>some ([],s,h,n)
 |k+1,o::l,s,h,n=>match uy ops T N o s h n with
  |some (s',h',n')=>ux ops T N k l s' h' n'
  |none=>none
section
variable {P:Program} {W0:World} {F:Nat->Prop} {N:NT} {T0:Nat->Prop} {pin:List (Nat×bO)} {ops:Array Oper} {Q:Exit->aK->Prop}
theorem De {T:List (Nat×TI)} (hT:gf P T) {o:Oper} {l:List Oper} {s s':List (Nat×AV)} {h h':List (Nat×AB)} {n n':Nat} (hr:Dev.uy ops T N.1 o s h n=some (s',h',n')) (k:AL P W0 F N T0 pin ops Q l ⟨s',h',n'⟩):AL P W0 F N T0 pin ops Q (o::l) ⟨s,h,n⟩:=by
 unfold Dev.uy at hr
 split at hr
 ·rename_i hg
  split at hr
  ·rename_i d hd
   cases hN:Nat.blt d N.1 with
   |false=>rw [hN] at hr;cases hr
   |true=>
    rw [hN] at hr
    simp only [cond_true] at hr
    injection hr with hr;injection hr with h1 h2;injection h2 with h2 h3
    subst h1 h2 h3
    exact FU ((ir hg).2 rfl) hd hN k
  ·cases hr
 ·rename_i hg
  have hw:ah ops o ⟨s,h,n⟩:=(ir hg).1 rfl
  unfold Ds at hr
  split at hr
  ·rename_i t ho
   split at hr
   ·cases hr
   rename_i ti ht
   split at hr
   ·cases hr
   rename_i d hd
   cases hc:(ti.zero.isEmpty||!Nat.blt d N.1) with
   |true=>rw [hc] at hr;cases hr
   |false=>
    rw [hc] at hr
    simp only [cond_false] at hr
    rw [Bool.or_eq_false_iff] at hc
    split at hr
    ·rename_i cs hcs
     injection hr with hr;injection hr with h1 h2;injection h2 with h2 h3
     subst h1 h2 h3
     have h2:ti.zero≠[]:=fun e=>by rw [e] at hc;simp at hc
     have h4:=(hT.get ht).zero.resolve_left h2
     cases hz:(P.info? t).bind (·.zero) with
     |none=>rw [hz] at h4;exact absurd h4.1 (by simp)
     |some z=>
      rw [hz] at h4
      refine vQ hw (rW n ho hz (Option.some.inj h4.1) h4.2 (lq hcs)) hd (by simpa using hc.2) rfl k
    ·cases hr
  ·rename_i t x ho
   split at hr
   ·cases hr
   rename_i d hd
   cases hN:Nat.blt d N.1 with
   |false=>rw [hN] at hr;cases hr
   |true=>
    rw [hN] at hr
    simp only [cond_true] at hr
    split at hr
    ·rename_i c hx
     cases hk:c.known with
     |false=>rw [hk] at hr;cases hr
     |true=>
      rw [hk] at hr
      simp only [cond_true] at hr
      injection hr with hr;injection hr with h1 h2;injection h2 with h2 h3
      subst h1 h2 h3
      exact vQ hw (vk n ho (en hx) hk) hd hN rfl k
    ·rename_i cs hx
     injection hr with hr;injection hr with h1 h2;injection h2 with h2 h3
     subst h1 h2 h3
     exact vQ hw (vj n ho (en hx)) hd hN rfl k
    ·cases hr
  ·rename_i t x y ho
   split at hr
   ·cases hr
   rename_i ti ht
   split at hr
   ·cases hr
   rename_i hd
   split at hr
   ·rename_i kk r K j hx
    cases hc:(Nat.beq r 0 && Nat.beq K 0 && Nat.blt kk n) with
    |false=>rw [hc] at hr;cases hr
    |true=>
     rw [hc] at hr
     simp only [cond_true] at hr
     simp only [Bool.and_eq_true] at hc
     obtain ⟨⟨c1,c2⟩,c3⟩:=hc
     have c1:=Nat.eq_of_beq_eq_true c1
     have c2:=Nat.eq_of_beq_eq_true c2
     subst c1 c2
     split at hr
     ·rename_i gv hy
      cases hk:((eo gv).all CV.known && Nat.beq (eo gv).length ti.size) with
      |false=>rw [hk] at hr;cases hr
      |true=>
       rw [hk] at hr
       simp only [cond_true] at hr
       rw [Bool.and_eq_true] at hk
       split at hr
       ·rename_i bt cs hb
        split at hr
        ·rename_i cs' hcs
         split at hr
         ·rename_i h2 hh
          injection hr with hr;injection hr with e1 e2;injection e2 with e2 e3
          subst e1 e2 e3
          obtain ⟨p1,p2⟩:=jV hcs
          have hl:=Nat.eq_of_beq_eq_true hk.2
          exact As hw (ve ho (en hx) (en hy) hb hk.1 (hT.get ht).size hl (by rw [<-hl];exact p1) (by rw [<-hl];exact p2)) hd hb c3 (mD hh) k
         ·cases hr
        ·cases hr
       ·cases hr
     ·cases hr
   ·cases hr
  ·split at hr
   ·cases hr
   rename_i v hv
   split at hr
   ·cases hr
   rename_i d hd
   cases hN:Nat.blt d N.1 with
   |false=>rw [hN] at hr;cases hr
   |true=>
    rw [hN] at hr
    simp only [cond_true] at hr
    injection hr with hr;injection hr with h1 h2;injection h2 with h2 h3
    subst h1 h2 h3
    exact cz hw (vp hT hv) hd hN k
 ·cases hr
theorem ad {T:List (Nat×TI)} (hT:gf P T):∀ (k:Nat) {l l':List Oper} {s s':List (Nat×AV)} {h h':List (Nat×AB)} {n n':Nat},ux ops T N.1 k l s h n=some (l',s',h',n')->AL P W0 F N T0 pin ops Q l' ⟨s',h',n'⟩->AL P W0 F N T0 pin ops Q l ⟨s,h,n⟩
 |0,l,l',s,s',h,h',n,n',hr,k=>by
  have:(l,s,h,n)=(l',s',h',n'):=by cases l<;>exact Option.some.inj hr
  injection this with e1 e2;injection e2 with e2 e3;injection e3 with e3 e4
  subst e1 e2 e3 e4;exact k
 |_+1,[],l',s,s',h,h',n,n',hr,k=>by
  have:(([]:List Oper),s,h,n)=(l',s',h',n'):=Option.some.inj hr
  injection this with e1 e2;injection e2 with e2 e3;injection e3 with e3 e4
  subst e1 e2 e3 e4;exact k
 |f+1,o::l,l',s,s',h,h',n,n',hr,k=>by
  unfold ux at hr
  split at hr
  ·rename_i s1 h1 n1 h1'
   exact De hT h1' (ad hT f hr k)
  ·cases hr
theorem aH {T:List (Nat×TI)} (hT:gf P T) {id:Nat} {l:List Oper} {y:Code} (k:Nat) {l':List Oper} {s s':List (Nat×AV)} {h h':List (Nat×AB)} {n n':Nat} (hr:ux l.toArray T N.1 k l s h n=some (l',s',h',n'))
  (g:AL P W0 F N T0 pin l.toArray (iH (AC P W0 F N T0 pin Q y) Q) l' ⟨s',h',n'⟩):AC P W0 F N T0 pin Q (.seq (.region id l.toArray false) y) ⟨s,h,n⟩:=
 ag (au (ad hT k hr g))
theorem ae {T:List (Nat×TI)} (hT:gf P T) {id:Nat} {l:List Oper} {y:Code} (k:Nat) {s s':List (Nat×AV)} {h h':List (Nat×AB)} {n n':Nat} (hr:ux l.toArray T N.1 k l s h n=some ([],s',h',n'))
  (g:AC P W0 F N T0 pin Q y ⟨s',h',n'⟩):AC P W0 F N T0 pin Q (.seq (.region id l.toArray false) y) ⟨s,h,n⟩:=
 aH hT k hr (cc g)
end
end
section

def kp {α:Type} (s:List (Nat×α)):List Nat->Option (List (Nat×α))
 |[]=>some []
 |t::ts=>match look s t with
  |none=>none
  |some v=>match kp s ts with
   |some r=>some ((t,v)::r)
   |none=>none
theorem ld {α:Type} {s:List (Nat×α)}:∀ {ts:List Nat} {r:List (Nat×α)},kp s ts=some r->∀ x∈r,look s x.1=some x.2
 |[],r,h,x,hx=>by cases h;cases hx
 |t::ts,r,h,x,hx=>by
  unfold kp at h
  split at h
  ·cases h
  rename_i v hv
  split at h
  ·rename_i r' hr;injection h with h;subst h
   rcases List.mem_cons.1 hx with rfl|hx
   ·exact hv
   ·exact ld hr x hx
  ·cases h
theorem kD {α:Type} {s:List (Nat×α)} {ts:List Nat} {r:List (Nat×α)} (h:kp s ts=some r) {i:Nat} {v:α} (hi:look r i=some v):look s i=some v:=ld h _ (bL hi)
def findD:List bG->Nat->Nat->Option (Nat×AV)
 |[],_,_=>none
 |_,0,_=>none
 |r::l,i+1,t=>match r.dst with
  |some d=>bif Nat.beq d t then some (i,r.v) else findD l i t
  |none=>findD l i t
def ny:List bG->Nat->Nat->Option (Nat×AB)
 |[],_,_=>none
 |_,0,_=>none
 |r::l,i+1,k=>match look r.nb k with
  |some b=>some (i,b)
  |none=>ny l i k
theorem qm:∀ {l:List bG} {i t:Nat} {j:Nat} {v:AV},l.length=i->findD l i t=some (j,v)->∃ q,l.reverse[j]?=some q/\q.dst=some t/\q.v=v
 |[],i,t,j,v,hl,h=>by cases h
 |r::l,0,t,j,v,hl,h=>by cases hl
 |r::l,i+1,t,j,v,hl,h=>by
  have hl:l.length=i:=by simpa using hl
  have rest:findD l i t=some (j,v)->∃ q,(r::l).reverse[j]?=some q/\q.dst=some t/\q.v=v:=fun h=>by
   obtain ⟨q,h1,h2⟩:=qm hl h
   exact ⟨q,by rw [List.reverse_cons,List.getElem?_append_left (List.getElem?_eq_some_iff.1 h1).1];exact h1,h2⟩
  unfold findD at h
  split at h
  ·rename_i d hd
   cases hb:Nat.beq d t with
   |true=>
    rw [hb] at h
    simp only [cond_true,Option.some.injEq,Prod.mk.injEq] at h
    obtain ⟨rfl,rfl⟩:=h
    exact ⟨r,by rw [List.reverse_cons,List.getElem?_append_right (by simp [hl])];simp [hl],by rw [hd,Nat.eq_of_beq_eq_true hb],rfl⟩
   |false=>rw [hb] at h;exact rest h
  ·exact rest h
theorem qn:∀ {l:List bG} {i k:Nat} {j:Nat} {b:AB},l.length=i->ny l i k=some (j,b)->∃ q,l.reverse[j]?=some q/\(k,b)∈q.nb
 |[],i,t,j,v,hl,h=>by cases h
 |r::l,0,t,j,v,hl,h=>by cases hl
 |r::l,i+1,k,j,b,hl,h=>by
  have hl:l.length=i:=by simpa using hl
  unfold ny at h
  split at h
  ·rename_i b' hb
   simp only [Option.some.injEq,Prod.mk.injEq] at h
   obtain ⟨rfl,rfl⟩:=h
   exact ⟨r,by rw [List.reverse_cons,List.getElem?_append_right (by simp [hl])];simp [hl],bL hb⟩
  ·obtain ⟨q,h1,h2⟩:=qn hl h
   exact ⟨q,by rw [List.reverse_cons,List.getElem?_append_left (List.getElem?_eq_some_iff.1 h1).1];exact h1,h2⟩
def gE (s:List (Nat×AV)) (racc:List bG) (i:Nat):List Nat->List (Nat×AV)×List Nat
 |[]=>([],[])
 |t::ts=>match gE s racc i ts with
  |(sv,pre)=>match findD racc i t with
   |some (j,v)=>((t,v)::sv,j::pre)
   |none=>match look s t with
    |some v=>((t,v)::sv,pre)
    |none=>(sv,pre)
def fZ (h:List (Nat×AB)) (racc:List bG) (i:Nat):List Nat->List (Nat×AB)×List Nat
 |[]=>([],[])
 |k::ks=>match fZ h racc i ks with
  |(hv,pre)=>match ny racc i k with
   |some (j,b)=>((k,b)::hv,j::pre)
   |none=>match look h k with
    |some b=>((k,b)::hv,pre)
    |none=>(hv,pre)
def BX (s:List (Nat×AV)) (aT:List bG) (pre:List Nat) (x:Nat×AV):Prop:=look s x.1=some x.2\/∃ j,j∈pre/\∃ q,aT[j]?=some q/\q.dst=some x.1/\q.v=x.2
def BZ (h:List (Nat×AB)) (aT:List bG) (pre:List Nat) (x:Nat×AB):Prop:=look h x.1=some x.2\/∃ j,j∈pre/\∃ q,aT[j]?=some q/\x∈q.nb
theorem pT {s:List (Nat×AV)} {racc:List bG} {i:Nat} (hl:racc.length=i):∀ {ts:List Nat} {sv:List (Nat×AV)} {pre:List Nat},gE s racc i ts=(sv,pre)->∀ x∈sv,BX s racc.reverse pre x
 |[],sv,pre,h,x,hx=>by cases h;cases hx
 |t::ts,sv,pre,h,x,hx=>by
  unfold gE at h
  cases hv:gE s racc i ts with
  |mk sv0 pre0=>
   rw [hv] at h
   have ih:=pT hl hv
   dsimp only at h
   split at h
   ·rename_i j v hf
    injection h with h1 h2;subst h1 h2
    rcases List.mem_cons.1 hx with rfl|hx
    ·obtain ⟨q,h1,h2,h3⟩:=qm hl hf
     exact .inr ⟨j,List.mem_cons_self,q,h1,h2,h3⟩
    ·rcases ih x hx with h|⟨j',h1,h2⟩
     ·exact .inl h
     ·exact .inr ⟨j',List.mem_cons_of_mem _ h1,h2⟩
   ·split at h
    ·rename_i v hf
     injection h with h1 h2;subst h1 h2
     rcases List.mem_cons.1 hx with rfl|hx
     ·exact .inl hf
     ·exact ih x hx
    ·injection h with h1 h2;subst h1 h2;exact ih x hx
theorem pU {s:List (Nat×AB)} {racc:List bG} {i:Nat} (hl:racc.length=i):∀ {ts:List Nat} {sv:List (Nat×AB)} {pre:List Nat},fZ s racc i ts=(sv,pre)->∀ x∈sv,BZ s racc.reverse pre x
 |[],sv,pre,h,x,hx=>by cases h;cases hx
 |t::ts,sv,pre,h,x,hx=>by
  unfold fZ at h
  cases hv:fZ s racc i ts with
  |mk sv0 pre0=>
   rw [hv] at h
   have ih:=pU hl hv
   dsimp only at h
   split at h
   ·rename_i j v hf
    injection h with h1 h2;subst h1 h2
    rcases List.mem_cons.1 hx with rfl|hx
    ·obtain ⟨q,h1,h2⟩:=qn hl hf
     exact .inr ⟨j,List.mem_cons_self,q,h1,h2⟩
    ·rcases ih x hx with h|⟨j',h1,h2⟩
     ·exact .inl h
     ·exact .inr ⟨j',List.mem_cons_of_mem _ h1,h2⟩
   ·split at h
    ·rename_i v hf
     injection h with h1 h2;subst h1 h2
     rcases List.mem_cons.1 hx with rfl|hx
     ·exact .inl hf
     ·exact ih x hx
    ·injection h with h1 h2;subst h1 h2;exact ih x hx
def Seen (st:aK) (aT:List bG) (r:bG):Prop:=(∀ x∈r.s,BX st.s aT r.pre x)/\∀ x∈r.h,BZ st.h aT r.pre x
theorem Seen.more {st:aK} {aT more:List bG} {r:bG} (h:Seen st aT r):Seen st (aT++more) r:=by
 have g:∀ {j:Nat} {q:bG},aT[j]?=some q->(aT++more)[j]?=some q:=fun hj=>by rw [List.getElem?_append_left (List.getElem?_eq_some_iff.1 hj).1];exact hj
 refine ⟨fun x hx=>?_,fun x hx=>?_⟩
 ·rcases h.1 x hx with h1|⟨j,h1,q,h2,h3⟩
  ·exact .inl h1
  ·exact .inr ⟨j,h1,q,g h2,h3⟩
 ·rcases h.2 x hx with h1|⟨j,h1,q,h2,h3⟩
  ·exact .inl h1
  ·exact .inr ⟨j,h1,q,g h2,h3⟩
theorem wE {st:aK} {aT:List bG}:∀ {rs:List bG},(∀ r∈rs,Seen st aT r)->kI st aT rs
 |[],_=>trivial
 |r::rs,h=>⟨⟨fe (h r List.mem_cons_self).1,fe (h r List.mem_cons_self).2⟩,wE fun q hq=>h q (List.mem_cons_of_mem _ hq)⟩
def PD (P:Program) (ops:Array Oper) (st:aK) (K:List bG->Prop) (i:Nat) (racc:List bG) (n:Nat) (l:List Oper):Prop:=
 racc.length=i->(∀ r∈racc,Seen st racc.reverse r)->∃ rows,jd P ops rows l/\(∀ r∈racc.reverse++rows,Seen st (racc.reverse++rows) r)/\K (racc.reverse++rows)
section
variable {P:Program} {ops:Array Oper} {st:aK} {K:List bG->Prop} {i n:Nat} {racc:List bG} {l:List Oper}
theorem Ao {o:Oper} {r:bG} {n':Nat} (hr:mf P ops r o) (hs:racc.length=i->Seen st racc.reverse r) (h:PD P ops st K (i+1) (r::racc) n' l):PD P ops st K i racc n (o::l):=fun hl hsee=>by
 obtain ⟨rows,h1,h2,h3⟩:=h (by rw [List.length_cons,hl]) (fun q hq=>by
  rw [List.reverse_cons]
  rcases List.mem_cons.1 hq with rfl|hq
  ·exact (hs hl).more
  ·exact (hsee q hq).more)
 rw [List.reverse_cons,List.append_assoc] at h2 h3
 exact ⟨r::rows,⟨hr,h1⟩,h2,h3⟩
theorem aM {o:Oper} {v:AV} {nb:List (Nat×AB)} {E pre pre':List Nat} {sv:List (Nat×AV)} {hv:List (Nat×AB)} {n':Nat} (ts ks:List Nat) (hs:gE st.s racc i ts=(sv,pre)) (hh:fZ st.h racc i ks=(hv,pre'))
  (hr:mf P ops ⟨o.dst,v,nb,E,pre++pre',sv,hv⟩ o) (hn:ix nb n=n') (h:PD P ops st K (i+1) (⟨o.dst,v,nb,E,pre++pre',sv,hv⟩::racc) n' l):PD P ops st K i racc n (o::l):=
 Ao hr (fun hl=>⟨fun x hx=>by
  rcases pT hl hs x hx with h1|⟨j,h1,h2⟩
  ·exact .inl h1
  ·exact .inr ⟨j,List.mem_append_left _ h1,h2⟩,fun x hx=>by
  rcases pU hl hh x hx with h1|⟨j,h1,h2⟩
  ·exact .inl h1
  ·exact .inr ⟨j,List.mem_append_right _ h1,h2⟩⟩) h
end
def jr:Operand->List Nat->List Nat
 |.tmp t,l=>t::l
 |_,l=>l
def FZ:List (Nat×Operand)->List Nat
 |[]=>[]
 |(_,x)::l=>jr x (FZ l)
def AU:Op->List Nat
 |.move x=>jr x []
 |.assign x=>jr x []
 |.pick c x y=>jr c (jr x (jr y []))
 |.nilCheck x=>jr x []
 |.fieldAddr _ x _=>jr x []
 |.load _ x=>jr x []
 |.binOp _ _ x y _=>jr x (jr y [])
 |.unOp _ _ x=>jr x []
 |.extract x _=>jr x []
 |.build _ ps=>FZ ps.toList
 |.box _ x=>jr x []
 |_=>[]
def Dv (ops:Array Oper) (o:Oper):List Nat:=
 match o.guard with
 |none=>AU o.op
 |some (j,_)=>match (ops[j]?).bind (·.dst) with
  |some t=>t::AU o.op
  |none=>AU o.op
def rz (s:List (Nat×AV)):Op->List Nat
 |.load _ x=>match iS s x with
  |some (.v (.c (.p k _ _ _)))=>[k]
  |_=>[]
 |_=>[]
def nC (kn:List (Nat×Bool)) (d:Nat) (v:AV):AV×List (Bool×Bool):=
 match look kn d with
 |none=>(v,[])
 |some c=>match v with
  |.v (.c (.d (.v (.bool b))))=>(.v (.c (.d (.v (.bool c)))),[(b,c)])
  |v=>(v,[])
theorem xj {kn:List (Nat×Bool)} {d:Nat} {v v':AV} {ob:List (Bool×Bool)} (h:nC kn d v=(v',ob)) (ho:∀ x∈ob,x.1=x.2):v=v':=by
 unfold nC at h
 split at h
 ·exact (Prod.mk.inj h).1
 ·split at h
  ·rename_i c _ _ b
   obtain ⟨h1,h2⟩:=Prod.mk.inj h
   have:=ho (b,c) (by rw [<-h2];exact List.mem_singleton_self _)
   dsimp only at this
   rw [<-h1,this]
  ·exact (Prod.mk.inj h).1
def uA (ops:Array Oper) (T:List (Nat×TI)) (st:aK) (kn:List (Nat×Bool)) (i:Nat) (racc:List bG) (n:Nat) (o:Oper):Option (bG×Nat×List (Bool×Bool)):=
 match o.dst with
 |none=>none
 |some d=>match gE st.s racc i (Dv ops o) with
  |(sv,pre)=>match oz ops sv o with
   |none=>none
   |some false=>some (⟨some d,.t [],[],[],pre,sv,[]⟩,n,[])
   |some true=>match o.op with
    |.alloc t=>(match look T t with
     |none=>none
     |some ti=>bif ti.zero.isEmpty then none else (match mP ti.zero with
      |some cs=>some (⟨some d,.v (.c (.p n 0 0 0)),[(n,.box t cs)],[],pre,sv,[]⟩,n+1,[])
      |none=>none))
    |.box t x=>(match iS sv x with
     |some (.v (.c c))=>bif c.known then some (⟨some d,.v (.c (.p n 0 0 0)),[(n,.box t [c])],[],pre,sv,[]⟩,n+1,[]) else none
     |some (.v (.g cs))=>some (⟨some d,.v (.c (.p n 0 0 0)),[(n,.box t cs)],[],pre,sv,[]⟩,n+1,[])
     |_=>none)
    |op=>match fZ st.h racc i (rz sv op) with
     |(hv,pre')=>match zU T sv hv op with
      |none=>none
      |some v=>match nC kn d v with
       |(v',ob)=>some (⟨some d,v',[],[],pre++pre',sv,hv⟩,n,ob)
def AH (ops:Array Oper) (T:List (Nat×TI)) (st:aK) (kn:List (Nat×Bool)):Nat->Nat->List bG->Nat->List Oper->Option (Nat×List bG×Nat×List Oper×List (Bool×Bool))
 |0,i,racc,n,l=>some (i,racc,n,l,[])
 |_+1,i,racc,n,[]=>some (i,racc,n,[],[])
 |k+1,i,racc,n,o::l=>match uA ops T st kn i racc n o with
  |none=>none
  |some (r,n',ob)=>match AH ops T st kn k (i+1) (r::racc) n' l with
   |none=>none
   |some (i2,racc2,n2,l2,ob2)=>match ob with
    |[]=>some (i2,racc2,n2,l2,ob2)
    |x::_=>some (i2,racc2,n2,l2,x::ob2)
section
variable {P:Program} {ops:Array Oper} {st:aK} {K:List bG->Prop} {T:List (Nat×TI)} {kn:List (Nat×Bool)}
theorem CC (hT:gf P T) {i n n':Nat} {racc:List bG} {o:Oper} {r:bG} {ob:List (Bool×Bool)} (h:uA ops T st kn i racc n o=some (r,n',ob)) (hob:∀ x∈ob,x.1=x.2):mf P ops r o/\(racc.length=i->Seen st racc.reverse r):=by
 unfold uA at h
 split at h
 ·cases h
 rename_i d hd
 cases hv:gE st.s racc i (Dv ops o) with
 |mk sv pre=>
  rw [hv] at h
  dsimp only at h
  have hsee:racc.length=i->∀ x∈sv,BX st.s racc.reverse pre x:=fun hl=>pT hl hv
  have none_:∀ x∈([]:List (Nat×AB)),BZ st.h racc.reverse pre x:=fun x hx=>by cases hx
  split at h
  ·cases h
  ·rename_i hg
   simp only [Option.some.injEq,Prod.mk.injEq] at h
   obtain ⟨rfl,_,_⟩:=h
   exact ⟨.inr ⟨(ir (s:=sv) (h:=[]) (n:=0) hg).2 rfl,rfl,rfl,rfl⟩,fun hl=>⟨hsee hl,none_⟩⟩
  ·rename_i hg
   have hw:∀ hh,ah ops o ⟨sv,hh,0⟩:=fun hh=>(ir hg).1 rfl
   split at h
   ·rename_i t ho
    split at h
    ·cases h
    rename_i ti ht
    cases hz:ti.zero.isEmpty with
    |true=>rw [hz] at h;cases h
    |false=>
     rw [hz] at h
     simp only [cond_false] at h
     split at h
     ·rename_i cs hcs
      simp only [Option.some.injEq,Prod.mk.injEq] at h
      obtain ⟨rfl,_,_⟩:=h
      have h2:ti.zero≠[]:=fun e=>by rw [e] at hz;simp at hz
      have h4:=(hT.get ht).zero.resolve_left h2
      cases hz2:(P.info? t).bind (·.zero) with
      |none=>rw [hz2] at h4;exact absurd h4.1 (by simp)
      |some z=>
       rw [hz2] at h4
       exact ⟨.inl ⟨hw _,rW n ho hz2 (Option.some.inj h4.1) h4.2 (lq hcs)⟩,fun hl=>⟨hsee hl,none_⟩⟩
     ·cases h
   ·rename_i t x ho
    split at h
    ·rename_i c hx
     cases hk:c.known with
     |false=>rw [hk] at h;cases h
     |true=>
      rw [hk] at h
      simp only [cond_true,Option.some.injEq,Prod.mk.injEq] at h
      obtain ⟨rfl,_,_⟩:=h
      exact ⟨.inl ⟨hw _,vk n ho (en hx) hk⟩,fun hl=>⟨hsee hl,none_⟩⟩
    ·rename_i cs hx
     simp only [Option.some.injEq,Prod.mk.injEq] at h
     obtain ⟨rfl,_,_⟩:=h
     exact ⟨.inl ⟨hw _,vj n ho (en hx)⟩,fun hl=>⟨hsee hl,none_⟩⟩
    ·cases h
   ·cases hvh:fZ st.h racc i (rz sv o.op) with
    |mk hv pre'=>
     rw [hvh] at h
     dsimp only at h
     split at h
     ·cases h
     rename_i v he
     cases hdv:nC kn d v with
     |mk v' ob'=>
      rw [hdv] at h
      simp only [Option.some.injEq,Prod.mk.injEq] at h
      obtain ⟨rfl,_,rfl⟩:=h
      have:=xj hdv hob
      subst this
      refine ⟨.inl ⟨hw _,vp hT he⟩,fun hl=>⟨fun x hx=>?_,fun x hx=>?_⟩⟩
      ·rcases hsee hl x hx with h1|⟨j,h1,h2⟩
       ·exact .inl h1
       ·exact .inr ⟨j,List.mem_append_left _ h1,h2⟩
      ·rcases pU hl hvh x hx with h1|⟨j,h1,h2⟩
       ·exact .inl h1
       ·exact .inr ⟨j,List.mem_append_right _ h1,h2⟩
theorem vu {kn:List (Nat×Bool)} {d:Nat} {v v':AV} {ob:List (Bool×Bool)} (h:nC kn d v=(v',ob)):ob.length<=1:=by
 unfold nC at h
 split at h
 ·rw [<-(Prod.mk.inj h).2];exact Nat.zero_le _
 ·split at h
  ·rw [<-(Prod.mk.inj h).2];exact Nat.le_refl _
  ·rw [<-(Prod.mk.inj h).2];exact Nat.zero_le _
theorem AN {i n n':Nat} {racc:List bG} {o:Oper} {r:bG} {ob:List (Bool×Bool)} (h:uA ops T st kn i racc n o=some (r,n',ob)):ob.length<=1:=by
 unfold uA at h
 split at h
 ·cases h
 rename_i d hd
 dsimp only at h
 split at h
 ·cases h
 ·simp only [Option.some.injEq,Prod.mk.injEq] at h;rw [<-h.2.2];exact Nat.zero_le _
 ·split at h
  ·split at h
   ·cases h
   rename_i ti _
   cases hz:ti.zero.isEmpty with
   |true=>rw [hz] at h;cases h
   |false=>
    rw [hz] at h
    simp only [cond_false] at h
    split at h
    ·simp only [Option.some.injEq,Prod.mk.injEq] at h;rw [<-h.2.2];exact Nat.zero_le _
    ·cases h
  ·split at h
   ·rename_i c _
    cases hk:c.known with
    |false=>rw [hk] at h;cases h
    |true=>rw [hk] at h;simp only [cond_true,Option.some.injEq,Prod.mk.injEq] at h;rw [<-h.2.2];exact Nat.zero_le _
   ·simp only [Option.some.injEq,Prod.mk.injEq] at h;rw [<-h.2.2];exact Nat.zero_le _
   ·cases h
  ·split at h
   ·cases h
   ·rename_i v _
    cases hdv:nC kn d v with
    |mk v' ob'=>
     rw [hdv] at h
     simp only [Option.some.injEq,Prod.mk.injEq] at h
     rw [<-h.2.2];exact vu hdv
theorem aw (hT:gf P T):∀ (k:Nat) {i i' n n':Nat} {racc racc':List bG} {l l':List Oper} {ob:List (Bool×Bool)},AH ops T st kn k i racc n l=some (i',racc',n',l',ob)->dr (fun x=>x.1=x.2) ob->PD P ops st K i' racc' n' l'->PD P ops st K i racc n l
 |0,i,i',n,n',racc,racc',l,l',ob,h,_,k=>by
  have:some (i,racc,n,l,([]:List (Bool×Bool)))=some (i',racc',n',l',ob):=by rw [<-h];cases l<;>rfl
  simp only [Option.some.injEq,Prod.mk.injEq] at this
  obtain ⟨rfl,rfl,rfl,rfl,_⟩:=this
  exact k
 |_+1,i,i',n,n',racc,racc',[],l',ob,h,_,k=>by
  have:some (i,racc,n,([]:List Oper),([]:List (Bool×Bool)))=some (i',racc',n',l',ob):=by rw [<-h];rfl
  simp only [Option.some.injEq,Prod.mk.injEq] at this
  obtain ⟨rfl,rfl,rfl,rfl,_⟩:=this
  exact k
 |f+1,i,i',n,n',racc,racc',o::l,l',ob,h,hob,k=>by
  unfold AH at h
  split at h
  ·cases h
  rename_i r n1 ob1 hr
  split at h
  ·cases h
  rename_i i2 racc2 n2 l2 ob2 h2
  have hone:=AN hr
  have key:i2=i'/\racc2=racc'/\n2=n'/\l2=l'/\(∀ x∈ob1,x∈ob)/\∀ x∈ob2,x∈ob:=by
   split at h
   ·simp only [Option.some.injEq,Prod.mk.injEq] at h
    obtain ⟨h1,h2,h3,h4,rfl⟩:=h
    exact ⟨h1,h2,h3,h4,(fun x hx=>by cases hx),fun x hx=>hx⟩
   ·rename_i y ys
    simp only [Option.some.injEq,Prod.mk.injEq] at h
    obtain ⟨h1,h2,h3,h4,rfl⟩:=h
    have hys:ys=[]:=by simpa using hone
    subst hys
    exact ⟨h1,h2,h3,h4,fun x hx=>by rw [List.mem_singleton.1 hx];exact List.mem_cons_self,fun x hx=>List.mem_cons_of_mem _ hx⟩
  obtain ⟨rfl,rfl,rfl,rfl,k1,k2⟩:=key
  have hob:=hob.mem
  obtain ⟨h3,h4⟩:=CC hT hr fun x hx=>hob x (k1 x hx)
  exact Ao h3 h4 (aw hT f h2 (fe fun x hx=>hob x (k2 x hx)) k)
end
def yk:List bG->List (Nat×AV)->Option (List (Nat×AV))
 |[],s=>some s
 |r::l,s=>match yk l s with
  |none=>none
  |some s'=>match r.dst with
   |some d=>some ((d,r.v)::s')
   |none=>some s'
def yl:List bG->List (Nat×AB)->Option (List (Nat×AB))
 |[],h=>some h
 |r::l,h=>match yl l h with
  |none=>none
  |some h'=>some (r.nb++h')
theorem vm:∀ {l:List bG} {s s':List (Nat×AV)},yk l s=some s'->∀ x∈s',x∈s\/∃ r∈l,r.dst=some x.1/\r.v=x.2
 |[],s,s',h,x,hx=>by cases h;exact .inl hx
 |r::l,s,s',h,x,hx=>by
  unfold yk at h
  split at h
  ·cases h
  rename_i s1 h1
  have ih:=vm h1
  split at h
  ·rename_i d hd
   injection h with h;subst h
   rcases List.mem_cons.1 hx with rfl|hx
   ·exact .inr ⟨r,List.mem_cons_self,hd,rfl⟩
   ·rcases ih x hx with h2|⟨q,h2,h3⟩
    ·exact .inl h2
    ·exact .inr ⟨q,List.mem_cons_of_mem _ h2,h3⟩
  ·injection h with h;subst h
   rcases ih x hx with h2|⟨q,h2,h3⟩
   ·exact .inl h2
   ·exact .inr ⟨q,List.mem_cons_of_mem _ h2,h3⟩
theorem vn:∀ {l:List bG} {s s':List (Nat×AB)},yl l s=some s'->∀ x∈s',x∈s\/∃ r∈l,x∈r.nb
 |[],s,s',h,x,hx=>by cases h;exact .inl hx
 |r::l,s,s',h,x,hx=>by
  unfold yl at h
  split at h
  ·cases h
  rename_i s1 h1
  have ih:=vn h1
  injection h with h;subst h
  rcases List.mem_append.1 hx with hx|hx
  ·exact .inr ⟨r,List.mem_cons_self,hx⟩
  ·rcases ih x hx with h2|⟨q,h2,h3⟩
   ·exact .inl h2
   ·exact .inr ⟨q,List.mem_cons_of_mem _ h2,h3⟩
section
variable {P:Program} {W0:World} {F:Nat->Prop} {N:NT} {T0:Nat->Prop} {pin:List (Nat×bO)} {Q:Exit->aK->Prop}
def Cy (P:Program) (W0:World) (F:Nat->Prop) (N:NT) (T0:Nat->Prop) (pin:List (Nat×bO)) (Q:Exit->aK->Prop) (l:List Oper) (st:aK) (aT:List bG):Prop:=
 (∀ x∈st.s,look st.s x.1=some x.2)->(∀ x∈st.h,look st.h x.1=some x.2)->∃ fin,pb l.toArray aT N.1 st fin=true/\tY st aT fin/\AL P W0 F N T0 pin l.toArray Q (l.drop aT.length) fin
theorem sV {α:Type}:∀ {l:List (Nat×α)} {x:Nat×α},x∈l->∃ v,look l x.1=some v
 |y::l,x,h=>by
  obtain ⟨k,v⟩:=y
  rw [bT]
  split
  ·exact ⟨v,rfl⟩
  ·rename_i hne
   rcases List.mem_cons.1 h with rfl|h
   ·exact absurd rfl hne
   ·exact sV h
theorem sM {α:Type} {s:List (Nat×α)} {ts:List Nat} {r:List (Nat×α)} (h:kp s ts=some r):∀ x∈r,look r x.1=some x.2:=fun x hx=>by
 obtain ⟨v,hv⟩:=sV hx
 have h1:=kD h hv
 rw [ld h x hx] at h1
 rw [hv,h1]
theorem aW {id:Nat} {l:List Oper} {s s0:List (Nat×AV)} {h h0:List (Nat×AB)} {n:Nat} (lv hv:List Nat) (hm:P.follows .mixedOrders=true) (h1:kp s lv=some s0) (h2:kp h hv=some h0)
  (k:PD P l.toArray ⟨s0,h0,n⟩ (Cy P W0 F N T0 pin Q l ⟨s0,h0,n⟩) 0 [] n l):AC P W0 F N T0 pin Q (.region id l.toArray true) ⟨s,h,n⟩:=by
 refine gl (st':=⟨s0,h0,n⟩) (aE.sub (fun i v hi=>kD h1 hi) (fun i v hi=>kD h2 hi) rfl) ?_
 obtain ⟨rows,h3,h4,h5'⟩:=k rfl (fun r hr=>by cases hr)
 obtain ⟨fin,h5,h6,h7⟩:=h5' (sM h1) (sM h2)
 exact Df rows fin hm h5 h3 (wE h4) h6 h7
theorem bw {l l':List Oper} {s0 fs:List (Nat×AV)} {h0 h1 fh:List (Nat×AB)} {n0 i n:Nat} {racc:List bG} (ev:List Nat) (hs:yk racc s0=some fs) (hh:yl racc h0=some h1) (he:kp h1 ev=some fh) (hd:l.drop i=l')
  (hB:pb l.toArray racc.reverse N.1 ⟨s0,h0,n0⟩ ⟨fs,fh,n⟩=true) (k:AL P W0 F N T0 pin l.toArray Q l' ⟨fs,fh,n⟩):
  PD P l.toArray ⟨s0,h0,n0⟩ (Cy P W0 F N T0 pin Q l ⟨s0,h0,n0⟩) i racc n l':=fun hl hsee=>by
 refine ⟨[],trivial,by rw [List.append_nil];exact fun r hr=>hsee r (List.mem_reverse.1 hr),?_⟩
 rw [List.append_nil]
 have at_:∀ r∈racc,∃ j,racc.reverse[j]?=some r:=fun r hr=>List.getElem?_of_mem (List.mem_reverse.2 hr)
 refine fun hs0 hh0=>⟨⟨fs,fh,n⟩,hB,⟨fe fun x hx=>?_,fe fun x hx=>?_⟩,?_⟩
 ·rcases vm hs x hx with h1|⟨r,h1,h2,h3⟩
  ·exact .inl (hs0 x h1)
  ·obtain ⟨j,hj⟩:=at_ r h1
   exact .inr ⟨j,r,hj,h2,h3⟩
 ·rcases vn hh x (bL (ld he x hx)) with h1|⟨r,h1,h2⟩
  ·exact .inl (hh0 x h1)
  ·obtain ⟨j,hj⟩:=at_ r h1
   exact .inr ⟨j,r,hj,h2⟩
 ·rw [List.length_reverse,hl,hd];exact k
end
end
end Go.Proofs.Ytegepioggeggaaa.Dev
