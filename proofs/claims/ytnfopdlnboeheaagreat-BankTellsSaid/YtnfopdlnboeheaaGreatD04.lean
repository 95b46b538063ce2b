/- A part of the proof: Sh26, Sh27, Sh28, PlDel, PlPace, PlCard, PlPost, Sh29, Sh30, Sh31. No condition. -/
import Derived.Test.YtnfopdlnboeheaaGreatD03
set_option linter.unusedVariables false
set_option linter.unusedSimpArgs false
namespace Go.Proofs.YtnfopdlnboeheaaGreat.Dev
open Go.RowKit
section
def CV.nq:CV->Bool
 |.q _ _=>false
 |_=>true
def GV.nq:GV->Bool
 |.c x=>x.nq
 |.g xs=>xs.all CV.nq
def AV.nq:AV->Bool
 |.v x=>x.nq
 |.t xs=>xs.all GV.nq
def AB.nq:AB->Bool
 |.box _ cs=>cs.all CV.nq
 |_=>true
theorem CV.gU {c:CV} (h:c.nq=true):c.fe (fun _=>True):=by cases c<;>first|trivial|cases h
theorem fG {α:Type} {p:α->Prop}:∀ {l:List α},(∀ x∈l,p x)->dG p l
 |[],_=>trivial
 |x::_,h=>⟨h x List.mem_cons_self,fG fun y hy=>h y (List.mem_cons_of_mem _ hy)⟩
theorem GV.gU {g:GV} (h:g.nq=true):g.fe (fun _=>True):=by
 cases g with
 |c x=>exact CV.gU h
 |g xs=>exact fG fun x hx=>CV.gU (List.all_eq_true.1 h x hx)
theorem AV.gU {v:AV} (h:v.nq=true):v.fe (fun _=>True):=by
 cases v with
 |v x=>exact GV.gU h
 |t xs=>exact fG fun x hx=>GV.gU (List.all_eq_true.1 h x hx)
theorem AB.gU {b:AB} (h:b.nq=true):b.fe (fun _=>True):=by
 cases b with
 |box t cs=>exact fG fun x hx=>CV.gU (List.all_eq_true.1 h x hx)
 |arr=>exact fun _ _ _ _=>trivial
 |map=>trivial
def BW:Option CV->Bool
 |some c=>c.nq
 |none=>true
theorem tU (x:Nat->Value):∀ (ms:List (Option CV)) (i:Nat),ms.all BW=true->dG (CV.fe fun _=>True) (gq x i ms)
 |[],_,_=>trivial
 |some c::ms,i,h=>by
  simp only [List.all_cons,Bool.and_eq_true] at h
  exact ⟨CV.gU h.1,tU x ms (i+1) h.2⟩
 |none::ms,i,h=>by
  simp only [List.all_cons,Bool.and_eq_true] at h
  exact ⟨trivial,tU x ms (i+1) h.2⟩
section
variable {P:Program} {st:aK} {o:Oper}
theorem Ft {f:FuncId} {c:Call} {ins:List GV} {bZ:List (Nat×AB)} {av av':AV} {nb nb':List (Nat×AB)} {EE:List Nat} {ms ms':List (Option CV)} {t:TypeId} {cs cs':List CV} {k0:Nat} (ρ μ:Nat->Nat)
  (hF:∀ x:Nat->Value,(∀ i,(x i).oneCell'=true)->cS P f ins ((0,.box t (gq x 0 ms))::bZ) [0] av ((0,.box t (gq x 0 ms'))::nb)) (hen:bc P f) (ho:o.op=.call c) (hc:c.callee=.value (.func f))
  (hargs:qt st [] ρ (bo ((0,.box t [])::bZ)) c.args.toList ins) (hk0:ρ 0=k0) (hk0':μ 0=k0) (hbox:look st.h k0=some (.box t cs)) (hlen:cs.length=ms.length) (hlen':cs.length=ms'.length) (hfill:ll cs (ms.map (Option.map (CV.map ρ)))=cs) (hany:cs.all (fun c=>!zP c)=true)
  (hheap:dG (fun x=>look st.h (ρ x.1)=some (x.2.map' ρ)) bZ) (hokr:(gq x0 0 ms).all (CV.ok (bo ((0,.box t [])::bZ)))=true) (hokin:bZ.all (fun x=>x.2.ok (bo ((0,.box t [])::bZ)))=true) (hinj:eV ((0::keys bZ).map ρ)=true)
  (hEE:(0::keys bZ).map ρ=EE) (hμ:eV ((0::keys nb).map μ)=true) (hμk:(keys nb).all (fun k=>(ey k [0] && Nat.beq (μ k) (ρ k))||(!ey k [0] && !ey (μ k) EE))=true)
  (hq:(av.nq && nb.all (fun x=>x.2.nq) && ms'.all BW)=true) (hok:av.ok (bo ((0,.box t [])::nb))=true) (hokr':(gq x0 0 ms').all (CV.ok (bo ((0,.box t [])::nb)))=true) (hokb:nb.all (fun x=>x.2.ok (bo ((0,.box t [])::nb)))=true) (hav:av.map μ=av') (hcs:ll cs (ms'.map (Option.map (CV.map μ)))=cs') (hnb:gG μ nb=nb'):bU P o st av' ((k0,.box t cs')::nb') EE:=by
 simp only [Bool.and_eq_true] at hq
 obtain ⟨⟨q1,q2⟩,q3⟩:=hq
 exact Hf (di:=[]) (p:=fun _=>True) ρ μ [] hF hen ho hc hargs hk0 hk0' hbox hlen hlen' hfill hany hheap hokr hokin hinj rfl (by simp [ey]) rfl (fun k hk=>by cases hk) hEE hμ hμk (AV.gU q1) (fG fun x hx=>AB.gU (List.all_eq_true.1 q2 x hx)) (fun x=>tU x ms' 0 q3) hok hokr' hokb hav hcs hnb
  fun σ T Tc T' w' d v h1 h2 _ h=>h.gC fun b hb=>by
   rcases h1 b hb with h|h
   ·exact h2 b ⟨h,fun k hk=>by cases hk⟩
   ·exact h
theorem Fo {t n e K:Nat} {x y:Operand} {k r Kk o' i:Nat} {j:Int} (ho:o.op=.indexAddr t x y) (hx:ev st x (.v (.c (.p k r Kk o')))) (hy:ev st y (.v (.c (.d (.v (.int .i64 j))))))
  (hu:P.underlying t=some (.array n e)) (hz:(P.info? e).map (·.size)=some K) (hj:j=(i:Int)) (hi:i < n):bU P o st (.v (.c (.p k r Kk (o'+i * K)))) [] []:=
 bU.val fun σ T ac w C=>by
  obtain ⟨g,hg,hv⟩:=bN C hx
  have h2:=bA.inv (bN C hy)
  subst hj
  refine ⟨.pointer (some ⟨g.g,r * Kk+o'+i * K,none⟩),?_,g,hg,by rw [Nat.add_assoc]⟩
  cases hq:P.info? e with
  |none=>simp [hq] at hz
  |some ii=>
   have hs:ii.size=K:=by simpa [hq] using hz
   unfold execOp
   simp [ho,hv,h2,Instr.indexAt,asIntOf,run_underlying hu,sizeOf,typeInfo,hq,hs,hi,asAddr,Instr.sureAddr,Addr.add_lit]
theorem Fs {f:FuncId} {c:Call} {x:Operand} {k t K n:Nat} {rows:List (List D)} (k2:Nat) (hF:∀ l:List (List D),l.length=n->Fn P f [.c (.d (.r K (l.map id)))] (.v (.c (.s 0 0 K l.length))) [(0,.arr t K (l.map id))]) (hen:bc P f) (ho:o.op=.call c) (hc:c.callee=.value (.func f)) (ha:c.args=#[x])
  (hx:ev st x (.v (.c (.s k 0 K n)))) (hb:look st.h k=some (.arr t K rows)) (hn:rows.length=n):bU P o st (.v (.c (.s k2 0 K n))) [(k2,.arr t K rows)] []:=by
 intro σ T a w C hnew
 have hxv:dC σ T w (.s k 0 K n) (a.eval x):=bN C hx
 obtain ⟨hK,hh⟩:=C.heap k _ hb
 obtain ⟨cs,hcs⟩:∃ cs:Nat->Nat->Value,(∀ (i:Nat) (row:List D) (j:Nat) (d:D),rows[i]?=some row->row[j]?=some d->bA T w d (cs i j))/\(∀ (i:Nat) (row:List D),rows[i]?=some row->row.length=K)/\
   (∀ g,σ k=some g->T g.g/\∀ (i:Nat) (row:List D) (j:Nat) (d:D),rows[i]?=some row->row[j]?=some d->w.cell? ⟨g.g,i * K+j,none⟩=some (cs i j)):=by
  rcases hh with ⟨h1,h2⟩|⟨g,vs,h1,h2,h3,h4,h5,h6⟩
  ·subst h1
   exact ⟨fun _ _=>undef,(fun i row j d h=>by simp at h),(fun i row h=>by simp at h),fun g hg=>by rw [h2] at hg;cases hg⟩
  ·refine ⟨fun i j=>(vs[i * K+j]?).getD undef,fun i row j d hr hd=>?_,fun i row hr=>(h6.2 i row hr).1,fun g' hg=>?_⟩
   ·obtain ⟨u,hu,hr'⟩:=(h6.2 i row hr).2 j d hd
    simp only [hu,Option.getD_some];exact hr'
   ·rw [h1] at hg;injection hg with hg;subst hg
    refine ⟨h2,fun i row j d hr hd=>?_⟩
    obtain ⟨u,hu,_⟩:=(h6.2 i row hr).2 j d hd
    rw [cell_of_row w g.g (i * K+j) _ _ (0,0) h3]
    simp only [List.getElem?_toArray,hu,Option.getD_some]
 obtain ⟨hc1,hc2,hc3⟩:=hcs
 obtain ⟨l,hl⟩:∃ l:List (List D),l=(List.range n).map fun i=>(List.range K).map fun j=>D.v (cs i j):=⟨_,rfl⟩
 have hll:l.length=n:=by rw [hl];simp
 have hli:∀ i row,l[i]?=some row->i < n/\row=(List.range K).map fun j=>D.v (cs i j):=fun i row h=>by
  rw [hl,List.getElem?_map,Option.map_eq_some_iff] at h
  obtain ⟨i',h1,rfl⟩:=h
  obtain ⟨h2,h3⟩:=List.getElem?_eq_some_iff.1 h1
  simp at h2 h3
  subst h3
  exact ⟨h2,rfl⟩
 have hlj:∀ i row j d,l[i]?=some row->row[j]?=some d->j < K/\d=D.v (cs i j):=fun i row j d h hd=>by
  obtain ⟨_,rfl⟩:=hli i row h
  rw [List.getElem?_map,Option.map_eq_some_iff] at hd
  obtain ⟨j',h1,rfl⟩:=hd
  obtain ⟨h2,h3⟩:=List.getElem?_eq_some_iff.1 h1
  simp at h2 h3
  subst h3
  exact ⟨h2,rfl⟩
 have at_:∀ i j,i < n->j < K->∃ row d,rows[i]?=some row/\row[j]?=some d:=fun i j hi hj=>by
  have h1:i < rows.length:=aa
  have h2:=hc2 i _ (List.getElem?_eq_getElem h1)
  exact ⟨rows[i],rows[i][j]'(by omega),List.getElem?_eq_getElem h1,List.getElem?_eq_getElem aa⟩
 have hlow:∀ b,(T b/\∀ g,σ k=some g->g.g≠b)->T b:=fun b h=>h.1
 have harg:cQ (ef (fun _=>none) (fun b=>T b/\∀ g,σ k=some g->g.g≠b) w) [.c (.d (.r K (l.map id)))] (c.args.map a.eval).toList:=by
  have hargs:(c.args.map a.eval).toList=[a.eval x]:=by rw [ha];simp
  rw [hargs,List.map_id]
  refine ⟨?_,trivial⟩
  show bA _ w (.r K l) (a.eval x)
  rcases hxv with ⟨h0,h1⟩|⟨g,hg,h1,h2,h3⟩
  ·rw [h1]
   have:l=[]:=List.eq_nil_of_length_eq_zero aa
   rw [this];exact bA.nil _ _ _
  ·rw [h1]
   obtain ⟨q1,q2⟩:=hc3 g hg
   have:=bA.r (T:=fun b=>T b/\∀ g,σ k=some g->g.g≠b) (w:=w) K l g.g (0 * K) (g.c - 0) cs (C.ft _ q1) (fun hb=>hb.2 g hg rfl) aa aa (fun i row hr=>by obtain ⟨_,rfl⟩:=hli i row hr;simp) (fun i row j d hr hd=>?_) (fun i row j d hr hd=>?_)
   ·rw [hll] at this;exact this
   ·obtain ⟨hj,rfl⟩:=hlj i row j d hr hd
    obtain ⟨row',d',r1,r2⟩:=at_ i j (hli i row hr).1 hj
    rw [Nat.zero_mul,Nat.zero_add];exact q2 i row' j d' r1 r2
   ·obtain ⟨hj,rfl⟩:=hlj i row j d hr hd
    obtain ⟨row',d',r1,r2⟩:=at_ i j (hli i row hr).1 hj
    have h5:=hc1 i row' j d' r1 r2
    exact .v _ ((show dC σ T w (.d d') _ from h5).one rfl)
 refine qb ho hc hen ((hF l hll _ w _ (fun b h=>C.ft b h.1) harg).mono ?_)
 rintro e w' ⟨v,σ',T',rfl,B,R⟩
 have hk2:σ k2=none:=hnew k2 _ List.mem_cons_self ca
 have hgrow:Grow σ (fun j=>if j=k2 then σ' 0 else σ j) T (fun b=>T b\/T' b) w w' (fun b=>∃ k∈([]:List Nat),∃ g,σ k=some g/\g.g=b):=⟨B.size,fun b hb _=>B.block b hb,(fun b ⟨k,hk,_⟩=>by cases hk),fun b hb h=>h.elim id fun h=>(R.na b hb h).1,fun j g hj=>by
  show (if j=k2 then σ' 0 else σ j)=some g
  rw [if_neg (fun e=>by rw [e,hk2] at hj;cases hj)];exact hj⟩
 refine ⟨v,rfl,v,fun j=>if j=k2 then σ' 0 else σ j,fun b=>T b\/T' b,rfl,⟨B.os,B.tape,B.output,hgrow,fun b h=>.inl h,fun b h=>h.elim (fun h=>Nat.lt_of_lt_of_le (C.ft b h) B.size) (R.ft b),fun j hj=>if_neg fun e=>hj (.arr t K rows) (by subst e;exact List.mem_cons_self),fun j b hj=>?_,fun j b g hj hg=>?_,fun j j' b b' g g' hj hj' _ _ _=>?_⟩,?_⟩
 ·simp only [List.mem_cons,List.not_mem_nil,or_false,Prod.mk.injEq] at hj
  obtain ⟨rfl,rfl⟩:=hj
  have h1:=R.heap 0 _ List.mem_cons_self
  rw [List.map_id] at h1
  show dX _ _ w' (if j=j then σ' 0 else σ j) (.arr t K rows)
  rw [if_pos rfl]
  refine ⟨hK,?_⟩
  rcases h1.2 with ⟨h2,h3⟩|⟨g,vs,h2,h3,h4,h5,h6,h7⟩
  ·left
   refine ⟨List.eq_nil_of_length_eq_zero ?_,h3⟩
   rw [h2] at hll;simp at hll;omega
  ·refine .inr ⟨g,vs,h2,.inr h3,h4,h5,h6,?_,fun i row hr=>⟨hc2 i row hr,fun j' d hd=>?_⟩⟩
   ·have:=h7.1;rw [hll] at this;rw [hn];exact this
   ·have hi:i < n:=by have:=(List.getElem?_eq_some_iff.1 hr).1;omega
    have hj:j' < K:=by have:=(List.getElem?_eq_some_iff.1 hd).1;have:=hc2 i row hr;omega
    have hr':l[i]?=some ((List.range K).map fun j=>D.v (cs i j)):=by rw [hl,List.getElem?_map,List.getElem?_range hi];rfl
    have hd':((List.range K).map fun j=>D.v (cs i j))[j']?=some (D.v (cs i j')):=by rw [List.getElem?_map,List.getElem?_range hj];rfl
    obtain ⟨u,hu,hr2⟩:=(h7.2 i _ hr').2 j' _ hd'
    refine ⟨u,hu,?_⟩
    rw [bA.inv hr2]
    exact (hc1 i row j' d hr hd).grow hgrow
 ·simp only [List.mem_cons,List.not_mem_nil,or_false,Prod.mk.injEq] at hj
  obtain ⟨rfl,rfl⟩:=hj
  have hg:(if j=j then σ' 0 else σ j)=some g:=hg
  rw [if_pos rfl] at hg
  exact .inl (R.fresh 0 _ g List.mem_cons_self hg)
 ·simp only [List.mem_cons,List.not_mem_nil,or_false,Prod.mk.injEq] at hj hj'
  rw [hj.1,hj'.1]
 ·have hr:dC σ' T' w' (.s 0 0 K l.length) v:=R.rel
  rw [hll] at hr
  rcases hr with h|⟨g,h1,h2⟩
  ·exact .inl h
  ·exact .inr ⟨g,by show (if k2=k2 then σ' 0 else σ k2)=some g;rw [if_pos rfl];exact h1,h2⟩
end
end
section
section
variable {P:Program}
theorem cS.HY {f:FuncId} {fn:Func} {c:Code} {ins:List GV} {bZ:List (Nat×AB)} {di:List Nat} {av:AV} {nb:List (Nat×AB)} (N:Nat) (s:List (Nat×AV)) (n:Nat) (hf:P.funcs[f]?=some fn) (hb:fn.body=some c) (hn:fn.ntmps=N) (hN:Nat.ble ins.length N=true) (hs:slotsOf 0 ins=s)
  (hin0:eV (keys bZ)=true) (hin1:bZ.all (fun x=>Nat.blt x.1 n)=true) (hok:ins.all (GV.ok (bo bZ))=true) (hokb:bZ.all (fun x=>x.2.ok (bo bZ))=true) (hkeep:di.all (fun k=>bo bZ k)=true)
  (h:∀ (W0:World) (F T:Nat->Prop) (pg:Nat->cg),(∀ b,F b->∃ k∈keys bZ,(pg k).g=b)->AC P W0 F (N,[]) T (di.map fun k=>(k,pg k)) (mj P fn (di.map fun k=>(k,pg k)) av nb) c ⟨s,bZ,n⟩):cS P f ins bZ di av nb:=by
 subst hn hs
 intro T σ w args hT hheap hinj hk hargs
 have hlen:=hargs.length
 have hlen:ins.length=args.size:=by simpa using hlen
 have hN:=Nat.le_of_ble_eq_true hN
 let σ0:Nat->Option cg:=fun k=>if bo bZ k=true then σ k else none
 have hσ:∀ k,bo bZ k=true->σ0 k=σ (id k):=fun k hk=>if_pos hk
 have hnd:=lp hin0
 let pg:Nat->cg:=fun k=>(σ k).getD ⟨0,0⟩
 have F:Nat->Prop:=fun b=>True
 clear F
 refine calls_of_wp hf hb (Code.wp_mono ?_ (h w (fun b=>∃ k∈keys bZ,∃ g,σ k=some g/\g.g=b) T pg (fun b ⟨k,hk,g,hg,hb⟩=>⟨k,hk,by show ((σ k).getD ⟨0,0⟩).g=b;rw [hg];exact hb⟩) _ w ⟨σ0,T,fun _ _=>⟨fun h=>h,fun h=>h⟩,⟨⟨?_,?_,?_,hT⟩,rfl,rfl,rfl,Nat.le_refl _,fun _ _ _=>rfl,?_,?_,?_,?_,rfl⟩,?_⟩))
 ·rintro e a' w' ⟨st,⟨he,st',gs,hw,hr,rfl,hnb⟩,hI⟩
  obtain ⟨σ',T',hT',S,hp⟩:=hw _ _ _ _ _ _ hI
  obtain ⟨v,hv,hrel⟩:=pR S.core hr
  have hpost:a'.defers=[]/\∃ v,(results fn a'.tmps).run P w'=.ok v w'/\∃ v' σ' T',Ending.returned v=.returned v'/\Gc σ T w bZ di w' σ' T' (ix gs) nb v':=by
   refine ⟨S.kr,v,hv,v,σ',T',rfl,S.os,S.tape,S.output,S.size,fun b hb hno=>S.cu b hb ?_,hrel,fun b hb=>(hT' b hb).1,fun b hb=>(hT' b (hT b hb)).2 hb,S.core.ft,fun k b hk=>S.core.heap k b (hnb.mem _ hk),fun k b g hk hg=>?_,
    fun k k' b b' g g' hk hk' hg hg' hgg=>S.core.inj k k' b b' g g' (hnb.mem _ hk) (hnb.mem _ hk') hg hg' hgg,fun k hkk=>?_⟩
   ·rintro ⟨k,hk,g,hg,hgb⟩;exact hno k hk g hg hgb
   ·rcases S.own k b g (hnb.mem _ hk) hg with h|⟨e,he,g',hg',hgg⟩
    ·exact .inl h
    ·exact .inr ⟨e,he,g',hg',hgg⟩
   ·obtain ⟨g,hg⟩:=hk k hkk
    have hl:=rY pg hkk
    have hpg:pg k=g:=by show (σ k).getD ⟨0,0⟩=g;rw [hg];rfl
    rw [hg,<-hpg]
    exact hp k _ hl
  rcases he with rfl|rfl<;>exact hpost
 ·intro i v hi
  obtain ⟨g,rfl,_,hg⟩:=oU hi
  obtain ⟨x,hx,hrel⟩:=hargs.get hg
  have hx':(args++Array.replicate (fn.ntmps - args.size) undef).getD i undef=x:=by
   rw [Nat.sub_zero] at hx
   have hlt:=(List.getElem?_eq_some_iff.1 hx).1
   rw [Array.getD_eq_getD_getElem?,Array.getElem?_append_left (by simpa using hlt),<-Array.getElem?_toList,hx]
   rfl
  rw [hx']
  have hgo:=List.all_eq_true.1 hok g (List.mem_of_getElem? hg)
  have hid:g.map id=g:=by cases g with
   |c x=>cases x<;>simp [GV.map,CV.map]
   |g xs=>
    have:xs.map (CV.map id)=xs:=by
     induction xs with
     |nil=>rfl
     |cons y l ih=>
      have hy:y.map id=y:=by cases y<;>simp [CV.map]
      simp only [List.map_cons,hy]
      congr 1
      induction l with
      |nil=>rfl
      |cons z l _=>exact (by
        have hz:∀ c:CV,c.map id=c:=fun c=>by cases c<;>simp [CV.map]
        exact List.map_congr_left (fun c _=>hz c)|>.trans (List.map_id _))
    simp [GV.map,this]
  exact ef.jH (ρ:=id) hσ (x:=g) (by rw [hid];exact hrel) hgo
 ·intro k b hk
  have hm:=bP hk
  have hkin:bo bZ k=true:=dL hm
  rw [hσ k hkin]
  have hgo:=List.all_eq_true.1 hokb _ hm
  refine dX.jH (ρ:=id) hσ ?_ hgo
  have hz:∀ c:CV,c.map id=c:=fun c=>by cases c<;>simp [CV.map]
  have hid:b.map' id=b:=by cases b with
   |box t cs=>simp only [AB.map'];congr 1;exact (List.map_congr_left (fun c _=>hz c)).trans (List.map_id _)
   |arr=>rfl
   |map=>rfl
  rw [hid]
  exact hheap k b hm
 ·intro k k' b b' g g' hk hk' hg hg' hgg
  rw [hσ k (dL (bP hk))] at hg
  rw [hσ k' (dL (bP hk'))] at hg'
  exact hinj k k' b b' g g' (bP hk) (bP hk') hg hg' hgg
 ·intro k b g hk hg
  rw [hσ k (dL (bP hk))] at hg
  exact .inr ⟨k,List.mem_map.2 ⟨(k,b),bP hk,rfl⟩,g,hg,rfl⟩
 ·intro k hk
  refine if_neg fun hkin=>?_
  obtain ⟨b,hb⟩:=jv hkin
  have:=List.all_eq_true.1 hin1 _ hb
  rw [Nat.blt_eq] at this
  have:k < n:=this
  have hk:n<=k:=hk
  omega
 ·intro k b hk
  have:=List.all_eq_true.1 hin1 _ (bP hk)
  rw [Nat.blt_eq] at this
  exact this
 ·simp;omega
 ·intro k g hl
  obtain ⟨k',hk',he⟩:=List.mem_map.1 (bP hl)
  injection he with e1 e2
  subst e1
  have hkin:=List.all_eq_true.1 hkeep k' hk'
  rw [hσ k' hkin]
  obtain ⟨g',hg'⟩:=hk k' hk'
  subst e2
  show σ k'=some ((σ k').getD ⟨0,0⟩)
  rw [hg'];rfl
end
section
variable {P:Program} {W0:World} {N:NT} {T0:Nat->Prop} {Q:Exit->aK->Prop} {s s':List (Nat×AV)} {h h':List (Nat×AB)} {n:Nat}
theorem Af {a:Go.Act} {w:World} (k:Nat) (k0:Nat) {g0:cg} {F:Nat->Prop} (hF:∀ b,F b->g0.g=b) (hk0:bo h' k0=true) (hk:bo h k=true) (hs:dG (fun x=>∃ y,look s x.1=some y/\BD ⟨s,h,n⟩ k (bo h') y x.2) s') (hh:dG (fun x=>look h x.1=some x.2) h') (hok:h'.all (fun x=>!Nat.beq x.1 k && x.2.ok (bo h'))=true)
  (hI:Inv W0 F N T0 [(k0,g0)] ⟨s,h,n⟩ a w):Inv W0 F N T0 [(k0,g0)] ⟨s',h',n⟩ a w:=by
 obtain ⟨σ,T,hT,S,hp⟩:=hI
 obtain ⟨b0,hb0⟩:=lq hk
 have hh':∀ j b,look h' j=some b->look h j=some b/\j≠k/\b.ok (bo h')=true:=fun j b hj=>by
  have h1:=List.all_eq_true.1 hok _ (bP hj)
  simp only [Bool.and_eq_true,Bool.not_eq_true'] at h1
  exact ⟨hh.mem _ (bP hj),(fun e=>by subst e;rw [Nat.beq_refl] at h1;exact absurd h1.1 ca),h1.2⟩
 have C:=S.core.freeze (st':=⟨s',h',n⟩) k (fun i v hi=>hs.mem _ (bP hi)) hh' ⟨b0,hb0⟩
 have q1:∀ b,b < W0.heap.size->(gr σ T [k] b->T0 b)/\(T0 b->gr σ T [k] b):=fun b hb=>⟨fun hb'=>(hT b hb).1 hb'.1,fun h0=>⟨(hT b hb).2 h0,fun e he g hg hgb=>by
  rw [List.mem_singleton.1 he] at hg
  rcases S.own k b0 g hb0 hg with h1|h1
  ·omega
  ·obtain ⟨b1,hb1⟩:=lq hk0
   have hb2:=hh' k0 b1 hb1
   exact absurd (S.core.inj k0 k b1 b0 g0 g hb2.1 hb0 (hp k0 g0 (by rw [cr,if_pos rfl])) hg (hF _ h1)) hb2.2.1⟩⟩
 have q2:∀ j b g,look h' j=some b->(if bo h' j=true then σ j else none)=some g->W0.heap.size<=g.g\/F g.g:=fun j b g hj hg=>by
  split at hg
  ·exact S.own j b g (hh' j b hj).1 hg
  ·cases hg
 have q3:∀ j,n<=j->(if bo h' j=true then σ j else none)=none:=fun j hj=>by
  split
  ·exact S.next j hj
  ·rfl
 exact ⟨_,_,q1,⟨C,S.os,S.tape,S.output,S.size,S.cu,q2,q3,fun j b hj=>S.hn j b (hh' j b hj).1,S.kM,S.kr⟩,fun j g hj=>by
  show (if bo h' j=true then σ j else none)=some g
  have h1:=hp j g hj
  rw [cr] at hj
  split at hj
  ·rename_i e;subst e;rw [if_pos hk0];exact h1
  ·cases hj⟩

theorem vH {c:Code} {F:Nat->Prop} {g0:cg} (hF:∀ b,F b->g0.g=b) (k:Nat) (hk0:bo h' 0=true) (hk:bo h k=true) (hs:dG (fun x=>∃ y,look s x.1=some y/\BD ⟨s,h,n⟩ k (bo h') y x.2) s') (hh:dG (fun x=>look h x.1=some x.2) h') (hok:h'.all (fun x=>!Nat.beq x.1 k && x.2.ok (bo h'))=true)
  (hn:AC P W0 F N T0 [(0,g0)] Q c ⟨s',h',n⟩):AC P W0 F N T0 [(0,g0)] Q c ⟨s,h,n⟩:=fun a w hI=>hn a w (Af k 0 hF hk0 hk hs hh hok hI)
end
section
variable {P:Program} {W0:World} {F:Nat->Prop} {N:NT} {T0:Nat->Prop} {pin:List (Nat×cg)} {ops:Array Oper} {Q:Exit->aK->Prop}
theorem Ew {o:Oper} {rest:List Oper} {s:List (Nat×AV)} {h:List (Nat×AB)} {n d:Nat} {av av':AV} {nb:List (Nat×AB)} (hw:aR ops o ⟨s,h,n⟩) (g:bU P o ⟨s,h,n⟩ av nb []) (hf:Jw nb av av') (hd:o.dst=some d) (hN:Nat.blt d N.1=true) (hnb:nb.all (fun x=>Nat.ble n x.1)=true)
  (hr:AL P W0 F N T0 pin ops Q rest ⟨(d,av')::s,h,n⟩):AL P W0 F N T0 pin ops Q (o::rest) ⟨s,h,n⟩:=by
 rintro a w ⟨σ,T,hT,S,hp⟩
 refine wpList_step fun K hK=>?_
 rw [if_pos (hw σ T a w S.core)]
 refine me (iZ (g σ T a w S.core fun k b hk _=>S.next k (Nat.le_of_ble_eq_true (List.all_eq_true.1 hnb _ hk))) ?_)
 rintro a' w' ⟨u,σ',T',rfl,X,hv⟩
 have hfresh:∀ k b g,(k,b)∈nb->σ' k=some g->w.heap.size<=g.g:=fun k b g hk hg=>(X.fresh k b g hk hg).resolve_right (fun ⟨e,he,_⟩=>by cases he)
 have hlow:∀ b,(T' b/\b < w.heap.size)->T' b:=fun b h=>h.1
 have X2:Ext σ T w σ (fun b=>T' b/\b < w.heap.size) w' [] []:=⟨X.os,X.tape,X.output,⟨X.grow.size,X.grow.cu,(fun b ⟨k,hk,_⟩=>by cases hk),fun b hb h=>X.grow.na b hb h.1,fun _ _ h=>h⟩,fun b h=>⟨X.oh b h,S.core.ft b h⟩,fun b h=>X.ft b h.1,fun _ _=>rfl,(fun _ _ h=>by cases h),(fun _ _ _ h=>by cases h),(fun _ _ _ _ _ _ h=>by cases h)⟩
 have hc:∀ c d u,CQ nb c d->dC σ' T' w' c u->dC σ (fun b=>T' b/\b < w.heap.size) w' d u:=by
  rintro c d u (⟨x,rfl,rfl⟩|⟨k,t,K,n,rows,rfl,rfl,hk,hn⟩) hu
  ·exact bA.gC hlow hu
  ·have hh:=X.rel k _ (bP hk)
   obtain ⟨hK,hh⟩:=hh
   rcases hu with ⟨h0,rfl⟩|⟨g,hg,rfl,hcap,hmax⟩
   ·subst h0
    have:rows=[]:=List.eq_nil_of_length_eq_zero hn
    subst this
    exact bA.nil _ _ _
   ·rcases hh with ⟨h1,h2⟩|⟨g',vs,h1,h2,h3,h4,h5,h6⟩
    ·rw [hg] at h2;cases h2
    ·rw [hg] at h1;injection h1 with h1;subst h1
     have hfr:=hfresh k _ g (bP hk) hg
     have:=bA.r (T:=fun b=>T' b/\b < w.heap.size) (w:=w') K rows g.g (0 * K) (g.c - 0) (fun i j=>(vs[i * K+j]?).getD undef) (X.ft _ h2) (fun hb=>by have:=hb.2;omega) aa aa (fun i row hr=>(h6.2 i row hr).1) (fun i row j d hr hd=>?_) (fun i row j d hr hd=>?_)
     ·rw [hn] at this;exact this
     ·obtain ⟨u,hu,_⟩:=(h6.2 i row hr).2 j d hd
      rw [Nat.zero_mul,Nat.zero_add,cell_of_row w' g.g (i * K+j) _ _ (0,0) h3]
      simp only [List.getElem?_toArray,hu,Option.getD_some]
     ·obtain ⟨u,hu,hr'⟩:=(h6.2 i row hr).2 j d hd
      simp only [hu,Option.getD_some]
      exact hr'.gC hlow
 have hgv:∀ c d u,CP nb c d->ef σ' T' w' c u->ef σ (fun b=>T' b/\b < w.heap.size) w' d u:=by
  intro c d u hcd hu
  match c,d,hcd with
  |.c c,.c d,hcd=>exact hc c d u hcd hu
  |.g cs,.g ds,hcd=>obtain ⟨vs,h1,h2⟩:=hu;exact ⟨vs,h1,cQ.comp (fun x y z h1 h2=>hc x y z h1 h2) hcd h2⟩
 have hv2:fH σ (fun b=>T' b/\b < w.heap.size) w' av' u:=by
  match av,av',hf with
  |.v c,.v d,hf=>exact hgv c d u hf hv
  |.t cs,.t ds,hf=>obtain ⟨vs,h1,h2⟩:=hv;exact ⟨vs,h1,cQ.comp (fun x y z h1 h2=>hgv x y z h1 h2) hf h2⟩
 have hS:=S.step (nb:=[]) (E:=[]) (dst:=o.dst) (fun _ h=>by cases h) (fun d' h'=>by rw [hd] at h';injection h' with h';subst h';rw [Nat.blt_eq] at hN;exact hN) X2 hv2
 rw [add_nil,hd] at hS
 rw [hd]
 exact hK _ _ (hr _ _ ⟨σ,_,fun b hb=>⟨fun hb'=>(hT b hb).1 (X.grow.na b (Nat.lt_of_lt_of_le hb S.size) hb'.1),fun h0=>⟨X.oh b ((hT b hb).2 h0),Nat.lt_of_lt_of_le hb S.size⟩⟩,hS,hp⟩)
end
end
section
def pP (a:Answer):Value:=.agg #[.int .i64 a.err,.int .i64 a.ba]
def tV (ps:List (Int×Answer)):List (Int×Value):=ps.map fun p=>(p.1,pP p.2)
def gf:List (Int×Answer)->Int->Option Answer
 |[],_=>none
 |(k,v)::l,a=>if k=a then some v else gf l a
def lC:List (Int×Answer)->Int->Answer->List (Int×Answer)
 |[],a,v=>[(a,v)]
 |(k,u)::l,a,v=>if k=a then (a,v)::l else (k,u)::lC l a v
theorem sl {a:Int}:∀ {ps:List (Int×Answer)} {ms:List MapEntry} (i:Nat),ms.map (fun e=>(e.key,e.val))=(tV ps).map (fun e=>(Value.int .i64 e.1,e.2))->
  (∃ j v,Instr.findNow (.int .i64) (.int .i64 a) ms i=some (some (i+j,pP v))/\gf ps a=some v/\(∃ e,ms[j]?=some e/\e.key=.int .i64 a)/\∀ u,tV (lC ps a u)=(tV ps).set j (a,pP u))\/
  (Instr.findNow (.int .i64) (.int .i64 a) ms i=some none/\gf ps a=none/\∀ u,lC ps a u=ps++[(a,u)])
 |[],[],i,_=>.inr ⟨rfl,rfl,fun _=>rfl⟩
 |[],_::_,_,h=>by cases h
 |_::_,[],_,h=>by cases h
 |(k,v)::ps,e::ms,i,h=>by
  obtain ⟨h1,h2⟩:=List.cons.inj h
  injection h1 with h3 h4
  unfold Instr.findNow gf lC
  rw [h3,h4]
  by_cases hk:k=a
  ·subst hk
   exact .inl ⟨0,v,by simp [Instr.sameNow],ca,⟨e,rfl,h3⟩,fun u=>by simp [tV]⟩
  ·have hk':(a==k)=false:=beq_eq_false_iff_ne.2 fun e=>hk e.symm
   rcases sl (ps:=ps) (ms:=ms) (a:=a) (i+1) h2 with ⟨j,w,h5,h6,⟨e',h7,h8⟩,h9⟩|⟨h5,h6,h7⟩
   ·refine .inl ⟨j+1,w,?_,by simp [hk,h6],⟨e',by simpa using h7,h8⟩,fun u=>?_⟩
    ·simp only [Instr.sameNow,hk',h5]
     simp [show i+1+j=i+(j+1) by omega]
    ·rw [if_neg hk]
     have:=h9 u
     simp only [tV] at this ⊢
     simp [this]
   ·exact .inr ⟨by simp [Instr.sameNow,hk',h5],by simp [hk,h6],fun u=>by rw [if_neg hk,h7];rfl⟩
section
variable {P:Program} {st:aK} {o:Oper}
theorem DU {t kt et:TypeId} {m x:Operand} {k cl:Nat} {a:Int} {ps:List (Int×Answer)} (hu:P.underlying t=some (.map kt et)) (hkt:P.underlying kt=some (.int .i64)) (hz:(P.info? et).bind (fun i=>i.zero)=some (.agg #[.int .i64 0,.int .i64 0])) (ho:o.op=.lookup t m x true)
  (hm:ev st m (.v (.c (.m k)))) (hx:ev st x (.v (.c (.d (.v (.int .i64 a)))))) (hb:look st.h k=some (.map (tV ps) cl)):
  bU P o st (.t [.g [cI ((gf ps a).getD ⟨0,0⟩).err,cI ((gf ps a).getD ⟨0,0⟩).ba],.c (cB (gf ps a).isSome)]) [] []:=
 bU.val fun σ T ac w C=>by
  obtain ⟨g,h1,h2⟩:=bN C hm
  have h3:=bA.inv (bN C hx)
  obtain ⟨g',ms,e1,e2,e3,e4⟩:=C.heap k _ hb
  rw [h1] at e1;injection e1 with e1;subst e1
  refine ⟨.tuple #[pP ((gf ps a).getD ⟨0,0⟩),.bool (gf ps a).isSome],?_,⟨_,rfl,⟨_,rfl,bA.v _ rfl,bA.v _ rfl,trivial⟩,bA.v _ rfl,trivial⟩⟩
  cases hq:P.info? et with
  |none=>simp [hq] at hz
  |some i=>
   have hzz:i.zero=some (.agg #[.int .i64 0,.int .i64 0]):=by simpa [hq] using hz
   unfold execOp
   rcases sl (a:=a) 0 e4 with ⟨j,v,hf,hg,_⟩|⟨hf,hg,_⟩
   ·simp [ho,h2,h3,hg,Instr.lookup,run_underlying hu,MapKept.run_getObj_map e3,MapKept.run_checkKey hkt (show MapKept.IsKey (.int .i64) (.int .i64 a) from rfl),MapKept.run_findKey hkt hf,Result.andThen]
   ·simp [ho,h2,h3,hg,Instr.lookup,run_underlying hu,MapKept.run_getObj_map e3,MapKept.run_checkKey hkt (show MapKept.IsKey (.int .i64) (.int .i64 a) from rfl),MapKept.run_findKey hkt hf,Result.andThen,zeroValue,typeInfo,hq,hzz,pP]
theorem DT {t kt et:TypeId} {m x y:Operand} {k cl:Nat} {a e u:Int} {ps:List (Int×Answer)} (hu:P.underlying t=some (.map kt et)) (hkt:P.underlying kt=some (.int .i64)) (ho:o.op=.mapUpdate t m x y)
  (hm:ev st m (.v (.c (.m k)))) (hx:ev st x (.v (.c (.d (.v (.int .i64 a)))))) (hy:ev st y (.v (.g [cI e,cI u]))) (hb:look st.h k=some (.map (tV ps) cl)):
  bU P o st (.v (.c .any)) [(k,.map (tV (lC ps a ⟨e,u⟩)) (if (gf ps a).isSome then cl else cl+1))] [k]:=by
 intro σ T ac w C _
 obtain ⟨g,h1,h2⟩:=bN C hm
 have h3:=bA.inv (bN C hx)
 obtain ⟨vs,h4,h5⟩:=bN C hy
 have h4:ac.eval y=pP ⟨e,u⟩:=by
  match vs,h5 with
  |[v1,v2],h5=>rw [h4,bA.inv h5.1,bA.inv h5.2.1];rfl
 obtain ⟨g',ms,e1,e2,e3,e4⟩:=C.heap k _ hb
 rw [h1] at e1;injection e1 with e1;subst e1
 have hlt:=(Array.getElem?_eq_some_iff.1 e3).1
 rcases sl (a:=a) 0 e4 with ⟨j,v,hf,hg,⟨e0,hj,hk⟩,hp⟩|⟨hf,hg,hp⟩
 ·rw [Nat.zero_add] at hf
  have hj':ms[j]?=some e0:=by simpa using hj
  refine oR (w':={w with heap:=w.heap.setIfInBounds g.g (.map (ms.modify j fun e'=>{e' with key:=.int .i64 a,val:=pP ⟨e,u⟩}) cl)}) ?_ ⟨undef,σ,T,rfl,Ext.write C hb h1 rfl rfl rfl ca (fun i hi=>(MapKept.heap_set e3).2 i hi) fun G=>?_,trivial⟩
  ·unfold execOp
   simp [ho,h2,h3,h4,Instr.mapUpdate,Sem.run_bind,run_underlying hu,Result.andThen_ok,MapKept.run_getObj_map e3,MapKept.run_checkKey hkt (show MapKept.IsKey (.int .i64) (.int .i64 a) from rfl),MapKept.run_findKey hkt hf,hj',hk,MapKept.run_keyThatStays (show MapKept.IsKey (.int .i64) (.int .i64 a) from rfl),MapKept.run_setObj_map _ e3]
  ·refine ⟨g,(ms.modify j fun e'=>{e' with key:=.int .i64 a,val:=pP ⟨e,u⟩}),rfl,e2,?_,?_⟩
   ·rw [hg];exact (MapKept.heap_set e3).1
   ·rw [hp,List.map_set,<-e4]
    refine List.ext_getElem? fun q=>?_
    rw [List.getElem?_map,Array.getElem?_toList,Array.getElem?_modify,List.getElem?_set,List.getElem?_map,Array.getElem?_toList]
    by_cases hq:j=q
    ·subst hq
     have hjl:=(Array.getElem?_eq_some_iff.1 hj').1
     simp [hj',hjl]
    ·simp [hq]
 ·refine oR (w':={w with heap:=w.heap.setIfInBounds g.g (.map (ms.push {key:=.int .i64 a,val:=pP ⟨e,u⟩,born:=cl}) (cl+1))}) ?_ ⟨undef,σ,T,rfl,Ext.write C hb h1 rfl rfl rfl ca (fun i hi=>(MapKept.heap_set e3).2 i hi) fun G=>?_,trivial⟩
  ·unfold execOp
   simp only [ho,h2,h3,h4,Instr.mapUpdate,Sem.run_bind,run_underlying hu,Result.andThen_ok,MapKept.run_getObj_map e3,MapKept.run_checkKey hkt (show MapKept.IsKey (.int .i64) (.int .i64 a) from rfl),MapKept.run_findKey hkt hf,MapKept.run_setObj_map _ e3]
   rfl
  ·refine ⟨g,(ms.push {key:=.int .i64 a,val:=pP ⟨e,u⟩,born:=cl}),rfl,e2,?_,?_⟩
   ·rw [hg];exact (MapKept.heap_set e3).1
   ·rw [hp,Array.toList_push,List.map_append,e4]
    simp [tV]
theorem Cj {t:TypeId} (k:Nat) (ho:o.op=.makeMap t none):bU P o st (.v (.c (.m k))) [(k,.map (tV []) 0)] []:=sg k ho
end
end
section
def ez {α:Type} (p:α->Bool) (l:List α):List α:=l.filter fun x=>!p x
def jU {α:Type} (p:α->Bool) (l:List α):Int:=
 match l.findIdx? p with
 |some i=>i
 |none=>-1
variable {α:Type} {p:α->Bool} {l c:List α} {i j q:Nat} {x:α}
theorem eY (h:l[j]?=some x):ez p (l.take (j+1))=ez p (l.take j)++if p x then [] else [x]:=by
 rw [gh h,ez,ez,List.filter_append]
 cases hp:p x<;>simp [hp]
theorem jw (p:α->Bool) (l:List α):(ez p l).length<=l.length:=List.length_filter_le _ _
theorem wY (h:(l.take q).all (fun y=>!p y)=true) (hx:l[q]?=some x) (hp:p x=true):jU p l=q:=by
 unfold jU
 have hq:=(List.getElem?_eq_some_iff.1 hx).1
 have:l.findIdx? p=some q:=by
  rw [List.findIdx?_eq_some_iff_getElem]
  refine ⟨hq,?_,fun r hr=>?_⟩
  ·have:=(List.getElem?_eq_some_iff.1 hx).2;rw [this];exact hp
  ·rw [List.all_eq_true] at h
   have hm:l[r]'(by omega)∈l.take q:=by
    rw [List.mem_iff_getElem]
    exact ⟨r,by rw [List.length_take];omega,ca⟩
   have:=h _ hm
   simpa using this
 rw [this]
theorem yN (h:l.all (fun y=>!p y)=true):jU p l=-1:=by
 unfold jU
 have:l.findIdx? p=none:=by
  rw [List.findIdx?_eq_none_iff]
  intro y hy
  have:=List.all_eq_true.1 h y hy
  simpa using this
 rw [this]
theorem zQ (h:(l.take q).all (fun y=>!p y)=true) (hx:l[q]?=some x) (hp:p x=false):(l.take (q+1)).all (fun y=>!p y)=true:=we h hx (by simp [hp])
theorem wZ (p:α->Bool) (l:List α):(jU p l=-1/\ez p l=l)\/∃ i:Nat,jU p l=i/\i < l.length/\∃ x,l[i]?=some x/\p x=true/\ez p (l.take i)=l.take i:=by
 unfold jU
 cases h:l.findIdx? p with
 |none=>
  refine .inl ⟨rfl,?_⟩
  rw [List.findIdx?_eq_none_iff] at h
  exact List.filter_eq_self.2 fun y hy=>by simp [h y hy]
 |some i=>
  rw [List.findIdx?_eq_some_iff_getElem] at h
  obtain ⟨h1,h2,h3⟩:=h
  refine .inr ⟨i,rfl,h1,l[i],List.getElem?_eq_getElem h1,h2,?_⟩
  refine List.filter_eq_self.2 fun y hy=>?_
  obtain ⟨r,hr,rfl⟩:=List.mem_iff_getElem.1 hy
  rw [List.length_take] at hr
  have:=h3 r aa
  simp [this]
structure om (p:α->Bool) (l c:List α) (i j:Nat):Prop where
 len:c.length=l.length
 ij:i < j
 jl:j<=l.length
 pre:c.take i=ez p (l.take j)
 post:c.drop j=l.drop j
theorem om.get (h:om p l c i j) (hx:c[j]?=some x):l[j]?=some x:=by
 have h1:(c.drop j)[0]?=(l.drop j)[0]?:=by rw [h.post]
 simpa [hx] using h1.symm
theorem om.skip (h:om p l c i j) (hx:c[j]?=some x) (hp:p x=true):om p l c i (j+1):=by
 have hl:=h.get hx
 have hj:=(List.getElem?_eq_some_iff.1 hl).1
 refine ⟨h.len,Nat.lt_succ_of_lt h.ij,hj,?_,?_⟩
 ·rw [eY hl,hp,h.pre];simp
 ·rw [<-List.drop_drop,<-List.drop_drop,h.post]
theorem om.di (h:om p l c i j) (hx:c[j]?=some x) (hp:p x=false):om p l (c.set i x) (i+1) (j+1):=by
 have hl:=h.get hx
 have hj:=(List.getElem?_eq_some_iff.1 hl).1
 have hi:i < c.length:=by have:=h.ij;rw [h.len];omega
 refine ⟨by rw [List.length_set];exact h.len,Nat.succ_lt_succ h.ij,hj,?_,?_⟩
 ·rw [eY hl,hp,<-h.pre]
  rw [List.take_succ_eq_append_getElem (by rw [List.length_set];exact hi)]
  simp [List.take_set_of_le]
 ·rw [List.drop_set_of_lt (by have:=h.ij;omega),<-List.drop_drop,<-List.drop_drop,h.post]
theorem om.start {i:Nat} (hx:l[i]?=some x) (hp:p x=true) (hk:ez p (l.take i)=l.take i):om p l l i (i+1):=by
 have hi:=(List.getElem?_eq_some_iff.1 hx).1
 refine ⟨rfl,Nat.lt_succ_self i,hi,?_,rfl⟩
 rw [eY hx,hp,hk];simp
theorem om.done (h:om p l c i j) (hj:l.length<=j):c.take i=ez p l:=by
 rw [h.pre,List.take_of_length_le hj]
end
section
section
variable {α:Type} [DecidableEq α] {a b:List α}
end
end
section
def kp (a b c:Int):Int:=if a < 1\/a > 1000000\/b < 0\/b > 30\/c < 0\/c > 1000000000000 then 3 else 0
def scan (e:Nat->Int) (q:Nat):Nat->Int×Int
 |0=>(0,0)
 |k+1=>if e q≠0 then (e q,(q:Int)) else scan e (q+1) k
theorem kD {e:Nat->Int} {q n:Nat} (hq:q < n) (h:e q=0):scan e q (n - q)=scan e (q+1) (n - (q+1)):=by
 rw [show n - q=(n - (q+1))+1 by omega,scan,if_neg (by simp [h])]
theorem gk {e:Nat->Int} {q n:Nat} (hq:q < n) {c:Int} (h:e q=c) (hc:c≠0):scan e q (n - q)=(c,(q:Int)):=by
 rw [show n - q=(n - (q+1))+1 by omega,scan,if_pos (by rw [h];exact hc),h]
theorem kW {e:Nat->Int} {q n:Nat} (hq:¬q < n):scan e q (n - q)=(0,0):=by rw [show n - q=0 by omega];rfl
theorem qF {e:Nat->Int}:∀ (n q:Nat),(scan e q n).1=0↔∀ i,q<=i->i < q+n->e i=0
 |0,q=>by simp [scan];intro i h1 h2;omega
 |n+1,q=>by
  rw [scan]
  split
  ·rename_i h;exact ⟨fun h'=>absurd h' h,fun h'=>absurd (h' q (Nat.le_refl _) aa) h⟩
  ·rename_i h
   rw [qF n (q+1)]
   constructor
   ·intro h' i h1 h2
    by_cases hi:i=q
    ·subst hi;omega
    ·exact h' i aa aa
   ·exact fun h' i h1 h2=>h' i aa aa
def kd (l:List dh) (q:Nat):Int:=
 match l[q]? with
 |some u=>if u.time < 0\/u.time > 1000000\/u.sum < 0\/u.sum > 1000000 then 3 else if 0 < q/\(l.getD (q - 1) ⟨0,0⟩).time > u.time then 2 else 0
 |none=>0
def cO (l:List dh):Int×Int:=if l.length > 30 then (5,0) else scan (kd l) 0 l.length
def gd (p:ff):Int:=kp p.cw p.count p.sum
def fj (l:List dh):cM:=⟨(cO l).1,(cO l).2⟩
def cu (p:ff) (t:Int) (u:dh):Bool:=decide (u.time<=t - p.cw)
def dP (p:ff) (l:List dh) (t:Int):List dh:=ez (cu p t) l
def iu:List dh->Int
 |[]=>0
 |u::l=>u.sum+iu l
def hZ (l:List dh) (t:Int):Bool:=match l.getLast? with
 |some u=>decide (u.time > t)
 |none=>false
def ea (p:ff) (l:List dh) (x:dh):List dh×Int:=
 if gd p≠0 then ([],gd p)
 else if (fj l).err≠0 then ([],(fj l).err)
 else if (fj [x]).err≠0 then ([],(fj [x]).err)
 else if hZ l x.time=true then ([],2)
 else if p.count < ((dP p l x.time).length:Int)+1\/p.sum < iu (dP p l x.time)+x.sum then ([],11)
 else (dP p l x.time++[x],0)
theorem nL {p:ff} (h:gd p=0):1<=p.cw/\p.cw<=1000000/\0<=p.count/\p.count<=30/\0<=p.sum/\p.sum<=1000000000000:=by
 unfold gd kp at h
 split at h
 ·cases h
 ·omega
theorem tG {l:List dh}:(fj l).err=0↔l.length<=30/\∀ i,i < l.length->kd l i=0:=by
 unfold fj cO
 dsimp only
 split
 ·constructor
  ·intro h;cases h
  ·intro h;omega
 ·rw [qF]
  constructor
  ·exact fun h=>⟨aa,fun i hi=>h i (Nat.zero_le _) aa⟩
  ·exact fun h i _ hi=>h.2 i aa
theorem tK {l:List dh} {q:Nat} {u:dh} (h:l[q]?=some u):kd l q=0↔(0<=u.time/\u.time<=1000000/\0<=u.sum/\u.sum<=1000000)/\∀ v,0 < q->l[q - 1]?=some v->v.time<=u.time:=by
 unfold kd
 rw [h]
 dsimp only
 have hq:=(List.getElem?_eq_some_iff.1 h).1
 split
 ·constructor
  ·intro h;cases h
  ·intro h;omega
 ·split
  ·rename_i h1 h2
   constructor
   ·intro h;cases h
   ·intro h3
    have hv:l[q - 1]?=some l[q - 1]:=List.getElem?_eq_getElem aa
    have:=h3.2 _ h2.1 hv
    rw [List.getD_eq_getElem?_getD,hv] at h2
    simp only [Option.getD_some] at h2
    omega
  ·rename_i h1 h2
   refine ⟨fun _=>⟨aa,fun v h3 h4=>?_⟩,fun _=>rfl⟩
   rw [List.getD_eq_getElem?_getD,h4] at h2
   simp only [Option.getD_some] at h2
   omega
theorem iO {l:List dh} (h:(fj l).err=0):l.length<=30/\∀ u∈l,0<=u.time/\u.time<=1000000/\0<=u.sum/\u.sum<=1000000:=by
 obtain ⟨h1,h2⟩:=tG.1 h
 refine ⟨h1,fun u hu=>?_⟩
 obtain ⟨i,hi⟩:=List.getElem?_of_mem hu
 exact ((tK hi).1 (h2 i (List.getElem?_eq_some_iff.1 hi).1)).1
theorem gT (l:List dh) (u:dh):iu (l++[u])=iu l+u.sum:=by
 induction l with
 |nil=>simp [iu]
 |cons x l ih=>simp only [List.cons_append,iu,ih];omega
theorem uK {l:List dh} (h:∀ u∈l,0<=u.time/\u.time<=1000000/\0<=u.sum/\u.sum<=1000000):0<=iu l/\iu l<=1000000 * l.length:=by
 induction l with
 |nil=>simp [iu]
 |cons x l ih=>
  have h1:=ih fun u hu=>h u (List.mem_cons_of_mem _ hu)
  have h2:=h x List.mem_cons_self
  simp only [iu,List.length_cons]
  omega
theorem kx {α:Type} {p:α->Bool} {l:List α} {x:α} (h:x∈ez p l):x∈l:=(List.mem_filter.1 h).1
theorem tc {p:ff} {l:List dh} {t:Int} {k:Nat} (h:(fj l).err=0):0<=iu ((dP p l t).take k)/\iu ((dP p l t).take k)<=30000000:=by
 obtain ⟨h1,h2⟩:=iO h
 have h3:=uK (l:=(dP p l t).take k) fun u hu=>h2 u (kx (List.mem_of_mem_take hu))
 have h4:=jw (cu p t) l
 have h5:((dP p l t).take k).length<=(dP p l t).length:=by rw [List.length_take];exact Nat.min_le_right _ _
 have h6:(dP p l t).length<=30:=Nat.le_trans h4 h1
 omega
theorem Ig {α:Type} {a b x:α} {q:Nat} (h:[a,b][q]?=some x):(q=0/\x=a)\/(q=1/\x=b):=by
 match q with
 |0=>left;simp_all
 |1=>right;simp_all
 |q+2=>simp at h
theorem kE {l:List dh} {t:Int} {u:dh} (h:l[l.length - 1]?=some u):hZ l t=decide (u.time > t):=by
 unfold hZ
 rw [List.getLast?_eq_getElem?,h]
end
section
theorem rF {p:ff} {l:List dh} {x:dh} {k:Nat} (h:(fj l).err=0) (hx:(fj [x]).err=0):0<=iu ((dP p l x.time++[x]).take k)/\iu ((dP p l x.time++[x]).take k)<=31000000:=by
 obtain ⟨h1,h2⟩:=iO h
 obtain ⟨_,h2'⟩:=iO hx
 have h3:=uK (l:=(dP p l x.time++[x]).take k) fun u hu=>by
  rcases List.mem_append.1 (List.mem_of_mem_take hu) with h|h
  ·exact h2 u (kx h)
  ·exact h2' u h
 have h4:=jw (cu p x.time) l
 have h5:((dP p l x.time++[x]).take k).length<=(dP p l x.time).length+1:=by rw [List.length_take,List.length_append];exact Nat.min_le_right _ _
 have h6:(dP p l x.time).length<=30:=Nat.le_trans h4 h1
 omega
end
section
theorem Er {p:ff} {l r:List dh} {x:dh} (h:ea p l x=(r,0)):gd p=0/\(fj l).err=0/\(fj [x]).err=0/\hZ l x.time=false/\((dP p l x.time).length:Int)+1<=p.count/\iu (dP p l x.time)+x.sum<=p.sum/\r=dP p l x.time++[x]:=by
 unfold ea at h
 split at h
 ·rename_i h1;simp only [Prod.mk.injEq] at h;exact absurd h.2 h1
 split at h
 ·rename_i h1;simp only [Prod.mk.injEq] at h;exact absurd h.2 h1
 split at h
 ·rename_i h1;simp only [Prod.mk.injEq] at h;exact absurd h.2 h1
 split at h
 ·simp at h
 split at h
 ·simp at h
 ·rename_i h1 h2 h3 h4 h5
  simp only [Prod.mk.injEq] at h
  exact ⟨aa,aa,aa,by simpa using h4,aa,aa,h.1.symm⟩
structure Kept (p:ff) (all kept:List dh):Prop where
 times:∀ u∈all,∀ v,all.getLast?=some v->u.time<=v.time
 last:kept.getLast?=all.getLast?
 KQ:∀ t,(∀ v,all.getLast?=some v->v.time<=t)->dP p kept t=dP p all t
 fe:∀ i u,all[i]?=some u->((dP p (all.take (i+1)) u.time).length:Int)<=p.count/\iu (dP p (all.take (i+1)) u.time)<=p.sum
 bound:∀ u∈all,0<=u.time/\u.time<=1000000/\0<=u.sum/\u.sum<=1000000
theorem Kept.nil (p:ff):Kept p [] []:=⟨fun u h=>by simp at h,rfl,fun _ _=>rfl,fun i u h=>by simp at h,fun u h=>by simp at h⟩
theorem sa (p:dh->Bool) (l:List dh) (x:dh):ez p (l++[x])=ez p l++if p x then [] else [x]:=by
 rw [ez,ez,List.filter_append]
 cases hp:p x<;>simp [hp]
theorem Kept.add {p:ff} {all kept r:List dh} {x:dh} (h:Kept p all kept) (ha:ea p kept x=(r,0)):Kept p (all++[x]) r:=by
 obtain ⟨h1,h2,h3,h4,h5,h6,rfl⟩:=Er ha
 have hp:=nL h1
 have hl:∀ v,all.getLast?=some v->v.time<=x.time:=fun v hv=>by
  unfold hZ at h4
  rw [h.last,hv] at h4
  simpa using h4
 have hx:=(iO h3).2 x ca
 have hrec:dP p kept x.time=dP p all x.time:=h.KQ _ hl
 have hold:∀ t,cu p t x=false\/t - p.cw>=x.time:=fun t=>by unfold cu;by_cases h:x.time<=t - p.cw<;>simp [h]
 have hx0:cu p x.time x=false:=by unfold cu;simp;omega
 refine ⟨fun u hu v hv=>?_,ca,fun t ht=>?_,fun i u hi=>?_,fun u hu=>?_⟩
 ·have hv':v=x:=by simpa using hv.symm
  subst hv'
  rcases List.mem_append.1 hu with hu|hu
  ·cases hg:all.getLast? with
   |none=>rw [List.getLast?_eq_none_iff] at hg;subst hg;simp at hu
   |some w=>have:=h.times u hu w hg;have:=hl w hg;omega
  ·have:u=v:=by simpa using hu
   subst this;omega
 ·have htx:x.time<=t:=ht x ca
  unfold dP
  rw [sa,sa]
  congr 1
  show ez (cu p t) (dP p kept x.time)=ez (cu p t) all
  rw [hrec]
  unfold dP ez
  rw [List.filter_filter]
  apply List.filter_congr
  intro u _
  unfold cu
  by_cases h1:u.time<=t - p.cw
  ·simp [h1]
  ·have:¬u.time<=x.time - p.cw:=aa
   simp [h1,this]
 ·by_cases hi':i < all.length
  ·rw [List.getElem?_append_left hi'] at hi
   rw [List.take_append_of_le_length aa]
   exact h.fe i u hi
  ·have hlt:=(List.getElem?_eq_some_iff.1 hi).1
   simp at hlt
   obtain rfl:i=all.length:=aa
   have hux:u=x:=by simpa using hi.symm
   subst hux
   rw [List.take_of_length_le ca]
   unfold dP at *
   rw [sa,hx0,<-hrec]
   simp only [Bool.false_eq_true,if_false,List.length_append,List.length_singleton,gT]
   omega
 ·rcases List.mem_append.1 hu with hu|hu
  ·exact h.bound u hu
  ·have:u=x:=by simpa using hu
   subst this;exact hx
end
section
def nw (n:Int):Bool:=decide (n > 1000000000000)||decide (n < -1000000000000)
def df (c:bF):Int:=
 if c.bB < -1000000000000\/c.bB > 1000000000000\/c.held < 0\/c.held > 1000000000000 then 3 else if gd c.bJ≠0 then gd c.bJ else (fj c.cO).err
def rU:bF:=⟨0,0,⟨0,0,0⟩,[]⟩
def eh (c:bF) (n time:Int):bF×Int:=
 if df c≠0 then (rU,df c)
 else if n < 1\/n > 1000000\/time < 0\/time > 1000000 then (rU,3)
 else if c.held+n > c.bB then (rU,10)
 else if (ea c.bJ c.cO ⟨time,n⟩).2≠0 then (rU,(ea c.bJ c.cO ⟨time,n⟩).2)
 else (⟨c.bB,c.held+n,c.bJ,(ea c.bJ c.cO ⟨time,n⟩).1⟩,0)
def eB (c:bF) (n:Int):bF×Int:=
 if df c≠0 then (rU,df c)
 else if n < 1\/n > 1000000\/c.held+n > 1000000000000 then (rU,3)
 else (⟨c.bB,c.held+n,c.bJ,c.cO⟩,0)
def eg (c:bF) (held bB:Int):bF×Int:=
 if df c≠0 then (rU,df c)
 else if held < -1000000000000\/held > 1000000000000\/bB < -1000000000000\/bB > 1000000000000 then (rU,3)
 else if df ⟨c.bB+bB,c.held+held,c.bJ,c.cO⟩≠0 then (rU,10)
 else (⟨c.bB+bB,c.held+held,c.bJ,c.cO⟩,0)
theorem jB {c:bF} (h:df c=0):-1000000000000<=c.bB/\c.bB<=1000000000000/\0<=c.held/\c.held<=1000000000000/\gd c.bJ=0/\(fj c.cO).err=0:=by
 unfold df at h
 split at h
 ·cases h
 ·split at h
  ·omega
  ·omega
theorem oJ {c:bF} (h:-1000000000000<=c.bB/\c.bB<=1000000000000/\0<=c.held/\c.held<=1000000000000) (h1:gd c.bJ=0) (h2:(fj c.cO).err=0):df c=0:=by
 unfold df
 rw [if_neg aa,if_neg aa,h2]
theorem lk {c:bF} (h:df c=0):c.cO.length<=30:=(iO (jB h).2.2.2.2.2).1
theorem tN {c x:bF} {a m e:Int} (h:eg c a m=(x,e)):(e≠0/\x=rU/\(e=3->df c=0->(a < -1000000000000\/a > 1000000000000\/m < -1000000000000\/m > 1000000000000)))\/(e=0/\df c=0/\-1000000000000<=a/\a<=1000000000000/\-1000000000000<=m/\m<=1000000000000/\x=⟨c.bB+m,c.held+a,c.bJ,c.cO⟩/\df x=0):=by
 unfold eg at h
 split at h
 ·rename_i h1;simp only [Prod.mk.injEq] at h;exact .inl ⟨h.2▸h1,h.1.symm,fun _ h3=>absurd h3 h1⟩
 split at h
 ·rename_i h1;simp only [Prod.mk.injEq] at h;exact .inl ⟨aa,h.1.symm,fun _ _=>h1⟩
 split at h
 ·simp only [Prod.mk.injEq] at h;exact .inl ⟨aa,h.1.symm,fun h3=>by omega⟩
 ·rename_i h1 h2 h3
  simp only [Prod.mk.injEq] at h
  obtain ⟨rfl,rfl⟩:=h
  exact .inr ⟨rfl,aa,aa,aa,aa,aa,rfl,aa⟩
theorem ux {c x:bF} {n t e:Int} (h:eh c n t=(x,e)):(e≠0/\x=rU/\(e=10->df c=0->c.held+n > c.bB\/(ea c.bJ c.cO ⟨t,n⟩).2=10))\/(e=0/\df c=0/\1<=n/\n<=1000000/\0<=t/\t<=1000000/\c.held+n<=c.bB/\∃ l,ea c.bJ c.cO ⟨t,n⟩=(l,0)/\x=⟨c.bB,c.held+n,c.bJ,l⟩):=by
 unfold eh at h
 split at h
 ·rename_i h1;simp only [Prod.mk.injEq] at h;exact .inl ⟨h.2▸h1,h.1.symm,fun _ h3=>absurd h3 h1⟩
 split at h
 ·simp only [Prod.mk.injEq] at h;exact .inl ⟨aa,h.1.symm,fun h3=>by omega⟩
 split at h
 ·rename_i h1;simp only [Prod.mk.injEq] at h;exact .inl ⟨aa,h.1.symm,fun _ _=>.inl h1⟩
 split at h
 ·rename_i h1;simp only [Prod.mk.injEq] at h;exact .inl ⟨h.2▸h1,h.1.symm,fun h3 _=>.inr (h.2.trans h3)⟩
 ·rename_i h1 h2 h3 h4
  simp only [Prod.mk.injEq] at h
  refine .inr ⟨h.2.symm,aa,aa,aa,aa,aa,aa,_,Prod.ext rfl (by simpa using h4),h.1.symm⟩
end
section
end
section
theorem vI {l:List dh}:(fj l).err=0↔l.length<=30/\(∀ u∈l,0<=u.time/\u.time<=1000000/\0<=u.sum/\u.sum<=1000000)/\l.Pairwise fun a b=>a.time<=b.time:=by
 constructor
 ·intro h
  obtain ⟨h1,h2⟩:=tG.1 h
  refine ⟨h1,(iO h).2,?_⟩
  rw [List.pairwise_iff_getElem]
  have step:∀ i (hi:i+1 < l.length),l[i].time<=l[i+1].time:=fun i hi=>by
   have h3:=((tK (List.getElem?_eq_getElem hi)).1 (h2 (i+1) hi)).2 l[i] aa (List.getElem?_eq_getElem aa)
   exact h3
  intro i j hi hj hij
  obtain ⟨k,rfl⟩:∃ k,j=i+1+k:=⟨j - i - 1,aa⟩
  clear hij
  induction k with
  |zero=>exact step i hj
  |succ k ih=>
   have h4:=ih aa
   have h5:=step (i+1+k) hj
   exact Int.le_trans h4 h5
 ·rintro ⟨h1,h2,h3⟩
  refine tG.2 ⟨h1,fun i hi=>?_⟩
  refine (tK (List.getElem?_eq_getElem hi)).2 ⟨h2 _ (List.getElem_mem hi),fun v h0 hv=>?_⟩
  rw [List.pairwise_iff_getElem] at h3
  obtain ⟨h5,rfl⟩:=List.getElem?_eq_some_iff.1 hv
  exact h3 (i - 1) i h5 hi aa
theorem Ep {p:ff} {l r:List dh} {x:dh} (h:ea p l x=(r,0)):(fj r).err=0:=by
 obtain ⟨h1,h2,h3,h4,h5,h6,rfl⟩:=Er h
 have hp:=nL h1
 obtain ⟨h7,h8,h9⟩:=vI.1 h2
 have hx:=(iO h3).2 x ca
 refine vI.2 ⟨by rw [List.length_append,List.length_singleton];omega,fun u hu=>?_,?_⟩
 ·rcases List.mem_append.1 hu with hu|hu
  ·exact h8 u (kx hu)
  ·have:u=x:=by simpa using hu
   subst this;exact hx
 ·rw [List.pairwise_append]
  refine ⟨List.Pairwise.filter _ h9,ca,fun u hu v hv=>?_⟩
  have:v=x:=by simpa using hv
  subst this
  have hu':=kx hu
  have hne:l≠[]:=by intro e;subst e;simp at hu'
  have hlast:(l.getLast hne).time<=v.time:=by
   unfold hZ at h4
   rw [List.getLast?_eq_some_getLast hne] at h4
   simpa using h4
  refine Int.le_trans ?_ hlast
  obtain ⟨i,hi,rfl⟩:=List.mem_iff_getElem.1 hu'
  rw [List.getLast_eq_getElem]
  by_cases e:i=l.length - 1
  ·subst e;exact Int.le_refl _
  ·rw [List.pairwise_iff_getElem] at h9
   exact h9 i (l.length - 1) hi aa aa
end
section

end
section
def lD (s:bK) (q:Nat):Int:=
 match s.kept[q]? with
 |some t=>if t.kind < 1\/t.kind > 3 then 1 else if t.ba < 0\/t.ba > 29\/t.sum < 1\/t.sum > 1000000 then 3 else if t.number≠s.bj - s.kept.length+1+q then 2 else 0
 |none=>0
def jy (s:bK):Int×Int:=
 if s.kept.length > 40 then (5,0) else if s.bj < s.kept.length\/s.bj > 1000000 then (3,0) else scan (lD s) 0 s.kept.length
def cK (s:bK):cM:=⟨(jy s).1,(jy s).2⟩
def AZ:bK:=⟨0,[]⟩
def nh (s:bK) (t:aZ):bK:=⟨s.bj+1,s.kept++[⟨s.bj+1,t.kind,t.ba,t.sum⟩]⟩
def gL (s:bK) (t:aZ):bK×Int:=
 if (cK s).err≠0 then (AZ,(cK s).err)
 else if (cK (nh s t)).err≠0 then (AZ,(cK (nh s t)).err) else (nh s t,0)
def came (seen:Int) (t:aZ):Bool:=decide (t.number<=seen)
def en (s:bK) (seen:Int):bK×Int:=
 if (cK s).err≠0 then (AZ,(cK s).err)
 else if seen < 0\/seen > s.bj then (AZ,3) else (⟨s.bj,ez (came seen) s.kept⟩,0)
def jK (seen:Int) (t:aZ):Int×Bool:=
 if seen < 0\/seen>=1000000\/t.number≠seen+1 then (seen,false) else (seen+1,true)
theorem lh {s:bK}:(cK s).err=0↔s.kept.length<=40/\(s.kept.length:Int)<=s.bj/\s.bj<=1000000/\∀ i,i < s.kept.length->lD s i=0:=by
 unfold cK jy
 dsimp only
 split
 ·constructor
  ·intro h;cases h
  ·intro h;omega
 ·split
  ·constructor
   ·intro h;cases h
   ·intro h;omega
  ·rw [qF]
   constructor
   ·exact fun h=>⟨aa,aa,aa,fun i hi=>h i (Nat.zero_le _) aa⟩
   ·exact fun h i _ hi=>h.2.2.2 i aa
theorem yb {s:bK} {q:Nat} {t:aZ} (h:s.kept[q]?=some t):lD s q=0↔1<=t.kind/\t.kind<=3/\0<=t.ba/\t.ba<=29/\1<=t.sum/\t.sum<=1000000/\t.number=s.bj - s.kept.length+1+q:=by
 unfold lD
 rw [h]
 dsimp only
 split
 ·constructor
  ·intro h;cases h
  ·intro h;omega
 ·split
  ·constructor
   ·intro h;cases h
   ·intro h;omega
  ·split
   ·constructor
    ·intro h;cases h
    ·intro h;omega
   ·constructor
    ·intro _;omega
    ·intro _;rfl
theorem yo {s:bK} (h:(cK s).err=0):s.kept.length<=40/\(s.kept.length:Int)<=s.bj/\s.bj<=1000000/\∀ (i:Nat) (t:aZ),s.kept[i]?=some t->1<=t.kind/\t.kind<=3/\0<=t.ba/\t.ba<=29/\1<=t.sum/\t.sum<=1000000/\t.number=s.bj - s.kept.length+1+i:=by
 obtain ⟨h1,h2,h3,h4⟩:=lh.1 h
 exact ⟨h1,h2,h3,fun i t ht=>(yb ht).1 (h4 i (List.getElem?_eq_some_iff.1 ht).1)⟩
theorem GQ {s:bK} (h1:s.kept.length<=40) (h2:(s.kept.length:Int)<=s.bj) (h3:s.bj<=1000000) (h4:∀ (i:Nat) (t:aZ),s.kept[i]?=some t->1<=t.kind/\t.kind<=3/\0<=t.ba/\t.ba<=29/\1<=t.sum/\t.sum<=1000000/\t.number=s.bj - s.kept.length+1+i):(cK s).err=0:=
 lh.2 ⟨h1,h2,h3,fun i hi=>by
  have ht:s.kept[i]?=some s.kept[i]:=List.getElem?_eq_getElem hi
  exact (yb ht).2 (h4 i _ ht)⟩
theorem DH {s:bK} (h:(cK s).err=0) (seen:Int):ez (came seen) s.kept=s.kept.drop (seen - (s.bj - s.kept.length)).toNat:=by
 obtain ⟨h1,h2,h3,h4⟩:=yo h
 have gen:∀ (l:List aZ) (a:Int),(∀ (i:Nat) (t:aZ),l[i]?=some t->t.number=a+1+i)->ez (came seen) l=l.drop (seen - a).toNat:=by
  intro l
  induction l with
  |nil=>intro a _;simp [ez]
  |cons t l ih=>
   intro a ha
   have ht:=ha 0 t rfl
   have ih:=ih (a+1) fun i u hu=>by have:=ha (i+1) u (by simpa using hu);omega
   unfold ez at ih ⊢
   rw [List.filter_cons]
   by_cases hs:t.number<=seen
   ·have h0:came seen t=true:=by simp [came,hs]
    rw [h0,if_neg ca,ih]
    have:(seen - a).toNat=(seen - (a+1)).toNat+1:=aa
    rw [this,List.drop_succ_cons]
   ·have h0:came seen t=false:=by simp [came,hs]
    rw [h0,if_pos ca,ih]
    have h1:(seen - (a+1)).toNat=0:=aa
    have h2:(seen - a).toNat=0:=aa
    rw [h1,h2];rfl
 exact gen s.kept _ fun i t ht=>(h4 i t ht).2.2.2.2.2.2
theorem AD {a b v:Int} (ha:0<=a/\a<=1000000) (hb:-9223372036854775808<=b/\b<=9223372036854775807) (hv:-100<=v/\v<=100):IntKind.i64.wrap (a - b)=v↔a - b=v:=by
 rw [IntKind.wrap_i64]
 omega
end
section
theorem sZ {s x:bK} {seen e:Int} (h:en s seen=(x,e)):(e≠0/\x=AZ)\/(e=0/\(cK s).err=0/\0<=seen/\seen<=s.bj/\x=⟨s.bj,ez (came seen) s.kept⟩):=by
 unfold en at h
 split at h
 ·rename_i h1;simp only [Prod.mk.injEq] at h;exact .inl ⟨h.2▸h1,h.1.symm⟩
 split at h
 ·simp only [Prod.mk.injEq] at h;exact .inl ⟨aa,h.1.symm⟩
 ·simp only [Prod.mk.injEq] at h;exact .inr ⟨h.2.symm,aa,aa,aa,h.1.symm⟩
theorem CM {s:bK} {seen:Int} (h:(cK s).err=0) (h0:0<=seen) (h1:seen<=s.bj):(cK ⟨s.bj,ez (came seen) s.kept⟩).err=0:=by
 obtain ⟨h2,h3,h4,h5⟩:=yo h
 rw [DH h]
 generalize hd:(seen - (s.bj - s.kept.length)).toNat=d
 refine GQ fa fa h4 fun i t ht=>?_
 rw [List.getElem?_drop] at ht
 have h6:=h5 (d+i) t ht
 have hlt:=(List.getElem?_eq_some_iff.1 ht).1
 simp only [List.length_drop]
 omega
end
theorem bU.EW {P:Program} {o:Oper} {st:aK} {nb:List (Nat×AB)} {E:List Nat} {cs cs':List CV} (i K:Nat) (g:bU P o st (.v (.g cs)) nb E) (hc:cs[i]?=some cN) (he:cs.set i (cR K [])=cs'):bU P o st (.v (.g cs')) nb E:=by
 subst he
 refine fun σ T a w C hn=>iZ (g σ T a w C hn) ?_
 rintro a w ⟨u,σ',T',h1,h2,vs,hv,hall⟩
 refine ⟨u,σ',T',h1,h2,vs,hv,?_⟩
 obtain ⟨v,hv',hr⟩:=hall.get hc
 have hnil:v=.slice none 0 0:=bA.inv hr
 have hs:=hall.set (x:=cR K []) (y:=v) (by rw [hnil];exact bA.nil K none 0) i
 have e:vs.set i v=vs:=by
  apply List.ext_getElem?
  intro m
  rw [List.getElem?_set]
  split
  ·rename_i e;subst e
   split
   ·exact hv'.symm
   ·rename_i hlt;exact absurd (List.getElem?_eq_some_iff.1 hv').1 hlt
  ·rfl
 rwa [e] at hs
section

structure TI where
 fs:List (Nat×Nat)
 agg:Bool
 size:Nat
 zero:List Value
structure FZ (P:Program) (t:TypeId) (i:TI):Prop where
 KB:∃ d,P.underlying t=some d/\lJ d=i.agg
 It:i.fs=[]\/((Program.fieldsOf P t).bind fun fs=>fs.toList.mapM fun f=>(P.info? f.type).map fun i=>(f.offset,i.size))=some i.fs
 size:(P.info? t).map (·.size)=some i.size
 zero:i.zero=[]\/(((P.info? t).bind (·.zero)).map (fun v=>v.cells.toList)=some i.zero/\i.zero.all (·.oneCell')=true)
def jq (P:Program):List (Nat×TI)->Prop
 |[]=>True
 |x::l=>FZ P x.1 x.2/\jq P l
theorem jq.get {P:Program}:∀ {T:List (Nat×TI)},jq P T->∀ {t:Nat} {i:TI},look T t=some i->FZ P t i
 |x::l,h,t,i,hl=>by
  obtain ⟨k,j⟩:=x
  rw [cr] at hl
  split at hl
  ·rename_i e;injection hl with hl;subst e hl;exact h.1
  ·exact jq.get h.2 hl
def xI:Nat->List CV->Option (List CV)
 |0,_=>some []
 |_+1,[]=>none
 |n+1,c::l=>match xI n l with
  |some r=>some (c::r)
  |none=>none
theorem ya:∀ {n:Nat} {l r:List CV},xI n l=some r->l.take n=r/\r.length=n
 |0,l,r,h=>by cases h;simp
 |n+1,[],r,h=>by cases h
 |n+1,c::l,r,h=>by
  unfold xI at h
  split at h
  ·rename_i r' h';injection h with h;subst h
   obtain ⟨h1,h2⟩:=ya h'
   simp [h1,h2]
  ·cases h
def AY:List CV->List CV->Option (List CV)
 |cs,[]=>some cs
 |[],_::_=>none
 |_::cs,x::xs=>match AY cs xs with
  |some r=>some (x::r)
  |none=>none
theorem Dp:∀ {cs xs r:List CV},AY cs xs=some r->xs.length<=cs.length/\r=xs++cs.drop xs.length
 |cs,[],r,h=>by unfold AY at h;injection h with h;subst h;simp
 |[],_::_,r,h=>by cases h
 |c::cs,x::xs,r,h=>by
  unfold AY at h
  split at h
  ·rename_i r' h';injection h with h;subst h
   obtain ⟨h1,h2⟩:=Dp h'
   simp [h2];omega
  ·cases h
def mI:List CV->Nat->List CV->Option (List CV)
 |cs,0,xs=>AY cs xs
 |[],_+1,_=>none
 |c::cs,n+1,xs=>match mI cs n xs with
  |some r=>some (c::r)
  |none=>none
theorem mz:∀ {cs:List CV} {n:Nat} {xs r:List CV},mI cs n xs=some r->n+xs.length<=cs.length/\cs.take n++xs++cs.drop (n+xs.length)=r
 |cs,0,xs,r,h=>by
  have h:AY cs xs=some r:=by cases cs<;>exact h
  obtain ⟨h1,h2⟩:=Dp h
  simp [h2];omega
 |[],n+1,xs,r,h=>by cases h
 |c::cs,n+1,xs,r,h=>by
  unfold mI at h
  split at h
  ·rename_i r' h';injection h with h;subst h
   obtain ⟨h1,h2⟩:=mz h'
   refine ⟨by simp;omega,?_⟩
   rw [show n+1+xs.length=n+xs.length+1 by omega]
   simp [<-h2]
  ·cases h
def nU:List (Nat×AB)->Nat->AB->Option (List (Nat×AB))
 |[],_,_=>none
 |(j,x)::l,k,b=>bif Nat.beq j k then some ((j,b)::l) else match nU l k b with
  |some r=>some ((j,x)::r)
  |none=>none
theorem oI:∀ {l:List (Nat×AB)} {k:Nat} {b:AB} {r:List (Nat×AB)},nU l k b=some r->nK l k b=r
 |(j,x)::l,k,b,r,h=>by
  unfold nU at h
  unfold nK
  cases hjk:Nat.beq j k with
  |true=>rw [hjk] at h;simpa using h
  |false=>
   rw [hjk] at h
   simp only [cond_false] at h ⊢
   split at h
   ·rename_i r' h';injection h with h;subst h;rw [oI h']
   ·cases h
def qv:List Value->Option (List CV)
 |[]=>some []
 |v::l=>match qv l with
  |some r=>some (.d (.v v)::r)
  |none=>none
theorem oP:∀ {l:List Value} {r:List CV},qv l=some r->(l.map fun x=>CV.d (.v x))=r
 |[],r,h=>by cases h;rfl
 |v::l,r,h=>by
  unfold qv at h
  split at h
  ·rename_i r' h';injection h with h;subst h;rw [<-oP h'];rfl
  ·cases h
def BQ:List D->Option (List CV)
 |[]=>some []
 |v::l=>match BQ l with
  |some r=>some (.d v::r)
  |none=>none
theorem AM:∀ {l:List D} {r:List CV},BQ l=some r->l.map CV.d=r
 |[],r,h=>by cases h;rfl
 |v::l,r,h=>by
  unfold BQ at h
  split at h
  ·rename_i r' h';injection h with h;subst h;rw [<-AM h'];rfl
  ·cases h
def uR (s:List (Nat×AV)):List (Nat×Operand)->Option (List (Nat×GV))
 |[]=>some []
 |(i,x)::l=>match lB s x with
  |some (.v g)=>match uR s l with
   |some r=>some ((i,g)::r)
   |none=>none
  |_=>none
theorem wL {s:List (Nat×AV)} {h:List (Nat×AB)} {n:Nat}:∀ {l:List (Nat×Operand)} {r:List (Nat×GV)},uR s l=some r->BE ⟨s,h,n⟩ l r
 |[],r,hr=>by cases hr;trivial
 |(i,x)::l,r,hr=>by
  unfold uR at hr
  split at hr
  ·rename_i g hg
   split at hr
   ·rename_i r' h';injection hr with hr;subst hr;exact ⟨⟨rfl,fM hg⟩,wL h'⟩
   ·cases hr
  ·cases hr
def vm (places:List (Nat×Nat)):List CV->List (Nat×GV)->Option (List CV)
 |cells,[]=>some cells
 |cells,(i,g)::rest=>match places[i]? with
  |none=>none
  |some (off,size)=>bif Nat.beq (fE g).length size then (match mI cells off (fE g) with
   |some c=>vm places c rest
   |none=>none) else none
theorem zh {places:List (Nat×Nat)}:∀ {l:List (Nat×GV)} {cells r:List CV},vm places cells l=some r->nG (fun i=>places[i]?) cells (l.map fun y=>(y.1,fE y.2))=some r
 |[],cells,r,h=>by unfold vm at h;exact h
 |(i,g)::rest,cells,r,h=>by
  unfold vm at h
  split at h
  ·cases h
  rename_i off size hp
  cases hs:Nat.beq (fE g).length size with
  |false=>rw [hs] at h;cases h
  |true=>
   rw [hs] at h
   simp only [cond_true] at h
   split at h
   ·rename_i c hc
    obtain ⟨h1,h2⟩:=mz hc
    show nG _ cells ((i,fE g)::rest.map _)=_
    unfold nG
    rw [hp]
    dsimp only
    rw [if_pos ⟨Nat.eq_of_beq_eq_true hs,h1⟩,h2]
    exact zh h
   ·cases h
def Ix:IntKind->IntKind->Bool
 |.i64,.i64=>true
 |.u8,.u8=>true
 |_,_=>false
theorem Iw {a b:IntKind} (h:Ix a b=true):a=b:=by cases a<;>cases b<;>first|rfl|cases h
def DX (T:List (Nat×TI)) (s:List (Nat×AV)) (h:List (Nat×AB)):Op->Option AV
 |.move x=>lB s x
 |.assign x=>lB s x
 |.pick c x y=>match lB s c with
  |some (.v (.c (.d (.v (.bool b)))))=>lB s (bif b then x else y)
  |_=>none
 |.nilCheck x=>match lB s x with
  |some v=>bif yy v then some v else none
  |none=>none
 |.fieldAddr t x i=>match look T t with
  |none=>none
  |some ti=>match ti.fs[i]? with
   |none=>none
   |some (off,sz)=>bif Nat.beq sz 0 then none else (match lB s x with
    |some (.v (.c (.p k r K o)))=>some (.v (.c (.p k r K (o+off))))
    |some (.v (.c (.q row o)))=>some (.v (.c (.q row (o+off))))
    |_=>none)
 |.load t x=>match look T t with
  |none=>none
  |some ti=>match lB s x with
   |some (.v (.c (.q row j)))=>bif ti.agg then (bif Nat.beq j 0 && Nat.beq row.length ti.size then (match BQ row with
     |some xs=>some (.v (.g xs))
     |none=>none) else none) else (match row[j]? with
    |some d=>some (.v (.c (.d d)))
    |none=>none)
   |some (.v (.c (.p k r K j)))=>bif Nat.beq r 0 && Nat.beq K 0 then (match look h k with
    |some (.box _ cs)=>bif ti.agg then (match xI ti.size (cs.drop j) with
      |some xs=>some (.v (.g xs))
      |none=>none) else (match cs[j]? with
     |some c=>some (.v (.c c))
     |none=>none)
    |_=>none) else none
   |_=>none
 |.binOp op _ x y _=>match lB s x with
  |some (.v (.c (.d (.v (.int k a)))))=>(match lB s y with
   |some (.v (.c (.d (.v (.int k' b)))))=>bif Ix k k' then (match zK op k a b with
    |some c=>some (.v (.c (.d (.v c))))
    |none=>none) else none
   |_=>none)
  |_=>none
 |.unOp .not _ x=>match lB s x with
  |some (.v (.c (.d (.v (.bool b)))))=>some (.v (.c (.d (.v (.bool !b)))))
  |_=>none
 |.extract x i=>match lB s x with
  |some (.t gs)=>(match gs[i]? with
   |some g=>some (.v g)
   |none=>none)
  |_=>none
 |.build t parts=>match look T t with
  |none=>none
  |some ti=>bif ti.fs.isEmpty||ti.zero.isEmpty then none else (match uR s parts.toList with
   |none=>none
   |some ps=>bif ps.all (fun y=>y.2.known) then (match qv ti.zero with
    |none=>none
    |some z=>match vm ti.fs z ps with
     |some cs=>some (.v (.g cs))
     |none=>none) else none)
 |_=>none
theorem Ag {P:Program} {t:TypeId} {ti:TI} (hT:FZ P t ti) {i off sz:Nat} (hf:ti.fs[i]?=some (off,sz)):∃ fs f,P.underlying t=some (.struct fs)/\fs[i]?=some f/\f.offset=off/\(P.info? f.type).map (·.size)=some sz:=by
 rcases hT.It with h|h
 ·rw [h] at hf;cases hf
 ·cases hfs:Program.fieldsOf P t with
  |none=>rw [hfs] at h;cases h
  |some fs=>
   rw [hfs] at h
   simp only [Option.bind_some] at h
   have hu:P.underlying t=some (.struct fs):=by
    unfold Program.fieldsOf at hfs
    split at hfs
    ·rename_i e;injection hfs with hfs;subst hfs;exact e
    ·cases hfs
   have gen:∀ (l:List Field) (r:List (Nat×Nat)) (i:Nat),(l.mapM fun f=>(P.info? f.type).map fun i=>(f.offset,i.size))=some r->r[i]?=some (off,sz)->∃ f,l[i]?=some f/\f.offset=off/\(P.info? f.type).map (·.size)=some sz:=by
    intro l
    induction l with
    |nil=>intro r i h1 h2;simp at h1;subst h1;simp at h2
    |cons f l ih=>
     intro r i h1 h2
     simp only [List.mapM_cons] at h1
     cases hi:P.info? f.type with
     |none=>rw [hi] at h1;simp at h1
     |some inf=>
      rw [hi] at h1
      cases hr:(l.mapM fun f=>(P.info? f.type).map fun i=>(f.offset,i.size)) with
      |none=>rw [hr] at h1;simp at h1
      |some r'=>
       rw [hr] at h1
       simp at h1
       subst h1
       cases i with
       |zero=>simp at h2;exact ⟨f,rfl,h2.1,by rw [hi];simp [h2.2]⟩
       |succ i=>simp at h2;obtain ⟨g,h3,h4,h5⟩:=ih r' i hr h2;exact ⟨g,by simpa using h3,h4,h5⟩
   obtain ⟨f,h1,h2,h3⟩:=gen fs.toList ti.fs i h hf
   exact ⟨fs,f,hu,by simpa using h1,h2,h3⟩
theorem zi {P:Program} {T:List (Nat×TI)} (hT:jq P T) {o:Oper} {s:List (Nat×AV)} {h:List (Nat×AB)} {n:Nat} {v:AV} (he:DX T s h o.op=some v):bU P o ⟨s,h,n⟩ v [] []:=by
 unfold DX at he
 split at he
 ·rename_i x ho;exact qj ho (fM he)
 ·rename_i x ho;exact Fv ho (fM he)
 ·rename_i c x y ho
  split at he
  ·rename_i b hb;exact Ii ho (fM hb) (by cases b<;>exact fM he)
  ·cases he
 ·rename_i x ho
  split at he
  ·rename_i v' hv
   cases hn:yy v' with
   |true=>rw [hn] at he;injection he with he;subst he;exact Ci ho (fM hv) hn
   |false=>rw [hn] at he;cases he
  ·cases he
 ·rename_i t x i ho
  split at he
  ·cases he
  rename_i ti ht
  split at he
  ·cases he
  rename_i off sz hf
  cases hz:Nat.beq sz 0 with
  |true=>rw [hz] at he;cases he
  |false=>
   rw [hz] at he
   simp only [cond_false] at he
   obtain ⟨fs,f,h1,h2,h3,h4⟩:=Ag (hT.get ht) hf
   have hne:sz≠0:=fun e=>by subst e;cases hz
   split at he
   ·rename_i k r K o' hx;injection he with he;subst he h3;exact Fq ho (fM hx) h1 h2 h4 hne
   ·rename_i row o' hx;injection he with he;subst he h3;exact Fp ho (fM hx) h1 h2 h4 hne
   ·cases he
 ·rename_i t x ho
  split at he
  ·cases he
  rename_i ti ht
  obtain ⟨d,hu,hd⟩:=(hT.get ht).KB
  split at he
  ·rename_i row j hx
   cases ha:ti.agg with
   |true=>
    rw [ha] at he
    simp only [cond_true] at he
    cases hc:(Nat.beq j 0 && Nat.beq row.length ti.size) with
    |false=>rw [hc] at he;cases he
    |true=>
     rw [hc] at he
     simp only [cond_true] at he
     rw [Bool.and_eq_true] at hc
     have hj:=Nat.eq_of_beq_eq_true hc.1
     subst hj
     split at he
     ·rename_i xs hxs;injection he with he;subst he
      exact Fj ho (fM hx) hu (hd.trans ha) (hT.get ht).size (Nat.eq_of_beq_eq_true hc.2) (AM hxs)
     ·cases he
   |false=>
    rw [ha] at he
    simp only [cond_false] at he
    split at he
    ·rename_i c hc;injection he with he;subst he;exact Hd ho (fM hx) hu (hd.trans ha) hc
    ·cases he
  ·rename_i k r K j hx
   cases hc:(Nat.beq r 0 && Nat.beq K 0) with
   |false=>rw [hc] at he;cases he
   |true=>
    rw [hc] at he
    simp only [cond_true] at he
    rw [Bool.and_eq_true] at hc
    have hr:=Nat.eq_of_beq_eq_true hc.1
    have hK:=Nat.eq_of_beq_eq_true hc.2
    subst hr hK
    split at he
    ·rename_i bt cs hb
     cases ha:ti.agg with
     |true=>
      rw [ha] at he
      simp only [cond_true] at he
      split at he
      ·rename_i xs hxs;injection he with he;subst he
       obtain ⟨h1,h2⟩:=ya hxs
       exact uf ho (fM hx) hb hu (hd.trans ha) (hT.get ht).size h1 h2
      ·cases he
     |false=>
      rw [ha] at he
      simp only [cond_false] at he
      split at he
      ·rename_i c hc';injection he with he;subst he;exact He ho (fM hx) hb hu (hd.trans ha) hc'
      ·cases he
    ·cases he
  ·cases he
 ·rename_i op xt x y yt ho
  split at he
  ·rename_i k a hx
   split at he
   ·rename_i k' b hy
    cases hk:Ix k k' with
    |false=>rw [hk] at he;cases he
    |true=>
     rw [hk] at he
     have:=Iw hk
     subst this
     simp only [cond_true] at he
     split at he
     ·rename_i c hc;injection he with he;subst he;exact bm ho (fM hx) (fM hy) hc
     ·cases he
   ·cases he
  ·cases he
 ·rename_i t x ho
  split at he
  ·rename_i b hb;injection he with he;subst he;exact Ij ho (fM hb)
  ·cases he
 ·rename_i x i ho
  split at he
  ·rename_i gs hx
   split at he
   ·rename_i g hg;injection he with he;subst he;exact DV ho (fM hx) hg
   ·cases he
  ·cases he
 ·rename_i t parts ho
  split at he
  ·cases he
  rename_i ti ht
  cases hc:(ti.fs.isEmpty||ti.zero.isEmpty) with
  |true=>rw [hc] at he;cases he
  |false=>
   rw [hc] at he
   simp only [cond_false] at he
   rw [Bool.or_eq_false_iff] at hc
   split at he
   ·cases he
   rename_i ps hps
   cases hk:ps.all (fun y=>y.2.known) with
   |false=>rw [hk] at he;cases he
   |true=>
    rw [hk] at he
    simp only [cond_true] at he
    split at he
    ·cases he
    rename_i z hz
    split at he
    ·rename_i cs hcs;injection he with he;subst he
     have h1:ti.fs≠[]:=fun e=>by rw [e] at hc;simp at hc
     have h2:ti.zero≠[]:=fun e=>by rw [e] at hc;simp at hc
     have h3:=(hT.get ht).It.resolve_left h1
     have h4:=(hT.get ht).zero.resolve_left h2
     exact sX ho ⟨h4.1,h3⟩ h4.2 (wL hps) hk (by rw [oP hz];exact zh hcs)
    ·cases he
 ·cases he
def HO (T:List (Nat×TI)) (N:Nat) (o:Oper) (s:List (Nat×AV)) (h:List (Nat×AB)) (n:Nat):Option (List (Nat×AV)×List (Nat×AB)×Nat):=
 match o.op with
 |.alloc t=>match look T t with
  |none=>none
  |some ti=>match o.dst with
   |none=>none
   |some d=>bif ti.zero.isEmpty||!Nat.blt d N then none else (match qv ti.zero with
    |some cs=>some ((d,.v (.c (.p n 0 0 0)))::s,(n,.box t cs)::h,n+1)
    |none=>none)
 |.box t x=>match o.dst with
  |none=>none
  |some d=>bif Nat.blt d N then (match lB s x with
   |some (.v (.c c))=>bif c.known then some ((d,.v (.c (.p n 0 0 0)))::s,(n,.box t [c])::h,n+1) else none
   |some (.v (.g cs))=>some ((d,.v (.c (.p n 0 0 0)))::s,(n,.box t cs)::h,n+1)
   |_=>none) else none
 |.store t x y=>match look T t with
  |none=>none
  |some ti=>match o.dst with
   |some _=>none
   |none=>match lB s x with
    |some (.v (.c (.p k r K j)))=>bif Nat.beq r 0 && Nat.beq K 0 && Nat.blt k n then (match lB s y with
     |some (.v gv)=>bif (fE gv).all CV.known && Nat.beq (fE gv).length ti.size then (match look h k with
      |some (.box bt cs)=>(match mI cs j (fE gv) with
       |some cs'=>(match nU h k (.box bt cs') with
        |some h'=>some (s,h',n)
        |none=>none)
       |none=>none)
      |_=>none) else none
     |_=>none) else none
    |_=>none
 |op=>match DX T s h op with
  |none=>none
  |some v=>match o.dst with
   |none=>none
   |some d=>bif Nat.blt d N then some ((d,v)::s,h,n) else none
def yl (ops:Array Oper) (T:List (Nat×TI)) (N:Nat) (o:Oper) (s:List (Nat×AV)) (h:List (Nat×AB)) (n:Nat):Option (List (Nat×AV)×List (Nat×AB)×Nat):=
 match se ops s o with
 |some false=>(match o.dst with
  |some d=>bif Nat.blt d N then some ((d,.t [])::s,h,n) else none
  |none=>none)
 |some true=>HO T N o s h n
 |none=>none
def rP (ops:Array Oper) (T:List (Nat×TI)) (N:Nat):Nat->List Oper->List (Nat×AV)->List (Nat×AB)->Nat->Option (List Oper×List (Nat×AV)×List (Nat×AB)×Nat)
 |0,l,s,h,n=>some (l,s,h,n)
 |_+1,[],s,h,n=>some ([],s,h,n)
 |k+1,o::l,s,h,n=>match yl ops T N o s h n with
  |some (s',h',n')=>rP ops T N k l s' h' n'
  |none=>none
section
variable {P:Program} {W0:World} {F:Nat->Prop} {N:NT} {T0:Nat->Prop} {pin:List (Nat×cg)} {ops:Array Oper} {Q:Exit->aK->Prop}
theorem HD {T:List (Nat×TI)} (hT:jq P T) {o:Oper} {l:List Oper} {s s':List (Nat×AV)} {h h':List (Nat×AB)} {n n':Nat} (hr:Dev.yl ops T N.1 o s h n=some (s',h',n')) (k:AL P W0 F N T0 pin ops Q l ⟨s',h',n'⟩):AL P W0 F N T0 pin ops Q (o::l) ⟨s,h,n⟩:=by
 unfold Dev.yl at hr
 split at hr
 ·rename_i hg
  split at hr
  ·rename_i d hd
   cases hN:Nat.blt d N.1 with
   |false=>rw [hN] at hr;cases hr
   |true=>
    rw [hN] at hr
    simp only [cond_true] at hr
    injection hr with hr;injection hr with h1 h2;injection h2 with h2 h3
    subst h1 h2 h3
    exact Kz ((kF hg).2 rfl) hd hN k
  ·cases hr
 ·rename_i hg
  have hw:aR ops o ⟨s,h,n⟩:=(kF hg).1 rfl
  unfold HO at hr
  split at hr
  ·rename_i t ho
   split at hr
   ·cases hr
   rename_i ti ht
   split at hr
   ·cases hr
   rename_i d hd
   cases hc:(ti.zero.isEmpty||!Nat.blt d N.1) with
   |true=>rw [hc] at hr;cases hr
   |false=>
    rw [hc] at hr
    simp only [cond_false] at hr
    rw [Bool.or_eq_false_iff] at hc
    split at hr
    ·rename_i cs hcs
     injection hr with hr;injection hr with h1 h2;injection h2 with h2 h3
     subst h1 h2 h3
     have h2:ti.zero≠[]:=fun e=>by rw [e] at hc;simp at hc
     have h4:=(hT.get ht).zero.resolve_left h2
     cases hz:(P.info? t).bind (·.zero) with
     |none=>rw [hz] at h4;exact absurd h4.1 ca
     |some z=>
      rw [hz] at h4
      refine zU hw (vU n ho hz (Option.some.inj h4.1) h4.2 (oP hcs)) hd (by simpa using hc.2) rfl k
    ·cases hr
  ·rename_i t x ho
   split at hr
   ·cases hr
   rename_i d hd
   cases hN:Nat.blt d N.1 with
   |false=>rw [hN] at hr;cases hr
   |true=>
    rw [hN] at hr
    simp only [cond_true] at hr
    split at hr
    ·rename_i c hx
     cases hk:c.known with
     |false=>rw [hk] at hr;cases hr
     |true=>
      rw [hk] at hr
      simp only [cond_true] at hr
      injection hr with hr;injection hr with h1 h2;injection h2 with h2 h3
      subst h1 h2 h3
      exact zU hw (zb n ho (fM hx) hk) hd hN rfl k
    ·rename_i cs hx
     injection hr with hr;injection hr with h1 h2;injection h2 with h2 h3
     subst h1 h2 h3
     exact zU hw (za n ho (fM hx)) hd hN rfl k
    ·cases hr
  ·rename_i t x y ho
   split at hr
   ·cases hr
   rename_i ti ht
   split at hr
   ·cases hr
   rename_i hd
   split at hr
   ·rename_i kk r K j hx
    cases hc:(Nat.beq r 0 && Nat.beq K 0 && Nat.blt kk n) with
    |false=>rw [hc] at hr;cases hr
    |true=>
     rw [hc] at hr
     simp only [cond_true] at hr
     simp only [Bool.and_eq_true] at hc
     obtain ⟨⟨c1,c2⟩,c3⟩:=hc
     have c1:=Nat.eq_of_beq_eq_true c1
     have c2:=Nat.eq_of_beq_eq_true c2
     subst c1 c2
     split at hr
     ·rename_i gv hy
      cases hk:((fE gv).all CV.known && Nat.beq (fE gv).length ti.size) with
      |false=>rw [hk] at hr;cases hr
      |true=>
       rw [hk] at hr
       simp only [cond_true] at hr
       rw [Bool.and_eq_true] at hk
       split at hr
       ·rename_i bt cs hb
        split at hr
        ·rename_i cs' hcs
         split at hr
         ·rename_i h2 hh
          injection hr with hr;injection hr with e1 e2;injection e2 with e2 e3
          subst e1 e2 e3
          obtain ⟨p1,p2⟩:=mz hcs
          have hl:=Nat.eq_of_beq_eq_true hk.2
          exact Ev hw (yT ho (fM hx) (fM hy) hb hk.1 (hT.get ht).size hl (by rw [<-hl];exact p1) (by rw [<-hl];exact p2)) hd hb c3 (oI hh) k
         ·cases hr
        ·cases hr
       ·cases hr
     ·cases hr
   ·cases hr
  ·split at hr
   ·cases hr
   rename_i v hv
   split at hr
   ·cases hr
   rename_i d hd
   cases hN:Nat.blt d N.1 with
   |false=>rw [hN] at hr;cases hr
   |true=>
    rw [hN] at hr
    simp only [cond_true] at hr
    injection hr with hr;injection hr with h1 h2;injection h2 with h2 h3
    subst h1 h2 h3
    exact dg hw (zi hT hv) hd hN k
 ·cases hr
theorem fx {T:List (Nat×TI)} (hT:jq P T):∀ (k:Nat) {l l':List Oper} {s s':List (Nat×AV)} {h h':List (Nat×AB)} {n n':Nat},rP ops T N.1 k l s h n=some (l',s',h',n')->AL P W0 F N T0 pin ops Q l' ⟨s',h',n'⟩->AL P W0 F N T0 pin ops Q l ⟨s,h,n⟩
 |0,l,l',s,s',h,h',n,n',hr,k=>by
  have:(l,s,h,n)=(l',s',h',n'):=by cases l<;>exact Option.some.inj hr
  injection this with e1 e2;injection e2 with e2 e3;injection e3 with e3 e4
  subst e1 e2 e3 e4;exact k
 |_+1,[],l',s,s',h,h',n,n',hr,k=>by
  have:(([]:List Oper),s,h,n)=(l',s',h',n'):=Option.some.inj hr
  injection this with e1 e2;injection e2 with e2 e3;injection e3 with e3 e4
  subst e1 e2 e3 e4;exact k
 |f+1,o::l,l',s,s',h,h',n,n',hr,k=>by
  unfold rP at hr
  split at hr
  ·rename_i s1 h1 n1 h1'
   exact HD hT h1' (fx hT f hr k)
  ·cases hr
theorem mU {T:List (Nat×TI)} (hT:jq P T) {id:Nat} {l:List Oper} {y:Code} (k:Nat) {l':List Oper} {s s':List (Nat×AV)} {h h':List (Nat×AB)} {n n':Nat} (hr:rP l.toArray T N.1 k l s h n=some (l',s',h',n'))
  (g:AL P W0 F N T0 pin l.toArray (kN (AC P W0 F N T0 pin Q y) Q) l' ⟨s',h',n'⟩):AC P W0 F N T0 pin Q (.seq (.region id l.toArray false) y) ⟨s,h,n⟩:=
 af (ah (fx hT k hr g))
theorem fX {T:List (Nat×TI)} (hT:jq P T) {id:Nat} {l:List Oper} {y:Code} (k:Nat) {s s':List (Nat×AV)} {h h':List (Nat×AB)} {n n':Nat} (hr:rP l.toArray T N.1 k l s h n=some ([],s',h',n'))
  (g:AC P W0 F N T0 pin Q y ⟨s',h',n'⟩):AC P W0 F N T0 pin Q (.seq (.region id l.toArray false) y) ⟨s,h,n⟩:=
 mU hT k hr (bq g)
end
end
section

def jP {α:Type} (s:List (Nat×α)):List Nat->Option (List (Nat×α))
 |[]=>some []
 |t::ts=>match look s t with
  |none=>none
  |some v=>match jP s ts with
   |some r=>some ((t,v)::r)
   |none=>none
theorem ow {α:Type} {s:List (Nat×α)}:∀ {ts:List Nat} {r:List (Nat×α)},jP s ts=some r->∀ x∈r,look s x.1=some x.2
 |[],r,h,x,hx=>by cases h;cases hx
 |t::ts,r,h,x,hx=>by
  unfold jP at h
  split at h
  ·cases h
  rename_i v hv
  split at h
  ·rename_i r' hr;injection h with h;subst h
   rcases List.mem_cons.1 hx with rfl|hx
   ·exact hv
   ·exact ow hr x hx
  ·cases h
theorem kX {α:Type} {s:List (Nat×α)} {ts:List Nat} {r:List (Nat×α)} (h:jP s ts=some r) {i:Nat} {v:α} (hi:look r i=some v):look s i=some v:=ow h _ (bP hi)
def findD:List bS->Nat->Nat->Option (Nat×AV)
 |[],_,_=>none
 |_,0,_=>none
 |r::l,i+1,t=>match r.dst with
  |some d=>bif Nat.beq d t then some (i,r.v) else findD l i t
  |none=>findD l i t
def qV:List bS->Nat->Nat->Option (Nat×AB)
 |[],_,_=>none
 |_,0,_=>none
 |r::l,i+1,k=>match look r.nb k with
  |some b=>some (i,b)
  |none=>qV l i k
theorem uh:∀ {l:List bS} {i t:Nat} {j:Nat} {v:AV},l.length=i->findD l i t=some (j,v)->∃ q,l.reverse[j]?=some q/\q.dst=some t/\q.v=v
 |[],i,t,j,v,hl,h=>by cases h
 |r::l,0,t,j,v,hl,h=>by cases hl
 |r::l,i+1,t,j,v,hl,h=>by
  have hl:l.length=i:=by simpa using hl
  have rest:findD l i t=some (j,v)->∃ q,(r::l).reverse[j]?=some q/\q.dst=some t/\q.v=v:=fun h=>by
   obtain ⟨q,h1,h2⟩:=uh hl h
   exact ⟨q,by rw [List.reverse_cons,List.getElem?_append_left (List.getElem?_eq_some_iff.1 h1).1];exact h1,h2⟩
  unfold findD at h
  split at h
  ·rename_i d hd
   cases hb:Nat.beq d t with
   |true=>
    rw [hb] at h
    simp only [cond_true,Option.some.injEq,Prod.mk.injEq] at h
    obtain ⟨rfl,rfl⟩:=h
    exact ⟨r,by rw [List.reverse_cons,List.getElem?_append_right (by simp [hl])];simp [hl],by rw [hd,Nat.eq_of_beq_eq_true hb],rfl⟩
   |false=>rw [hb] at h;exact rest h
  ·exact rest h
theorem ui:∀ {l:List bS} {i k:Nat} {j:Nat} {b:AB},l.length=i->qV l i k=some (j,b)->∃ q,l.reverse[j]?=some q/\(k,b)∈q.nb
 |[],i,t,j,v,hl,h=>by cases h
 |r::l,0,t,j,v,hl,h=>by cases hl
 |r::l,i+1,k,j,b,hl,h=>by
  have hl:l.length=i:=by simpa using hl
  unfold qV at h
  split at h
  ·rename_i b' hb
   simp only [Option.some.injEq,Prod.mk.injEq] at h
   obtain ⟨rfl,rfl⟩:=h
   exact ⟨r,by rw [List.reverse_cons,List.getElem?_append_right (by simp [hl])];simp [hl],bP hb⟩
  ·obtain ⟨q,h1,h2⟩:=ui hl h
   exact ⟨q,by rw [List.reverse_cons,List.getElem?_append_left (List.getElem?_eq_some_iff.1 h1).1];exact h1,h2⟩
def gM (s:List (Nat×AV)) (racc:List bS) (i:Nat):List Nat->List (Nat×AV)×List Nat
 |[]=>([],[])
 |t::ts=>match gM s racc i ts with
  |(sv,pre)=>match findD racc i t with
   |some (j,v)=>((t,v)::sv,j::pre)
   |none=>match look s t with
    |some v=>((t,v)::sv,pre)
    |none=>(sv,pre)
def gn (h:List (Nat×AB)) (racc:List bS) (i:Nat):List Nat->List (Nat×AB)×List Nat
 |[]=>([],[])
 |k::ks=>match gn h racc i ks with
  |(hv,pre)=>match qV racc i k with
   |some (j,b)=>((k,b)::hv,j::pre)
   |none=>match look h k with
    |some b=>((k,b)::hv,pre)
    |none=>(hv,pre)
def Ga (s:List (Nat×AV)) (aP:List bS) (pre:List Nat) (x:Nat×AV):Prop:=look s x.1=some x.2\/∃ j,j∈pre/\∃ q,aP[j]?=some q/\q.dst=some x.1/\q.v=x.2
def Gb (h:List (Nat×AB)) (aP:List bS) (pre:List Nat) (x:Nat×AB):Prop:=look h x.1=some x.2\/∃ j,j∈pre/\∃ q,aP[j]?=some q/\x∈q.nb
theorem tE {s:List (Nat×AV)} {racc:List bS} {i:Nat} (hl:racc.length=i):∀ {ts:List Nat} {sv:List (Nat×AV)} {pre:List Nat},gM s racc i ts=(sv,pre)->∀ x∈sv,Ga s racc.reverse pre x
 |[],sv,pre,h,x,hx=>by cases h;cases hx
 |t::ts,sv,pre,h,x,hx=>by
  unfold gM at h
  cases hv:gM s racc i ts with
  |mk sv0 pre0=>
   rw [hv] at h
   have ih:=tE hl hv
   dsimp only at h
   split at h
   ·rename_i j v hf
    injection h with h1 h2;subst h1 h2
    rcases List.mem_cons.1 hx with rfl|hx
    ·obtain ⟨q,h1,h2,h3⟩:=uh hl hf
     exact .inr ⟨j,List.mem_cons_self,q,h1,h2,h3⟩
    ·rcases ih x hx with h|⟨j',h1,h2⟩
     ·exact .inl h
     ·exact .inr ⟨j',List.mem_cons_of_mem _ h1,h2⟩
   ·split at h
    ·rename_i v hf
     injection h with h1 h2;subst h1 h2
     rcases List.mem_cons.1 hx with rfl|hx
     ·exact .inl hf
     ·exact ih x hx
    ·injection h with h1 h2;subst h1 h2;exact ih x hx
theorem tF {s:List (Nat×AB)} {racc:List bS} {i:Nat} (hl:racc.length=i):∀ {ts:List Nat} {sv:List (Nat×AB)} {pre:List Nat},gn s racc i ts=(sv,pre)->∀ x∈sv,Gb s racc.reverse pre x
 |[],sv,pre,h,x,hx=>by cases h;cases hx
 |t::ts,sv,pre,h,x,hx=>by
  unfold gn at h
  cases hv:gn s racc i ts with
  |mk sv0 pre0=>
   rw [hv] at h
   have ih:=tF hl hv
   dsimp only at h
   split at h
   ·rename_i j v hf
    injection h with h1 h2;subst h1 h2
    rcases List.mem_cons.1 hx with rfl|hx
    ·obtain ⟨q,h1,h2⟩:=ui hl hf
     exact .inr ⟨j,List.mem_cons_self,q,h1,h2⟩
    ·rcases ih x hx with h|⟨j',h1,h2⟩
     ·exact .inl h
     ·exact .inr ⟨j',List.mem_cons_of_mem _ h1,h2⟩
   ·split at h
    ·rename_i v hf
     injection h with h1 h2;subst h1 h2
     rcases List.mem_cons.1 hx with rfl|hx
     ·exact .inl hf
     ·exact ih x hx
    ·injection h with h1 h2;subst h1 h2;exact ih x hx
def Seen (st:aK) (aP:List bS) (r:bS):Prop:=(∀ x∈r.s,Ga st.s aP r.pre x)/\∀ x∈r.h,Gb st.h aP r.pre x
theorem Seen.more {st:aK} {aP more:List bS} {r:bS} (h:Seen st aP r):Seen st (aP++more) r:=by
 have g:∀ {j:Nat} {q:bS},aP[j]?=some q->(aP++more)[j]?=some q:=fun hj=>by rw [List.getElem?_append_left (List.getElem?_eq_some_iff.1 hj).1];exact hj
 refine ⟨fun x hx=>?_,fun x hx=>?_⟩
 ·rcases h.1 x hx with h1|⟨j,h1,q,h2,h3⟩
  ·exact .inl h1
  ·exact .inr ⟨j,h1,q,g h2,h3⟩
 ·rcases h.2 x hx with h1|⟨j,h1,q,h2,h3⟩
  ·exact .inl h1
  ·exact .inr ⟨j,h1,q,g h2,h3⟩
theorem AJ {st:aK} {aP:List bS}:∀ {rs:List bS},(∀ r∈rs,Seen st aP r)->nR st aP rs
 |[],_=>trivial
 |r::rs,h=>⟨⟨fG (h r List.mem_cons_self).1,fG (h r List.mem_cons_self).2⟩,AJ fun q hq=>h q (List.mem_cons_of_mem _ hq)⟩
def PD (P:Program) (ops:Array Oper) (st:aK) (K:List bS->Prop) (i:Nat) (racc:List bS) (n:Nat) (l:List Oper):Prop:=
 racc.length=i->(∀ r∈racc,Seen st racc.reverse r)->∃ rows,lT P ops rows l/\(∀ r∈racc.reverse++rows,Seen st (racc.reverse++rows) r)/\K (racc.reverse++rows)
section
variable {P:Program} {ops:Array Oper} {st:aK} {K:List bS->Prop} {i n:Nat} {racc:List bS} {l:List Oper}
theorem Et {o:Oper} {r:bS} {n':Nat} (hr:oE P ops r o) (hs:racc.length=i->Seen st racc.reverse r) (h:PD P ops st K (i+1) (r::racc) n' l):PD P ops st K i racc n (o::l):=fun hl hsee=>by
 obtain ⟨rows,h1,h2,h3⟩:=h (by rw [List.length_cons,hl]) (fun q hq=>by
  rw [List.reverse_cons]
  rcases List.mem_cons.1 hq with rfl|hq
  ·exact (hs hl).more
  ·exact (hsee q hq).more)
 rw [List.reverse_cons,List.append_assoc] at h2 h3
 exact ⟨r::rows,⟨hr,h1⟩,h2,h3⟩
theorem cG {o:Oper} {v:AV} {nb:List (Nat×AB)} {E pre pre':List Nat} {sv:List (Nat×AV)} {hv:List (Nat×AB)} {n':Nat} (ts ks:List Nat) (hs:gM st.s racc i ts=(sv,pre)) (hh:gn st.h racc i ks=(hv,pre'))
  (hr:oE P ops ⟨o.dst,v,nb,E,pre++pre',sv,hv⟩ o) (hn:jF nb n=n') (h:PD P ops st K (i+1) (⟨o.dst,v,nb,E,pre++pre',sv,hv⟩::racc) n' l):PD P ops st K i racc n (o::l):=
 Et hr (fun hl=>⟨fun x hx=>by
  rcases tE hl hs x hx with h1|⟨j,h1,h2⟩
  ·exact .inl h1
  ·exact .inr ⟨j,List.mem_append_left _ h1,h2⟩,fun x hx=>by
  rcases tF hl hh x hx with h1|⟨j,h1,h2⟩
  ·exact .inl h1
  ·exact .inr ⟨j,List.mem_append_right _ h1,h2⟩⟩) h
end
def mB:Operand->List Nat->List Nat
 |.tmp t,l=>t::l
 |_,l=>l
def KE:List (Nat×Operand)->List Nat
 |[]=>[]
 |(_,x)::l=>mB x (KE l)
def ES:Op->List Nat
 |.move x=>mB x []
 |.assign x=>mB x []
 |.pick c x y=>mB c (mB x (mB y []))
 |.nilCheck x=>mB x []
 |.fieldAddr _ x _=>mB x []
 |.load _ x=>mB x []
 |.binOp _ _ x y _=>mB x (mB y [])
 |.unOp _ _ x=>mB x []
 |.extract x _=>mB x []
 |.build _ ps=>KE ps.toList
 |.box _ x=>mB x []
 |_=>[]
def HQ (ops:Array Oper) (o:Oper):List Nat:=
 match o.guard with
 |none=>ES o.op
 |some (j,_)=>match (ops[j]?).bind (·.dst) with
  |some t=>t::ES o.op
  |none=>ES o.op
def vC (s:List (Nat×AV)):Op->List Nat
 |.load _ x=>match lB s x with
  |some (.v (.c (.p k _ _ _)))=>[k]
  |_=>[]
 |_=>[]
def rb (kn:List (Nat×Bool)) (d:Nat) (v:AV):AV×List (Bool×Bool):=
 match look kn d with
 |none=>(v,[])
 |some c=>match v with
  |.v (.c (.d (.v (.bool b))))=>(.v (.c (.d (.v (.bool c)))),[(b,c)])
  |v=>(v,[])
theorem Bs {kn:List (Nat×Bool)} {d:Nat} {v v':AV} {ob:List (Bool×Bool)} (h:rb kn d v=(v',ob)) (ho:∀ x∈ob,x.1=x.2):v=v':=by
 unfold rb at h
 split at h
 ·exact (Prod.mk.inj h).1
 ·split at h
  ·rename_i c _ _ b
   obtain ⟨h1,h2⟩:=Prod.mk.inj h
   have:=ho (b,c) (by rw [<-h2];exact List.mem_singleton_self _)
   dsimp only at this
   rw [<-h1,this]
  ·exact (Prod.mk.inj h).1
def yn (ops:Array Oper) (T:List (Nat×TI)) (st:aK) (kn:List (Nat×Bool)) (i:Nat) (racc:List bS) (n:Nat) (o:Oper):Option (bS×Nat×List (Bool×Bool)):=
 match o.dst with
 |none=>none
 |some d=>match gM st.s racc i (HQ ops o) with
  |(sv,pre)=>match se ops sv o with
   |none=>none
   |some false=>some (⟨some d,.t [],[],[],pre,sv,[]⟩,n,[])
   |some true=>match o.op with
    |.alloc t=>(match look T t with
     |none=>none
     |some ti=>bif ti.zero.isEmpty then none else (match qv ti.zero with
      |some cs=>some (⟨some d,.v (.c (.p n 0 0 0)),[(n,.box t cs)],[],pre,sv,[]⟩,n+1,[])
      |none=>none))
    |.box t x=>(match lB sv x with
     |some (.v (.c c))=>bif c.known then some (⟨some d,.v (.c (.p n 0 0 0)),[(n,.box t [c])],[],pre,sv,[]⟩,n+1,[]) else none
     |some (.v (.g cs))=>some (⟨some d,.v (.c (.p n 0 0 0)),[(n,.box t cs)],[],pre,sv,[]⟩,n+1,[])
     |_=>none)
    |op=>match gn st.h racc i (vC sv op) with
     |(hv,pre')=>match DX T sv hv op with
      |none=>none
      |some v=>match rb kn d v with
       |(v',ob)=>some (⟨some d,v',[],[],pre++pre',sv,hv⟩,n,ob)
def BO (ops:Array Oper) (T:List (Nat×TI)) (st:aK) (kn:List (Nat×Bool)):Nat->Nat->List bS->Nat->List Oper->Option (Nat×List bS×Nat×List Oper×List (Bool×Bool))
 |0,i,racc,n,l=>some (i,racc,n,l,[])
 |_+1,i,racc,n,[]=>some (i,racc,n,[],[])
 |k+1,i,racc,n,o::l=>match yn ops T st kn i racc n o with
  |none=>none
  |some (r,n',ob)=>match BO ops T st kn k (i+1) (r::racc) n' l with
   |none=>none
   |some (i2,racc2,n2,l2,ob2)=>match ob with
    |[]=>some (i2,racc2,n2,l2,ob2)
    |x::_=>some (i2,racc2,n2,l2,x::ob2)
section
variable {P:Program} {ops:Array Oper} {st:aK} {K:List bS->Prop} {T:List (Nat×TI)} {kn:List (Nat×Bool)}
theorem GP (hT:jq P T) {i n n':Nat} {racc:List bS} {o:Oper} {r:bS} {ob:List (Bool×Bool)} (h:yn ops T st kn i racc n o=some (r,n',ob)) (hob:∀ x∈ob,x.1=x.2):oE P ops r o/\(racc.length=i->Seen st racc.reverse r):=by
 unfold yn at h
 split at h
 ·cases h
 rename_i d hd
 cases hv:gM st.s racc i (HQ ops o) with
 |mk sv pre=>
  rw [hv] at h
  dsimp only at h
  have hsee:racc.length=i->∀ x∈sv,Ga st.s racc.reverse pre x:=fun hl=>tE hl hv
  have none_:∀ x∈([]:List (Nat×AB)),Gb st.h racc.reverse pre x:=fun x hx=>by cases hx
  split at h
  ·cases h
  ·rename_i hg
   simp only [Option.some.injEq,Prod.mk.injEq] at h
   obtain ⟨rfl,_,_⟩:=h
   exact ⟨.inr ⟨(kF (s:=sv) (h:=[]) (n:=0) hg).2 rfl,rfl,rfl,rfl⟩,fun hl=>⟨hsee hl,none_⟩⟩
  ·rename_i hg
   have hw:∀ hh,aR ops o ⟨sv,hh,0⟩:=fun hh=>(kF hg).1 rfl
   split at h
   ·rename_i t ho
    split at h
    ·cases h
    rename_i ti ht
    cases hz:ti.zero.isEmpty with
    |true=>rw [hz] at h;cases h
    |false=>
     rw [hz] at h
     simp only [cond_false] at h
     split at h
     ·rename_i cs hcs
      simp only [Option.some.injEq,Prod.mk.injEq] at h
      obtain ⟨rfl,_,_⟩:=h
      have h2:ti.zero≠[]:=fun e=>by rw [e] at hz;simp at hz
      have h4:=(hT.get ht).zero.resolve_left h2
      cases hz2:(P.info? t).bind (·.zero) with
      |none=>rw [hz2] at h4;exact absurd h4.1 ca
      |some z=>
       rw [hz2] at h4
       exact ⟨.inl ⟨hw _,vU n ho hz2 (Option.some.inj h4.1) h4.2 (oP hcs)⟩,fun hl=>⟨hsee hl,none_⟩⟩
     ·cases h
   ·rename_i t x ho
    split at h
    ·rename_i c hx
     cases hk:c.known with
     |false=>rw [hk] at h;cases h
     |true=>
      rw [hk] at h
      simp only [cond_true,Option.some.injEq,Prod.mk.injEq] at h
      obtain ⟨rfl,_,_⟩:=h
      exact ⟨.inl ⟨hw _,zb n ho (fM hx) hk⟩,fun hl=>⟨hsee hl,none_⟩⟩
    ·rename_i cs hx
     simp only [Option.some.injEq,Prod.mk.injEq] at h
     obtain ⟨rfl,_,_⟩:=h
     exact ⟨.inl ⟨hw _,za n ho (fM hx)⟩,fun hl=>⟨hsee hl,none_⟩⟩
    ·cases h
   ·cases hvh:gn st.h racc i (vC sv o.op) with
    |mk hv pre'=>
     rw [hvh] at h
     dsimp only at h
     split at h
     ·cases h
     rename_i v he
     cases hdv:rb kn d v with
     |mk v' ob'=>
      rw [hdv] at h
      simp only [Option.some.injEq,Prod.mk.injEq] at h
      obtain ⟨rfl,_,rfl⟩:=h
      have:=Bs hdv hob
      subst this
      refine ⟨.inl ⟨hw _,zi hT he⟩,fun hl=>⟨fun x hx=>?_,fun x hx=>?_⟩⟩
      ·rcases hsee hl x hx with h1|⟨j,h1,h2⟩
       ·exact .inl h1
       ·exact .inr ⟨j,List.mem_append_left _ h1,h2⟩
      ·rcases tF hl hvh x hx with h1|⟨j,h1,h2⟩
       ·exact .inl h1
       ·exact .inr ⟨j,List.mem_append_right _ h1,h2⟩
theorem zp {kn:List (Nat×Bool)} {d:Nat} {v v':AV} {ob:List (Bool×Bool)} (h:rb kn d v=(v',ob)):ob.length<=1:=by
 unfold rb at h
 split at h
 ·rw [<-(Prod.mk.inj h).2];exact Nat.zero_le _
 ·split at h
  ·rw [<-(Prod.mk.inj h).2];exact Nat.le_refl _
  ·rw [<-(Prod.mk.inj h).2];exact Nat.zero_le _
theorem EN {i n n':Nat} {racc:List bS} {o:Oper} {r:bS} {ob:List (Bool×Bool)} (h:yn ops T st kn i racc n o=some (r,n',ob)):ob.length<=1:=by
 unfold yn at h
 split at h
 ·cases h
 rename_i d hd
 dsimp only at h
 split at h
 ·cases h
 ·simp only [Option.some.injEq,Prod.mk.injEq] at h;rw [<-h.2.2];exact Nat.zero_le _
 ·split at h
  ·split at h
   ·cases h
   rename_i ti _
   cases hz:ti.zero.isEmpty with
   |true=>rw [hz] at h;cases h
   |false=>
    rw [hz] at h
    simp only [cond_false] at h
    split at h
    ·simp only [Option.some.injEq,Prod.mk.injEq] at h;rw [<-h.2.2];exact Nat.zero_le _
    ·cases h
  ·split at h
   ·rename_i c _
    cases hk:c.known with
    |false=>rw [hk] at h;cases h
    |true=>rw [hk] at h;simp only [cond_true,Option.some.injEq,Prod.mk.injEq] at h;rw [<-h.2.2];exact Nat.zero_le _
   ·simp only [Option.some.injEq,Prod.mk.injEq] at h;rw [<-h.2.2];exact Nat.zero_le _
   ·cases h
  ·split at h
   ·cases h
   ·rename_i v _
    cases hdv:rb kn d v with
    |mk v' ob'=>
     rw [hdv] at h
     simp only [Option.some.injEq,Prod.mk.injEq] at h
     rw [<-h.2.2];exact zp hdv
theorem bC (hT:jq P T):∀ (k:Nat) {i i' n n':Nat} {racc racc':List bS} {l l':List Oper} {ob:List (Bool×Bool)},BO ops T st kn k i racc n l=some (i',racc',n',l',ob)->dG (fun x=>x.1=x.2) ob->PD P ops st K i' racc' n' l'->PD P ops st K i racc n l
 |0,i,i',n,n',racc,racc',l,l',ob,h,_,k=>by
  have:some (i,racc,n,l,([]:List (Bool×Bool)))=some (i',racc',n',l',ob):=by rw [<-h];cases l<;>rfl
  simp only [Option.some.injEq,Prod.mk.injEq] at this
  obtain ⟨rfl,rfl,rfl,rfl,_⟩:=this
  exact k
 |_+1,i,i',n,n',racc,racc',[],l',ob,h,_,k=>by
  have:some (i,racc,n,([]:List Oper),([]:List (Bool×Bool)))=some (i',racc',n',l',ob):=by rw [<-h];rfl
  simp only [Option.some.injEq,Prod.mk.injEq] at this
  obtain ⟨rfl,rfl,rfl,rfl,_⟩:=this
  exact k
 |f+1,i,i',n,n',racc,racc',o::l,l',ob,h,hob,k=>by
  unfold BO at h
  split at h
  ·cases h
  rename_i r n1 ob1 hr
  split at h
  ·cases h
  rename_i i2 racc2 n2 l2 ob2 h2
  have hone:=EN hr
  have key:i2=i'/\racc2=racc'/\n2=n'/\l2=l'/\(∀ x∈ob1,x∈ob)/\∀ x∈ob2,x∈ob:=by
   split at h
   ·simp only [Option.some.injEq,Prod.mk.injEq] at h
    obtain ⟨h1,h2,h3,h4,rfl⟩:=h
    exact ⟨h1,h2,h3,h4,(fun x hx=>by cases hx),fun x hx=>hx⟩
   ·rename_i y ys
    simp only [Option.some.injEq,Prod.mk.injEq] at h
    obtain ⟨h1,h2,h3,h4,rfl⟩:=h
    have hys:ys=[]:=by simpa using hone
    subst hys
    exact ⟨h1,h2,h3,h4,fun x hx=>by rw [List.mem_singleton.1 hx];exact List.mem_cons_self,fun x hx=>List.mem_cons_of_mem _ hx⟩
  obtain ⟨rfl,rfl,rfl,rfl,k1,k2⟩:=key
  have hob:=hob.mem
  obtain ⟨h3,h4⟩:=GP hT hr fun x hx=>hob x (k1 x hx)
  exact Et h3 h4 (bC hT f h2 (fG fun x hx=>hob x (k2 x hx)) k)
end
def zd:List bS->List (Nat×AV)->Option (List (Nat×AV))
 |[],s=>some s
 |r::l,s=>match zd l s with
  |none=>none
  |some s'=>match r.dst with
   |some d=>some ((d,r.v)::s')
   |none=>some s'
def zg:List bS->List (Nat×AB)->Option (List (Nat×AB))
 |[],h=>some h
 |r::l,h=>match zg l h with
  |none=>none
  |some h'=>some (r.nb++h')
theorem zc:∀ {l:List bS} {s s':List (Nat×AV)},zd l s=some s'->∀ x∈s',x∈s\/∃ r∈l,r.dst=some x.1/\r.v=x.2
 |[],s,s',h,x,hx=>by cases h;exact .inl hx
 |r::l,s,s',h,x,hx=>by
  unfold zd at h
  split at h
  ·cases h
  rename_i s1 h1
  have ih:=zc h1
  split at h
  ·rename_i d hd
   injection h with h;subst h
   rcases List.mem_cons.1 hx with rfl|hx
   ·exact .inr ⟨r,List.mem_cons_self,hd,rfl⟩
   ·rcases ih x hx with h2|⟨q,h2,h3⟩
    ·exact .inl h2
    ·exact .inr ⟨q,List.mem_cons_of_mem _ h2,h3⟩
  ·injection h with h;subst h
   rcases ih x hx with h2|⟨q,h2,h3⟩
   ·exact .inl h2
   ·exact .inr ⟨q,List.mem_cons_of_mem _ h2,h3⟩
theorem zf:∀ {l:List bS} {s s':List (Nat×AB)},zg l s=some s'->∀ x∈s',x∈s\/∃ r∈l,x∈r.nb
 |[],s,s',h,x,hx=>by cases h;exact .inl hx
 |r::l,s,s',h,x,hx=>by
  unfold zg at h
  split at h
  ·cases h
  rename_i s1 h1
  have ih:=zf h1
  injection h with h;subst h
  rcases List.mem_append.1 hx with hx|hx
  ·exact .inr ⟨r,List.mem_cons_self,hx⟩
  ·rcases ih x hx with h2|⟨q,h2,h3⟩
   ·exact .inl h2
   ·exact .inr ⟨q,List.mem_cons_of_mem _ h2,h3⟩
section
variable {P:Program} {W0:World} {F:Nat->Prop} {N:NT} {T0:Nat->Prop} {pin:List (Nat×cg)} {Q:Exit->aK->Prop}
def xT (P:Program) (W0:World) (F:Nat->Prop) (N:NT) (T0:Nat->Prop) (pin:List (Nat×cg)) (Q:Exit->aK->Prop) (l:List Oper) (st:aK) (aP:List bS):Prop:=
 (∀ x∈st.s,look st.s x.1=some x.2)->(∀ x∈st.h,look st.h x.1=some x.2)->∃ fin,ra l.toArray aP N.1 st fin=true/\xR st aP fin/\AL P W0 F N T0 pin l.toArray Q (l.drop aP.length) fin
theorem wQ {α:Type}:∀ {l:List (Nat×α)} {x:Nat×α},x∈l->∃ v,look l x.1=some v
 |y::l,x,h=>by
  obtain ⟨k,v⟩:=y
  rw [cr]
  split
  ·exact ⟨v,rfl⟩
  ·rename_i hne
   rcases List.mem_cons.1 h with rfl|h
   ·exact absurd rfl hne
   ·exact wQ h
theorem wK {α:Type} {s:List (Nat×α)} {ts:List Nat} {r:List (Nat×α)} (h:jP s ts=some r):∀ x∈r,look r x.1=some x.2:=fun x hx=>by
 obtain ⟨v,hv⟩:=wQ hx
 have h1:=kX h hv
 rw [ow h x hx] at h1
 rw [hv,h1]
theorem Gh {id:Nat} {l:List Oper} {s s0:List (Nat×AV)} {h h0:List (Nat×AB)} {n:Nat} (lv hv:List Nat) (hm:P.follows .mixedOrders=true) (h1:jP s lv=some s0) (h2:jP h hv=some h0)
  (k:PD P l.toArray ⟨s0,h0,n⟩ (xT P W0 F N T0 pin Q l ⟨s0,h0,n⟩) 0 [] n l):AC P W0 F N T0 pin Q (.region id l.toArray true) ⟨s,h,n⟩:=by
 refine ie (st':=⟨s0,h0,n⟩) (aq.sub (fun i v hi=>kX h1 hi) (fun i v hi=>kX h2 hi) rfl) ?_
 obtain ⟨rows,h3,h4,h5'⟩:=k rfl (fun r hr=>by cases hr)
 obtain ⟨fin,h5,h6,h7⟩:=h5' (wK h1) (wK h2)
 exact HE rows fin hm h5 h3 (AJ h4) h6 h7
theorem Jv {l l':List Oper} {s0 fs:List (Nat×AV)} {h0 h1 fh:List (Nat×AB)} {n0 i n:Nat} {racc:List bS} (ev:List Nat) (hs:zd racc s0=some fs) (hh:zg racc h0=some h1) (he:jP h1 ev=some fh) (hd:l.drop i=l')
  (hB:ra l.toArray racc.reverse N.1 ⟨s0,h0,n0⟩ ⟨fs,fh,n⟩=true) (k:AL P W0 F N T0 pin l.toArray Q l' ⟨fs,fh,n⟩):
  PD P l.toArray ⟨s0,h0,n0⟩ (xT P W0 F N T0 pin Q l ⟨s0,h0,n0⟩) i racc n l':=fun hl hsee=>by
 refine ⟨[],trivial,by rw [List.append_nil];exact fun r hr=>hsee r (List.mem_reverse.1 hr),?_⟩
 rw [List.append_nil]
 have at_:∀ r∈racc,∃ j,racc.reverse[j]?=some r:=fun r hr=>List.getElem?_of_mem (List.mem_reverse.2 hr)
 refine fun hs0 hh0=>⟨⟨fs,fh,n⟩,hB,⟨fG fun x hx=>?_,fG fun x hx=>?_⟩,?_⟩
 ·rcases zc hs x hx with h1|⟨r,h1,h2,h3⟩
  ·exact .inl (hs0 x h1)
  ·obtain ⟨j,hj⟩:=at_ r h1
   exact .inr ⟨j,r,hj,h2,h3⟩
 ·rcases zf hh x (bP (ow he x hx)) with h1|⟨r,h1,h2⟩
  ·exact .inl (hh0 x h1)
  ·obtain ⟨j,hj⟩:=at_ r h1
   exact .inr ⟨j,r,hj,h2⟩
 ·rw [List.length_reverse,hl,hd];exact k
end
end
end Go.Proofs.YtnfopdlnboeheaaGreat.Dev
