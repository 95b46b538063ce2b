/- A part of the proof: PlAgain, LBankOnce. No condition. -/
import Derived.Test.YtegepioggeggaaaD15
set_option linter.unusedVariables false
set_option linter.unusedSimpArgs false
set_option maxHeartbeats 16000000
set_option maxRecDepth 100000
namespace Go.Proofs.Ytegepioggeggaaa.Dev
open Go.RowKit
theorem ub (l:List (Int×Answer)) (a b:Int) (v:Answer):fF (ml l a v) b=if a=b then some v else fF l b:=by
 induction l with
 |nil=>simp [ml,fF]
 |cons x l ih=>
  obtain ⟨k,u⟩:=x
  unfold ml
  by_cases hk:k=a
  ·rw [if_pos hk];unfold fF;subst hk
   split<;>rfl
  ·rw [if_neg hk]
   unfold fF
   rw [ih]
   by_cases hb:k=b
   ·rw [if_pos hb,if_pos hb,if_neg (fun e=>hk (hb.trans e.symm))]
   ·rw [if_neg hb,if_neg hb]
theorem zj {b:Bk} {y:List (List Int)} {told:List (Int×Answer)} {cl:Nat} {d:bh} (hd:d.id≠0):fF (eC b y told cl d).2.2.1 d.id=some (eC b y told cl d).2.2.2.2/\∀ j,j≠d.id->fF (eC b y told cl d).2.2.1 j=fF told j:=by
 unfold eC
 split
 ·rename_i h
  refine ⟨?_,fun j _=>rfl⟩
  dsimp only
  cases hg:fF told d.id with
  |none=>rw [hg] at h;cases h.1
  |some v=>rfl
 ·exact ⟨by dsimp only;rw [ub,if_pos rfl],fun j hj=>by dsimp only;rw [ub,if_neg fun e=>hj e.symm]⟩
theorem xT {b:Bk} {y:List (List Int)} {told:List (Int×Answer)} {cl:Nat} {d:bh} {v:Answer} (hd:d.id≠0) (h:fF told d.id=some v):eC b y told cl d=(b,y,told,cl,v):=by
 unfold eC
 rw [if_pos ⟨by rw [h];rfl,hd⟩,h];rfl
def DL (d:bh) (i:Int):bh:=⟨i,d.kind,d.n,d.aD,d.move,d.sum⟩
def fG:List bh->Nat->List bh
 |[],_=>[]
 |d::l,i=>DL d ((i:Int)+1)::fG l (i+1)
theorem jZ:∀ (l:List bh) (i:Nat),(fG l i).length=l.length
 |[],_=>rfl
 |d::l,i=>by rw [fG,List.length_cons,List.length_cons,jZ l]
theorem nm:∀ {l:List bh} {i k:Nat} {d:bh},l[k]?=some d->(fG l i)[k]?=some (DL d (((i+k:Nat):Int)+1))
 |[],_,_,_,h=>by simp at h
 |x::l,i,0,d,h=>by simp at h;subst h;rfl
 |x::l,i,k+1,d,h=>by
  rw [fG,List.getElem?_cons_succ]
  rw [List.getElem?_cons_succ] at h
  rw [nm h,show i+1+k=i+(k+1) by omega]
theorem wR {l:List bh} {k:Nat} {d:bh} (h:(fG l 0)[k]?=some d):d.id=(k:Int)+1:=by
 have hk:k < l.length:=by have:=(List.getElem?_eq_some_iff.1 h).1;rwa [jZ] at this
 have:=nm (i:=0) (List.getElem?_eq_getElem hk)
 rw [this] at h;injection h with h;rw [<-h];simp [DL]
def lJ (m:List bh) (i:Nat) (k:Int):List bh:=if 0<=k/\k<=i/\k % 5=(i:Int) % 5 then (m[k.toNat]?).toList else []
def lb (m:List bh) (i:Nat) (again:List Int):List bh:=again.flatMap (lJ m i)
def jO (again:List Int) (m:List bh):Nat->List bh
 |0=>[]
 |i+1=>jO again m i++(m[i]?).toList++lb (m.take (i+1)) i again
structure pR (m:List bh) (s:Bk×List (List Int)×List (Int×Answer)×Nat×List Answer) (all:List bh) (r:Bk×List (List Int)×List (Int×Answer)×Nat×List Answer) (n:Nat):Prop where
 b:r.1=s.1
 y:r.2.1=s.2.1
 t:r.2.2.1=s.2.2.1
 c:r.2.2.2.1=s.2.2.2.1
 ls:s.2.2.2.2.length=n
 lr:r.2.2.2.2.length=all.length
 told:∀ (k:Nat) (v:Answer),s.2.2.2.2[k]?=some v->fF s.2.2.1 ((k:Int)+1)=some v
 same:∀ (i:Nat) (d:bh),all[i]?=some d->∃ k:Nat,d.id=(k:Int)+1/\k < n/\r.2.2.2.2[i]?=s.2.2.2.2[k]?
theorem pR.rep {m:List bh} {s r:Bk×List (List Int)×List (Int×Answer)×Nat×List Answer} {all:List bh} {n:Nat} (H:pR m s all r n) {d:bh} {k:Nat} (hd:d.id=(k:Int)+1) (hk:k < n):
  pR m s (all++[d]) (fr [d] r.1 r.2.1 r.2.2.1 r.2.2.2.1 r.2.2.2.2) n:=by
 obtain ⟨v,hv⟩:∃ v,s.2.2.2.2[k]?=some v:=⟨s.2.2.2.2[k]'(by rw [H.ls];exact hk),List.getElem?_eq_getElem (by rw [H.ls];exact hk)⟩
 have ho:=xT (b:=r.1) (y:=r.2.1) (told:=r.2.2.1) (cl:=r.2.2.2.1) (d:=d) (v:=v) (by omega) (by rw [H.t,hd];exact H.told k v hv)
 unfold fr fr
 rw [ho]
 refine ⟨H.b,H.y,H.t,H.c,H.ls,by simp [H.lr],H.told,fun i e he=>?_⟩
 dsimp only
 rcases Nat.lt_or_ge i all.length with h|h
 ·rw [List.getElem?_append_left h] at he
  rw [List.getElem?_append_left (by rw [H.lr];exact h)]
  exact H.same i e he
 ·have hi:i=all.length:=by have:=(List.getElem?_eq_some_iff.1 he).1;simp at this;omega
  subst hi
  simp at he;subst he
  refine ⟨k,hd,hk,?_⟩
  rw [List.getElem?_append_right (by rw [H.lr];exact Nat.le_refl _),H.lr,hv];simp
theorem pR.Dt {m:List bh} {s:Bk×List (List Int)×List (Int×Answer)×Nat×List Answer} {n:Nat}:∀ {l all:List bh} {r:Bk×List (List Int)×List (Int×Answer)×Nat×List Answer},pR m s all r n->(∀ d∈l,∃ k:Nat,d.id=(k:Int)+1/\k < n)->pR m s (all++l) (fr l r.1 r.2.1 r.2.2.1 r.2.2.2.1 r.2.2.2.2) n
 |[],all,r,H,_=>by rw [List.append_nil];exact H
 |d::l,all,r,H,hl=>by
  obtain ⟨k,hd,hk⟩:=hl d List.mem_cons_self
  have h1:=(H.rep hd hk).Dt (l:=l) fun x hx=>hl x (List.mem_cons_of_mem _ hx)
  rw [List.append_assoc] at h1
  have h2:=kC [d] l r.1 r.2.1 r.2.2.1 r.2.2.2.1 r.2.2.2.2
  rw [List.singleton_append] at h1 h2
  rw [h2];exact h1
theorem pR.new {m:List bh} {s r:Bk×List (List Int)×List (Int×Answer)×Nat×List Answer} {all:List bh} {n:Nat} (H:pR m s all r n) {d:bh} (hd:d.id=(n:Int)+1):
  pR m (fr [d] s.1 s.2.1 s.2.2.1 s.2.2.2.1 s.2.2.2.2) (all++[d]) (fr [d] r.1 r.2.1 r.2.2.1 r.2.2.2.1 r.2.2.2.2) (n+1):=by
 rw [H.b,H.y,H.t,H.c]
 obtain ⟨ht,hj⟩:=zj (b:=s.1) (y:=s.2.1) (told:=s.2.2.1) (cl:=s.2.2.2.1) (d:=d) (by omega)
 unfold fr fr
 refine ⟨rfl,rfl,rfl,rfl,by simp [H.ls],by simp [H.lr],fun k v hv=>?_,fun i e he=>?_⟩
 ·dsimp only at hv ⊢
  rcases Nat.lt_or_ge k n with h|h
  ·rw [List.getElem?_append_left (by rw [H.ls];exact h)] at hv
   rw [hj _ (by rw [hd];omega)]
   exact H.told k v hv
  ·have hk:k=n:=by have:=(List.getElem?_eq_some_iff.1 hv).1;simp [H.ls] at this;omega
   subst hk
   rw [<-hd,ht]
   rw [List.getElem?_append_right (by rw [H.ls];exact Nat.le_refl _),H.ls] at hv
   simpa using hv
 ·dsimp only
  rcases Nat.lt_or_ge i all.length with h|h
  ·rw [List.getElem?_append_left h] at he
   obtain ⟨k,h1,h2,h3⟩:=H.same i e he
   refine ⟨k,h1,by omega,?_⟩
   rw [List.getElem?_append_left (by rw [H.lr];exact h),h3,List.getElem?_append_left (by rw [H.ls];exact h2)]
  ·have hi:i=all.length:=by have:=(List.getElem?_eq_some_iff.1 he).1;simp at this;omega
   subst hi
   simp at he;subst he
   refine ⟨n,hd,by omega,?_⟩
   rw [List.getElem?_append_right (by rw [H.lr];exact Nat.le_refl _),H.lr,List.getElem?_append_right (by rw [H.ls];exact Nat.le_refl _),H.ls];simp
theorem AO {m:List bh} (hm:∀ (k:Nat) (d:bh),m[k]?=some d->d.id=(k:Int)+1) {i n:Nat} (hn:i < n) {again:List Int}:∀ d∈lb m i again,∃ k:Nat,d.id=(k:Int)+1/\k < n:=fun d hd=>by
 obtain ⟨k,_,hk⟩:=List.mem_flatMap.1 hd
 unfold lJ at hk
 split at hk
 ·rename_i h
  rw [Option.mem_toList] at hk
  exact ⟨k.toNat,hm _ _ hk,by omega⟩
 ·cases hk
theorem xw {l:List bh} {again:List Int} (b0:Bk):∀ (n:Nat),n<=l.length->pR (fG l 0) (fr ((fG l 0).take n) b0 [] [] 0 []) (jO again (fG l 0) n) (fr (jO again (fG l 0) n) b0 [] [] 0 []) n
 |0,_=>⟨rfl,rfl,rfl,rfl,rfl,rfl,fun k v h=>by simp [fr] at h,fun i d h=>by simp [jO] at h⟩
 |n+1,hn=>by
  have ih:=xw (l:=l) (again:=again) b0 n (by omega)
  have hlen:n < (fG l 0).length:=by rw [jZ];omega
  obtain ⟨d,hd⟩:∃ d,(fG l 0)[n]?=some d:=⟨_,List.getElem?_eq_getElem hlen⟩
  have hi:=wR hd
  have h1:=(ih.new hi).Dt (l:=lb ((fG l 0).take (n+1)) n again) (AO (fun k e he=>by
   rw [List.getElem?_take] at he
   split at he
   ·exact wR he
   ·cases he) (by omega))
  rw [fV hd] at h1
  rw [jO,hd,show (some d).toList=[d] from rfl,fV hd,kC,kC,kC]
  exact h1
theorem AY {s:Setup} {l:List bh} {again:List Int} {b c:Bk} {y z:List (List Int)} {a x:List Answer} {f g:df} (hl:l.length<=60) (hm:iK s (fG l 0)=(b,y,a,f)) (ha:iK s (jO again (fG l 0) l.length)=(c,z,x,g)):
  (¬(f.err=0/\g.err=0)->f=g\/g.err=5)/\(f.err=0->g.err=0->c=b/\z=y/\a.length=l.length/\x.length=(jO again (fG l 0) l.length).length/\
   ∀ (i:Nat) (d:bh),(jO again (fG l 0) l.length)[i]?=some d->1<=d.id/\d.id<=l.length/\∀ u v,x[i]?=some u->a[(d.id - 1).toNat]?=some v->u=v):=by
 unfold iK at hm ha
 by_cases hw:(eE s).err≠0
 ·rw [if_pos hw] at hm ha
  simp only [Prod.mk.injEq] at hm ha
  refine ⟨fun _=>.inl (hm.2.2.2.symm.trans ha.2.2.2),fun h=>?_⟩
  rw [<-hm.2.2.2] at h;exact absurd h hw
 ·rw [if_neg hw] at hm ha
  rw [if_neg (by rw [jZ];omega)] at hm
  by_cases h150:(jO again (fG l 0) l.length).length > 150
  ·rw [if_pos h150] at ha
   simp only [Prod.mk.injEq] at hm ha
   exact ⟨fun _=>.inr (by rw [<-ha.2.2.2]),fun _ h=>by rw [<-ha.2.2.2] at h;cases h⟩
  ·rw [if_neg h150] at ha
   simp only [Prod.mk.injEq] at hm ha
   obtain ⟨m1,m2,m3,m4⟩:=hm
   obtain ⟨a1,a2,a3,a4⟩:=ha
   refine ⟨fun h=>absurd ⟨by rw [<-m4],by rw [<-a4]⟩ h,fun _ _=>?_⟩
   have H:=xw (l:=l) (again:=again) (iB s) l.length (Nat.le_refl _)
   rw [List.take_of_length_le (by rw [jZ];exact Nat.le_refl _)] at H
   rw [wO] at m1 m2 m3 a1 a2 a3
   dsimp only at m1 m2 m3 a1 a2 a3
   refine ⟨by rw [<-a1,<-m1];exact H.b,by rw [<-a2,<-m2];exact H.y,by rw [<-m3];exact H.ls,by rw [<-a3];exact H.lr,fun i d hd=>?_⟩
   obtain ⟨k,h1,h2,h3⟩:=H.same i d hd
   refine ⟨by omega,by omega,fun u v hu hv=>?_⟩
   rw [<-a3,h3] at hu
   rw [<-m3,h1,show ((k:Int)+1 - 1).toNat=k by omega,hu] at hv
   injection hv
theorem lS {m:List bh} {i q:Nat} {again:List Int} {k:Int} (hk:again[q]?=some k):lb m i (again.take (q+1))=lb m i (again.take q)++lJ m i k:=by
 unfold lb;rw [fV hk,List.flatMap_append];simp
theorem rC {m:List bh} {i:Nat} {k:Int} {x:bh} (h:0<=k/\k<=i/\k % 5=(i:Int) % 5) (hx:m[k.toNat]?=some x):lJ m i k=[x]:=by
 unfold lJ;rw [if_pos h,hx];rfl
theorem tD {m:List bh} {i:Nat} {k:Int} (h:¬(0<=k/\k<=i/\k % 5=(i:Int) % 5)):lJ m i k=[]:=by
 unfold lJ;rw [if_neg h]
theorem uK {l m:List bh} {i:Nat} {d:bh} (hm:m=(fG l 0).take i) (hd:l[i]?=some d):m++[⟨(↑i:Int)+1,d.kind,d.n,d.aD,d.move,d.sum⟩]=(fG l 0).take (i+1):=by
 rw [hm,fV (nm (i:=0) hd),Nat.zero_add];rfl
theorem BV {l m a:List bh} {again:List Int} {i:Nat} {d:bh} (hm:m=(fG l 0).take i) (ha:a=jO again (fG l 0) i) (hd:l[i]?=some d):a++[⟨(↑i:Int)+1,d.kind,d.n,d.aD,d.move,d.sum⟩]++lb (m++[⟨(↑i:Int)+1,d.kind,d.n,d.aD,d.move,d.sum⟩]) i again=jO again (fG l 0) (i+1):=by
 rw [uK hm hd,ha,jO,nm (i:=0) hd,Nat.zero_add];rfl

theorem FL (a0 a1 b0 b1:Int):kT Try.prog 65 [.int .i64 a0,.int .i64 a1] [.int .i64 b0,.int .i64 b1]:=⟨_,Try.underlying65,by kernel_rfl,by kernel_rfl,⟨⟨by decide,rfl,.inl ⟨_,_,_,_,Try.underlying48,rfl,rfl⟩⟩,⟨by decide,rfl,.inl ⟨_,_,_,_,Try.underlying3,rfl,rfl⟩⟩,trivial⟩⟩

theorem yB (s:Setup) (l:List bh) (again:List Int):Fn Try.prog 7 [(.g [(cR 3 ((s.cQ).map fi)),(cI s.eZ),(cI s.cap)]),(.c (iQ l)),(.c (cX again))] (aB true) []:=by
 refine Fn.mk' 130 [(0,(aG [(cR 3 ((s.cQ).map fi)),(cI s.eZ),(cI s.cap)])),(1,(aC (iQ l))),(2,(aC (cX again)))] Try.func7 rfl rfl rfl rfl ?_
 intro W0 T0
 refine cA 0 0 rfl rfl (fun hlen0_0=>?_)
 refine dk 1 rfl (fun hlen1=>?_)
 refine dk 2 rfl (fun hlen2=>?_)
 refine ae aa 2 rfl ?_
 refine ag ?_
 refine eV ?_
 refine aR 1 [0] (bX 1 (BP) Hc rfl rfl trivial trivial trivial rfl rfl rfl rfl) rfl ?_
 refine ad aa 1 rfl ?_
 refine af ?_
 refine aj rfl (fun hno=>by cases hno) (fun _=>?_)
 refine aP ?_
 refine ag ?_
 refine ch 30 ((decide ((↑l.length:Int) > 60))||(decide ((↑again.length:Int) > 20))) ?_ ?_
 ·
  refine au ?_
  refine ad aa 1 rfl ?_
  refine ay (bN rfl rfl rfl rfl rfl Try.underlying24) rfl ?_
  refine ad aa 2 rfl ?_
  refine bE (t:=26) rfl (fun hb2=>?_) (fun hb2=>?_)
  ·
   have hb2':=of_decide_eq_true hb2
   refine ad aa 4 rfl ?_
   refine af ?_
   exact aE.bB 9 rfl rfl (by first|(simp [hb2];done)|(simp_all;done)|(exfalso;simp_all;done)|(simp_all;omega)) rfl
  have hb2':=of_decide_eq_false hb2
  refine ad aa 1 rfl ?_
  refine cz (ah.yes rfl rfl rfl) (bN rfl rfl rfl rfl rfl Try.underlying30) rfl rfl ?_
  refine ad aa 2 rfl ?_
  refine af ?_
  exact aE.bB 9 rfl rfl (by first|(simp [hb2];done)|(simp_all;done)|(exfalso;simp_all;done)|(simp_all;omega)) rfl
 refine aj rfl (fun hc3=>?_) (fun hc3=>?_)
 ·
  have hc3':=hc3;try simp only [bq,bM] at hc3'
  refine ae aa 1 rfl ?_
  refine az ?_
  refine ar ?_
  refine an aa [] 0 rfl rfl rfl rfl rfl rfl ?_ ?_
  ·rfl
  ·rfl
 have hc3':=hc3;try simp only [bq,bM] at hc3'
 refine aP ?_
 refine ae aa 2 rfl ?_
 refine ag ?_
 refine aH aa 1 rfl ?_
 refine ay (bN rfl rfl rfl rfl rfl Try.underlying24) rfl ?_
 refine ad aa 1 rfl ?_
 refine af ?_
 refine aU ?_
 refine gl (aE.nil 7 27 6 (by decide) rfl) ?_
 refine gl (aE.nil 8 27 6 (by decide) rfl) ?_
 refine cg (β:=Nat×List bh×List bh) (fun (p:Nat×List bh×List bh)=>match p with|(i,m0,a0)=>⟨[(2,(aC (cX again))),(3,(aC (.p 0 0 0 0))),(6,(aB false)),(7,(aC (.s 1 0 6 m0.length))),(8,(aC (.s 2 0 6 a0.length))),(31,(aC (iQ l))),(32,(aI (↑l.length:Int))),(33,(aI (↑i:Int)))],[(2,(xu a0)),(1,(xu m0)),(0,(.box 55 [(cR 3 ((s.cQ).map fi)),(cI s.eZ),(cI s.cap)]))],3⟩) (fun (p:Nat×List bh×List bh)=>match p with|(i,m0,a0)=>i<=l.length/\m0=(fG l 0).take i/\a0=jO again (fG l 0) i/\m0.length=i/\a0.length<=21 * i) (fun (p:Nat×List bh×List bh)=>match p with|(i,m0,a0)=>l.length - i) (0,([]:List bh),([]:List bh)) ?_ ?_ ?_
 ·exact ⟨by omega,rfl,rfl,rfl,by simp⟩
 ·exact aE.bR id (by refine ⟨?_,?_,?_,?_,?_,?_,?_,?_,trivial⟩<;>first|rfl|(simp only [bc];done)|(congr 3;omega)|(congr 4;omega)|(simp only [bd];rfl)|(first|exact cM rfl (by omega)|exact ja rfl (by first|omega|(simp only [List.length_append,List.length_cons,List.length_nil] at *;omega)))) (by refine ⟨?_,?_,?_,trivial⟩<;>first|rfl|(simp only [bc];done)|(congr 3;omega)|(congr 4;omega)|(simp only [bd];rfl)) rfl
 rintro ⟨i,m0,a0⟩ ⟨hi0_0,hi0_1,hi0_2,hi0_3,hi0_4⟩
 refine ae aa 1 rfl ?_
 refine ag ?_
 refine aj rfl (fun hc4=>?_) (fun hc4=>?_)
 ·
  have hc4':=of_decide_eq_true hc4
  refine aP ?_
  refine ag ?_
  refine aU ?_
  refine aH aa 1 rfl ?_
  obtain ⟨x1,hx1⟩:=cb (xs:=l) (i:=i) (by first|omega|(simp;done)|(simp;omega))
  refine ay (bV (i:=i) rfl rfl rfl Try.underlying24 ug (by first|omega|(simp;done)|(simp;omega)) (bf hx1)) rfl ?_
  refine ad aa 4 rfl ?_
  refine af ?_
  refine aH aa 1 rfl ?_
  refine ay (aJ rfl rfl rfl (aL (by first|omega|(simp;done)|(simp;omega)))) rfl ?_
  refine ad aa 2 rfl ?_
  refine af ?_
  refine ag ?_
  refine aW [2,3,6,7,8,31,32,33,10,9] [3,2,1,0] mixed rfl rfl ?_
  refine aw (kn:=[]) aa 2 rfl trivial ?_
  refine aM (n':=5) [42] [] rfl rfl (.inl ⟨(ah.plain rfl),aF.cast (dJ (ys:=[(0,(.g [(cI ((↑i:Int)+1)),(cI x1.kind),(cI x1.n),(cI x1.aD),(cI x1.move),(cI x1.sum)]))]) (rows:=([(⟨(↑i:Int)+1,x1.kind,x1.n,x1.aD,x1.move,x1.sum⟩:bh)]).map cY) 4 pZ rfl (by decide) ⟨⟨rfl,rfl⟩,trivial⟩ rfl rfl rfl rfl) rfl⟩) rfl ?_
  refine aM (n':=6) [41,43] [4,1] rfl rfl (.inl ⟨(ah.plain rfl),aF.cast (dp (m:=1) (N:=m0.length+1) (k2:=5) (ys:=([(⟨(↑i:Int)+1,x1.kind,x1.n,x1.aD,x1.move,x1.sum⟩:bh)]).map cY) pZ rfl rfl rfl rfl rfl rfl (by first|omega|(simp;done)|(simp;omega)) rfl (.s rfl (by first|omega|(simp;done)|(simp;omega))) (by first|omega|(simp;done)|(simp;omega)) (by first|omega|(simp;done)|(simp;omega)) ff (by decide) (by first|omega|(simp;done)|(simp;omega)) (by first|omega|(simp;done)|(simp;omega))) rfl⟩) rfl ?_
  refine aw (kn:=[]) aa 2 rfl trivial ?_
  refine aM (n':=7) [46] [] rfl rfl (.inl ⟨(ah.plain rfl),aF.cast (dJ (ys:=[(0,(.g [(cI ((↑i:Int)+1)),(cI x1.kind),(cI x1.n),(cI x1.aD),(cI x1.move),(cI x1.sum)]))]) (rows:=([(⟨(↑i:Int)+1,x1.kind,x1.n,x1.aD,x1.move,x1.sum⟩:bh)]).map cY) 6 pZ rfl (by decide) ⟨⟨rfl,rfl⟩,trivial⟩ rfl rfl rfl rfl) rfl⟩) rfl ?_
  refine aM (n':=8) [45,47] [6,2] rfl rfl (.inl ⟨(ah.plain rfl),aF.cast (dp (m:=1) (N:=a0.length+1) (k2:=7) (ys:=([(⟨(↑i:Int)+1,x1.kind,x1.n,x1.aD,x1.move,x1.sum⟩:bh)]).map cY) pZ rfl rfl rfl rfl rfl rfl (by first|omega|(simp;done)|(simp;omega)) rfl (.s rfl (by first|omega|(simp;done)|(simp;omega))) (by first|omega|(simp;done)|(simp;omega)) (by first|omega|(simp;done)|(simp;omega)) ff (by decide) (by first|omega|(simp;done)|(simp;omega)) (by first|omega|(simp;done)|(simp;omega))) rfl⟩) rfl ?_
  refine bw [7,5,3,0] rfl rfl rfl rfl (by kernel_rfl) ?_
  refine ad aa 2 rfl ?_
  refine af ?_
  refine aH aa 1 rfl ?_
  refine ay (bN rfl rfl rfl rfl rfl Try.underlying30) rfl ?_
  refine ad aa 1 rfl ?_
  refine af ?_
  refine aU ?_
  refine cg (β:=Nat×List bh) (fun (p:Nat×List bh)=>match p with|(q,a1)=>⟨[(2,(aC (cX again))),(3,(aC (.p 0 0 0 0))),(6,(aB false)),(7,(aC (.s 5 0 6 (m0.length+1)))),(8,(aC (.s 7 0 6 a1.length))),(31,(aC (iQ l))),(32,(aI (↑l.length:Int))),(33,(aI (↑i:Int))),(9,(aI (↑i:Int))),(49,(aC (cX again))),(50,(aI (↑again.length:Int))),(51,(aI (↑q:Int)))],[(7,(xu a1)),(5,(xu (m0++([(⟨(↑i:Int)+1,x1.kind,x1.n,x1.aD,x1.move,x1.sum⟩:bh)])))),(0,(.box 55 [(cR 3 ((s.cQ).map fi)),(cI s.eZ),(cI s.cap)]))],8⟩) (fun (p:Nat×List bh)=>match p with|(q,a1)=>q<=again.length/\a1=a0++[(⟨(↑i:Int)+1,x1.kind,x1.n,x1.aD,x1.move,x1.sum⟩:bh)]++lb (m0++[(⟨(↑i:Int)+1,x1.kind,x1.n,x1.aD,x1.move,x1.sum⟩:bh)]) i (again.take q)/\a1.length<=21 * i+1+q) (fun (p:Nat×List bh)=>match p with|(q,a1)=>again.length - q) (0,a0++([(⟨(↑i:Int)+1,x1.kind,x1.n,x1.aD,x1.move,x1.sum⟩:bh)])) ?_ ?_ ?_
  ·exact ⟨by omega,by simp [lb],by simp;omega⟩
  ·exact aE.bR id (by refine ⟨?_,?_,?_,?_,?_,?_,?_,?_,?_,?_,?_,?_,trivial⟩<;>first|rfl|(simp only [bc];done)|(congr 3;omega)|(congr 4;omega)|(simp only [bd];rfl)|(first|exact cM rfl (by omega)|exact ja rfl (by first|omega|(simp only [List.length_append,List.length_cons,List.length_nil] at *;omega)))) (by refine ⟨?_,?_,?_,trivial⟩<;>first|rfl|(simp only [bc];done)|(congr 3;omega)|(congr 4;omega)|(simp only [bd];rfl)) rfl
  rintro ⟨q,a1⟩ ⟨hi1_0,hi1_1,hi1_2⟩
  refine ae aa 1 rfl ?_
  refine ag ?_
  refine aj rfl (fun hc5=>?_) (fun hc5=>?_)
  ·
   have hc5':=of_decide_eq_true hc5
   refine aP ?_
   refine ag ?_
   refine aU ?_
   refine eV ?_
   obtain ⟨x2,hx2⟩:=cb (xs:=again) (i:=q) (by first|omega|(simp;done)|(simp;omega))
   refine ay (bV (i:=q) rfl rfl rfl Try.underlying30 fE (by first|omega|(simp;done)|(simp;omega)) (bf hx2)) rfl ?_
   refine ad aa 2 rfl ?_
   refine af ?_
   refine ch 68 (((decide (x2>=0)) && (decide (x2<=(↑i:Int)))) && (decide ((x2 % 5)=((↑i:Int) % 5)))) ?_ ?_
   ·
    refine au ?_
    refine ad aa 3 rfl ?_
    refine bE (t:=57) rfl (fun hb6=>?_) (fun hb6=>?_)
    ·
     have hb6':=of_decide_eq_true hb6
     refine ad aa 5 rfl ?_
     refine bE (t:=62) rfl (fun hb7=>?_) (fun hb7=>?_)
     ·
      have hb7':=of_decide_eq_true hb7
      refine ad aa 1 rfl ?_
      refine cz (ah.yes rfl rfl rfl) (Cl rfl rfl rfl (by decide) (by first|omega|(simp;done)|(simp;omega)) rfl) rfl rfl ?_
      refine ad aa 1 rfl ?_
      refine cz (ah.yes rfl rfl rfl) (Cl rfl rfl rfl (by decide) (by first|omega|(simp;done)|(simp;omega)) rfl) rfl rfl ?_
      refine ad aa 2 rfl ?_
      refine af ?_
      exact aE.bB 16 rfl rfl (by first|(simp [hb6,hb7];done)|(simp_all;done)|(exfalso;simp_all;done)|(simp_all;omega)) rfl
     have hb7':=of_decide_eq_false hb7
     refine ad aa 6 rfl ?_
     refine af ?_
     exact aE.bB 16 rfl rfl (by first|(simp [hb6,hb7];done)|(simp_all;done)|(exfalso;simp_all;done)|(simp_all;omega)) rfl
    have hb6':=of_decide_eq_false hb6
    refine ad aa 11 rfl ?_
    refine af ?_
    exact aE.bB 15 rfl rfl (by first|(simp [hb6];done)|(simp_all;done)|(exfalso;simp_all;done)|(simp_all;omega)) rfl
   refine aj rfl (fun hc8=>?_) (fun hc8=>?_)
   ·
    have hc8':=hc8;try simp only [bq,bM] at hc8'
    refine au ?_
    refine ad aa 3 rfl ?_
    refine ay (bx (i:=Int.toNat (x2)) rfl rfl rfl Try.underlying24 ug (by first|omega|(simp;done)|(simp;omega)) (by first|omega|(simp;done)|(simp;omega))) rfl ?_
    obtain ⟨x3,hx3⟩:=cb (xs:=(m0++([(⟨(↑i:Int)+1,x1.kind,x1.n,x1.aD,x1.move,x1.sum⟩:bh)]))) (i:=Int.toNat (x2)) (by first|omega|(simp;done)|(simp;omega))
    refine ay (dg rfl rfl rfl Try.underlying27 rfl ug (bf hx3) rfl) rfl ?_
    refine aR 9 [8,7,5,0] (dJ (ys:=[(0,(.g [(cI x3.id),(cI x3.kind),(cI x3.n),(cI x3.aD),(cI x3.move),(cI x3.sum)]))]) (rows:=([x3]).map cY) 8 pZ rfl (by decide) ⟨⟨rfl,rfl⟩,trivial⟩ rfl rfl rfl rfl) rfl ?_
    refine aR 10 [9,8,5,0] (dp (m:=1) (N:=a1.length+1) (k2:=9) (ys:=([x3]).map cY) pZ rfl rfl rfl rfl rfl rfl (by first|omega|(simp;done)|(simp;omega)) rfl (.s rfl (by first|omega|(simp;done)|(simp;omega))) (by first|omega|(simp;done)|(simp;omega)) (by first|omega|(simp;done)|(simp;omega)) ff (by decide) (by first|omega|(simp;done)|(simp;omega)) (by first|omega|(simp;done)|(simp;omega))) rfl ?_
    refine ad aa 1 rfl ?_
    refine cc ?_
    refine bl ?_
    refine then_ok ?_
    refine au ?_
    refine ay (aJ rfl rfl rfl (aL (by first|omega|(simp;done)|(simp;omega)))) rfl ?_
    refine ad aa 1 rfl ?_
    refine af ?_
    refine ⟨(q+1,a1++([x3])),⟨by omega,by first|(rw [lS hx2,rC (by omega) hx3,<-List.append_assoc,<-hi1_1];done)|(rw [lS hx2,tD (by first|omega|(simp_all;done)|(simp_all;omega)),List.append_nil];exact hi1_1),by first|omega|(simp;omega)⟩,by first|omega|(simp;done)|(simp;omega),aE.bR (fun k=>if k=7 then 9 else k) (by refine ⟨?_,?_,?_,?_,?_,?_,?_,?_,?_,?_,?_,?_,trivial⟩<;>first|rfl|(simp only [bc];done)|(congr 3;omega)|(congr 4;omega)|(simp only [bd];rfl)|(first|exact cM rfl (by omega)|exact ja rfl (by first|omega|(simp only [List.length_append,List.length_cons,List.length_nil] at *;omega)))) (by refine ⟨?_,?_,?_,trivial⟩<;>first|rfl|(simp only [bc];done)|(congr 3;omega)|(congr 4;omega)|(simp only [bd];rfl)) rfl⟩
   have hc8':=hc8;try simp only [bq,bM] at hc8'
   refine cD ?_
   refine bl ?_
   refine then_ok ?_
   refine au ?_
   refine ay (aJ rfl rfl rfl (aL (by first|omega|(simp;done)|(simp;omega)))) rfl ?_
   refine ad aa 1 rfl ?_
   refine af ?_
   refine ⟨(q+1,a1),⟨by omega,by first|(rw [lS hx2,rC (by omega) hx3,<-List.append_assoc,<-hi1_1];done)|(rw [lS hx2,tD (by first|omega|(simp_all;done)|(simp_all;omega)),List.append_nil];exact hi1_1),by first|omega|(simp;omega)⟩,by first|omega|(simp;done)|(simp;omega),aE.bR id (by refine ⟨?_,?_,?_,?_,?_,?_,?_,?_,?_,?_,?_,?_,trivial⟩<;>first|rfl|(simp only [bc];done)|(congr 3;omega)|(congr 4;omega)|(simp only [bd];rfl)|(first|exact cM rfl (by omega)|exact ja rfl (by first|omega|(simp only [List.length_append,List.length_cons,List.length_nil] at *;omega)))) (by refine ⟨?_,?_,?_,trivial⟩<;>first|rfl|(simp only [bc];done)|(congr 3;omega)|(congr 4;omega)|(simp only [bd];rfl)) rfl⟩
  have hc5':=of_decide_eq_false hc5
  refine bZ ?_
  refine aN ?_
  refine aN ?_
  refine bC ?_
  refine bl ?_
  refine then_ok ?_
  refine au ?_
  refine ay (aJ rfl rfl rfl (aL (by first|omega|(simp;done)|(simp;omega)))) rfl ?_
  refine ad aa 1 rfl ?_
  refine af ?_
  refine ⟨(i+1,m0++([(⟨(↑i:Int)+1,x1.kind,x1.n,x1.aD,x1.move,x1.sum⟩:bh)]),a1),⟨by omega,uK hi0_1 hx1,by rw [hi1_1,show again.take q=again from List.take_of_length_le (by omega)];exact BV hi0_1 hi0_2 hx1,by simp;omega,by omega⟩,by first|omega|(simp;done)|(simp;omega),aE.bR (fun k=>if k=2 then 7 else if k=1 then 5 else k) (by refine ⟨?_,?_,?_,?_,?_,?_,?_,?_,trivial⟩<;>first|rfl|(simp only [bc];done)|(congr 3;omega)|(congr 4;omega)|(simp only [bd];rfl)|(first|exact cM rfl (by omega)|exact ja rfl (by first|omega|(simp only [List.length_append,List.length_cons,List.length_nil] at *;omega)))) (by refine ⟨?_,?_,?_,trivial⟩<;>first|rfl|(simp only [bc];done)|(congr 3;omega)|(congr 4;omega)|(simp only [bd];rfl)) rfl⟩
 have hc4':=of_decide_eq_false hc4
 refine bZ ?_
 refine aN ?_
 refine aN ?_
 refine bC ?_
 refine then_ok ?_
 have hil:i=l.length:=by omega
 have hmL:m0=fG l 0:=by rw [hi0_1,hil];exact List.take_of_length_le (by rw [jZ];exact Nat.le_refl _)
 have haL:a0=jO again (fG l 0) l.length:=by rw [hi0_2,hil]
 refine aH aa 2 rfl ?_
 refine mg (s':=[(2,(aC (cX again))),(3,(aC (.p 0 0 0 0))),(6,(aB false)),(7,(aC (iQ m0))),(8,(aC (.s 2 0 6 a0.length))),(31,(aC (iQ l))),(32,(aI (↑l.length:Int))),(33,(aI (↑i:Int))),(34,(aB (decide ((↑i:Int) < (↑l.length:Int))))),(79,(aG [(cR 3 ((s.cQ).map fi)),(cI s.eZ),(cI s.cap)])),(80,(aC (iQ m0)))]) (h':=[(2,(xu a0)),(0,(.box 55 [(cR 3 ((s.cQ).map fi)),(cI s.eZ),(cI s.cap)]))]) 1 rfl ⟨⟨_,rfl,.inl ⟨rfl,rfl⟩⟩,⟨_,rfl,.inl ⟨rfl,rfl⟩⟩,⟨_,rfl,.inl ⟨rfl,rfl⟩⟩,⟨_,rfl,.inr ⟨_,_,rfl,rfl,.s rfl (by decide) (by first|omega|(simp;done)|(simp;omega))⟩⟩,⟨_,rfl,.inl ⟨rfl,rfl⟩⟩,⟨_,rfl,.inl ⟨rfl,rfl⟩⟩,⟨_,rfl,.inl ⟨rfl,rfl⟩⟩,⟨_,rfl,.inl ⟨rfl,rfl⟩⟩,⟨_,rfl,.inl ⟨rfl,rfl⟩⟩,⟨_,rfl,.inl ⟨rfl,rfl⟩⟩,⟨_,rfl,.inr ⟨_,_,rfl,rfl,.s rfl (by decide) (by first|omega|(simp;done)|(simp;omega))⟩⟩,trivial⟩ ⟨rfl,rfl,trivial⟩ rfl ?_
 obtain ⟨b20,y20,o20,f20,hr0⟩:∃ (b20:Bk) (y20:List (List Int)) (o20:List Answer) (f20:df),iK s m0=(b20,y20,o20,f20):=⟨_,_,_,_,rfl⟩
 refine aR 3 [2,0] (bX 3 (Fn.frozen (av':=(.t [(.g [(cI b20.time),(cB b20.down),(gS b20.aq),(cX b20.due),(gy b20.ax),(cI b20.s0.bz),(cm b20.s0.kept),(cI b20.s1.bz),(cm b20.s1.kept),(cI b20.n0),(cI b20.n1),(cT b20.w0),(cT b20.w1),(cI b20.aX.cap),(cX b20.aX.used),(dV b20.aX.aQ),(ew b20.aS),(gR y20),(da b20.book)]),(.c (pq o20)),(.g [(cI f20.err),(cI f20.at_)])])) (vG s m0 b20 y20 o20 f20 hr0) ⟨⟨.inl ⟨_,rfl,rfl⟩,.inl ⟨_,rfl,rfl⟩,.inr ⟨_,_,_,_,_,rfl,rfl,rfl,by simp⟩,.inr ⟨_,_,_,_,_,rfl,rfl,rfl,by simp⟩,.inr ⟨_,_,_,_,_,rfl,rfl,rfl,by simp⟩,.inl ⟨_,rfl,rfl⟩,.inl ⟨_,rfl,rfl⟩,.inl ⟨_,rfl,rfl⟩,.inl ⟨_,rfl,rfl⟩,.inl ⟨_,rfl,rfl⟩,.inl ⟨_,rfl,rfl⟩,.inl ⟨_,rfl,rfl⟩,.inl ⟨_,rfl,rfl⟩,.inl ⟨_,rfl,rfl⟩,.inl ⟨_,rfl,rfl⟩,.inl ⟨_,rfl,rfl⟩,.inr ⟨_,_,_,_,_,rfl,rfl,rfl,by simp⟩,.inr ⟨_,_,_,_,_,rfl,rfl,rfl,by simp⟩,.inl ⟨_,rfl,rfl⟩,trivial⟩,.inr ⟨_,_,_,_,_,rfl,rfl,rfl,by simp⟩,⟨.inl ⟨_,rfl,rfl⟩,.inl ⟨_,rfl,rfl⟩,trivial⟩,trivial⟩) BB rfl rfl ⟨⟨_,rfl,.g ⟨.d _,.d _,.d _,trivial⟩⟩,⟨_,rfl,.c (.d _)⟩,trivial⟩ ⟨⟨trivial,trivial,trivial,trivial,trivial,trivial,trivial,trivial,trivial,trivial,trivial,trivial,trivial,trivial,trivial,trivial,trivial,trivial,trivial,trivial⟩,trivial,⟨trivial,trivial,trivial⟩,trivial⟩ trivial rfl rfl rfl rfl) rfl ?_
 refine ad aa 9 rfl ?_
 refine af ?_
 refine aH aa 2 rfl ?_
 refine mg (s':=[(2,(aC (cX again))),(3,(aC (.p 0 0 0 0))),(6,(aB false)),(7,(aC (iQ m0))),(8,(aC (iQ a0))),(31,(aC (iQ l))),(32,(aI (↑l.length:Int))),(33,(aI (↑i:Int))),(34,(aB (decide ((↑i:Int) < (↑l.length:Int))))),(79,(aG [(cR 3 ((s.cQ).map fi)),(cI s.eZ),(cI s.cap)])),(80,(aC (iQ m0))),(81,(.t [(.g [(cI b20.time),(cB b20.down),(gS b20.aq),(cX b20.due),(gy b20.ax),(cI b20.s0.bz),(cm b20.s0.kept),(cI b20.s1.bz),(cm b20.s1.kept),(cI b20.n0),(cI b20.n1),(cT b20.w0),(cT b20.w1),(cI b20.aX.cap),(cX b20.aX.used),(dV b20.aX.aQ),(ew b20.aS),(gR y20),(da b20.book)]),(.c (pq o20)),(.g [(cI f20.err),(cI f20.at_)])])),(78,(.t [(.g [(cI b20.time),(cB b20.down),(gS b20.aq),(cX b20.due),(gy b20.ax),(cI b20.s0.bz),(cm b20.s0.kept),(cI b20.s1.bz),(cm b20.s1.kept),(cI b20.n0),(cI b20.n1),(cT b20.w0),(cT b20.w1),(cI b20.aX.cap),(cX b20.aX.used),(dV b20.aX.aQ),(ew b20.aS),(gR y20),(da b20.book)]),(.c (pq o20)),(.g [(cI f20.err),(cI f20.at_)])])),(82,(aG [(cI b20.time),(cB b20.down),(gS b20.aq),(cX b20.due),(gy b20.ax),(cI b20.s0.bz),(cm b20.s0.kept),(cI b20.s1.bz),(cm b20.s1.kept),(cI b20.n0),(cI b20.n1),(cT b20.w0),(cT b20.w1),(cI b20.aX.cap),(cX b20.aX.used),(dV b20.aX.aQ),(ew b20.aS),(gR y20),(da b20.book)])),(83,(aC (pq o20))),(84,(aG [(cI f20.err),(cI f20.at_)])),(13,(aC (.p 3 0 0 0))),(15,(aC (.p 4 0 0 0))),(14,(aC (pq o20))),(86,(aG [(cR 3 ((s.cQ).map fi)),(cI s.eZ),(cI s.cap)])),(87,(aC (iQ a0)))]) (h':=[(4,(.box 50 [(cI f20.err),(cI f20.at_)])),(3,(.box 46 [(cI b20.time),(cB b20.down),(gS b20.aq),(cX b20.due),(gy b20.ax),(cI b20.s0.bz),(cm b20.s0.kept),(cI b20.s1.bz),(cm b20.s1.kept),(cI b20.n0),(cI b20.n1),(cT b20.w0),(cT b20.w1),(cI b20.aX.cap),(cX b20.aX.used),(dV b20.aX.aQ),(ew b20.aS),(gR y20),(da b20.book)])),(0,(.box 55 [(cR 3 ((s.cQ).map fi)),(cI s.eZ),(cI s.cap)]))]) 2 rfl ⟨⟨_,rfl,.inl ⟨rfl,rfl⟩⟩,⟨_,rfl,.inl ⟨rfl,rfl⟩⟩,⟨_,rfl,.inl ⟨rfl,rfl⟩⟩,⟨_,rfl,.inl ⟨rfl,rfl⟩⟩,⟨_,rfl,.inr ⟨_,_,rfl,rfl,.s rfl (by decide) (by first|omega|(simp;done)|(simp;omega))⟩⟩,⟨_,rfl,.inl ⟨rfl,rfl⟩⟩,⟨_,rfl,.inl ⟨rfl,rfl⟩⟩,⟨_,rfl,.inl ⟨rfl,rfl⟩⟩,⟨_,rfl,.inl ⟨rfl,rfl⟩⟩,⟨_,rfl,.inl ⟨rfl,rfl⟩⟩,⟨_,rfl,.inl ⟨rfl,rfl⟩⟩,⟨_,rfl,.inl ⟨rfl,rfl⟩⟩,⟨_,rfl,.inl ⟨rfl,rfl⟩⟩,⟨_,rfl,.inl ⟨rfl,rfl⟩⟩,⟨_,rfl,.inl ⟨rfl,rfl⟩⟩,⟨_,rfl,.inl ⟨rfl,rfl⟩⟩,⟨_,rfl,.inl ⟨rfl,rfl⟩⟩,⟨_,rfl,.inl ⟨rfl,rfl⟩⟩,⟨_,rfl,.inl ⟨rfl,rfl⟩⟩,⟨_,rfl,.inl ⟨rfl,rfl⟩⟩,⟨_,rfl,.inr ⟨_,_,rfl,rfl,.s rfl (by decide) (by first|omega|(simp;done)|(simp;omega))⟩⟩,trivial⟩ ⟨rfl,rfl,rfl,trivial⟩ rfl ?_
 obtain ⟨b21,y21,o21,f21,hr1⟩:∃ (b21:Bk) (y21:List (List Int)) (o21:List Answer) (f21:df),iK s a0=(b21,y21,o21,f21):=⟨_,_,_,_,rfl⟩
 obtain ⟨hno,hyes⟩:=AY (s:=s) (l:=l) (again:=again) (b:=b20) (y:=y20) (a:=o20) (f:=f20) (c:=b21) (z:=y21) (x:=o21) (g:=f21) (by omega) (by rw [<-hmL];exact hr0) (by rw [<-haL];exact hr1)
 refine aR 5 [4,3,0] (bX 5 (Fn.frozen (av':=(.t [(.g [(cI b21.time),(cB b21.down),(gS b21.aq),(cX b21.due),(gy b21.ax),(cI b21.s0.bz),(cm b21.s0.kept),(cI b21.s1.bz),(cm b21.s1.kept),(cI b21.n0),(cI b21.n1),(cT b21.w0),(cT b21.w1),(cI b21.aX.cap),(cX b21.aX.used),(dV b21.aX.aQ),(ew b21.aS),(gR y21),(da b21.book)]),(.c (pq o21)),(.g [(cI f21.err),(cI f21.at_)])])) (vG s a0 b21 y21 o21 f21 hr1) ⟨⟨.inl ⟨_,rfl,rfl⟩,.inl ⟨_,rfl,rfl⟩,.inr ⟨_,_,_,_,_,rfl,rfl,rfl,by simp⟩,.inr ⟨_,_,_,_,_,rfl,rfl,rfl,by simp⟩,.inr ⟨_,_,_,_,_,rfl,rfl,rfl,by simp⟩,.inl ⟨_,rfl,rfl⟩,.inl ⟨_,rfl,rfl⟩,.inl ⟨_,rfl,rfl⟩,.inl ⟨_,rfl,rfl⟩,.inl ⟨_,rfl,rfl⟩,.inl ⟨_,rfl,rfl⟩,.inl ⟨_,rfl,rfl⟩,.inl ⟨_,rfl,rfl⟩,.inl ⟨_,rfl,rfl⟩,.inl ⟨_,rfl,rfl⟩,.inl ⟨_,rfl,rfl⟩,.inr ⟨_,_,_,_,_,rfl,rfl,rfl,by simp⟩,.inr ⟨_,_,_,_,_,rfl,rfl,rfl,by simp⟩,.inl ⟨_,rfl,rfl⟩,trivial⟩,.inr ⟨_,_,_,_,_,rfl,rfl,rfl,by simp⟩,⟨.inl ⟨_,rfl,rfl⟩,.inl ⟨_,rfl,rfl⟩,trivial⟩,trivial⟩) BB rfl rfl ⟨⟨_,rfl,.g ⟨.d _,.d _,.d _,trivial⟩⟩,⟨_,rfl,.c (.d _)⟩,trivial⟩ ⟨⟨trivial,trivial,trivial,trivial,trivial,trivial,trivial,trivial,trivial,trivial,trivial,trivial,trivial,trivial,trivial,trivial,trivial,trivial,trivial,trivial⟩,trivial,⟨trivial,trivial,trivial⟩,trivial⟩ trivial rfl rfl rfl rfl) rfl ?_
 refine ad aa 9 rfl ?_
 refine af ?_
 refine ag ?_
 refine ch 99 ((decide (¬f20.err=0))||(decide (¬f21.err=0))) ?_ ?_
 ·
  refine au ?_
  refine ad aa 4 rfl ?_
  refine bE (t:=95) rfl (fun hb9=>?_) (fun hb9=>?_)
  ·
   have hb9':=of_decide_eq_true hb9
   refine ad aa 4 rfl ?_
   refine af ?_
   exact aE.bB 9 rfl rfl (by first|(simp [hb9];done)|(simp_all;done)|(exfalso;simp_all;done)|(simp_all;omega)) rfl
  have hb9':=of_decide_eq_false hb9
  refine ad aa 4 rfl ?_
  refine af ?_
  exact aE.bB 9 rfl rfl (by first|(simp [hb9];done)|(simp_all;done)|(exfalso;simp_all;done)|(simp_all;omega)) rfl
 refine aj rfl (fun hc10=>?_) (fun hc10=>?_)
 ·
  have hc10':=hc10;try simp only [bq,bM] at hc10'
  refine ch 6 ((eB [.int .i64 f20.err,.int .i64 f20.at_] [.int .i64 f21.err,.int .i64 f21.at_])||(decide (f21.err=5))) ?_ ?_
  ·
   refine au ?_
   refine ad aa 2 rfl ?_
   refine ay (Cm (FN _ _ _ _) rfl rfl rfl rfl rfl rfl) rfl ?_
   refine ad aa 1 rfl ?_
   refine bE (t:=103) rfl (fun hb11=>?_) (fun hb11=>?_)
   ·
    have hb11':=hb11;try simp only [bq,bM] at hb11'
    refine ad aa 5 rfl ?_
    refine af ?_
    exact aE.bB 10 rfl rfl (by first|(simp [hb11];done)|(simp_all;done)|(exfalso;simp_all;done)|(simp_all;omega)) rfl
   have hb11':=hb11;try simp only [bq,bM] at hb11'
   refine ad aa 5 rfl ?_
   refine af ?_
   exact aE.bB 10 rfl rfl (by first|(simp [hb11];done)|(simp_all;done)|(exfalso;simp_all;done)|(simp_all;omega)) rfl
  refine az ?_
  refine ar ?_
  refine an aa [] 0 rfl rfl rfl rfl rfl rfl ?_ ?_
  ·exact congrArg aB (show ((eB [.int .i64 f20.err,.int .i64 f20.at_] [.int .i64 f21.err,.int .i64 f21.at_])||(decide (f21.err=5)))=true by (rcases hno (by first|omega|(simp_all;done)|(simp_all;omega)) with h|h;(rw [h];simp [eB,iw]);(rw [h];simp)))
  ·rfl
 have hc10':=hc10;try simp only [bq,bM] at hc10'
 refine aP ?_
 refine ag ?_
 obtain ⟨hcb,hzy,hla,hlx,hall⟩:=hyes (by omega) (by omega)
 rw [<-haL] at hlx hall
 subst b21;subst y21
 refine aH aa 1 rfl ?_
 refine ay (bN rfl rfl rfl rfl rfl Try.underlying24) rfl ?_
 refine ad aa 1 rfl ?_
 refine af ?_
 refine aU ?_
 refine cg (β:=Nat) (fun (u:Nat)=>⟨[(2,(aC (cX again))),(3,(aC (.p 0 0 0 0))),(7,(aC (iQ m0))),(8,(aC (iQ a0))),(31,(aC (iQ l))),(32,(aI (↑l.length:Int))),(33,(aI (↑i:Int))),(13,(aC (.p 3 0 0 0))),(14,(aC (pq o20))),(16,(aC (.p 5 0 0 0))),(17,(aC (pq o21))),(108,(aC (iQ a0))),(109,(aI (↑a0.length:Int))),(110,(aI (↑u:Int)))],[(5,(.box 46 [(cI b20.time),(cB b20.down),(gS b20.aq),(cX b20.due),(gy b20.ax),(cI b20.s0.bz),(cm b20.s0.kept),(cI b20.s1.bz),(cm b20.s1.kept),(cI b20.n0),(cI b20.n1),(cT b20.w0),(cT b20.w1),(cI b20.aX.cap),(cX b20.aX.used),(dV b20.aX.aQ),(ew b20.aS),(gR y20),(da b20.book)])),(3,(.box 46 [(cI b20.time),(cB b20.down),(gS b20.aq),(cX b20.due),(gy b20.ax),(cI b20.s0.bz),(cm b20.s0.kept),(cI b20.s1.bz),(cm b20.s1.kept),(cI b20.n0),(cI b20.n1),(cT b20.w0),(cT b20.w1),(cI b20.aX.cap),(cX b20.aX.used),(dV b20.aX.aQ),(ew b20.aS),(gR y20),(da b20.book)])),(0,(.box 55 [(cR 3 ((s.cQ).map fi)),(cI s.eZ),(cI s.cap)]))],6⟩) (fun (u:Nat)=>u<=a0.length) (fun (u:Nat)=>a0.length - u) 0 ?_ ?_ ?_
 ·exact (by omega)
 ·exact aE.bR id (by refine ⟨?_,?_,?_,?_,?_,?_,?_,?_,?_,?_,?_,?_,?_,?_,trivial⟩<;>first|rfl|(simp only [bc];done)|(congr 3;omega)|(congr 4;omega)|(simp only [bd];rfl)) (by refine ⟨?_,?_,?_,trivial⟩<;>first|rfl|(simp only [bc];done)|(congr 3;omega)|(congr 4;omega)|(simp only [bd];rfl)) rfl
 rintro u hi2_0
 refine ae aa 1 rfl ?_
 refine ag ?_
 refine aj rfl (fun hc12=>?_) (fun hc12=>?_)
 ·
  have hc12':=of_decide_eq_true hc12
  refine aP ?_
  refine ag ?_
  refine aU ?_
  refine aH aa 1 rfl ?_
  obtain ⟨x1,hx1⟩:=cb (xs:=a0) (i:=u) (by first|omega|(simp;done)|(simp;omega))
  have hx1K:=hall _ x1 hx1
  refine ay (bV (i:=u) rfl rfl rfl Try.underlying24 ug (by first|omega|(simp;done)|(simp;omega)) (bf hx1)) rfl ?_
  refine ad aa 4 rfl ?_
  refine af ?_
  refine ag ?_
  obtain ⟨x2,hx2⟩:=cb (xs:=o21) (i:=u) (by first|omega|(simp;done)|(simp;omega))
  obtain ⟨x3,hx3⟩:=cb (xs:=o20) (i:=Int.toNat (x1.id - 1)) (by first|omega|(simp;done)|(simp;omega))
  refine aW [2,3,7,8,31,32,33,13,14,16,17,108,109,110,20,19] [6,5,3,0] mixed rfl rfl ?_
  refine aw (kn:=[]) aa 2 rfl trivial ?_
  refine aM (n':=7) [115,116] [] rfl rfl (.inl ⟨(ah.plain rfl),aF.cast (bV (i:=u) rfl rfl rfl Try.underlying47 AA (by first|omega|(simp;done)|(simp;omega)) (bf hx2)) rfl⟩) rfl ?_
  refine aw (kn:=[]) aa 4 rfl trivial ?_
  refine aM (n':=7) [121] [] rfl rfl (.inl ⟨(ah.plain rfl),aF.cast (aJ rfl rfl rfl (aL (by first|omega|(simp;done)|(simp;omega)))) rfl⟩) rfl ?_
  refine aM (n':=7) [119,122] [] rfl rfl (.inl ⟨(ah.plain rfl),aF.cast (bV (i:=Int.toNat (x1.id - 1)) rfl rfl rfl Try.underlying47 AA (by first|omega|(simp;done)|(simp;omega)) (bf hx3)) rfl⟩) rfl ?_
  refine aw (kn:=[]) aa 1 rfl trivial ?_
  refine aM (n':=7) [118,124] [] rfl rfl (.inl ⟨(ah.plain rfl),aF.cast (nw (FL _ _ _ _) rfl rfl rfl rfl rfl rfl) rfl⟩) rfl ?_
  refine bw [6,5,3,0] rfl rfl rfl rfl (by kernel_rfl) ?_
  refine af ?_
  refine aj rfl (fun hc13=>?_) (fun hc13=>?_)
  ·
   have hc13':=hc13;try simp only [bq,bM] at hc13'
   refine ae aa 1 rfl ?_
   refine az ?_
   refine bo ?_
   refine ar ?_
   refine ar ?_
   refine bo ?_
   refine ar ?_
   refine an aa [] 0 rfl rfl rfl rfl rfl rfl ?_ ?_
   ·exact congrArg aB (show (false)=true by (exfalso;have hz:=hx1K.2.2 x2 x3 hx2 hx3;subst hz;simp [eB,iw] at hc13))
   ·rfl
  have hc13':=hc13;try simp only [bq,bM] at hc13'
  refine cD ?_
  refine bl ?_
  refine then_ok ?_
  refine au ?_
  refine ay (aJ rfl rfl rfl (aL (by first|omega|(simp;done)|(simp;omega)))) rfl ?_
  refine ad aa 1 rfl ?_
  refine af ?_
  refine ⟨u+1,by omega,by first|omega|(simp;done)|(simp;omega),aE.bR id (by refine ⟨?_,?_,?_,?_,?_,?_,?_,?_,?_,?_,?_,?_,?_,?_,trivial⟩<;>first|rfl|(simp only [bc];done)|(congr 3;omega)|(congr 4;omega)|(simp only [bd];rfl)) (by refine ⟨?_,?_,?_,trivial⟩<;>first|rfl|(simp only [bc];done)|(congr 3;omega)|(congr 4;omega)|(simp only [bd];rfl)) rfl⟩
 have hc12':=of_decide_eq_false hc12
 refine bZ ?_
 refine aN ?_
 refine aN ?_
 refine bC ?_
 refine then_ok ?_
 refine aH aa 2 rfl ?_
 refine aR 6 [5,3,0] (bX 6 (EL b20 y20) Ha rfl rfl ⟨⟨_,rfl,.g ⟨.d _,.d _,.d _,.d _,.d _,.d _,.d _,.d _,.d _,.d _,.d _,.d _,.d _,.d _,.d _,.d _,.d _,.d _,.d _,trivial⟩⟩,⟨_,rfl,.g ⟨.d _,.d _,.d _,.d _,.d _,.d _,.d _,.d _,.d _,.d _,.d _,.d _,.d _,.d _,.d _,.d _,.d _,.d _,.d _,trivial⟩⟩,trivial⟩ trivial trivial rfl rfl rfl rfl) rfl ?_
 refine ad aa 1 rfl ?_
 refine af ?_
 refine az ?_
 refine an aa [] 0 rfl rfl rfl rfl rfl rfl ?_ ?_
 ·rfl
 ·rfl
end Go.Proofs.Ytegepioggeggaaa.Dev
