/- A part of the proof: PlFiles, PlDrain3, PlDrain4, LBankDrains. No condition. -/
import Derived.Test.YtegepioggeggaaaD15
set_option linter.unusedVariables false
set_option linter.unusedSimpArgs false
set_option maxHeartbeats 16000000
set_option maxRecDepth 100000
namespace Go.Proofs.Ytegepioggeggaaa.Dev
open Go.RowKit
def dt (u v:List bl):Prop:=∀ (n:Nat) (a:bl),u[n]?=some a->∃ a',v[n]?=some a'/\a'.az=a.az
theorem dt.refl (u:List bl):dt u u:=fun _ a h=>⟨a,h,rfl⟩
theorem dt.trans {u v w:List bl} (h:dt u v) (h':dt v w):dt u w:=fun n a ha=>by
 obtain ⟨a1,h1,h2⟩:=h n a ha
 obtain ⟨a2,h3,h4⟩:=h' n a1 h1
 exact ⟨a2,h3,h4.trans h2⟩
theorem dt.app (u v:List bl):dt u (u++v):=fun n a h=>⟨a,by rw [List.getElem?_append_left (List.getElem?_eq_some_iff.1 h).1];exact h,rfl⟩
theorem dt.set {u:List bl} {k:Nat} {a b:bl} (ha:u[k]?=some a) (hs:b.az=a.az):dt u (u.set k b):=fun n x hx=>by
 rw [List.getElem?_set]
 by_cases e:k=n
 ·subst e
  rw [ha] at hx;injection hx with hx
  rw [if_pos rfl,if_pos (List.getElem?_eq_some_iff.1 ha).1]
  exact ⟨b,rfl,by rw [hs,hx]⟩
 ·rw [if_neg e];exact ⟨x,hx,rfl⟩
theorem ny {time:Int}:∀ (l:List bl) (i:Nat) (ag:List bD) (aj:List bl) (e:Int),aj.drop i=l->dt aj (eL time l i ag aj e).2.1
 |[],_,_,aj,_,_=>dt.refl aj
 |a::l,i,ag,aj,e,hd=>by
  unfold eL
  have hat:aj[i]?=some a:=by
   have:(aj.drop i)[0]?=some a:=by rw [hd];rfl
   rwa [List.getElem?_drop,Nat.add_zero] at this
  have hilt:=(List.getElem?_eq_some_iff.1 hat).1
  refine (dt.set (b:=ei a time) hat rfl).trans (ny l (i+1) _ _ _ ?_)
  rw [List.drop_set_of_lt (by omega)]
  have:aj.drop (i+1)=(aj.drop i).drop 1:=by rw [List.drop_drop]
  rw [this,hd];rfl
theorem ra (b:Bk):(fj b).aQ=b.aQ/\dt b.aj (fj b).aj:=by
 unfold fj
 split
 ·exact ⟨rfl,ny _ _ _ _ _ rfl⟩
 ·exact ⟨rfl,dt.refl _⟩
theorem pw:∀ (l:List cg) (cs:List bD) (xs:List bl),dt xs (fe l cs xs).2.1
 |[],_,xs=>dt.refl xs
 |x::l,cs,xs=>by
  unfold fe
  split
  ·exact dt.refl _
  split
  ·exact dt.refl _
  split
  ·exact dt.refl _
  ·exact (dt.app _ _).trans (pw l _ _)
theorem As (b c:Bk) (e:Int):(cQ b c e).1=b\/(cQ b c e).1=c:=by
 unfold cQ;split
 ·exact .inr rfl
 ·exact .inl rfl
def Still (b c:Bk):Prop:=c.aQ=b.aQ/\dt b.aj c.aj
theorem Still.refl (b:Bk):Still b b:=⟨rfl,dt.refl _⟩
theorem Still.of {b c:Bk} (h1:c.aQ=b.aQ) (h2:c.aj=b.aj):Still b c:=⟨h1,h2▸dt.refl _⟩
theorem Still.cQ {b c:Bk} {e:Int} (h1:c.aQ=b.aQ) (h2:c.aj=b.aj):Still b (cQ b c e).1:=by
 rcases As b c e with h|h
 ·rw [h];exact Still.refl b
 ·rw [h];exact Still.of h1 h2
theorem zH (b:Bk) (d:aV):Still b (ey b d).1:=by
 unfold ey;(repeat' split)<;>first|exact Still.refl b|exact Still.cQ rfl rfl
theorem Bt (b:Bk) (d:aV):Still b (eH b d).1:=by
 unfold eH;(repeat' split)<;>first|exact Still.refl b|exact Still.cQ rfl rfl
theorem zG (b:Bk) (d:aV):Still b (ea b d).1:=by
 unfold ea
 split
 ·exact Still.refl b
 dsimp only
 split
 ·exact Still.of rfl rfl
 ·exact ra {b with time:=b.time+d.sum}
theorem Dv (b:Bk):Still b (gn b).1:=by
 unfold gn
 split
 ·exact Still.refl b
 split
 ·exact Still.refl b
 split
 ·exact Still.refl b
 ·obtain ⟨h1,h2⟩:=ra {b with ag:=(fe (cC b.bx).2.1 b.ag b.aj).1,aj:=(fe (cC b.bx).2.1 b.ag b.aj).2.1,bx:=(cC b.bx).1,down:=false}
  exact ⟨h1,(pw _ _ _).trans h2⟩
theorem we (b:Bk) (d:aV):Still b (bE b d).1:=by
 unfold bE ew eu;(repeat' split)<;>first|exact Still.refl b|exact Still.of rfl rfl|exact Still.cQ rfl rfl
theorem Bu (b:Bk) (d:aV):Still b (du b d).1:=by
 unfold du;(repeat' split)<;>first|exact Still.refl b|exact Still.of rfl rfl|exact ⟨rfl,dt.app _ _⟩
theorem xG {b:Bk} {d:aV} (h:(cT b d).2.err=0):dt b.aj (cT b d).1.aj/\∃ a,0<=d.n/\b.aj[d.n.toNat]?=some a/\(cT b d).1.aQ=b.aQ++[⟨a.az,d.n,d.move,d.sum⟩]:=by
 unfold cT at h ⊢
 split at h
 ·cases h
 rename_i cd
 rw [if_neg cd]
 split at h
 ·cases h
 rename_i c1
 rw [if_neg c1]
 cases ho:b.aj[d.n.toNat]? with
 |none=>have:=List.getElem?_eq_none_iff.1 ho;omega
 |some cj=>
  rw [ho] at h
  dsimp only at h ⊢
  split at h
  ·rename_i c2;exact absurd h c2
  rename_i c2
  rw [if_neg c2]
  split at h
  ·cases h
  rename_i c3
  rw [if_neg c3]
  have hmv:bX cj d.move d.sum=((bX cj d.move d.sum).1,0):=Prod.ext rfl (by dsimp only;omega)
  generalize (bX cj d.move d.sum).1=a at *
  obtain ⟨_,hwa,hcard,hshop,_⟩:=ik hmv
  unfold kx Dev.cQ at h ⊢
  split at h
  rotate_left
  ·rename_i h0;exact absurd h h0
  rename_i h0
  rw [if_pos h0]
  obtain ⟨e0,hl0,hnote⟩:=kj h0
  exact ⟨dt.set ho hshop,cj,by omega,rfl,by dsimp only;rw [hnote,hshop]⟩
theorem EA (b:Bk) (y:List (List Int)) (d:aV) (hz:(cq b y d).2.2.err=0):dt b.aj (cq b y d).1.aj/\
  ((d.kind=3/\(cq b y d).2.1=y/\∃ a,0<=d.n/\b.aj[d.n.toNat]?=some a/\(cq b y d).1.aQ=b.aQ++[⟨a.az,d.n,d.move,d.sum⟩])\/
   (d.kind=10/\(jh b.aQ).2.err=0/\(cq b y d).2.1=y++[(jh b.aQ).1]/\(cq b y d).1.aQ=[])\/
   (¬d.kind=3/\¬d.kind=10/\(cq b y d).2.1=y/\(cq b y d).1.aQ=b.aQ)):=by
 by_cases k1:d.kind=1
 ·have e:cq b y d=((ey b d).1,y,(ey b d).2):=by unfold cq;rw [if_pos k1]
  rw [e];have h:=zH b d;exact ⟨h.2,.inr (.inr ⟨by omega,by omega,rfl,h.1⟩)⟩
 by_cases k2:d.kind=2
 ·have e:cq b y d=((du b d).1,y,(du b d).2):=by unfold cq;rw [if_neg k1,if_pos k2]
  rw [e];have h:=Bu b d;exact ⟨h.2,.inr (.inr ⟨by omega,by omega,rfl,h.1⟩)⟩
 by_cases k3:d.kind=3
 ·have e:cq b y d=((cT b d).1,y,(cT b d).2):=by unfold cq;rw [if_neg k1,if_neg k2,if_pos k3]
  rw [e] at hz ⊢;obtain ⟨h1,h2⟩:=xG (b:=b) (d:=d) hz;exact ⟨h1,.inl ⟨k3,rfl,h2⟩⟩
 by_cases k4:d.kind=4
 ·have e:cq b y d=((ea b d).1,y,(ea b d).2):=by unfold cq;rw [if_neg k1,if_neg k2,if_neg k3,if_pos k4]
  rw [e];have h:=zG b d;exact ⟨h.2,.inr (.inr ⟨by omega,by omega,rfl,h.1⟩)⟩
 by_cases k5:d.kind=5
 ·have e:cq b y d=({b with w0:=(dQ b.s0 b.s1 b.n0 b.n1 b.w0 b.w1 d).1,w1:=(dQ b.s0 b.s1 b.n0 b.n1 b.w0 b.w1 d).2.1},y,(dQ b.s0 b.s1 b.n0 b.n1 b.w0 b.w1 d).2.2):=by unfold cq;rw [if_neg k1,if_neg k2,if_neg k3,if_neg k4,if_pos k5]
  rw [e];exact ⟨dt.refl _,.inr (.inr ⟨by omega,by omega,rfl,rfl⟩)⟩
 by_cases k6:d.kind=6\/d.kind=7
 ·have e:cq b y d=((bE b d).1,y,(bE b d).2):=by unfold cq;rw [if_neg k1,if_neg k2,if_neg k3,if_neg k4,if_neg k5,if_pos k6]
  rw [e];have h:=we b d;exact ⟨h.2,.inr (.inr ⟨by omega,by omega,rfl,h.1⟩)⟩
 by_cases k8:d.kind=8
 ·have e:cq b y d=if b.down=true then (b,y,⟨8,0⟩) else ({b with down:=true},y,⟨0,0⟩):=by unfold cq;rw [if_neg k1,if_neg k2,if_neg k3,if_neg k4,if_neg k5,if_neg k6,if_pos k8]
  rw [e];split<;>exact ⟨dt.refl _,.inr (.inr ⟨by omega,by omega,rfl,rfl⟩)⟩
 by_cases k9:d.kind=9
 ·have e:cq b y d=((gn b).1,y,(gn b).2):=by unfold cq;rw [if_neg k1,if_neg k2,if_neg k3,if_neg k4,if_neg k5,if_neg k6,if_neg k8,if_pos k9]
  rw [e];have h:=Dv b;exact ⟨h.2,.inr (.inr ⟨by omega,by omega,rfl,h.1⟩)⟩
 by_cases k10:d.kind=10
 ·have e:cq b y d=({b with aQ:=(fS b.aQ y).1},(fS b.aQ y).2.1,(fS b.aQ y).2.2):=by unfold cq;rw [if_neg k1,if_neg k2,if_neg k3,if_neg k4,if_neg k5,if_neg k6,if_neg k8,if_neg k9,if_pos k10]
  rw [e] at hz ⊢
  refine ⟨dt.refl _,.inr (.inl ⟨k10,?_⟩)⟩
  dsimp only at hz ⊢
  unfold fS at hz ⊢
  split at hz
  ·rename_i h0;exact absurd hz h0
  ·rename_i h0;rw [if_neg h0];exact ⟨by omega,rfl,rfl⟩
 by_cases kC:d.kind=11
 ·have e:cq b y d=((eH b d).1,y,(eH b d).2):=by unfold cq;rw [if_neg k1,if_neg k2,if_neg k3,if_neg k4,if_neg k5,if_neg k6,if_neg k8,if_neg k9,if_neg k10,if_pos kC]
  rw [e];have h:=Bt b d;exact ⟨h.2,.inr (.inr ⟨by omega,by omega,rfl,h.1⟩)⟩
 ·have e:cq b y d=(b,y,⟨1,0⟩):=by unfold cq;rw [if_neg k1,if_neg k2,if_neg k3,if_neg k4,if_neg k5,if_neg k6,if_neg k8,if_neg k9,if_neg k10,if_neg kC]
  rw [e] at hz;cases hz
theorem Gg (b:Bk) (y:List (List Int)) (d:aV):dt b.aj (cq b y d).1.aj/\∃ z,(cq b y d).2.1=y++z:=by
 by_cases hz:(cq b y d).2.2.err=0
 ·obtain ⟨h1,h2⟩:=EA b y d hz
  refine ⟨h1,?_⟩
  rcases h2 with ⟨_,h,_⟩|⟨_,_,h,_⟩|⟨_,_,h,_⟩
  ·exact ⟨[],by rw [h,List.append_nil]⟩
  ·exact ⟨_,h⟩
  ·exact ⟨[],by rw [h,List.append_nil]⟩
 ·obtain ⟨h1,h2⟩:=HH hz
  rw [h1,h2];exact ⟨dt.refl _,[],by rw [List.append_nil]⟩
theorem BL (b:Bk) (y:List (List Int)) (told:List (Int×Answer)) (cl:Nat) (d:aV):dt b.aj (da b y told cl d).1.aj/\∃ z,(da b y told cl d).2.1=y++z:=by
 unfold da
 split
 ·exact ⟨dt.refl _,[],by rw [List.append_nil]⟩
 ·exact Gg b y d
theorem sX:∀ (l:List aV) (b:Bk) (y:List (List Int)) (told:List (Int×Answer)) (cl:Nat) (out:List Answer),dt b.aj (dc l b y told cl out).1.aj/\(∃ z,(dc l b y told cl out).2.1=y++z)/\∃ z,(dc l b y told cl out).2.2.2.2=out++z
 |[],_,y,_,_,out=>⟨dt.refl _,⟨[],(List.append_nil y).symm⟩,[],(List.append_nil out).symm⟩
 |d::l,b,y,told,cl,out=>by
  unfold dc
  obtain ⟨h1,z1,h2⟩:=BL b y told cl d
  obtain ⟨h3,⟨z2,h4⟩,z3,h5⟩:=sX l (da b y told cl d).1 (da b y told cl d).2.1 (da b y told cl d).2.2.1 (da b y told cl d).2.2.2.1 (out++[(da b y told cl d).2.2.2.2])
  exact ⟨h1.trans h3,⟨z1++z2,by rw [h4,h2,List.append_assoc]⟩,[(da b y told cl d).2.2.2.2]++z3,by rw [h5,List.append_assoc]⟩
structure FJ (s:Setup) (l:List aV) (i:Nat) (t:List au) (k:Int) (hl:List Int):Prop where
 aQ:t=(dc (l.take i) (dk s) [] [] 0 []).1.aQ
 kn:k=((dc (l.take i) (dk s) [] [] 0 []).2.1.length:Int)
 Jj:∀ z,z≠0->(z∈hl↔(fB (dc (l.take i) (dk s) [] [] 0 []).2.2.1 z).isSome=true)
 len:t.length<=i/\k<=i
theorem DV {hl:List Int} {a z:Int}:z∈lM hl a↔z∈hl\/z=a:=by
 unfold lM
 split
 ·rename_i h;exact ⟨.inl,fun h'=>h'.elim id fun e=>by rw [e];exact h⟩
 ·simp
theorem FJ.start (s:Setup) (l:List aV):FJ s l 0 [] 0 []:=⟨rfl,rfl,fun z _=>⟨fun h=>(by cases h),fun h=>(by cases h)⟩,by simp⟩
def kT (k:Nat) (u:List bl) (t:aS):Int:=
 match u[t.ba.toNat]? with
 |none=>0
 |some a=>if a.az=k then (if t.kind=1 then t.sum else if t.kind=3 then 0 - t.sum else 0) else 0
def ft (k:Nat) (n:Int) (u:List bl):List aS->Int
 |[]=>0
 |t::l=>(if t.number<=n then 0 else kT k u t)+ft k n u l
def lI (k:Nat) (a:bl):Int:=if a.az=k then a.captured - a.bC else 0
def gd (k:Nat):List bl->Int
 |[]=>0
 |a::l=>lI k a+gd k l
theorem rT (k:Nat) (u v:List bl):gd k (u++v)=gd k u+gd k v:=by
 induction u with
 |nil=>simp [gd]
 |cons t u ih=>simp only [List.cons_append,gd,ih];omega
theorem rS (k:Nat) (b:bl):∀ {l:List bl} {i:Nat} {a:bl},l[i]?=some a->gd k (l.set i b)=gd k l - lI k a+lI k b
 |x::l,0,a,h=>by
  have:x=a:=by simpa using h
  subst this
  simp only [List.set_cons_zero,gd];omega
 |x::l,i+1,a,h=>by
  have:=rS k b (l:=l) (i:=i) (a:=a) (by simpa using h)
  simp only [List.set_cons_succ,gd,this];omega
theorem FM (k:Nat) (n:Int) (w:List bl) (u v:List aS):ft k n w (u++v)=ft k n w u+ft k n w v:=by
 induction u with
 |nil=>simp [ft]
 |cons t u ih=>simp only [List.cons_append,ft,ih];omega
theorem rR {k:Nat} {n m:Int} {w:List bl} (h:m<=n):∀ l:List aS,ft k n w (dj (came m) l)=ft k n w l
 |[]=>rfl
 |t::l=>by
  have ih:=rR (k:=k) (w:=w) h l
  unfold dj at ih ⊢
  rw [List.filter_cons]
  split
  ·simp only [ft,ih]
  ·rename_i c
   have hc:t.number<=m:=by simpa [came] using c
   simp only [ft,ih];rw [if_pos (by omega)];omega
theorem BH {k:Nat} {n:Int} {w:List bl}:∀ {l:List aS},(∀ t∈l,n+1 < t.number)->ft k (n+1) w l=ft k n w l
 |[],_=>rfl
 |t::l,h=>by
  have h1:=BH (k:=k) (w:=w) (l:=l) fun x hx=>h x (List.mem_cons_of_mem _ hx)
  have:=h t List.mem_cons_self
  simp only [ft,h1]
  rw [if_neg (by omega),if_neg (by omega)]
theorem rQ {k:Nat} {n:Int} {w:List bl} {t:aS}:∀ {l:List aS},ur l->t∈l->t.number=n+1->ft k (n+1) w l=ft k n w l - kT k w t
 |[],_,h,_=>by cases h
 |x::l,hi,h,ht=>by
  unfold ur at hi
  rw [List.pairwise_cons] at hi
  rcases List.mem_cons.1 h with rfl|h
  ·have h1:=BH (k:=k) (w:=w) (n:=n) (l:=l) fun y hy=>by have:=hi.1 y hy;omega
   simp only [ft,h1]
   rw [if_pos (by omega),if_neg (by omega)];omega
  ·have:=hi.1 t h
   have h1:=rQ (k:=k) (w:=w) hi.2 h ht
   simp only [ft,h1]
   rw [if_pos (by omega),if_pos (by omega)];omega
theorem lq {k:Nat} {n:Int} {u v:List bl} (S:dt u v):∀ {l:List aS},(∀ t∈l,0<=t.ba/\t.ba < u.length)->ft k n v l=ft k n u l
 |[],_=>rfl
 |t::l,h=>by
  have h1:=lq (k:=k) (n:=n) S (l:=l) fun x hx=>h x (List.mem_cons_of_mem _ hx)
  have ht:=h t List.mem_cons_self
  obtain ⟨a,ha⟩:∃ a,u[t.ba.toNat]?=some a:=⟨_,List.getElem?_eq_getElem (by omega)⟩
  obtain ⟨a',ha',hs⟩:=S _ a ha
  have:kT k v t=kT k u t:=by unfold kT;rw [ha,ha'];dsimp only;rw [hs]
  simp only [ft,h1,this]
def fV (k:Nat) (b:Bk):Int:=b.due.getD k 0+ft k b.n1 b.aj b.s0.kept+ft k b.n0 b.aj b.s1.kept - gd k b.aj
theorem sn {k:Nat} {b c:Bk} (H:ct b) (hd:c.due=b.due) (h0:c.s0=b.s0) (h1:c.s1=b.s1) (g0:c.n0=b.n0) (g1:c.n1=b.n1) (S:dt b.aj c.aj) (ho:gd k c.aj=gd k b.aj):fV k c=fV k b:=by
 unfold fV
 rw [hd,h0,h1,g0,g1,ho,lq S fun t ht=>(H.k0 t ht).2,lq S fun t ht=>(H.k1 t ht).2]
theorem oS {k:Nat} {b c:Bk} {e:Int} (h:e=0->fV k c=fV k b):fV k (cQ b c e).1=fV k b:=by
 unfold Dev.cQ
 split
 ·exact h (by assumption)
 ·rfl
theorem ER {k:Nat} {b:Bk} (d:aV):fV k (ey b d).1=fV k b:=by
 unfold ey
 split
 ·rfl
 split
 ·rfl
 ·exact oS fun _=>rfl
theorem Ci (k:Nat) (a:bl) (t:Int):lI k (ei a t)=lI k a:=by
 unfold ei;(repeat' split)<;>rfl
theorem uU {k:Nat} {time:Int}:∀ (l:List bl) (i:Nat) (ag:List bD) (aj:List bl) (e:Int),aj.drop i=l->gd k (eL time l i ag aj e).2.1=gd k aj
 |[],_,_,_,_,_=>rfl
 |a::l,i,ag,aj,e,hd=>by
  unfold eL
  have hat:aj[i]?=some a:=by
   have:(aj.drop i)[0]?=some a:=by rw [hd];rfl
   rwa [List.getElem?_drop,Nat.add_zero] at this
  rw [uU l (i+1) _ _ _ (by
   rw [List.drop_set_of_lt (by omega)]
   have:aj.drop (i+1)=(aj.drop i).drop 1:=by rw [List.drop_drop]
   rw [this,hd];rfl),rS k _ hat,Ci]
  omega
theorem xH {k:Nat} {b:Bk} (H:ct b):fV k (fj b)=fV k b:=by
 unfold fj
 split
 ·exact sn H rfl rfl rfl rfl rfl (ny _ _ _ _ _ rfl) (uU _ _ _ _ _ rfl)
 ·rfl
theorem EP {k:Nat} {b:Bk} (H:ct b) (d:aV):fV k (ea b d).1=fV k b:=by
 unfold ea
 split
 ·rfl
 ·dsimp only
  split
  ·rfl
  ·exact xH (b:={b with time:=b.time+d.sum}) (H.tick (by have:=H.time;omega) (by have:=H.time;omega))
theorem Gp {k:Nat} {b:Bk} (H:ct b) (d:aV):fV k (du b d).1=fV k b:=by
 unfold du
 split
 ·rfl
 split
 ·(repeat' split)<;>rfl
 split
 ·rfl
 split
 ·rfl
 split
 ·rfl
 split
 ·rfl
 ·rename_i c2 _ _ _ _
  obtain ⟨_,w2,_⟩:=km (show (dp d.n d.az d.sum b.time).2=0 by omega)
  refine sn H rfl rfl rfl rfl rfl (dt.app _ _) ?_
  dsimp only
  rw [rT,w2]
  simp [gd,lI]
theorem yv {k:Nat}:∀ (l:List cg) (cs:List bD) (xs:List bl),gd k (fe l cs xs).2.1=gd k xs
 |[],cs,xs=>rfl
 |x::l,cs,xs=>by
  unfold fe
  split
  ·rfl
  rename_i h1
  split
  ·rfl
  split
  ·rfl
  ·obtain ⟨_,w2,_⟩:=km (show (dp x.aO x.az x.sum x.time).2=0 by omega)
   rw [yv l,rT,w2]
   simp [gd,lI]
theorem HU {k:Nat} {b:Bk} (H:ct b):fV k (gn b).1=fV k b:=by
 unfold gn
 split
 ·rfl
 split
 ·rfl
 split
 ·rfl
 rename_i c1 c2 c3
 have h0:(cC b.bx).2.2=0:=by omega
 rw [xH (H.vV h0)]
 exact sn H rfl rfl rfl rfl rfl (pw _ _ _) (yv _ _ _)
theorem kR {l:List Int} {i k:Nat} {v:Int} (h:k < l.length):(l.set i v).getD k 0=if i=k then v else l.getD k 0:=by
 rw [List.getD_eq_getElem?_getD,List.getD_eq_getElem?_getD,List.getElem?_set]
 by_cases c:i=k
 ·subst c;rw [if_pos rfl,if_pos rfl,if_pos h];rfl
 ·rw [if_neg c,if_neg c]
theorem Gn {k:Nat} {b:Bk} (d:aV) (hk:k < b.due.length):fV k (eH b d).1=fV k b - (if (eH b d).2.err=0/\d.n=k then b.due.getD k 0 else 0):=by
 unfold eH
 split
 ·rw [if_neg (by simp)];exact (Int.sub_zero _).symm
 split
 ·rw [if_neg (by simp)];exact (Int.sub_zero _).symm
 unfold Dev.cQ
 split
 ·rename_i c1 _ _
  simp only [fV]
  rw [kR hk]
  by_cases c:d.n=k
  ·rw [if_pos (by omega),if_pos ⟨trivial,c⟩];omega
  ·rw [if_neg (by omega),if_neg (fun h=>c h.2)];omega
 ·rename_i h0
  rw [if_neg (fun h=>h0 h.1)];exact (Int.sub_zero _).symm
theorem uC {k:Nat} {b:Bk} (H:dJ b) {t:aS} (hk:1<=t.kind/\t.kind<=3) (hs:1<=t.sum/\t.sum<=1000000) (ha:0<=t.ba/\t.ba < b.aj.length) (hl:k < b.due.length):(dv b.aj b.due b.ag b.book 0 t).1.getD k 0=b.due.getD k 0+kT k b.aj t:=by
 obtain ⟨a,hg⟩:∃ a,b.aj[t.ba.toNat]?=some a:=⟨_,List.getElem?_eq_getElem (by omega)⟩
 have hp:=H.h.ok.perm a (List.mem_of_getElem? hg)
 have hv:=mj (l:=b.due) (k:=a.az) (by omega) (by omega)
 have hb:=H.bound (50+a.az)
 have hbv:=H.due a.az.toNat _ hv
 rw [show (50+(a.az.toNat:Int))=50+a.az by omega] at hbv
 unfold dv kT
 rw [hg]
 dsimp only
 have w1:IntKind.i64.wrap (b.due.getD a.az.toNat 0+t.sum)=b.due.getD a.az.toNat 0+t.sum:=IntWalk.i64_in _ (by omega)
 have hsn:a.az.toNat=k↔a.az=k:=by omega
 have w3:IntKind.i64.wrap (b.due.getD a.az.toNat 0 - t.sum)=b.due.getD a.az.toNat 0 - t.sum:=IntWalk.i64_in _ (by omega)
 by_cases k1:t.kind=1
 ·rw [if_pos k1,if_pos k1]
  dsimp only
  rw [kR hl,w1]
  by_cases c:a.az=k
  ·rw [if_pos c,if_pos (hsn.2 c),hsn.2 c]
  ·rw [if_neg c,if_neg (fun h=>c (hsn.1 h))];omega
 rw [if_neg k1,if_neg k1]
 by_cases k2:t.kind=2
 ·rw [if_pos k2];simp [k2]
 rw [if_neg k2]
 have k3:t.kind=3:=by omega
 rw [if_pos k3,if_pos k3]
 dsimp only
 rw [kR hl,w3]
 by_cases c:a.az=k
 ·rw [if_pos c,if_pos (hsn.2 c),hsn.2 c];omega
 ·rw [if_neg c,if_neg (fun h=>c (hsn.1 h))];omega
theorem AP {k:Nat} {b:Bk} (L:dJ b) (d:aV) (hl:k < b.due.length):fV k (bE b d).1=fV k b:=by
 unfold bE
 split
 ·unfold ew
  split
  ·rfl
  rename_i p hp
  split
  ·rfl
  split
  ·split
   ·rename_i c2 c3
    obtain ⟨_,_,_,b4,_⟩:=ml c3
    have hle:=L.y0.ak p (List.mem_of_getElem? hp) (by omega)
    unfold fV
    dsimp only
    rw [b4,rR hle]
   ·rfl
  rename_i c2
  rcases iP b.n0 p.bY with ⟨t1,t2,t3⟩|⟨t1,t3⟩
  ·rw [if_pos t1]
   refine oS fun h0=>?_
   have bI:=L.zD hp c2 t2
   have hk:=iR L.h.s1 bI
   unfold fV
   dsimp only
   rw [t3,uC L ⟨hk.1,hk.2.1⟩ hk.2.2.2.2 (L.h.ok.k1 _ bI).2 hl,rQ (qA L.h.s1) bI t2]
   omega
  ·rw [if_neg (by rw [t1];decide),t3];rfl
 split
 ·unfold eu
  split
  ·rfl
  rename_i p hp
  split
  ·rfl
  split
  ·split
   ·rename_i c2 c3
    obtain ⟨_,_,_,b4,_⟩:=ml c3
    have hle:=L.y1.ak p (List.mem_of_getElem? hp) (by omega)
    unfold fV
    dsimp only
    rw [b4,rR hle]
   ·rfl
  rename_i c2
  rcases iP b.n1 p.bY with ⟨t1,t2,t3⟩|⟨t1,t3⟩
  ·rw [if_pos t1]
   refine oS fun h0=>?_
   have bI:=L.zC hp c2 t2
   have hk:=iR L.h.s0 bI
   unfold fV
   dsimp only
   rw [t3,uC L ⟨hk.1,hk.2.1⟩ hk.2.2.2.2 (L.h.ok.k0 _ bI).2 hl,rQ (qA L.h.s0) bI t2]
   omega
  ·rw [if_neg (by rw [t1];decide),t3];rfl
 ·rfl
theorem BX {k:Nat} {a b:bl} {j n:Int} (h:jt a j n b):lI k b=lI k a+(if a.az=k then (if j=2\/j=3 then n else if j=5\/j=7 then 0 - n else 0) else 0):=by
 have aux:∀ x y z:Int,x - y+z=x - y+z:=fun _ _ _=>rfl
 unfold lI
 cases h with
 |more h _ _=>dsimp only;split<;>(repeat' split)<;>omega
 |take h _ _=>dsimp only;split<;>(repeat' split)<;>omega
 |less h _ _=>dsimp only;split<;>(repeat' split)<;>omega
 |pH h _=>dsimp only;split<;>(repeat' split)<;>omega
 |nP h _=>dsimp only;split<;>(repeat' split)<;>omega
 |nO h _=>dsimp only;split<;>(repeat' split)<;>omega
 |nN h _=>dsimp only;split<;>(repeat' split)<;>omega
theorem tX {k:Nat} {n:Int} {u:List bl} {s:bO} {t:aS} (h:n<=s.bG):ft k n u (gO s t).kept=ft k n u s.kept+kT k u ⟨s.bG+1,t.kind,t.ba,t.sum⟩:=by
 simp only [gO,FM,ft]
 rw [if_neg (by omega)];omega
theorem AO {k:Nat} {b:Bk} (H:dJ b) (d:aV) (hl:k < b.due.length):fV k (cT b d).1=fV k b:=by
 unfold cT
 split
 ·rfl
 split
 ·rfl
 rename_i c1
 split
 ·rfl
 rename_i cj ho
 split
 ·rfl
 rename_i c2
 split
 ·rfl
 have hmv:bX cj d.move d.sum=((bX cj d.move d.sum).1,0):=Prod.ext rfl (by dsimp only;omega)
 generalize (bX cj d.move d.sum).1=a at *
 obtain ⟨_,hwa,hcard,hshop,hk1,hk2,hn1,hn2⟩:=ik hmv
 rcases my hmv with ⟨h4,_⟩|⟨_,hw,_,_,hm⟩
 ·exact absurd rfl h4
 have hp:=H.h.ok.perm cj (List.mem_of_getElem? ho)
 have hv:=mj (l:=b.due) (k:=a.az) (by omega) (by omega)
 have hb:=H.bound (50+a.az)
 have hbv:=H.due a.az.toNat _ hv
 rw [show (50+(a.az.toNat:Int))=50+a.az by omega] at hbv
 have hy0:=H.y0.hi;have hy1:=H.y1.hi
 unfold kx
 refine oS fun h0=>?_
 obtain ⟨e0,hl0,hnote⟩:=kj h0
 have hS:dt b.aj (b.aj.set d.n.toNat a):=dt.set ho hshop
 have p0:∀ n,ft k n (b.aj.set d.n.toNat a) b.s0.kept=ft k n b.aj b.s0.kept:=fun n=>lq hS fun t ht=>(H.h.ok.k0 t ht).2
 have p1:∀ n,ft k n (b.aj.set d.n.toNat a) b.s1.kept=ft k n b.aj b.s1.kept:=fun n=>lq hS fun t ht=>(H.h.ok.k1 t ht).2
 have hat:(b.aj.set d.n.toNat a)[d.n.toNat]?=some a:=by
  rw [List.getElem?_set_self (List.getElem?_eq_some_iff.1 ho).1]
 have hdT:∀ (x q s:Int),kT k (b.aj.set d.n.toNat a) ⟨x,q,d.n,s⟩=if a.az=k then (if q=1 then s else if q=3 then 0 - s else 0) else 0:=fun x q s=>by unfold kT;dsimp only;rw [hat]
 have ho2:=rS k a ho
 rw [BX hm,<-hshop] at ho2
 unfold fV
 dsimp only
 rw [ho2]
 unfold dn at e0 ⊢
 split at e0
 ·rename_i hk;rw [if_pos hk];dsimp only;rw [p0,p1]
  split<;>(repeat' split)<;>omega
 rename_i k1
 rw [if_neg k1]
 split at e0
 ·rename_i hk;rw [if_pos hk]
  obtain ⟨e1,e2,e3⟩:=gq e0
  obtain ⟨_,_,q3⟩:=kg e2
  dsimp only
  rw [e3,q3,tX hy0,p0,p1,hdT];dsimp only
  split<;>(repeat' split)<;>omega
 rename_i k2
 rw [if_neg k2]
 split at e0
 ·rename_i hk;rw [if_pos hk]
  obtain ⟨e1,e2,e3⟩:=gq e0
  obtain ⟨_,_,q3⟩:=kg e2
  have w5:IntKind.i64.wrap (b.due.getD a.az.toNat 0 - d.sum)=b.due.getD a.az.toNat 0 - d.sum:=IntWalk.i64_in _ (by omega)
  dsimp only
  rw [e3,q3,tX hy1,p0,p1,hdT,kR hl,w5]
  by_cases c:a.az=k
  ·rw [if_pos (show a.az.toNat=k by omega),show a.az.toNat=k by omega];simp only [if_pos c];(repeat' split)<;>omega
  ·rw [if_neg (show ¬a.az.toNat=k by omega)];simp only [if_neg c];omega
 rename_i k3
 rw [if_neg k3]
 split at e0
 ·rename_i hk;rw [if_pos hk];dsimp only;rw [p0,p1]
  split<;>(repeat' split)<;>omega
 rename_i k4
 rw [if_neg k4]
 split at e0
 ·rename_i hk;rw [if_pos hk]
  obtain ⟨e1,e2,e3⟩:=gq e0
  obtain ⟨_,_,q3⟩:=kg e2
  dsimp only
  rw [e3,q3,tX hy0,p0,p1,hdT];dsimp only
  split<;>(repeat' split)<;>omega
 rename_i k5
 rw [if_neg k5]
 split at e0
 ·rename_i hk;rw [if_pos hk];dsimp only;rw [p0,p1]
  split<;>(repeat' split)<;>omega
 rename_i k6
 omega
theorem CY {k:Nat} {b:Bk} (H:dJ b) (y:List (List Int)) (d:aV) (hl:k < b.due.length):fV k (cq b y d).1=fV k b - (if d.kind=11/\(cq b y d).2.2.err=0/\d.n=k then b.due.getD k 0 else 0):=by
 by_cases kC:d.kind=11
 ·have e:cq b y d=((eH b d).1,y,(eH b d).2):=by
   unfold cq;rw [if_neg (by omega),if_neg (by omega),if_neg (by omega),if_neg (by omega),if_neg (by omega),if_neg (by omega),if_neg (by omega),if_neg (by omega),if_neg (by omega),if_pos kC]
  rw [e];dsimp only
  rw [Gn d hl]
  congr 1
  simp [kC]
 rw [if_neg (fun h=>kC h.1),Int.sub_zero]
 unfold cq
 split
 ·exact ER d
 split
 ·exact Gp H.h.ok d
 split
 ·exact AO H d hl
 split
 ·exact EP H.h.ok d
 split
 ·rfl
 split
 ·exact AP H d hl
 split
 ·split<;>rfl
 split
 ·exact HU H.h.ok
 split
 ·rfl
 ·first|rfl|(split<;>first|omega|rfl)
theorem xk (b:Bk):(fj b).due.length=b.due.length:=by unfold fj;split<;>rfl
theorem mC {b c:Bk} {e:Int} (h:c.due.length=b.due.length):(cQ b c e).1.due.length=b.due.length:=by unfold Dev.cQ;split<;>first|exact h|rfl
theorem Ay (b:Bk) (d:aV):(cT b d).1.due.length=b.due.length:=by
 unfold cT
 split
 ·rfl
 split
 ·rfl
 split
 ·rfl
 split
 ·rfl
 split
 ·rfl
 unfold kx
 refine mC ?_
 dsimp only
 unfold dn
 (repeat' split)<;>first|rfl|exact List.length_set ..
theorem AA (b:Bk) (d:aV) (hr:∀ c∈b.ag,cH c=0):(bE b d).1.due.length=b.due.length:=by
 unfold bE ew eu
 split
 ·split
  ·rfl
  split
  ·rfl
  split
  ·split<;>rfl
  split
  ·exact mC (od hr).1
  ·rfl
 split
 ·split
  ·rfl
  split
  ·rfl
  split
  ·split<;>rfl
  split
  ·exact mC (od hr).1
  ·rfl
 ·rfl
theorem HF {b:Bk} (H:dJ b) (y:List (List Int)) (d:aV):(cq b y d).1.due.length=b.due.length:=by
 unfold cq
 split
 ·unfold ey;split;rfl;split;rfl;exact mC rfl
 split
 ·unfold du;(repeat' split)<;>rfl
 split
 ·exact Ay b d
 split
 ·unfold ea;split;rfl;dsimp only;split;rfl;exact xk _
 split
 ·rfl
 split
 ·exact AA b d H.h.ok.right
 split
 ·split<;>rfl
 split
 ·unfold gn;split;rfl;split;rfl;split;rfl;exact xk _
 split
 ·rfl
 split
 ·unfold eH;split;rfl;split;rfl;exact mC (List.length_set ..)
 ·rfl
theorem zV (b:Bk) (y:List (List Int)) (told:List (Int×Answer)) (cl:Nat) (d:aV):(da b y told cl d).1=b\/(da b y told cl d).1=(cq b y d).1:=by
 unfold da;split
 ·exact .inl rfl
 ·exact .inr rfl
theorem qH:∀ (l:List aV) {b:Bk} {y:List (List Int)} {told:List (Int×Answer)} {cl:Nat} {out:List Answer} {m:Int},dJ b->0<=m->m+1000000 * l.length<=1000000000->gk b.ag b.due m->
  dJ (dc l b y told cl out).1/\(dc l b y told cl out).1.due.length=b.due.length/\gk (dc l b y told cl out).1.ag (dc l b y told cl out).1.due (m+1000000 * l.length)
 |[],_,_,_,_,_,_,H,_,_,M=>⟨H,rfl,M.mono (by simp)⟩
 |d::l,b,y,told,cl,out,m,H,hm,hb,M=>by
  rw [List.length_cons] at hb ⊢
  have key:dJ (da b y told cl d).1/\(da b y told cl d).1.due.length=b.due.length/\gk (da b y told cl d).1.ag (da b y told cl d).1.due (m+1000000):=by
   rcases zV b y told cl d with h|h<;>rw [h]
   ·exact ⟨H,rfl,M.mono (by omega)⟩
   ·exact ⟨H.ky y d,HF H y d,pO H hm (by omega) M y d⟩
  unfold dc
  obtain ⟨h1,h2,h3⟩:=qH l (y:=(da b y told cl d).2.1) (told:=(da b y told cl d).2.2.1) (cl:=(da b y told cl d).2.2.2.1) (out:=out++[(da b y told cl d).2.2.2.2]) key.1 (m:=m+1000000) (by omega) (by omega) key.2.2
  exact ⟨h1,h2.trans key.2.1,h3.mono (by omega)⟩
theorem lu (s:Setup):gk (dk s).ag (dk s).due 0:=by
 refine ⟨fun c hc=>?_,fun n hn=>?_⟩
 ·obtain ⟨p,_,rfl⟩:=List.mem_map.1 hc
  simp [nd]
 ·obtain rfl:=List.eq_of_mem_replicate hn;omega
theorem sW {s:Setup} {l:List aV} {b:Bk} {y:List (List Int)} {o:List Answer} {f:cV} (hr:fi s l=(b,y,o,f)) (hf:f.err=0):
  (dZ s).err=0/\l.length<=150/\b=(dc l (dk s) [] [] 0 []).1/\o=(dc l (dk s) [] [] 0 []).2.2.2.2:=by
 unfold fi at hr
 by_cases hw:(dZ s).err≠0
 ·rw [if_pos hw] at hr;simp only [Prod.mk.injEq] at hr;rw [<-hr.2.2.2] at hf;exact absurd hf hw
 rw [if_neg hw] at hr
 by_cases hl:l.length > 150
 ·rw [if_pos hl] at hr;simp only [Prod.mk.injEq] at hr;rw [<-hr.2.2.2] at hf;cases hf
 rw [if_neg hl,qx] at hr
 simp only [Prod.mk.injEq] at hr
 exact ⟨by omega,by omega,hr.1.symm,hr.2.2.1.symm⟩
theorem yM {s:Setup} {l:List aV} (hw:(dZ s).err=0) (hl:l.length<=150):fi s l=((dc l (dk s) [] [] 0 []).1,(dc l (dk s) [] [] 0 []).2.1,(dc l (dk s) [] [] 0 []).2.2.2.2,⟨0,0⟩):=by
 unfold fi
 rw [if_neg (by omega),if_neg (by omega),qx]
theorem CE:∀ d∈oK,d.id=0:=by decide
theorem CF {s:Setup} {l:List aV} {b x:Bk} {y z:List (List Int)} {o p:List Answer} {f g:cV} (hr:fi s (l++oK)=(b,y,o,f)) (hf:f.err=0) (hl:l.length<=40) (hx:fi s l=(x,z,p,g)) (h0:x.s0.kept.length<=12) (h1:x.s1.kept.length<=12) (h2:x.w0.length<=12) (h3:x.w1.length<=12):
  b.s0.kept=[]/\b.s1.kept=[]/\cZ b.book 1=0:=by
 obtain ⟨hw,_,hb,_⟩:=sW hr hf
 rw [yM hw (by omega)] at hx
 simp only [Prod.mk.injEq] at hx
 obtain ⟨e1,e2,_⟩:=qH l (y:=[]) (told:=[]) (cl:=0) (out:=[]) (dJ.start hw) (m:=0) (by omega) (by omega) (lu s)
 obtain ⟨_,_,M⟩:=qH l (y:=[]) (told:=[]) (cl:=0) (out:=[]) (dJ.start hw) (m:=0) (by omega) (by omega) (lu s)
 rw [hx.1] at e1 M
 rw [mR,yL CE,hx.1] at hb
 have hd:=Gf e1 M (by omega) (by omega) h2 h3 h0 h1
 have L:=zb hr hf
 rw [<-hb] at hd
 refine ⟨hd.1,hd.2,?_⟩
 rw [L.jz,hd.1,hd.2];rfl
theorem sZ {k:Nat}:∀ {l:List bl},(∀ a∈l,bL a=0)->0<=gd k l/\gd k l<=1000000 * l.length
 |[],_=>by simp [gd]
 |a::l,h=>by
  have:=sZ (k:=k) (l:=l) fun x hx=>h x (List.mem_cons_of_mem _ hx)
  have:=eE (h a List.mem_cons_self)
  simp only [gd,lI,List.length_cons];split<;>omega
theorem wC {k:Nat} {n:Int} {u:List bl}:∀ {l:List aS},(∀ t∈l,1<=t.sum/\t.sum<=1000000)->0 - 1000000 * l.length<=ft k n u l/\ft k n u l<=1000000 * l.length
 |[],_=>by simp [ft]
 |t::l,h=>by
  have h1:=wC (k:=k) (n:=n) (u:=u) (l:=l) fun x hx=>h x (List.mem_cons_of_mem _ hx)
  have ht:=h t List.mem_cons_self
  have hd:0 - 1000000<=kT k u t/\kT k u t<=1000000:=by
   unfold kT;(repeat' split)<;>omega
  simp only [ft,List.length_cons];split<;>omega
theorem Az {b:Bk} (H:dJ b):∀ n∈b.due,-1000000000000<=n/\n<=1000000000000:=fun n hn=>by
 obtain ⟨k,hk⟩:=List.getElem?_of_mem hn
 have h1:=H.due k n hk
 have h2:=H.bound (50+k)
 omega
theorem Jc {b:Bk} (H:dJ b) (k:Nat):-1100000000000<=fV k b/\fV k b<=1100000000000:=by
 have h1:=rZ (k:=k) (m:=1000000000000) (by omega) fun n hn=>by have:=Az H n hn;omega
 have h2:=wC (k:=k) (n:=b.n1) (u:=b.aj) fun t ht=>(iR H.h.s0 (t:=t) ht).2.2.2.2
 have h3:=wC (k:=k) (n:=b.n0) (u:=b.aj) fun t ht=>(iR H.h.s1 (t:=t) ht).2.2.2.2
 have h4:=sZ (k:=k) fun a ha=>(H.h.ok.perm a ha).1
 have:=H.h.ok.l0;have:=H.h.ok.l1;have:=H.h.ok.aj
 unfold fV;omega
structure DL (B:Bk) (q:Nat) (dd:List Int):Prop where
 len:dd.length=B.due.length
 eq:∀ k:Nat,k < B.due.length->dd.getD k 0=gd k (B.aj.take q)
theorem DL.start (B:Bk):DL B 0 (List.replicate B.due.length 0):=⟨List.length_replicate,fun k hk=>by
 rw [List.getD_eq_getElem?_getD,List.getElem?_replicate,if_pos hk];rfl⟩
theorem getD_some {l:List Int} {k:Nat} {x:Int} (h:l[k]?=some x):l.getD k 0=x:=by rw [List.getD_eq_getElem?_getD,h];rfl
theorem DL.step {B:Bk} {q:Nat} {dd:List Int} {a:bl} {x v:Int} (J:DL B q dd) (ha:B.aj[q]?=some a) (hs:0<=a.az/\a.az < B.due.length) (hx:dd[a.az.toNat]?=some x) (hv:v=x+a.captured - a.bC):DL B (q+1) (dd.set a.az.toNat v):=by
 refine ⟨(List.length_set ..).trans J.len,fun k hk=>?_⟩
 rw [kR (by rw [J.len];exact hk),ie ha,rT]
 have h1:=J.eq k hk
 have h2:gd k [a]=if a.az=k then a.captured - a.bC else 0:=by simp [gd,lI]
 rw [h2]
 by_cases c:a.az=k
 ·rw [if_pos c,if_pos (by omega)]
  have:a.az.toNat=k:=by omega
  rw [this] at hx
  rw [getD_some hx] at h1;omega
 ·rw [if_neg c,if_neg (by omega)];omega
theorem DL.b {B:Bk} {q k:Nat} {dd:List Int} {x:Int} (J:DL B q dd) (H:dJ B) (hx:dd[k]?=some x):0<=x/\x<=30000000:=by
 have h1:=J.eq k (by rw [<-J.len];exact (List.getElem?_eq_some_iff.1 hx).1)
 rw [getD_some hx] at h1
 have h4:=sZ (k:=k) (l:=B.aj.take q) fun a ha=>(H.h.ok.perm a (List.mem_of_mem_take ha)).1
 have:=H.h.ok.aj
 rw [List.length_take] at h4;omega
structure DJ (s:Setup) (l:List aV) (B:Bk) (i:Nat) (dd:List Int) (hl:List Int):Prop where
 len:dd.length=B.due.length
 eq:∀ k:Nat,k < B.due.length->dd.getD k 0=gd k B.aj+fV k (dc (l.take i) (dk s) [] [] 0 []).1
 Jj:∀ z,z≠0->(z∈hl↔(fB (dc (l.take i) (dk s) [] [] 0 []).2.2.1 z).isSome=true)
theorem CX (s:Setup) (k:Nat):fV k (dk s)=0:=by
 have:(dk s).due.getD k 0=0:=by
  show (List.replicate s.eY.toNat (0:Int)).getD k 0=0
  rw [List.getD_eq_getElem?_getD,List.getElem?_replicate];split<;>rfl
 unfold fV;rw [this];rfl
theorem DJ.start {s:Setup} {l:List aV} {B:Bk} {dd:List Int} (J:DL B B.aj.length dd):DJ s l B 0 dd []:=
 ⟨J.len,fun k hk=>by rw [J.eq k hk,List.take_length];show _=_+fV k (dk s);rw [CX];omega,fun z _=>⟨fun h=>(by cases h),fun h=>(by cases h)⟩⟩
theorem DJ.b {s:Setup} {l:List aV} {B:Bk} {i k:Nat} {dd hl:List Int} {x:Int} (J:DJ s l B i dd hl) (H:dJ B) (hw:(dZ s).err=0) (h150:l.length<=150) (hx:dd[k]?=some x):-2000000000000<=x/\x<=2000000000000:=by
 have h1:=J.eq k (by rw [<-J.len];exact (List.getElem?_eq_some_iff.1 hx).1)
 rw [getD_some hx] at h1
 have h4:=sZ (k:=k) (l:=B.aj) fun a ha=>(H.h.ok.perm a ha).1
 have:=H.h.ok.aj
 have hlt:(l.take i).length<=l.length:=by rw [List.length_take];omega
 have L:=(qH (l.take i) (y:=[]) (told:=[]) (cl:=0) (out:=[]) (dJ.start hw) (m:=0) (by omega) (by omega) (lu s)).1
 have:=Jc L k
 omega
theorem lC {s:Setup} {l:List aV} {b:Bk} {y:List (List Int)} {o:List Answer} {f:cV} (hr:fi s l=(b,y,o,f)) (hf:f.err=0) {i:Nat} {d:aV} {x:Answer} (hd:l[i]?=some d) (hx:o[i]?=some x) {dd hl:List Int} (J:DJ s l b i dd hl):
  (¬d.id=0->d.id∈hl->DJ s l b (i+1) dd hl)/\
  (¬(¬d.id=0/\d.id∈hl)->(¬(d.kind=11/\x.err=0)->DJ s l b (i+1) dd (lM hl d.id))/\
   (d.kind=11->x.err=0->(0<=d.n/\d.n < b.due.length)/\∀ c z p g,fi s (l.take i)=(c,z,p,g)->c.due.length=b.due.length/\(∀ n∈c.due,-1000000000000<=n/\n<=1000000000000)/\
    ∀ u v w:Int,dd[d.n.toNat]?=some u->c.due[d.n.toNat]?=some v->w=u - v->DJ s l b (i+1) (dd.set d.n.toNat w) (lM hl d.id))):=by
 obtain ⟨hw,h150,rb,ro⟩:=sW hr hf
 have hsp:l=l.take (i+1)++l.drop (i+1):=(List.take_append_drop _ _).symm
 have hS1:dc (l.take (i+1)) (dk s) [] [] 0 []=dc [d] (dc (l.take i) (dk s) [] [] 0 []).1 (dc (l.take i) (dk s) [] [] 0 []).2.1 (dc (l.take i) (dk s) [] [] 0 []).2.2.1 (dc (l.take i) (dk s) [] [] 0 []).2.2.2.1 (dc (l.take i) (dk s) [] [] 0 []).2.2.2.2:=by
  rw [ie hd,mR]
 have hfin:=mR (l.take (i+1)) (l.drop (i+1)) (dk s) [] [] 0 []
 rw [<-hsp] at hfin
 have hg:=sX (l.drop (i+1)) (dc (l.take (i+1)) (dk s) [] [] 0 []).1 (dc (l.take (i+1)) (dk s) [] [] 0 []).2.1 (dc (l.take (i+1)) (dk s) [] [] 0 []).2.2.1 (dc (l.take (i+1)) (dk s) [] [] 0 []).2.2.2.1 (dc (l.take (i+1)) (dk s) [] [] 0 []).2.2.2.2
 rw [<-hfin,<-ro] at hg
 obtain ⟨_,_,z2,g3⟩:=hg
 have hlen:(dc (l.take i) (dk s) [] [] 0 []).2.2.2.2.length=i:=by
  have:=pK (l.take i) (dk s) [] [] 0 []
  rw [qx] at this
  have hi:=(List.getElem?_eq_some_iff.1 hd).1
  rw [this,List.length_take];simp;omega
 have hlt:(l.take i).length<=l.length:=by rw [List.length_take];omega
 obtain ⟨LC,dC,_⟩:=qH (l.take i) (y:=[]) (told:=[]) (cl:=0) (out:=[]) (dJ.start hw) (m:=0) (by omega) (by omega) (lu s)
 obtain ⟨LB,dB,_⟩:=qH l (y:=[]) (told:=[]) (cl:=0) (out:=[]) (dJ.start hw) (m:=0) (by omega) (by omega) (lu s)
 rw [<-rb] at LB dB
 have hR:=yM (l:=l.take i) hw (by omega)
 have J1:=J.len;have J2:=J.eq;have J3:=J.Jj
 have mk:∀ dd' hl',dd'.length=b.due.length->(∀ k:Nat,k < b.due.length->dd'.getD k 0=gd k b.aj+fV k (dc (l.take (i+1)) (dk s) [] [] 0 []).1)->(∀ z,z≠0->(z∈hl'↔(fB (dc (l.take (i+1)) (dk s) [] [] 0 []).2.2.1 z).isSome=true))->DJ s l b (i+1) dd' hl':=fun _ _ a b c=>⟨a,b,c⟩
 rw [hS1] at mk g3
 rw [hR]
 clear hS1 hfin hsp hR hr
 generalize dc (l.take i) (dk s) [] [] 0 []=S at *
 obtain ⟨B,Y,T,C,O⟩:=S
 unfold dc dc at mk g3
 dsimp only at *
 have hxa:x=(da B Y T C d).2.2.2.2:=by
  rw [g3,List.append_assoc,List.getElem?_append_right (by omega),hlen,Nat.sub_self] at hx
  simpa using hx.symm
 refine ⟨fun h1 h2=>?_,fun h1=>?_⟩
 ·have h3:=(J3 d.id h1).1 h2
  obtain ⟨v,hv⟩:=Option.isSome_iff_exists.1 h3
  rw [zW h1 hv] at mk
  exact mk dd hl J1 J2 J3
 ·have hno:¬((fB T d.id).isSome=true/\d.id≠0):=fun h=>h1 ⟨h.2,(J3 d.id h.2).2 h.1⟩
  have ho:da B Y T C d=((cq B Y d).1,(cq B Y d).2.1,lG T d.id (cq B Y d).2.2,if (fB T d.id).isSome then C else C+1,(cq B Y d).2.2):=by
   unfold da;rw [if_neg hno]
  rw [ho] at mk hxa
  dsimp only at mk hxa
  have hhad:∀ z,z≠0->(z∈lM hl d.id↔(fB (lG T d.id (cq B Y d).2.2) z).isSome=true):=fun z hz=>by
   rw [DV,rG]
   by_cases e:d.id=z
   ·rw [if_pos e];simp [e]
   ·rw [if_neg e,J3 z hz]
    exact ⟨fun h=>h.elim id fun h=>absurd h.symm e,.inl⟩
  refine ⟨fun hne=>?_,fun kC he=>?_⟩
  ·refine mk dd _ J1 (fun k hk=>?_) hhad
   rw [J2 k hk,CY LC Y d (by omega),if_neg (fun h=>hne ⟨h.1,by rw [hxa];exact h.2.1⟩)];omega
  ·have hz:(cq B Y d).2.2.err=0:=by rw [<-hxa];exact he
   have hn:0<=d.n/\d.n < B.due.length:=by
    have e:cq B Y d=((eH B d).1,Y,(eH B d).2):=by
     unfold cq;rw [if_neg (by omega),if_neg (by omega),if_neg (by omega),if_neg (by omega),if_neg (by omega),if_neg (by omega),if_neg (by omega),if_neg (by omega),if_neg (by omega),if_pos kC]
    rw [e] at hz
    unfold eH at hz
    split at hz
    ·cases hz
    ·omega
   refine ⟨by omega,fun c z p g hc=>?_⟩
   simp only [Prod.mk.injEq] at hc
   obtain ⟨rfl,_⟩:=hc
   refine ⟨by omega,Az LC,fun u v w hu hv hww=>mk _ _ ((List.length_set ..).trans J1) (fun k hk=>?_) hhad⟩
   rw [kR (by omega),CY LC Y d (by omega)]
   by_cases c:d.n=k
   ·have ck:d.n.toNat=k:=by omega
    rw [if_pos ck,if_pos ⟨kC,hz,c⟩,hww]
    rw [ck] at hu hv
    have:=J2 k hk
    rw [getD_some hu] at this
    rw [getD_some hv];omega
   ·rw [if_neg (by omega),if_neg (fun h=>c h.2.2),J2 k hk];omega
theorem lf {s:Setup} {l:List aV} {b:Bk} {y:List (List Int)} {o:List Answer} {f:cV} (hr:fi s l=(b,y,o,f)) (hf:f.err=0) {i:Nat} {d:aV} (hd:l[i]?=some d) {dd hl:List Int} (J:DJ s l b i dd hl) (h1:¬d.id=0) (h2:d.id∈hl):DJ s l b (i+1) dd hl:=
 have hlt:=(List.getElem?_eq_some_iff.1 hd).1
 have hlen:=(rP hr hf).1
 (lC hr hf hd (List.getElem?_eq_getElem (by omega)) J).1 h1 h2
theorem kv {s:Setup} {l:List aV} {b:Bk} {y:List (List Int)} {o:List Answer} {f:cV} (hr:fi s l=(b,y,o,f)) (hf:f.err=0) {i:Nat} {d:aV} (hd:l[i]?=some d) {dd hl:List Int} (J:DJ s l b i dd hl) (h1:¬(¬d.id=0/\d.id∈hl)) (h2:¬d.kind=11):DJ s l b (i+1) dd (lM hl d.id):=
 have hlt:=(List.getElem?_eq_some_iff.1 hd).1
 have hlen:=(rP hr hf).1
 ((lC hr hf hd (List.getElem?_eq_getElem (by omega)) J).2 h1).1 fun h=>h2 h.1
theorem AD {s:Setup} {l:List aV} {b:Bk} {y:List (List Int)} {o:List Answer} {f:cV} (hr:fi s l=(b,y,o,f)) (hf:f.err=0) {dd hl:List Int} (J:DJ s l b l.length dd hl) (k0:b.s0.kept=[]) (k1:b.s1.kept=[]):dd.length=b.due.length/\∀ (k:Nat) (u v:Int),b.due[k]?=some u->dd[k]?=some v->u=v:=by
 obtain ⟨hw,h150,rb,ro⟩:=sW hr hf
 refine ⟨J.len,fun k u v hu hv=>?_⟩
 have h:=J.eq k (List.getElem?_eq_some_iff.1 hu).1
 rw [List.take_length,<-rb,getD_some hv] at h
 unfold fV at h
 rw [k0,k1,getD_some hu] at h
 simp only [ft] at h;omega
def qz:Nat->List aV
 |0=>[]
 |i+1=>qz i++List.replicate 12 ⟨0,7,(i:Int),0,0,0⟩
def xJ:Nat->List aV
 |0=>[]
 |i+1=>xJ i++dX (i:Int) 14
def pD:Nat->List aV
 |0=>[]
 |i+1=>pD i++fx 14
theorem EU:[⟨0,5,0,0,0,0⟩,⟨0,5,1,0,0,0⟩]++xJ 2=fx 14:=rfl
theorem Jz:qz 2++pD 2=oK:=rfl
theorem wy {α:Type} (n:Nat) (a:α):List.replicate n a++[a]=List.replicate (n+1) a:=by
 rw [List.replicate_succ']
theorem CZ (n:Int) (k:Nat):dX n k++[⟨0,6,n,0,0,0⟩]=dX n (k+1):=by
 unfold dX;exact wy k _

theorem xF (s:Setup) (l:List aV):Fn Try.prog 10 [(.g [(cR 3 ((s.cK).map fr)),(cI s.eY),(cI s.cap)]),(.c (iV l))] (aB true) []:=by
 refine Fn.mk' 237 [(0,(aG [(cR 3 ((s.cK).map fr)),(cI s.eY),(cI s.cap)])),(1,(aC (iV l)))] Try.func10 rfl rfl rfl rfl ?_
 intro W0 T0
 refine fH 0 0 rfl rfl (fun hlen0_0=>?_)
 refine dU 1 rfl (fun hlen1=>?_)
 refine ae aa 2 rfl ?_
 refine ah ?_
 refine eZ ?_
 refine aP 1 [0] (ch 1 (EM) Kd rfl rfl trivial trivial trivial rfl rfl rfl rfl) rfl ?_
 refine ad aa 1 rfl ?_
 refine af ?_
 refine an rfl (fun hno=>by cases hno) (fun _=>?_)
 refine aU ?_
 refine ah ?_
 refine aH aa 1 rfl ?_
 refine aE (cJ rfl rfl rfl rfl rfl Try.underlying24) rfl ?_
 refine ad aa 1 rfl ?_
 refine af ?_
 refine an rfl (fun hc2=>?_) (fun hc2=>?_)
 ·
  have hc2':=of_decide_eq_true hc2
  refine ae aa 1 rfl ?_
  refine aA ?_
  refine ax ?_
  refine aw aa [] 0 rfl rfl rfl rfl rfl rfl ?_ ?_
  ·rfl
  ·rfl
 have hc2':=of_decide_eq_false hc2
 refine aU ?_
 refine eZ ?_
 refine aP 2 [1,0] (ec (ys:=[]) (rows:=(([]:List aV)).map cX) 1 om rfl (by decide) trivial rfl rfl rfl rfl) rfl ?_
 refine ad aa 1 rfl ?_
 refine aP 3 [2,0] (dA (m:=l.length) (N:=l.length) (k2:=2) (ys:=(l).map cX) om rfl rfl rfl rfl rfl rfl (by first|omega|(simp;done)|(simp;omega)) rfl (.d _ _) (by first|omega|(simp;done)|(simp;omega)) (by first|omega|(simp;done)|(simp;omega)) rfl (by decide) (by first|omega|(simp;done)|(simp;omega)) (by first|omega|(simp;done)|(simp;omega))) rfl ?_
 refine ad aa 1 rfl ?_
 refine af ?_
 refine ah ?_
 refine ae aa 1 rfl ?_
 refine aY ?_
 refine cz (β:=Nat×List aV) (fun (p:Nat×List aV)=>match p with|(i,m0)=>⟨[(1,(aC (iV l))),(2,(aC (.p 0 0 0 0))),(4,(aB false)),(5,(aC (.s 2 0 6 m0.length))),(35,(aI (↑i:Int)))],[(2,(zt m0)),(0,(.box 55 [(cR 3 ((s.cK).map fr)),(cI s.eY),(cI s.cap)]))],3⟩) (fun (p:Nat×List aV)=>match p with|(i,m0)=>i<=2/\m0=l++qz i/\m0.length=l.length+12 * i) (fun (p:Nat×List aV)=>match p with|(i,m0)=>2 - i) (0,l) ?_ ?_ ?_
 ·exact ⟨by omega,by simp [qz],by simp⟩
 ·exact aJ.cc id (by refine ⟨?_,?_,?_,?_,?_,trivial⟩<;>first|rfl|(simp only [bn];done)|(congr 3;omega)|(congr 4;omega)|(simp only [bo];rfl)|(first|exact cD rfl (by omega)|exact fy rfl (by first|omega|(simp only [List.length_append,List.length_cons,List.length_nil] at *;omega)))) (by refine ⟨?_,?_,trivial⟩<;>first|rfl|(simp only [bn];done)|(congr 3;omega)|(congr 4;omega)|(simp only [bo];rfl)) rfl
 rintro ⟨i,m0⟩ ⟨hi0_0,hi0_1,hi0_2⟩
 refine ae aa 1 rfl ?_
 refine ah ?_
 refine an rfl (fun hc3=>?_) (fun hc3=>?_)
 ·
  have hc3':=of_decide_eq_true hc3
  refine aU ?_
  refine ah ?_
  refine aY ?_
  refine ae aa 2 rfl ?_
  refine ae aa 1 rfl ?_
  refine aY ?_
  refine cz (β:=Nat×List aV) (fun (p:Nat×List aV)=>match p with|(j,m1)=>⟨[(1,(aC (iV l))),(2,(aC (.p 0 0 0 0))),(4,(aB false)),(5,(aC (.s 2 0 6 m1.length))),(35,(aI (↑i:Int))),(6,(aI (↑i:Int))),(38,(aI (↑j:Int)))],[(2,(zt m1)),(0,(.box 55 [(cR 3 ((s.cK).map fr)),(cI s.eY),(cI s.cap)]))],3⟩) (fun (p:Nat×List aV)=>match p with|(j,m1)=>j<=12/\m1=m0++List.replicate j (⟨0,7,(↑i:Int),0,0,0⟩:aV)/\m1.length=m0.length+j) (fun (p:Nat×List aV)=>match p with|(j,m1)=>12 - j) (0,m0) ?_ ?_ ?_
  ·exact ⟨by omega,by simp,by omega⟩
  ·exact aJ.cc id (by refine ⟨?_,?_,?_,?_,?_,?_,?_,trivial⟩<;>first|rfl|(simp only [bn];done)|(congr 3;omega)|(congr 4;omega)|(simp only [bo];rfl)|(first|exact cD rfl (by omega)|exact fy rfl (by first|omega|(simp only [List.length_append,List.length_cons,List.length_nil] at *;omega)))) (by refine ⟨?_,?_,trivial⟩<;>first|rfl|(simp only [bn];done)|(congr 3;omega)|(congr 4;omega)|(simp only [bo];rfl)) rfl
  rintro ⟨j,m1⟩ ⟨hi1_0,hi1_1,hi1_2⟩
  refine ae aa 1 rfl ?_
  refine ah ?_
  refine an rfl (fun hc4=>?_) (fun hc4=>?_)
  ·
   have hc4':=of_decide_eq_true hc4
   refine aU ?_
   refine ah ?_
   refine aY ?_
   refine ay ?_
   refine ad aa 3 rfl ?_
   refine aP 4 [3,2,0] (ec (ys:=[(0,(.g [(cI 0),(cI 7),(cI (↑i:Int)),(cI 0),(cI 0),(cI 0)]))]) (rows:=([(⟨0,7,(↑i:Int),0,0,0⟩:aV)]).map cX) 3 om rfl (by decide) ⟨⟨rfl,rfl⟩,trivial⟩ rfl rfl rfl rfl) rfl ?_
   refine aP 5 [4,3,0] (dA (m:=1) (N:=m1.length+1) (k2:=4) (ys:=([(⟨0,7,(↑i:Int),0,0,0⟩:aV)]).map cX) om rfl rfl rfl rfl rfl rfl (by first|omega|(simp;done)|(simp;omega)) rfl (.s rfl (by first|omega|(simp;done)|(simp;omega))) (by first|omega|(simp;done)|(simp;omega)) (by first|omega|(simp;done)|(simp;omega)) fK (by decide) (by first|omega|(simp;done)|(simp;omega)) (by first|omega|(simp;done)|(simp;omega))) rfl ?_
   refine ad aa 1 rfl ?_
   refine cf ?_
   refine bq ?_
   refine then_ok ?_
   refine ay ?_
   refine aE (aN rfl rfl rfl (aK (by first|omega|(simp;done)|(simp;omega)))) rfl ?_
   refine ad aa 1 rfl ?_
   refine af ?_
   refine ⟨(j+1,m1++([(⟨0,7,(↑i:Int),0,0,0⟩:aV)])),⟨by omega,by rw [hi1_1,List.append_assoc,wy],by simp;omega⟩,by first|omega|(simp;done)|(simp;omega),aJ.cc (fun k=>if k=2 then 4 else k) (by refine ⟨?_,?_,?_,?_,?_,?_,?_,trivial⟩<;>first|rfl|(simp only [bn];done)|(congr 3;omega)|(congr 4;omega)|(simp only [bo];rfl)|(first|exact cD rfl (by omega)|exact fy rfl (by first|omega|(simp only [List.length_append,List.length_cons,List.length_nil] at *;omega)))) (by refine ⟨?_,?_,trivial⟩<;>first|rfl|(simp only [bn];done)|(congr 3;omega)|(congr 4;omega)|(simp only [bo];rfl)) rfl⟩
  have hc4':=of_decide_eq_false hc4
  refine cp ?_
  refine aR ?_
  refine aR ?_
  refine bM ?_
  refine bq ?_
  refine then_ok ?_
  refine ay ?_
  refine aE (aN rfl rfl rfl (aK (by first|omega|(simp;done)|(simp;omega)))) rfl ?_
  refine ad aa 1 rfl ?_
  refine af ?_
  refine ⟨(i+1,m1),⟨by omega,by rw [hi1_1,hi0_1,show j=12 by omega,qz,List.append_assoc],by omega⟩,by first|omega|(simp;done)|(simp;omega),aJ.cc id (by refine ⟨?_,?_,?_,?_,?_,trivial⟩<;>first|rfl|(simp only [bn];done)|(congr 3;omega)|(congr 4;omega)|(simp only [bo];rfl)|(first|exact cD rfl (by omega)|exact fy rfl (by first|omega|(simp only [List.length_append,List.length_cons,List.length_nil] at *;omega)))) (by refine ⟨?_,?_,trivial⟩<;>first|rfl|(simp only [bn];done)|(congr 3;omega)|(congr 4;omega)|(simp only [bo];rfl)) rfl⟩
 have hc3':=of_decide_eq_false hc3
 refine cp ?_
 refine aR ?_
 refine aR ?_
 refine bM ?_
 refine then_ok ?_
 refine ah ?_
 refine ae aa 1 rfl ?_
 refine aY ?_
 refine cz (β:=Nat×List aV) (fun (p:Nat×List aV)=>match p with|(u,m2)=>⟨[(1,(aC (iV l))),(2,(aC (.p 0 0 0 0))),(4,(aB false)),(5,(aC (.s 2 0 6 m2.length))),(35,(aI (↑i:Int))),(47,(aI (↑u:Int)))],[(2,(zt m2)),(0,(.box 55 [(cR 3 ((s.cK).map fr)),(cI s.eY),(cI s.cap)]))],3⟩) (fun (p:Nat×List aV)=>match p with|(u,m2)=>u<=2/\m2=l++qz 2++pD u/\m2.length=l.length+24+30 * u) (fun (p:Nat×List aV)=>match p with|(u,m2)=>2 - u) (0,m0) ?_ ?_ ?_
 ·exact ⟨by omega,by rw [hi0_1,show i=2 by omega];simp [pD],by omega⟩
 ·exact aJ.cc id (by refine ⟨?_,?_,?_,?_,?_,?_,trivial⟩<;>first|rfl|(simp only [bn];done)|(congr 3;omega)|(congr 4;omega)|(simp only [bo];rfl)|(first|exact cD rfl (by omega)|exact fy rfl (by first|omega|(simp only [List.length_append,List.length_cons,List.length_nil] at *;omega)))) (by refine ⟨?_,?_,trivial⟩<;>first|rfl|(simp only [bn];done)|(congr 3;omega)|(congr 4;omega)|(simp only [bo];rfl)) rfl
 rintro ⟨u,m2⟩ ⟨hi2_0,hi2_1,hi2_2⟩
 refine ae aa 1 rfl ?_
 refine ah ?_
 refine an rfl (fun hc5=>?_) (fun hc5=>?_)
 ·
  have hc5':=of_decide_eq_true hc5
  refine aU ?_
  refine ah ?_
  refine aY ?_
  refine aH aa 3 rfl ?_
  refine aP 4 [3,2,0] (ec (ys:=[(0,(.g [(cI 0),(cI 5),(cI 0),(cI 0),(cI 0),(cI 0)])),(1,(.g [(cI 0),(cI 5),(cI 1),(cI 0),(cI 0),(cI 0)]))]) (rows:=([(⟨0,5,0,0,0,0⟩:aV),(⟨0,5,1,0,0,0⟩:aV)]).map cX) 3 om rfl (by decide) ⟨⟨rfl,rfl⟩,⟨rfl,rfl⟩,trivial⟩ rfl rfl rfl rfl) rfl ?_
  refine aP 5 [4,3,0] (dA (m:=2) (N:=m2.length+2) (k2:=4) (ys:=([(⟨0,5,0,0,0,0⟩:aV),(⟨0,5,1,0,0,0⟩:aV)]).map cX) om rfl rfl rfl rfl rfl rfl (by first|omega|(simp;done)|(simp;omega)) rfl (.s rfl (by first|omega|(simp;done)|(simp;omega))) (by first|omega|(simp;done)|(simp;omega)) (by first|omega|(simp;done)|(simp;omega)) fK (by decide) (by first|omega|(simp;done)|(simp;omega)) (by first|omega|(simp;done)|(simp;omega))) rfl ?_
  refine ad aa 1 rfl ?_
  refine af ?_
  refine ae aa 1 rfl ?_
  refine aY ?_
  refine cz (β:=Nat×List aV) (fun (p:Nat×List aV)=>match p with|(v,m3)=>⟨[(1,(aC (iV l))),(2,(aC (.p 0 0 0 0))),(4,(aB false)),(5,(aC (.s 4 0 6 m3.length))),(35,(aI (↑i:Int))),(47,(aI (↑u:Int))),(54,(aI (↑v:Int)))],[(4,(zt m3)),(0,(.box 55 [(cR 3 ((s.cK).map fr)),(cI s.eY),(cI s.cap)]))],5⟩) (fun (p:Nat×List aV)=>match p with|(v,m3)=>v<=2/\m3=m2++[(⟨0,5,0,0,0,0⟩:aV),(⟨0,5,1,0,0,0⟩:aV)]++xJ v/\m3.length=m2.length+2+14 * v) (fun (p:Nat×List aV)=>match p with|(v,m3)=>2 - v) (0,m2++([(⟨0,5,0,0,0,0⟩:aV),(⟨0,5,1,0,0,0⟩:aV)])) ?_ ?_ ?_
  ·exact ⟨by omega,by simp [xJ],by simp⟩
  ·exact aJ.cc id (by refine ⟨?_,?_,?_,?_,?_,?_,?_,trivial⟩<;>first|rfl|(simp only [bn];done)|(congr 3;omega)|(congr 4;omega)|(simp only [bo];rfl)|(first|exact cD rfl (by omega)|exact fy rfl (by first|omega|(simp only [List.length_append,List.length_cons,List.length_nil] at *;omega)))) (by refine ⟨?_,?_,trivial⟩<;>first|rfl|(simp only [bn];done)|(congr 3;omega)|(congr 4;omega)|(simp only [bo];rfl)) rfl
  rintro ⟨v,m3⟩ ⟨hi3_0,hi3_1,hi3_2⟩
  refine ae aa 1 rfl ?_
  refine ah ?_
  refine an rfl (fun hc6=>?_) (fun hc6=>?_)
  ·
   have hc6':=of_decide_eq_true hc6
   refine aU ?_
   refine ah ?_
   refine aY ?_
   refine ae aa 2 rfl ?_
   refine ae aa 1 rfl ?_
   refine aY ?_
   refine cz (β:=Nat×List aV) (fun (p:Nat×List aV)=>match p with|(w,m4)=>⟨[(1,(aC (iV l))),(2,(aC (.p 0 0 0 0))),(4,(aB false)),(5,(aC (.s 4 0 6 m4.length))),(35,(aI (↑i:Int))),(47,(aI (↑u:Int))),(54,(aI (↑v:Int))),(7,(aI (↑v:Int))),(57,(aI (↑w:Int)))],[(4,(zt m4)),(0,(.box 55 [(cR 3 ((s.cK).map fr)),(cI s.eY),(cI s.cap)]))],5⟩) (fun (p:Nat×List aV)=>match p with|(w,m4)=>w<=14/\m4=m3++dX (↑v:Int) w/\m4.length=m3.length+w) (fun (p:Nat×List aV)=>match p with|(w,m4)=>14 - w) (0,m3) ?_ ?_ ?_
   ·exact ⟨by omega,by simp [dX],by omega⟩
   ·exact aJ.cc id (by refine ⟨?_,?_,?_,?_,?_,?_,?_,?_,?_,trivial⟩<;>first|rfl|(simp only [bn];done)|(congr 3;omega)|(congr 4;omega)|(simp only [bo];rfl)|(first|exact cD rfl (by omega)|exact fy rfl (by first|omega|(simp only [List.length_append,List.length_cons,List.length_nil] at *;omega)))) (by refine ⟨?_,?_,trivial⟩<;>first|rfl|(simp only [bn];done)|(congr 3;omega)|(congr 4;omega)|(simp only [bo];rfl)) rfl
   rintro ⟨w,m4⟩ ⟨hi4_0,hi4_1,hi4_2⟩
   refine ae aa 1 rfl ?_
   refine ah ?_
   refine an rfl (fun hc7=>?_) (fun hc7=>?_)
   ·
    have hc7':=of_decide_eq_true hc7
    refine aU ?_
    refine ah ?_
    refine aY ?_
    refine ay ?_
    refine ad aa 3 rfl ?_
    refine aP 6 [5,4,0] (ec (ys:=[(0,(.g [(cI 0),(cI 6),(cI (↑v:Int)),(cI 0),(cI 0),(cI 0)]))]) (rows:=([(⟨0,6,(↑v:Int),0,0,0⟩:aV)]).map cX) 5 om rfl (by decide) ⟨⟨rfl,rfl⟩,trivial⟩ rfl rfl rfl rfl) rfl ?_
    refine aP 7 [6,5,0] (dA (m:=1) (N:=m4.length+1) (k2:=6) (ys:=([(⟨0,6,(↑v:Int),0,0,0⟩:aV)]).map cX) om rfl rfl rfl rfl rfl rfl (by first|omega|(simp;done)|(simp;omega)) rfl (.s rfl (by first|omega|(simp;done)|(simp;omega))) (by first|omega|(simp;done)|(simp;omega)) (by first|omega|(simp;done)|(simp;omega)) fK (by decide) (by first|omega|(simp;done)|(simp;omega)) (by first|omega|(simp;done)|(simp;omega))) rfl ?_
    refine ad aa 1 rfl ?_
    refine cf ?_
    refine bq ?_
    refine then_ok ?_
    refine ay ?_
    refine aE (aN rfl rfl rfl (aK (by first|omega|(simp;done)|(simp;omega)))) rfl ?_
    refine ad aa 1 rfl ?_
    refine af ?_
    refine ⟨(w+1,m4++([(⟨0,6,(↑v:Int),0,0,0⟩:aV)])),⟨by omega,by rw [hi4_1,List.append_assoc,CZ],by simp;omega⟩,by first|omega|(simp;done)|(simp;omega),aJ.cc (fun k=>if k=4 then 6 else k) (by refine ⟨?_,?_,?_,?_,?_,?_,?_,?_,?_,trivial⟩<;>first|rfl|(simp only [bn];done)|(congr 3;omega)|(congr 4;omega)|(simp only [bo];rfl)|(first|exact cD rfl (by omega)|exact fy rfl (by first|omega|(simp only [List.length_append,List.length_cons,List.length_nil] at *;omega)))) (by refine ⟨?_,?_,trivial⟩<;>first|rfl|(simp only [bn];done)|(congr 3;omega)|(congr 4;omega)|(simp only [bo];rfl)) rfl⟩
   have hc7':=of_decide_eq_false hc7
   refine cp ?_
   refine aR ?_
   refine aR ?_
   refine bM ?_
   refine bq ?_
   refine then_ok ?_
   refine ay ?_
   refine aE (aN rfl rfl rfl (aK (by first|omega|(simp;done)|(simp;omega)))) rfl ?_
   refine ad aa 1 rfl ?_
   refine af ?_
   refine ⟨(v+1,m4),⟨by omega,by rw [hi4_1,hi3_1,show w=14 by omega,xJ,List.append_assoc],by omega⟩,by first|omega|(simp;done)|(simp;omega),aJ.cc id (by refine ⟨?_,?_,?_,?_,?_,?_,?_,trivial⟩<;>first|rfl|(simp only [bn];done)|(congr 3;omega)|(congr 4;omega)|(simp only [bo];rfl)|(first|exact cD rfl (by omega)|exact fy rfl (by first|omega|(simp only [List.length_append,List.length_cons,List.length_nil] at *;omega)))) (by refine ⟨?_,?_,trivial⟩<;>first|rfl|(simp only [bn];done)|(congr 3;omega)|(congr 4;omega)|(simp only [bo];rfl)) rfl⟩
  have hc6':=of_decide_eq_false hc6
  refine cp ?_
  refine aR ?_
  refine aR ?_
  refine bM ?_
  refine bq ?_
  refine then_ok ?_
  refine ay ?_
  refine aE (aN rfl rfl rfl (aK (by first|omega|(simp;done)|(simp;omega)))) rfl ?_
  refine ad aa 1 rfl ?_
  refine af ?_
  refine ⟨(u+1,m3),⟨by omega,by rw [hi3_1,hi2_1,show v=2 by omega,pD,<-EU];simp only [List.append_assoc,List.cons_append,List.nil_append],by omega⟩,by first|omega|(simp;done)|(simp;omega),aJ.cc (fun k=>if k=2 then 4 else k) (by refine ⟨?_,?_,?_,?_,?_,?_,trivial⟩<;>first|rfl|(simp only [bn];done)|(congr 3;omega)|(congr 4;omega)|(simp only [bo];rfl)|(first|exact cD rfl (by omega)|exact fy rfl (by first|omega|(simp only [List.length_append,List.length_cons,List.length_nil] at *;omega)))) (by refine ⟨?_,?_,trivial⟩<;>first|rfl|(simp only [bn];done)|(congr 3;omega)|(congr 4;omega)|(simp only [bo];rfl)) rfl⟩
 have hc5':=of_decide_eq_false hc5
 refine cp ?_
 refine aR ?_
 refine aR ?_
 refine bM ?_
 refine then_ok ?_
 have hmE:m2=l++oK:=by rw [hi2_1,show u=2 by omega,List.append_assoc,Jz]
 refine aH aa 2 rfl ?_
 refine qo (s':=[(1,(aC (iV l))),(2,(aC (.p 0 0 0 0))),(4,(aB false)),(5,(aC (iV m2))),(35,(aI (↑i:Int))),(47,(aI (↑u:Int))),(48,(aB (decide ((↑u:Int) < 2)))),(68,(aG [(cR 3 ((s.cK).map fr)),(cI s.eY),(cI s.cap)])),(69,(aC (iV m2)))]) (h':=[(0,(.box 55 [(cR 3 ((s.cK).map fr)),(cI s.eY),(cI s.cap)]))]) 2 rfl ⟨⟨_,rfl,.inl ⟨rfl,rfl⟩⟩,⟨_,rfl,.inl ⟨rfl,rfl⟩⟩,⟨_,rfl,.inl ⟨rfl,rfl⟩⟩,⟨_,rfl,.inr ⟨_,_,rfl,rfl,.s rfl (by decide) (by first|omega|(simp;done)|(simp;omega))⟩⟩,⟨_,rfl,.inl ⟨rfl,rfl⟩⟩,⟨_,rfl,.inl ⟨rfl,rfl⟩⟩,⟨_,rfl,.inl ⟨rfl,rfl⟩⟩,⟨_,rfl,.inl ⟨rfl,rfl⟩⟩,⟨_,rfl,.inr ⟨_,_,rfl,rfl,.s rfl (by decide) (by first|omega|(simp;done)|(simp;omega))⟩⟩,trivial⟩ ⟨rfl,trivial⟩ rfl ?_
 obtain ⟨b20,y20,o20,f20,hr0⟩:∃ (b20:Bk) (y20:List (List Int)) (o20:List Answer) (f20:cV),fi s m2=(b20,y20,o20,f20):=⟨_,_,_,_,rfl⟩
 have hlo:f20.err=0->o20.length=m2.length/\m2.length<=150:=fun h=>rP hr0 h
 refine aP 3 [0] (ch 3 (Fn.frozen (av':=(.t [(.g [(cI b20.time),(cB b20.down),(sG b20.ag),(fN b20.due),(mJ b20.aj),(cI b20.s0.bG),(dh b20.s0.kept),(cI b20.s1.bG),(dh b20.s1.kept),(cI b20.n0),(cI b20.n1),(ed b20.w0),(ed b20.w1),(cI b20.bx.cap),(fN b20.bx.used),(gK b20.bx.bb),(iw b20.aQ),(sF y20),(dR b20.book)]),(.c (uy o20)),(.g [(cI f20.err),(cI f20.at_)])])) (qi s m2 b20 y20 o20 f20 hr0) ⟨⟨.inl ⟨_,rfl,rfl⟩,.inl ⟨_,rfl,rfl⟩,.inr ⟨_,_,_,_,_,rfl,rfl,rfl,by simp⟩,.inr ⟨_,_,_,_,_,rfl,rfl,rfl,by simp⟩,.inr ⟨_,_,_,_,_,rfl,rfl,rfl,by simp⟩,.inl ⟨_,rfl,rfl⟩,.inl ⟨_,rfl,rfl⟩,.inl ⟨_,rfl,rfl⟩,.inl ⟨_,rfl,rfl⟩,.inl ⟨_,rfl,rfl⟩,.inl ⟨_,rfl,rfl⟩,.inl ⟨_,rfl,rfl⟩,.inl ⟨_,rfl,rfl⟩,.inl ⟨_,rfl,rfl⟩,.inl ⟨_,rfl,rfl⟩,.inl ⟨_,rfl,rfl⟩,.inr ⟨_,_,_,_,_,rfl,rfl,rfl,by simp⟩,.inr ⟨_,_,_,_,_,rfl,rfl,rfl,by simp⟩,.inl ⟨_,rfl,rfl⟩,trivial⟩,.inr ⟨_,_,_,_,_,rfl,rfl,rfl,by simp⟩,⟨.inl ⟨_,rfl,rfl⟩,.inl ⟨_,rfl,rfl⟩,trivial⟩,trivial⟩) xj rfl rfl ⟨⟨_,rfl,.g ⟨.d _,.d _,.d _,trivial⟩⟩,⟨_,rfl,.c (.d _)⟩,trivial⟩ ⟨⟨trivial,trivial,trivial,trivial,trivial,trivial,trivial,trivial,trivial,trivial,trivial,trivial,trivial,trivial,trivial,trivial,trivial,trivial,trivial,trivial⟩,trivial,⟨trivial,trivial,trivial⟩,trivial⟩ trivial rfl rfl rfl rfl) rfl ?_
 refine ad aa 9 rfl ?_
 refine af ?_
 refine ah ?_
 refine ae aa 3 rfl ?_
 refine an rfl (fun hc8=>?_) (fun hc8=>?_)
 ·
  have hc8':=of_decide_eq_true hc8
  refine ae aa 1 rfl ?_
  refine aA ?_
  refine ax ?_
  refine aw aa [] 0 rfl rfl rfl rfl rfl rfl ?_ ?_
  ·rfl
  ·rfl
 have hc8':=of_decide_eq_false hc8
 refine aU ?_
 have H:=zb hr0 (by omega)
 have hsw:=(sW hr0 (by omega)).1
 have hok:=H.h.ok
 have okc:=hok.ag
 have okd:=hok.due
 have oka:=hok.aj
 have okp:=hok.perm
 have okg:=hok.right
 refine aH aa 2 rfl ?_
 obtain ⟨b21,y21,o21,f21,hr1⟩:∃ (b21:Bk) (y21:List (List Int)) (o21:List Answer) (f21:cV),fi s l=(b21,y21,o21,f21):=⟨_,_,_,_,rfl⟩
 refine aP 5 [4,3,0] (ch 5 (Fn.frozen (av':=(.t [(.g [(cI b21.time),(cB b21.down),(sG b21.ag),(fN b21.due),(mJ b21.aj),(cI b21.s0.bG),(dh b21.s0.kept),(cI b21.s1.bG),(dh b21.s1.kept),(cI b21.n0),(cI b21.n1),(ed b21.w0),(ed b21.w1),(cI b21.bx.cap),(fN b21.bx.used),(gK b21.bx.bb),(iw b21.aQ),(sF y21),(dR b21.book)]),(.c (uy o21)),(.g [(cI f21.err),(cI f21.at_)])])) (qi s l b21 y21 o21 f21 hr1) ⟨⟨.inl ⟨_,rfl,rfl⟩,.inl ⟨_,rfl,rfl⟩,.inr ⟨_,_,_,_,_,rfl,rfl,rfl,by simp⟩,.inr ⟨_,_,_,_,_,rfl,rfl,rfl,by simp⟩,.inr ⟨_,_,_,_,_,rfl,rfl,rfl,by simp⟩,.inl ⟨_,rfl,rfl⟩,.inl ⟨_,rfl,rfl⟩,.inl ⟨_,rfl,rfl⟩,.inl ⟨_,rfl,rfl⟩,.inl ⟨_,rfl,rfl⟩,.inl ⟨_,rfl,rfl⟩,.inl ⟨_,rfl,rfl⟩,.inl ⟨_,rfl,rfl⟩,.inl ⟨_,rfl,rfl⟩,.inl ⟨_,rfl,rfl⟩,.inl ⟨_,rfl,rfl⟩,.inr ⟨_,_,_,_,_,rfl,rfl,rfl,by simp⟩,.inr ⟨_,_,_,_,_,rfl,rfl,rfl,by simp⟩,.inl ⟨_,rfl,rfl⟩,trivial⟩,.inr ⟨_,_,_,_,_,rfl,rfl,rfl,by simp⟩,⟨.inl ⟨_,rfl,rfl⟩,.inl ⟨_,rfl,rfl⟩,trivial⟩,trivial⟩) xj rfl rfl ⟨⟨_,rfl,.g ⟨.d _,.d _,.d _,trivial⟩⟩,⟨_,rfl,.c (.d _)⟩,trivial⟩ ⟨⟨trivial,trivial,trivial,trivial,trivial,trivial,trivial,trivial,trivial,trivial,trivial,trivial,trivial,trivial,trivial,trivial,trivial,trivial,trivial,trivial⟩,trivial,⟨trivial,trivial,trivial⟩,trivial⟩ trivial rfl rfl rfl rfl) rfl ?_
 refine ad aa 9 rfl ?_
 refine af ?_
 refine ah ?_
 refine aH aa 1 rfl ?_
 refine aE (df (i:=0) rfl rfl rfl Try.underlying35 kb rfl (by decide)) rfl ?_
 refine ad aa 2 rfl ?_
 refine aE (cJ rfl rfl rfl rfl rfl Try.underlying32) rfl ?_
 refine ad aa 2 rfl ?_
 refine bH (t:=90) rfl (fun hb9=>?_) (fun hb9=>?_)
 ·
  have hb9':=of_decide_eq_true hb9
  refine ad aa 21 rfl ?_
  refine af ?_
  refine an rfl (fun _=>?_) (fun hno=>by cases hno)
  refine ae aa 1 rfl ?_
  refine aA ?_
  refine ax ?_
  refine aw aa [] 0 rfl rfl rfl rfl rfl rfl ?_ ?_
  ·rfl
  ·rfl
 have hb9':=of_decide_eq_false hb9
 refine ad aa 1 rfl ?_
 refine dG (aq.yes rfl rfl rfl) (df (i:=1) rfl rfl rfl Try.underlying35 kb rfl (by decide)) rfl rfl ?_
 refine ad aa 2 rfl ?_
 refine dG (aq.yes rfl rfl rfl) (cJ rfl rfl rfl rfl rfl Try.underlying32) rfl rfl ?_
 refine ad aa 3 rfl ?_
 refine bH (t:=98) rfl (fun hb11=>?_) (fun hb11=>?_)
 ·
  have hb11':=of_decide_eq_true hb11
  refine ad aa 13 rfl ?_
  refine af ?_
  refine an rfl (fun _=>?_) (fun hno=>by cases hno)
  refine ae aa 1 rfl ?_
  refine aA ?_
  refine ax ?_
  refine aw aa [] 0 rfl rfl rfl rfl rfl rfl ?_ ?_
  ·rfl
  ·rfl
 have hb11':=of_decide_eq_false hb11
 refine ad aa 1 rfl ?_
 refine dG (aq.yes rfl rfl rfl) (df (i:=0) rfl rfl rfl Try.underlying38 ka rfl (by decide)) rfl rfl ?_
 refine ad aa 1 rfl ?_
 refine dG (aq.yes rfl rfl rfl) (cJ rfl rfl rfl rfl rfl Try.underlying37) rfl rfl ?_
 refine ad aa 3 rfl ?_
 refine bH (t:=105) rfl (fun hb13=>?_) (fun hb13=>?_)
 ·
  have hb13':=of_decide_eq_true hb13
  refine ad aa 6 rfl ?_
  refine af ?_
  refine an rfl (fun _=>?_) (fun hno=>by cases hno)
  refine ae aa 1 rfl ?_
  refine aA ?_
  refine ax ?_
  refine aw aa [] 0 rfl rfl rfl rfl rfl rfl ?_ ?_
  ·rfl
  ·rfl
 have hb13':=of_decide_eq_false hb13
 refine ad aa 1 rfl ?_
 refine dG (aq.yes rfl rfl rfl) (df (i:=1) rfl rfl rfl Try.underlying38 ka rfl (by decide)) rfl rfl ?_
 refine ad aa 1 rfl ?_
 refine dG (aq.yes rfl rfl rfl) (cJ rfl rfl rfl rfl rfl Try.underlying37) rfl rfl ?_
 refine ad aa 2 rfl ?_
 refine af ?_
 refine an rfl (fun hc15=>?_) (fun hc15=>?_)
 ·
  have hc15':=of_decide_eq_true hc15
  refine ae aa 1 rfl ?_
  refine aA ?_
  refine ax ?_
  refine aw aa [] 0 rfl rfl rfl rfl rfl rfl ?_ ?_
  ·rfl
  ·rfl
 have hc15':=of_decide_eq_false hc15
 refine aU ?_
 refine ah ?_
 obtain ⟨dk0,dk1,dtr⟩:=CF (show fi s (l++oK)=(b20,y20,o20,f20) from hmE▸hr0) (by omega) (by omega) hr1 (by first|omega|(simp_all;done)|(simp_all;omega)) (by first|omega|(simp_all;done)|(simp_all;omega)) (by first|omega|(simp_all;done)|(simp_all;omega)) (by first|omega|(simp_all;done)|(simp_all;omega))
 have dl0:b20.s0.kept.length=0:=by rw [dk0];rfl
 have dl1:b20.s1.kept.length=0:=by rw [dk1];rfl
 refine aH aa 1 rfl ?_
 refine aE (df (i:=0) rfl rfl rfl Try.underlying35 kb rfl (by decide)) rfl ?_
 refine ad aa 2 rfl ?_
 refine aE (cJ rfl rfl rfl rfl rfl Try.underlying32) rfl ?_
 refine ad aa 1 rfl ?_
 refine aE (df (i:=1) rfl rfl rfl Try.underlying35 kb rfl (by decide)) rfl ?_
 refine ad aa 2 rfl ?_
 refine aE (cJ rfl rfl rfl rfl rfl Try.underlying32) rfl ?_
 refine aE (aN rfl rfl rfl (aK (by first|omega|(simp;done)|(simp;omega)))) rfl ?_
 refine ad aa 2 rfl ?_
 refine bH (t:=124) rfl (fun hb16=>?_) (fun hb16=>?_)
 ·
  have hb16':=of_decide_eq_true hb16
  refine ad aa 5 rfl ?_
  refine af ?_
  refine an rfl (fun _=>?_) (fun hno=>by cases hno)
  refine ae aa 1 rfl ?_
  refine aA ?_
  refine ax ?_
  refine aw aa [] 0 rfl rfl rfl rfl rfl rfl ?_ ?_
  ·exact congrArg aB (show (false)=true by (exfalso;first|omega|(simp_all;done)|(simp_all;omega)))
  ·rfl
 have hb16':=of_decide_eq_false hb16
 refine ad aa 2 rfl ?_
 obtain ⟨n2,hr2⟩:∃ (n2:Int),cZ b20.book 1=n2:=⟨_,rfl⟩
 have hge:n2=0:=by rw [<-hr2];exact dtr
 refine FB 7 [6,5,4,3,0] (aq.yes rfl rfl rfl) (ch 7 (AJ b20.book 1 n2 hr2) Ka rfl rfl ⟨⟨_,rfl,.c (.d _)⟩,⟨_,rfl,.c (.d _)⟩,trivial⟩ trivial trivial rfl rfl rfl rfl) rfl ?_
 refine ad aa 2 rfl ?_
 refine af ?_
 refine an rfl (fun hc18=>?_) (fun hc18=>?_)
 ·
  have hc18':=of_decide_eq_true hc18
  refine ae aa 1 rfl ?_
  refine aA ?_
  refine ax ?_
  refine aw aa [] 0 rfl rfl rfl rfl rfl rfl ?_ ?_
  ·exact congrArg aB (show (false)=true by (exfalso;first|omega|(simp_all;done)|(simp_all;omega)))
  ·rfl
 have hc18':=of_decide_eq_false hc18
 refine aU ?_
 refine aH aa 2 rfl ?_
 refine aE (cJ rfl rfl rfl rfl rfl Try.underlying30) rfl ?_
 refine aP 8 [7,6,5,4,3,0] (nM 7 nt Ba rfl rfl rfl (n:=b20.due.length) (by first|omega|(simp;done)|(simp;omega)) (by first|omega|(simp;done)|(simp;omega)) (by first|omega|(simp;done)|(simp;omega)) (by first|omega|(simp;done)|(simp;omega))) rfl ?_
 refine ad aa 1 rfl ?_
 refine af ?_
 refine ah ?_
 refine aH aa 2 rfl ?_
 refine aE (cJ rfl rfl rfl rfl rfl Try.underlying31) rfl ?_
 refine ad aa 1 rfl ?_
 refine af ?_
 refine aY ?_
 refine cz (β:=Nat×List Int) (fun (p:Nat×List Int)=>match p with|(q,dd)=>⟨[(1,(aC (iV l))),(2,(aC (.p 0 0 0 0))),(4,(aB false)),(5,(aC (iV m2))),(35,(aI (↑i:Int))),(47,(aI (↑u:Int))),(8,(aC (.p 3 0 0 0))),(14,(aC (.s 7 0 1 dd.length))),(135,(aC (mJ b20.aj))),(136,(aI (↑b20.aj.length:Int))),(137,(aI (↑q:Int)))],[(7,(dS dd)),(3,(.box 46 [(cI b20.time),(cB b20.down),(sG b20.ag),(fN b20.due),(mJ b20.aj),(cI b20.s0.bG),(dh b20.s0.kept),(cI b20.s1.bG),(dh b20.s1.kept),(cI b20.n0),(cI b20.n1),(ed b20.w0),(ed b20.w1),(cI b20.bx.cap),(fN b20.bx.used),(gK b20.bx.bb),(iw b20.aQ),(sF y20),(dR b20.book)])),(0,(.box 55 [(cR 3 ((s.cK).map fr)),(cI s.eY),(cI s.cap)]))],8⟩) (fun (p:Nat×List Int)=>match p with|(q,dd)=>q<=b20.aj.length/\DL b20 q dd) (fun (p:Nat×List Int)=>match p with|(q,dd)=>b20.aj.length - q) (0,List.replicate b20.due.length 0) ?_ ?_ ?_
 ·exact ⟨by omega,DL.start _⟩
 ·exact aJ.cc id (by refine ⟨?_,?_,?_,?_,?_,?_,?_,?_,?_,?_,?_,trivial⟩<;>first|rfl|(simp only [bn];done)|(congr 3;omega)|(congr 4;omega)|(simp only [bo];rfl)|(exact fy rfl (by simp))) (by refine ⟨?_,?_,?_,trivial⟩<;>first|rfl|(simp only [bn];done)|(congr 3;omega)|(congr 4;omega)|(simp only [bo];rfl)) rfl
 rintro ⟨q,dd⟩ ⟨hi5_0,hi5_1⟩
 have hlen:=hi5_1.len
 refine ae aa 1 rfl ?_
 refine ah ?_
 refine an rfl (fun hc19=>?_) (fun hc19=>?_)
 ·
  have hc19':=of_decide_eq_true hc19
  refine aU ?_
  refine ah ?_
  refine aY ?_
  refine eZ ?_
  obtain ⟨x1,hx1⟩:=cr (xs:=b20.aj) (i:=q) (by first|omega|(simp;done)|(simp;omega))
  have hx1w:=okp x1 (List.mem_of_getElem? hx1)
  have hx1A:=eE hx1w.1
  refine aE (db (i:=q) rfl rfl rfl Try.underlying31 mq (by first|omega|(simp;done)|(simp;omega)) (bz hx1)) rfl ?_
  refine ad aa 3 rfl ?_
  refine af ?_
  obtain ⟨x2,hx2⟩:=cr (xs:=dd) (i:=Int.toNat (x1.az)) (by first|omega|(simp;done)|(simp;omega))
  have hx2b:=hi5_1.b H hx2
  refine bd [1,2,4,5,35,47,8,14,135,136,137,16] [8,7,3,0] mixed rfl rfl ?_
  refine aF (kn:=[]) aa 6 rfl trivial ?_
  refine aX (n':=9) [144,146] [7] rfl rfl (.inl ⟨(aq.plain rfl),aM.cast (br (i:=Int.toNat (x1.az)) rfl rfl rfl Try.underlying30 fO (by first|omega|(simp;done)|(simp;omega)) (by first|omega|(simp;done)|(simp;omega))) rfl⟩) rfl ?_
  refine aX (n':=9) [147] [7] rfl rfl (.inl ⟨(aq.plain rfl),aM.cast (eJ rfl rfl rfl Try.underlying3 rfl (bz hx2) rfl) rfl⟩) rfl ?_
  refine aF (kn:=[]) aa 2 rfl trivial ?_
  refine aX (n':=9) [148,150] [] rfl rfl (.inl ⟨(aq.plain rfl),aM.cast (aN rfl rfl rfl (aK (by first|omega|(simp;done)|(simp;omega)))) rfl⟩) rfl ?_
  refine aF (kn:=[]) aa 2 rfl trivial ?_
  refine aX (n':=9) [151,153] [] rfl rfl (.inl ⟨(aq.plain rfl),aM.cast (aN rfl rfl rfl (aK (by first|omega|(simp;done)|(simp;omega)))) rfl⟩) rfl ?_
  refine aX (n':=9) [141,143] [7] rfl rfl (.inl ⟨(aq.plain rfl),aM.cast (br (i:=Int.toNat (x1.az)) rfl rfl rfl Try.underlying30 fO (by first|omega|(simp;done)|(simp;omega)) (by first|omega|(simp;done)|(simp;omega))) rfl⟩) rfl ?_
  refine bF [8,7,3,0] rfl rfl rfl rfl (by kernel_rfl) ?_
  refine gj [8,7,3,0] (dW (ds:=[(dI ((x2+x1.captured) - x1.bC))]) rfl rfl rfl rfl rfl fO rfl (Nat.le_of_ble_eq_true rfl) (bz hx2) rfl (eU (x':=(x2+x1.captured) - x1.bC) rfl)) rfl ?_
  refine cf ?_
  refine bq ?_
  refine then_ok ?_
  refine ay ?_
  refine aE (aN rfl rfl rfl (aK (by first|omega|(simp;done)|(simp;omega)))) rfl ?_
  refine ad aa 1 rfl ?_
  refine af ?_
  refine ⟨(q+1,(dd).set (Int.toNat (x1.az)) ((x2+x1.captured) - x1.bC)),⟨by omega,hi5_1.step hx1 (by omega) hx2 rfl⟩,by first|omega|(simp;done)|(simp;omega),aJ.cc id (by refine ⟨?_,?_,?_,?_,?_,?_,?_,?_,?_,?_,?_,trivial⟩<;>first|rfl|(simp only [bn];done)|(congr 3;omega)|(congr 4;omega)|(simp only [bo];rfl)|(exact fy rfl (by simp))) (by refine ⟨?_,?_,?_,trivial⟩<;>first|rfl|(simp only [bn];done)|(congr 3;omega)|(congr 4;omega)|(simp only [bo];rfl)) rfl⟩
 have hc19':=of_decide_eq_false hc19
 refine cp ?_
 refine aR ?_
 refine aR ?_
 refine bM ?_
 refine then_ok ?_
 refine aH aa 2 rfl ?_
 refine aP 8 [7,3,0] (ch 8 (Fn.frozen (av':=(.t [(.g [(cI b20.time),(cB b20.down),(sG b20.ag),(fN b20.due),(mJ b20.aj),(cI b20.s0.bG),(dh b20.s0.kept),(cI b20.s1.bG),(dh b20.s1.kept),(cI b20.n0),(cI b20.n1),(ed b20.w0),(ed b20.w1),(cI b20.bx.cap),(fN b20.bx.used),(gK b20.bx.bb),(iw b20.aQ),(sF y20),(dR b20.book)]),(.c (uy o20)),(.g [(cI f20.err),(cI f20.at_)])])) (qi s m2 b20 y20 o20 f20 hr0) ⟨⟨.inl ⟨_,rfl,rfl⟩,.inl ⟨_,rfl,rfl⟩,.inr ⟨_,_,_,_,_,rfl,rfl,rfl,by simp⟩,.inr ⟨_,_,_,_,_,rfl,rfl,rfl,by simp⟩,.inr ⟨_,_,_,_,_,rfl,rfl,rfl,by simp⟩,.inl ⟨_,rfl,rfl⟩,.inl ⟨_,rfl,rfl⟩,.inl ⟨_,rfl,rfl⟩,.inl ⟨_,rfl,rfl⟩,.inl ⟨_,rfl,rfl⟩,.inl ⟨_,rfl,rfl⟩,.inl ⟨_,rfl,rfl⟩,.inl ⟨_,rfl,rfl⟩,.inl ⟨_,rfl,rfl⟩,.inl ⟨_,rfl,rfl⟩,.inl ⟨_,rfl,rfl⟩,.inr ⟨_,_,_,_,_,rfl,rfl,rfl,by simp⟩,.inr ⟨_,_,_,_,_,rfl,rfl,rfl,by simp⟩,.inl ⟨_,rfl,rfl⟩,trivial⟩,.inr ⟨_,_,_,_,_,rfl,rfl,rfl,by simp⟩,⟨.inl ⟨_,rfl,rfl⟩,.inl ⟨_,rfl,rfl⟩,trivial⟩,trivial⟩) xj rfl rfl ⟨⟨_,rfl,.g ⟨.d _,.d _,.d _,trivial⟩⟩,⟨_,rfl,.c (.d _)⟩,trivial⟩ ⟨⟨trivial,trivial,trivial,trivial,trivial,trivial,trivial,trivial,trivial,trivial,trivial,trivial,trivial,trivial,trivial,trivial,trivial,trivial,trivial,trivial⟩,trivial,⟨trivial,trivial,trivial⟩,trivial⟩ trivial rfl rfl rfl rfl) rfl ?_
 refine ad aa 9 rfl ?_
 refine af ?_
 refine eZ ?_
 refine aP 11 [10,9,8,7,3,0] (Ao 10 rfl) rfl ?_
 refine ad aa 1 rfl ?_
 refine af ?_
 refine ah ?_
 refine aH aa 1 rfl ?_
 refine aE (cJ rfl rfl rfl rfl rfl Try.underlying24) rfl ?_
 refine ad aa 1 rfl ?_
 refine af ?_
 refine aY ?_
 refine cz (β:=Nat×List Int×List Int×Nat) (fun (p:Nat×List Int×List Int×Nat)=>match p with|(i2,dz,hl,cl)=>⟨[(1,(aC (iV l))),(2,(aC (.p 0 0 0 0))),(4,(aB false)),(5,(aC (iV m2))),(35,(aI (↑i:Int))),(47,(aI (↑u:Int))),(8,(aC (.p 3 0 0 0))),(14,(aC (.s 7 0 1 dz.length))),(135,(aC (mJ b20.aj))),(136,(aI (↑b20.aj.length:Int))),(137,(aI (↑q:Int))),(18,(aC (uy o20))),(20,(aC (.m 10))),(165,(aC (iV m2))),(166,(aI (↑m2.length:Int))),(167,(aI (↑i2:Int)))],[(10,(.map (bV hl) cl)),(7,(dS dz)),(3,(.box 46 [(cI b20.time),(cB b20.down),(sG b20.ag),(fN b20.due),(mJ b20.aj),(cI b20.s0.bG),(dh b20.s0.kept),(cI b20.s1.bG),(dh b20.s1.kept),(cI b20.n0),(cI b20.n1),(ed b20.w0),(ed b20.w1),(cI b20.bx.cap),(fN b20.bx.used),(gK b20.bx.bb),(iw b20.aQ),(sF y20),(dR b20.book)])),(0,(.box 55 [(cR 3 ((s.cK).map fr)),(cI s.eY),(cI s.cap)]))],11⟩) (fun (p:Nat×List Int×List Int×Nat)=>match p with|(i2,dz,hl,cl)=>i2<=m2.length/\DJ s m2 b20 i2 dz hl) (fun (p:Nat×List Int×List Int×Nat)=>match p with|(i2,dz,hl,cl)=>m2.length - i2) (0,dd,([]:List Int),0) ?_ ?_ ?_
 ·exact ⟨by omega,DJ.start (show DL b20 b20.aj.length dd by rw [show b20.aj.length=q by omega];exact hi5_1)⟩
 ·exact aJ.cc id (by refine ⟨?_,?_,?_,?_,?_,?_,?_,?_,?_,?_,?_,?_,?_,?_,?_,?_,trivial⟩<;>first|rfl|(simp only [bn];done)|(congr 3;omega)|(congr 4;omega)|(simp only [bo];rfl)|(first|exact cD rfl (by omega)|exact fy rfl (by first|omega|(simp only [List.length_append,List.length_cons,List.length_nil] at *;omega)))) (by refine ⟨?_,?_,?_,?_,trivial⟩<;>first|rfl|(simp only [bn];done)|(congr 3;omega)|(congr 4;omega)|(simp only [bo];rfl)) rfl
 rintro ⟨i2,dz,hl,cl⟩ ⟨hi6_0,hi6_1⟩
 have hlen6:=hi6_1.len
 refine ae aa 1 rfl ?_
 refine ah ?_
 refine an rfl (fun hc20=>?_) (fun hc20=>?_)
 ·
  have hc20':=of_decide_eq_true hc20
  refine aU ?_
  refine ah ?_
  refine aY ?_
  refine aH aa 1 rfl ?_
  obtain ⟨x1,hx1⟩:=cr (xs:=m2) (i:=i2) (by first|omega|(simp;done)|(simp;omega))
  refine aE (db (i:=i2) rfl rfl rfl Try.underlying24 Dt (by first|omega|(simp;done)|(simp;omega)) (bz hx1)) rfl ?_
  refine ad aa 4 rfl ?_
  refine af ?_
  refine ah ?_
  refine cA 180 ((decide (¬x1.id=0)) && (decide (x1.id∈hl))) ?_ ?_
  ·
   refine ay ?_
   refine ad aa 4 rfl ?_
   refine bH (t:=175) rfl (fun hb21=>?_) (fun hb21=>?_)
   ·
    have hb21':=of_decide_eq_true hb21
    refine ad aa 3 rfl ?_
    refine dG (aq.yes rfl rfl rfl) (Cz (ps:=hl) Try.underlying81 Try.underlying3 Kn rfl rfl rfl rfl) rfl rfl ?_
    refine ad aa 1 rfl ?_
    refine af ?_
    exact aJ.bK 10 rfl rfl (by first|(simp [hb21];done)|(simp_all;done)|(exfalso;simp_all;done)|(simp_all;omega)) rfl
   have hb21':=of_decide_eq_false hb21
   refine ad aa 5 rfl ?_
   refine af ?_
   exact aJ.bK 10 rfl rfl (by first|(simp [hb21];done)|(simp_all;done)|(exfalso;simp_all;done)|(simp_all;omega)) rfl
  refine an rfl (fun hc22=>?_) (fun hc22=>?_)
  ·
   have hc22':=hc22;try simp only [bA,bW] at hc22'
   refine cp ?_
   refine aR ?_
   refine bM ?_
   refine then_ok ?_
   refine ay ?_
   refine aE (aN rfl rfl rfl (aK (by first|omega|(simp;done)|(simp;omega)))) rfl ?_
   refine ad aa 1 rfl ?_
   refine af ?_
   refine ⟨(i2+1,dz,hl,cl),(by first|exact ⟨by omega,lf hr0 (by omega) hx1 hi6_1 (by simp_all) (by simp_all)⟩|exact ⟨by omega,kv hr0 (by omega) hx1 hi6_1 hn (by omega)⟩),by first|omega|(simp;done)|(simp;omega),aJ.cc id (by refine ⟨?_,?_,?_,?_,?_,?_,?_,?_,?_,?_,?_,?_,?_,?_,?_,?_,trivial⟩<;>first|rfl|(simp only [bn];done)|(congr 3;omega)|(congr 4;omega)|(simp only [bo];rfl)|(first|exact cD rfl (by omega)|exact fy rfl (by first|omega|(simp only [List.length_append,List.length_cons,List.length_nil] at *;omega)))) (by refine ⟨?_,?_,?_,?_,trivial⟩<;>first|rfl|(simp only [bn];done)|(congr 3;omega)|(congr 4;omega)|(simp only [bo];rfl)) rfl⟩
  have hc22':=hc22;try simp only [bA,bW] at hc22'
  refine aU ?_
  have hn:¬(¬x1.id=0/\x1.id∈hl):=by intro h;simp [h.1,h.2] at hc22
  refine aH aa 3 rfl ?_
  refine gj [11,10,7,3,0] (Cx Try.underlying81 Try.underlying3 rfl rfl rfl rfl rfl) rfl ?_
  refine af ?_
  refine aH aa 4 rfl ?_
  refine bH (t:=187) rfl (fun hb23=>?_) (fun hb23=>?_)
  ·
   have hb23':=of_decide_eq_true hb23
   refine ad aa 2 rfl ?_
   obtain ⟨x2,hx2⟩:=cr (xs:=o20) (i:=i2) (by first|omega|(simp;done)|(simp;omega))
   refine dG (aq.yes rfl rfl rfl) (db (i:=i2) rfl rfl rfl Try.underlying47 Gx (by first|omega|(simp;done)|(simp;omega)) (bz hx2)) rfl rfl ?_
   refine ad aa 4 rfl ?_
   refine af ?_
   refine an rfl (fun hc24=>?_) (fun hc24=>?_)
   ·
    have hc24':=of_decide_eq_true hc24
    obtain ⟨hN,hPl⟩:=((lC hr0 (by omega) hx1 hx2 hi6_1).2 hn).2 (by omega) (by omega)
    refine ah ?_
    obtain ⟨b23,y23,o23,f23,hr3⟩:∃ (b23:Bk) (y23:List (List Int)) (o23:List Answer) (f23:cV),fi s (((m2).drop 0).take (i2 - 0))=(b23,y23,o23,f23):=⟨_,_,_,_,rfl⟩
    obtain ⟨hcl,hcb,hstep⟩:=hPl _ _ _ _ hr3
    refine dr [1,2,4,5,35,47,8,14,135,136,137,18,20,165,166,167,22,21] [11,10,7,3,0] mixed rfl rfl ?_
    refine bU (kn:=[]) aa 3 rfl trivial ?_
    refine ca (n':=12) [197,198] [] rfl rfl (.inl ⟨(aq.plain rfl),aM.cast (sa (l:=0) (h:=i2) (ys:=(((m2).drop 0).take (i2 - 0)).map cX) rfl Try.underlying24 Dt rfl (.inl ⟨rfl,rfl⟩) (.inr ⟨_,rfl,rfl⟩) (by first|omega|(simp;done)|(simp;omega)) (by first|omega|(simp;done)|(simp;omega)) (by simp)) rfl⟩) rfl ?_
    refine ca (n':=12) [196,199] [] rfl rfl (.inl ⟨(aq.plain rfl),aM.cast (ch 12 (Fn.frozen (av':=(.t [(.g [(cI b23.time),(cB b23.down),(sG b23.ag),(fN b23.due),(mJ b23.aj),(cI b23.s0.bG),(dh b23.s0.kept),(cI b23.s1.bG),(dh b23.s1.kept),(cI b23.n0),(cI b23.n1),(ed b23.w0),(ed b23.w1),(cI b23.bx.cap),(fN b23.bx.used),(gK b23.bx.bb),(iw b23.aQ),(sF y23),(dR b23.book)]),(.c (uy o23)),(.g [(cI f23.err),(cI f23.at_)])])) (qi s (((m2).drop 0).take (i2 - 0)) b23 y23 o23 f23 hr3) ⟨⟨.inl ⟨_,rfl,rfl⟩,.inl ⟨_,rfl,rfl⟩,.inr ⟨_,_,_,_,_,rfl,rfl,rfl,by simp⟩,.inr ⟨_,_,_,_,_,rfl,rfl,rfl,by simp⟩,.inr ⟨_,_,_,_,_,rfl,rfl,rfl,by simp⟩,.inl ⟨_,rfl,rfl⟩,.inl ⟨_,rfl,rfl⟩,.inl ⟨_,rfl,rfl⟩,.inl ⟨_,rfl,rfl⟩,.inl ⟨_,rfl,rfl⟩,.inl ⟨_,rfl,rfl⟩,.inl ⟨_,rfl,rfl⟩,.inl ⟨_,rfl,rfl⟩,.inl ⟨_,rfl,rfl⟩,.inl ⟨_,rfl,rfl⟩,.inl ⟨_,rfl,rfl⟩,.inr ⟨_,_,_,_,_,rfl,rfl,rfl,by simp⟩,.inr ⟨_,_,_,_,_,rfl,rfl,rfl,by simp⟩,.inl ⟨_,rfl,rfl⟩,trivial⟩,.inr ⟨_,_,_,_,_,rfl,rfl,rfl,by simp⟩,⟨.inl ⟨_,rfl,rfl⟩,.inl ⟨_,rfl,rfl⟩,trivial⟩,trivial⟩) xj rfl rfl ⟨⟨_,rfl,.g ⟨.d _,.d _,.d _,trivial⟩⟩,⟨_,rfl,.c (.d _)⟩,trivial⟩ ⟨⟨trivial,trivial,trivial,trivial,trivial,trivial,trivial,trivial,trivial,trivial,trivial,trivial,trivial,trivial,trivial,trivial,trivial,trivial,trivial,trivial⟩,trivial,⟨trivial,trivial,trivial⟩,trivial⟩ trivial rfl rfl rfl rfl) rfl⟩) rfl ?_
    refine bU (n':=14) (kn:=[]) aa 9 rfl trivial ?_
    refine ef [1,2,4,5,35,47,8,14,135,136,137,18,20,165,166,167,22,23] [12,11,10,7,3,0] rfl rfl (by kernel_rfl) ?_
    refine then_ok ?_
    obtain ⟨x3,hx3⟩:=cr (xs:=dz) (i:=Int.toNat (x1.n)) (by first|omega|(simp;done)|(simp;omega))
    have hx3b:=hi6_1.b H hsw (by omega) hx3
    obtain ⟨x4,hx4⟩:=cr (xs:=b23.due) (i:=Int.toNat (x1.n)) (by first|omega|(simp;done)|(simp;omega))
    have hx4b:=hcb x4 (List.mem_of_getElem? hx4)
    refine bd [1,2,4,5,35,47,8,14,135,136,137,18,20,165,166,167,22,23] [12,11,10,7,3,0] mixed rfl rfl ?_
    refine aF (kn:=[]) aa 6 rfl trivial ?_
    refine aX (n':=14) [207,209] [7] rfl rfl (.inl ⟨(aq.plain rfl),aM.cast (br (i:=Int.toNat (x1.n)) rfl rfl rfl Try.underlying30 fO (by first|omega|(simp;done)|(simp;omega)) (by first|omega|(simp;done)|(simp;omega))) rfl⟩) rfl ?_
    refine aX (n':=14) [210] [7] rfl rfl (.inl ⟨(aq.plain rfl),aM.cast (eJ rfl rfl rfl Try.underlying3 rfl (bz hx3) rfl) rfl⟩) rfl ?_
    refine aF (kn:=[]) aa 4 rfl trivial ?_
    refine aX (n':=14) [213,215] [] rfl rfl (.inl ⟨(aq.plain rfl),aM.cast (db (i:=Int.toNat (x1.n)) rfl rfl rfl Try.underlying30 fO (by first|omega|(simp;done)|(simp;omega)) (bz hx4)) rfl⟩) rfl ?_
    refine aF (kn:=[]) aa 1 rfl trivial ?_
    refine aX (n':=14) [211,217] [] rfl rfl (.inl ⟨(aq.plain rfl),aM.cast (aN rfl rfl rfl (aK (by first|omega|(simp;done)|(simp;omega)))) rfl⟩) rfl ?_
    refine aX (n':=14) [204,206] [7] rfl rfl (.inl ⟨(aq.plain rfl),aM.cast (br (i:=Int.toNat (x1.n)) rfl rfl rfl Try.underlying30 fO (by first|omega|(simp;done)|(simp;omega)) (by first|omega|(simp;done)|(simp;omega))) rfl⟩) rfl ?_
    refine bF [12,11,10,7,3,0] rfl rfl rfl rfl (by kernel_rfl) ?_
    refine gj [12,11,10,7,3,0] (dW (ds:=[(dI (x3 - x4))]) rfl rfl rfl rfl rfl fO rfl (Nat.le_of_ble_eq_true rfl) (bz hx3) rfl (eU (x':=x3 - x4) rfl)) rfl ?_
    refine cf ?_
    refine bq ?_
    refine then_ok ?_
    refine ay ?_
    refine aE (aN rfl rfl rfl (aK (by first|omega|(simp;done)|(simp;omega)))) rfl ?_
    refine ad aa 1 rfl ?_
    refine af ?_
    refine ⟨(i2+1,(dz).set (Int.toNat (x1.n)) (x3 - x4),lM hl x1.id,if x1.id∈hl then cl else cl+1),(by first|exact ⟨by omega,lf hr0 (by omega) hx1 hi6_1 (by simp_all) (by simp_all)⟩|exact ⟨by omega,kv hr0 (by omega) hx1 hi6_1 hn (by omega)⟩|exact ⟨by omega,((lC hr0 (by omega) hx1 hx2 hi6_1).2 hn).1 (by omega)⟩|exact ⟨by omega,hstep _ _ _ hx3 hx4 rfl⟩),by first|omega|(simp;done)|(simp;omega),aJ.cc id (by refine ⟨?_,?_,?_,?_,?_,?_,?_,?_,?_,?_,?_,?_,?_,?_,?_,?_,trivial⟩<;>first|rfl|(simp only [bn];done)|(congr 3;omega)|(congr 4;omega)|(simp only [bo];rfl)|(first|exact cD rfl (by omega)|exact fy rfl (by first|omega|(simp only [List.length_append,List.length_cons,List.length_nil] at *;omega)))) (by refine ⟨?_,?_,?_,?_,trivial⟩<;>first|rfl|(simp only [bn];done)|(congr 3;omega)|(congr 4;omega)|(simp only [bo];rfl)) rfl⟩
   have hc24':=of_decide_eq_false hc24
   refine dg ?_
   refine bq ?_
   refine then_ok ?_
   refine ay ?_
   refine aE (aN rfl rfl rfl (aK (by first|omega|(simp;done)|(simp;omega)))) rfl ?_
   refine ad aa 1 rfl ?_
   refine af ?_
   refine ⟨(i2+1,dz,lM hl x1.id,if x1.id∈hl then cl else cl+1),(by first|exact ⟨by omega,lf hr0 (by omega) hx1 hi6_1 (by simp_all) (by simp_all)⟩|exact ⟨by omega,kv hr0 (by omega) hx1 hi6_1 hn (by omega)⟩|exact ⟨by omega,((lC hr0 (by omega) hx1 hx2 hi6_1).2 hn).1 (by omega)⟩),by first|omega|(simp;done)|(simp;omega),aJ.cc id (by refine ⟨?_,?_,?_,?_,?_,?_,?_,?_,?_,?_,?_,?_,?_,?_,?_,?_,trivial⟩<;>first|rfl|(simp only [bn];done)|(congr 3;omega)|(congr 4;omega)|(simp only [bo];rfl)|(first|exact cD rfl (by omega)|exact fy rfl (by first|omega|(simp only [List.length_append,List.length_cons,List.length_nil] at *;omega)))) (by refine ⟨?_,?_,?_,?_,trivial⟩<;>first|rfl|(simp only [bn];done)|(congr 3;omega)|(congr 4;omega)|(simp only [bo];rfl)) rfl⟩
  have hb23':=of_decide_eq_false hb23
  refine ad aa 7 rfl ?_
  refine af ?_
  refine an rfl (fun hno=>by cases hno) (fun _=>?_)
  refine dg ?_
  refine bq ?_
  refine then_ok ?_
  refine ay ?_
  refine aE (aN rfl rfl rfl (aK (by first|omega|(simp;done)|(simp;omega)))) rfl ?_
  refine ad aa 1 rfl ?_
  refine af ?_
  refine ⟨(i2+1,dz,lM hl x1.id,if x1.id∈hl then cl else cl+1),(by first|exact ⟨by omega,lf hr0 (by omega) hx1 hi6_1 (by simp_all) (by simp_all)⟩|exact ⟨by omega,kv hr0 (by omega) hx1 hi6_1 hn (by omega)⟩),by first|omega|(simp;done)|(simp;omega),aJ.cc id (by refine ⟨?_,?_,?_,?_,?_,?_,?_,?_,?_,?_,?_,?_,?_,?_,?_,?_,trivial⟩<;>first|rfl|(simp only [bn];done)|(congr 3;omega)|(congr 4;omega)|(simp only [bo];rfl)|(first|exact cD rfl (by omega)|exact fy rfl (by first|omega|(simp only [List.length_append,List.length_cons,List.length_nil] at *;omega)))) (by refine ⟨?_,?_,?_,?_,trivial⟩<;>first|rfl|(simp only [bn];done)|(congr 3;omega)|(congr 4;omega)|(simp only [bo];rfl)) rfl⟩
 have hc20':=of_decide_eq_false hc20
 refine cp ?_
 refine aR ?_
 refine aR ?_
 refine bM ?_
 refine then_ok ?_
 refine ah ?_
 refine aH aa 1 rfl ?_
 refine aE (dH rfl rfl rfl rfl rfl Try.underlying30) rfl ?_
 refine ad aa 1 rfl ?_
 refine af ?_
 refine aY ?_
 obtain ⟨he1,he2⟩:=AD hr0 (by omega) (show DJ s m2 b20 m2.length dz hl by rw [show m2.length=i2 by omega];exact hi6_1) dk0 dk1
 refine cz (β:=Nat) (fun (k7:Nat)=>⟨[(1,(aC (iV l))),(2,(aC (.p 0 0 0 0))),(5,(aC (iV m2))),(35,(aI (↑i:Int))),(47,(aI (↑u:Int))),(8,(aC (.p 3 0 0 0))),(14,(aC (.s 7 0 1 dz.length))),(135,(aC (mJ b20.aj))),(136,(aI (↑b20.aj.length:Int))),(137,(aI (↑q:Int))),(18,(aC (uy o20))),(20,(aC (.m 10))),(165,(aC (iV m2))),(166,(aI (↑m2.length:Int))),(167,(aI (↑i2:Int))),(222,(aI (↑dz.length:Int))),(223,(aI (↑k7:Int)))],[(10,(.map (bV hl) cl)),(7,(dS dz)),(3,(.box 46 [(cI b20.time),(cB b20.down),(sG b20.ag),(fN b20.due),(mJ b20.aj),(cI b20.s0.bG),(dh b20.s0.kept),(cI b20.s1.bG),(dh b20.s1.kept),(cI b20.n0),(cI b20.n1),(ed b20.w0),(ed b20.w1),(cI b20.bx.cap),(fN b20.bx.used),(gK b20.bx.bb),(iw b20.aQ),(sF y20),(dR b20.book)])),(0,(.box 55 [(cR 3 ((s.cK).map fr)),(cI s.eY),(cI s.cap)]))],11⟩) (fun (k7:Nat)=>k7<=dz.length) (fun (k7:Nat)=>dz.length - k7) 0 ?_ ?_ ?_
 ·exact (by omega)
 ·exact aJ.cc id (by refine ⟨?_,?_,?_,?_,?_,?_,?_,?_,?_,?_,?_,?_,?_,?_,?_,?_,?_,trivial⟩<;>first|rfl|(simp only [bn];done)|(congr 3;omega)|(congr 4;omega)|(simp only [bo];rfl)) (by refine ⟨?_,?_,?_,?_,trivial⟩<;>first|rfl|(simp only [bn];done)|(congr 3;omega)|(congr 4;omega)|(simp only [bo];rfl)) rfl
 rintro k7 hi7_0
 refine ae aa 1 rfl ?_
 refine ah ?_
 refine an rfl (fun hc26=>?_) (fun hc26=>?_)
 ·
  have hc26':=of_decide_eq_true hc26
  refine aU ?_
  refine ah ?_
  refine aY ?_
  refine ae aa 2 rfl ?_
  refine ah ?_
  obtain ⟨x1,hx1⟩:=cr (xs:=b20.due) (i:=k7) (by first|omega|(simp;done)|(simp;omega))
  have hx1b:=Az H x1 (List.mem_of_getElem? hx1)
  obtain ⟨x2,hx2⟩:=cr (xs:=dz) (i:=k7) (by first|omega|(simp;done)|(simp;omega))
  have hx2b:=hi6_1.b H hsw (by omega) hx2
  refine bd [1,2,5,35,47,8,14,135,136,137,18,20,165,166,167,222,223,26] [10,7,3,0] mixed rfl rfl ?_
  refine aF (kn:=[]) aa 3 rfl trivial ?_
  refine aX (n':=11) [227,228] [] rfl rfl (.inl ⟨(aq.plain rfl),aM.cast (db (i:=k7) rfl rfl rfl Try.underlying30 fO (by first|omega|(simp;done)|(simp;omega)) (bz hx1)) rfl⟩) rfl ?_
  refine aF (kn:=[]) aa 3 rfl trivial ?_
  refine aX (n':=11) [231,232] [7] rfl rfl (.inl ⟨(aq.plain rfl),aM.cast (br (i:=k7) rfl rfl rfl Try.underlying30 fO (by first|omega|(simp;done)|(simp;omega)) (by first|omega|(simp;done)|(simp;omega))) rfl⟩) rfl ?_
  refine aX (n':=11) [233] [7] rfl rfl (.inl ⟨(aq.plain rfl),aM.cast (eJ rfl rfl rfl Try.underlying3 rfl (bz hx2) rfl) rfl⟩) rfl ?_
  refine aF (kn:=[]) aa 1 rfl trivial ?_
  refine bF [10,7,3,0] rfl rfl rfl rfl (by kernel_rfl) ?_
  refine af ?_
  refine an rfl (fun hc27=>?_) (fun hc27=>?_)
  ·
   have hc27':=of_decide_eq_true hc27
   refine ae aa 1 rfl ?_
   refine aA ?_
   refine bm ?_
   refine ax ?_
   refine ax ?_
   refine bm ?_
   refine ax ?_
   refine aw aa [] 0 rfl rfl rfl rfl rfl rfl ?_ ?_
   ·exact congrArg aB (show (false)=true by (exfalso;have:=he2 _ _ _ hx1 hx2;omega))
   ·rfl
  have hc27':=of_decide_eq_false hc27
  refine dg ?_
  refine bq ?_
  refine then_ok ?_
  refine ay ?_
  refine aE (aN rfl rfl rfl (aK (by first|omega|(simp;done)|(simp;omega)))) rfl ?_
  refine ad aa 1 rfl ?_
  refine af ?_
  refine ⟨k7+1,by omega,by first|omega|(simp;done)|(simp;omega),aJ.cc id (by refine ⟨?_,?_,?_,?_,?_,?_,?_,?_,?_,?_,?_,?_,?_,?_,?_,?_,?_,trivial⟩<;>first|rfl|(simp only [bn];done)|(congr 3;omega)|(congr 4;omega)|(simp only [bo];rfl)) (by refine ⟨?_,?_,?_,?_,trivial⟩<;>first|rfl|(simp only [bn];done)|(congr 3;omega)|(congr 4;omega)|(simp only [bo];rfl)) rfl⟩
 have hc26':=of_decide_eq_false hc26
 refine cp ?_
 refine aR ?_
 refine aR ?_
 refine bM ?_
 refine then_ok ?_
 refine ae aa 1 rfl ?_
 refine aA ?_
 refine aw aa [] 0 rfl rfl rfl rfl rfl rfl ?_ ?_
 ·rfl
 ·rfl
end Go.Proofs.Ytegepioggeggaaa.Dev
