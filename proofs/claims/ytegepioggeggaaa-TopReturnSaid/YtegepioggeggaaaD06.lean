/- A part of the proof: PlBook, Com, Book5, Book7, Book9, PlSort, PlSort2. No condition. -/
import Derived.Test.YtegepioggeggaaaD05
set_option linter.unusedVariables false
set_option linter.unusedSimpArgs false
set_option maxHeartbeats 2000000
set_option maxRecDepth 100000
namespace Go.Proofs.Ytegepioggeggaaa.Dev
open Go.RowKit
def eV (x:Entry):Prop:=x.aN < 0\/x.aN > 57\/x.sum < -1000000000000\/x.sum > 1000000000000
instance (x:Entry):Decidable (eV x):=by unfold eV;infer_instance
def kQ (l:List Entry) (q:Nat):Int:=
 match l[q]? with
 |some x=>if eV x then 3 else if (0 < q/\(l.getD (q - 1) ⟨0,0⟩).aN>=x.aN)\/x.sum=0 then 2 else 0
 |none=>0
def en:List Entry->Int
 |[]=>0
 |x::l=>x.sum+en l
def dn (l:List Entry):cT:=if (scan (kQ l) 0 l.length).1≠0 then ⟨(scan (kQ l) 0 l.length).1,(scan (kQ l) 0 l.length).2⟩ else if en l≠0 then ⟨8,0⟩ else ⟨0,0⟩
theorem zq (x:Entry) (l:List Entry):en (x::l)=x.sum+en l:=rfl
theorem Ag (x:Entry) (l:List Entry) (a:Int):cc (x::l) a=if x.aN=a then x.sum else cc l a:=rfl
theorem mn (l r:List Entry):en (l++r)=en l+en r:=by
 induction l with
 |nil=>simp [en]
 |cons x l ih=>simp only [List.cons_append,en,ih];omega
theorem sT {α:Type} {l:List α} {q:Nat} {x:α} (h:l[q]?=some x):l.take (q+1)=l.take q++[x]:=by
 obtain ⟨hlt,rfl⟩:=List.getElem?_eq_some_iff.1 h
 rw [List.take_add_one,List.getElem?_eq_getElem hlt];rfl
theorem js {l:List Entry} {q:Nat} {x:Entry} (h:l[q]?=some x):en (l.take (q+1))=en (l.take q)+x.sum:=by
 rw [sT h,mn];simp [en]
def iG (l:List Entry) (q:Nat):Int:=if q=0 then -1 else (l.getD (q - 1) ⟨0,0⟩).aN
theorem jL {l:List Entry} {q:Nat} {x:Entry} (h:l[q]?=some x):iG l (q+1)=x.aN:=by
 unfold iG
 rw [if_neg (by omega),List.getD_eq_getElem?_getD,Nat.add_sub_cancel,h];rfl
theorem kG {l:List Entry} {q:Nat} {x:Entry} (hq:0 < q) (h:l[q - 1]?=some x):iG l q=x.aN:=by
 unfold iG
 rw [if_neg (by omega),List.getD_eq_getElem?_getD,h];rfl
theorem hJ {l:List Entry} {q:Nat} {x:Entry} (h:l[q]?=some x):kQ l q=if eV x then 3 else if (0 < q/\iG l q>=x.aN)\/x.sum=0 then 2 else 0:=by
 unfold kQ
 rw [h]
 by_cases hq:q=0
 ·subst hq;simp
 ·unfold iG;rw [if_neg hq]
structure gQ (l:List Entry):Prop where
 up:Up l
 ok:∀ x∈l,0<=x.aN/\x.aN<=57/\-1000000000000<=x.sum/\x.sum<=1000000000000/\x.sum≠0
theorem FB {l:List Entry} (h:∀ q x y,l[q]?=some x->l[q+1]?=some y->x.aN < y.aN):Up l:=by
 unfold Up
 induction l with
 |nil=>exact List.Pairwise.nil
 |cons x l ih=>
  have h2:=ih fun q a b ha hb=>h (q+1) a b (by simpa using ha) (by simpa using hb)
  refine List.pairwise_cons.2 ⟨fun y hy=>?_,h2⟩
  cases l with
  |nil=>cases hy
  |cons z l=>
   have hz:=h 0 x z (by simp) (by simp)
   rcases List.mem_cons.1 hy with rfl|hy
   ·exact hz
   ·have:=(List.pairwise_cons.1 h2).1 y hy;omega
theorem zh {l:List Entry} (h:Up l) {i j:Nat} {x y:Entry} (hij:i < j) (hx:l[i]?=some x) (hy:l[j]?=some y):x.aN < y.aN:=by
 obtain ⟨hi,rfl⟩:=List.getElem?_eq_some_iff.1 hx
 obtain ⟨hj,rfl⟩:=List.getElem?_eq_some_iff.1 hy
 exact List.pairwise_iff_getElem.1 h i j hi hj hij
theorem zw {l:List Entry}:(scan (kQ l) 0 l.length).1=0↔gQ l:=by
 rw [nj]
 constructor
 ·intro h
  have at':∀ q x,l[q]?=some x->¬eV x/\¬((0 < q/\iG l q>=x.aN)\/x.sum=0):=fun q x hx=>by
   have hq:=(List.getElem?_eq_some_iff.1 hx).1
   have h1:=h q (Nat.zero_le _) (by omega)
   rw [hJ hx] at h1
   split at h1
   ·cases h1
   ·split at h1
    ·cases h1
    ·exact ⟨by assumption,by assumption⟩
  refine ⟨FB fun q x y hx hy=>?_,fun x hx=>?_⟩
  ·have h1:=(at' (q+1) y hy).2
   rw [jL hx] at h1
   omega
  ·obtain ⟨q,hq⟩:=List.getElem?_of_mem hx
   have h1:=at' q x hq
   unfold eV at h1
   omega
 ·intro h q _ hq
  obtain ⟨x,hx⟩:∃ x,l[q]?=some x:=⟨_,List.getElem?_eq_getElem (by omega)⟩
  have h1:=h.ok x (List.mem_of_getElem? hx)
  rw [hJ hx,if_neg (by unfold eV;omega),if_neg]
  rintro (⟨h2,h3⟩|h2)
  ·obtain ⟨y,hy⟩:∃ y,l[q - 1]?=some y:=⟨_,List.getElem?_eq_getElem (by omega)⟩
   rw [kG h2 hy] at h3
   have:=zh h.up (by omega:q - 1 < q) hy hx
   omega
  ·exact h1.2.2.2.2 h2
theorem jz {l:List Entry}:(dn l).err=0↔gQ l/\en l=0:=by
 unfold dn
 rw [<-zw]
 split
 ·rename_i h;constructor
  ·intro h1;exact absurd h1 h
  ·intro h1;exact absurd h1.1 h
 ·rename_i h
  split
  ·rename_i h2;constructor
   ·intro h1;cases h1
   ·intro h1;exact absurd h1.2 h2
  ·rename_i h2;constructor
   ·intro _;exact ⟨by omega,by omega⟩
   ·intro _;rfl
theorem tc {l:List Entry} (h:gQ l):l.length<=58:=by
 have key:∀ (q:Nat) (x:Entry),l[q]?=some x->(q:Int)<=x.aN:=by
  intro q
  induction q with
  |zero=>intro x hx;have:=h.ok x (List.mem_of_getElem? hx);omega
  |succ q ih=>
   intro x hx
   have hq:=(List.getElem?_eq_some_iff.1 hx).1
   obtain ⟨y,hy⟩:∃ y,l[q]?=some y:=⟨_,List.getElem?_eq_getElem (by omega)⟩
   have h1:=ih y hy
   have h2:=zh h.up (by omega:q < q+1) hy hx
   omega
 by_cases hl:l.length=0
 ·omega
 ·obtain ⟨x,hx⟩:∃ x,l[l.length - 1]?=some x:=⟨_,List.getElem?_eq_getElem (by omega)⟩
  have h1:=key _ x hx
  have h2:=h.ok x (List.mem_of_getElem? hx)
  omega
theorem lP {x:Entry} {l:List Entry} {a s:Int} (h:x.aN < a):gH (x::l) a s=x::gH l a s:=by
 unfold gH
 rw [oL h,show dZ (x::l) a=dZ l a+1 by simp [dZ,h]]
 cases fz l a<;>simp
theorem lO {x:Entry} {l:List Entry} {a s:Int} (h:x.aN=a):gH (x::l) a s=(if s=0 then [] else [⟨a,s⟩])++l:=by
 unfold gH
 rw [lV (by omega),show dZ (x::l) a=0 by simp [dZ];omega]
 simp [h]
theorem nf {x:Entry} {l:List Entry} {a s:Int} (h:a < x.aN):gH (x::l) a s=(if s=0 then [] else [⟨a,s⟩])++x::l:=by
 unfold gH
 rw [lV (by omega),show dZ (x::l) a=0 by simp [dZ];omega]
 have:¬x.aN=a:=by omega
 simp [this]
theorem nd (a s:Int):gH [] a s=if s=0 then [] else [⟨a,s⟩]:=by simp [gH,dZ,fz]
theorem qk {a s:Int}:∀ {l:List Entry} {x:Entry},x∈gH l a s->x∈l\/(x=⟨a,s⟩/\s≠0)
 |[],x,h=>by
  rw [nd] at h
  split at h
  ·cases h
  ·rename_i h0;exact .inr ⟨by simpa using h,h0⟩
 |y::l,x,h=>by
  have one:x∈(if s=0 then [] else [(⟨a,s⟩:Entry)])->x=⟨a,s⟩/\s≠0:=fun h=>by
   split at h
   ·cases h
   ·rename_i h0;exact ⟨by simpa using h,h0⟩
  rcases Int.lt_trichotomy y.aN a with h1|h1|h1
  ·rw [lP h1] at h
   rcases List.mem_cons.1 h with rfl|h
   ·exact .inl List.mem_cons_self
   ·rcases qk h with h|h
    ·exact .inl (List.mem_cons_of_mem _ h)
    ·exact .inr h
  ·rw [lO h1] at h
   rcases List.mem_append.1 h with h|h
   ·exact .inr (one h)
   ·exact .inl (List.mem_cons_of_mem _ h)
  ·rw [nf h1] at h
   rcases List.mem_append.1 h with h|h
   ·exact .inr (one h)
   ·exact .inl h
theorem jr {x:Entry} {l:List Entry}:Up (x::l)↔(∀ y∈l,x.aN < y.aN)/\Up l:=List.pairwise_cons
theorem sf {a s:Int}:∀ {l:List Entry},Up l->Up (gH l a s)
 |[],_=>by rw [nd];split;exact List.Pairwise.nil;exact List.pairwise_singleton _ _
 |y::l,h=>by
  obtain ⟨h1,h2⟩:=jr.1 h
  rcases Int.lt_trichotomy y.aN a with h3|h3|h3
  ·rw [lP h3]
   refine jr.2 ⟨fun z hz=>?_,sf h2⟩
   rcases qk hz with hz|⟨rfl,_⟩
   ·exact h1 z hz
   ·exact h3
  ·rw [lO h3]
   split
   ·exact h2
   ·exact jr.2 ⟨fun z hz=>by have:=h1 z hz;show a < z.aN;omega,h2⟩
  ·rw [nf h3]
   split
   ·exact h
   ·exact jr.2 ⟨fun z hz=>by
     show a < z.aN
     rcases List.mem_cons.1 hz with rfl|hz
     ·exact h3
     ·have:=h1 z hz;omega,h⟩
theorem qw (a s b:Int) (l:List Entry):cc ((if s=0 then [] else [⟨a,s⟩])++l) b=if s≠0/\a=b then s else cc l b:=by
 by_cases h:s=0
 ·simp [h]
 ·simp [h,cc]
theorem qv {a s b:Int}:∀ {l:List Entry},Up l->cc (gH l a s) b=if a=b then s else cc l b
 |[],_=>by
  have:=qw a s b []
  rw [List.append_nil] at this
  rw [nd,this]
  by_cases h:s=0
  ·subst h;simp [cc]
  ·simp [h]
 |y::l,h=>by
  obtain ⟨h1,h2⟩:=jr.1 h
  rcases Int.lt_trichotomy y.aN a with h3|h3|h3
  ·rw [lP h3]
   unfold cc
   rw [qv h2]
   by_cases h4:y.aN=b
   ·rw [if_pos h4,if_pos h4,if_neg (by omega)]
   ·rw [if_neg h4,if_neg h4]
  ·rw [lO h3,qw]
   by_cases h4:a=b
   ·subst h4
    by_cases h5:s=0
    ·subst h5;simp;exact iA fun z hz=>by have:=h1 z hz;omega
    ·simp [h5]
   ·rw [if_neg (fun h=>h4 h.2),if_neg h4]
    conv=>rhs;unfold cc
    rw [if_neg (by omega)]
  ·rw [nf h3,qw]
   by_cases h4:a=b
   ·subst h4
    by_cases h5:s=0
    ·subst h5;simp;exact iA fun z hz=>by
      rcases List.mem_cons.1 hz with rfl|hz
      ·exact h3
      ·have:=h1 z hz;omega
    ·simp [h5]
   ·rw [if_neg (fun h=>h4 h.2),if_neg h4]
theorem uH {a s:Int}:∀ {l:List Entry},Up l->en (gH l a s)=en l - cc l a+s
 |[],_=>by
  rw [nd]
  by_cases h:s=0
  ·subst h;simp [en,cc]
  ·simp [h,en,cc]
 |y::l,h=>by
  obtain ⟨h1,h2⟩:=jr.1 h
  have one:en (if s=0 then [] else [(⟨a,s⟩:Entry)])=s:=by split<;>simp_all [en]
  rcases Int.lt_trichotomy y.aN a with h3|h3|h3
  ·rw [lP h3]
   unfold en cc
   rw [uH h2,if_neg (by omega)];omega
  ·rw [lO h3,mn,one]
   conv=>rhs;unfold en cc
   rw [if_pos h3];omega
  ·rw [nf h3,mn,one,iA fun z hz=>by
    rcases List.mem_cons.1 hz with rfl|hz
    ·exact h3
    ·have:=h1 z hz;omega]
   omega
theorem qY {l:List Entry} {a s:Int} (h:gQ l) (ha:0<=a/\a<=57) (hs:-1000000000000<=s/\s<=1000000000000):gQ (gH l a s):=
 ⟨sf h.up,fun x hx=>by
  rcases qk hx with hx|⟨rfl,h0⟩
  ·exact h.ok x hx
  ·exact ⟨ha.1,ha.2,hs.1,hs.2,h0⟩⟩
def fc:List Entry->List Entry->Option (List Entry)
 |l,[]=>some l
 |l,e::es=>if iq (cc l e.aN+e.sum)=true then fc (gH l e.aN (cc l e.aN+e.sum)) es else none
def fZ (l es:List Entry):List Entry×Int:=
 if (dn l).err≠0 then ([],(dn l).err)
 else if es.length > 10 then ([],5)
 else if ∃ x∈es,eV x then ([],3)
 else if en es≠0 then ([],8)
 else match fc l es with
  |some r=>(r,0)
  |none=>([],4)
theorem lW {s:Int}:iq s=true↔-1000000000000<=s/\s<=1000000000000:=by
 unfold iq;simp only [Bool.and_eq_true,decide_eq_true_eq,ge_iff_le]
theorem pM {l es:List Entry} {q:Nat} {e:Entry} (h:es[q]?=some e):fc l (es.drop q)=if iq (cc l e.aN+e.sum)=true then fc (gH l e.aN (cc l e.aN+e.sum)) (es.drop (q+1)) else none:=by
 obtain ⟨hq,rfl⟩:=List.getElem?_eq_some_iff.1 h
 rw [List.drop_eq_getElem_cons hq];rfl
def fT (n:Nat):Nat->(Int->Int)->List Entry
 |0,_=>[]
 |m+1,f=>(if f n=0 then [] else [⟨n,f n⟩])++fT (n+1) m f
def lE (f:Int->Int):Nat->List Entry
 |0=>[]
 |k+1=>lE f k++if f k=0 then [] else [⟨k,f k⟩]
theorem pX (f:Int->Int):∀ m k,lE f k++fT k m f=lE f (k+m)
 |0,k=>by simp [fT]
 |m+1,k=>by
  have:=pX f m (k+1)
  have e1:lE f (k+1)=lE f k++(if f k=0 then [] else [⟨k,f k⟩]):=rfl
  have e2:fT k (m+1) f=(if f k=0 then [] else [⟨k,f k⟩])++fT (k+1) m f:=rfl
  rw [show k+(m+1)=k+1+m by omega,<-this,e1,e2,List.append_assoc]
theorem mT {f g:Int->Int}:∀ {m n:Nat},(∀ a:Int,(n:Int)<=a->f a=g a)->fT n m f=fT n m g
 |0,_,_=>rfl
 |m+1,n,h=>by
  unfold fT
  rw [h n (Int.le_refl _),mT fun a ha=>h a (by omega)]
theorem canon:∀ {m n:Nat} {l:List Entry},Up l->(∀ x∈l,(n:Int)<=x.aN/\x.aN < n+m/\x.sum≠0)->fT n m (cc l)=l
 |0,n,l,_,h=>by
  cases l with
  |nil=>rfl
  |cons x l=>have:=h x List.mem_cons_self;omega
 |m+1,n,l,hu,h=>by
  cases l with
  |nil=>
   unfold fT
   rw [canon (m:=m) (n:=n+1) hu fun x hx=>by cases hx]
   simp [cc]
  |cons x l=>
   obtain ⟨h1,h2⟩:=jr.1 hu
   have hx:=h x List.mem_cons_self
   unfold fT
   by_cases hn:x.aN=n
   ·have e1:cc (x::l) n=x.sum:=by unfold cc;rw [if_pos hn]
    rw [e1,if_neg hx.2.2,mT (g:=cc l) fun a ha=>by rw [Ag,if_neg (by omega)]]
    rw [canon h2 fun y hy=>by have:=h1 y hy;have:=h y (List.mem_cons_of_mem _ hy);refine ⟨by omega,by omega,this.2.2⟩,<-hn]
    rfl
   ·rw [iA fun y hy=>by
     rcases List.mem_cons.1 hy with rfl|hy
     ·omega
     ·have:=h1 y hy;omega,if_pos rfl]
    rw [canon hu fun y hy=>by
     rcases List.mem_cons.1 hy with rfl|hy
     ·exact ⟨by omega,by omega,hx.2.2⟩
     ·have:=h1 y hy;have:=h y (List.mem_cons_of_mem _ hy);exact ⟨by omega,by omega,this.2.2⟩]
    rfl
theorem rf {l:List Entry} (h:gQ l):lE (cc l) 58=l:=by
 have h1:=pX (cc l) 58 0
 have h2:fT 0 58 (cc l)=l:=canon h.up fun x hx=>by have:=h.ok x hx;exact ⟨by omega,by omega,this.2.2.2.2⟩
 rw [h2] at h1
 simpa [lE] using h1.symm
theorem zE {l r:List Entry} (hl:gQ l) (hr:gQ r) (h:∀ a,cc l a=cc r a):l=r:=by
 rw [<-rf hl,<-rf hr,show cc l=cc r from funext h]
theorem oB:∀ {es l r:List Entry},gQ l->(∀ x∈es,¬eV x)->fc l es=some r->gQ r/\en r=en l+en es
 |[],l,r,h,_,hp=>by
  have:l=r:=by simpa [fc] using hp
  subst this;exact ⟨h,by simp [en]⟩
 |e::es,l,r,h,hb,hp=>by
  unfold fc at hp
  split at hp
  ·rename_i hg
   have hg:=lW.1 hg
   have h1:=hb e List.mem_cons_self
   unfold eV at h1
   obtain ⟨h2,h3⟩:=oB (qY h (by omega) hg) (fun x hx=>hb x (List.mem_cons_of_mem _ hx)) hp
   refine ⟨h2,?_⟩
   rw [h3,uH h.up,zq]
   omega
  ·cases hp
def ly (a:Int):List Entry->Int
 |[]=>0
 |e::es=>(if e.aN=a then e.sum else 0)+ly a es
theorem wK (a:Int) (e:Entry) (es:List Entry):ly a (e::es)=(if e.aN=a then e.sum else 0)+ly a es:=rfl
theorem rn {a:Int}:∀ {es l r:List Entry},Up l->fc l es=some r->cc r a=cc l a+ly a es
 |[],l,r,h,hp=>by
  have:l=r:=by simpa [fc] using hp
  subst this;simp [ly]
 |e::es,l,r,h,hp=>by
  unfold fc at hp
  split at hp
  ·rw [rn (sf h) hp,qv h,wK]
   by_cases hc:e.aN=a
   ·subst hc;simp;omega
   ·simp [hc]
  ·cases hp


theorem pV (l:List Int) (hl:l.length * 8<=140737488355328):Fn Try.prog 95 [(.c (fV l))] (aC (.s 0 0 1 l.length)) [(0,.arr 3 1 (l.map rI))]:=by
 refine Fn.mk' 8 [(0,(aC (fV l)))] Try.func95 rfl rfl rfl rfl ?_
 intro W0 T0
 refine dH 0 rfl (fun hlen0=>?_)
 refine ad aa 1 rfl ?_
 refine af ?_
 refine az aa 1 rfl ?_
 refine ir (al.plain rfl) rfl rfl Try.underlying30 rfl rfl (fun bn1 hbn1=>?_)
 refine ae ?_
 refine ag rfl (fun hc2=>?_) (fun hc2=>?_)
 ·
  have hc2':=hc2;try simp only [bm,bL] at hc2'
  refine ad aa 1 rfl ?_
  refine ar ?_
  refine ao ?_
  refine cP (aD.nil 2 3 1 (by decide) rfl) ?_
  refine ah aa [0] 1 rfl rfl rfl rfl rfl rfl ?_ ?_
  ·(have h0:=hbn1 (by assumption);have h1:l=[]:=by (cases l with|nil=>rfl|cons=>simp at h0));subst h1;rfl
  ·(have h0:=hbn1 (by assumption);have h1:l=[]:=by (cases l with|nil=>rfl|cons=>simp at h0));subst h1;rfl
 have hc2':=hc2;try simp only [bm,bL] at hc2'
 refine aP ?_
 refine eJ ?_
 refine aL 1 [0] (dC (ys:=[]) (rows:=(([]:List Int)).map rI) 0 mq rfl (by decide) trivial rfl rfl rfl rfl) rfl ?_
 refine ab aa 1 rfl ?_
 refine aL 2 [1] (db (m:=l.length) (N:=l.length) (k2:=1) (ys:=(l).map rI) mq rfl rfl rfl rfl rfl rfl (by first|omega|(simp;omega)|(simp;done)) rfl (.d _ _) (by first|omega|(simp;omega)|(simp;done)) (by first|omega|(simp;omega)|(simp;done)) rfl (by decide) (by first|omega|(simp;omega)|(simp;done)) (by first|omega|(simp;omega)|(simp;done))) rfl ?_
 refine ab aa 1 rfl ?_
 refine ae ?_
 refine ar ?_
 refine ah aa [1] 1 rfl rfl rfl rfl rfl rfl ?_ ?_
 ·first|rfl|simp [fK,aC]
 ·first|rfl|simp
theorem mS (l:List ca) (hl:l.length * 32<=140737488355328):Fn Try.prog 99 [(.c (gR l))] (aC (.s 0 0 4 l.length)) [(0,.arr 107 4 (l.map iy))]:=by
 refine Fn.mk' 8 [(0,(aC (gR l)))] Try.func99 rfl rfl rfl rfl ?_
 intro W0 T0
 refine dH 0 rfl (fun hlen0=>?_)
 refine ad aa 1 rfl ?_
 refine af ?_
 refine az aa 1 rfl ?_
 refine ir (al.plain rfl) rfl rfl Try.underlying39 rfl rfl (fun bn1 hbn1=>?_)
 refine ae ?_
 refine ag rfl (fun hc2=>?_) (fun hc2=>?_)
 ·
  have hc2':=hc2;try simp only [bm,bL] at hc2'
  refine ad aa 1 rfl ?_
  refine ar ?_
  refine ao ?_
  refine cP (aD.nil 2 107 4 (by decide) rfl) ?_
  refine ah aa [0] 1 rfl rfl rfl rfl rfl rfl ?_ ?_
  ·(have h0:=hbn1 (by assumption);have h1:l=[]:=by (cases l with|nil=>rfl|cons=>simp at h0));subst h1;rfl
  ·(have h0:=hbn1 (by assumption);have h1:l=[]:=by (cases l with|nil=>rfl|cons=>simp at h0));subst h1;rfl
 have hc2':=hc2;try simp only [bm,bL] at hc2'
 refine aP ?_
 refine eJ ?_
 refine aL 1 [0] (dC (ys:=[]) (rows:=(([]:List ca)).map iy) 0 ye rfl (by decide) trivial rfl rfl rfl rfl) rfl ?_
 refine ab aa 1 rfl ?_
 refine aL 2 [1] (db (m:=l.length) (N:=l.length) (k2:=1) (ys:=(l).map iy) ye rfl rfl rfl rfl rfl rfl (by first|omega|(simp;omega)|(simp;done)) rfl (.d _ _) (by first|omega|(simp;omega)|(simp;done)) (by first|omega|(simp;omega)|(simp;done)) rfl (by decide) (by first|omega|(simp;omega)|(simp;done)) (by first|omega|(simp;omega)|(simp;done))) rfl ?_
 refine ab aa 1 rfl ?_
 refine ae ?_
 refine ar ?_
 refine ah aa [1] 1 rfl rfl rfl rfl rfl rfl ?_ ?_
 ·first|rfl|simp [fK,aC]
 ·first|rfl|simp
theorem pW (l:List cS) (hl:l.length * 16<=140737488355328):Fn Try.prog 114 [(.c (ft l))] (aC (.s 0 0 2 l.length)) [(0,.arr 125 2 (l.map gS))]:=by
 refine Fn.mk' 8 [(0,(aC (ft l)))] Try.func114 rfl rfl rfl rfl ?_
 intro W0 T0
 refine dH 0 rfl (fun hlen0=>?_)
 refine ad aa 1 rfl ?_
 refine af ?_
 refine az aa 1 rfl ?_
 refine ir (al.plain rfl) rfl rfl Try.underlying59 rfl rfl (fun bn1 hbn1=>?_)
 refine ae ?_
 refine ag rfl (fun hc2=>?_) (fun hc2=>?_)
 ·
  have hc2':=hc2;try simp only [bm,bL] at hc2'
  refine ad aa 1 rfl ?_
  refine ar ?_
  refine ao ?_
  refine cP (aD.nil 2 125 2 (by decide) rfl) ?_
  refine ah aa [0] 1 rfl rfl rfl rfl rfl rfl ?_ ?_
  ·(have h0:=hbn1 (by assumption);have h1:l=[]:=by (cases l with|nil=>rfl|cons=>simp at h0));subst h1;rfl
  ·(have h0:=hbn1 (by assumption);have h1:l=[]:=by (cases l with|nil=>rfl|cons=>simp at h0));subst h1;rfl
 have hc2':=hc2;try simp only [bm,bL] at hc2'
 refine aP ?_
 refine eJ ?_
 refine aL 1 [0] (dC (ys:=[]) (rows:=(([]:List cS)).map gS) 0 oo rfl (by decide) trivial rfl rfl rfl rfl) rfl ?_
 refine ab aa 1 rfl ?_
 refine aL 2 [1] (db (m:=l.length) (N:=l.length) (k2:=1) (ys:=(l).map gS) oo rfl rfl rfl rfl rfl rfl (by first|omega|(simp;omega)|(simp;done)) rfl (.d _ _) (by first|omega|(simp;omega)|(simp;done)) (by first|omega|(simp;omega)|(simp;done)) rfl (by decide) (by first|omega|(simp;omega)|(simp;done)) (by first|omega|(simp;omega)|(simp;done))) rfl ?_
 refine ab aa 1 rfl ?_
 refine ae ?_
 refine ar ?_
 refine ah aa [1] 1 rfl rfl rfl rfl rfl rfl ?_ ?_
 ·first|rfl|simp [fK,aC]
 ·first|rfl|simp
theorem lD (l:List aR) (hl:l.length * 32<=140737488355328):Fn Try.prog 106 [(.c (dd l))] (aC (.s 0 0 4 l.length)) [(0,.arr 80 4 (l.map fw))]:=by
 refine Fn.mk' 8 [(0,(aC (dd l)))] Try.func106 rfl rfl rfl rfl ?_
 intro W0 T0
 refine dH 0 rfl (fun hlen0=>?_)
 refine ad aa 1 rfl ?_
 refine af ?_
 refine az aa 1 rfl ?_
 refine ir (al.plain rfl) rfl rfl Try.underlying32 rfl rfl (fun bn1 hbn1=>?_)
 refine ae ?_
 refine ag rfl (fun hc2=>?_) (fun hc2=>?_)
 ·
  have hc2':=hc2;try simp only [bm,bL] at hc2'
  refine ad aa 1 rfl ?_
  refine ar ?_
  refine ao ?_
  refine cP (aD.nil 2 80 4 (by decide) rfl) ?_
  refine ah aa [0] 1 rfl rfl rfl rfl rfl rfl ?_ ?_
  ·(have h0:=hbn1 (by assumption);have h1:l=[]:=by (cases l with|nil=>rfl|cons=>simp at h0));subst h1;rfl
  ·(have h0:=hbn1 (by assumption);have h1:l=[]:=by (cases l with|nil=>rfl|cons=>simp at h0));subst h1;rfl
 have hc2':=hc2;try simp only [bm,bL] at hc2'
 refine aP ?_
 refine eJ ?_
 refine aL 1 [0] (dC (ys:=[]) (rows:=(([]:List aR)).map fw) 0 uM rfl (by decide) trivial rfl rfl rfl rfl) rfl ?_
 refine ab aa 1 rfl ?_
 refine aL 2 [1] (db (m:=l.length) (N:=l.length) (k2:=1) (ys:=(l).map fw) uM rfl rfl rfl rfl rfl rfl (by first|omega|(simp;omega)|(simp;done)) rfl (.d _ _) (by first|omega|(simp;omega)|(simp;done)) (by first|omega|(simp;omega)|(simp;done)) rfl (by decide) (by first|omega|(simp;omega)|(simp;done)) (by first|omega|(simp;omega)|(simp;done))) rfl ?_
 refine ab aa 1 rfl ?_
 refine ae ?_
 refine ar ?_
 refine ah aa [1] 1 rfl rfl rfl rfl rfl rfl ?_ ?_
 ·first|rfl|simp [fK,aC]
 ·first|rfl|simp
theorem uk (l:List Entry) (hl:l.length * 16<=140737488355328):Fn Try.prog 115 [(.c (dT l))] (aC (.s 0 0 2 l.length)) [(0,.arr 115 2 (l.map eC))]:=by
 refine Fn.mk' 8 [(0,(aC (dT l)))] Try.func115 rfl rfl rfl rfl ?_
 intro W0 T0
 refine dH 0 rfl (fun hlen0=>?_)
 refine ad aa 1 rfl ?_
 refine af ?_
 refine az aa 1 rfl ?_
 refine ir (al.plain rfl) rfl rfl Try.underlying44 rfl rfl (fun bn1 hbn1=>?_)
 refine ae ?_
 refine ag rfl (fun hc2=>?_) (fun hc2=>?_)
 ·
  have hc2':=hc2;try simp only [bm,bL] at hc2'
  refine ad aa 1 rfl ?_
  refine ar ?_
  refine ao ?_
  refine cP (aD.nil 2 115 2 (by decide) rfl) ?_
  refine ah aa [0] 1 rfl rfl rfl rfl rfl rfl ?_ ?_
  ·(have h0:=hbn1 (by assumption);have h1:l=[]:=by (cases l with|nil=>rfl|cons=>simp at h0));subst h1;rfl
  ·(have h0:=hbn1 (by assumption);have h1:l=[]:=by (cases l with|nil=>rfl|cons=>simp at h0));subst h1;rfl
 have hc2':=hc2;try simp only [bm,bL] at hc2'
 refine aP ?_
 refine eJ ?_
 refine aL 1 [0] (dC (ys:=[]) (rows:=(([]:List Entry)).map eC) 0 jV rfl (by decide) trivial rfl rfl rfl rfl) rfl ?_
 refine ab aa 1 rfl ?_
 refine aL 2 [1] (db (m:=l.length) (N:=l.length) (k2:=1) (ys:=(l).map eC) jV rfl rfl rfl rfl rfl rfl (by first|omega|(simp;omega)|(simp;done)) rfl (.d _ _) (by first|omega|(simp;omega)|(simp;done)) (by first|omega|(simp;omega)|(simp;done)) rfl (by decide) (by first|omega|(simp;omega)|(simp;done)) (by first|omega|(simp;omega)|(simp;done))) rfl ?_
 refine ab aa 1 rfl ?_
 refine ae ?_
 refine ar ?_
 refine ah aa [1] 1 rfl rfl rfl rfl rfl rfl ?_ ?_
 ·first|rfl|simp [fK,aC]
 ·first|rfl|simp
theorem mQ (l:List aj) (hl:l.length * 32<=140737488355328):Fn Try.prog 54 [(.c (jf l))] (aC (.s 0 0 4 l.length)) [(0,.arr 83 4 (l.map gT))]:=by
 refine Fn.mk' 8 [(0,(aC (jf l)))] Try.func54 rfl rfl rfl rfl ?_
 intro W0 T0
 refine dH 0 rfl (fun hlen0=>?_)
 refine ad aa 1 rfl ?_
 refine af ?_
 refine az aa 1 rfl ?_
 refine ir (al.plain rfl) rfl rfl Try.underlying42 rfl rfl (fun bn1 hbn1=>?_)
 refine ae ?_
 refine ag rfl (fun hc2=>?_) (fun hc2=>?_)
 ·
  have hc2':=hc2;try simp only [bm,bL] at hc2'
  refine ad aa 1 rfl ?_
  refine ar ?_
  refine ao ?_
  refine cP (aD.nil 2 83 4 (by decide) rfl) ?_
  refine ah aa [0] 1 rfl rfl rfl rfl rfl rfl ?_ ?_
  ·(have h0:=hbn1 (by assumption);have h1:l=[]:=by (cases l with|nil=>rfl|cons=>simp at h0));subst h1;rfl
  ·(have h0:=hbn1 (by assumption);have h1:l=[]:=by (cases l with|nil=>rfl|cons=>simp at h0));subst h1;rfl
 have hc2':=hc2;try simp only [bm,bL] at hc2'
 refine aP ?_
 refine eJ ?_
 refine aL 1 [0] (dC (ys:=[]) (rows:=(([]:List aj)).map gT) 0 yd rfl (by decide) trivial rfl rfl rfl rfl) rfl ?_
 refine ab aa 1 rfl ?_
 refine aL 2 [1] (db (m:=l.length) (N:=l.length) (k2:=1) (ys:=(l).map gT) yd rfl rfl rfl rfl rfl rfl (by first|omega|(simp;omega)|(simp;done)) rfl (.d _ _) (by first|omega|(simp;omega)|(simp;done)) (by first|omega|(simp;omega)|(simp;done)) rfl (by decide) (by first|omega|(simp;omega)|(simp;done)) (by first|omega|(simp;omega)|(simp;done))) rfl ?_
 refine ab aa 1 rfl ?_
 refine ae ?_
 refine ar ?_
 refine ah aa [1] 1 rfl rfl rfl rfl rfl rfl ?_ ?_
 ·first|rfl|simp [fK,aC]
 ·first|rfl|simp


theorem vY (l:List Entry) (f:cT) (hr:dn l=f):Fn Try.prog 33 [(.c (dT l))] (.v (.g [(cI f.err),(cI f.at_)])) []:=by
 refine Fn.mk' 64 [(0,(aC (dT l)))] Try.func33 rfl rfl rfl rfl ?_
 intro W0 T0
 refine dH 0 rfl (fun hlen0=>?_)
 refine ad aa 1 rfl ?_
 refine ad aa 1 rfl ?_
 refine af ?_
 refine az aa 1 rfl ?_
 refine ay (cO rfl rfl rfl rfl rfl Try.underlying44) rfl ?_
 refine ab aa 1 rfl ?_
 refine ae ?_
 refine aV ?_
 refine cv (β:=Nat) (fun (q:Nat)=>⟨[(0,(aC (dT l))),(2,(aC (.p 0 0 0 0))),(3,(aI (en (l.take q)))),(6,(aC (dT l))),(7,(aI (↑l.length:Int))),(8,(aI (↑q:Int)))],[(0,(.box 50 [(cI 0),(cI 0)]))],1⟩) (fun (q:Nat)=>q<=l.length/\scan (kQ l) 0 l.length=scan (kQ l) q (l.length - q)/\(q:Int) - 1<=iG l q/\iG l q<=57/\-1000000000000 * (q:Int)<=en (l.take q)/\en (l.take q)<=1000000000000 * (q:Int)) (fun (q:Nat)=>l.length - q) 0 ?_ ?_ ?_
 ·(have h1:iG l 0=-1:=rfl);(have h2:en (l.take 0)=0:=rfl);exact ⟨by omega,rfl,by omega,by omega⟩
 ·exact aD.bZ id (by refine ⟨?_,?_,?_,?_,?_,?_,trivial⟩<;>first|rfl|(simp only [bn];done)|(congr 3;omega)|(congr 4;omega)|(simp only [bo];rfl)) (⟨by first|rfl|(simp only [bn];done)|(congr 3;omega)|(congr 4;omega)|(simp only [bo];rfl),trivial⟩) rfl
 rintro q ⟨hi0_0,hi0_1,hi0_2,hi0_3⟩
 refine ad aa 1 rfl ?_
 refine af ?_
 refine ag rfl (fun hc1=>?_) (fun hc1=>?_)
 ·
  have hc1':=of_decide_eq_true hc1
  refine aP ?_
  refine af ?_
  refine aV ?_
  refine az aa 1 rfl ?_
  obtain ⟨x1,hx1⟩:=cp (xs:=l) (i:=q) (by first|omega|(simp;done)|(simp;omega))
  refine ay (cU (i:=q) rfl rfl rfl Try.underlying44 ed (by first|omega|(simp;done)|(simp;omega)) (bw hx1)) rfl ?_
  refine ab aa 4 rfl ?_
  refine ae ?_
  refine af ?_
  refine aV ?_
  refine cq 13 ((((decide (x1.aN < 0))||(decide (x1.aN>=58)))||(decide (x1.sum < (-1000000000000))))||(decide (x1.sum > 1000000000000))) ?_ ?_
  ·
   refine aw ?_
   refine ab aa 4 rfl ?_
   refine bA (t:=17) rfl (fun hb2=>?_) (fun hb2=>?_)
   ·
    have hb2':=of_decide_eq_true hb2
    refine ab aa 15 rfl ?_
    refine ae ?_
    exact aD.bD 20 rfl rfl (by first|(simp [hb2];done)|(simp_all;done)|(exfalso;simp_all;done)|(simp_all;omega)) rfl
   have hb2':=of_decide_eq_false hb2
   refine ab aa 5 rfl ?_
   refine bA (t:=22) rfl (fun hb3=>?_) (fun hb3=>?_)
   ·
    have hb3':=of_decide_eq_true hb3
    refine ab aa 10 rfl ?_
    refine ae ?_
    exact aD.bD 21 rfl rfl (by first|(simp [hb2,hb3];done)|(simp_all;done)|(exfalso;simp_all;done)|(simp_all;omega)) rfl
   have hb3':=of_decide_eq_false hb3
   refine ab aa 5 rfl ?_
   refine bA (t:=27) rfl (fun hb4=>?_) (fun hb4=>?_)
   ·
    have hb4':=of_decide_eq_true hb4
    refine ab aa 5 rfl ?_
    refine ae ?_
    exact aD.bD 22 rfl rfl (by first|(simp [hb2,hb3,hb4];done)|(simp_all;done)|(exfalso;simp_all;done)|(simp_all;omega)) rfl
   have hb4':=of_decide_eq_false hb4
   refine ab aa 5 rfl ?_
   refine ae ?_
   exact aD.bD 22 rfl rfl (by first|(simp [hb2,hb3,hb4];done)|(simp_all;done)|(exfalso;simp_all;done)|(simp_all;omega)) rfl
  refine ag rfl (fun hc5=>?_) (fun hc5=>?_)
  ·
   have hc5':=hc5;try simp only [bm,bL] at hc5'
   refine ad aa 3 rfl ?_
   refine ar ?_
   refine bg ?_
   refine ao ?_
   refine bg ?_
   refine ao ?_
   refine ao ?_
   refine bg ?_
   refine ao ?_
   have hX:dn l=(⟨3,(↑q:Int)⟩:cT):=by
     (have hb:eV x1:=by unfold eV;omega);(have h0:=ie (e:=kQ l) (q:=q) (n:=l.length) (by omega) (by rw [hJ hx1,if_pos hb]) (by decide:(3:Int)≠0));(unfold dn;rw [hi0_1,h0];rfl)
   rw [hX] at hr;clear hX
   subst hr
   refine ah aa [0] 0 rfl rfl rfl rfl rfl rfl ?_ ?_
   all_goals first|rfl|(simp [au];done)|(simp [au];omega)
  have hc5':=hc5;try simp only [bm,bL] at hc5'
  refine af ?_
  rcases Bool.eq_false_or_eq_true (decide ((↑q:Int) > 0)) with hb6|hb6
  ·
   have hb6':=of_decide_eq_true hb6
   obtain ⟨x2,hx2⟩:=cp (xs:=l) (i:=(q) - 1) (by first|omega|(simp;done)|(simp;omega))
   rcases Bool.eq_false_or_eq_true (decide (x2.aN>=x1.aN)) with hb7|hb7
   ·
    have hb7':=of_decide_eq_true hb7
    refine bb [0,2,3,6,7,8,5,4] [1,0] mixed rfl rfl ?_
    refine aA (kn:=[(36,true)]) aa 5 rfl ⟨hb6,trivial⟩ ?_
    refine aU (n':=2) [39,37] [] rfl rfl (.inl ⟨(al.yes rfl rfl rfl),aH.cast (aK rfl rfl rfl (aF (by first|omega|(simp;done)|(simp;omega)))) rfl⟩) rfl ?_
    refine aU (n':=2) [38,40,37] [] rfl rfl (.inl ⟨(al.yes rfl rfl rfl),aH.cast (cU (i:=(q) - 1) rfl rfl rfl Try.underlying44 ed (by first|omega|(simp;done)|(simp;omega)) (bw hx2)) rfl⟩) rfl ?_
    refine aA (kn:=[(46,true)]) aa 12 rfl ⟨hb7,trivial⟩ ?_
    refine bB [1,0] rfl rfl rfl rfl (by kernel_rfl) ?_
    refine ae ?_
    refine ag rfl (fun _=>?_) (fun hno=>by cases hno)
    refine ad aa 3 rfl ?_
    refine ar ?_
    refine bg ?_
    refine ao ?_
    refine bg ?_
    refine ao ?_
    refine ao ?_
    refine bg ?_
    refine ao ?_
    have hX:dn l=(⟨2,(↑q:Int)⟩:cT):=by
      (have hb:¬eV x1:=by unfold eV;omega);(have hla:=kG (by omega) hx2);(have h0:=ie (e:=kQ l) (q:=q) (n:=l.length) (by omega) (by rw [hJ hx1,if_neg hb,if_pos (by omega)]) (by decide:(2:Int)≠0));(unfold dn;rw [hi0_1,h0];rfl)
    rw [hX] at hr;clear hX
    subst hr
    refine ah aa [0] 0 rfl rfl rfl rfl rfl rfl ?_ ?_
    all_goals first|rfl|(simp [au];done)|(simp [au];omega)
   have hb7':=of_decide_eq_false hb7
   refine bb [0,2,3,6,7,8,5,4] [1,0] mixed rfl rfl ?_
   refine aA (kn:=[(36,true)]) aa 5 rfl ⟨hb6,trivial⟩ ?_
   refine aU (n':=2) [39,37] [] rfl rfl (.inl ⟨(al.yes rfl rfl rfl),aH.cast (aK rfl rfl rfl (aF (by first|omega|(simp;done)|(simp;omega)))) rfl⟩) rfl ?_
   refine aU (n':=2) [38,40,37] [] rfl rfl (.inl ⟨(al.yes rfl rfl rfl),aH.cast (cU (i:=(q) - 1) rfl rfl rfl Try.underlying44 ed (by first|omega|(simp;done)|(simp;omega)) (bw hx2)) rfl⟩) rfl ?_
   refine aA (kn:=[(46,false)]) aa 12 rfl ⟨hb7,trivial⟩ ?_
   refine bB [1,0] rfl rfl rfl rfl (by kernel_rfl) ?_
   refine ae ?_
   refine ag rfl (fun hc9=>?_) (fun hc9=>?_)
   ·
    have hc9':=of_decide_eq_true hc9
    refine ad aa 3 rfl ?_
    refine ar ?_
    refine bg ?_
    refine ao ?_
    refine bg ?_
    refine ao ?_
    refine ao ?_
    refine bg ?_
    refine ao ?_
    have hX:dn l=(⟨2,(↑q:Int)⟩:cT):=by
      (have hb:¬eV x1:=by unfold eV;omega);(have hla:=kG (by omega) hx2);(have h0:=ie (e:=kQ l) (q:=q) (n:=l.length) (by omega) (by rw [hJ hx1,if_neg hb,if_pos (by omega)]) (by decide:(2:Int)≠0));(unfold dn;rw [hi0_1,h0];rfl)
    rw [hX] at hr;clear hX
    subst hr
    refine ah aa [0] 0 rfl rfl rfl rfl rfl rfl ?_ ?_
    all_goals first|rfl|(simp [au];done)|(simp [au];omega)
   have hc9':=of_decide_eq_false hc9
   refine cV ?_
   refine bl ?_
   refine then_ok ?_
   refine aw ?_
   refine ab aa 3 rfl ?_
   refine ay (aK rfl rfl rfl (aF (by first|omega|(simp;done)|(simp;omega)))) rfl ?_
   refine ab aa 1 rfl ?_
   refine bX ?_
   refine bl ?_
   refine then_ok ?_
   refine aw ?_
   refine ay (aK rfl rfl rfl (aF (by first|omega|(simp;done)|(simp;omega)))) rfl ?_
   refine ab aa 1 rfl ?_
   refine ae ?_
   refine ⟨q+1,⟨by omega,by rw [hi0_1];exact mH (by omega) (by have hla:=kG (by omega) hx2;rw [hJ hx1,if_neg (by unfold eV;omega),if_neg (by omega)]),by rw [jL hx1];have hla:=kG (by omega) hx2;omega,by rw [jL hx1,js hx1];omega⟩,by first|omega|(simp;done)|(simp;omega),aD.bZ id (by refine ⟨?_,?_,?_,?_,?_,?_,trivial⟩<;>first|rfl|(simp only [bn];done)|(congr 3;omega)|(congr 4;omega)|(simp only [bo];rfl)|(rw [js hx1];rfl)) (⟨by first|rfl|(simp only [bn];done)|(congr 3;omega)|(congr 4;omega)|(simp only [bo];rfl),trivial⟩) rfl⟩
  have hb6':=of_decide_eq_false hb6
  refine bb [0,2,3,6,7,8,5,4] [1,0] mixed rfl rfl ?_
  refine aA (kn:=[(36,false)]) aa 19 rfl ⟨hb6,trivial⟩ ?_
  refine bB [1,0] rfl rfl rfl rfl (by kernel_rfl) ?_
  refine ae ?_
  refine ag rfl (fun hc10=>?_) (fun hc10=>?_)
  ·
   have hc10':=of_decide_eq_true hc10
   refine ad aa 3 rfl ?_
   refine ar ?_
   refine bg ?_
   refine ao ?_
   refine bg ?_
   refine ao ?_
   refine ao ?_
   refine bg ?_
   refine ao ?_
   have hX:dn l=(⟨2,(↑q:Int)⟩:cT):=by
     (have hb:¬eV x1:=by unfold eV;omega);(have h0:=ie (e:=kQ l) (q:=q) (n:=l.length) (by omega) (by rw [hJ hx1,if_neg hb,if_pos (by omega)]) (by decide:(2:Int)≠0));(unfold dn;rw [hi0_1,h0];rfl)
   rw [hX] at hr;clear hX
   subst hr
   refine ah aa [0] 0 rfl rfl rfl rfl rfl rfl ?_ ?_
   all_goals first|rfl|(simp [au];done)|(simp [au];omega)
  have hc10':=of_decide_eq_false hc10
  refine cV ?_
  refine bl ?_
  refine then_ok ?_
  refine aw ?_
  refine ab aa 3 rfl ?_
  refine ay (aK rfl rfl rfl (aF (by first|omega|(simp;done)|(simp;omega)))) rfl ?_
  refine ab aa 1 rfl ?_
  refine bX ?_
  refine bl ?_
  refine then_ok ?_
  refine aw ?_
  refine ay (aK rfl rfl rfl (aF (by first|omega|(simp;done)|(simp;omega)))) rfl ?_
  refine ab aa 1 rfl ?_
  refine ae ?_
  refine ⟨q+1,⟨by omega,by rw [hi0_1];exact mH (by omega) (by have hla:iG l q=-1:=(by unfold iG;rw [if_pos (by omega)]);rw [hJ hx1,if_neg (by unfold eV;omega),if_neg (by omega)]),by rw [jL hx1];have hla:iG l q=-1:=(by unfold iG;rw [if_pos (by omega)]);omega,by rw [jL hx1,js hx1];omega⟩,by first|omega|(simp;done)|(simp;omega),aD.bZ id (by refine ⟨?_,?_,?_,?_,?_,?_,trivial⟩<;>first|rfl|(simp only [bn];done)|(congr 3;omega)|(congr 4;omega)|(simp only [bo];rfl)|(rw [js hx1];rfl)) (⟨by first|rfl|(simp only [bn];done)|(congr 3;omega)|(congr 4;omega)|(simp only [bo];rfl),trivial⟩) rfl⟩
 have hc1':=of_decide_eq_false hc1
 refine cm ?_
 refine aQ ?_
 refine aQ ?_
 refine bO ?_
 refine then_ok ?_
 refine af ?_
 refine ad aa 2 rfl ?_
 refine ag rfl (fun hc11=>?_) (fun hc11=>?_)
 ·
  have hc11':=of_decide_eq_true hc11
  refine ad aa 2 rfl ?_
  refine ar ?_
  refine ao ?_
  have hX:dn l=(⟨8,0⟩:cT):=by
    (obtain rfl:q=l.length:=by omega);rw [List.take_length] at *;(unfold dn;rw [hi0_1,nh (by omega)];rw [if_neg (by decide),if_pos (by omega)])
  rw [hX] at hr;clear hX
  subst hr
  refine ah aa [0] 0 rfl rfl rfl rfl rfl rfl ?_ ?_
  all_goals first|rfl|(simp [au];done)|(simp [au];omega)
 have hc11':=of_decide_eq_false hc11
 refine aP ?_
 refine ad aa 2 rfl ?_
 refine ar ?_
 have hX:dn l=(⟨0,0⟩:cT):=by
   (obtain rfl:q=l.length:=by omega);rw [List.take_length] at *;(unfold dn;rw [hi0_1,nh (by omega)];rw [if_neg (by decide),if_neg (by omega)])
 rw [hX] at hr;clear hX
 subst hr
 refine ah aa [0] 0 rfl rfl rfl rfl rfl rfl ?_ ?_
 all_goals first|rfl|(simp [au];done)|(simp [au];omega)


theorem qo {l es:List Entry} (h0:(dn l).err=0) (h1:es.length<=10) (h2:∀ x∈es,¬eV x) (h3:en es=0):fZ l es=match fc l es with
    |some r=>(r,0)
    |none=>([],4):=by
  unfold fZ
  rw [if_neg (by omega),if_neg (by omega),if_neg (fun ⟨x,hx,hb⟩=>h2 x hx hb),if_neg (by omega)]
  all_goals (cases fc l es<;>rfl)
theorem tp {es:List Entry} {q:Nat} (h:∀ x∈es.take q,¬eV x) (hq:es.length<=q):∀ x∈es,¬eV x:=by
  rwa [List.take_of_length_le hq] at h
theorem yp {es:List Entry} {q:Nat} {x:Entry} (h:∀ x∈es.take q,¬eV x) (hx:es[q]?=some x) (hb:¬eV x):∀ x∈es.take (q+1),¬eV x:=by
  rw [sT hx]
  intro y hy
  rcases List.mem_append.1 hy with hy|hy
  ·exact h y hy
  ·rw [List.mem_singleton.1 hy];exact hb
theorem xb {es:List Entry} {q:Nat} (hq:es.length<=q):en (es.take q)=en es:=by rw [List.take_of_length_le hq]
theorem Dk {l m es:List Entry} {q:Nat} (h:fc l es=fc m (es.drop q)) (hq:es.length<=q):fc l es=some m:=by
  rw [h,List.drop_of_length_le hq];rfl
theorem wT (l es:List Entry) (r:List Entry) (e:Int) (hr:fZ l es=(r,e)):Fn Try.prog 111 [(.c (dT l)),(.c (dT es))] (.t [(.c (.s 0 0 2 r.length)),(.c (cI e))]) [(0,(lH r))]:=by
 refine Fn.mk' 75 [(0,(aC (dT l))),(1,(aC (dT es)))] Try.func111 rfl rfl rfl rfl ?_
 intro W0 T0
 refine dH 0 rfl (fun hlen0=>?_)
 refine dH 1 rfl (fun hlen1=>?_)
 refine ad aa 2 rfl ?_
 refine af ?_
 refine az aa 1 rfl ?_
 obtain ⟨f0,hr0⟩:∃ (f0:cT),dn l=f0:=⟨_,rfl⟩
 refine aL 0 [] (bM 0 (vY l f0 hr0) Ho rfl rfl ⟨⟨_,rfl,.c (.d _)⟩,trivial⟩ ⟨trivial,trivial,trivial⟩ trivial rfl rfl rfl rfl) rfl ?_
 refine ab aa 2 rfl ?_
 refine ae ?_
 refine ad aa 3 rfl ?_
 refine ag rfl (fun hc1=>?_) (fun hc1=>?_)
 ·
  have hc1':=of_decide_eq_true hc1
  refine af ?_
  refine bb [0,1,6] [0] mixed rfl rfl ?_
  refine aA (kn:=[]) aa 4 rfl trivial ?_
  refine bB [0] rfl rfl rfl rfl (by kernel_rfl) ?_
  refine ae ?_
  refine ar ?_
  refine ao ?_
  refine cP (aD.nil 4 115 2 (by decide) rfl) ?_
  have hX:fZ l es=(([]:List Entry),f0.err):=by
    unfold fZ;rw [if_pos (by rw [hr0];omega),hr0]
  rw [hX] at hr;clear hX
  simp only [Prod.mk.injEq] at hr;obtain ⟨rfl,rfl⟩:=hr
  refine ah aa [1] 1 rfl rfl rfl rfl rfl rfl ?_ ?_
  all_goals first|rfl|(simp [au];done)|(simp [au];omega)
 have hc1':=of_decide_eq_false hc1
 refine aP ?_
 refine af ?_
 refine az aa 1 rfl ?_
 refine ay (cO rfl rfl rfl rfl rfl Try.underlying44) rfl ?_
 refine ab aa 1 rfl ?_
 refine ae ?_
 refine ag rfl (fun hc2=>?_) (fun hc2=>?_)
 ·
  have hc2':=of_decide_eq_true hc2
  refine ad aa 2 rfl ?_
  refine ar ?_
  refine ao ?_
  refine cP (aD.nil 4 115 2 (by decide) rfl) ?_
  have hX:fZ l es=(([]:List Entry),5):=by
    unfold fZ;rw [if_neg (by rw [hr0];omega),if_pos (by omega)]
  rw [hX] at hr;clear hX
  simp only [Prod.mk.injEq] at hr;obtain ⟨rfl,rfl⟩:=hr
  refine ah aa [1] 1 rfl rfl rfl rfl rfl rfl ?_ ?_
  all_goals first|rfl|(simp [au];done)|(simp [au];omega)
 have hc2':=of_decide_eq_false hc2
 refine aP ?_
 refine ad aa 1 rfl ?_
 refine af ?_
 refine az aa 1 rfl ?_
 refine ay (cO rfl rfl rfl rfl rfl Try.underlying44) rfl ?_
 refine ab aa 1 rfl ?_
 refine ae ?_
 refine aV ?_
 refine cv (β:=Nat) (fun (q:Nat)=>⟨[(0,(aC (dT l))),(1,(aC (dT es))),(7,(aI (en (es.take q)))),(25,(aC (dT es))),(26,(aI (↑es.length:Int))),(27,(aI (↑q:Int)))],[],0⟩) (fun (q:Nat)=>q<=es.length/\(∀ x∈es.take q,¬eV x)/\-1000000000000 * (q:Int)<=en (es.take q)/\en (es.take q)<=1000000000000 * (q:Int)) (fun (q:Nat)=>es.length - q) 0 ?_ ?_ ?_
 ·(have h2:en (es.take 0)=0:=rfl);exact ⟨by omega,by intro x hx;simp at hx,by omega⟩
 ·exact aD.bZ id (by refine ⟨?_,?_,?_,?_,?_,?_,trivial⟩<;>first|rfl|(simp only [bn];done)|(congr 3;omega)|(congr 4;omega)|(simp only [bo];rfl)) (trivial) rfl
 rintro q ⟨hi0_0,hi0_1,hi0_2⟩
 refine ad aa 1 rfl ?_
 refine af ?_
 refine ag rfl (fun hc3=>?_) (fun hc3=>?_)
 ·
  have hc3':=of_decide_eq_true hc3
  refine aP ?_
  refine af ?_
  refine aV ?_
  refine eJ ?_
  obtain ⟨x1,hx1⟩:=cp (xs:=es) (i:=q) (by first|omega|(simp;done)|(simp;omega))
  refine ay (cU (i:=q) rfl rfl rfl Try.underlying44 ed (by first|omega|(simp;done)|(simp;omega)) (bw hx1)) rfl ?_
  refine ab aa 3 rfl ?_
  refine ae ?_
  refine af ?_
  refine cq 48 ((((decide (x1.aN < 0))||(decide (x1.aN>=58)))||(decide (x1.sum < (-1000000000000))))||(decide (x1.sum > 1000000000000))) ?_ ?_
  ·
   refine aw ?_
   refine ab aa 4 rfl ?_
   refine bA (t:=34) rfl (fun hb4=>?_) (fun hb4=>?_)
   ·
    have hb4':=of_decide_eq_true hb4
    refine ab aa 14 rfl ?_
    refine ae ?_
    exact aD.bD 19 rfl rfl (by first|(simp [hb4];done)|(simp_all;done)|(exfalso;simp_all;done)|(simp_all;omega)) rfl
   have hb4':=of_decide_eq_false hb4
   refine ab aa 5 rfl ?_
   refine bA (t:=39) rfl (fun hb5=>?_) (fun hb5=>?_)
   ·
    have hb5':=of_decide_eq_true hb5
    refine ab aa 9 rfl ?_
    refine ae ?_
    exact aD.bD 20 rfl rfl (by first|(simp [hb4,hb5];done)|(simp_all;done)|(exfalso;simp_all;done)|(simp_all;omega)) rfl
   have hb5':=of_decide_eq_false hb5
   refine ab aa 5 rfl ?_
   refine bA (t:=44) rfl (fun hb6=>?_) (fun hb6=>?_)
   ·
    have hb6':=of_decide_eq_true hb6
    refine ab aa 4 rfl ?_
    refine ae ?_
    exact aD.bD 21 rfl rfl (by first|(simp [hb4,hb5,hb6];done)|(simp_all;done)|(exfalso;simp_all;done)|(simp_all;omega)) rfl
   have hb6':=of_decide_eq_false hb6
   refine ab aa 4 rfl ?_
   refine ae ?_
   exact aD.bD 21 rfl rfl (by first|(simp [hb4,hb5,hb6];done)|(simp_all;done)|(exfalso;simp_all;done)|(simp_all;omega)) rfl
  refine ag rfl (fun hc7=>?_) (fun hc7=>?_)
  ·
   have hc7':=hc7;try simp only [bm,bL] at hc7'
   refine ad aa 2 rfl ?_
   refine ar ?_
   refine ao ?_
   refine bg ?_
   refine ao ?_
   refine ao ?_
   refine bg ?_
   refine ao ?_
   refine cP (aD.nil 4 115 2 (by decide) rfl) ?_
   have hX:fZ l es=(([]:List Entry),3):=by
     unfold fZ;rw [if_neg (by rw [hr0];omega),if_neg (by omega),if_pos ⟨x1,List.mem_of_getElem? hx1,by unfold eV;omega⟩]
   rw [hX] at hr;clear hX
   simp only [Prod.mk.injEq] at hr;obtain ⟨rfl,rfl⟩:=hr
   refine ah aa [1] 1 rfl rfl rfl rfl rfl rfl ?_ ?_
   all_goals first|rfl|(simp [au];done)|(simp [au];omega)
  have hc7':=hc7;try simp only [bm,bL] at hc7'
  refine aP ?_
  refine aw ?_
  refine ab aa 3 rfl ?_
  refine ay (aK rfl rfl rfl (aF (by first|omega|(simp;done)|(simp;omega)))) rfl ?_
  refine ab aa 1 rfl ?_
  refine bX ?_
  refine bl ?_
  refine then_ok ?_
  refine aw ?_
  refine ay (aK rfl rfl rfl (aF (by first|omega|(simp;done)|(simp;omega)))) rfl ?_
  refine ab aa 1 rfl ?_
  refine ae ?_
  refine ⟨q+1,⟨by omega,yp hi0_1 hx1 (by unfold eV;omega),by rw [js hx1];omega⟩,by first|omega|(simp;done)|(simp;omega),aD.bZ id (by refine ⟨?_,?_,?_,?_,?_,?_,trivial⟩<;>first|rfl|(simp only [bn];done)|(congr 3;omega)|(congr 4;omega)|(simp only [bo];rfl)|(rw [js hx1];rfl)) (trivial) rfl⟩
 have hc3':=of_decide_eq_false hc3
 refine cm ?_
 refine aQ ?_
 refine aQ ?_
 refine bO ?_
 refine then_ok ?_
 refine af ?_
 refine ad aa 2 rfl ?_
 refine ag rfl (fun hc8=>?_) (fun hc8=>?_)
 ·
  have hc8':=of_decide_eq_true hc8
  refine ad aa 2 rfl ?_
  refine ar ?_
  refine ao ?_
  refine cP (aD.nil 4 115 2 (by decide) rfl) ?_
  have hX:fZ l es=(([]:List Entry),8):=by
    (have hs:=xb (es:=es) (q:=q) (by omega));(have hnb:=tp hi0_1 (by omega));unfold fZ;rw [if_neg (by rw [hr0];omega),if_neg (by omega),if_neg (fun ⟨x,hx,hb⟩=>hnb x hx hb),if_pos (by omega)]
  rw [hX] at hr;clear hX
  simp only [Prod.mk.injEq] at hr;obtain ⟨rfl,rfl⟩:=hr
  refine ah aa [0] 1 rfl rfl rfl rfl rfl rfl ?_ ?_
  all_goals first|rfl|(simp [au];done)|(simp [au];omega)
 have hc8':=of_decide_eq_false hc8
 refine aP ?_
 have h0:(dn l).err=0:=by rw [hr0];omega
 have hR:gQ l:=(jz.1 h0).1
 have hRl:=tc hR
 have hs:=xb (es:=es) (q:=q) (by omega)
 have hnb:=tp hi0_1 (by omega)
 refine az aa 1 rfl ?_
 refine aL 1 [0] (bM 0 (uk l (by first|omega|(simp;done)|(simp;omega))) FZ rfl rfl ⟨⟨_,rfl,.c (.d _)⟩,trivial⟩ trivial ⟨(fun _ _ _ _=>trivial),trivial⟩ rfl rfl rfl rfl) rfl ?_
 refine ab aa 1 rfl ?_
 refine ae ?_
 refine af ?_
 refine az aa 1 rfl ?_
 refine ay (cO rfl rfl rfl rfl rfl Try.underlying44) rfl ?_
 refine ab aa 1 rfl ?_
 refine ae ?_
 refine aV ?_
 refine cv (β:=Nat×List Entry) (fun (p:Nat×List Entry)=>match p with|(p,m)=>⟨[(0,(aC (dT l))),(1,(aC (dT es))),(7,(aI (en (es.take q)))),(25,(aC (dT es))),(26,(aI (↑es.length:Int))),(27,(aI (↑q:Int))),(10,(aC (.s 0 0 2 m.length))),(58,(aC (dT es))),(59,(aI (↑es.length:Int))),(60,(aI (↑p:Int)))],[(0,(lH m))],1⟩) (fun (p:Nat×List Entry)=>match p with|(p,m)=>p<=es.length/\gQ m/\fc l es=fc m (es.drop p)) (fun (p:Nat×List Entry)=>match p with|(p,m)=>es.length - p) (0,l) ?_ ?_ ?_
 ·exact ⟨by omega,hR,rfl⟩
 ·exact aD.bZ id (by refine ⟨?_,?_,?_,?_,?_,?_,?_,?_,?_,?_,trivial⟩<;>first|rfl|(simp only [bn];done)|(congr 3;omega)|(congr 4;omega)|(simp only [bo];rfl)) (⟨by first|rfl|(simp only [bn];done)|(congr 3;omega)|(congr 4;omega)|(simp only [bo];rfl),trivial⟩) rfl
 rintro ⟨p,m⟩ ⟨hi1_0,hi1_1,hi1_2⟩
 refine ad aa 1 rfl ?_
 refine af ?_
 refine ag rfl (fun hc9=>?_) (fun hc9=>?_)
 ·
  have hc9':=of_decide_eq_true hc9
  refine aP ?_
  refine af ?_
  refine aV ?_
  refine eJ ?_
  obtain ⟨x1,hx1⟩:=cp (xs:=es) (i:=p) (by first|omega|(simp;done)|(simp;omega))
  have hx1n:=hnb x1 (List.mem_of_getElem? hx1)
  have hx1b:0<=x1.aN/\x1.aN<=57/\-1000000000000<=x1.sum/\x1.sum<=1000000000000:=by unfold eV at hx1n;omega
  refine ay (cU (i:=p) rfl rfl rfl Try.underlying44 ed (by first|omega|(simp;done)|(simp;omega)) (bw hx1)) rfl ?_
  refine ab aa 3 rfl ?_
  refine ae ?_
  refine az aa 2 rfl ?_
  obtain ⟨r1,g1,hr1⟩:∃ (r1:List Entry) (g1:Bool),jF m x1=(r1,g1):=⟨_,_,rfl⟩
  obtain ⟨hp1,hg1⟩:=Prod.mk.inj hr1
  refine aL 3 [2,1] (cw id (aW [2]) (Gj m x1 (by exact (show gQ _ by assumption).up) (by (have:=tc (show gQ _ by assumption);omega)) (by (intro y hy;have:=(show gQ _ by assumption).ok y hy;omega)) (by (unfold eV at *;omega)) r1 g1 hr1) FY rfl rfl ⟨⟨_,rfl,.inl ⟨rfl,rfl⟩⟩,⟨_,rfl,.inr (.g ⟨.d _,.d _,trivial⟩)⟩,trivial⟩ ⟨rfl,trivial⟩ rfl rfl rfl rfl rfl rfl ⟨trivial,trivial,trivial⟩ ⟨(fun _ _ _ _=>trivial),trivial⟩ rfl rfl rfl rfl) rfl ?_
  refine ab aa 5 rfl ?_
  refine ae ?_
  refine af ?_
  refine ad aa 2 rfl ?_
  refine ag rfl (fun hc10=>?_) (fun hc10=>?_)
  ·
   have hc10':=hc10;try simp only [bm,bL] at hc10'
   refine ad aa 2 rfl ?_
   refine ar ?_
   refine ao ?_
   refine bg ?_
   refine ao ?_
   refine ao ?_
   refine bg ?_
   refine ao ?_
   refine cP (aD.nil 4 115 2 (by decide) rfl) ?_
   have hX:fZ l es=(([]:List Entry),4):=by
     rw [qo h0 (by omega) hnb (by omega),hi1_2,pM hx1,if_neg (by simp_all)]
   rw [hX] at hr;clear hX
   simp only [Prod.mk.injEq] at hr;obtain ⟨rfl,rfl⟩:=hr
   refine ah aa [3] 1 rfl rfl rfl rfl rfl rfl ?_ ?_
   all_goals first|rfl|(simp [au];done)|(simp [au];omega)
  have hc10':=hc10;try simp only [bm,bL] at hc10'
  refine aP ?_
  refine aw ?_
  refine ab aa 2 rfl ?_
  refine bX ?_
  refine bl ?_
  refine then_ok ?_
  refine aw ?_
  refine ay (aK rfl rfl rfl (aF (by first|omega|(simp;done)|(simp;omega)))) rfl ?_
  refine ab aa 1 rfl ?_
  refine ae ?_
  refine ⟨(p+1,r1),⟨by omega,by rw [<-hp1];exact qY hi1_1 (by omega) (lW.1 (by rw [hg1];simp_all)),by rw [hi1_2,pM hx1,if_pos (by rw [hg1];simp_all),hp1]⟩,by first|omega|(simp;done)|(simp;omega),aD.bZ (fun k=>if k=0 then 2 else k) (by refine ⟨?_,?_,?_,?_,?_,?_,?_,?_,?_,?_,trivial⟩<;>first|rfl|(simp only [bn];done)|(congr 3;omega)|(congr 4;omega)|(simp only [bo];rfl)) (⟨by first|rfl|(simp only [bn];done)|(congr 3;omega)|(congr 4;omega)|(simp only [bo];rfl),trivial⟩) rfl⟩
 have hc9':=of_decide_eq_false hc9
 refine cm ?_
 refine aQ ?_
 refine aQ ?_
 refine bO ?_
 refine then_ok ?_
 refine ad aa 3 rfl ?_
 refine ar ?_
 have hX:fZ l es=(m,0):=by
   rw [qo h0 (by omega) hnb (by omega),Dk hi1_2 (by omega)]
 rw [hX] at hr;clear hX
 simp only [Prod.mk.injEq] at hr;obtain ⟨rfl,rfl⟩:=hr
 refine ah aa [0] 1 rfl rfl rfl rfl rfl rfl ?_ ?_
 all_goals first|rfl|(simp [au];done)|(simp [au];omega)


def iU (l:List Entry) (src dst n:Int):List Entry×Int:=if n < 0\/n > 1000000000000 then ([],3) else fZ l [⟨src,0 - n⟩,⟨dst,n⟩]
theorem Bx {l es r : List Entry} (h : fZ l es = (r, 0)) : (dn l).err = 0 ∧ es.length ≤ 10 ∧ (∀ x ∈ es, ¬ eV x) ∧ en es = 0 ∧ fc l es = some r := by
  unfold fZ at h
  split at h
  · rename_i h0; injection h with _ h1; exact absurd h1 h0
  rename_i h0
  split at h
  · injection h with _ h1; cases h1
  rename_i h1
  split at h
  · injection h with _ h1; cases h1
  rename_i h2
  split at h
  · injection h with _ h1; cases h1
  rename_i h3
  split at h
  · rename_i r' hr
    injection h with h4 _
    subst h4
    exact ⟨by omega, by omega, fun x hx hb => h2 ⟨x, hx, hb⟩, by omega, hr⟩
  · injection h with _ h1; cases h1
theorem ox {l es r:List Entry} (h:fZ l es=(r,0)) (a:Int):(dn r).err=0/\cc r a=cc l a+ly a es:=by
  obtain ⟨h1,h2,h3,h4,h5⟩:=Bx h
  obtain ⟨h6,h7⟩:=jz.1 h1
  obtain ⟨h8,h9⟩:=oB h6 h3 h5
  exact ⟨jz.2 ⟨h8,by omega⟩,rn h6.up h5⟩

theorem wU (l:List Entry) (src dst n:Int) (r:List Entry) (e:Int) (hr:iU l src dst n=(r,e)):Fn Try.prog 98 [(.c (dT l)),(.c (cI src)),(.c (cI dst)),(.c (cI n))] (.t [(.c (.s 0 0 2 r.length)),(.c (cI e))]) [(0,(lH r))]:=by
 refine Fn.mk' 28 [(0,(aC (dT l))),(1,(aI src)),(2,(aI dst)),(3,(aI n))] Try.func98 rfl rfl rfl rfl ?_
 intro W0 T0
 refine dH 0 rfl (fun hlen0=>?_)
 refine ad aa 2 rfl ?_
 refine af ?_
 refine cq 15 ((decide (n < 0))||(decide (n > 1000000000000))) ?_ ?_
 ·
  refine aw ?_
  refine ab aa 3 rfl ?_
  refine bA (t:=12) rfl (fun hb1=>?_) (fun hb1=>?_)
  ·
   have hb1':=of_decide_eq_true hb1
   refine ab aa 3 rfl ?_
   refine ae ?_
   exact aD.bD 7 rfl rfl (by first|(simp [hb1];done)|(simp_all;done)|(exfalso;simp_all;done)|(simp_all;omega)) rfl
  have hb1':=of_decide_eq_false hb1
  refine ab aa 3 rfl ?_
  refine ae ?_
  exact aD.bD 7 rfl rfl (by first|(simp [hb1];done)|(simp_all;done)|(exfalso;simp_all;done)|(simp_all;omega)) rfl
 refine ag rfl (fun hc2=>?_) (fun hc2=>?_)
 ·
  have hc2':=hc2;try simp only [bm,bL] at hc2'
  refine ad aa 2 rfl ?_
  refine ar ?_
  refine ao ?_
  refine cP (aD.nil 8 115 2 (by decide) rfl) ?_
  have hX:iU l src dst n=(([]:List Entry),3):=by
    unfold iU;rw [if_pos (by omega)]
  rw [hX] at hr;clear hX
  simp only [Prod.mk.injEq] at hr;obtain ⟨rfl,rfl⟩:=hr
  refine ah aa [0] 1 rfl rfl rfl rfl rfl rfl ?_ ?_
  all_goals first|rfl|(simp [au];done)|(simp [au];omega)
 have hc2':=hc2;try simp only [bm,bL] at hc2'
 refine aP ?_
 refine az aa 3 rfl ?_
 refine ay (rH rfl rfl (aF (by first|omega|(simp;done)|(simp;omega)))) rfl ?_
 refine ab aa 4 rfl ?_
 refine aL 1 [0] (dC (ys:=[(0,(.g [(cI src),(cI (0 - n))])),(1,(.g [(cI dst),(cI n)]))]) (rows:=([(⟨src,0 - n⟩:Entry),(⟨dst,n⟩:Entry)]).map eC) 0 jV rfl (by decide) ⟨⟨rfl,rfl⟩,⟨rfl,rfl⟩,trivial⟩ rfl rfl rfl rfl) rfl ?_
 obtain ⟨r0,e0,hr0⟩:∃ (r0:List Entry) (e0:Int),fZ l ([(⟨src,0 - n⟩:Entry),(⟨dst,n⟩:Entry)])=(r0,e0):=⟨_,_,rfl⟩
 refine aL 2 [1,0] (fO 1 [0] (wT l ([(⟨src,0 - n⟩:Entry),(⟨dst,n⟩:Entry)]) r0 e0 hr0) Gb rfl rfl ⟨⟨_,rfl,.c (.d _)⟩,⟨_,rfl,.c (.s rfl (by decide) (by first|omega|(simp;done)|(simp;omega)))⟩,trivial⟩ ⟨trivial,rfl,trivial⟩ ⟨(yw _),trivial⟩ rfl rfl rfl rfl) rfl ?_
 refine ab aa 4 rfl ?_
 refine ae ?_
 refine ar ?_
 have hX:iU l src dst n=(r0,e0):=by
   unfold iU;rw [if_neg (by omega)];assumption
 rw [hX] at hr;clear hX
 simp only [Prod.mk.injEq] at hr;obtain ⟨rfl,rfl⟩:=hr
 refine ah aa [1] 1 rfl rfl rfl rfl rfl rfl ?_ ?_
 all_goals first|rfl|(simp [au];done)|(simp [au];omega)
theorem jt {α:Type}:∀ l:List α,l=[]\/∃ A y,l=A++[y]
 |[]=>.inl rfl
 |x::l=>.inr (by
  rcases jt l with rfl|⟨A,y,rfl⟩
  ·exact ⟨[],x,rfl⟩
  ·exact ⟨x::A,y,rfl⟩)
def gq (a b:aj):Bool:=decide (a.ax < b.ax)||(decide (a.ax=b.ax) && decide (a.ba < b.ba))
def fN (a b:aj):Prop:=a.ax < b.ax\/(a.ax=b.ax/\a.ba<=b.ba)
def jD (a b:aj):Bool:=decide (a.ax=b.ax) && decide (a.ba=b.ba)
def eU (l:List aj):Prop:=l.Pairwise fN
def Same (u v:List aj):Prop:=∀ k:aj,u.filter (jD k)=v.filter (jD k)
theorem rv {a b:aj}:gq a b=true↔(a.ax < b.ax\/(a.ax=b.ax/\a.ba < b.ba)):=by unfold gq;simp
theorem ry {a b:aj}:gq a b=false↔fN b a:=by
 unfold gq fN
 rw [Bool.or_eq_false_iff,decide_eq_false_iff_not,Bool.and_eq_false_iff,decide_eq_false_iff_not,decide_eq_false_iff_not]
 omega
theorem kF {a b:aj} (h:gq a b=true):fN a b:=by rw [rv] at h;unfold fN;omega
theorem nw (a:aj):fN a a:=by unfold fN;omega
theorem kE {a b c:aj} (h:fN a b) (h':fN b c):fN a c:=by unfold fN at *;omega
theorem vg {a b c:aj} (h:gq a b=true) (h':fN b c):gq a c=true:=by rw [rv] at *;unfold fN at *;omega
theorem zR {a b c:aj} (h:fN a b) (h':gq b c=true):gq a c=true:=by rw [rv] at *;unfold fN at *;omega
theorem pc {a b:aj}:jD a b=true↔(a.ax=b.ax/\a.ba=b.ba):=by unfold jD;simp
theorem kY (a:aj):jD a a=true:=by rw [pc];exact ⟨rfl,rfl⟩
theorem Same.refl (u:List aj):Same u u:=fun _=>rfl
theorem Same.symm {u v:List aj} (h:Same u v):Same v u:=fun k=>(h k).symm
theorem Same.trans {u v z:List aj} (h:Same u v) (h':Same v z):Same u z:=fun k=>(h k).trans (h' k)
theorem Same.app {u v u' v':List aj} (h:Same u u') (h':Same v v'):Same (u++v) (u'++v'):=fun k=>by rw [List.filter_append,List.filter_append,h k,h' k]
theorem Same.mem {u v:List aj} (h:Same u v) {x:aj}:x∈u↔x∈v:=by
 have h1:∀ l:List aj,x∈l.filter (jD x)↔x∈l:=fun l=>by simp [kY]
 rw [<-h1 u,<-h1 v,h x]
theorem Same.perm {u v:List aj} (h:Same u v):u.Perm v:=by
 rw [List.perm_iff_count]
 intro x
 rw [<-List.count_filter (p:=jD x) (l:=u) (kY x),<-List.count_filter (p:=jD x) (l:=v) (kY x),h x]
theorem Same.len {u v:List aj} (h:Same u v):u.length=v.length:=h.perm.length_eq
theorem Same.comm {u v:List aj} (h:∀ x∈u,∀ y∈v,gq y x=true):Same (u++v) (v++u):=fun k=>by
 rw [List.filter_append,List.filter_append]
 by_cases hu:u.filter (jD k)=[]
 ·rw [hu];simp
 ·by_cases hv:v.filter (jD k)=[]
  ·rw [hv];simp
  ·exfalso
   obtain ⟨x,hx⟩:=List.exists_mem_of_ne_nil _ hu
   obtain ⟨y,hy⟩:=List.exists_mem_of_ne_nil _ hv
   rw [List.mem_filter] at hx hy
   have h1:=h x hx.1 y hy.1
   have h2:=pc.1 hx.2
   have h3:=pc.1 hy.2
   rw [rv] at h1
   omega
theorem eU.uniq:∀ {u v:List aj},eU u->eU v->Same u v->u=v
 |[],v,_,_,h=>by have:=h.len;exact (List.eq_nil_of_length_eq_zero this.symm).symm
 |x::u,[],_,_,h=>by have:=h.len;cases this
 |x::u,y::v,hu,hv,h=>by
  obtain ⟨hu1,hu2⟩:=List.pairwise_cons.1 hu
  obtain ⟨hv1,hv2⟩:=List.pairwise_cons.1 hv
  have h1:fN x y:=by
   rcases List.mem_cons.1 (h.mem.2 (List.mem_cons_self (a:=y) (l:=v))) with rfl|hm
   ·exact nw _
   ·exact hu1 y hm
  have h2:fN y x:=by
   rcases List.mem_cons.1 (h.mem.1 (List.mem_cons_self (a:=x) (l:=u))) with rfl|hm
   ·exact nw _
   ·exact hv1 x hm
  have h3:jD x y=true:=by rw [pc];unfold fN at h1 h2;omega
  have h4:=h x
  rw [List.filter_cons,List.filter_cons,if_pos (kY x),if_pos h3] at h4
  obtain ⟨rfl,_⟩:=List.cons.inj h4
  have h5:Same u v:=fun k=>by
   have:=h k
   rw [List.filter_cons,List.filter_cons] at this
   split at this
   ·exact (List.cons.inj this).2
   ·exact this
  rw [eU.uniq hu2 hv2 h5]

def gO (d:List aj) (i j:Nat):List aj:=
 match d[i]?,d[j]? with
 |some x,some y=>(d.set i y).set j x
 |_,_=>d
theorem lq {d:List aj} {i j:Nat} {x y:aj} (hx:d[i]?=some x) (hy:d[j]?=some y):gO d i j=(d.set i y).set j x:=by unfold gO;rw [hx,hy]
theorem lN (d:List aj) (i j:Nat):(gO d i j).length=d.length:=by
 unfold gO;split<;>simp
theorem om (s t u:List aj) (x y:aj) {i j:Nat} (hi:i=s.length) (hj:j=s.length+1+t.length):gO (s++x::(t++y::u)) i j=s++y::(t++x::u):=by
 subst hi hj
 have h1:(s++x::(t++y::u))[s.length]?=some x:=by simp
 have h2:(s++x::(t++y::u))[s.length+1+t.length]?=some y:=by
  rw [List.getElem?_append_right (by omega),show s.length+1+t.length - s.length=t.length+1 by omega,List.getElem?_cons_succ];simp
 rw [lq h1 h2,List.set_append_right _ _ (Nat.le_refl _),Nat.sub_self,List.set_cons_zero,List.set_append_right _ _ (by omega),show s.length+1+t.length - s.length=t.length+1 by omega,
  List.set_cons_succ,List.set_append_right _ _ (Nat.le_refl _),Nat.sub_self,List.set_cons_zero]
theorem ya (d:List aj) (i j:Nat):gO d i j=gO d j i:=by
 by_cases hij:i=j
 ·subst hij;rfl
 ·unfold gO
  cases hx:d[i]? with
  |none=>cases hy:d[j]?<;>rfl
  |some x=>
   cases hy:d[j]? with
   |none=>rfl
   |some y=>exact List.set_comm _ _ hij
theorem qW (s t u:List aj) (x y:aj) {i j:Nat} (hi:i=s.length) (hj:j=s.length+1+t.length):gO (s++x::(t++y::u)) j i=s++y::(t++x::u):=by rw [ya];exact om s t u x y hi hj

structure Part (d y:List aj) (a b:Nat):Prop where
 len:y.length=d.length
 l:y.take a=d.take a
 r:y.drop b=d.drop b
 s:eU ((y.drop a).take (b - a))
 m:Same d y
theorem Part.of {P X C R:List aj} {a b:Nat} (ha:P.length=a) (hb:b=a+X.length) (hs:eU C) (hm:Same X C):Part (P++X++R) (P++C++R) a b:=by
 subst ha hb
 have hl:=hm.len
 refine ⟨by simp [hl],by simp,?_,?_,((Same.refl P).app hm).app (Same.refl R)⟩
 ·have h1:∀ Z:List aj,Z.length=X.length->(P++Z++R).drop (P.length+X.length)=R:=fun Z hz=>by
   rw [<-hz,<-List.length_append,List.drop_left]
  rw [h1 C hl.symm,h1 X rfl]
 ·rw [List.append_assoc,List.drop_left,show P.length+X.length - P.length=C.length by omega,List.take_left];exact hs
theorem parts {d:List aj} {a b:Nat} (h:a<=b) (hb:b<=d.length):d=d.take a++(d.drop a).take (b - a)++d.drop b:=by
 have h1:d.drop b=(d.drop a).drop (b - a):=by rw [List.drop_drop];congr 1;omega
 rw [h1,List.append_assoc,List.take_append_drop,List.take_append_drop]

def jo (a:Nat):Nat->List aj->List aj
 |0,d=>d
 |j+1,d=>
  if a < j+1 then
   match d[j+1]?,d[j]? with
   |some x,some y=>if gq x y=true then jo a j (gO d (j+1) j) else d
   |_,_=>d
  else d
theorem qt {a j:Nat} {d:List aj} (h:¬a < j):jo a j d=d:=by
 cases j with
 |zero=>rfl
 |succ j=>unfold jo;rw [if_neg h]
theorem oJ {a j:Nat} {d:List aj} {x y:aj} (hx:d[j]?=some x) (hy:d[j - 1]?=some y) (h:gq x y=false):jo a j d=d:=by
 cases j with
 |zero=>rfl
 |succ j=>
  unfold jo
  split
  ·rw [hx,show d[j]?=some y from hy];simp [h]
  ·rfl
theorem xG {a j:Nat} {d:List aj} {x y:aj} (ha:a < j) (hx:d[j]?=some x) (hy:d[j - 1]?=some y) (h:gq x y=true):jo a j d=jo a (j - 1) (gO d j (j - 1)):=by
 cases j with
 |zero=>omega
 |succ j=>
  conv=>lhs;unfold jo
  rw [if_pos ha,hx,show d[j]?=some y from hy]
  simp only [h,if_true]
  rfl
theorem vq (a:Nat):∀ (j:Nat) (d:List aj),(jo a j d).length=d.length
 |0,d=>rfl
 |j+1,d=>by
  unfold jo
  split
  ·split
   ·split
    ·rw [vq a j,lN]
    ·rfl
   ·rfl
  ·rfl
theorem vr (P:List aj) (x:aj):∀ (n:Nat) (A R:List aj),A.length=n->∃ A1 A2,A=A1++A2/\jo P.length (P.length+n) (P++A++x::R)=P++(A1++x::A2)++R/\(∀ y∈A2,gq x y=true)/\(∀ A0 y,A1=A0++[y]->fN y x)
 |0,A,R,hA=>by
  obtain rfl:=List.eq_nil_of_length_eq_zero hA
  refine ⟨[],[],rfl,?_,by simp,by simp⟩
  rw [qt (by omega)];simp
 |n+1,A,R,hA=>by
  obtain ⟨A',y,rfl⟩:∃ A' y,A=A'++[y]:=by
   rcases jt A with rfl|h
   ·cases hA
   ·exact h
  have hn:A'.length=n:=by simpa using hA
  have e1:P++(A'++[y])++x::R=(P++A')++y::([]++x::R):=by simp
  have h1:(P++(A'++[y])++x::R)[P.length+(n+1)]?=some x:=by
   rw [List.getElem?_append_right (by simp;omega),show P.length+(n+1) - (P++(A'++[y])).length=0 by simp;omega];rfl
  have h2:(P++(A'++[y])++x::R)[P.length+(n+1) - 1]?=some y:=by
   rw [e1,List.getElem?_append_right (by simp;omega),show P.length+(n+1) - 1 - (P++A').length=0 by simp;omega];rfl
  cases hc:gq x y with
  |true=>
   rw [xG (by omega) h1 h2 hc,show P.length+(n+1) - 1=P.length+n by omega,e1,qW (P++A') [] R y x (by simp;omega) (by simp;omega)]
   obtain ⟨A1,A2,rfl,h3,h4,h5⟩:=vr P x n A' (y::R) hn
   refine ⟨A1,A2++[y],by simp,?_,?_,h5⟩
   ·rw [List.nil_append,h3];simp
   ·intro z hz
    rcases List.mem_append.1 hz with hz|hz
    ·exact h4 z hz
    ·rw [List.mem_singleton.1 hz];exact hc
  |false=>
   rw [oJ h1 h2 hc]
   refine ⟨A'++[y],[],by simp,by simp,by simp,fun A0 z hz=>?_⟩
   obtain ⟨_,h⟩:=List.append_inj' hz rfl
   rw [<-List.cons.inj h|>.1]
   exact ry.1 hc
theorem gr {u v:List aj}:eU (u++v)↔eU u/\eU v/\∀ x∈u,∀ y∈v,fN x y:=List.pairwise_append
theorem uJ {u:List aj} {y x:aj} (h:eU (u++[y])) (hx:fN y x):∀ z∈u++[y],fN z x:=fun z hz=>by
 rcases List.mem_append.1 hz with hz|hz
 ·exact kE ((gr.1 h).2.2 z hz y (List.mem_singleton.2 rfl)) hx
 ·rw [List.mem_singleton.1 hz];exact hx
theorem zS {u:List aj} {x:aj} (h:eU u) (hl:∀ A0 y,u=A0++[y]->fN y x):∀ z∈u,fN z x:=by
 rcases jt u with rfl|⟨A',y,h'⟩
 ·simp
 ·rw [h'] at h ⊢;exact uJ h (hl A' y h')
theorem zO {A1 A2:List aj} {x:aj} (h:eU (A1++A2)) (h1:∀ z∈A1,fN z x) (h2:∀ z∈A2,gq x z=true):eU (A1++x::A2)/\Same (A1++A2++[x]) (A1++x::A2):=by
 obtain ⟨s1,s2,s3⟩:=gr.1 h
 refine ⟨gr.2 ⟨s1,List.pairwise_cons.2 ⟨fun y hy=>kF (h2 y hy),s2⟩,fun z hz y hy=>?_⟩,?_⟩
 ·rcases List.mem_cons.1 hy with rfl|hy
  ·exact h1 z hz
  ·exact s3 z hz y hy
 ·have:=(Same.refl A1).app (Same.comm (u:=A2) (v:=[x]) fun y hy z hz=>by rw [List.mem_singleton.1 hz];exact h2 y hy)
  simpa using this
theorem Dn {B1 B2:List aj} {x:aj} (h:eU (B1++B2)) (h1:∀ z∈B1,gq z x=true) (h2:∀ z∈B2,fN x z):eU (B1++x::B2)/\Same (x::(B1++B2)) (B1++x::B2):=by
 obtain ⟨s1,s2,s3⟩:=gr.1 h
 refine ⟨gr.2 ⟨s1,List.pairwise_cons.2 ⟨h2,s2⟩,fun z hz y hy=>?_⟩,?_⟩
 ·rcases List.mem_cons.1 hy with rfl|hy
  ·exact kF (h1 z hz)
  ·exact s3 z hz y hy
 ·have:=(Same.comm (u:=[x]) (v:=B1) fun y hy z hz=>by rw [List.mem_singleton.1 hy];exact h1 z hz).app (Same.refl B2)
  simpa using this
def jc (a:Nat):Nat->List aj->List aj
 |0,d=>d
 |n+1,d=>jo a (a+1+n) (jc a n d)
theorem qq (a:Nat):∀ (n:Nat) (d:List aj),(jc a n d).length=d.length
 |0,_=>rfl
 |n+1,d=>by unfold jc;rw [vq,qq a n]
theorem vn (P X R:List aj):∀ n,n < X.length->∃ C,jc P.length n (P++X++R)=P++C++X.drop (n+1)++R/\eU C/\Same (X.take (n+1)) C
 |0,h=>by
  refine ⟨X.take 1,?_,?_,Same.refl _⟩
  ·unfold jc;rw [List.append_assoc P (X.take 1),List.take_append_drop]
  ·cases X with
   |nil=>cases h
   |cons x X=>exact List.pairwise_singleton _ _
 |n+1,h=>by
  obtain ⟨C,h1,h2,h3⟩:=vn P X R n (by omega)
  have hl:C.length=n+1:=by rw [<-h3.len,List.length_take];omega
  have e1:X.drop (n+1)=X[n+1]::X.drop (n+2):=List.drop_eq_getElem_cons h
  obtain ⟨A1,A2,rfl,h4,h5,h6⟩:=vr P X[n+1] (n+1) C (X.drop (n+2)++R) hl
  have h7:eU A1:=(gr.1 h2).1
  obtain ⟨h8,h9⟩:=zO h2 (zS h7 h6) h5
  refine ⟨A1++X[n+1]::A2,?_,h8,?_⟩
  ·unfold jc
   rw [h1,show P.length+1+n=P.length+(n+1) by omega,show P++(A1++A2)++X.drop (n+1)++R=P++(A1++A2)++X[n+1]::(X.drop (n+2)++R) by rw [List.append_assoc _ _ R,e1,List.cons_append],h4]
   simp
  ·rw [List.take_add_one,List.getElem?_eq_getElem h]
   exact (h3.app (Same.refl _)).trans h9
theorem tF {d:List aj} {a b:Nat} (h:a<=b) (hb:b<=d.length):Part d (jc a (b - (a+1)) d) a b:=by
 by_cases hab:a=b
 ·subst hab
  rw [show a - (a+1)=0 by omega]
  exact ⟨rfl,rfl,rfl,by rw [Nat.sub_self];exact List.Pairwise.nil,Same.refl _⟩
 ·have e:=parts h hb
  have h1:(d.take a).length=a:=by rw [List.length_take];omega
  have h2:((d.drop a).take (b - a)).length=b - a:=by rw [List.length_take,List.length_drop];omega
  obtain ⟨C,h3,h4,h5⟩:=vn (d.take a) ((d.drop a).take (b - a)) (d.drop b) (b - (a+1)) (by omega)
  rw [h1] at h3
  rw [<-e,List.drop_of_length_le (l:=(d.drop a).take (b - a)) (by omega),List.append_nil] at h3
  rw [List.take_of_length_le (l:=(d.drop a).take (b - a)) (by omega)] at h5
  have:=Part.of (P:=d.take a) (R:=d.drop b) (a:=a) (b:=b) h1 (by omega) h4 h5
  rwa [<-e,<-h3] at this

def dq (d:List aj) (i j:Nat):Bool:=
 match d[i]?,d[j]? with
 |some x,some y=>gq x y
 |_,_=>false
theorem fM {d:List aj} {i j:Nat} {x y:aj} (hx:d[i]?=some x) (hy:d[j]?=some y):dq d i j=gq x y:=by unfold dq;rw [hx,hy]
def fE (p:Nat->Bool) (i j:Nat):Nat:=
 if _h:i < j then if p ((i+j) / 2)=true then fE p ((i+j) / 2+1) j else fE p i ((i+j) / 2) else i
termination_by j - i
theorem eH {p:Nat->Bool} {i j:Nat} (h:¬i < j):fE p i j=i:=by rw [fE,dif_neg h]
theorem Da {p:Nat->Bool} {i j:Nat} (h:i < j) (hp:p ((i+j) / 2)=true):fE p i j=fE p ((i+j) / 2+1) j:=by rw [fE,dif_pos h,if_pos hp]
theorem Db {p:Nat->Bool} {i j:Nat} (h:i < j) (hp:p ((i+j) / 2)=false):fE p i j=fE p i ((i+j) / 2):=by rw [fE,dif_pos h,if_neg (by rw [hp];exact Bool.false_ne_true)]
theorem ki (p:Nat->Bool):∀ (n i j:Nat),j - i<=n->i<=j->i<=fE p i j/\fE p i j<=j/\(fE p i j=i\/p (fE p i j - 1)=true)/\(fE p i j=j\/p (fE p i j)=false)
 |0,i,j,hn,h=>by rw [eH (by omega)];exact ⟨Nat.le_refl _,h,.inl rfl,.inl (by omega)⟩
 |n+1,i,j,hn,h=>by
  by_cases hij:i < j
  ·cases hp:p ((i+j) / 2) with
   |true=>
    rw [Da hij hp]
    obtain ⟨h1,h2,h3,h4⟩:=ki p n ((i+j) / 2+1) j (by omega) (by omega)
    refine ⟨by omega,h2,?_,h4⟩
    rcases h3 with h3|h3
    ·right;rw [h3,Nat.add_sub_cancel];exact hp
    ·exact .inr h3
   |false=>
    rw [Db hij hp]
    obtain ⟨h1,h2,h3,h4⟩:=ki p n i ((i+j) / 2) (by omega) (by omega)
    refine ⟨h1,by omega,h3,?_⟩
    rcases h4 with h4|h4
    ·right;rw [h4];exact hp
    ·exact .inr h4
  ·rw [eH hij];exact ⟨Nat.le_refl _,h,.inl rfl,.inl (by omega)⟩
def nU (a:Nat):Nat->List aj->List aj
 |0,d=>d
 |n+1,d=>gO (nU a n d) (a+n) (a+n+1)
def nV (m:Nat):Nat->List aj->List aj
 |0,d=>d
 |n+1,d=>gO (nV m n d) (m - n) (m - n - 1)
theorem xB (a:Nat):∀ (n:Nat) (d:List aj),(nU a n d).length=d.length
 |0,_=>rfl
 |n+1,d=>by unfold nU;rw [lN,xB a n]
theorem xD (m:Nat):∀ (n:Nat) (d:List aj),(nV m n d).length=d.length
 |0,_=>rfl
 |n+1,d=>by unfold nV;rw [lN,xD m n]
theorem xC (P:List aj) (x:aj):∀ (n:Nat) (V R:List aj),V.length=n->nU P.length n (P++x::(V++R))=P++V++x::R
 |0,V,R,h=>by obtain rfl:=List.eq_nil_of_length_eq_zero h;simp [nU]
 |n+1,V,R,h=>by
  rcases jt V with rfl|⟨V',y,rfl⟩
  ·cases h
  ·have hn:V'.length=n:=by simpa using h
   unfold nU
   rw [show P++x::(V'++[y]++R)=P++x::(V'++(y::R)) by simp,xC P x n V' (y::R) hn]
   have:=om (P++V') [] R x y (i:=P.length+n) (j:=P.length+n+1) (by simp;omega) (by simp;omega)
   rw [List.nil_append,List.nil_append] at this
   rw [this];simp
theorem xE (P:List aj) (x:aj) (R:List aj):∀ (n:Nat) (U1 U2:List aj),U2.length=n->nV (P++U1++U2).length n (P++U1++U2++x::R)=P++U1++x::(U2++R)
 |0,U1,U2,h=>by obtain rfl:=List.eq_nil_of_length_eq_zero h;simp [nV]
 |n+1,U1,U2,h=>by
  cases U2 with
  |nil=>cases h
  |cons y U=>
   have hn:U.length=n:=by simpa using h
   unfold nV
   have e1:P++U1++y::U=P++(U1++[y])++U:=by simp
   rw [e1,xE P x R n (U1++[y]) U hn]
   have:=qW (P++U1) [] (U++R) y x (i:=(P++(U1++[y])++U).length - n - 1) (j:=(P++(U1++[y])++U).length - n) (by simp;omega) (by simp;omega)
   rw [List.nil_append,List.nil_append] at this
   rw [show P++(U1++[y])++x::(U++R)=P++U1++y::x::(U++R) by simp,this]
   simp
def fY (a b:Nat):Nat->List aj->List aj
 |0,d=>d
 |n+1,d=>gO (fY a b n d) (a+n) (b+n)
theorem iK (a b:Nat):∀ (n:Nat) (d:List aj),(fY a b n d).length=d.length
 |0,_=>rfl
 |n+1,d=>by unfold fY;rw [lN,iK a b n]
theorem lM (p:List aj):∀ (n:Nat) (x q y r:List aj) {b:Nat},x.length=n->y.length=n->b=p.length+n+q.length->fY p.length b n (p++(x++(q++(y++r))))=p++(y++(q++(x++r)))
 |0,x,q,y,r,b,hx,hy,_=>by obtain rfl:=List.eq_nil_of_length_eq_zero hx;obtain rfl:=List.eq_nil_of_length_eq_zero hy;rfl
 |n+1,x,q,y,r,b,hx,hy,hb=>by
  rcases jt x with rfl|⟨x',x1,rfl⟩
  ·cases hx
  rcases jt y with rfl|⟨y',y1,rfl⟩
  ·cases hy
  have h1:x'.length=n:=by simpa using hx
  have h2:y'.length=n:=by simpa using hy
  unfold fY
  have:=lM p n x' (x1::q) y' (y1::r) (b:=b) h1 h2 (by simp;omega)
  rw [show p++(x'++[x1]++(q++(y'++[y1]++r)))=p++(x'++(x1::q++(y'++y1::r))) by simp,this]
  have:=om (p++y') (q++x') r x1 y1 (i:=p.length+n) (j:=b+n) (by simp;omega) (by simp;omega)
  rw [show p++(y'++(x1::q++(x'++y1::r)))=p++y'++x1::(q++x'++y1::r) by simp,this]
  simp
def iY (m:Nat) (i j:Nat) (d:List aj):List aj:=
 if _h:0 < i/\0 < j then
  if i=j then fY (m - i) m i d
  else if i > j then iY m (i - j) j (fY (m - i) m j d)
  else iY m i (j - i) (fY (m - i) (m+j - i) i d)
 else d
termination_by i+j
theorem zD {m i:Nat} {d:List aj} (hi:0 < i):iY m i i d=fY (m - i) m i d:=by rw [iY,dif_pos ⟨hi,hi⟩,if_pos rfl]
theorem zC {m i j:Nat} {d:List aj} (hj:0 < j) (h:i > j):iY m i j d=iY m (i - j) j (fY (m - i) m j d):=by rw [iY,dif_pos ⟨by omega,hj⟩,if_neg (by omega),if_pos h]
theorem zB {m i j:Nat} {d:List aj} (hi:0 < i) (h:i < j):iY m i j d=iY m i (j - i) (fY (m - i) (m+j - i) i d):=by rw [iY,dif_pos ⟨hi,by omega⟩,if_neg (by omega),if_neg (by omega)]
theorem sj:∀ (n:Nat) (P u v R:List aj) (m:Nat),u.length+v.length<=n->0 < u.length->0 < v.length->m=P.length+u.length->iY m u.length v.length (P++(u++(v++R)))=P++(v++(u++R))
 |0,P,u,v,R,m,hn,hu,hv,hm=>by omega
 |n+1,P,u,v,R,m,hn,hu,hv,hm=>by
  rcases Nat.lt_trichotomy u.length v.length with h|h|h
  ·rw [zB hu h]
   have e:v=v.take (v.length - u.length)++v.drop (v.length - u.length):=(List.take_append_drop _ _).symm
   have l1:(v.take (v.length - u.length)).length=v.length - u.length:=by rw [List.length_take];omega
   have l2:(v.drop (v.length - u.length)).length=u.length:=by rw [List.length_drop];omega
   generalize hv1:v.take (v.length - u.length)=v1 at e l1
   generalize hv2:v.drop (v.length - u.length)=v2 at e l2
   have h1:=lM P u.length u v1 v2 R (b:=m+v.length - u.length) rfl l2 (by omega)
   rw [show m - u.length=P.length by omega,show P++(u++(v++R))=P++(u++(v1++(v2++R))) by rw [e];simp,h1,<-l1]
   have h2:=sj n P v2 v1 (u++R) m (by omega) (by omega) (by omega) (by omega)
   rw [l2] at h2
   rw [h2,e];simp
  ·rw [<-h,zD hu,show m - u.length=P.length by omega]
   have h1:=lM P u.length u [] v R (b:=m) rfl h.symm (by simp;omega)
   simpa using h1
  ·rw [zC hv h]
   have e:u=u.take v.length++u.drop v.length:=(List.take_append_drop _ _).symm
   have l1:(u.take v.length).length=v.length:=by rw [List.length_take];omega
   have l2:(u.drop v.length).length=u.length - v.length:=by rw [List.length_drop]
   generalize hv1:u.take v.length=u1 at e l1
   generalize hv2:u.drop v.length=u2 at e l2
   have h1:=lM P v.length u1 u2 v R (b:=m) l1 rfl (by omega)
   rw [show m - u.length=P.length by omega,show P++(u++(v++R))=P++(u1++(u2++(v++R))) by rw [e];simp,h1,<-l2]
   have h2:=sj n (P++v) u2 u1 R m (by omega) (by omega) (by omega) (by simp;omega)
   rw [l1] at h2
   rw [show P++(v++(u2++(u1++R)))=P++v++(u2++(u1++R)) by simp,h2,e];simp
theorem mI:∀ (n m i j:Nat) (d:List aj),i+j<=n->(iY m i j d).length=d.length
 |0,m,i,j,d,h=>by rw [iY,dif_neg (by omega)]
 |n+1,m,i,j,d,h=>by
  rw [iY]
  split
  ·split
   ·rw [iK]
   ·split
    ·rw [mI n _ _ _ _ (by omega),iK]
    ·rw [mI n _ _ _ _ (by omega),iK]
  ·rfl
def ef (d:List aj) (a m b:Nat):Nat:=
 if m > (a+b) / 2 then fE (fun c=>!dq d ((a+b) / 2+m - 1 - c) c) ((a+b) / 2+m - b) ((a+b) / 2)
 else fE (fun c=>!dq d ((a+b) / 2+m - 1 - c) c) a m
def eS (s m e:Nat) (d:List aj):List aj:=if s < m/\m < e then iY m (m - s) (e - m) d else d
def dy:Nat->Nat->Nat->Nat->List aj->List aj
 |0,_,_,_,d=>d
 |f+1,a,m,b,d=>
  if m - a=1 then nU a (fE (fun h=>dq d h a) m b - 1 - a) d
  else if b - m=1 then nV m (m - fE (fun h=>!dq d m h) a m) d
  else
   (fun s=>(fun e=>(fun d1=>(fun d2=>if (a+b) / 2 < e/\e < b then dy f ((a+b) / 2) e b d2 else d2)
    (if a < s/\s < (a+b) / 2 then dy f a s ((a+b) / 2) d1 else d1)) (eS s m e d)) ((a+b) / 2+m - s)) (ef d a m b)
theorem kX (s m e:Nat) (d:List aj):(eS s m e d).length=d.length:=by unfold eS;split;exact mI _ _ _ _ _ (Nat.le_refl _);rfl
theorem eK:∀ (f a m b:Nat) (d:List aj),(dy f a m b d).length=d.length
 |0,_,_,_,_=>rfl
 |f+1,a,m,b,d=>by
  unfold dy
  split
  ·rw [xB]
  ·split
   ·rw [xD]
   ·dsimp only
    split
    ·rw [eK f]
     split
     ·rw [eK f,kX]
     ·rw [kX]
    ·split
     ·rw [eK f,kX]
     ·rw [kX]
theorem tE {a i:Nat} {d:List aj} (h:a+1<=i):jc a (i+1 - (a+1)) d=jo a i (jc a (i - (a+1)) d):=by
 rw [show i+1 - (a+1)=(i - (a+1))+1 by omega]
 conv=>lhs;unfold jc
 rw [show a+1+(i - (a+1))=i by omega]
theorem Bz {a k:Nat} {d:List aj} (h:a<=k):nU a (k+1 - a) d=gO (nU a (k - a) d) k (k+1):=by
 rw [show k+1 - a=(k - a)+1 by omega]
 conv=>lhs;unfold nU
 rw [show a+(k - a)=k by omega]
theorem BA {m k:Nat} {d:List aj} (h:k<=m) (h0:0 < k):nV m (m - (k - 1)) d=gO (nV m (m - k) d) k (k - 1):=by
 rw [show m - (k - 1)=(m - k)+1 by omega]
 conv=>lhs;unfold nV
 rw [show m - (m - k)=k by omega]
theorem lX {P X:List aj} {k n:Nat} (hn:n=P.length+k):(P++X)[n]?=X[k]?:=by
 subst hn;rw [List.getElem?_append_right (by omega),Nat.add_sub_cancel_left]
theorem le_last {B:List aj} {x:aj} (h:eU B) (hl:∀ A0 y,B=A0++[y]->gq y x=true):∀ z∈B,gq z x=true:=by
 rcases jt B with rfl|⟨A',y,h'⟩
 ·simp
 ·intro z hz
  have h1:=hl A' y h'
  rw [h'] at h hz
  rcases List.mem_append.1 hz with hz|hz
  ·exact zR ((gr.1 h).2.2 z hz y (List.mem_singleton.2 rfl)) h1
  ·rw [List.mem_singleton.1 hz];exact h1
theorem BV {B:List aj} {x:aj} (h:eU B) (hl:∀ y B0,B=y::B0->gq x y=true):∀ z∈B,gq x z=true:=by
 cases B with
 |nil=>simp
 |cons y B0=>
  intro z hz
  have h1:=hl y B0 rfl
  rcases List.mem_cons.1 hz with rfl|hz
  ·exact h1
  ·exact vg h1 ((List.pairwise_cons.1 h).1 z hz)
theorem BW {B:List aj} {x:aj} (h:eU B) (hl:∀ y B0,B=y::B0->fN x y):∀ z∈B,fN x z:=by
 cases B with
 |nil=>simp
 |cons y B0=>
  intro z hz
  have h1:=hl y B0 rfl
  rcases List.mem_cons.1 hz with rfl|hz
  ·exact h1
  ·exact kE h1 ((List.pairwise_cons.1 h).1 z hz)
theorem uK {A:List aj} {y:aj} {A0:List aj} (h:A=A0++[y]):A[A.length - 1]?=some y:=by subst h;simp
theorem na (l:List aj) (k:Nat) (h:k<=l.length):∃ u v,l=u++v/\u.length=k:=⟨l.take k,l.drop k,(List.take_append_drop k l).symm,by rw [List.length_take];omega⟩
theorem tK {U:List aj} {u:aj} (h:eU U) (hu:U[0]?=some u):∀ x∈U,fN u x:=by
 cases U with
 |nil=>simp
 |cons y U=>
  simp at hu;subst hu
  intro x hx
  rcases List.mem_cons.1 hx with rfl|hx
  ·exact nw _
  ·exact (List.pairwise_cons.1 h).1 x hx
theorem vj {V:List aj} {v:aj} (h:eU V) (hv:V[V.length - 1]?=some v):∀ y∈V,fN y v:=by
 rcases jt V with rfl|⟨A,z,rfl⟩
 ·simp
 ·simp at hv;subst hv
  exact uJ h (nw _)
theorem get_some {V:List aj} {k:Nat} (h:k < V.length):∃ v,V[k]?=some v:=⟨V[k],List.getElem?_eq_getElem h⟩
theorem qh:∀ (f:Nat) (P A B R:List aj),A.length+B.length<=f->0 < A.length->0 < B.length->eU A->eU B->
  ∃ C,dy f P.length (P.length+A.length) (P.length+A.length+B.length) (P++(A++(B++R)))=P++(C++R)/\eU C/\Same (A++B) C
 |0,P,A,B,R,hf,ha,hb,_,_=>by omega
 |f+1,P,A,B,R,hf,ha,hb,sA,sB=>by
  obtain ⟨a,hea⟩:∃ a,a=P.length:=⟨_,rfl⟩
  obtain ⟨m,hem⟩:∃ m,m=P.length+A.length:=⟨_,rfl⟩
  obtain ⟨b,heb⟩:∃ b,b=P.length+A.length+B.length:=⟨_,rfl⟩
  rw [<-hea,show a+A.length=m by omega,show m+B.length=b by omega]
  unfold dy
  split
  ·
   rename_i h1
   obtain ⟨x,rfl⟩:∃ x,A=[x]:=by
    match A,ha,(by omega:A.length=1) with
    |[x],_,_=>exact ⟨x,rfl⟩
   have hl1:[x].length=1:=rfl
   obtain ⟨q1,q2,q3,q4⟩:=ki (fun h=>dq (P++([x]++(B++R))) h a) (b - m) m b (Nat.le_refl _) (by omega)
   generalize fE (fun h=>dq (P++([x]++(B++R))) h a) m b=i at q1 q2 q3 q4
   obtain ⟨B1,B2,rfl,hB1⟩:=na B (i - m) (by omega)
   rw [List.length_append] at heb
   have gx:(P++([x]++(B1++B2++R)))[a]?=some x:=by rw [lX (k:=0) (by omega)];rfl
   have gB:∀ k,k < B1.length+B2.length->(P++([x]++(B1++B2++R)))[m+k]?=(B1++B2)[k]?:=fun k hk=>by
    rw [lX (k:=k+1) (by omega),List.cons_append,List.getElem?_cons_succ,List.nil_append,List.getElem?_append_left (by simp;omega)]
   obtain ⟨s1,s2,s3⟩:=gr.1 sB
   have w1:∀ z∈B1,gq z x=true:=le_last s1 fun A0 y hy=>by
    have hpos:0 < B1.length:=by rw [hy];simp
    rcases q3 with q3|q3
    ·omega
    ·have g1:=gB (B1.length - 1) (by omega)
     rw [List.getElem?_append_left (l₁:=B1) (by omega),uK hy,show m+(B1.length - 1)=i - 1 by omega] at g1
     have q3:dq (P++([x]++(B1++B2++R))) (i - 1) a=true:=q3
     rwa [fM g1 gx] at q3
   have w2:∀ z∈B2,fN x z:=BW s2 fun y B0 hy=>by
    have hpos:0 < B2.length:=by rw [hy];simp
    rcases q4 with q4|q4
    ·omega
    ·have g1:=gB B1.length (by omega)
     have g2:B2[0]?=some y:=by rw [hy];rfl
     rw [List.getElem?_append_right (l₁:=B1) (Nat.le_refl _),Nat.sub_self,g2,show m+B1.length=i by omega] at g1
     have q4:dq (P++([x]++(B1++B2++R))) i a=false:=q4
     rw [fM g1 gx] at q4
     exact ry.1 q4
   obtain ⟨t1,t2⟩:=Dn sB w1 w2
   refine ⟨B1++x::B2,?_,t1,t2⟩
   have h2:=xC P x B1.length B1 (B2++R) rfl
   rw [show i - 1 - a=B1.length by omega,hea,show P++([x]++(B1++B2++R))=P++x::(B1++(B2++R)) by simp,h2]
   simp
  ·split
   ·
    rename_i h0 h1
    obtain ⟨x,rfl⟩:∃ x,B=[x]:=by
     match B,hb,(by omega:B.length=1) with
     |[x],_,_=>exact ⟨x,rfl⟩
    have hl1:[x].length=1:=rfl
    obtain ⟨q1,q2,q3,q4⟩:=ki (fun h=>!dq (P++(A++([x]++R))) m h) (m - a) a m (Nat.le_refl _) (by omega)
    generalize fE (fun h=>!dq (P++(A++([x]++R))) m h) a m=i at q1 q2 q3 q4
    obtain ⟨A1,A2,rfl,hA1⟩:=na A (i - a) (by omega)
    rw [List.length_append] at hem heb
    have gx:(P++(A1++A2++([x]++R)))[m]?=some x:=by rw [lX (k:=A1.length+A2.length) (by omega),lX (k:=0) (by simp)];rfl
    have gA:∀ k,k < A1.length+A2.length->(P++(A1++A2++([x]++R)))[a+k]?=(A1++A2)[k]?:=fun k hk=>by
     rw [lX (k:=k) (by omega),List.getElem?_append_left (by simp;omega)]
    obtain ⟨s1,s2,s3⟩:=gr.1 sA
    have w1:∀ z∈A1,fN z x:=zS s1 fun A0 y hy=>by
     have hpos:0 < A1.length:=by rw [hy];simp
     rcases q3 with q3|q3
     ·omega
     ·have g1:=gA (A1.length - 1) (by omega)
      rw [List.getElem?_append_left (l₁:=A1) (by omega),uK hy,show a+(A1.length - 1)=i - 1 by omega] at g1
      have q3:(!dq (P++(A1++A2++([x]++R))) m (i - 1))=true:=q3
      rw [fM gx g1,Bool.not_eq_true'] at q3
      exact ry.1 q3
    have w2:∀ z∈A2,gq x z=true:=BV s2 fun y B0 hy=>by
     have hpos:0 < A2.length:=by rw [hy];simp
     rcases q4 with q4|q4
     ·omega
     ·have g1:=gA A1.length (by omega)
      have g2:A2[0]?=some y:=by rw [hy];rfl
      rw [List.getElem?_append_right (l₁:=A1) (Nat.le_refl _),Nat.sub_self,g2,show a+A1.length=i by omega] at g1
      have q4:(!dq (P++(A1++A2++([x]++R))) m i)=false:=q4
      rw [fM gx g1,Bool.not_eq_false'] at q4
      exact q4
    obtain ⟨t1,t2⟩:=zO sA w1 w2
    refine ⟨A1++x::A2,?_,t1,t2⟩
    have h2:=xE P x R A2.length A1 A2 rfl
    rw [show (P++A1++A2).length=m by simp;omega] at h2
    rw [show m - i=A2.length by omega,show P++(A1++A2++([x]++R))=P++A1++A2++x::R by simp,h2]
    simp
   ·
    rename_i h0 h1
    obtain ⟨mid,hmid⟩:∃ mid,mid=(a+b) / 2:=⟨_,rfl⟩
    have hs:∃ s,ef (P++(A++(B++R))) a m b=s/\a<=s/\s<=m/\s<=mid/\mid+m - s<=b/\
      (s=m\/s=mid\/dq (P++(A++(B++R))) (mid+m - 1 - s) s=true)/\(s=a\/mid+m - s=b\/dq (P++(A++(B++R))) (mid+m - s) (s - 1)=false):=by
     refine ⟨_,rfl,?_⟩
     unfold ef
     rw [<-hmid]
     split
     ·obtain ⟨q1,q2,q3,q4⟩:=ki (fun c=>!dq (P++(A++(B++R))) (mid+m - 1 - c) c) (mid - (mid+m - b)) (mid+m - b) mid (Nat.le_refl _) (by omega)
      generalize fE (fun c=>!dq (P++(A++(B++R))) (mid+m - 1 - c) c) (mid+m - b) mid=s at q1 q2 q3 q4
      refine ⟨by omega,by omega,by omega,by omega,?_,?_⟩
      ·rcases q4 with q4|q4
       ·exact .inr (.inl q4)
       ·right;right;simpa using q4
      ·rcases q3 with q3|q3
       ·right;left;omega
       ·by_cases hs0:s=a
        ·exact .inl hs0
        ·right;right
         have q3:(!dq (P++(A++(B++R))) (mid+m - 1 - (s - 1)) (s - 1))=true:=q3
         rw [show mid+m - 1 - (s - 1)=mid+m - s by omega] at q3;simpa using q3
     ·obtain ⟨q1,q2,q3,q4⟩:=ki (fun c=>!dq (P++(A++(B++R))) (mid+m - 1 - c) c) (m - a) a m (Nat.le_refl _) (by omega)
      generalize fE (fun c=>!dq (P++(A++(B++R))) (mid+m - 1 - c) c) a m=s at q1 q2 q3 q4
      refine ⟨by omega,by omega,by omega,by omega,?_,?_⟩
      ·rcases q4 with q4|q4
       ·exact .inl q4
       ·right;right;simpa using q4
      ·rcases q3 with q3|q3
       ·exact .inl q3
       ·by_cases hs0:s=a
        ·exact .inl hs0
        ·right;right
         have q3:(!dq (P++(A++(B++R))) (mid+m - 1 - (s - 1)) (s - 1))=true:=q3
         rw [show mid+m - 1 - (s - 1)=mid+m - s by omega] at q3;simpa using q3
    obtain ⟨s,hs0,hs1,hs2,hs3,hs4,hs5,hs6⟩:=hs
    dsimp only
    rw [hs0,<-hmid]
    obtain ⟨A1,U,rfl,hA1⟩:=na A (s - a) (by omega)
    rw [List.length_append] at hem heb ha hf
    obtain ⟨V,B2,rfl,hV⟩:=na B (mid+m - s - m) (by omega)
    rw [List.length_append] at heb hb hf
    have gA:∀ k,k < A1.length+U.length->(P++(A1++U++(V++B2++R)))[a+k]?=(A1++U)[k]?:=fun k hk=>by
     rw [lX (k:=k) (by omega),List.getElem?_append_left (by simp;omega)]
    have gB:∀ k,k < V.length+B2.length->(P++(A1++U++(V++B2++R)))[m+k]?=(V++B2)[k]?:=fun k hk=>by
     rw [lX (k:=A1.length+U.length+k) (by omega),lX (k:=k) (by simp),List.getElem?_append_left (by simp;omega)]
    obtain ⟨a1,a2,a3⟩:=gr.1 sA
    obtain ⟨b1,b2,b3⟩:=gr.1 sB
    have w1:∀ x∈U,∀ y∈V,gq y x=true:=by
     intro x hx y hy
     have hU:0 < U.length:=List.length_pos_of_mem hx
     have hVp:0 < V.length:=List.length_pos_of_mem hy
     rcases hs5 with h5|h5|h5
     ·omega
     ·omega
     ·obtain ⟨v,hv⟩:=get_some (V:=V) (k:=V.length - 1) (by omega)
      obtain ⟨u,hu⟩:=get_some (V:=U) (k:=0) hU
      have g1:=gB (V.length - 1) (by omega)
      rw [List.getElem?_append_left (l₁:=V) (by omega),hv,show m+(V.length - 1)=mid+m - 1 - s by omega] at g1
      have g2:=gA A1.length (by omega)
      rw [List.getElem?_append_right (l₁:=A1) (Nat.le_refl _),Nat.sub_self,hu,show a+A1.length=s by omega] at g2
      rw [fM g1 g2] at h5
      exact vg (zR (vj b1 hv y hy) h5) (tK a2 hu x hx)
    have w2:∀ x∈A1,∀ y∈B2,fN x y:=by
     intro x hx y hy
     have hAp:0 < A1.length:=List.length_pos_of_mem hx
     have hBp:0 < B2.length:=List.length_pos_of_mem hy
     rcases hs6 with h6|h6|h6
     ·omega
     ·omega
     ·obtain ⟨v,hv⟩:=get_some (V:=A1) (k:=A1.length - 1) (by omega)
      obtain ⟨u,hu⟩:=get_some (V:=B2) (k:=0) hBp
      have g1:=gB V.length (by omega)
      rw [List.getElem?_append_right (l₁:=V) (Nat.le_refl _),Nat.sub_self,hu,show m+V.length=mid+m - s by omega] at g1
      have g2:=gA (A1.length - 1) (by omega)
      rw [List.getElem?_append_left (l₁:=A1) (by omega),hv,show a+(A1.length - 1)=s - 1 by omega] at g2
      rw [fM g1 g2] at h6
      exact kE (vj a1 hv x hx) (kE (ry.1 h6) (tK b2 hu y hy))
    have hr:eS s m (mid+m - s) (P++(A1++U++(V++B2++R)))=P++(A1++(V++(U++(B2++R)))):=by
     unfold eS
     have e0:P++(A1++U++(V++B2++R))=P++A1++(U++(V++(B2++R))):=by simp
     split
     ·have:=sj (U.length+V.length) (P++A1) U V (B2++R) m (Nat.le_refl _) (by omega) (by omega) (by simp;omega)
      rw [show m - s=U.length by omega,show mid+m - s - m=V.length by omega,e0,this];simp
     ·rcases (by omega:U.length=0\/V.length=0) with hz|hz
      ·obtain rfl:=List.eq_nil_of_length_eq_zero hz;simp
      ·obtain rfl:=List.eq_nil_of_length_eq_zero hz;simp
    rw [hr]
    have hL:∃ C1,(if a < s/\s < mid then dy f a s mid (P++(A1++(V++(U++(B2++R))))) else P++(A1++(V++(U++(B2++R)))))=P++(C1++(U++(B2++R)))/\eU C1/\Same (A1++V) C1:=by
     split
     ·obtain ⟨C1,c1,c2,c3⟩:=qh f P A1 V (U++(B2++R)) (by omega) (by omega) (by omega) a1 b1
      rw [<-hea,show a+A1.length=s by omega,show s+V.length=mid by omega] at c1
      exact ⟨C1,c1,c2,c3⟩
     ·rcases (by omega:A1.length=0\/V.length=0) with hz|hz
      ·obtain rfl:=List.eq_nil_of_length_eq_zero hz;exact ⟨V,by simp,b1,Same.refl _⟩
      ·obtain rfl:=List.eq_nil_of_length_eq_zero hz;exact ⟨A1,by simp,a1,by rw [List.append_nil];exact Same.refl _⟩
    obtain ⟨C1,c1,c2,c3⟩:=hL
    rw [c1]
    have hc1:C1.length=A1.length+V.length:=by rw [<-c3.len,List.length_append]
    have hR:∃ C2,(if mid < mid+m - s/\mid+m - s < b then dy f mid (mid+m - s) b (P++(C1++(U++(B2++R)))) else P++(C1++(U++(B2++R))))=P++(C1++(C2++R))/\eU C2/\Same (U++B2) C2:=by
     split
     ·obtain ⟨C2,d1,d2,d3⟩:=qh f (P++C1) U B2 R (by omega) (by omega) (by omega) a2 b2
      rw [List.length_append,show P.length+C1.length=mid by omega,show mid+U.length=mid+m - s by omega,show mid+m - s+B2.length=b by omega] at d1
      exact ⟨C2,by simpa using d1,d2,d3⟩
     ·rcases (by omega:U.length=0\/B2.length=0) with hz|hz
      ·obtain rfl:=List.eq_nil_of_length_eq_zero hz;exact ⟨B2,by simp,b2,Same.refl _⟩
      ·obtain rfl:=List.eq_nil_of_length_eq_zero hz;exact ⟨U,by simp,a2,by rw [List.append_nil];exact Same.refl _⟩
    obtain ⟨C2,d1,d2,d3⟩:=hR
    refine ⟨C1++C2,by rw [d1];simp,gr.2 ⟨c2,d2,?_⟩,?_⟩
    ·intro x hx y hy
     rcases List.mem_append.1 (c3.mem.2 hx) with hx|hx
     ·rcases List.mem_append.1 (d3.mem.2 hy) with hy|hy
      ·exact a3 x hx y hy
      ·exact w2 x hx y hy
     ·rcases List.mem_append.1 (d3.mem.2 hy) with hy|hy
      ·exact kF (w1 y hy x hx)
      ·exact b3 x hx y hy
    ·have e1:Same (A1++U++(V++B2)) (A1++(V++(U++B2))):=by
      have:=(Same.refl A1).app ((Same.comm w1).app (Same.refl B2))
      simpa using this
     have e2:=c3.app d3
     rw [List.append_assoc] at e2
     exact e1.trans e2
theorem zl {f:Nat} {d:List aj} {a m b:Nat} (h1:a < m) (h2:m < b) (h3:b<=d.length) (hf:b - a<=f) (sA:eU ((d.drop a).take (m - a))) (sB:eU ((d.drop m).take (b - m))):Part d (dy f a m b d) a b:=by
 have e1:=parts (d:=d) (a:=a) (b:=b) (by omega) h3
 have e2:(d.drop a).take (b - a)=(d.drop a).take (m - a)++(d.drop m).take (b - m):=by
  rw [show b - a=(m - a)+(b - m) by omega,List.take_add,List.drop_drop,show a+(m - a)=m by omega]
 have l1:(d.take a).length=a:=by rw [List.length_take];omega
 have l2:((d.drop a).take (m - a)).length=m - a:=by rw [List.length_take,List.length_drop];omega
 have l3:((d.drop m).take (b - m)).length=b - m:=by rw [List.length_take,List.length_drop];omega
 obtain ⟨C,c1,c2,c3⟩:=qh f (d.take a) ((d.drop a).take (m - a)) ((d.drop m).take (b - m)) (d.drop b) (by omega) (by omega) (by omega) sA sB
 rw [l1,l2,l3,show a+(m - a)=m by omega,show m+(b - m)=b by omega] at c1
 rw [<-e2] at c3
 rw [e2] at e1
 have e3:d.take a++((d.drop a).take (m - a)++((d.drop m).take (b - m)++d.drop b))=d:=by rw [<-List.append_assoc,<-List.append_assoc,List.append_assoc (d.take a)];exact e1.symm
 rw [e3] at c1
 have:=Part.of (P:=d.take a) (X:=(d.drop a).take (b - a)) (C:=C) (R:=d.drop b) (a:=a) (b:=b) l1 (by rw [List.length_take,List.length_drop];omega) c2 c3
 rwa [e2,<-e1,List.append_assoc,<-c1] at this
theorem rQ {p:Nat->Bool} {i j h R:Nat} (hb:fE p i j=R) (hij:i < j) (hh:h=(i+j) / 2) (hp:p h=true):fE p (h+1) j=R:=by
 subst hh;rw [<-hb,Da hij hp]
theorem rR {p:Nat->Bool} {i j h R:Nat} (hb:fE p i j=R) (hij:i < j) (hh:h=(i+j) / 2) (hp:p h=false):fE p i h=R:=by
 subst hh;rw [<-hb,Db hij hp]
theorem dS {f a m b mid s e:Nat} {d d1 d2 d3:List aj} (h0:¬m - a=1) (h1:¬b - m=1) (hm:mid=(a+b) / 2) (hs:ef d a m b=s) (he:mid+m - s=e) (hd1:eS s m e d=d1)
  (hd2:(if a < s/\s < mid then dy f a s mid d1 else d1)=d2) (hd3:(if mid < e/\e < b then dy f mid e b d2 else d2)=d3):dy (f+1) a m b d=d3:=by
 subst hm he hd1 hd2 hd3 hs
 rw [dy.eq_2,if_neg h0,if_neg h1]
end Go.Proofs.Ytegepioggeggaaa.Dev
