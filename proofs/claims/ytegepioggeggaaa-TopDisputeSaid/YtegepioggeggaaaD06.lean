/- A part of the proof: PlBook, Com, Book5, Book6, Book7, Book9, PlSort, PlSort2. No condition. -/
import Derived.Test.YtegepioggeggaaaD05
set_option linter.unusedVariables false
set_option linter.unusedSimpArgs false
set_option maxHeartbeats 2000000
set_option maxRecDepth 100000
namespace Go.Proofs.Ytegepioggeggaaa.Dev
open Go.RowKit
def eV (x:Entry):Prop:=x.aQ < 0\/x.aQ > 57\/x.sum < -1000000000000\/x.sum > 1000000000000
instance (x:Entry):Decidable (eV x):=by unfold eV;infer_instance
def kO (l:List Entry) (q:Nat):Int:=
 match l[q]? with
 |some x=>if eV x then 3 else if (0 < q/\(l.getD (q - 1) ⟨0,0⟩).aQ>=x.aQ)\/x.sum=0 then 2 else 0
 |none=>0
def eo:List Entry->Int
 |[]=>0
 |x::l=>x.sum+eo l
def dh (l:List Entry):cP:=if (scan (kO l) 0 l.length).1≠0 then ⟨(scan (kO l) 0 l.length).1,(scan (kO l) 0 l.length).2⟩ else if eo l≠0 then ⟨8,0⟩ else ⟨0,0⟩
theorem zm (x:Entry) (l:List Entry):eo (x::l)=x.sum+eo l:=rfl
theorem mh (l r:List Entry):eo (l++r)=eo l+eo r:=by
 induction l with
 |nil=>simp [eo]
 |cons x l ih=>simp only [List.cons_append,eo,ih];omega
theorem sP {α:Type} {l:List α} {q:Nat} {x:α} (h:l[q]?=some x):l.take (q+1)=l.take q++[x]:=by
 obtain ⟨hlt,rfl⟩:=List.getElem?_eq_some_iff.1 h
 rw [List.take_add_one,List.getElem?_eq_getElem hlt];rfl
theorem jo {l:List Entry} {q:Nat} {x:Entry} (h:l[q]?=some x):eo (l.take (q+1))=eo (l.take q)+x.sum:=by
 rw [sP h,mh];simp [eo]
def iz (l:List Entry) (q:Nat):Int:=if q=0 then -1 else (l.getD (q - 1) ⟨0,0⟩).aQ
theorem jG {l:List Entry} {q:Nat} {x:Entry} (h:l[q]?=some x):iz l (q+1)=x.aQ:=by
 unfold iz
 rw [if_neg (by omega),List.getD_eq_getElem?_getD,Nat.add_sub_cancel,h];rfl
theorem kB {l:List Entry} {q:Nat} {x:Entry} (hq:0 < q) (h:l[q - 1]?=some x):iz l q=x.aQ:=by
 unfold iz
 rw [if_neg (by omega),List.getD_eq_getElem?_getD,h];rfl
theorem hJ {l:List Entry} {q:Nat} {x:Entry} (h:l[q]?=some x):kO l q=if eV x then 3 else if (0 < q/\iz l q>=x.aQ)\/x.sum=0 then 2 else 0:=by
 unfold kO
 rw [h]
 by_cases hq:q=0
 ·subst hq;simp
 ·unfold iz;rw [if_neg hq]
structure jj (l:List Entry):Prop where
 up:Up l
 ok:∀ x∈l,0<=x.aQ/\x.aQ<=57/\-1000000000000<=x.sum/\x.sum<=1000000000000/\x.sum≠0
theorem Fu {l:List Entry} (h:∀ q x y,l[q]?=some x->l[q+1]?=some y->x.aQ < y.aQ):Up l:=by
 unfold Up
 induction l with
 |nil=>exact List.Pairwise.nil
 |cons x l ih=>
  have h2:=ih fun q a b ha hb=>h (q+1) a b (by simpa using ha) (by simpa using hb)
  refine List.pairwise_cons.2 ⟨fun y hy=>?_,h2⟩
  cases l with
  |nil=>cases hy
  |cons z l=>
   have hz:=h 0 x z (by simp) (by simp)
   rcases List.mem_cons.1 hy with rfl|hy
   ·exact hz
   ·have:=(List.pairwise_cons.1 h2).1 y hy;omega
theorem ze {l:List Entry} (h:Up l) {i j:Nat} {x y:Entry} (hij:i < j) (hx:l[i]?=some x) (hy:l[j]?=some y):x.aQ < y.aQ:=by
 obtain ⟨hi,rfl⟩:=List.getElem?_eq_some_iff.1 hx
 obtain ⟨hj,rfl⟩:=List.getElem?_eq_some_iff.1 hy
 exact List.pairwise_iff_getElem.1 h i j hi hj hij
theorem zr {l:List Entry}:(scan (kO l) 0 l.length).1=0↔jj l:=by
 rw [nc]
 constructor
 ·intro h
  have at':∀ q x,l[q]?=some x->¬eV x/\¬((0 < q/\iz l q>=x.aQ)\/x.sum=0):=fun q x hx=>by
   have hq:=(List.getElem?_eq_some_iff.1 hx).1
   have h1:=h q (Nat.zero_le _) (by omega)
   rw [hJ hx] at h1
   split at h1
   ·cases h1
   ·split at h1
    ·cases h1
    ·exact ⟨by assumption,by assumption⟩
  refine ⟨Fu fun q x y hx hy=>?_,fun x hx=>?_⟩
  ·have h1:=(at' (q+1) y hy).2
   rw [jG hx] at h1
   omega
  ·obtain ⟨q,hq⟩:=List.getElem?_of_mem hx
   have h1:=at' q x hq
   unfold eV at h1
   omega
 ·intro h q _ hq
  obtain ⟨x,hx⟩:∃ x,l[q]?=some x:=⟨_,List.getElem?_eq_getElem (by omega)⟩
  have h1:=h.ok x (List.mem_of_getElem? hx)
  rw [hJ hx,if_neg (by unfold eV;omega),if_neg]
  rintro (⟨h2,h3⟩|h2)
  ·obtain ⟨y,hy⟩:∃ y,l[q - 1]?=some y:=⟨_,List.getElem?_eq_getElem (by omega)⟩
   rw [kB h2 hy] at h3
   have:=ze h.up (by omega:q - 1 < q) hy hx
   omega
  ·exact h1.2.2.2.2 h2
theorem kT {l:List Entry}:(dh l).err=0↔jj l/\eo l=0:=by
 unfold dh
 rw [<-zr]
 split
 ·rename_i h;constructor
  ·intro h1;exact absurd h1 h
  ·intro h1;exact absurd h1.1 h
 ·rename_i h
  split
  ·rename_i h2;constructor
   ·intro h1;cases h1
   ·intro h1;exact absurd h1.2 h2
  ·rename_i h2;constructor
   ·intro _;exact ⟨by omega,by omega⟩
   ·intro _;rfl
theorem sY {l:List Entry} (h:jj l):l.length<=58:=by
 have key:∀ (q:Nat) (x:Entry),l[q]?=some x->(q:Int)<=x.aQ:=by
  intro q
  induction q with
  |zero=>intro x hx;have:=h.ok x (List.mem_of_getElem? hx);omega
  |succ q ih=>
   intro x hx
   have hq:=(List.getElem?_eq_some_iff.1 hx).1
   obtain ⟨y,hy⟩:∃ y,l[q]?=some y:=⟨_,List.getElem?_eq_getElem (by omega)⟩
   have h1:=ih y hy
   have h2:=ze h.up (by omega:q < q+1) hy hx
   omega
 by_cases hl:l.length=0
 ·omega
 ·obtain ⟨x,hx⟩:∃ x,l[l.length - 1]?=some x:=⟨_,List.getElem?_eq_getElem (by omega)⟩
  have h1:=key _ x hx
  have h2:=h.ok x (List.mem_of_getElem? hx)
  omega
theorem lN {x:Entry} {l:List Entry} {a s:Int} (h:x.aQ < a):gK (x::l) a s=x::gK l a s:=by
 unfold gK
 rw [oF h,show ea (x::l) a=ea l a+1 by simp [ea,h]]
 cases fA l a<;>simp
theorem lM {x:Entry} {l:List Entry} {a s:Int} (h:x.aQ=a):gK (x::l) a s=(if s=0 then [] else [⟨a,s⟩])++l:=by
 unfold gK
 rw [lT (by omega),show ea (x::l) a=0 by simp [ea];omega]
 simp [h]
theorem mY {x:Entry} {l:List Entry} {a s:Int} (h:a < x.aQ):gK (x::l) a s=(if s=0 then [] else [⟨a,s⟩])++x::l:=by
 unfold gK
 rw [lT (by omega),show ea (x::l) a=0 by simp [ea];omega]
 have:¬x.aQ=a:=by omega
 simp [this]
theorem mX (a s:Int):gK [] a s=if s=0 then [] else [⟨a,s⟩]:=by simp [gK,ea,fA]
theorem qd {a s:Int}:∀ {l:List Entry} {x:Entry},x∈gK l a s->x∈l\/(x=⟨a,s⟩/\s≠0)
 |[],x,h=>by
  rw [mX] at h
  split at h
  ·cases h
  ·rename_i h0;exact .inr ⟨by simpa using h,h0⟩
 |y::l,x,h=>by
  have one:x∈(if s=0 then [] else [(⟨a,s⟩:Entry)])->x=⟨a,s⟩/\s≠0:=fun h=>by
   split at h
   ·cases h
   ·rename_i h0;exact ⟨by simpa using h,h0⟩
  rcases Int.lt_trichotomy y.aQ a with h1|h1|h1
  ·rw [lN h1] at h
   rcases List.mem_cons.1 h with rfl|h
   ·exact .inl List.mem_cons_self
   ·rcases qd h with h|h
    ·exact .inl (List.mem_cons_of_mem _ h)
    ·exact .inr h
  ·rw [lM h1] at h
   rcases List.mem_append.1 h with h|h
   ·exact .inr (one h)
   ·exact .inl (List.mem_cons_of_mem _ h)
  ·rw [mY h1] at h
   rcases List.mem_append.1 h with h|h
   ·exact .inr (one h)
   ·exact .inl h
theorem ld {x:Entry} {l:List Entry}:Up (x::l)↔(∀ y∈l,x.aQ < y.aQ)/\Up l:=List.pairwise_cons
theorem sa {a s:Int}:∀ {l:List Entry},Up l->Up (gK l a s)
 |[],_=>by rw [mX];split;exact List.Pairwise.nil;exact List.pairwise_singleton _ _
 |y::l,h=>by
  obtain ⟨h1,h2⟩:=ld.1 h
  rcases Int.lt_trichotomy y.aQ a with h3|h3|h3
  ·rw [lN h3]
   refine ld.2 ⟨fun z hz=>?_,sa h2⟩
   rcases qd hz with hz|⟨rfl,_⟩
   ·exact h1 z hz
   ·exact h3
  ·rw [lM h3]
   split
   ·exact h2
   ·exact ld.2 ⟨fun z hz=>by have:=h1 z hz;show a < z.aQ;omega,h2⟩
  ·rw [mY h3]
   split
   ·exact h
   ·exact ld.2 ⟨fun z hz=>by
     show a < z.aQ
     rcases List.mem_cons.1 hz with rfl|hz
     ·exact h3
     ·have:=h1 z hz;omega,h⟩
theorem qn (a s b:Int) (l:List Entry):cc ((if s=0 then [] else [⟨a,s⟩])++l) b=if s≠0/\a=b then s else cc l b:=by
 by_cases h:s=0
 ·simp [h]
 ·simp [h,cc]
theorem qm {a s b:Int}:∀ {l:List Entry},Up l->cc (gK l a s) b=if a=b then s else cc l b
 |[],_=>by
  have:=qn a s b []
  rw [List.append_nil] at this
  rw [mX,this]
  by_cases h:s=0
  ·subst h;simp [cc]
  ·simp [h]
 |y::l,h=>by
  obtain ⟨h1,h2⟩:=ld.1 h
  rcases Int.lt_trichotomy y.aQ a with h3|h3|h3
  ·rw [lN h3]
   unfold cc
   rw [qm h2]
   by_cases h4:y.aQ=b
   ·rw [if_pos h4,if_pos h4,if_neg (by omega)]
   ·rw [if_neg h4,if_neg h4]
  ·rw [lM h3,qn]
   by_cases h4:a=b
   ·subst h4
    by_cases h5:s=0
    ·subst h5;simp;exact jg fun z hz=>by have:=h1 z hz;omega
    ·simp [h5]
   ·rw [if_neg (fun h=>h4 h.2),if_neg h4]
    conv=>rhs;unfold cc
    rw [if_neg (by omega)]
  ·rw [mY h3,qn]
   by_cases h4:a=b
   ·subst h4
    by_cases h5:s=0
    ·subst h5;simp;exact jg fun z hz=>by
      rcases List.mem_cons.1 hz with rfl|hz
      ·exact h3
      ·have:=h1 z hz;omega
    ·simp [h5]
   ·rw [if_neg (fun h=>h4 h.2),if_neg h4]
theorem uD {a s:Int}:∀ {l:List Entry},Up l->eo (gK l a s)=eo l - cc l a+s
 |[],_=>by
  rw [mX]
  by_cases h:s=0
  ·subst h;simp [eo,cc]
  ·simp [h,eo,cc]
 |y::l,h=>by
  obtain ⟨h1,h2⟩:=ld.1 h
  have one:eo (if s=0 then [] else [(⟨a,s⟩:Entry)])=s:=by split<;>simp_all [eo]
  rcases Int.lt_trichotomy y.aQ a with h3|h3|h3
  ·rw [lN h3]
   unfold eo cc
   rw [uD h2,if_neg (by omega)];omega
  ·rw [lM h3,mh,one]
   conv=>rhs;unfold eo cc
   rw [if_pos h3];omega
  ·rw [mY h3,mh,one,jg fun z hz=>by
    rcases List.mem_cons.1 hz with rfl|hz
    ·exact h3
    ·have:=h1 z hz;omega]
   omega
theorem qT {l:List Entry} {a s:Int} (h:jj l) (ha:0<=a/\a<=57) (hs:-1000000000000<=s/\s<=1000000000000):jj (gK l a s):=
 ⟨sa h.up,fun x hx=>by
  rcases qd hx with hx|⟨rfl,h0⟩
  ·exact h.ok x hx
  ·exact ⟨ha.1,ha.2,hs.1,hs.2,h0⟩⟩
def fc:List Entry->List Entry->Option (List Entry)
 |l,[]=>some l
 |l,e::es=>if ic (cc l e.aQ+e.sum)=true then fc (gK l e.aQ (cc l e.aQ+e.sum)) es else none
def fZ (l es:List Entry):List Entry×Int:=
 if (dh l).err≠0 then ([],(dh l).err)
 else if es.length > 10 then ([],5)
 else if ∃ x∈es,eV x then ([],3)
 else if eo es≠0 then ([],8)
 else match fc l es with
  |some r=>(r,0)
  |none=>([],4)
theorem lU {s:Int}:ic s=true↔-1000000000000<=s/\s<=1000000000000:=by
 unfold ic;simp only [Bool.and_eq_true,decide_eq_true_eq,ge_iff_le]
theorem pF {l es:List Entry} {q:Nat} {e:Entry} (h:es[q]?=some e):fc l (es.drop q)=if ic (cc l e.aQ+e.sum)=true then fc (gK l e.aQ (cc l e.aQ+e.sum)) (es.drop (q+1)) else none:=by
 obtain ⟨hq,rfl⟩:=List.getElem?_eq_some_iff.1 h
 rw [List.drop_eq_getElem_cons hq];rfl
theorem ow:∀ {es l r:List Entry},jj l->(∀ x∈es,¬eV x)->fc l es=some r->jj r/\eo r=eo l+eo es
 |[],l,r,h,_,hp=>by
  have:l=r:=by simpa [fc] using hp
  subst this;exact ⟨h,by simp [eo]⟩
 |e::es,l,r,h,hb,hp=>by
  unfold fc at hp
  split at hp
  ·rename_i hg
   have hg:=lU.1 hg
   have h1:=hb e List.mem_cons_self
   unfold eV at h1
   obtain ⟨h2,h3⟩:=ow (qT h (by omega) hg) (fun x hx=>hb x (List.mem_cons_of_mem _ hx)) hp
   refine ⟨h2,?_⟩
   rw [h3,uD h.up,zm]
   omega
  ·cases hp
def lu (a:Int):List Entry->Int
 |[]=>0
 |e::es=>(if e.aQ=a then e.sum else 0)+lu a es
theorem wE (a:Int) (e:Entry) (es:List Entry):lu a (e::es)=(if e.aQ=a then e.sum else 0)+lu a es:=rfl
theorem re {a:Int}:∀ {es l r:List Entry},Up l->fc l es=some r->cc r a=cc l a+lu a es
 |[],l,r,h,hp=>by
  have:l=r:=by simpa [fc] using hp
  subst this;simp [lu]
 |e::es,l,r,h,hp=>by
  unfold fc at hp
  split at hp
  ·rw [re (sa h) hp,qm h,wE]
   by_cases hc:e.aQ=a
   ·subst hc;simp;omega
   ·simp [hc]
  ·cases hp


theorem pP (l:List Int) (hl:l.length * 8<=140737488355328):Fn Try.prog 95 [(.c (fC l))] (aC (.s 0 0 1 l.length)) [(0,.arr 3 1 (l.map rI))]:=by
 refine Fn.mk' 8 [(0,(aC (fC l)))] Try.func95 rfl rfl rfl rfl ?_
 intro W0 T0
 refine dG 0 rfl (fun hlen0=>?_)
 refine ad aa 1 rfl ?_
 refine af ?_
 refine az aa 1 rfl ?_
 refine ie (ak.plain rfl) rfl rfl Try.underlying30 rfl rfl (fun bn1 hbn1=>?_)
 refine ae ?_
 refine ag rfl (fun hc2=>?_) (fun hc2=>?_)
 ·
  have hc2':=hc2;try simp only [bm,bM] at hc2'
  refine ad aa 1 rfl ?_
  refine ar ?_
  refine ao ?_
  refine cV (aD.nil 2 3 1 (by decide) rfl) ?_
  refine ah aa [0] 1 rfl rfl rfl rfl rfl rfl ?_ ?_
  ·(have h0:=hbn1 (by assumption);have h1:l=[]:=by (cases l with|nil=>rfl|cons=>simp at h0));subst h1;rfl
  ·(have h0:=hbn1 (by assumption);have h1:l=[]:=by (cases l with|nil=>rfl|cons=>simp at h0));subst h1;rfl
 have hc2':=hc2;try simp only [bm,bM] at hc2'
 refine aP ?_
 refine eE ?_
 refine aL 1 [0] (dz (ys:=[]) (rows:=(([]:List Int)).map rI) 0 ml rfl (by decide) trivial rfl rfl rfl rfl) rfl ?_
 refine ab aa 1 rfl ?_
 refine aL 2 [1] (da (m:=l.length) (N:=l.length) (k2:=1) (ys:=(l).map rI) ml rfl rfl rfl rfl rfl rfl (by first|omega|(simp;omega)|(simp;done)) rfl (.d _ _) (by first|omega|(simp;omega)|(simp;done)) (by first|omega|(simp;omega)|(simp;done)) rfl (by decide) (by first|omega|(simp;omega)|(simp;done)) (by first|omega|(simp;omega)|(simp;done))) rfl ?_
 refine ab aa 1 rfl ?_
 refine ae ?_
 refine ar ?_
 refine ah aa [1] 1 rfl rfl rfl rfl rfl rfl ?_ ?_
 ·first|rfl|simp [fL,aC]
 ·first|rfl|simp
theorem mN (l:List ca) (hl:l.length * 32<=140737488355328):Fn Try.prog 99 [(.c (gz l))] (aC (.s 0 0 4 l.length)) [(0,.arr 107 4 (l.map iq))]:=by
 refine Fn.mk' 8 [(0,(aC (gz l)))] Try.func99 rfl rfl rfl rfl ?_
 intro W0 T0
 refine dG 0 rfl (fun hlen0=>?_)
 refine ad aa 1 rfl ?_
 refine af ?_
 refine az aa 1 rfl ?_
 refine ie (ak.plain rfl) rfl rfl Try.underlying39 rfl rfl (fun bn1 hbn1=>?_)
 refine ae ?_
 refine ag rfl (fun hc2=>?_) (fun hc2=>?_)
 ·
  have hc2':=hc2;try simp only [bm,bM] at hc2'
  refine ad aa 1 rfl ?_
  refine ar ?_
  refine ao ?_
  refine cV (aD.nil 2 107 4 (by decide) rfl) ?_
  refine ah aa [0] 1 rfl rfl rfl rfl rfl rfl ?_ ?_
  ·(have h0:=hbn1 (by assumption);have h1:l=[]:=by (cases l with|nil=>rfl|cons=>simp at h0));subst h1;rfl
  ·(have h0:=hbn1 (by assumption);have h1:l=[]:=by (cases l with|nil=>rfl|cons=>simp at h0));subst h1;rfl
 have hc2':=hc2;try simp only [bm,bM] at hc2'
 refine aP ?_
 refine eE ?_
 refine aL 1 [0] (dz (ys:=[]) (rows:=(([]:List ca)).map iq) 0 xZ rfl (by decide) trivial rfl rfl rfl rfl) rfl ?_
 refine ab aa 1 rfl ?_
 refine aL 2 [1] (da (m:=l.length) (N:=l.length) (k2:=1) (ys:=(l).map iq) xZ rfl rfl rfl rfl rfl rfl (by first|omega|(simp;omega)|(simp;done)) rfl (.d _ _) (by first|omega|(simp;omega)|(simp;done)) (by first|omega|(simp;omega)|(simp;done)) rfl (by decide) (by first|omega|(simp;omega)|(simp;done)) (by first|omega|(simp;omega)|(simp;done))) rfl ?_
 refine ab aa 1 rfl ?_
 refine ae ?_
 refine ar ?_
 refine ah aa [1] 1 rfl rfl rfl rfl rfl rfl ?_ ?_
 ·first|rfl|simp [fL,aC]
 ·first|rfl|simp
theorem pQ (l:List cX) (hl:l.length * 16<=140737488355328):Fn Try.prog 114 [(.c (fq l))] (aC (.s 0 0 2 l.length)) [(0,.arr 125 2 (l.map gU))]:=by
 refine Fn.mk' 8 [(0,(aC (fq l)))] Try.func114 rfl rfl rfl rfl ?_
 intro W0 T0
 refine dG 0 rfl (fun hlen0=>?_)
 refine ad aa 1 rfl ?_
 refine af ?_
 refine az aa 1 rfl ?_
 refine ie (ak.plain rfl) rfl rfl Try.underlying59 rfl rfl (fun bn1 hbn1=>?_)
 refine ae ?_
 refine ag rfl (fun hc2=>?_) (fun hc2=>?_)
 ·
  have hc2':=hc2;try simp only [bm,bM] at hc2'
  refine ad aa 1 rfl ?_
  refine ar ?_
  refine ao ?_
  refine cV (aD.nil 2 125 2 (by decide) rfl) ?_
  refine ah aa [0] 1 rfl rfl rfl rfl rfl rfl ?_ ?_
  ·(have h0:=hbn1 (by assumption);have h1:l=[]:=by (cases l with|nil=>rfl|cons=>simp at h0));subst h1;rfl
  ·(have h0:=hbn1 (by assumption);have h1:l=[]:=by (cases l with|nil=>rfl|cons=>simp at h0));subst h1;rfl
 have hc2':=hc2;try simp only [bm,bM] at hc2'
 refine aP ?_
 refine eE ?_
 refine aL 1 [0] (dz (ys:=[]) (rows:=(([]:List cX)).map gU) 0 od rfl (by decide) trivial rfl rfl rfl rfl) rfl ?_
 refine ab aa 1 rfl ?_
 refine aL 2 [1] (da (m:=l.length) (N:=l.length) (k2:=1) (ys:=(l).map gU) od rfl rfl rfl rfl rfl rfl (by first|omega|(simp;omega)|(simp;done)) rfl (.d _ _) (by first|omega|(simp;omega)|(simp;done)) (by first|omega|(simp;omega)|(simp;done)) rfl (by decide) (by first|omega|(simp;omega)|(simp;done)) (by first|omega|(simp;omega)|(simp;done))) rfl ?_
 refine ab aa 1 rfl ?_
 refine ae ?_
 refine ar ?_
 refine ah aa [1] 1 rfl rfl rfl rfl rfl rfl ?_ ?_
 ·first|rfl|simp [fL,aC]
 ·first|rfl|simp
theorem lB (l:List aW) (hl:l.length * 32<=140737488355328):Fn Try.prog 106 [(.c (dc l))] (aC (.s 0 0 4 l.length)) [(0,.arr 80 4 (l.map fx))]:=by
 refine Fn.mk' 8 [(0,(aC (dc l)))] Try.func106 rfl rfl rfl rfl ?_
 intro W0 T0
 refine dG 0 rfl (fun hlen0=>?_)
 refine ad aa 1 rfl ?_
 refine af ?_
 refine az aa 1 rfl ?_
 refine ie (ak.plain rfl) rfl rfl Try.underlying32 rfl rfl (fun bn1 hbn1=>?_)
 refine ae ?_
 refine ag rfl (fun hc2=>?_) (fun hc2=>?_)
 ·
  have hc2':=hc2;try simp only [bm,bM] at hc2'
  refine ad aa 1 rfl ?_
  refine ar ?_
  refine ao ?_
  refine cV (aD.nil 2 80 4 (by decide) rfl) ?_
  refine ah aa [0] 1 rfl rfl rfl rfl rfl rfl ?_ ?_
  ·(have h0:=hbn1 (by assumption);have h1:l=[]:=by (cases l with|nil=>rfl|cons=>simp at h0));subst h1;rfl
  ·(have h0:=hbn1 (by assumption);have h1:l=[]:=by (cases l with|nil=>rfl|cons=>simp at h0));subst h1;rfl
 have hc2':=hc2;try simp only [bm,bM] at hc2'
 refine aP ?_
 refine eE ?_
 refine aL 1 [0] (dz (ys:=[]) (rows:=(([]:List aW)).map fx) 0 uI rfl (by decide) trivial rfl rfl rfl rfl) rfl ?_
 refine ab aa 1 rfl ?_
 refine aL 2 [1] (da (m:=l.length) (N:=l.length) (k2:=1) (ys:=(l).map fx) uI rfl rfl rfl rfl rfl rfl (by first|omega|(simp;omega)|(simp;done)) rfl (.d _ _) (by first|omega|(simp;omega)|(simp;done)) (by first|omega|(simp;omega)|(simp;done)) rfl (by decide) (by first|omega|(simp;omega)|(simp;done)) (by first|omega|(simp;omega)|(simp;done))) rfl ?_
 refine ab aa 1 rfl ?_
 refine ae ?_
 refine ar ?_
 refine ah aa [1] 1 rfl rfl rfl rfl rfl rfl ?_ ?_
 ·first|rfl|simp [fL,aC]
 ·first|rfl|simp
theorem uf (l:List Entry) (hl:l.length * 16<=140737488355328):Fn Try.prog 115 [(.c (dM l))] (aC (.s 0 0 2 l.length)) [(0,.arr 115 2 (l.map eC))]:=by
 refine Fn.mk' 8 [(0,(aC (dM l)))] Try.func115 rfl rfl rfl rfl ?_
 intro W0 T0
 refine dG 0 rfl (fun hlen0=>?_)
 refine ad aa 1 rfl ?_
 refine af ?_
 refine az aa 1 rfl ?_
 refine ie (ak.plain rfl) rfl rfl Try.underlying44 rfl rfl (fun bn1 hbn1=>?_)
 refine ae ?_
 refine ag rfl (fun hc2=>?_) (fun hc2=>?_)
 ·
  have hc2':=hc2;try simp only [bm,bM] at hc2'
  refine ad aa 1 rfl ?_
  refine ar ?_
  refine ao ?_
  refine cV (aD.nil 2 115 2 (by decide) rfl) ?_
  refine ah aa [0] 1 rfl rfl rfl rfl rfl rfl ?_ ?_
  ·(have h0:=hbn1 (by assumption);have h1:l=[]:=by (cases l with|nil=>rfl|cons=>simp at h0));subst h1;rfl
  ·(have h0:=hbn1 (by assumption);have h1:l=[]:=by (cases l with|nil=>rfl|cons=>simp at h0));subst h1;rfl
 have hc2':=hc2;try simp only [bm,bM] at hc2'
 refine aP ?_
 refine eE ?_
 refine aL 1 [0] (dz (ys:=[]) (rows:=(([]:List Entry)).map eC) 0 jP rfl (by decide) trivial rfl rfl rfl rfl) rfl ?_
 refine ab aa 1 rfl ?_
 refine aL 2 [1] (da (m:=l.length) (N:=l.length) (k2:=1) (ys:=(l).map eC) jP rfl rfl rfl rfl rfl rfl (by first|omega|(simp;omega)|(simp;done)) rfl (.d _ _) (by first|omega|(simp;omega)|(simp;done)) (by first|omega|(simp;omega)|(simp;done)) rfl (by decide) (by first|omega|(simp;omega)|(simp;done)) (by first|omega|(simp;omega)|(simp;done))) rfl ?_
 refine ab aa 1 rfl ?_
 refine ae ?_
 refine ar ?_
 refine ah aa [1] 1 rfl rfl rfl rfl rfl rfl ?_ ?_
 ·first|rfl|simp [fL,aC]
 ·first|rfl|simp
theorem mL (l:List an) (hl:l.length * 32<=140737488355328):Fn Try.prog 54 [(.c (iB l))] (aC (.s 0 0 4 l.length)) [(0,.arr 83 4 (l.map gV))]:=by
 refine Fn.mk' 8 [(0,(aC (iB l)))] Try.func54 rfl rfl rfl rfl ?_
 intro W0 T0
 refine dG 0 rfl (fun hlen0=>?_)
 refine ad aa 1 rfl ?_
 refine af ?_
 refine az aa 1 rfl ?_
 refine ie (ak.plain rfl) rfl rfl Try.underlying42 rfl rfl (fun bn1 hbn1=>?_)
 refine ae ?_
 refine ag rfl (fun hc2=>?_) (fun hc2=>?_)
 ·
  have hc2':=hc2;try simp only [bm,bM] at hc2'
  refine ad aa 1 rfl ?_
  refine ar ?_
  refine ao ?_
  refine cV (aD.nil 2 83 4 (by decide) rfl) ?_
  refine ah aa [0] 1 rfl rfl rfl rfl rfl rfl ?_ ?_
  ·(have h0:=hbn1 (by assumption);have h1:l=[]:=by (cases l with|nil=>rfl|cons=>simp at h0));subst h1;rfl
  ·(have h0:=hbn1 (by assumption);have h1:l=[]:=by (cases l with|nil=>rfl|cons=>simp at h0));subst h1;rfl
 have hc2':=hc2;try simp only [bm,bM] at hc2'
 refine aP ?_
 refine eE ?_
 refine aL 1 [0] (dz (ys:=[]) (rows:=(([]:List an)).map gV) 0 xY rfl (by decide) trivial rfl rfl rfl rfl) rfl ?_
 refine ab aa 1 rfl ?_
 refine aL 2 [1] (da (m:=l.length) (N:=l.length) (k2:=1) (ys:=(l).map gV) xY rfl rfl rfl rfl rfl rfl (by first|omega|(simp;omega)|(simp;done)) rfl (.d _ _) (by first|omega|(simp;omega)|(simp;done)) (by first|omega|(simp;omega)|(simp;done)) rfl (by decide) (by first|omega|(simp;omega)|(simp;done)) (by first|omega|(simp;omega)|(simp;done))) rfl ?_
 refine ab aa 1 rfl ?_
 refine ae ?_
 refine ar ?_
 refine ah aa [1] 1 rfl rfl rfl rfl rfl rfl ?_ ?_
 ·first|rfl|simp [fL,aC]
 ·first|rfl|simp


theorem vS (l:List Entry) (f:cP) (hr:dh l=f):Fn Try.prog 33 [(.c (dM l))] (.v (.g [(cI f.err),(cI f.at_)])) []:=by
 refine Fn.mk' 64 [(0,(aC (dM l)))] Try.func33 rfl rfl rfl rfl ?_
 intro W0 T0
 refine dG 0 rfl (fun hlen0=>?_)
 refine ad aa 1 rfl ?_
 refine ad aa 1 rfl ?_
 refine af ?_
 refine az aa 1 rfl ?_
 refine ay (cT rfl rfl rfl rfl rfl Try.underlying44) rfl ?_
 refine ab aa 1 rfl ?_
 refine ae ?_
 refine aV ?_
 refine cx (β:=Nat) (fun (q:Nat)=>⟨[(0,(aC (dM l))),(2,(aC (.p 0 0 0 0))),(3,(aI (eo (l.take q)))),(6,(aC (dM l))),(7,(aI (↑l.length:Int))),(8,(aI (↑q:Int)))],[(0,(.box 50 [(cI 0),(cI 0)]))],1⟩) (fun (q:Nat)=>q<=l.length/\scan (kO l) 0 l.length=scan (kO l) q (l.length - q)/\(q:Int) - 1<=iz l q/\iz l q<=57/\-1000000000000 * (q:Int)<=eo (l.take q)/\eo (l.take q)<=1000000000000 * (q:Int)) (fun (q:Nat)=>l.length - q) 0 ?_ ?_ ?_
 ·(have h1:iz l 0=-1:=rfl);(have h2:eo (l.take 0)=0:=rfl);exact ⟨by omega,rfl,by omega,by omega⟩
 ·exact aD.bY id (by refine ⟨?_,?_,?_,?_,?_,?_,trivial⟩<;>first|rfl|(simp only [bn];done)|(congr 3;omega)|(congr 4;omega)|(simp only [bo];rfl)) (⟨by first|rfl|(simp only [bn];done)|(congr 3;omega)|(congr 4;omega)|(simp only [bo];rfl),trivial⟩) rfl
 rintro q ⟨hi0_0,hi0_1,hi0_2,hi0_3⟩
 refine ad aa 1 rfl ?_
 refine af ?_
 refine ag rfl (fun hc1=>?_) (fun hc1=>?_)
 ·
  have hc1':=of_decide_eq_true hc1
  refine aP ?_
  refine af ?_
  refine aV ?_
  refine az aa 1 rfl ?_
  obtain ⟨x1,hx1⟩:=ch (xs:=l) (i:=q) (by first|omega|(simp;done)|(simp;omega))
  refine ay (cQ (i:=q) rfl rfl rfl Try.underlying44 eb (by first|omega|(simp;done)|(simp;omega)) (bw hx1)) rfl ?_
  refine ab aa 4 rfl ?_
  refine ae ?_
  refine af ?_
  refine aV ?_
  refine cq 13 ((((decide (x1.aQ < 0))||(decide (x1.aQ>=58)))||(decide (x1.sum < (-1000000000000))))||(decide (x1.sum > 1000000000000))) ?_ ?_
  ·
   refine aw ?_
   refine ab aa 4 rfl ?_
   refine bA (t:=17) rfl (fun hb2=>?_) (fun hb2=>?_)
   ·
    have hb2':=of_decide_eq_true hb2
    refine ab aa 15 rfl ?_
    refine ae ?_
    exact aD.bG 20 rfl rfl (by first|(simp [hb2];done)|(simp_all;done)|(exfalso;simp_all;done)|(simp_all;omega)) rfl
   have hb2':=of_decide_eq_false hb2
   refine ab aa 5 rfl ?_
   refine bA (t:=22) rfl (fun hb3=>?_) (fun hb3=>?_)
   ·
    have hb3':=of_decide_eq_true hb3
    refine ab aa 10 rfl ?_
    refine ae ?_
    exact aD.bG 21 rfl rfl (by first|(simp [hb2,hb3];done)|(simp_all;done)|(exfalso;simp_all;done)|(simp_all;omega)) rfl
   have hb3':=of_decide_eq_false hb3
   refine ab aa 5 rfl ?_
   refine bA (t:=27) rfl (fun hb4=>?_) (fun hb4=>?_)
   ·
    have hb4':=of_decide_eq_true hb4
    refine ab aa 5 rfl ?_
    refine ae ?_
    exact aD.bG 22 rfl rfl (by first|(simp [hb2,hb3,hb4];done)|(simp_all;done)|(exfalso;simp_all;done)|(simp_all;omega)) rfl
   have hb4':=of_decide_eq_false hb4
   refine ab aa 5 rfl ?_
   refine ae ?_
   exact aD.bG 22 rfl rfl (by first|(simp [hb2,hb3,hb4];done)|(simp_all;done)|(exfalso;simp_all;done)|(simp_all;omega)) rfl
  refine ag rfl (fun hc5=>?_) (fun hc5=>?_)
  ·
   have hc5':=hc5;try simp only [bm,bM] at hc5'
   refine ad aa 3 rfl ?_
   refine ar ?_
   refine bg ?_
   refine ao ?_
   refine bg ?_
   refine ao ?_
   refine ao ?_
   refine bg ?_
   refine ao ?_
   have hX:dh l=(⟨3,(↑q:Int)⟩:cP):=by
     (have hb:eV x1:=by unfold eV;omega);(have h0:=ia (e:=kO l) (q:=q) (n:=l.length) (by omega) (by rw [hJ hx1,if_pos hb]) (by decide:(3:Int)≠0));(unfold dh;rw [hi0_1,h0];rfl)
   rw [hX] at hr;clear hX
   subst hr
   refine ah aa [0] 0 rfl rfl rfl rfl rfl rfl ?_ ?_
   all_goals first|rfl|(simp [au];done)|(simp [au];omega)
  have hc5':=hc5;try simp only [bm,bM] at hc5'
  refine af ?_
  rcases Bool.eq_false_or_eq_true (decide ((↑q:Int) > 0)) with hb6|hb6
  ·
   have hb6':=of_decide_eq_true hb6
   obtain ⟨x2,hx2⟩:=ch (xs:=l) (i:=(q) - 1) (by first|omega|(simp;done)|(simp;omega))
   rcases Bool.eq_false_or_eq_true (decide (x2.aQ>=x1.aQ)) with hb7|hb7
   ·
    have hb7':=of_decide_eq_true hb7
    refine bb [0,2,3,6,7,8,5,4] [1,0] mixed rfl rfl ?_
    refine aA (kn:=[(36,true)]) aa 5 rfl ⟨hb6,trivial⟩ ?_
    refine aT (n':=2) [39,37] [] rfl rfl (.inl ⟨(ak.yes rfl rfl rfl),aK.cast (aM rfl rfl rfl (aH (by first|omega|(simp;done)|(simp;omega)))) rfl⟩) rfl ?_
    refine aT (n':=2) [38,40,37] [] rfl rfl (.inl ⟨(ak.yes rfl rfl rfl),aK.cast (cQ (i:=(q) - 1) rfl rfl rfl Try.underlying44 eb (by first|omega|(simp;done)|(simp;omega)) (bw hx2)) rfl⟩) rfl ?_
    refine aA (kn:=[(46,true)]) aa 12 rfl ⟨hb7,trivial⟩ ?_
    refine bB [1,0] rfl rfl rfl rfl (by kernel_rfl) ?_
    refine ae ?_
    refine ag rfl (fun _=>?_) (fun hno=>by cases hno)
    refine ad aa 3 rfl ?_
    refine ar ?_
    refine bg ?_
    refine ao ?_
    refine bg ?_
    refine ao ?_
    refine ao ?_
    refine bg ?_
    refine ao ?_
    have hX:dh l=(⟨2,(↑q:Int)⟩:cP):=by
      (have hb:¬eV x1:=by unfold eV;omega);(have hla:=kB (by omega) hx2);(have h0:=ia (e:=kO l) (q:=q) (n:=l.length) (by omega) (by rw [hJ hx1,if_neg hb,if_pos (by omega)]) (by decide:(2:Int)≠0));(unfold dh;rw [hi0_1,h0];rfl)
    rw [hX] at hr;clear hX
    subst hr
    refine ah aa [0] 0 rfl rfl rfl rfl rfl rfl ?_ ?_
    all_goals first|rfl|(simp [au];done)|(simp [au];omega)
   have hb7':=of_decide_eq_false hb7
   refine bb [0,2,3,6,7,8,5,4] [1,0] mixed rfl rfl ?_
   refine aA (kn:=[(36,true)]) aa 5 rfl ⟨hb6,trivial⟩ ?_
   refine aT (n':=2) [39,37] [] rfl rfl (.inl ⟨(ak.yes rfl rfl rfl),aK.cast (aM rfl rfl rfl (aH (by first|omega|(simp;done)|(simp;omega)))) rfl⟩) rfl ?_
   refine aT (n':=2) [38,40,37] [] rfl rfl (.inl ⟨(ak.yes rfl rfl rfl),aK.cast (cQ (i:=(q) - 1) rfl rfl rfl Try.underlying44 eb (by first|omega|(simp;done)|(simp;omega)) (bw hx2)) rfl⟩) rfl ?_
   refine aA (kn:=[(46,false)]) aa 12 rfl ⟨hb7,trivial⟩ ?_
   refine bB [1,0] rfl rfl rfl rfl (by kernel_rfl) ?_
   refine ae ?_
   refine ag rfl (fun hc9=>?_) (fun hc9=>?_)
   ·
    have hc9':=of_decide_eq_true hc9
    refine ad aa 3 rfl ?_
    refine ar ?_
    refine bg ?_
    refine ao ?_
    refine bg ?_
    refine ao ?_
    refine ao ?_
    refine bg ?_
    refine ao ?_
    have hX:dh l=(⟨2,(↑q:Int)⟩:cP):=by
      (have hb:¬eV x1:=by unfold eV;omega);(have hla:=kB (by omega) hx2);(have h0:=ia (e:=kO l) (q:=q) (n:=l.length) (by omega) (by rw [hJ hx1,if_neg hb,if_pos (by omega)]) (by decide:(2:Int)≠0));(unfold dh;rw [hi0_1,h0];rfl)
    rw [hX] at hr;clear hX
    subst hr
    refine ah aa [0] 0 rfl rfl rfl rfl rfl rfl ?_ ?_
    all_goals first|rfl|(simp [au];done)|(simp [au];omega)
   have hc9':=of_decide_eq_false hc9
   refine cU ?_
   refine bp ?_
   refine then_ok ?_
   refine aw ?_
   refine ab aa 3 rfl ?_
   refine ay (aM rfl rfl rfl (aH (by first|omega|(simp;done)|(simp;omega)))) rfl ?_
   refine ab aa 1 rfl ?_
   refine bZ ?_
   refine bp ?_
   refine then_ok ?_
   refine aw ?_
   refine ay (aM rfl rfl rfl (aH (by first|omega|(simp;done)|(simp;omega)))) rfl ?_
   refine ab aa 1 rfl ?_
   refine ae ?_
   refine ⟨q+1,⟨by omega,by rw [hi0_1];exact mB (by omega) (by have hla:=kB (by omega) hx2;rw [hJ hx1,if_neg (by unfold eV;omega),if_neg (by omega)]),by rw [jG hx1];have hla:=kB (by omega) hx2;omega,by rw [jG hx1,jo hx1];omega⟩,by first|omega|(simp;done)|(simp;omega),aD.bY id (by refine ⟨?_,?_,?_,?_,?_,?_,trivial⟩<;>first|rfl|(simp only [bn];done)|(congr 3;omega)|(congr 4;omega)|(simp only [bo];rfl)|(rw [jo hx1];rfl)) (⟨by first|rfl|(simp only [bn];done)|(congr 3;omega)|(congr 4;omega)|(simp only [bo];rfl),trivial⟩) rfl⟩
  have hb6':=of_decide_eq_false hb6
  refine bb [0,2,3,6,7,8,5,4] [1,0] mixed rfl rfl ?_
  refine aA (kn:=[(36,false)]) aa 19 rfl ⟨hb6,trivial⟩ ?_
  refine bB [1,0] rfl rfl rfl rfl (by kernel_rfl) ?_
  refine ae ?_
  refine ag rfl (fun hc10=>?_) (fun hc10=>?_)
  ·
   have hc10':=of_decide_eq_true hc10
   refine ad aa 3 rfl ?_
   refine ar ?_
   refine bg ?_
   refine ao ?_
   refine bg ?_
   refine ao ?_
   refine ao ?_
   refine bg ?_
   refine ao ?_
   have hX:dh l=(⟨2,(↑q:Int)⟩:cP):=by
     (have hb:¬eV x1:=by unfold eV;omega);(have h0:=ia (e:=kO l) (q:=q) (n:=l.length) (by omega) (by rw [hJ hx1,if_neg hb,if_pos (by omega)]) (by decide:(2:Int)≠0));(unfold dh;rw [hi0_1,h0];rfl)
   rw [hX] at hr;clear hX
   subst hr
   refine ah aa [0] 0 rfl rfl rfl rfl rfl rfl ?_ ?_
   all_goals first|rfl|(simp [au];done)|(simp [au];omega)
  have hc10':=of_decide_eq_false hc10
  refine cU ?_
  refine bp ?_
  refine then_ok ?_
  refine aw ?_
  refine ab aa 3 rfl ?_
  refine ay (aM rfl rfl rfl (aH (by first|omega|(simp;done)|(simp;omega)))) rfl ?_
  refine ab aa 1 rfl ?_
  refine bZ ?_
  refine bp ?_
  refine then_ok ?_
  refine aw ?_
  refine ay (aM rfl rfl rfl (aH (by first|omega|(simp;done)|(simp;omega)))) rfl ?_
  refine ab aa 1 rfl ?_
  refine ae ?_
  refine ⟨q+1,⟨by omega,by rw [hi0_1];exact mB (by omega) (by have hla:iz l q=-1:=(by unfold iz;rw [if_pos (by omega)]);rw [hJ hx1,if_neg (by unfold eV;omega),if_neg (by omega)]),by rw [jG hx1];have hla:iz l q=-1:=(by unfold iz;rw [if_pos (by omega)]);omega,by rw [jG hx1,jo hx1];omega⟩,by first|omega|(simp;done)|(simp;omega),aD.bY id (by refine ⟨?_,?_,?_,?_,?_,?_,trivial⟩<;>first|rfl|(simp only [bn];done)|(congr 3;omega)|(congr 4;omega)|(simp only [bo];rfl)|(rw [jo hx1];rfl)) (⟨by first|rfl|(simp only [bn];done)|(congr 3;omega)|(congr 4;omega)|(simp only [bo];rfl),trivial⟩) rfl⟩
 have hc1':=of_decide_eq_false hc1
 refine cp ?_
 refine aR ?_
 refine aR ?_
 refine bQ ?_
 refine then_ok ?_
 refine af ?_
 refine ad aa 2 rfl ?_
 refine ag rfl (fun hc11=>?_) (fun hc11=>?_)
 ·
  have hc11':=of_decide_eq_true hc11
  refine ad aa 2 rfl ?_
  refine ar ?_
  refine ao ?_
  have hX:dh l=(⟨8,0⟩:cP):=by
    (obtain rfl:q=l.length:=by omega);rw [List.take_length] at *;(unfold dh;rw [hi0_1,na (by omega)];rw [if_neg (by decide),if_pos (by omega)])
  rw [hX] at hr;clear hX
  subst hr
  refine ah aa [0] 0 rfl rfl rfl rfl rfl rfl ?_ ?_
  all_goals first|rfl|(simp [au];done)|(simp [au];omega)
 have hc11':=of_decide_eq_false hc11
 refine aP ?_
 refine ad aa 2 rfl ?_
 refine ar ?_
 have hX:dh l=(⟨0,0⟩:cP):=by
   (obtain rfl:q=l.length:=by omega);rw [List.take_length] at *;(unfold dh;rw [hi0_1,na (by omega)];rw [if_neg (by decide),if_neg (by omega)])
 rw [hX] at hr;clear hX
 subst hr
 refine ah aa [0] 0 rfl rfl rfl rfl rfl rfl ?_ ?_
 all_goals first|rfl|(simp [au];done)|(simp [au];omega)


theorem tE {l:List Entry} {q:Nat} {x:Entry} {a:Int} (h:l[q]?=some x):cc (l.drop q) a=if x.aQ=a then x.sum else cc (l.drop (q+1)) a:=by
  obtain ⟨hq,rfl⟩:=List.getElem?_eq_some_iff.1 h
  rw [List.drop_eq_getElem_cons hq];rfl
theorem Ad {l:List Entry} {q:Nat} {a:Int} (h:l.length<=q):cc (l.drop q) a=0:=by
  rw [List.drop_of_length_le h];rfl

theorem nE (l:List Entry) (a:Int) (n:Int) (hr:cc l a=n):Fn Try.prog 34 [(.c (dM l)),(.c (cI a))] (.v (.c (cI n))) []:=by
 refine Fn.mk' 20 [(0,(aC (dM l))),(1,(aI a))] Try.func34 rfl rfl rfl rfl ?_
 intro W0 T0
 refine dG 0 rfl (fun hlen0=>?_)
 refine ad aa 1 rfl ?_
 refine af ?_
 refine az aa 1 rfl ?_
 refine ay (cT rfl rfl rfl rfl rfl Try.underlying44) rfl ?_
 refine ab aa 1 rfl ?_
 refine ae ?_
 refine aV ?_
 refine cx (β:=Nat) (fun (q:Nat)=>⟨[(1,(aI a)),(7,(aC (dM l))),(8,(aI (↑l.length:Int))),(9,(aI (↑q:Int)))],[],0⟩) (fun (q:Nat)=>q<=l.length/\cc l a=cc (l.drop q) a) (fun (q:Nat)=>l.length - q) 0 ?_ ?_ ?_
 ·exact ⟨by omega,rfl⟩
 ·exact aD.bY id (by refine ⟨?_,?_,?_,?_,trivial⟩<;>first|rfl|(simp only [bn];done)|(congr 3;omega)|(congr 4;omega)|(simp only [bo];rfl)) (trivial) rfl
 rintro q ⟨hi0_0,hi0_1⟩
 refine ad aa 1 rfl ?_
 refine af ?_
 refine ag rfl (fun hc1=>?_) (fun hc1=>?_)
 ·
  have hc1':=of_decide_eq_true hc1
  refine aP ?_
  refine af ?_
  refine aV ?_
  refine eE ?_
  obtain ⟨x1,hx1⟩:=ch (xs:=l) (i:=q) (by first|omega|(simp;done)|(simp;omega))
  refine ay (cQ (i:=q) rfl rfl rfl Try.underlying44 eb (by first|omega|(simp;done)|(simp;omega)) (bw hx1)) rfl ?_
  refine ab aa 3 rfl ?_
  refine ae ?_
  refine ad aa 4 rfl ?_
  refine ag rfl (fun hc2=>?_) (fun hc2=>?_)
  ·
   have hc2':=of_decide_eq_true hc2
   refine ad aa 3 rfl ?_
   refine ar ?_
   refine bg ?_
   refine ao ?_
   refine ao ?_
   refine bg ?_
   refine ao ?_
   have hX:cc l a=x1.sum:=by
     rw [hi0_1,tE hx1,if_pos (by omega)]
   rw [hX] at hr;clear hX
   subst hr
   refine ah aa [] 0 rfl rfl rfl rfl rfl rfl ?_ ?_
   all_goals first|rfl|(simp [au];done)|(simp [au];omega)
  have hc2':=of_decide_eq_false hc2
  refine cU ?_
  refine bp ?_
  refine then_ok ?_
  refine aw ?_
  refine ay (aM rfl rfl rfl (aH (by first|omega|(simp;done)|(simp;omega)))) rfl ?_
  refine ab aa 1 rfl ?_
  refine ae ?_
  refine ⟨q+1,⟨by omega,by rw [hi0_1,tE hx1,if_neg (by omega)]⟩,by first|omega|(simp;done)|(simp;omega),aD.bY id (by refine ⟨?_,?_,?_,?_,trivial⟩<;>first|rfl|(simp only [bn];done)|(congr 3;omega)|(congr 4;omega)|(simp only [bo];rfl)) (trivial) rfl⟩
 have hc1':=of_decide_eq_false hc1
 refine cp ?_
 refine aR ?_
 refine aR ?_
 refine bQ ?_
 refine then_ok ?_
 refine ad aa 1 rfl ?_
 refine ar ?_
 have hX:cc l a=0:=by
   rw [hi0_1,Ad (by omega)]
 rw [hX] at hr;clear hX
 subst hr
 refine ah aa [] 0 rfl rfl rfl rfl rfl rfl ?_ ?_
 all_goals first|rfl|(simp [au];done)|(simp [au];omega)


theorem qh {l es:List Entry} (h0:(dh l).err=0) (h1:es.length<=10) (h2:∀ x∈es,¬eV x) (h3:eo es=0):fZ l es=match fc l es with
    |some r=>(r,0)
    |none=>([],4):=by
  unfold fZ
  rw [if_neg (by omega),if_neg (by omega),if_neg (fun ⟨x,hx,hb⟩=>h2 x hx hb),if_neg (by omega)]
  all_goals (cases fc l es<;>rfl)
theorem tg {es:List Entry} {q:Nat} (h:∀ x∈es.take q,¬eV x) (hq:es.length<=q):∀ x∈es,¬eV x:=by
  rwa [List.take_of_length_le hq] at h
theorem yj {es:List Entry} {q:Nat} {x:Entry} (h:∀ x∈es.take q,¬eV x) (hx:es[q]?=some x) (hb:¬eV x):∀ x∈es.take (q+1),¬eV x:=by
  rw [sP hx]
  intro y hy
  rcases List.mem_append.1 hy with hy|hy
  ·exact h y hy
  ·rw [List.mem_singleton.1 hy];exact hb
theorem wW {es:List Entry} {q:Nat} (hq:es.length<=q):eo (es.take q)=eo es:=by rw [List.take_of_length_le hq]
theorem Dg {l m es:List Entry} {q:Nat} (h:fc l es=fc m (es.drop q)) (hq:es.length<=q):fc l es=some m:=by
  rw [h,List.drop_of_length_le hq];rfl
theorem wP (l es:List Entry) (r:List Entry) (e:Int) (hr:fZ l es=(r,e)):Fn Try.prog 111 [(.c (dM l)),(.c (dM es))] (.t [(.c (.s 0 0 2 r.length)),(.c (cI e))]) [(0,(lF r))]:=by
 refine Fn.mk' 75 [(0,(aC (dM l))),(1,(aC (dM es)))] Try.func111 rfl rfl rfl rfl ?_
 intro W0 T0
 refine dG 0 rfl (fun hlen0=>?_)
 refine dG 1 rfl (fun hlen1=>?_)
 refine ad aa 2 rfl ?_
 refine af ?_
 refine az aa 1 rfl ?_
 obtain ⟨f0,hr0⟩:∃ (f0:cP),dh l=f0:=⟨_,rfl⟩
 refine aL 0 [] (bJ 0 (vS l f0 hr0) Hg rfl rfl ⟨⟨_,rfl,.c (.d _)⟩,trivial⟩ ⟨trivial,trivial,trivial⟩ trivial rfl rfl rfl rfl) rfl ?_
 refine ab aa 2 rfl ?_
 refine ae ?_
 refine ad aa 3 rfl ?_
 refine ag rfl (fun hc1=>?_) (fun hc1=>?_)
 ·
  have hc1':=of_decide_eq_true hc1
  refine af ?_
  refine bb [0,1,6] [0] mixed rfl rfl ?_
  refine aA (kn:=[]) aa 4 rfl trivial ?_
  refine bB [0] rfl rfl rfl rfl (by kernel_rfl) ?_
  refine ae ?_
  refine ar ?_
  refine ao ?_
  refine cV (aD.nil 4 115 2 (by decide) rfl) ?_
  have hX:fZ l es=(([]:List Entry),f0.err):=by
    unfold fZ;rw [if_pos (by rw [hr0];omega),hr0]
  rw [hX] at hr;clear hX
  simp only [Prod.mk.injEq] at hr;obtain ⟨rfl,rfl⟩:=hr
  refine ah aa [1] 1 rfl rfl rfl rfl rfl rfl ?_ ?_
  all_goals first|rfl|(simp [au];done)|(simp [au];omega)
 have hc1':=of_decide_eq_false hc1
 refine aP ?_
 refine af ?_
 refine az aa 1 rfl ?_
 refine ay (cT rfl rfl rfl rfl rfl Try.underlying44) rfl ?_
 refine ab aa 1 rfl ?_
 refine ae ?_
 refine ag rfl (fun hc2=>?_) (fun hc2=>?_)
 ·
  have hc2':=of_decide_eq_true hc2
  refine ad aa 2 rfl ?_
  refine ar ?_
  refine ao ?_
  refine cV (aD.nil 4 115 2 (by decide) rfl) ?_
  have hX:fZ l es=(([]:List Entry),5):=by
    unfold fZ;rw [if_neg (by rw [hr0];omega),if_pos (by omega)]
  rw [hX] at hr;clear hX
  simp only [Prod.mk.injEq] at hr;obtain ⟨rfl,rfl⟩:=hr
  refine ah aa [1] 1 rfl rfl rfl rfl rfl rfl ?_ ?_
  all_goals first|rfl|(simp [au];done)|(simp [au];omega)
 have hc2':=of_decide_eq_false hc2
 refine aP ?_
 refine ad aa 1 rfl ?_
 refine af ?_
 refine az aa 1 rfl ?_
 refine ay (cT rfl rfl rfl rfl rfl Try.underlying44) rfl ?_
 refine ab aa 1 rfl ?_
 refine ae ?_
 refine aV ?_
 refine cx (β:=Nat) (fun (q:Nat)=>⟨[(0,(aC (dM l))),(1,(aC (dM es))),(7,(aI (eo (es.take q)))),(25,(aC (dM es))),(26,(aI (↑es.length:Int))),(27,(aI (↑q:Int)))],[],0⟩) (fun (q:Nat)=>q<=es.length/\(∀ x∈es.take q,¬eV x)/\-1000000000000 * (q:Int)<=eo (es.take q)/\eo (es.take q)<=1000000000000 * (q:Int)) (fun (q:Nat)=>es.length - q) 0 ?_ ?_ ?_
 ·(have h2:eo (es.take 0)=0:=rfl);exact ⟨by omega,by intro x hx;simp at hx,by omega⟩
 ·exact aD.bY id (by refine ⟨?_,?_,?_,?_,?_,?_,trivial⟩<;>first|rfl|(simp only [bn];done)|(congr 3;omega)|(congr 4;omega)|(simp only [bo];rfl)) (trivial) rfl
 rintro q ⟨hi0_0,hi0_1,hi0_2⟩
 refine ad aa 1 rfl ?_
 refine af ?_
 refine ag rfl (fun hc3=>?_) (fun hc3=>?_)
 ·
  have hc3':=of_decide_eq_true hc3
  refine aP ?_
  refine af ?_
  refine aV ?_
  refine eE ?_
  obtain ⟨x1,hx1⟩:=ch (xs:=es) (i:=q) (by first|omega|(simp;done)|(simp;omega))
  refine ay (cQ (i:=q) rfl rfl rfl Try.underlying44 eb (by first|omega|(simp;done)|(simp;omega)) (bw hx1)) rfl ?_
  refine ab aa 3 rfl ?_
  refine ae ?_
  refine af ?_
  refine cq 48 ((((decide (x1.aQ < 0))||(decide (x1.aQ>=58)))||(decide (x1.sum < (-1000000000000))))||(decide (x1.sum > 1000000000000))) ?_ ?_
  ·
   refine aw ?_
   refine ab aa 4 rfl ?_
   refine bA (t:=34) rfl (fun hb4=>?_) (fun hb4=>?_)
   ·
    have hb4':=of_decide_eq_true hb4
    refine ab aa 14 rfl ?_
    refine ae ?_
    exact aD.bG 19 rfl rfl (by first|(simp [hb4];done)|(simp_all;done)|(exfalso;simp_all;done)|(simp_all;omega)) rfl
   have hb4':=of_decide_eq_false hb4
   refine ab aa 5 rfl ?_
   refine bA (t:=39) rfl (fun hb5=>?_) (fun hb5=>?_)
   ·
    have hb5':=of_decide_eq_true hb5
    refine ab aa 9 rfl ?_
    refine ae ?_
    exact aD.bG 20 rfl rfl (by first|(simp [hb4,hb5];done)|(simp_all;done)|(exfalso;simp_all;done)|(simp_all;omega)) rfl
   have hb5':=of_decide_eq_false hb5
   refine ab aa 5 rfl ?_
   refine bA (t:=44) rfl (fun hb6=>?_) (fun hb6=>?_)
   ·
    have hb6':=of_decide_eq_true hb6
    refine ab aa 4 rfl ?_
    refine ae ?_
    exact aD.bG 21 rfl rfl (by first|(simp [hb4,hb5,hb6];done)|(simp_all;done)|(exfalso;simp_all;done)|(simp_all;omega)) rfl
   have hb6':=of_decide_eq_false hb6
   refine ab aa 4 rfl ?_
   refine ae ?_
   exact aD.bG 21 rfl rfl (by first|(simp [hb4,hb5,hb6];done)|(simp_all;done)|(exfalso;simp_all;done)|(simp_all;omega)) rfl
  refine ag rfl (fun hc7=>?_) (fun hc7=>?_)
  ·
   have hc7':=hc7;try simp only [bm,bM] at hc7'
   refine ad aa 2 rfl ?_
   refine ar ?_
   refine ao ?_
   refine bg ?_
   refine ao ?_
   refine ao ?_
   refine bg ?_
   refine ao ?_
   refine cV (aD.nil 4 115 2 (by decide) rfl) ?_
   have hX:fZ l es=(([]:List Entry),3):=by
     unfold fZ;rw [if_neg (by rw [hr0];omega),if_neg (by omega),if_pos ⟨x1,List.mem_of_getElem? hx1,by unfold eV;omega⟩]
   rw [hX] at hr;clear hX
   simp only [Prod.mk.injEq] at hr;obtain ⟨rfl,rfl⟩:=hr
   refine ah aa [1] 1 rfl rfl rfl rfl rfl rfl ?_ ?_
   all_goals first|rfl|(simp [au];done)|(simp [au];omega)
  have hc7':=hc7;try simp only [bm,bM] at hc7'
  refine aP ?_
  refine aw ?_
  refine ab aa 3 rfl ?_
  refine ay (aM rfl rfl rfl (aH (by first|omega|(simp;done)|(simp;omega)))) rfl ?_
  refine ab aa 1 rfl ?_
  refine bZ ?_
  refine bp ?_
  refine then_ok ?_
  refine aw ?_
  refine ay (aM rfl rfl rfl (aH (by first|omega|(simp;done)|(simp;omega)))) rfl ?_
  refine ab aa 1 rfl ?_
  refine ae ?_
  refine ⟨q+1,⟨by omega,yj hi0_1 hx1 (by unfold eV;omega),by rw [jo hx1];omega⟩,by first|omega|(simp;done)|(simp;omega),aD.bY id (by refine ⟨?_,?_,?_,?_,?_,?_,trivial⟩<;>first|rfl|(simp only [bn];done)|(congr 3;omega)|(congr 4;omega)|(simp only [bo];rfl)|(rw [jo hx1];rfl)) (trivial) rfl⟩
 have hc3':=of_decide_eq_false hc3
 refine cp ?_
 refine aR ?_
 refine aR ?_
 refine bQ ?_
 refine then_ok ?_
 refine af ?_
 refine ad aa 2 rfl ?_
 refine ag rfl (fun hc8=>?_) (fun hc8=>?_)
 ·
  have hc8':=of_decide_eq_true hc8
  refine ad aa 2 rfl ?_
  refine ar ?_
  refine ao ?_
  refine cV (aD.nil 4 115 2 (by decide) rfl) ?_
  have hX:fZ l es=(([]:List Entry),8):=by
    (have hs:=wW (es:=es) (q:=q) (by omega));(have hnb:=tg hi0_1 (by omega));unfold fZ;rw [if_neg (by rw [hr0];omega),if_neg (by omega),if_neg (fun ⟨x,hx,hb⟩=>hnb x hx hb),if_pos (by omega)]
  rw [hX] at hr;clear hX
  simp only [Prod.mk.injEq] at hr;obtain ⟨rfl,rfl⟩:=hr
  refine ah aa [0] 1 rfl rfl rfl rfl rfl rfl ?_ ?_
  all_goals first|rfl|(simp [au];done)|(simp [au];omega)
 have hc8':=of_decide_eq_false hc8
 refine aP ?_
 have h0:(dh l).err=0:=by rw [hr0];omega
 have hR:jj l:=(kT.1 h0).1
 have hRl:=sY hR
 have hs:=wW (es:=es) (q:=q) (by omega)
 have hnb:=tg hi0_1 (by omega)
 refine az aa 1 rfl ?_
 refine aL 1 [0] (bJ 0 (uf l (by first|omega|(simp;done)|(simp;omega))) FQ rfl rfl ⟨⟨_,rfl,.c (.d _)⟩,trivial⟩ trivial ⟨(fun _ _ _ _=>trivial),trivial⟩ rfl rfl rfl rfl) rfl ?_
 refine ab aa 1 rfl ?_
 refine ae ?_
 refine af ?_
 refine az aa 1 rfl ?_
 refine ay (cT rfl rfl rfl rfl rfl Try.underlying44) rfl ?_
 refine ab aa 1 rfl ?_
 refine ae ?_
 refine aV ?_
 refine cx (β:=Nat×List Entry) (fun (p:Nat×List Entry)=>match p with|(p,m)=>⟨[(0,(aC (dM l))),(1,(aC (dM es))),(7,(aI (eo (es.take q)))),(25,(aC (dM es))),(26,(aI (↑es.length:Int))),(27,(aI (↑q:Int))),(10,(aC (.s 0 0 2 m.length))),(58,(aC (dM es))),(59,(aI (↑es.length:Int))),(60,(aI (↑p:Int)))],[(0,(lF m))],1⟩) (fun (p:Nat×List Entry)=>match p with|(p,m)=>p<=es.length/\jj m/\fc l es=fc m (es.drop p)) (fun (p:Nat×List Entry)=>match p with|(p,m)=>es.length - p) (0,l) ?_ ?_ ?_
 ·exact ⟨by omega,hR,rfl⟩
 ·exact aD.bY id (by refine ⟨?_,?_,?_,?_,?_,?_,?_,?_,?_,?_,trivial⟩<;>first|rfl|(simp only [bn];done)|(congr 3;omega)|(congr 4;omega)|(simp only [bo];rfl)) (⟨by first|rfl|(simp only [bn];done)|(congr 3;omega)|(congr 4;omega)|(simp only [bo];rfl),trivial⟩) rfl
 rintro ⟨p,m⟩ ⟨hi1_0,hi1_1,hi1_2⟩
 refine ad aa 1 rfl ?_
 refine af ?_
 refine ag rfl (fun hc9=>?_) (fun hc9=>?_)
 ·
  have hc9':=of_decide_eq_true hc9
  refine aP ?_
  refine af ?_
  refine aV ?_
  refine eE ?_
  obtain ⟨x1,hx1⟩:=ch (xs:=es) (i:=p) (by first|omega|(simp;done)|(simp;omega))
  have hx1n:=hnb x1 (List.mem_of_getElem? hx1)
  have hx1b:0<=x1.aQ/\x1.aQ<=57/\-1000000000000<=x1.sum/\x1.sum<=1000000000000:=by unfold eV at hx1n;omega
  refine ay (cQ (i:=p) rfl rfl rfl Try.underlying44 eb (by first|omega|(simp;done)|(simp;omega)) (bw hx1)) rfl ?_
  refine ab aa 3 rfl ?_
  refine ae ?_
  refine az aa 2 rfl ?_
  obtain ⟨r1,g1,hr1⟩:∃ (r1:List Entry) (g1:Bool),jA m x1=(r1,g1):=⟨_,_,rfl⟩
  obtain ⟨hp1,hg1⟩:=Prod.mk.inj hr1
  refine aL 3 [2,1] (cv id (aU [2]) (Gb m x1 (by exact (show jj _ by assumption).up) (by (have:=sY (show jj _ by assumption);omega)) (by (intro y hy;have:=(show jj _ by assumption).ok y hy;omega)) (by (unfold eV at *;omega)) r1 g1 hr1) FP rfl rfl ⟨⟨_,rfl,.inl ⟨rfl,rfl⟩⟩,⟨_,rfl,.inr (.g ⟨.d _,.d _,trivial⟩)⟩,trivial⟩ ⟨rfl,trivial⟩ rfl rfl rfl rfl rfl rfl ⟨trivial,trivial,trivial⟩ ⟨(fun _ _ _ _=>trivial),trivial⟩ rfl rfl rfl rfl) rfl ?_
  refine ab aa 5 rfl ?_
  refine ae ?_
  refine af ?_
  refine ad aa 2 rfl ?_
  refine ag rfl (fun hc10=>?_) (fun hc10=>?_)
  ·
   have hc10':=hc10;try simp only [bm,bM] at hc10'
   refine ad aa 2 rfl ?_
   refine ar ?_
   refine ao ?_
   refine bg ?_
   refine ao ?_
   refine ao ?_
   refine bg ?_
   refine ao ?_
   refine cV (aD.nil 4 115 2 (by decide) rfl) ?_
   have hX:fZ l es=(([]:List Entry),4):=by
     rw [qh h0 (by omega) hnb (by omega),hi1_2,pF hx1,if_neg (by simp_all)]
   rw [hX] at hr;clear hX
   simp only [Prod.mk.injEq] at hr;obtain ⟨rfl,rfl⟩:=hr
   refine ah aa [3] 1 rfl rfl rfl rfl rfl rfl ?_ ?_
   all_goals first|rfl|(simp [au];done)|(simp [au];omega)
  have hc10':=hc10;try simp only [bm,bM] at hc10'
  refine aP ?_
  refine aw ?_
  refine ab aa 2 rfl ?_
  refine bZ ?_
  refine bp ?_
  refine then_ok ?_
  refine aw ?_
  refine ay (aM rfl rfl rfl (aH (by first|omega|(simp;done)|(simp;omega)))) rfl ?_
  refine ab aa 1 rfl ?_
  refine ae ?_
  refine ⟨(p+1,r1),⟨by omega,by rw [<-hp1];exact qT hi1_1 (by omega) (lU.1 (by rw [hg1];simp_all)),by rw [hi1_2,pF hx1,if_pos (by rw [hg1];simp_all),hp1]⟩,by first|omega|(simp;done)|(simp;omega),aD.bY (fun k=>if k=0 then 2 else k) (by refine ⟨?_,?_,?_,?_,?_,?_,?_,?_,?_,?_,trivial⟩<;>first|rfl|(simp only [bn];done)|(congr 3;omega)|(congr 4;omega)|(simp only [bo];rfl)) (⟨by first|rfl|(simp only [bn];done)|(congr 3;omega)|(congr 4;omega)|(simp only [bo];rfl),trivial⟩) rfl⟩
 have hc9':=of_decide_eq_false hc9
 refine cp ?_
 refine aR ?_
 refine aR ?_
 refine bQ ?_
 refine then_ok ?_
 refine ad aa 3 rfl ?_
 refine ar ?_
 have hX:fZ l es=(m,0):=by
   rw [qh h0 (by omega) hnb (by omega),Dg hi1_2 (by omega)]
 rw [hX] at hr;clear hX
 simp only [Prod.mk.injEq] at hr;obtain ⟨rfl,rfl⟩:=hr
 refine ah aa [0] 1 rfl rfl rfl rfl rfl rfl ?_ ?_
 all_goals first|rfl|(simp [au];done)|(simp [au];omega)


def iQ (l:List Entry) (src dst n:Int):List Entry×Int:=if n < 0\/n > 1000000000000 then ([],3) else fZ l [⟨src,0 - n⟩,⟨dst,n⟩]
theorem Bt {l es r : List Entry} (h : fZ l es = (r, 0)) : (dh l).err = 0 ∧ es.length ≤ 10 ∧ (∀ x ∈ es, ¬ eV x) ∧ eo es = 0 ∧ fc l es = some r := by
  unfold fZ at h
  split at h
  · rename_i h0; injection h with _ h1; exact absurd h1 h0
  rename_i h0
  split at h
  · injection h with _ h1; cases h1
  rename_i h1
  split at h
  · injection h with _ h1; cases h1
  rename_i h2
  split at h
  · injection h with _ h1; cases h1
  rename_i h3
  split at h
  · rename_i r' hr
    injection h with h4 _
    subst h4
    exact ⟨by omega, by omega, fun x hx hb => h2 ⟨x, hx, hb⟩, by omega, hr⟩
  · injection h with _ h1; cases h1
theorem oq {l es r:List Entry} (h:fZ l es=(r,0)) (a:Int):(dh r).err=0/\cc r a=cc l a+lu a es:=by
  obtain ⟨h1,h2,h3,h4,h5⟩:=Bt h
  obtain ⟨h6,h7⟩:=kT.1 h1
  obtain ⟨h8,h9⟩:=ow h6 h3 h5
  exact ⟨kT.2 ⟨h8,by omega⟩,re h6.up h5⟩

theorem wQ (l:List Entry) (src dst n:Int) (r:List Entry) (e:Int) (hr:iQ l src dst n=(r,e)):Fn Try.prog 98 [(.c (dM l)),(.c (cI src)),(.c (cI dst)),(.c (cI n))] (.t [(.c (.s 0 0 2 r.length)),(.c (cI e))]) [(0,(lF r))]:=by
 refine Fn.mk' 28 [(0,(aC (dM l))),(1,(aI src)),(2,(aI dst)),(3,(aI n))] Try.func98 rfl rfl rfl rfl ?_
 intro W0 T0
 refine dG 0 rfl (fun hlen0=>?_)
 refine ad aa 2 rfl ?_
 refine af ?_
 refine cq 15 ((decide (n < 0))||(decide (n > 1000000000000))) ?_ ?_
 ·
  refine aw ?_
  refine ab aa 3 rfl ?_
  refine bA (t:=12) rfl (fun hb1=>?_) (fun hb1=>?_)
  ·
   have hb1':=of_decide_eq_true hb1
   refine ab aa 3 rfl ?_
   refine ae ?_
   exact aD.bG 7 rfl rfl (by first|(simp [hb1];done)|(simp_all;done)|(exfalso;simp_all;done)|(simp_all;omega)) rfl
  have hb1':=of_decide_eq_false hb1
  refine ab aa 3 rfl ?_
  refine ae ?_
  exact aD.bG 7 rfl rfl (by first|(simp [hb1];done)|(simp_all;done)|(exfalso;simp_all;done)|(simp_all;omega)) rfl
 refine ag rfl (fun hc2=>?_) (fun hc2=>?_)
 ·
  have hc2':=hc2;try simp only [bm,bM] at hc2'
  refine ad aa 2 rfl ?_
  refine ar ?_
  refine ao ?_
  refine cV (aD.nil 8 115 2 (by decide) rfl) ?_
  have hX:iQ l src dst n=(([]:List Entry),3):=by
    unfold iQ;rw [if_pos (by omega)]
  rw [hX] at hr;clear hX
  simp only [Prod.mk.injEq] at hr;obtain ⟨rfl,rfl⟩:=hr
  refine ah aa [0] 1 rfl rfl rfl rfl rfl rfl ?_ ?_
  all_goals first|rfl|(simp [au];done)|(simp [au];omega)
 have hc2':=hc2;try simp only [bm,bM] at hc2'
 refine aP ?_
 refine az aa 3 rfl ?_
 refine ay (oH rfl rfl (aH (by first|omega|(simp;done)|(simp;omega)))) rfl ?_
 refine ab aa 4 rfl ?_
 refine aL 1 [0] (dz (ys:=[(0,(.g [(cI src),(cI (0 - n))])),(1,(.g [(cI dst),(cI n)]))]) (rows:=([(⟨src,0 - n⟩:Entry),(⟨dst,n⟩:Entry)]).map eC) 0 jP rfl (by decide) ⟨⟨rfl,rfl⟩,⟨rfl,rfl⟩,trivial⟩ rfl rfl rfl rfl) rfl ?_
 obtain ⟨r0,e0,hr0⟩:∃ (r0:List Entry) (e0:Int),fZ l ([(⟨src,0 - n⟩:Entry),(⟨dst,n⟩:Entry)])=(r0,e0):=⟨_,_,rfl⟩
 refine aL 2 [1,0] (fP 1 [0] (wP l ([(⟨src,0 - n⟩:Entry),(⟨dst,n⟩:Entry)]) r0 e0 hr0) FT rfl rfl ⟨⟨_,rfl,.c (.d _)⟩,⟨_,rfl,.c (.s rfl (by decide) (by first|omega|(simp;done)|(simp;omega)))⟩,trivial⟩ ⟨trivial,rfl,trivial⟩ ⟨(yo _),trivial⟩ rfl rfl rfl rfl) rfl ?_
 refine ab aa 4 rfl ?_
 refine ae ?_
 refine ar ?_
 have hX:iQ l src dst n=(r0,e0):=by
   unfold iQ;rw [if_neg (by omega)];assumption
 rw [hX] at hr;clear hX
 simp only [Prod.mk.injEq] at hr;obtain ⟨rfl,rfl⟩:=hr
 refine ah aa [1] 1 rfl rfl rfl rfl rfl rfl ?_ ?_
 all_goals first|rfl|(simp [au];done)|(simp [au];omega)
theorem jq {α:Type}:∀ l:List α,l=[]\/∃ A y,l=A++[y]
 |[]=>.inl rfl
 |x::l=>.inr (by
  rcases jq l with rfl|⟨A,y,rfl⟩
  ·exact ⟨[],x,rfl⟩
  ·exact ⟨x::A,y,rfl⟩)
def gu (a b:an):Bool:=decide (a.ax < b.ax)||(decide (a.ax=b.ax) && decide (a.ba < b.ba))
def fO (a b:an):Prop:=a.ax < b.ax\/(a.ax=b.ax/\a.ba<=b.ba)
def jy (a b:an):Bool:=decide (a.ax=b.ax) && decide (a.ba=b.ba)
def eU (l:List an):Prop:=l.Pairwise fO
def Same (u v:List an):Prop:=∀ k:an,u.filter (jy k)=v.filter (jy k)
theorem rl {a b:an}:gu a b=true↔(a.ax < b.ax\/(a.ax=b.ax/\a.ba < b.ba)):=by unfold gu;simp
theorem rm {a b:an}:gu a b=false↔fO b a:=by
 unfold gu fO
 rw [Bool.or_eq_false_iff,decide_eq_false_iff_not,Bool.and_eq_false_iff,decide_eq_false_iff_not,decide_eq_false_iff_not]
 omega
theorem kA {a b:an} (h:gu a b=true):fO a b:=by rw [rl] at h;unfold fO;omega
theorem nn (a:an):fO a a:=by unfold fO;omega
theorem kz {a b c:an} (h:fO a b) (h':fO b c):fO a c:=by unfold fO at *;omega
theorem ve {a b c:an} (h:gu a b=true) (h':fO b c):gu a c=true:=by rw [rl] at *;unfold fO at *;omega
theorem zN {a b c:an} (h:fO a b) (h':gu b c=true):gu a c=true:=by rw [rl] at *;unfold fO at *;omega
theorem oY {a b:an}:jy a b=true↔(a.ax=b.ax/\a.ba=b.ba):=by unfold jy;simp
theorem kV (a:an):jy a a=true:=by rw [oY];exact ⟨rfl,rfl⟩
theorem Same.refl (u:List an):Same u u:=fun _=>rfl
theorem Same.symm {u v:List an} (h:Same u v):Same v u:=fun k=>(h k).symm
theorem Same.trans {u v z:List an} (h:Same u v) (h':Same v z):Same u z:=fun k=>(h k).trans (h' k)
theorem Same.app {u v u' v':List an} (h:Same u u') (h':Same v v'):Same (u++v) (u'++v'):=fun k=>by rw [List.filter_append,List.filter_append,h k,h' k]
theorem Same.mem {u v:List an} (h:Same u v) {x:an}:x∈u↔x∈v:=by
 have h1:∀ l:List an,x∈l.filter (jy x)↔x∈l:=fun l=>by simp [kV]
 rw [<-h1 u,<-h1 v,h x]
theorem Same.perm {u v:List an} (h:Same u v):u.Perm v:=by
 rw [List.perm_iff_count]
 intro x
 rw [<-List.count_filter (p:=jy x) (l:=u) (kV x),<-List.count_filter (p:=jy x) (l:=v) (kV x),h x]
theorem Same.len {u v:List an} (h:Same u v):u.length=v.length:=h.perm.length_eq
theorem Same.comm {u v:List an} (h:∀ x∈u,∀ y∈v,gu y x=true):Same (u++v) (v++u):=fun k=>by
 rw [List.filter_append,List.filter_append]
 by_cases hu:u.filter (jy k)=[]
 ·rw [hu];simp
 ·by_cases hv:v.filter (jy k)=[]
  ·rw [hv];simp
  ·exfalso
   obtain ⟨x,hx⟩:=List.exists_mem_of_ne_nil _ hu
   obtain ⟨y,hy⟩:=List.exists_mem_of_ne_nil _ hv
   rw [List.mem_filter] at hx hy
   have h1:=h x hx.1 y hy.1
   have h2:=oY.1 hx.2
   have h3:=oY.1 hy.2
   rw [rl] at h1
   omega
theorem eU.uniq:∀ {u v:List an},eU u->eU v->Same u v->u=v
 |[],v,_,_,h=>by have:=h.len;exact (List.eq_nil_of_length_eq_zero this.symm).symm
 |x::u,[],_,_,h=>by have:=h.len;cases this
 |x::u,y::v,hu,hv,h=>by
  obtain ⟨hu1,hu2⟩:=List.pairwise_cons.1 hu
  obtain ⟨hv1,hv2⟩:=List.pairwise_cons.1 hv
  have h1:fO x y:=by
   rcases List.mem_cons.1 (h.mem.2 (List.mem_cons_self (a:=y) (l:=v))) with rfl|hm
   ·exact nn _
   ·exact hu1 y hm
  have h2:fO y x:=by
   rcases List.mem_cons.1 (h.mem.1 (List.mem_cons_self (a:=x) (l:=u))) with rfl|hm
   ·exact nn _
   ·exact hv1 x hm
  have h3:jy x y=true:=by rw [oY];unfold fO at h1 h2;omega
  have h4:=h x
  rw [List.filter_cons,List.filter_cons,if_pos (kV x),if_pos h3] at h4
  obtain ⟨rfl,_⟩:=List.cons.inj h4
  have h5:Same u v:=fun k=>by
   have:=h k
   rw [List.filter_cons,List.filter_cons] at this
   split at this
   ·exact (List.cons.inj this).2
   ·exact this
  rw [eU.uniq hu2 hv2 h5]

def gR (d:List an) (i j:Nat):List an:=
 match d[i]?,d[j]? with
 |some x,some y=>(d.set i y).set j x
 |_,_=>d
theorem ln {d:List an} {i j:Nat} {x y:an} (hx:d[i]?=some x) (hy:d[j]?=some y):gR d i j=(d.set i y).set j x:=by unfold gR;rw [hx,hy]
theorem lK (d:List an) (i j:Nat):(gR d i j).length=d.length:=by
 unfold gR;split<;>simp
theorem oc (s t u:List an) (x y:an) {i j:Nat} (hi:i=s.length) (hj:j=s.length+1+t.length):gR (s++x::(t++y::u)) i j=s++y::(t++x::u):=by
 subst hi hj
 have h1:(s++x::(t++y::u))[s.length]?=some x:=by simp
 have h2:(s++x::(t++y::u))[s.length+1+t.length]?=some y:=by
  rw [List.getElem?_append_right (by omega),show s.length+1+t.length - s.length=t.length+1 by omega,List.getElem?_cons_succ];simp
 rw [ln h1 h2,List.set_append_right _ _ (Nat.le_refl _),Nat.sub_self,List.set_cons_zero,List.set_append_right _ _ (by omega),show s.length+1+t.length - s.length=t.length+1 by omega,
  List.set_cons_succ,List.set_append_right _ _ (Nat.le_refl _),Nat.sub_self,List.set_cons_zero]
theorem xV (d:List an) (i j:Nat):gR d i j=gR d j i:=by
 by_cases hij:i=j
 ·subst hij;rfl
 ·unfold gR
  cases hx:d[i]? with
  |none=>cases hy:d[j]?<;>rfl
  |some x=>
   cases hy:d[j]? with
   |none=>rfl
   |some y=>exact List.set_comm _ _ hij
theorem qQ (s t u:List an) (x y:an) {i j:Nat} (hi:i=s.length) (hj:j=s.length+1+t.length):gR (s++x::(t++y::u)) j i=s++y::(t++x::u):=by rw [xV];exact oc s t u x y hi hj

structure Part (d y:List an) (a b:Nat):Prop where
 len:y.length=d.length
 l:y.take a=d.take a
 r:y.drop b=d.drop b
 s:eU ((y.drop a).take (b - a))
 m:Same d y
theorem Part.of {P X C R:List an} {a b:Nat} (ha:P.length=a) (hb:b=a+X.length) (hs:eU C) (hm:Same X C):Part (P++X++R) (P++C++R) a b:=by
 subst ha hb
 have hl:=hm.len
 refine ⟨by simp [hl],by simp,?_,?_,((Same.refl P).app hm).app (Same.refl R)⟩
 ·have h1:∀ Z:List an,Z.length=X.length->(P++Z++R).drop (P.length+X.length)=R:=fun Z hz=>by
   rw [<-hz,<-List.length_append,List.drop_left]
  rw [h1 C hl.symm,h1 X rfl]
 ·rw [List.append_assoc,List.drop_left,show P.length+X.length - P.length=C.length by omega,List.take_left];exact hs
theorem parts {d:List an} {a b:Nat} (h:a<=b) (hb:b<=d.length):d=d.take a++(d.drop a).take (b - a)++d.drop b:=by
 have h1:d.drop b=(d.drop a).drop (b - a):=by rw [List.drop_drop];congr 1;omega
 rw [h1,List.append_assoc,List.take_append_drop,List.take_append_drop]

def jm (a:Nat):Nat->List an->List an
 |0,d=>d
 |j+1,d=>
  if a < j+1 then
   match d[j+1]?,d[j]? with
   |some x,some y=>if gu x y=true then jm a j (gR d (j+1) j) else d
   |_,_=>d
  else d
theorem qk {a j:Nat} {d:List an} (h:¬a < j):jm a j d=d:=by
 cases j with
 |zero=>rfl
 |succ j=>unfold jm;rw [if_neg h]
theorem oD {a j:Nat} {d:List an} {x y:an} (hx:d[j]?=some x) (hy:d[j - 1]?=some y) (h:gu x y=false):jm a j d=d:=by
 cases j with
 |zero=>rfl
 |succ j=>
  unfold jm
  split
  ·rw [hx,show d[j]?=some y from hy];simp [h]
  ·rfl
theorem xA {a j:Nat} {d:List an} {x y:an} (ha:a < j) (hx:d[j]?=some x) (hy:d[j - 1]?=some y) (h:gu x y=true):jm a j d=jm a (j - 1) (gR d j (j - 1)):=by
 cases j with
 |zero=>omega
 |succ j=>
  conv=>lhs;unfold jm
  rw [if_pos ha,hx,show d[j]?=some y from hy]
  simp only [h,if_true]
  rfl
theorem vn (a:Nat):∀ (j:Nat) (d:List an),(jm a j d).length=d.length
 |0,d=>rfl
 |j+1,d=>by
  unfold jm
  split
  ·split
   ·split
    ·rw [vn a j,lK]
    ·rfl
   ·rfl
  ·rfl
theorem vo (P:List an) (x:an):∀ (n:Nat) (A R:List an),A.length=n->∃ A1 A2,A=A1++A2/\jm P.length (P.length+n) (P++A++x::R)=P++(A1++x::A2)++R/\(∀ y∈A2,gu x y=true)/\(∀ A0 y,A1=A0++[y]->fO y x)
 |0,A,R,hA=>by
  obtain rfl:=List.eq_nil_of_length_eq_zero hA
  refine ⟨[],[],rfl,?_,by simp,by simp⟩
  rw [qk (by omega)];simp
 |n+1,A,R,hA=>by
  obtain ⟨A',y,rfl⟩:∃ A' y,A=A'++[y]:=by
   rcases jq A with rfl|h
   ·cases hA
   ·exact h
  have hn:A'.length=n:=by simpa using hA
  have e1:P++(A'++[y])++x::R=(P++A')++y::([]++x::R):=by simp
  have h1:(P++(A'++[y])++x::R)[P.length+(n+1)]?=some x:=by
   rw [List.getElem?_append_right (by simp;omega),show P.length+(n+1) - (P++(A'++[y])).length=0 by simp;omega];rfl
  have h2:(P++(A'++[y])++x::R)[P.length+(n+1) - 1]?=some y:=by
   rw [e1,List.getElem?_append_right (by simp;omega),show P.length+(n+1) - 1 - (P++A').length=0 by simp;omega];rfl
  cases hc:gu x y with
  |true=>
   rw [xA (by omega) h1 h2 hc,show P.length+(n+1) - 1=P.length+n by omega,e1,qQ (P++A') [] R y x (by simp;omega) (by simp;omega)]
   obtain ⟨A1,A2,rfl,h3,h4,h5⟩:=vo P x n A' (y::R) hn
   refine ⟨A1,A2++[y],by simp,?_,?_,h5⟩
   ·rw [List.nil_append,h3];simp
   ·intro z hz
    rcases List.mem_append.1 hz with hz|hz
    ·exact h4 z hz
    ·rw [List.mem_singleton.1 hz];exact hc
  |false=>
   rw [oD h1 h2 hc]
   refine ⟨A'++[y],[],by simp,by simp,by simp,fun A0 z hz=>?_⟩
   obtain ⟨_,h⟩:=List.append_inj' hz rfl
   rw [<-List.cons.inj h|>.1]
   exact rm.1 hc
theorem gw {u v:List an}:eU (u++v)↔eU u/\eU v/\∀ x∈u,∀ y∈v,fO x y:=List.pairwise_append
theorem uF {u:List an} {y x:an} (h:eU (u++[y])) (hx:fO y x):∀ z∈u++[y],fO z x:=fun z hz=>by
 rcases List.mem_append.1 hz with hz|hz
 ·exact kz ((gw.1 h).2.2 z hz y (List.mem_singleton.2 rfl)) hx
 ·rw [List.mem_singleton.1 hz];exact hx
theorem zO {u:List an} {x:an} (h:eU u) (hl:∀ A0 y,u=A0++[y]->fO y x):∀ z∈u,fO z x:=by
 rcases jq u with rfl|⟨A',y,h'⟩
 ·simp
 ·rw [h'] at h ⊢;exact uF h (hl A' y h')
theorem zK {A1 A2:List an} {x:an} (h:eU (A1++A2)) (h1:∀ z∈A1,fO z x) (h2:∀ z∈A2,gu x z=true):eU (A1++x::A2)/\Same (A1++A2++[x]) (A1++x::A2):=by
 obtain ⟨s1,s2,s3⟩:=gw.1 h
 refine ⟨gw.2 ⟨s1,List.pairwise_cons.2 ⟨fun y hy=>kA (h2 y hy),s2⟩,fun z hz y hy=>?_⟩,?_⟩
 ·rcases List.mem_cons.1 hy with rfl|hy
  ·exact h1 z hz
  ·exact s3 z hz y hy
 ·have:=(Same.refl A1).app (Same.comm (u:=A2) (v:=[x]) fun y hy z hz=>by rw [List.mem_singleton.1 hz];exact h2 y hy)
  simpa using this
theorem Dj {B1 B2:List an} {x:an} (h:eU (B1++B2)) (h1:∀ z∈B1,gu z x=true) (h2:∀ z∈B2,fO x z):eU (B1++x::B2)/\Same (x::(B1++B2)) (B1++x::B2):=by
 obtain ⟨s1,s2,s3⟩:=gw.1 h
 refine ⟨gw.2 ⟨s1,List.pairwise_cons.2 ⟨h2,s2⟩,fun z hz y hy=>?_⟩,?_⟩
 ·rcases List.mem_cons.1 hy with rfl|hy
  ·exact kA (h1 z hz)
  ·exact s3 z hz y hy
 ·have:=(Same.comm (u:=[x]) (v:=B1) fun y hy z hz=>by rw [List.mem_singleton.1 hy];exact h1 z hz).app (Same.refl B2)
  simpa using this
def ja (a:Nat):Nat->List an->List an
 |0,d=>d
 |n+1,d=>jm a (a+1+n) (ja a n d)
theorem qj (a:Nat):∀ (n:Nat) (d:List an),(ja a n d).length=d.length
 |0,_=>rfl
 |n+1,d=>by unfold ja;rw [vn,qj a n]
theorem vj (P X R:List an):∀ n,n < X.length->∃ C,ja P.length n (P++X++R)=P++C++X.drop (n+1)++R/\eU C/\Same (X.take (n+1)) C
 |0,h=>by
  refine ⟨X.take 1,?_,?_,Same.refl _⟩
  ·unfold ja;rw [List.append_assoc P (X.take 1),List.take_append_drop]
  ·cases X with
   |nil=>cases h
   |cons x X=>exact List.pairwise_singleton _ _
 |n+1,h=>by
  obtain ⟨C,h1,h2,h3⟩:=vj P X R n (by omega)
  have hl:C.length=n+1:=by rw [<-h3.len,List.length_take];omega
  have e1:X.drop (n+1)=X[n+1]::X.drop (n+2):=List.drop_eq_getElem_cons h
  obtain ⟨A1,A2,rfl,h4,h5,h6⟩:=vo P X[n+1] (n+1) C (X.drop (n+2)++R) hl
  have h7:eU A1:=(gw.1 h2).1
  obtain ⟨h8,h9⟩:=zK h2 (zO h7 h6) h5
  refine ⟨A1++X[n+1]::A2,?_,h8,?_⟩
  ·unfold ja
   rw [h1,show P.length+1+n=P.length+(n+1) by omega,show P++(A1++A2)++X.drop (n+1)++R=P++(A1++A2)++X[n+1]::(X.drop (n+2)++R) by rw [List.append_assoc _ _ R,e1,List.cons_append],h4]
   simp
  ·rw [List.take_add_one,List.getElem?_eq_getElem h]
   exact (h3.app (Same.refl _)).trans h9
theorem tw {d:List an} {a b:Nat} (h:a<=b) (hb:b<=d.length):Part d (ja a (b - (a+1)) d) a b:=by
 by_cases hab:a=b
 ·subst hab
  rw [show a - (a+1)=0 by omega]
  exact ⟨rfl,rfl,rfl,by rw [Nat.sub_self];exact List.Pairwise.nil,Same.refl _⟩
 ·have e:=parts h hb
  have h1:(d.take a).length=a:=by rw [List.length_take];omega
  have h2:((d.drop a).take (b - a)).length=b - a:=by rw [List.length_take,List.length_drop];omega
  obtain ⟨C,h3,h4,h5⟩:=vj (d.take a) ((d.drop a).take (b - a)) (d.drop b) (b - (a+1)) (by omega)
  rw [h1] at h3
  rw [<-e,List.drop_of_length_le (l:=(d.drop a).take (b - a)) (by omega),List.append_nil] at h3
  rw [List.take_of_length_le (l:=(d.drop a).take (b - a)) (by omega)] at h5
  have:=Part.of (P:=d.take a) (R:=d.drop b) (a:=a) (b:=b) h1 (by omega) h4 h5
  rwa [<-e,<-h3] at this

def dt (d:List an) (i j:Nat):Bool:=
 match d[i]?,d[j]? with
 |some x,some y=>gu x y
 |_,_=>false
theorem fN {d:List an} {i j:Nat} {x y:an} (hx:d[i]?=some x) (hy:d[j]?=some y):dt d i j=gu x y:=by unfold dt;rw [hx,hy]
def fF (p:Nat->Bool) (i j:Nat):Nat:=
 if _h:i < j then if p ((i+j) / 2)=true then fF p ((i+j) / 2+1) j else fF p i ((i+j) / 2) else i
termination_by j - i
theorem eH {p:Nat->Bool} {i j:Nat} (h:¬i < j):fF p i j=i:=by rw [fF,dif_neg h]
theorem CX {p:Nat->Bool} {i j:Nat} (h:i < j) (hp:p ((i+j) / 2)=true):fF p i j=fF p ((i+j) / 2+1) j:=by rw [fF,dif_pos h,if_pos hp]
theorem CY {p:Nat->Bool} {i j:Nat} (h:i < j) (hp:p ((i+j) / 2)=false):fF p i j=fF p i ((i+j) / 2):=by rw [fF,dif_pos h,if_neg (by rw [hp];exact Bool.false_ne_true)]
theorem kd (p:Nat->Bool):∀ (n i j:Nat),j - i<=n->i<=j->i<=fF p i j/\fF p i j<=j/\(fF p i j=i\/p (fF p i j - 1)=true)/\(fF p i j=j\/p (fF p i j)=false)
 |0,i,j,hn,h=>by rw [eH (by omega)];exact ⟨Nat.le_refl _,h,.inl rfl,.inl (by omega)⟩
 |n+1,i,j,hn,h=>by
  by_cases hij:i < j
  ·cases hp:p ((i+j) / 2) with
   |true=>
    rw [CX hij hp]
    obtain ⟨h1,h2,h3,h4⟩:=kd p n ((i+j) / 2+1) j (by omega) (by omega)
    refine ⟨by omega,h2,?_,h4⟩
    rcases h3 with h3|h3
    ·right;rw [h3,Nat.add_sub_cancel];exact hp
    ·exact .inr h3
   |false=>
    rw [CY hij hp]
    obtain ⟨h1,h2,h3,h4⟩:=kd p n i ((i+j) / 2) (by omega) (by omega)
    refine ⟨h1,by omega,h3,?_⟩
    rcases h4 with h4|h4
    ·right;rw [h4];exact hp
    ·exact .inr h4
  ·rw [eH hij];exact ⟨Nat.le_refl _,h,.inl rfl,.inl (by omega)⟩
def nP (a:Nat):Nat->List an->List an
 |0,d=>d
 |n+1,d=>gR (nP a n d) (a+n) (a+n+1)
def nR (m:Nat):Nat->List an->List an
 |0,d=>d
 |n+1,d=>gR (nR m n d) (m - n) (m - n - 1)
theorem xu (a:Nat):∀ (n:Nat) (d:List an),(nP a n d).length=d.length
 |0,_=>rfl
 |n+1,d=>by unfold nP;rw [lK,xu a n]
theorem xw (m:Nat):∀ (n:Nat) (d:List an),(nR m n d).length=d.length
 |0,_=>rfl
 |n+1,d=>by unfold nR;rw [lK,xw m n]
theorem xv (P:List an) (x:an):∀ (n:Nat) (V R:List an),V.length=n->nP P.length n (P++x::(V++R))=P++V++x::R
 |0,V,R,h=>by obtain rfl:=List.eq_nil_of_length_eq_zero h;simp [nP]
 |n+1,V,R,h=>by
  rcases jq V with rfl|⟨V',y,rfl⟩
  ·cases h
  ·have hn:V'.length=n:=by simpa using h
   unfold nP
   rw [show P++x::(V'++[y]++R)=P++x::(V'++(y::R)) by simp,xv P x n V' (y::R) hn]
   have:=oc (P++V') [] R x y (i:=P.length+n) (j:=P.length+n+1) (by simp;omega) (by simp;omega)
   rw [List.nil_append,List.nil_append] at this
   rw [this];simp
theorem xx (P:List an) (x:an) (R:List an):∀ (n:Nat) (U1 U2:List an),U2.length=n->nR (P++U1++U2).length n (P++U1++U2++x::R)=P++U1++x::(U2++R)
 |0,U1,U2,h=>by obtain rfl:=List.eq_nil_of_length_eq_zero h;simp [nR]
 |n+1,U1,U2,h=>by
  cases U2 with
  |nil=>cases h
  |cons y U=>
   have hn:U.length=n:=by simpa using h
   unfold nR
   have e1:P++U1++y::U=P++(U1++[y])++U:=by simp
   rw [e1,xx P x R n (U1++[y]) U hn]
   have:=qQ (P++U1) [] (U++R) y x (i:=(P++(U1++[y])++U).length - n - 1) (j:=(P++(U1++[y])++U).length - n) (by simp;omega) (by simp;omega)
   rw [List.nil_append,List.nil_append] at this
   rw [show P++(U1++[y])++x::(U++R)=P++U1++y::x::(U++R) by simp,this]
   simp
def fX (a b:Nat):Nat->List an->List an
 |0,d=>d
 |n+1,d=>gR (fX a b n d) (a+n) (b+n)
theorem iF (a b:Nat):∀ (n:Nat) (d:List an),(fX a b n d).length=d.length
 |0,_=>rfl
 |n+1,d=>by unfold fX;rw [lK,iF a b n]
theorem lJ (p:List an):∀ (n:Nat) (x q y r:List an) {b:Nat},x.length=n->y.length=n->b=p.length+n+q.length->fX p.length b n (p++(x++(q++(y++r))))=p++(y++(q++(x++r)))
 |0,x,q,y,r,b,hx,hy,_=>by obtain rfl:=List.eq_nil_of_length_eq_zero hx;obtain rfl:=List.eq_nil_of_length_eq_zero hy;rfl
 |n+1,x,q,y,r,b,hx,hy,hb=>by
  rcases jq x with rfl|⟨x',x1,rfl⟩
  ·cases hx
  rcases jq y with rfl|⟨y',y1,rfl⟩
  ·cases hy
  have h1:x'.length=n:=by simpa using hx
  have h2:y'.length=n:=by simpa using hy
  unfold fX
  have:=lJ p n x' (x1::q) y' (y1::r) (b:=b) h1 h2 (by simp;omega)
  rw [show p++(x'++[x1]++(q++(y'++[y1]++r)))=p++(x'++(x1::q++(y'++y1::r))) by simp,this]
  have:=oc (p++y') (q++x') r x1 y1 (i:=p.length+n) (j:=b+n) (by simp;omega) (by simp;omega)
  rw [show p++(y'++(x1::q++(x'++y1::r)))=p++y'++x1::(q++x'++y1::r) by simp,this]
  simp
def iW (m:Nat) (i j:Nat) (d:List an):List an:=
 if _h:0 < i/\0 < j then
  if i=j then fX (m - i) m i d
  else if i > j then iW m (i - j) j (fX (m - i) m j d)
  else iW m i (j - i) (fX (m - i) (m+j - i) i d)
 else d
termination_by i+j
theorem zy {m i:Nat} {d:List an} (hi:0 < i):iW m i i d=fX (m - i) m i d:=by rw [iW,dif_pos ⟨hi,hi⟩,if_pos rfl]
theorem zx {m i j:Nat} {d:List an} (hj:0 < j) (h:i > j):iW m i j d=iW m (i - j) j (fX (m - i) m j d):=by rw [iW,dif_pos ⟨by omega,hj⟩,if_neg (by omega),if_pos h]
theorem zw {m i j:Nat} {d:List an} (hi:0 < i) (h:i < j):iW m i j d=iW m i (j - i) (fX (m - i) (m+j - i) i d):=by rw [iW,dif_pos ⟨hi,by omega⟩,if_neg (by omega),if_neg (by omega)]
theorem se:∀ (n:Nat) (P u v R:List an) (m:Nat),u.length+v.length<=n->0 < u.length->0 < v.length->m=P.length+u.length->iW m u.length v.length (P++(u++(v++R)))=P++(v++(u++R))
 |0,P,u,v,R,m,hn,hu,hv,hm=>by omega
 |n+1,P,u,v,R,m,hn,hu,hv,hm=>by
  rcases Nat.lt_trichotomy u.length v.length with h|h|h
  ·rw [zw hu h]
   have e:v=v.take (v.length - u.length)++v.drop (v.length - u.length):=(List.take_append_drop _ _).symm
   have l1:(v.take (v.length - u.length)).length=v.length - u.length:=by rw [List.length_take];omega
   have l2:(v.drop (v.length - u.length)).length=u.length:=by rw [List.length_drop];omega
   generalize hv1:v.take (v.length - u.length)=v1 at e l1
   generalize hv2:v.drop (v.length - u.length)=v2 at e l2
   have h1:=lJ P u.length u v1 v2 R (b:=m+v.length - u.length) rfl l2 (by omega)
   rw [show m - u.length=P.length by omega,show P++(u++(v++R))=P++(u++(v1++(v2++R))) by rw [e];simp,h1,<-l1]
   have h2:=se n P v2 v1 (u++R) m (by omega) (by omega) (by omega) (by omega)
   rw [l2] at h2
   rw [h2,e];simp
  ·rw [<-h,zy hu,show m - u.length=P.length by omega]
   have h1:=lJ P u.length u [] v R (b:=m) rfl h.symm (by simp;omega)
   simpa using h1
  ·rw [zx hv h]
   have e:u=u.take v.length++u.drop v.length:=(List.take_append_drop _ _).symm
   have l1:(u.take v.length).length=v.length:=by rw [List.length_take];omega
   have l2:(u.drop v.length).length=u.length - v.length:=by rw [List.length_drop]
   generalize hv1:u.take v.length=u1 at e l1
   generalize hv2:u.drop v.length=u2 at e l2
   have h1:=lJ P v.length u1 u2 v R (b:=m) l1 rfl (by omega)
   rw [show m - u.length=P.length by omega,show P++(u++(v++R))=P++(u1++(u2++(v++R))) by rw [e];simp,h1,<-l2]
   have h2:=se n (P++v) u2 u1 R m (by omega) (by omega) (by omega) (by simp;omega)
   rw [l1] at h2
   rw [show P++(v++(u2++(u1++R)))=P++v++(u2++(u1++R)) by simp,h2,e];simp
theorem mC:∀ (n m i j:Nat) (d:List an),i+j<=n->(iW m i j d).length=d.length
 |0,m,i,j,d,h=>by rw [iW,dif_neg (by omega)]
 |n+1,m,i,j,d,h=>by
  rw [iW]
  split
  ·split
   ·rw [iF]
   ·split
    ·rw [mC n _ _ _ _ (by omega),iF]
    ·rw [mC n _ _ _ _ (by omega),iF]
  ·rfl
def eg (d:List an) (a m b:Nat):Nat:=
 if m > (a+b) / 2 then fF (fun c=>!dt d ((a+b) / 2+m - 1 - c) c) ((a+b) / 2+m - b) ((a+b) / 2)
 else fF (fun c=>!dt d ((a+b) / 2+m - 1 - c) c) a m
def eT (s m e:Nat) (d:List an):List an:=if s < m/\m < e then iW m (m - s) (e - m) d else d
def dA:Nat->Nat->Nat->Nat->List an->List an
 |0,_,_,_,d=>d
 |f+1,a,m,b,d=>
  if m - a=1 then nP a (fF (fun h=>dt d h a) m b - 1 - a) d
  else if b - m=1 then nR m (m - fF (fun h=>!dt d m h) a m) d
  else
   (fun s=>(fun e=>(fun d1=>(fun d2=>if (a+b) / 2 < e/\e < b then dA f ((a+b) / 2) e b d2 else d2)
    (if a < s/\s < (a+b) / 2 then dA f a s ((a+b) / 2) d1 else d1)) (eT s m e d)) ((a+b) / 2+m - s)) (eg d a m b)
theorem kU (s m e:Nat) (d:List an):(eT s m e d).length=d.length:=by unfold eT;split;exact mC _ _ _ _ _ (Nat.le_refl _);rfl
theorem eK:∀ (f a m b:Nat) (d:List an),(dA f a m b d).length=d.length
 |0,_,_,_,_=>rfl
 |f+1,a,m,b,d=>by
  unfold dA
  split
  ·rw [xu]
  ·split
   ·rw [xw]
   ·dsimp only
    split
    ·rw [eK f]
     split
     ·rw [eK f,kU]
     ·rw [kU]
    ·split
     ·rw [eK f,kU]
     ·rw [kU]
theorem tv {a i:Nat} {d:List an} (h:a+1<=i):ja a (i+1 - (a+1)) d=jm a i (ja a (i - (a+1)) d):=by
 rw [show i+1 - (a+1)=(i - (a+1))+1 by omega]
 conv=>lhs;unfold ja
 rw [show a+1+(i - (a+1))=i by omega]
theorem Bu {a k:Nat} {d:List an} (h:a<=k):nP a (k+1 - a) d=gR (nP a (k - a) d) k (k+1):=by
 rw [show k+1 - a=(k - a)+1 by omega]
 conv=>lhs;unfold nP
 rw [show a+(k - a)=k by omega]
theorem Bv {m k:Nat} {d:List an} (h:k<=m) (h0:0 < k):nR m (m - (k - 1)) d=gR (nR m (m - k) d) k (k - 1):=by
 rw [show m - (k - 1)=(m - k)+1 by omega]
 conv=>lhs;unfold nR
 rw [show m - (m - k)=k by omega]
theorem lV {P X:List an} {k n:Nat} (hn:n=P.length+k):(P++X)[n]?=X[k]?:=by
 subst hn;rw [List.getElem?_append_right (by omega),Nat.add_sub_cancel_left]
theorem le_last {B:List an} {x:an} (h:eU B) (hl:∀ A0 y,B=A0++[y]->gu y x=true):∀ z∈B,gu z x=true:=by
 rcases jq B with rfl|⟨A',y,h'⟩
 ·simp
 ·intro z hz
  have h1:=hl A' y h'
  rw [h'] at h hz
  rcases List.mem_append.1 hz with hz|hz
  ·exact zN ((gw.1 h).2.2 z hz y (List.mem_singleton.2 rfl)) h1
  ·rw [List.mem_singleton.1 hz];exact h1
theorem BP {B:List an} {x:an} (h:eU B) (hl:∀ y B0,B=y::B0->gu x y=true):∀ z∈B,gu x z=true:=by
 cases B with
 |nil=>simp
 |cons y B0=>
  intro z hz
  have h1:=hl y B0 rfl
  rcases List.mem_cons.1 hz with rfl|hz
  ·exact h1
  ·exact ve h1 ((List.pairwise_cons.1 h).1 z hz)
theorem BQ {B:List an} {x:an} (h:eU B) (hl:∀ y B0,B=y::B0->fO x y):∀ z∈B,fO x z:=by
 cases B with
 |nil=>simp
 |cons y B0=>
  intro z hz
  have h1:=hl y B0 rfl
  rcases List.mem_cons.1 hz with rfl|hz
  ·exact h1
  ·exact kz h1 ((List.pairwise_cons.1 h).1 z hz)
theorem uG {A:List an} {y:an} {A0:List an} (h:A=A0++[y]):A[A.length - 1]?=some y:=by subst h;simp
theorem mU (l:List an) (k:Nat) (h:k<=l.length):∃ u v,l=u++v/\u.length=k:=⟨l.take k,l.drop k,(List.take_append_drop k l).symm,by rw [List.length_take];omega⟩
theorem tF {U:List an} {u:an} (h:eU U) (hu:U[0]?=some u):∀ x∈U,fO u x:=by
 cases U with
 |nil=>simp
 |cons y U=>
  simp at hu;subst hu
  intro x hx
  rcases List.mem_cons.1 hx with rfl|hx
  ·exact nn _
  ·exact (List.pairwise_cons.1 h).1 x hx
theorem vh {V:List an} {v:an} (h:eU V) (hv:V[V.length - 1]?=some v):∀ y∈V,fO y v:=by
 rcases jq V with rfl|⟨A,z,rfl⟩
 ·simp
 ·simp at hv;subst hv
  exact uF h (nn _)
theorem get_some {V:List an} {k:Nat} (h:k < V.length):∃ v,V[k]?=some v:=⟨V[k],List.getElem?_eq_getElem h⟩
theorem qa:∀ (f:Nat) (P A B R:List an),A.length+B.length<=f->0 < A.length->0 < B.length->eU A->eU B->
  ∃ C,dA f P.length (P.length+A.length) (P.length+A.length+B.length) (P++(A++(B++R)))=P++(C++R)/\eU C/\Same (A++B) C
 |0,P,A,B,R,hf,ha,hb,_,_=>by omega
 |f+1,P,A,B,R,hf,ha,hb,sA,sB=>by
  obtain ⟨a,hea⟩:∃ a,a=P.length:=⟨_,rfl⟩
  obtain ⟨m,hem⟩:∃ m,m=P.length+A.length:=⟨_,rfl⟩
  obtain ⟨b,heb⟩:∃ b,b=P.length+A.length+B.length:=⟨_,rfl⟩
  rw [<-hea,show a+A.length=m by omega,show m+B.length=b by omega]
  unfold dA
  split
  ·
   rename_i h1
   obtain ⟨x,rfl⟩:∃ x,A=[x]:=by
    match A,ha,(by omega:A.length=1) with
    |[x],_,_=>exact ⟨x,rfl⟩
   have hl1:[x].length=1:=rfl
   obtain ⟨q1,q2,q3,q4⟩:=kd (fun h=>dt (P++([x]++(B++R))) h a) (b - m) m b (Nat.le_refl _) (by omega)
   generalize fF (fun h=>dt (P++([x]++(B++R))) h a) m b=i at q1 q2 q3 q4
   obtain ⟨B1,B2,rfl,hB1⟩:=mU B (i - m) (by omega)
   rw [List.length_append] at heb
   have gx:(P++([x]++(B1++B2++R)))[a]?=some x:=by rw [lV (k:=0) (by omega)];rfl
   have gB:∀ k,k < B1.length+B2.length->(P++([x]++(B1++B2++R)))[m+k]?=(B1++B2)[k]?:=fun k hk=>by
    rw [lV (k:=k+1) (by omega),List.cons_append,List.getElem?_cons_succ,List.nil_append,List.getElem?_append_left (by simp;omega)]
   obtain ⟨s1,s2,s3⟩:=gw.1 sB
   have w1:∀ z∈B1,gu z x=true:=le_last s1 fun A0 y hy=>by
    have hpos:0 < B1.length:=by rw [hy];simp
    rcases q3 with q3|q3
    ·omega
    ·have g1:=gB (B1.length - 1) (by omega)
     rw [List.getElem?_append_left (l₁:=B1) (by omega),uG hy,show m+(B1.length - 1)=i - 1 by omega] at g1
     have q3:dt (P++([x]++(B1++B2++R))) (i - 1) a=true:=q3
     rwa [fN g1 gx] at q3
   have w2:∀ z∈B2,fO x z:=BQ s2 fun y B0 hy=>by
    have hpos:0 < B2.length:=by rw [hy];simp
    rcases q4 with q4|q4
    ·omega
    ·have g1:=gB B1.length (by omega)
     have g2:B2[0]?=some y:=by rw [hy];rfl
     rw [List.getElem?_append_right (l₁:=B1) (Nat.le_refl _),Nat.sub_self,g2,show m+B1.length=i by omega] at g1
     have q4:dt (P++([x]++(B1++B2++R))) i a=false:=q4
     rw [fN g1 gx] at q4
     exact rm.1 q4
   obtain ⟨t1,t2⟩:=Dj sB w1 w2
   refine ⟨B1++x::B2,?_,t1,t2⟩
   have h2:=xv P x B1.length B1 (B2++R) rfl
   rw [show i - 1 - a=B1.length by omega,hea,show P++([x]++(B1++B2++R))=P++x::(B1++(B2++R)) by simp,h2]
   simp
  ·split
   ·
    rename_i h0 h1
    obtain ⟨x,rfl⟩:∃ x,B=[x]:=by
     match B,hb,(by omega:B.length=1) with
     |[x],_,_=>exact ⟨x,rfl⟩
    have hl1:[x].length=1:=rfl
    obtain ⟨q1,q2,q3,q4⟩:=kd (fun h=>!dt (P++(A++([x]++R))) m h) (m - a) a m (Nat.le_refl _) (by omega)
    generalize fF (fun h=>!dt (P++(A++([x]++R))) m h) a m=i at q1 q2 q3 q4
    obtain ⟨A1,A2,rfl,hA1⟩:=mU A (i - a) (by omega)
    rw [List.length_append] at hem heb
    have gx:(P++(A1++A2++([x]++R)))[m]?=some x:=by rw [lV (k:=A1.length+A2.length) (by omega),lV (k:=0) (by simp)];rfl
    have gA:∀ k,k < A1.length+A2.length->(P++(A1++A2++([x]++R)))[a+k]?=(A1++A2)[k]?:=fun k hk=>by
     rw [lV (k:=k) (by omega),List.getElem?_append_left (by simp;omega)]
    obtain ⟨s1,s2,s3⟩:=gw.1 sA
    have w1:∀ z∈A1,fO z x:=zO s1 fun A0 y hy=>by
     have hpos:0 < A1.length:=by rw [hy];simp
     rcases q3 with q3|q3
     ·omega
     ·have g1:=gA (A1.length - 1) (by omega)
      rw [List.getElem?_append_left (l₁:=A1) (by omega),uG hy,show a+(A1.length - 1)=i - 1 by omega] at g1
      have q3:(!dt (P++(A1++A2++([x]++R))) m (i - 1))=true:=q3
      rw [fN gx g1,Bool.not_eq_true'] at q3
      exact rm.1 q3
    have w2:∀ z∈A2,gu x z=true:=BP s2 fun y B0 hy=>by
     have hpos:0 < A2.length:=by rw [hy];simp
     rcases q4 with q4|q4
     ·omega
     ·have g1:=gA A1.length (by omega)
      have g2:A2[0]?=some y:=by rw [hy];rfl
      rw [List.getElem?_append_right (l₁:=A1) (Nat.le_refl _),Nat.sub_self,g2,show a+A1.length=i by omega] at g1
      have q4:(!dt (P++(A1++A2++([x]++R))) m i)=false:=q4
      rw [fN gx g1,Bool.not_eq_false'] at q4
      exact q4
    obtain ⟨t1,t2⟩:=zK sA w1 w2
    refine ⟨A1++x::A2,?_,t1,t2⟩
    have h2:=xx P x R A2.length A1 A2 rfl
    rw [show (P++A1++A2).length=m by simp;omega] at h2
    rw [show m - i=A2.length by omega,show P++(A1++A2++([x]++R))=P++A1++A2++x::R by simp,h2]
    simp
   ·
    rename_i h0 h1
    obtain ⟨mid,hmid⟩:∃ mid,mid=(a+b) / 2:=⟨_,rfl⟩
    have hs:∃ s,eg (P++(A++(B++R))) a m b=s/\a<=s/\s<=m/\s<=mid/\mid+m - s<=b/\
      (s=m\/s=mid\/dt (P++(A++(B++R))) (mid+m - 1 - s) s=true)/\(s=a\/mid+m - s=b\/dt (P++(A++(B++R))) (mid+m - s) (s - 1)=false):=by
     refine ⟨_,rfl,?_⟩
     unfold eg
     rw [<-hmid]
     split
     ·obtain ⟨q1,q2,q3,q4⟩:=kd (fun c=>!dt (P++(A++(B++R))) (mid+m - 1 - c) c) (mid - (mid+m - b)) (mid+m - b) mid (Nat.le_refl _) (by omega)
      generalize fF (fun c=>!dt (P++(A++(B++R))) (mid+m - 1 - c) c) (mid+m - b) mid=s at q1 q2 q3 q4
      refine ⟨by omega,by omega,by omega,by omega,?_,?_⟩
      ·rcases q4 with q4|q4
       ·exact .inr (.inl q4)
       ·right;right;simpa using q4
      ·rcases q3 with q3|q3
       ·right;left;omega
       ·by_cases hs0:s=a
        ·exact .inl hs0
        ·right;right
         have q3:(!dt (P++(A++(B++R))) (mid+m - 1 - (s - 1)) (s - 1))=true:=q3
         rw [show mid+m - 1 - (s - 1)=mid+m - s by omega] at q3;simpa using q3
     ·obtain ⟨q1,q2,q3,q4⟩:=kd (fun c=>!dt (P++(A++(B++R))) (mid+m - 1 - c) c) (m - a) a m (Nat.le_refl _) (by omega)
      generalize fF (fun c=>!dt (P++(A++(B++R))) (mid+m - 1 - c) c) a m=s at q1 q2 q3 q4
      refine ⟨by omega,by omega,by omega,by omega,?_,?_⟩
      ·rcases q4 with q4|q4
       ·exact .inl q4
       ·right;right;simpa using q4
      ·rcases q3 with q3|q3
       ·exact .inl q3
       ·by_cases hs0:s=a
        ·exact .inl hs0
        ·right;right
         have q3:(!dt (P++(A++(B++R))) (mid+m - 1 - (s - 1)) (s - 1))=true:=q3
         rw [show mid+m - 1 - (s - 1)=mid+m - s by omega] at q3;simpa using q3
    obtain ⟨s,hs0,hs1,hs2,hs3,hs4,hs5,hs6⟩:=hs
    dsimp only
    rw [hs0,<-hmid]
    obtain ⟨A1,U,rfl,hA1⟩:=mU A (s - a) (by omega)
    rw [List.length_append] at hem heb ha hf
    obtain ⟨V,B2,rfl,hV⟩:=mU B (mid+m - s - m) (by omega)
    rw [List.length_append] at heb hb hf
    have gA:∀ k,k < A1.length+U.length->(P++(A1++U++(V++B2++R)))[a+k]?=(A1++U)[k]?:=fun k hk=>by
     rw [lV (k:=k) (by omega),List.getElem?_append_left (by simp;omega)]
    have gB:∀ k,k < V.length+B2.length->(P++(A1++U++(V++B2++R)))[m+k]?=(V++B2)[k]?:=fun k hk=>by
     rw [lV (k:=A1.length+U.length+k) (by omega),lV (k:=k) (by simp),List.getElem?_append_left (by simp;omega)]
    obtain ⟨a1,a2,a3⟩:=gw.1 sA
    obtain ⟨b1,b2,b3⟩:=gw.1 sB
    have w1:∀ x∈U,∀ y∈V,gu y x=true:=by
     intro x hx y hy
     have hU:0 < U.length:=List.length_pos_of_mem hx
     have hVp:0 < V.length:=List.length_pos_of_mem hy
     rcases hs5 with h5|h5|h5
     ·omega
     ·omega
     ·obtain ⟨v,hv⟩:=get_some (V:=V) (k:=V.length - 1) (by omega)
      obtain ⟨u,hu⟩:=get_some (V:=U) (k:=0) hU
      have g1:=gB (V.length - 1) (by omega)
      rw [List.getElem?_append_left (l₁:=V) (by omega),hv,show m+(V.length - 1)=mid+m - 1 - s by omega] at g1
      have g2:=gA A1.length (by omega)
      rw [List.getElem?_append_right (l₁:=A1) (Nat.le_refl _),Nat.sub_self,hu,show a+A1.length=s by omega] at g2
      rw [fN g1 g2] at h5
      exact ve (zN (vh b1 hv y hy) h5) (tF a2 hu x hx)
    have w2:∀ x∈A1,∀ y∈B2,fO x y:=by
     intro x hx y hy
     have hAp:0 < A1.length:=List.length_pos_of_mem hx
     have hBp:0 < B2.length:=List.length_pos_of_mem hy
     rcases hs6 with h6|h6|h6
     ·omega
     ·omega
     ·obtain ⟨v,hv⟩:=get_some (V:=A1) (k:=A1.length - 1) (by omega)
      obtain ⟨u,hu⟩:=get_some (V:=B2) (k:=0) hBp
      have g1:=gB V.length (by omega)
      rw [List.getElem?_append_right (l₁:=V) (Nat.le_refl _),Nat.sub_self,hu,show m+V.length=mid+m - s by omega] at g1
      have g2:=gA (A1.length - 1) (by omega)
      rw [List.getElem?_append_left (l₁:=A1) (by omega),hv,show a+(A1.length - 1)=s - 1 by omega] at g2
      rw [fN g1 g2] at h6
      exact kz (vh a1 hv x hx) (kz (rm.1 h6) (tF b2 hu y hy))
    have hr:eT s m (mid+m - s) (P++(A1++U++(V++B2++R)))=P++(A1++(V++(U++(B2++R)))):=by
     unfold eT
     have e0:P++(A1++U++(V++B2++R))=P++A1++(U++(V++(B2++R))):=by simp
     split
     ·have:=se (U.length+V.length) (P++A1) U V (B2++R) m (Nat.le_refl _) (by omega) (by omega) (by simp;omega)
      rw [show m - s=U.length by omega,show mid+m - s - m=V.length by omega,e0,this];simp
     ·rcases (by omega:U.length=0\/V.length=0) with hz|hz
      ·obtain rfl:=List.eq_nil_of_length_eq_zero hz;simp
      ·obtain rfl:=List.eq_nil_of_length_eq_zero hz;simp
    rw [hr]
    have hL:∃ C1,(if a < s/\s < mid then dA f a s mid (P++(A1++(V++(U++(B2++R))))) else P++(A1++(V++(U++(B2++R)))))=P++(C1++(U++(B2++R)))/\eU C1/\Same (A1++V) C1:=by
     split
     ·obtain ⟨C1,c1,c2,c3⟩:=qa f P A1 V (U++(B2++R)) (by omega) (by omega) (by omega) a1 b1
      rw [<-hea,show a+A1.length=s by omega,show s+V.length=mid by omega] at c1
      exact ⟨C1,c1,c2,c3⟩
     ·rcases (by omega:A1.length=0\/V.length=0) with hz|hz
      ·obtain rfl:=List.eq_nil_of_length_eq_zero hz;exact ⟨V,by simp,b1,Same.refl _⟩
      ·obtain rfl:=List.eq_nil_of_length_eq_zero hz;exact ⟨A1,by simp,a1,by rw [List.append_nil];exact Same.refl _⟩
    obtain ⟨C1,c1,c2,c3⟩:=hL
    rw [c1]
    have hc1:C1.length=A1.length+V.length:=by rw [<-c3.len,List.length_append]
    have hR:∃ C2,(if mid < mid+m - s/\mid+m - s < b then dA f mid (mid+m - s) b (P++(C1++(U++(B2++R)))) else P++(C1++(U++(B2++R))))=P++(C1++(C2++R))/\eU C2/\Same (U++B2) C2:=by
     split
     ·obtain ⟨C2,d1,d2,d3⟩:=qa f (P++C1) U B2 R (by omega) (by omega) (by omega) a2 b2
      rw [List.length_append,show P.length+C1.length=mid by omega,show mid+U.length=mid+m - s by omega,show mid+m - s+B2.length=b by omega] at d1
      exact ⟨C2,by simpa using d1,d2,d3⟩
     ·rcases (by omega:U.length=0\/B2.length=0) with hz|hz
      ·obtain rfl:=List.eq_nil_of_length_eq_zero hz;exact ⟨B2,by simp,b2,Same.refl _⟩
      ·obtain rfl:=List.eq_nil_of_length_eq_zero hz;exact ⟨U,by simp,a2,by rw [List.append_nil];exact Same.refl _⟩
    obtain ⟨C2,d1,d2,d3⟩:=hR
    refine ⟨C1++C2,by rw [d1];simp,gw.2 ⟨c2,d2,?_⟩,?_⟩
    ·intro x hx y hy
     rcases List.mem_append.1 (c3.mem.2 hx) with hx|hx
     ·rcases List.mem_append.1 (d3.mem.2 hy) with hy|hy
      ·exact a3 x hx y hy
      ·exact w2 x hx y hy
     ·rcases List.mem_append.1 (d3.mem.2 hy) with hy|hy
      ·exact kA (w1 y hy x hx)
      ·exact b3 x hx y hy
    ·have e1:Same (A1++U++(V++B2)) (A1++(V++(U++B2))):=by
      have:=(Same.refl A1).app ((Same.comm w1).app (Same.refl B2))
      simpa using this
     have e2:=c3.app d3
     rw [List.append_assoc] at e2
     exact e1.trans e2
theorem zi {f:Nat} {d:List an} {a m b:Nat} (h1:a < m) (h2:m < b) (h3:b<=d.length) (hf:b - a<=f) (sA:eU ((d.drop a).take (m - a))) (sB:eU ((d.drop m).take (b - m))):Part d (dA f a m b d) a b:=by
 have e1:=parts (d:=d) (a:=a) (b:=b) (by omega) h3
 have e2:(d.drop a).take (b - a)=(d.drop a).take (m - a)++(d.drop m).take (b - m):=by
  rw [show b - a=(m - a)+(b - m) by omega,List.take_add,List.drop_drop,show a+(m - a)=m by omega]
 have l1:(d.take a).length=a:=by rw [List.length_take];omega
 have l2:((d.drop a).take (m - a)).length=m - a:=by rw [List.length_take,List.length_drop];omega
 have l3:((d.drop m).take (b - m)).length=b - m:=by rw [List.length_take,List.length_drop];omega
 obtain ⟨C,c1,c2,c3⟩:=qa f (d.take a) ((d.drop a).take (m - a)) ((d.drop m).take (b - m)) (d.drop b) (by omega) (by omega) (by omega) sA sB
 rw [l1,l2,l3,show a+(m - a)=m by omega,show m+(b - m)=b by omega] at c1
 rw [<-e2] at c3
 rw [e2] at e1
 have e3:d.take a++((d.drop a).take (m - a)++((d.drop m).take (b - m)++d.drop b))=d:=by rw [<-List.append_assoc,<-List.append_assoc,List.append_assoc (d.take a)];exact e1.symm
 rw [e3] at c1
 have:=Part.of (P:=d.take a) (X:=(d.drop a).take (b - a)) (C:=C) (R:=d.drop b) (a:=a) (b:=b) l1 (by rw [List.length_take,List.length_drop];omega) c2 c3
 rwa [e2,<-e1,List.append_assoc,<-c1] at this
theorem rL {p:Nat->Bool} {i j h R:Nat} (hb:fF p i j=R) (hij:i < j) (hh:h=(i+j) / 2) (hp:p h=true):fF p (h+1) j=R:=by
 subst hh;rw [<-hb,CX hij hp]
theorem rM {p:Nat->Bool} {i j h R:Nat} (hb:fF p i j=R) (hij:i < j) (hh:h=(i+j) / 2) (hp:p h=false):fF p i h=R:=by
 subst hh;rw [<-hb,CY hij hp]
theorem dV {f a m b mid s e:Nat} {d d1 d2 d3:List an} (h0:¬m - a=1) (h1:¬b - m=1) (hm:mid=(a+b) / 2) (hs:eg d a m b=s) (he:mid+m - s=e) (hd1:eT s m e d=d1)
  (hd2:(if a < s/\s < mid then dA f a s mid d1 else d1)=d2) (hd3:(if mid < e/\e < b then dA f mid e b d2 else d2)=d3):dA (f+1) a m b d=d3:=by
 subst hm he hd1 hd2 hd3 hs
 rw [dA.eq_2,if_neg h0,if_neg h1]
end Go.Proofs.Ytegepioggeggaaa.Dev
