/- A part of the proof: PlBook, Sh20, Com, Book5, Book6, Book7, Book8, Book9, PlSort, PlSort2. No condition. -/
import Derived.Test.YtegepioggeggaaaD05
set_option linter.unusedVariables false
set_option linter.unusedSimpArgs false
set_option maxHeartbeats 2000000
set_option maxRecDepth 100000
namespace Go.Proofs.Ytegepioggeggaaa.Dev
open Go.RowKit
def eP (x:Entry):Prop:=x.aO < 0\/x.aO > 57\/x.sum < -1000000000000\/x.sum > 1000000000000
instance (x:Entry):Decidable (eP x):=by unfold eP;infer_instance
def kG (l:List Entry) (q:Nat):Int:=
 match l[q]? with
 |some x=>if eP x then 3 else if (0 < q/\(l.getD (q - 1) ⟨0,0⟩).aO>=x.aO)\/x.sum=0 then 2 else 0
 |none=>0
def ei:List Entry->Int
 |[]=>0
 |x::l=>x.sum+ei l
def dC (l:List Entry):cV:=if (scan (kG l) 0 l.length).1≠0 then ⟨(scan (kG l) 0 l.length).1,(scan (kG l) 0 l.length).2⟩ else if ei l≠0 then ⟨8,0⟩ else ⟨0,0⟩
theorem yJ (x:Entry) (l:List Entry):ei (x::l)=x.sum+ei l:=rfl
theorem lX (l r:List Entry):ei (l++r)=ei l+ei r:=by
 induction l with
 |nil=>simp [ei]
 |cons x l ih=>simp only [List.cons_append,ei,ih];omega
theorem ss {α:Type} {l:List α} {q:Nat} {x:α} (h:l[q]?=some x):l.take (q+1)=l.take q++[x]:=by
 obtain ⟨hlt,rfl⟩:=List.getElem?_eq_some_iff.1 h
 rw [List.take_add_one,List.getElem?_eq_getElem hlt];rfl
theorem jj {l:List Entry} {q:Nat} {x:Entry} (h:l[q]?=some x):ei (l.take (q+1))=ei (l.take q)+x.sum:=by
 rw [ss h,lX];simp [ei]
def iu (l:List Entry) (q:Nat):Int:=if q=0 then -1 else (l.getD (q - 1) ⟨0,0⟩).aO
theorem jD {l:List Entry} {q:Nat} {x:Entry} (h:l[q]?=some x):iu l (q+1)=x.aO:=by
 unfold iu
 rw [if_neg (by omega),List.getD_eq_getElem?_getD,Nat.add_sub_cancel,h];rfl
theorem kv {l:List Entry} {q:Nat} {x:Entry} (hq:0 < q) (h:l[q - 1]?=some x):iu l q=x.aO:=by
 unfold iu
 rw [if_neg (by omega),List.getD_eq_getElem?_getD,h];rfl
theorem gU {l:List Entry} {q:Nat} {x:Entry} (h:l[q]?=some x):kG l q=if eP x then 3 else if (0 < q/\iu l q>=x.aO)\/x.sum=0 then 2 else 0:=by
 unfold kG
 rw [h]
 by_cases hq:q=0
 ·subst hq;simp
 ·unfold iu;rw [if_neg hq]
structure jf (l:List Entry):Prop where
 up:Up l
 ok:∀ x∈l,0<=x.aO/\x.aO<=57/\-1000000000000<=x.sum/\x.sum<=1000000000000/\x.sum≠0
theorem ET {l:List Entry} (h:∀ q x y,l[q]?=some x->l[q+1]?=some y->x.aO < y.aO):Up l:=by
 unfold Up
 induction l with
 |nil=>exact List.Pairwise.nil
 |cons x l ih=>
  have h2:=ih fun q a b ha hb=>h (q+1) a b (by simpa using ha) (by simpa using hb)
  refine List.pairwise_cons.2 ⟨fun y hy=>?_,h2⟩
  cases l with
  |nil=>cases hy
  |cons z l=>
   have hz:=h 0 x z (by simp) (by simp)
   rcases List.mem_cons.1 hy with rfl|hy
   ·exact hz
   ·have:=(List.pairwise_cons.1 h2).1 y hy;omega
theorem yC {l:List Entry} (h:Up l) {i j:Nat} {x y:Entry} (hij:i < j) (hx:l[i]?=some x) (hy:l[j]?=some y):x.aO < y.aO:=by
 obtain ⟨hi,rfl⟩:=List.getElem?_eq_some_iff.1 hx
 obtain ⟨hj,rfl⟩:=List.getElem?_eq_some_iff.1 hy
 exact List.pairwise_iff_getElem.1 h i j hi hj hij
theorem yO {l:List Entry}:(scan (kG l) 0 l.length).1=0↔jf l:=by
 rw [mP]
 constructor
 ·intro h
  have at':∀ q x,l[q]?=some x->¬eP x/\¬((0 < q/\iu l q>=x.aO)\/x.sum=0):=fun q x hx=>by
   have hq:=(List.getElem?_eq_some_iff.1 hx).1
   have h1:=h q (Nat.zero_le _) (by omega)
   rw [gU hx] at h1
   split at h1
   ·cases h1
   ·split at h1
    ·cases h1
    ·exact ⟨by assumption,by assumption⟩
  refine ⟨ET fun q x y hx hy=>?_,fun x hx=>?_⟩
  ·have h1:=(at' (q+1) y hy).2
   rw [jD hx] at h1
   omega
  ·obtain ⟨q,hq⟩:=List.getElem?_of_mem hx
   have h1:=at' q x hq
   unfold eP at h1
   omega
 ·intro h q _ hq
  obtain ⟨x,hx⟩:∃ x,l[q]?=some x:=⟨_,List.getElem?_eq_getElem (by omega)⟩
  have h1:=h.ok x (List.mem_of_getElem? hx)
  rw [gU hx,if_neg (by unfold eP;omega),if_neg]
  rintro (⟨h2,h3⟩|h2)
  ·obtain ⟨y,hy⟩:∃ y,l[q - 1]?=some y:=⟨_,List.getElem?_eq_getElem (by omega)⟩
   rw [kv h2 hy] at h3
   have:=yC h.up (by omega:q - 1 < q) hy hx
   omega
  ·exact h1.2.2.2.2 h2
theorem kM {l:List Entry}:(dC l).err=0↔jf l/\ei l=0:=by
 unfold dC
 rw [<-yO]
 split
 ·rename_i h;constructor
  ·intro h1;exact absurd h1 h
  ·intro h1;exact absurd h1.1 h
 ·rename_i h
  split
  ·rename_i h2;constructor
   ·intro h1;cases h1
   ·intro h1;exact absurd h1.2 h2
  ·rename_i h2;constructor
   ·intro _;exact ⟨by omega,by omega⟩
   ·intro _;rfl
theorem sI {l:List Entry} (h:jf l):l.length<=58:=by
 have key:∀ (q:Nat) (x:Entry),l[q]?=some x->(q:Int)<=x.aO:=by
  intro q
  induction q with
  |zero=>intro x hx;have:=h.ok x (List.mem_of_getElem? hx);omega
  |succ q ih=>
   intro x hx
   have hq:=(List.getElem?_eq_some_iff.1 hx).1
   obtain ⟨y,hy⟩:∃ y,l[q]?=some y:=⟨_,List.getElem?_eq_getElem (by omega)⟩
   have h1:=ih y hy
   have h2:=yC h.up (by omega:q < q+1) hy hx
   omega
 by_cases hl:l.length=0
 ·omega
 ·obtain ⟨x,hx⟩:∃ x,l[l.length - 1]?=some x:=⟨_,List.getElem?_eq_getElem (by omega)⟩
  have h1:=key _ x hx
  have h2:=h.ok x (List.mem_of_getElem? hx)
  omega
theorem lE {x:Entry} {l:List Entry} {a s:Int} (h:x.aO < a):gD (x::l) a s=x::gD l a s:=by
 unfold gD
 rw [ov h,show dV (x::l) a=dV l a+1 by simp [dV,h]]
 cases fv l a<;>simp
theorem lD {x:Entry} {l:List Entry} {a s:Int} (h:x.aO=a):gD (x::l) a s=(if s=0 then [] else [⟨a,s⟩])++l:=by
 unfold gD
 rw [lK (by omega),show dV (x::l) a=0 by simp [dV];omega]
 simp [h]
theorem mM {x:Entry} {l:List Entry} {a s:Int} (h:a < x.aO):gD (x::l) a s=(if s=0 then [] else [⟨a,s⟩])++x::l:=by
 unfold gD
 rw [lK (by omega),show dV (x::l) a=0 by simp [dV];omega]
 have:¬x.aO=a:=by omega
 simp [this]
theorem mL (a s:Int):gD [] a s=if s=0 then [] else [⟨a,s⟩]:=by simp [gD,dV,fv]
theorem pT {a s:Int}:∀ {l:List Entry} {x:Entry},x∈gD l a s->x∈l\/(x=⟨a,s⟩/\s≠0)
 |[],x,h=>by
  rw [mL] at h
  split at h
  ·cases h
  ·rename_i h0;exact .inr ⟨by simpa using h,h0⟩
 |y::l,x,h=>by
  have one:x∈(if s=0 then [] else [(⟨a,s⟩:Entry)])->x=⟨a,s⟩/\s≠0:=fun h=>by
   split at h
   ·cases h
   ·rename_i h0;exact ⟨by simpa using h,h0⟩
  rcases Int.lt_trichotomy y.aO a with h1|h1|h1
  ·rw [lE h1] at h
   rcases List.mem_cons.1 h with rfl|h
   ·exact .inl List.mem_cons_self
   ·rcases pT h with h|h
    ·exact .inl (List.mem_cons_of_mem _ h)
    ·exact .inr h
  ·rw [lD h1] at h
   rcases List.mem_append.1 h with h|h
   ·exact .inr (one h)
   ·exact .inl (List.mem_cons_of_mem _ h)
  ·rw [mM h1] at h
   rcases List.mem_append.1 h with h|h
   ·exact .inr (one h)
   ·exact .inl h
theorem kV {x:Entry} {l:List Entry}:Up (x::l)↔(∀ y∈l,x.aO < y.aO)/\Up l:=List.pairwise_cons
theorem rJ {a s:Int}:∀ {l:List Entry},Up l->Up (gD l a s)
 |[],_=>by rw [mL];split;exact List.Pairwise.nil;exact List.pairwise_singleton _ _
 |y::l,h=>by
  obtain ⟨h1,h2⟩:=kV.1 h
  rcases Int.lt_trichotomy y.aO a with h3|h3|h3
  ·rw [lE h3]
   refine kV.2 ⟨fun z hz=>?_,rJ h2⟩
   rcases pT hz with hz|⟨rfl,_⟩
   ·exact h1 z hz
   ·exact h3
  ·rw [lD h3]
   split
   ·exact h2
   ·exact kV.2 ⟨fun z hz=>by have:=h1 z hz;show a < z.aO;omega,h2⟩
  ·rw [mM h3]
   split
   ·exact h
   ·exact kV.2 ⟨fun z hz=>by
     show a < z.aO
     rcases List.mem_cons.1 hz with rfl|hz
     ·exact h3
     ·have:=h1 z hz;omega,h⟩
theorem qd (a s b:Int) (l:List Entry):cA ((if s=0 then [] else [⟨a,s⟩])++l) b=if s≠0/\a=b then s else cA l b:=by
 by_cases h:s=0
 ·simp [h]
 ·simp [h,cA]
theorem qc {a s b:Int}:∀ {l:List Entry},Up l->cA (gD l a s) b=if a=b then s else cA l b
 |[],_=>by
  have:=qd a s b []
  rw [List.append_nil] at this
  rw [mL,this]
  by_cases h:s=0
  ·subst h;simp [cA]
  ·simp [h]
 |y::l,h=>by
  obtain ⟨h1,h2⟩:=kV.1 h
  rcases Int.lt_trichotomy y.aO a with h3|h3|h3
  ·rw [lE h3]
   unfold cA
   rw [qc h2]
   by_cases h4:y.aO=b
   ·rw [if_pos h4,if_pos h4,if_neg (by omega)]
   ·rw [if_neg h4,if_neg h4]
  ·rw [lD h3,qd]
   by_cases h4:a=b
   ·subst h4
    by_cases h5:s=0
    ·subst h5;simp;exact ja fun z hz=>by have:=h1 z hz;omega
    ·simp [h5]
   ·rw [if_neg (fun h=>h4 h.2),if_neg h4]
    conv=>rhs;unfold cA
    rw [if_neg (by omega)]
  ·rw [mM h3,qd]
   by_cases h4:a=b
   ·subst h4
    by_cases h5:s=0
    ·subst h5;simp;exact ja fun z hz=>by
      rcases List.mem_cons.1 hz with rfl|hz
      ·exact h3
      ·have:=h1 z hz;omega
    ·simp [h5]
   ·rw [if_neg (fun h=>h4 h.2),if_neg h4]
theorem ug {a s:Int}:∀ {l:List Entry},Up l->ei (gD l a s)=ei l - cA l a+s
 |[],_=>by
  rw [mL]
  by_cases h:s=0
  ·subst h;simp [ei,cA]
  ·simp [h,ei,cA]
 |y::l,h=>by
  obtain ⟨h1,h2⟩:=kV.1 h
  have one:ei (if s=0 then [] else [(⟨a,s⟩:Entry)])=s:=by split<;>simp_all [ei]
  rcases Int.lt_trichotomy y.aO a with h3|h3|h3
  ·rw [lE h3]
   unfold ei cA
   rw [ug h2,if_neg (by omega)];omega
  ·rw [lD h3,lX,one]
   conv=>rhs;unfold ei cA
   rw [if_pos h3];omega
  ·rw [mM h3,lX,one,ja fun z hz=>by
    rcases List.mem_cons.1 hz with rfl|hz
    ·exact h3
    ·have:=h1 z hz;omega]
   omega
theorem qF {l:List Entry} {a s:Int} (h:jf l) (ha:0<=a/\a<=57) (hs:-1000000000000<=s/\s<=1000000000000):jf (gD l a s):=
 ⟨rJ h.up,fun x hx=>by
  rcases pT hx with hx|⟨rfl,h0⟩
  ·exact h.ok x hx
  ·exact ⟨ha.1,ha.2,hs.1,hs.2,h0⟩⟩
def eX:List Entry->List Entry->Option (List Entry)
 |l,[]=>some l
 |l,e::es=>if hO (cA l e.aO+e.sum)=true then eX (gD l e.aO (cA l e.aO+e.sum)) es else none
def fU (l es:List Entry):List Entry×Int:=
 if (dC l).err≠0 then ([],(dC l).err)
 else if es.length > 10 then ([],5)
 else if ∃ x∈es,eP x then ([],3)
 else if ei es≠0 then ([],8)
 else match eX l es with
  |some r=>(r,0)
  |none=>([],4)
theorem lL {s:Int}:hO s=true↔-1000000000000<=s/\s<=1000000000000:=by
 unfold hO;simp only [Bool.and_eq_true,decide_eq_true_eq,ge_iff_le]
theorem pv {l es:List Entry} {q:Nat} {e:Entry} (h:es[q]?=some e):eX l (es.drop q)=if hO (cA l e.aO+e.sum)=true then eX (gD l e.aO (cA l e.aO+e.sum)) (es.drop (q+1)) else none:=by
 obtain ⟨hq,rfl⟩:=List.getElem?_eq_some_iff.1 h
 rw [List.drop_eq_getElem_cons hq];rfl
theorem oa:∀ {es l r:List Entry},jf l->(∀ x∈es,¬eP x)->eX l es=some r->jf r/\ei r=ei l+ei es
 |[],l,r,h,_,hp=>by
  have:l=r:=by simpa [eX] using hp
  subst this;exact ⟨h,by simp [ei]⟩
 |e::es,l,r,h,hb,hp=>by
  unfold eX at hp
  split at hp
  ·rename_i hg
   have hg:=lL.1 hg
   have h1:=hb e List.mem_cons_self
   unfold eP at h1
   obtain ⟨h2,h3⟩:=oa (qF h (by omega) hg) (fun x hx=>hb x (List.mem_cons_of_mem _ hx)) hp
   refine ⟨h2,?_⟩
   rw [h3,ug h.up,yJ]
   omega
  ·cases hp
def lj (a:Int):List Entry->Int
 |[]=>0
 |e::es=>(if e.aO=a then e.sum else 0)+lj a es
theorem wa (a:Int) (e:Entry) (es:List Entry):lj a (e::es)=(if e.aO=a then e.sum else 0)+lj a es:=rfl
theorem qN {a:Int}:∀ {es l r:List Entry},Up l->eX l es=some r->cA r a=cA l a+lj a es
 |[],l,r,h,hp=>by
  have:l=r:=by simpa [eX] using hp
  subst this;simp [lj]
 |e::es,l,r,h,hp=>by
  unfold eX at hp
  split at hp
  ·rw [qN (rJ h) hp,qc h,wa]
   by_cases hc:e.aO=a
   ·subst hc;simp;omega
   ·simp [hc]
  ·cases hp
section
section
variable {P:Program} {st:aE} {o:Oper}
end
end


theorem pF (l:List Int) (hl:l.length * 8<=140737488355328):Fn Try.prog 95 [(.c (fG l))] (aC (.s 0 0 1 l.length)) [(0,.arr 3 1 (l.map rI))]:=by
 refine Fn.mk' 8 [(0,(aC (fG l)))] Try.func95 rfl rfl rfl rfl ?_
 intro W0 T0
 refine dz 0 rfl (fun hlen0=>?_)
 refine ad aa 1 rfl ?_
 refine af ?_
 refine aA aa 1 rfl ?_
 refine hY (aj.plain rfl) rfl rfl Try.underlying30 rfl rfl (fun bn1 hbn1=>?_)
 refine ae ?_
 refine ag rfl (fun hc2=>?_) (fun hc2=>?_)
 ·
  have hc2':=hc2;try simp only [bj,bL] at hc2'
  refine ad aa 1 rfl ?_
  refine ar ?_
  refine ao ?_
  refine cQ (aD.nil 2 3 1 (by decide) rfl) ?_
  refine ah aa [0] 1 rfl rfl rfl rfl rfl rfl ?_ ?_
  ·(have h0:=hbn1 (by assumption);have h1:l=[]:=by (cases l with|nil=>rfl|cons=>simp at h0));subst h1;rfl
  ·(have h0:=hbn1 (by assumption);have h1:l=[]:=by (cases l with|nil=>rfl|cons=>simp at h0));subst h1;rfl
 have hc2':=hc2;try simp only [bj,bL] at hc2'
 refine aN ?_
 refine eC ?_
 refine aL 1 [0] (dA (ys:=[]) (rows:=(([]:List Int)).map rI) 0 lZ rfl (by decide) trivial rfl rfl rfl rfl) rfl ?_
 refine ab aa 1 rfl ?_
 refine aL 2 [1] (de (m:=l.length) (N:=l.length) (k2:=1) (ys:=(l).map rI) lZ rfl rfl rfl rfl rfl rfl (by first|omega|(simp;omega)|(simp;done)) rfl (.d _ _) (by first|omega|(simp;omega)|(simp;done)) (by first|omega|(simp;omega)|(simp;done)) rfl (by decide) (by first|omega|(simp;omega)|(simp;done)) (by first|omega|(simp;omega)|(simp;done))) rfl ?_
 refine ab aa 1 rfl ?_
 refine ae ?_
 refine ar ?_
 refine ah aa [1] 1 rfl rfl rfl rfl rfl rfl ?_ ?_
 ·first|rfl|simp [fI,aC]
 ·first|rfl|simp
theorem mD (l:List ca) (hl:l.length * 32<=140737488355328):Fn Try.prog 99 [(.c (gM l))] (aC (.s 0 0 4 l.length)) [(0,.arr 107 4 (l.map ic))]:=by
 refine Fn.mk' 8 [(0,(aC (gM l)))] Try.func99 rfl rfl rfl rfl ?_
 intro W0 T0
 refine dz 0 rfl (fun hlen0=>?_)
 refine ad aa 1 rfl ?_
 refine af ?_
 refine aA aa 1 rfl ?_
 refine hY (aj.plain rfl) rfl rfl Try.underlying39 rfl rfl (fun bn1 hbn1=>?_)
 refine ae ?_
 refine ag rfl (fun hc2=>?_) (fun hc2=>?_)
 ·
  have hc2':=hc2;try simp only [bj,bL] at hc2'
  refine ad aa 1 rfl ?_
  refine ar ?_
  refine ao ?_
  refine cQ (aD.nil 2 107 4 (by decide) rfl) ?_
  refine ah aa [0] 1 rfl rfl rfl rfl rfl rfl ?_ ?_
  ·(have h0:=hbn1 (by assumption);have h1:l=[]:=by (cases l with|nil=>rfl|cons=>simp at h0));subst h1;rfl
  ·(have h0:=hbn1 (by assumption);have h1:l=[]:=by (cases l with|nil=>rfl|cons=>simp at h0));subst h1;rfl
 have hc2':=hc2;try simp only [bj,bL] at hc2'
 refine aN ?_
 refine eC ?_
 refine aL 1 [0] (dA (ys:=[]) (rows:=(([]:List ca)).map ic) 0 xB rfl (by decide) trivial rfl rfl rfl rfl) rfl ?_
 refine ab aa 1 rfl ?_
 refine aL 2 [1] (de (m:=l.length) (N:=l.length) (k2:=1) (ys:=(l).map ic) xB rfl rfl rfl rfl rfl rfl (by first|omega|(simp;omega)|(simp;done)) rfl (.d _ _) (by first|omega|(simp;omega)|(simp;done)) (by first|omega|(simp;omega)|(simp;done)) rfl (by decide) (by first|omega|(simp;omega)|(simp;done)) (by first|omega|(simp;omega)|(simp;done))) rfl ?_
 refine ab aa 1 rfl ?_
 refine ae ?_
 refine ar ?_
 refine ah aa [1] 1 rfl rfl rfl rfl rfl rfl ?_ ?_
 ·first|rfl|simp [fI,aC]
 ·first|rfl|simp
theorem pG (l:List cT) (hl:l.length * 16<=140737488355328):Fn Try.prog 114 [(.c (fm l))] (aC (.s 0 0 2 l.length)) [(0,.arr 125 2 (l.map gN))]:=by
 refine Fn.mk' 8 [(0,(aC (fm l)))] Try.func114 rfl rfl rfl rfl ?_
 intro W0 T0
 refine dz 0 rfl (fun hlen0=>?_)
 refine ad aa 1 rfl ?_
 refine af ?_
 refine aA aa 1 rfl ?_
 refine hY (aj.plain rfl) rfl rfl Try.underlying59 rfl rfl (fun bn1 hbn1=>?_)
 refine ae ?_
 refine ag rfl (fun hc2=>?_) (fun hc2=>?_)
 ·
  have hc2':=hc2;try simp only [bj,bL] at hc2'
  refine ad aa 1 rfl ?_
  refine ar ?_
  refine ao ?_
  refine cQ (aD.nil 2 125 2 (by decide) rfl) ?_
  refine ah aa [0] 1 rfl rfl rfl rfl rfl rfl ?_ ?_
  ·(have h0:=hbn1 (by assumption);have h1:l=[]:=by (cases l with|nil=>rfl|cons=>simp at h0));subst h1;rfl
  ·(have h0:=hbn1 (by assumption);have h1:l=[]:=by (cases l with|nil=>rfl|cons=>simp at h0));subst h1;rfl
 have hc2':=hc2;try simp only [bj,bL] at hc2'
 refine aN ?_
 refine eC ?_
 refine aL 1 [0] (dA (ys:=[]) (rows:=(([]:List cT)).map gN) 0 nP rfl (by decide) trivial rfl rfl rfl rfl) rfl ?_
 refine ab aa 1 rfl ?_
 refine aL 2 [1] (de (m:=l.length) (N:=l.length) (k2:=1) (ys:=(l).map gN) nP rfl rfl rfl rfl rfl rfl (by first|omega|(simp;omega)|(simp;done)) rfl (.d _ _) (by first|omega|(simp;omega)|(simp;done)) (by first|omega|(simp;omega)|(simp;done)) rfl (by decide) (by first|omega|(simp;omega)|(simp;done)) (by first|omega|(simp;omega)|(simp;done))) rfl ?_
 refine ab aa 1 rfl ?_
 refine ae ?_
 refine ar ?_
 refine ah aa [1] 1 rfl rfl rfl rfl rfl rfl ?_ ?_
 ·first|rfl|simp [fI,aC]
 ·first|rfl|simp
theorem lq (l:List aV) (hl:l.length * 32<=140737488355328):Fn Try.prog 106 [(.c (db l))] (aC (.s 0 0 4 l.length)) [(0,.arr 80 4 (l.map ft))]:=by
 refine Fn.mk' 8 [(0,(aC (db l)))] Try.func106 rfl rfl rfl rfl ?_
 intro W0 T0
 refine dz 0 rfl (fun hlen0=>?_)
 refine ad aa 1 rfl ?_
 refine af ?_
 refine aA aa 1 rfl ?_
 refine hY (aj.plain rfl) rfl rfl Try.underlying32 rfl rfl (fun bn1 hbn1=>?_)
 refine ae ?_
 refine ag rfl (fun hc2=>?_) (fun hc2=>?_)
 ·
  have hc2':=hc2;try simp only [bj,bL] at hc2'
  refine ad aa 1 rfl ?_
  refine ar ?_
  refine ao ?_
  refine cQ (aD.nil 2 80 4 (by decide) rfl) ?_
  refine ah aa [0] 1 rfl rfl rfl rfl rfl rfl ?_ ?_
  ·(have h0:=hbn1 (by assumption);have h1:l=[]:=by (cases l with|nil=>rfl|cons=>simp at h0));subst h1;rfl
  ·(have h0:=hbn1 (by assumption);have h1:l=[]:=by (cases l with|nil=>rfl|cons=>simp at h0));subst h1;rfl
 have hc2':=hc2;try simp only [bj,bL] at hc2'
 refine aN ?_
 refine eC ?_
 refine aL 1 [0] (dA (ys:=[]) (rows:=(([]:List aV)).map ft) 0 um rfl (by decide) trivial rfl rfl rfl rfl) rfl ?_
 refine ab aa 1 rfl ?_
 refine aL 2 [1] (de (m:=l.length) (N:=l.length) (k2:=1) (ys:=(l).map ft) um rfl rfl rfl rfl rfl rfl (by first|omega|(simp;omega)|(simp;done)) rfl (.d _ _) (by first|omega|(simp;omega)|(simp;done)) (by first|omega|(simp;omega)|(simp;done)) rfl (by decide) (by first|omega|(simp;omega)|(simp;done)) (by first|omega|(simp;omega)|(simp;done))) rfl ?_
 refine ab aa 1 rfl ?_
 refine ae ?_
 refine ar ?_
 refine ah aa [1] 1 rfl rfl rfl rfl rfl rfl ?_ ?_
 ·first|rfl|simp [fI,aC]
 ·first|rfl|simp
theorem tN (l:List Entry) (hl:l.length * 16<=140737488355328):Fn Try.prog 115 [(.c (dJ l))] (aC (.s 0 0 2 l.length)) [(0,.arr 115 2 (l.map ey))]:=by
 refine Fn.mk' 8 [(0,(aC (dJ l)))] Try.func115 rfl rfl rfl rfl ?_
 intro W0 T0
 refine dz 0 rfl (fun hlen0=>?_)
 refine ad aa 1 rfl ?_
 refine af ?_
 refine aA aa 1 rfl ?_
 refine hY (aj.plain rfl) rfl rfl Try.underlying44 rfl rfl (fun bn1 hbn1=>?_)
 refine ae ?_
 refine ag rfl (fun hc2=>?_) (fun hc2=>?_)
 ·
  have hc2':=hc2;try simp only [bj,bL] at hc2'
  refine ad aa 1 rfl ?_
  refine ar ?_
  refine ao ?_
  refine cQ (aD.nil 2 115 2 (by decide) rfl) ?_
  refine ah aa [0] 1 rfl rfl rfl rfl rfl rfl ?_ ?_
  ·(have h0:=hbn1 (by assumption);have h1:l=[]:=by (cases l with|nil=>rfl|cons=>simp at h0));subst h1;rfl
  ·(have h0:=hbn1 (by assumption);have h1:l=[]:=by (cases l with|nil=>rfl|cons=>simp at h0));subst h1;rfl
 have hc2':=hc2;try simp only [bj,bL] at hc2'
 refine aN ?_
 refine eC ?_
 refine aL 1 [0] (dA (ys:=[]) (rows:=(([]:List Entry)).map ey) 0 jN rfl (by decide) trivial rfl rfl rfl rfl) rfl ?_
 refine ab aa 1 rfl ?_
 refine aL 2 [1] (de (m:=l.length) (N:=l.length) (k2:=1) (ys:=(l).map ey) jN rfl rfl rfl rfl rfl rfl (by first|omega|(simp;omega)|(simp;done)) rfl (.d _ _) (by first|omega|(simp;omega)|(simp;done)) (by first|omega|(simp;omega)|(simp;done)) rfl (by decide) (by first|omega|(simp;omega)|(simp;done)) (by first|omega|(simp;omega)|(simp;done))) rfl ?_
 refine ab aa 1 rfl ?_
 refine ae ?_
 refine ar ?_
 refine ah aa [1] 1 rfl rfl rfl rfl rfl rfl ?_ ?_
 ·first|rfl|simp [fI,aC]
 ·first|rfl|simp
theorem mB (l:List al) (hl:l.length * 32<=140737488355328):Fn Try.prog 54 [(.c (iV l))] (aC (.s 0 0 4 l.length)) [(0,.arr 83 4 (l.map gO))]:=by
 refine Fn.mk' 8 [(0,(aC (iV l)))] Try.func54 rfl rfl rfl rfl ?_
 intro W0 T0
 refine dz 0 rfl (fun hlen0=>?_)
 refine ad aa 1 rfl ?_
 refine af ?_
 refine aA aa 1 rfl ?_
 refine hY (aj.plain rfl) rfl rfl Try.underlying42 rfl rfl (fun bn1 hbn1=>?_)
 refine ae ?_
 refine ag rfl (fun hc2=>?_) (fun hc2=>?_)
 ·
  have hc2':=hc2;try simp only [bj,bL] at hc2'
  refine ad aa 1 rfl ?_
  refine ar ?_
  refine ao ?_
  refine cQ (aD.nil 2 83 4 (by decide) rfl) ?_
  refine ah aa [0] 1 rfl rfl rfl rfl rfl rfl ?_ ?_
  ·(have h0:=hbn1 (by assumption);have h1:l=[]:=by (cases l with|nil=>rfl|cons=>simp at h0));subst h1;rfl
  ·(have h0:=hbn1 (by assumption);have h1:l=[]:=by (cases l with|nil=>rfl|cons=>simp at h0));subst h1;rfl
 have hc2':=hc2;try simp only [bj,bL] at hc2'
 refine aN ?_
 refine eC ?_
 refine aL 1 [0] (dA (ys:=[]) (rows:=(([]:List al)).map gO) 0 xA rfl (by decide) trivial rfl rfl rfl rfl) rfl ?_
 refine ab aa 1 rfl ?_
 refine aL 2 [1] (de (m:=l.length) (N:=l.length) (k2:=1) (ys:=(l).map gO) xA rfl rfl rfl rfl rfl rfl (by first|omega|(simp;omega)|(simp;done)) rfl (.d _ _) (by first|omega|(simp;omega)|(simp;done)) (by first|omega|(simp;omega)|(simp;done)) rfl (by decide) (by first|omega|(simp;omega)|(simp;done)) (by first|omega|(simp;omega)|(simp;done))) rfl ?_
 refine ab aa 1 rfl ?_
 refine ae ?_
 refine ar ?_
 refine ah aa [1] 1 rfl rfl rfl rfl rfl rfl ?_ ?_
 ·first|rfl|simp [fI,aC]
 ·first|rfl|simp


theorem vz (l:List Entry) (f:cV) (hr:dC l=f):Fn Try.prog 33 [(.c (dJ l))] (.v (.g [(cI f.err),(cI f.at_)])) []:=by
 refine Fn.mk' 64 [(0,(aC (dJ l)))] Try.func33 rfl rfl rfl rfl ?_
 intro W0 T0
 refine dz 0 rfl (fun hlen0=>?_)
 refine ad aa 1 rfl ?_
 refine ad aa 1 rfl ?_
 refine af ?_
 refine aA aa 1 rfl ?_
 refine ax (cM rfl rfl rfl rfl rfl Try.underlying44) rfl ?_
 refine ab aa 1 rfl ?_
 refine ae ?_
 refine aU ?_
 refine ct (β:=Nat) (fun (q:Nat)=>⟨[(0,(aC (dJ l))),(2,(aC (.p 0 0 0 0))),(3,(aI (ei (l.take q)))),(6,(aC (dJ l))),(7,(aI (↑l.length:Int))),(8,(aI (↑q:Int)))],[(0,(.box 50 [(cI 0),(cI 0)]))],1⟩) (fun (q:Nat)=>q<=l.length/\scan (kG l) 0 l.length=scan (kG l) q (l.length - q)/\(q:Int) - 1<=iu l q/\iu l q<=57/\-1000000000000 * (q:Int)<=ei (l.take q)/\ei (l.take q)<=1000000000000 * (q:Int)) (fun (q:Nat)=>l.length - q) 0 ?_ ?_ ?_
 ·(have h1:iu l 0=-1:=rfl);(have h2:ei (l.take 0)=0:=rfl);exact ⟨by omega,rfl,by omega,by omega⟩
 ·exact aD.bW id (by refine ⟨?_,?_,?_,?_,?_,?_,trivial⟩<;>first|rfl|(simp only [bm];done)|(congr 3;omega)|(congr 4;omega)|(simp only [bn];rfl)) (⟨by first|rfl|(simp only [bm];done)|(congr 3;omega)|(congr 4;omega)|(simp only [bn];rfl),trivial⟩) rfl
 rintro q ⟨hi0_0,hi0_1,hi0_2,hi0_3⟩
 refine ad aa 1 rfl ?_
 refine af ?_
 refine ag rfl (fun hc1=>?_) (fun hc1=>?_)
 ·
  have hc1':=of_decide_eq_true hc1
  refine aN ?_
  refine af ?_
  refine aU ?_
  refine aA aa 1 rfl ?_
  obtain ⟨x1,hx1⟩:=ck (xs:=l) (i:=q) (by first|omega|(simp;done)|(simp;omega))
  refine ax (cP (i:=q) rfl rfl rfl Try.underlying44 dX (by first|omega|(simp;done)|(simp;omega)) (bu hx1)) rfl ?_
  refine ab aa 4 rfl ?_
  refine ae ?_
  refine af ?_
  refine aU ?_
  refine cp 13 ((((decide (x1.aO < 0))||(decide (x1.aO>=58)))||(decide (x1.sum < (-1000000000000))))||(decide (x1.sum > 1000000000000))) ?_ ?_
  ·
   refine aw ?_
   refine ab aa 4 rfl ?_
   refine bz (t:=17) rfl (fun hb2=>?_) (fun hb2=>?_)
   ·
    have hb2':=of_decide_eq_true hb2
    refine ab aa 15 rfl ?_
    refine ae ?_
    exact aD.bD 20 rfl rfl (by first|(simp [hb2];done)|(simp_all;done)|(exfalso;simp_all;done)|(simp_all;omega)) rfl
   have hb2':=of_decide_eq_false hb2
   refine ab aa 5 rfl ?_
   refine bz (t:=22) rfl (fun hb3=>?_) (fun hb3=>?_)
   ·
    have hb3':=of_decide_eq_true hb3
    refine ab aa 10 rfl ?_
    refine ae ?_
    exact aD.bD 21 rfl rfl (by first|(simp [hb2,hb3];done)|(simp_all;done)|(exfalso;simp_all;done)|(simp_all;omega)) rfl
   have hb3':=of_decide_eq_false hb3
   refine ab aa 5 rfl ?_
   refine bz (t:=27) rfl (fun hb4=>?_) (fun hb4=>?_)
   ·
    have hb4':=of_decide_eq_true hb4
    refine ab aa 5 rfl ?_
    refine ae ?_
    exact aD.bD 22 rfl rfl (by first|(simp [hb2,hb3,hb4];done)|(simp_all;done)|(exfalso;simp_all;done)|(simp_all;omega)) rfl
   have hb4':=of_decide_eq_false hb4
   refine ab aa 5 rfl ?_
   refine ae ?_
   exact aD.bD 22 rfl rfl (by first|(simp [hb2,hb3,hb4];done)|(simp_all;done)|(exfalso;simp_all;done)|(simp_all;omega)) rfl
  refine ag rfl (fun hc5=>?_) (fun hc5=>?_)
  ·
   have hc5':=hc5;try simp only [bj,bL] at hc5'
   refine ad aa 3 rfl ?_
   refine ar ?_
   refine bf ?_
   refine ao ?_
   refine bf ?_
   refine ao ?_
   refine ao ?_
   refine bf ?_
   refine ao ?_
   have hX:dC l=(⟨3,(↑q:Int)⟩:cV):=by
     (have hb:eP x1:=by unfold eP;omega);(have h0:=gY (e:=kG l) (q:=q) (n:=l.length) (by omega) (by rw [gU hx1,if_pos hb]) (by decide:(3:Int)≠0));(unfold dC;rw [hi0_1,h0];rfl)
   rw [hX] at hr;clear hX
   subst hr
   refine ah aa [0] 0 rfl rfl rfl rfl rfl rfl ?_ ?_
   all_goals first|rfl|(simp [au];done)|(simp [au];omega)
  have hc5':=hc5;try simp only [bj,bL] at hc5'
  refine af ?_
  rcases Bool.eq_false_or_eq_true (decide ((↑q:Int) > 0)) with hb6|hb6
  ·
   have hb6':=of_decide_eq_true hb6
   obtain ⟨x2,hx2⟩:=ck (xs:=l) (i:=(q) - 1) (by first|omega|(simp;done)|(simp;omega))
   rcases Bool.eq_false_or_eq_true (decide (x2.aO>=x1.aO)) with hb7|hb7
   ·
    have hb7':=of_decide_eq_true hb7
    refine bb [0,2,3,6,7,8,5,4] [1,0] mixed rfl rfl ?_
    refine az (kn:=[(36,true)]) aa 5 rfl ⟨hb6,trivial⟩ ?_
    refine aT (n':=2) [39,37] [] rfl rfl (.inl ⟨(aj.yes rfl rfl rfl),aH.cast (aJ rfl rfl rfl (aF (by first|omega|(simp;done)|(simp;omega)))) rfl⟩) rfl ?_
    refine aT (n':=2) [38,40,37] [] rfl rfl (.inl ⟨(aj.yes rfl rfl rfl),aH.cast (cP (i:=(q) - 1) rfl rfl rfl Try.underlying44 dX (by first|omega|(simp;done)|(simp;omega)) (bu hx2)) rfl⟩) rfl ?_
    refine az (kn:=[(46,true)]) aa 12 rfl ⟨hb7,trivial⟩ ?_
    refine bA [1,0] rfl rfl rfl rfl (by kernel_rfl) ?_
    refine ae ?_
    refine ag rfl (fun _=>?_) (fun hno=>by cases hno)
    refine ad aa 3 rfl ?_
    refine ar ?_
    refine bf ?_
    refine ao ?_
    refine bf ?_
    refine ao ?_
    refine ao ?_
    refine bf ?_
    refine ao ?_
    have hX:dC l=(⟨2,(↑q:Int)⟩:cV):=by
      (have hb:¬eP x1:=by unfold eP;omega);(have hla:=kv (by omega) hx2);(have h0:=gY (e:=kG l) (q:=q) (n:=l.length) (by omega) (by rw [gU hx1,if_neg hb,if_pos (by omega)]) (by decide:(2:Int)≠0));(unfold dC;rw [hi0_1,h0];rfl)
    rw [hX] at hr;clear hX
    subst hr
    refine ah aa [0] 0 rfl rfl rfl rfl rfl rfl ?_ ?_
    all_goals first|rfl|(simp [au];done)|(simp [au];omega)
   have hb7':=of_decide_eq_false hb7
   refine bb [0,2,3,6,7,8,5,4] [1,0] mixed rfl rfl ?_
   refine az (kn:=[(36,true)]) aa 5 rfl ⟨hb6,trivial⟩ ?_
   refine aT (n':=2) [39,37] [] rfl rfl (.inl ⟨(aj.yes rfl rfl rfl),aH.cast (aJ rfl rfl rfl (aF (by first|omega|(simp;done)|(simp;omega)))) rfl⟩) rfl ?_
   refine aT (n':=2) [38,40,37] [] rfl rfl (.inl ⟨(aj.yes rfl rfl rfl),aH.cast (cP (i:=(q) - 1) rfl rfl rfl Try.underlying44 dX (by first|omega|(simp;done)|(simp;omega)) (bu hx2)) rfl⟩) rfl ?_
   refine az (kn:=[(46,false)]) aa 12 rfl ⟨hb7,trivial⟩ ?_
   refine bA [1,0] rfl rfl rfl rfl (by kernel_rfl) ?_
   refine ae ?_
   refine ag rfl (fun hc9=>?_) (fun hc9=>?_)
   ·
    have hc9':=of_decide_eq_true hc9
    refine ad aa 3 rfl ?_
    refine ar ?_
    refine bf ?_
    refine ao ?_
    refine bf ?_
    refine ao ?_
    refine ao ?_
    refine bf ?_
    refine ao ?_
    have hX:dC l=(⟨2,(↑q:Int)⟩:cV):=by
      (have hb:¬eP x1:=by unfold eP;omega);(have hla:=kv (by omega) hx2);(have h0:=gY (e:=kG l) (q:=q) (n:=l.length) (by omega) (by rw [gU hx1,if_neg hb,if_pos (by omega)]) (by decide:(2:Int)≠0));(unfold dC;rw [hi0_1,h0];rfl)
    rw [hX] at hr;clear hX
    subst hr
    refine ah aa [0] 0 rfl rfl rfl rfl rfl rfl ?_ ?_
    all_goals first|rfl|(simp [au];done)|(simp [au];omega)
   have hc9':=of_decide_eq_false hc9
   refine cU ?_
   refine bl ?_
   refine then_ok ?_
   refine aw ?_
   refine ab aa 3 rfl ?_
   refine ax (aJ rfl rfl rfl (aF (by first|omega|(simp;done)|(simp;omega)))) rfl ?_
   refine ab aa 1 rfl ?_
   refine bY ?_
   refine bl ?_
   refine then_ok ?_
   refine aw ?_
   refine ax (aJ rfl rfl rfl (aF (by first|omega|(simp;done)|(simp;omega)))) rfl ?_
   refine ab aa 1 rfl ?_
   refine ae ?_
   refine ⟨q+1,⟨by omega,by rw [hi0_1];exact mq (by omega) (by have hla:=kv (by omega) hx2;rw [gU hx1,if_neg (by unfold eP;omega),if_neg (by omega)]),by rw [jD hx1];have hla:=kv (by omega) hx2;omega,by rw [jD hx1,jj hx1];omega⟩,by first|omega|(simp;done)|(simp;omega),aD.bW id (by refine ⟨?_,?_,?_,?_,?_,?_,trivial⟩<;>first|rfl|(simp only [bm];done)|(congr 3;omega)|(congr 4;omega)|(simp only [bn];rfl)|(rw [jj hx1];rfl)) (⟨by first|rfl|(simp only [bm];done)|(congr 3;omega)|(congr 4;omega)|(simp only [bn];rfl),trivial⟩) rfl⟩
  have hb6':=of_decide_eq_false hb6
  refine bb [0,2,3,6,7,8,5,4] [1,0] mixed rfl rfl ?_
  refine az (kn:=[(36,false)]) aa 19 rfl ⟨hb6,trivial⟩ ?_
  refine bA [1,0] rfl rfl rfl rfl (by kernel_rfl) ?_
  refine ae ?_
  refine ag rfl (fun hc10=>?_) (fun hc10=>?_)
  ·
   have hc10':=of_decide_eq_true hc10
   refine ad aa 3 rfl ?_
   refine ar ?_
   refine bf ?_
   refine ao ?_
   refine bf ?_
   refine ao ?_
   refine ao ?_
   refine bf ?_
   refine ao ?_
   have hX:dC l=(⟨2,(↑q:Int)⟩:cV):=by
     (have hb:¬eP x1:=by unfold eP;omega);(have h0:=gY (e:=kG l) (q:=q) (n:=l.length) (by omega) (by rw [gU hx1,if_neg hb,if_pos (by omega)]) (by decide:(2:Int)≠0));(unfold dC;rw [hi0_1,h0];rfl)
   rw [hX] at hr;clear hX
   subst hr
   refine ah aa [0] 0 rfl rfl rfl rfl rfl rfl ?_ ?_
   all_goals first|rfl|(simp [au];done)|(simp [au];omega)
  have hc10':=of_decide_eq_false hc10
  refine cU ?_
  refine bl ?_
  refine then_ok ?_
  refine aw ?_
  refine ab aa 3 rfl ?_
  refine ax (aJ rfl rfl rfl (aF (by first|omega|(simp;done)|(simp;omega)))) rfl ?_
  refine ab aa 1 rfl ?_
  refine bY ?_
  refine bl ?_
  refine then_ok ?_
  refine aw ?_
  refine ax (aJ rfl rfl rfl (aF (by first|omega|(simp;done)|(simp;omega)))) rfl ?_
  refine ab aa 1 rfl ?_
  refine ae ?_
  refine ⟨q+1,⟨by omega,by rw [hi0_1];exact mq (by omega) (by have hla:iu l q=-1:=(by unfold iu;rw [if_pos (by omega)]);rw [gU hx1,if_neg (by unfold eP;omega),if_neg (by omega)]),by rw [jD hx1];have hla:iu l q=-1:=(by unfold iu;rw [if_pos (by omega)]);omega,by rw [jD hx1,jj hx1];omega⟩,by first|omega|(simp;done)|(simp;omega),aD.bW id (by refine ⟨?_,?_,?_,?_,?_,?_,trivial⟩<;>first|rfl|(simp only [bm];done)|(congr 3;omega)|(congr 4;omega)|(simp only [bn];rfl)|(rw [jj hx1];rfl)) (⟨by first|rfl|(simp only [bm];done)|(congr 3;omega)|(congr 4;omega)|(simp only [bn];rfl),trivial⟩) rfl⟩
 have hc1':=of_decide_eq_false hc1
 refine cm ?_
 refine aP ?_
 refine aP ?_
 refine bN ?_
 refine then_ok ?_
 refine af ?_
 refine ad aa 2 rfl ?_
 refine ag rfl (fun hc11=>?_) (fun hc11=>?_)
 ·
  have hc11':=of_decide_eq_true hc11
  refine ad aa 2 rfl ?_
  refine ar ?_
  refine ao ?_
  have hX:dC l=(⟨8,0⟩:cV):=by
    (obtain rfl:q=l.length:=by omega);rw [List.take_length] at *;(unfold dC;rw [hi0_1,mO (by omega)];rw [if_neg (by decide),if_pos (by omega)])
  rw [hX] at hr;clear hX
  subst hr
  refine ah aa [0] 0 rfl rfl rfl rfl rfl rfl ?_ ?_
  all_goals first|rfl|(simp [au];done)|(simp [au];omega)
 have hc11':=of_decide_eq_false hc11
 refine aN ?_
 refine ad aa 2 rfl ?_
 refine ar ?_
 have hX:dC l=(⟨0,0⟩:cV):=by
   (obtain rfl:q=l.length:=by omega);rw [List.take_length] at *;(unfold dC;rw [hi0_1,mO (by omega)];rw [if_neg (by decide),if_neg (by omega)])
 rw [hX] at hr;clear hX
 subst hr
 refine ah aa [0] 0 rfl rfl rfl rfl rfl rfl ?_ ?_
 all_goals first|rfl|(simp [au];done)|(simp [au];omega)


theorem te {l:List Entry} {q:Nat} {x:Entry} {a:Int} (h:l[q]?=some x):cA (l.drop q) a=if x.aO=a then x.sum else cA (l.drop (q+1)) a:=by
  obtain ⟨hq,rfl⟩:=List.getElem?_eq_some_iff.1 h
  rw [List.drop_eq_getElem_cons hq];rfl
theorem zx {l:List Entry} {q:Nat} {a:Int} (h:l.length<=q):cA (l.drop q) a=0:=by
  rw [List.drop_of_length_le h];rfl

theorem rn (l:List Entry) (a:Int) (n:Int) (hr:cA l a=n):Fn Try.prog 34 [(.c (dJ l)),(.c (cI a))] (.v (.c (cI n))) []:=by
 refine Fn.mk' 20 [(0,(aC (dJ l))),(1,(aI a))] Try.func34 rfl rfl rfl rfl ?_
 intro W0 T0
 refine dz 0 rfl (fun hlen0=>?_)
 refine ad aa 1 rfl ?_
 refine af ?_
 refine aA aa 1 rfl ?_
 refine ax (cM rfl rfl rfl rfl rfl Try.underlying44) rfl ?_
 refine ab aa 1 rfl ?_
 refine ae ?_
 refine aU ?_
 refine ct (β:=Nat) (fun (q:Nat)=>⟨[(1,(aI a)),(7,(aC (dJ l))),(8,(aI (↑l.length:Int))),(9,(aI (↑q:Int)))],[],0⟩) (fun (q:Nat)=>q<=l.length/\cA l a=cA (l.drop q) a) (fun (q:Nat)=>l.length - q) 0 ?_ ?_ ?_
 ·exact ⟨by omega,rfl⟩
 ·exact aD.bW id (by refine ⟨?_,?_,?_,?_,trivial⟩<;>first|rfl|(simp only [bm];done)|(congr 3;omega)|(congr 4;omega)|(simp only [bn];rfl)) (trivial) rfl
 rintro q ⟨hi0_0,hi0_1⟩
 refine ad aa 1 rfl ?_
 refine af ?_
 refine ag rfl (fun hc1=>?_) (fun hc1=>?_)
 ·
  have hc1':=of_decide_eq_true hc1
  refine aN ?_
  refine af ?_
  refine aU ?_
  refine eC ?_
  obtain ⟨x1,hx1⟩:=ck (xs:=l) (i:=q) (by first|omega|(simp;done)|(simp;omega))
  refine ax (cP (i:=q) rfl rfl rfl Try.underlying44 dX (by first|omega|(simp;done)|(simp;omega)) (bu hx1)) rfl ?_
  refine ab aa 3 rfl ?_
  refine ae ?_
  refine ad aa 4 rfl ?_
  refine ag rfl (fun hc2=>?_) (fun hc2=>?_)
  ·
   have hc2':=of_decide_eq_true hc2
   refine ad aa 3 rfl ?_
   refine ar ?_
   refine bf ?_
   refine ao ?_
   refine ao ?_
   refine bf ?_
   refine ao ?_
   have hX:cA l a=x1.sum:=by
     rw [hi0_1,te hx1,if_pos (by omega)]
   rw [hX] at hr;clear hX
   subst hr
   refine ah aa [] 0 rfl rfl rfl rfl rfl rfl ?_ ?_
   all_goals first|rfl|(simp [au];done)|(simp [au];omega)
  have hc2':=of_decide_eq_false hc2
  refine cU ?_
  refine bl ?_
  refine then_ok ?_
  refine aw ?_
  refine ax (aJ rfl rfl rfl (aF (by first|omega|(simp;done)|(simp;omega)))) rfl ?_
  refine ab aa 1 rfl ?_
  refine ae ?_
  refine ⟨q+1,⟨by omega,by rw [hi0_1,te hx1,if_neg (by omega)]⟩,by first|omega|(simp;done)|(simp;omega),aD.bW id (by refine ⟨?_,?_,?_,?_,trivial⟩<;>first|rfl|(simp only [bm];done)|(congr 3;omega)|(congr 4;omega)|(simp only [bn];rfl)) (trivial) rfl⟩
 have hc1':=of_decide_eq_false hc1
 refine cm ?_
 refine aP ?_
 refine aP ?_
 refine bN ?_
 refine then_ok ?_
 refine ad aa 1 rfl ?_
 refine ar ?_
 have hX:cA l a=0:=by
   rw [hi0_1,zx (by omega)]
 rw [hX] at hr;clear hX
 subst hr
 refine ah aa [] 0 rfl rfl rfl rfl rfl rfl ?_ ?_
 all_goals first|rfl|(simp [au];done)|(simp [au];omega)


theorem pX {l es:List Entry} (h0:(dC l).err=0) (h1:es.length<=10) (h2:∀ x∈es,¬eP x) (h3:ei es=0):fU l es=match eX l es with
    |some r=>(r,0)
    |none=>([],4):=by
  unfold fU
  rw [if_neg (by omega),if_neg (by omega),if_neg (fun ⟨x,hx,hb⟩=>h2 x hx hb),if_neg (by omega)]
  all_goals (cases eX l es<;>rfl)
theorem sP {es:List Entry} {q:Nat} (h:∀ x∈es.take q,¬eP x) (hq:es.length<=q):∀ x∈es,¬eP x:=by
  rwa [List.take_of_length_le hq] at h
theorem xL {es:List Entry} {q:Nat} {x:Entry} (h:∀ x∈es.take q,¬eP x) (hx:es[q]?=some x) (hb:¬eP x):∀ x∈es.take (q+1),¬eP x:=by
  rw [ss hx]
  intro y hy
  rcases List.mem_append.1 hy with hy|hy
  ·exact h y hy
  ·rw [List.mem_singleton.1 hy];exact hb
theorem wz {es:List Entry} {q:Nat} (hq:es.length<=q):ei (es.take q)=ei es:=by rw [List.take_of_length_le hq]
theorem CA {l m es:List Entry} {q:Nat} (h:eX l es=eX m (es.drop q)) (hq:es.length<=q):eX l es=some m:=by
  rw [h,List.drop_of_length_le hq];rfl
theorem wm (l es:List Entry) (r:List Entry) (e:Int) (hr:fU l es=(r,e)):Fn Try.prog 111 [(.c (dJ l)),(.c (dJ es))] (.t [(.c (.s 0 0 2 r.length)),(.c (cI e))]) [(0,(lx r))]:=by
 refine Fn.mk' 75 [(0,(aC (dJ l))),(1,(aC (dJ es)))] Try.func111 rfl rfl rfl rfl ?_
 intro W0 T0
 refine dz 0 rfl (fun hlen0=>?_)
 refine dz 1 rfl (fun hlen1=>?_)
 refine ad aa 2 rfl ?_
 refine af ?_
 refine aA aa 1 rfl ?_
 obtain ⟨f0,hr0⟩:∃ (f0:cV),dC l=f0:=⟨_,rfl⟩
 refine aL 0 [] (bO 0 (vz l f0 hr0) GG rfl rfl ⟨⟨_,rfl,.c (.d _)⟩,trivial⟩ ⟨trivial,trivial,trivial⟩ trivial rfl rfl rfl rfl) rfl ?_
 refine ab aa 2 rfl ?_
 refine ae ?_
 refine ad aa 3 rfl ?_
 refine ag rfl (fun hc1=>?_) (fun hc1=>?_)
 ·
  have hc1':=of_decide_eq_true hc1
  refine af ?_
  refine bb [0,1,6] [0] mixed rfl rfl ?_
  refine az (kn:=[]) aa 4 rfl trivial ?_
  refine bA [0] rfl rfl rfl rfl (by kernel_rfl) ?_
  refine ae ?_
  refine ar ?_
  refine ao ?_
  refine cQ (aD.nil 4 115 2 (by decide) rfl) ?_
  have hX:fU l es=(([]:List Entry),f0.err):=by
    unfold fU;rw [if_pos (by rw [hr0];omega),hr0]
  rw [hX] at hr;clear hX
  simp only [Prod.mk.injEq] at hr;obtain ⟨rfl,rfl⟩:=hr
  refine ah aa [1] 1 rfl rfl rfl rfl rfl rfl ?_ ?_
  all_goals first|rfl|(simp [au];done)|(simp [au];omega)
 have hc1':=of_decide_eq_false hc1
 refine aN ?_
 refine af ?_
 refine aA aa 1 rfl ?_
 refine ax (cM rfl rfl rfl rfl rfl Try.underlying44) rfl ?_
 refine ab aa 1 rfl ?_
 refine ae ?_
 refine ag rfl (fun hc2=>?_) (fun hc2=>?_)
 ·
  have hc2':=of_decide_eq_true hc2
  refine ad aa 2 rfl ?_
  refine ar ?_
  refine ao ?_
  refine cQ (aD.nil 4 115 2 (by decide) rfl) ?_
  have hX:fU l es=(([]:List Entry),5):=by
    unfold fU;rw [if_neg (by rw [hr0];omega),if_pos (by omega)]
  rw [hX] at hr;clear hX
  simp only [Prod.mk.injEq] at hr;obtain ⟨rfl,rfl⟩:=hr
  refine ah aa [1] 1 rfl rfl rfl rfl rfl rfl ?_ ?_
  all_goals first|rfl|(simp [au];done)|(simp [au];omega)
 have hc2':=of_decide_eq_false hc2
 refine aN ?_
 refine ad aa 1 rfl ?_
 refine af ?_
 refine aA aa 1 rfl ?_
 refine ax (cM rfl rfl rfl rfl rfl Try.underlying44) rfl ?_
 refine ab aa 1 rfl ?_
 refine ae ?_
 refine aU ?_
 refine ct (β:=Nat) (fun (q:Nat)=>⟨[(0,(aC (dJ l))),(1,(aC (dJ es))),(7,(aI (ei (es.take q)))),(25,(aC (dJ es))),(26,(aI (↑es.length:Int))),(27,(aI (↑q:Int)))],[],0⟩) (fun (q:Nat)=>q<=es.length/\(∀ x∈es.take q,¬eP x)/\-1000000000000 * (q:Int)<=ei (es.take q)/\ei (es.take q)<=1000000000000 * (q:Int)) (fun (q:Nat)=>es.length - q) 0 ?_ ?_ ?_
 ·(have h2:ei (es.take 0)=0:=rfl);exact ⟨by omega,by intro x hx;simp at hx,by omega⟩
 ·exact aD.bW id (by refine ⟨?_,?_,?_,?_,?_,?_,trivial⟩<;>first|rfl|(simp only [bm];done)|(congr 3;omega)|(congr 4;omega)|(simp only [bn];rfl)) (trivial) rfl
 rintro q ⟨hi0_0,hi0_1,hi0_2⟩
 refine ad aa 1 rfl ?_
 refine af ?_
 refine ag rfl (fun hc3=>?_) (fun hc3=>?_)
 ·
  have hc3':=of_decide_eq_true hc3
  refine aN ?_
  refine af ?_
  refine aU ?_
  refine eC ?_
  obtain ⟨x1,hx1⟩:=ck (xs:=es) (i:=q) (by first|omega|(simp;done)|(simp;omega))
  refine ax (cP (i:=q) rfl rfl rfl Try.underlying44 dX (by first|omega|(simp;done)|(simp;omega)) (bu hx1)) rfl ?_
  refine ab aa 3 rfl ?_
  refine ae ?_
  refine af ?_
  refine cp 48 ((((decide (x1.aO < 0))||(decide (x1.aO>=58)))||(decide (x1.sum < (-1000000000000))))||(decide (x1.sum > 1000000000000))) ?_ ?_
  ·
   refine aw ?_
   refine ab aa 4 rfl ?_
   refine bz (t:=34) rfl (fun hb4=>?_) (fun hb4=>?_)
   ·
    have hb4':=of_decide_eq_true hb4
    refine ab aa 14 rfl ?_
    refine ae ?_
    exact aD.bD 19 rfl rfl (by first|(simp [hb4];done)|(simp_all;done)|(exfalso;simp_all;done)|(simp_all;omega)) rfl
   have hb4':=of_decide_eq_false hb4
   refine ab aa 5 rfl ?_
   refine bz (t:=39) rfl (fun hb5=>?_) (fun hb5=>?_)
   ·
    have hb5':=of_decide_eq_true hb5
    refine ab aa 9 rfl ?_
    refine ae ?_
    exact aD.bD 20 rfl rfl (by first|(simp [hb4,hb5];done)|(simp_all;done)|(exfalso;simp_all;done)|(simp_all;omega)) rfl
   have hb5':=of_decide_eq_false hb5
   refine ab aa 5 rfl ?_
   refine bz (t:=44) rfl (fun hb6=>?_) (fun hb6=>?_)
   ·
    have hb6':=of_decide_eq_true hb6
    refine ab aa 4 rfl ?_
    refine ae ?_
    exact aD.bD 21 rfl rfl (by first|(simp [hb4,hb5,hb6];done)|(simp_all;done)|(exfalso;simp_all;done)|(simp_all;omega)) rfl
   have hb6':=of_decide_eq_false hb6
   refine ab aa 4 rfl ?_
   refine ae ?_
   exact aD.bD 21 rfl rfl (by first|(simp [hb4,hb5,hb6];done)|(simp_all;done)|(exfalso;simp_all;done)|(simp_all;omega)) rfl
  refine ag rfl (fun hc7=>?_) (fun hc7=>?_)
  ·
   have hc7':=hc7;try simp only [bj,bL] at hc7'
   refine ad aa 2 rfl ?_
   refine ar ?_
   refine ao ?_
   refine bf ?_
   refine ao ?_
   refine ao ?_
   refine bf ?_
   refine ao ?_
   refine cQ (aD.nil 4 115 2 (by decide) rfl) ?_
   have hX:fU l es=(([]:List Entry),3):=by
     unfold fU;rw [if_neg (by rw [hr0];omega),if_neg (by omega),if_pos ⟨x1,List.mem_of_getElem? hx1,by unfold eP;omega⟩]
   rw [hX] at hr;clear hX
   simp only [Prod.mk.injEq] at hr;obtain ⟨rfl,rfl⟩:=hr
   refine ah aa [1] 1 rfl rfl rfl rfl rfl rfl ?_ ?_
   all_goals first|rfl|(simp [au];done)|(simp [au];omega)
  have hc7':=hc7;try simp only [bj,bL] at hc7'
  refine aN ?_
  refine aw ?_
  refine ab aa 3 rfl ?_
  refine ax (aJ rfl rfl rfl (aF (by first|omega|(simp;done)|(simp;omega)))) rfl ?_
  refine ab aa 1 rfl ?_
  refine bY ?_
  refine bl ?_
  refine then_ok ?_
  refine aw ?_
  refine ax (aJ rfl rfl rfl (aF (by first|omega|(simp;done)|(simp;omega)))) rfl ?_
  refine ab aa 1 rfl ?_
  refine ae ?_
  refine ⟨q+1,⟨by omega,xL hi0_1 hx1 (by unfold eP;omega),by rw [jj hx1];omega⟩,by first|omega|(simp;done)|(simp;omega),aD.bW id (by refine ⟨?_,?_,?_,?_,?_,?_,trivial⟩<;>first|rfl|(simp only [bm];done)|(congr 3;omega)|(congr 4;omega)|(simp only [bn];rfl)|(rw [jj hx1];rfl)) (trivial) rfl⟩
 have hc3':=of_decide_eq_false hc3
 refine cm ?_
 refine aP ?_
 refine aP ?_
 refine bN ?_
 refine then_ok ?_
 refine af ?_
 refine ad aa 2 rfl ?_
 refine ag rfl (fun hc8=>?_) (fun hc8=>?_)
 ·
  have hc8':=of_decide_eq_true hc8
  refine ad aa 2 rfl ?_
  refine ar ?_
  refine ao ?_
  refine cQ (aD.nil 4 115 2 (by decide) rfl) ?_
  have hX:fU l es=(([]:List Entry),8):=by
    (have hs:=wz (es:=es) (q:=q) (by omega));(have hnb:=sP hi0_1 (by omega));unfold fU;rw [if_neg (by rw [hr0];omega),if_neg (by omega),if_neg (fun ⟨x,hx,hb⟩=>hnb x hx hb),if_pos (by omega)]
  rw [hX] at hr;clear hX
  simp only [Prod.mk.injEq] at hr;obtain ⟨rfl,rfl⟩:=hr
  refine ah aa [0] 1 rfl rfl rfl rfl rfl rfl ?_ ?_
  all_goals first|rfl|(simp [au];done)|(simp [au];omega)
 have hc8':=of_decide_eq_false hc8
 refine aN ?_
 have h0:(dC l).err=0:=by rw [hr0];omega
 have hR:jf l:=(kM.1 h0).1
 have hRl:=sI hR
 have hs:=wz (es:=es) (q:=q) (by omega)
 have hnb:=sP hi0_1 (by omega)
 refine aA aa 1 rfl ?_
 refine aL 1 [0] (bO 0 (tN l (by first|omega|(simp;done)|(simp;omega))) Fs rfl rfl ⟨⟨_,rfl,.c (.d _)⟩,trivial⟩ trivial ⟨(fun _ _ _ _=>trivial),trivial⟩ rfl rfl rfl rfl) rfl ?_
 refine ab aa 1 rfl ?_
 refine ae ?_
 refine af ?_
 refine aA aa 1 rfl ?_
 refine ax (cM rfl rfl rfl rfl rfl Try.underlying44) rfl ?_
 refine ab aa 1 rfl ?_
 refine ae ?_
 refine aU ?_
 refine ct (β:=Nat×List Entry) (fun (p:Nat×List Entry)=>match p with|(p,m)=>⟨[(0,(aC (dJ l))),(1,(aC (dJ es))),(7,(aI (ei (es.take q)))),(25,(aC (dJ es))),(26,(aI (↑es.length:Int))),(27,(aI (↑q:Int))),(10,(aC (.s 0 0 2 m.length))),(58,(aC (dJ es))),(59,(aI (↑es.length:Int))),(60,(aI (↑p:Int)))],[(0,(lx m))],1⟩) (fun (p:Nat×List Entry)=>match p with|(p,m)=>p<=es.length/\jf m/\eX l es=eX m (es.drop p)) (fun (p:Nat×List Entry)=>match p with|(p,m)=>es.length - p) (0,l) ?_ ?_ ?_
 ·exact ⟨by omega,hR,rfl⟩
 ·exact aD.bW id (by refine ⟨?_,?_,?_,?_,?_,?_,?_,?_,?_,?_,trivial⟩<;>first|rfl|(simp only [bm];done)|(congr 3;omega)|(congr 4;omega)|(simp only [bn];rfl)) (⟨by first|rfl|(simp only [bm];done)|(congr 3;omega)|(congr 4;omega)|(simp only [bn];rfl),trivial⟩) rfl
 rintro ⟨p,m⟩ ⟨hi1_0,hi1_1,hi1_2⟩
 refine ad aa 1 rfl ?_
 refine af ?_
 refine ag rfl (fun hc9=>?_) (fun hc9=>?_)
 ·
  have hc9':=of_decide_eq_true hc9
  refine aN ?_
  refine af ?_
  refine aU ?_
  refine eC ?_
  obtain ⟨x1,hx1⟩:=ck (xs:=es) (i:=p) (by first|omega|(simp;done)|(simp;omega))
  have hx1n:=hnb x1 (List.mem_of_getElem? hx1)
  have hx1b:0<=x1.aO/\x1.aO<=57/\-1000000000000<=x1.sum/\x1.sum<=1000000000000:=by unfold eP at hx1n;omega
  refine ax (cP (i:=p) rfl rfl rfl Try.underlying44 dX (by first|omega|(simp;done)|(simp;omega)) (bu hx1)) rfl ?_
  refine ab aa 3 rfl ?_
  refine ae ?_
  refine aA aa 2 rfl ?_
  obtain ⟨r1,g1,hr1⟩:∃ (r1:List Entry) (g1:Bool),jx m x1=(r1,g1):=⟨_,_,rfl⟩
  obtain ⟨hp1,hg1⟩:=Prod.mk.inj hr1
  refine aL 3 [2,1] (cx id (aW [2]) (FC m x1 (by exact (show jf _ by assumption).up) (by (have:=sI (show jf _ by assumption);omega)) (by (intro y hy;have:=(show jf _ by assumption).ok y hy;omega)) (by (unfold eP at *;omega)) r1 g1 hr1) Fq rfl rfl ⟨⟨_,rfl,.inl ⟨rfl,rfl⟩⟩,⟨_,rfl,.inr (.g ⟨.d _,.d _,trivial⟩)⟩,trivial⟩ ⟨rfl,trivial⟩ rfl rfl rfl rfl rfl rfl ⟨trivial,trivial,trivial⟩ ⟨(fun _ _ _ _=>trivial),trivial⟩ rfl rfl rfl rfl) rfl ?_
  refine ab aa 5 rfl ?_
  refine ae ?_
  refine af ?_
  refine ad aa 2 rfl ?_
  refine ag rfl (fun hc10=>?_) (fun hc10=>?_)
  ·
   have hc10':=hc10;try simp only [bj,bL] at hc10'
   refine ad aa 2 rfl ?_
   refine ar ?_
   refine ao ?_
   refine bf ?_
   refine ao ?_
   refine ao ?_
   refine bf ?_
   refine ao ?_
   refine cQ (aD.nil 4 115 2 (by decide) rfl) ?_
   have hX:fU l es=(([]:List Entry),4):=by
     rw [pX h0 (by omega) hnb (by omega),hi1_2,pv hx1,if_neg (by simp_all)]
   rw [hX] at hr;clear hX
   simp only [Prod.mk.injEq] at hr;obtain ⟨rfl,rfl⟩:=hr
   refine ah aa [3] 1 rfl rfl rfl rfl rfl rfl ?_ ?_
   all_goals first|rfl|(simp [au];done)|(simp [au];omega)
  have hc10':=hc10;try simp only [bj,bL] at hc10'
  refine aN ?_
  refine aw ?_
  refine ab aa 2 rfl ?_
  refine bY ?_
  refine bl ?_
  refine then_ok ?_
  refine aw ?_
  refine ax (aJ rfl rfl rfl (aF (by first|omega|(simp;done)|(simp;omega)))) rfl ?_
  refine ab aa 1 rfl ?_
  refine ae ?_
  refine ⟨(p+1,r1),⟨by omega,by rw [<-hp1];exact qF hi1_1 (by omega) (lL.1 (by rw [hg1];simp_all)),by rw [hi1_2,pv hx1,if_pos (by rw [hg1];simp_all),hp1]⟩,by first|omega|(simp;done)|(simp;omega),aD.bW (fun k=>if k=0 then 2 else k) (by refine ⟨?_,?_,?_,?_,?_,?_,?_,?_,?_,?_,trivial⟩<;>first|rfl|(simp only [bm];done)|(congr 3;omega)|(congr 4;omega)|(simp only [bn];rfl)) (⟨by first|rfl|(simp only [bm];done)|(congr 3;omega)|(congr 4;omega)|(simp only [bn];rfl),trivial⟩) rfl⟩
 have hc9':=of_decide_eq_false hc9
 refine cm ?_
 refine aP ?_
 refine aP ?_
 refine bN ?_
 refine then_ok ?_
 refine ad aa 3 rfl ?_
 refine ar ?_
 have hX:fU l es=(m,0):=by
   rw [pX h0 (by omega) hnb (by omega),CA hi1_2 (by omega)]
 rw [hX] at hr;clear hX
 simp only [Prod.mk.injEq] at hr;obtain ⟨rfl,rfl⟩:=hr
 refine ah aa [0] 1 rfl rfl rfl rfl rfl rfl ?_ ?_
 all_goals first|rfl|(simp [au];done)|(simp [au];omega)
section
open Go.RowKit
end


def iL (l:List Entry) (src dst n:Int):List Entry×Int:=if n < 0\/n > 1000000000000 then ([],3) else fU l [⟨src,0 - n⟩,⟨dst,n⟩]
theorem AM {l es r : List Entry} (h : fU l es = (r, 0)) : (dC l).err = 0 ∧ es.length ≤ 10 ∧ (∀ x ∈ es, ¬ eP x) ∧ ei es = 0 ∧ eX l es = some r := by
  unfold fU at h
  split at h
  · rename_i h0; injection h with _ h1; exact absurd h1 h0
  rename_i h0
  split at h
  · injection h with _ h1; cases h1
  rename_i h1
  split at h
  · injection h with _ h1; cases h1
  rename_i h2
  split at h
  · injection h with _ h1; cases h1
  rename_i h3
  split at h
  · rename_i r' hr
    injection h with h4 _
    subst h4
    exact ⟨by omega, by omega, fun x hx hb => h2 ⟨x, hx, hb⟩, by omega, hr⟩
  · injection h with _ h1; cases h1
theorem nW {l es r:List Entry} (h:fU l es=(r,0)) (a:Int):(dC r).err=0/\cA r a=cA l a+lj a es:=by
  obtain ⟨h1,h2,h3,h4,h5⟩:=AM h
  obtain ⟨h6,h7⟩:=kM.1 h1
  obtain ⟨h8,h9⟩:=oa h6 h3 h5
  exact ⟨kM.2 ⟨h8,by omega⟩,qN h6.up h5⟩

theorem wo (l:List Entry) (src dst n:Int) (r:List Entry) (e:Int) (hr:iL l src dst n=(r,e)):Fn Try.prog 98 [(.c (dJ l)),(.c (cI src)),(.c (cI dst)),(.c (cI n))] (.t [(.c (.s 0 0 2 r.length)),(.c (cI e))]) [(0,(lx r))]:=by
 refine Fn.mk' 28 [(0,(aC (dJ l))),(1,(aI src)),(2,(aI dst)),(3,(aI n))] Try.func98 rfl rfl rfl rfl ?_
 intro W0 T0
 refine dz 0 rfl (fun hlen0=>?_)
 refine ad aa 2 rfl ?_
 refine af ?_
 refine cp 15 ((decide (n < 0))||(decide (n > 1000000000000))) ?_ ?_
 ·
  refine aw ?_
  refine ab aa 3 rfl ?_
  refine bz (t:=12) rfl (fun hb1=>?_) (fun hb1=>?_)
  ·
   have hb1':=of_decide_eq_true hb1
   refine ab aa 3 rfl ?_
   refine ae ?_
   exact aD.bD 7 rfl rfl (by first|(simp [hb1];done)|(simp_all;done)|(exfalso;simp_all;done)|(simp_all;omega)) rfl
  have hb1':=of_decide_eq_false hb1
  refine ab aa 3 rfl ?_
  refine ae ?_
  exact aD.bD 7 rfl rfl (by first|(simp [hb1];done)|(simp_all;done)|(exfalso;simp_all;done)|(simp_all;omega)) rfl
 refine ag rfl (fun hc2=>?_) (fun hc2=>?_)
 ·
  have hc2':=hc2;try simp only [bj,bL] at hc2'
  refine ad aa 2 rfl ?_
  refine ar ?_
  refine ao ?_
  refine cQ (aD.nil 8 115 2 (by decide) rfl) ?_
  have hX:iL l src dst n=(([]:List Entry),3):=by
    unfold iL;rw [if_pos (by omega)]
  rw [hX] at hr;clear hX
  simp only [Prod.mk.injEq] at hr;obtain ⟨rfl,rfl⟩:=hr
  refine ah aa [0] 1 rfl rfl rfl rfl rfl rfl ?_ ?_
  all_goals first|rfl|(simp [au];done)|(simp [au];omega)
 have hc2':=hc2;try simp only [bj,bL] at hc2'
 refine aN ?_
 refine aA aa 3 rfl ?_
 refine ax (rb rfl rfl (aF (by first|omega|(simp;done)|(simp;omega)))) rfl ?_
 refine ab aa 4 rfl ?_
 refine aL 1 [0] (dA (ys:=[(0,(.g [(cI src),(cI (0 - n))])),(1,(.g [(cI dst),(cI n)]))]) (rows:=([(⟨src,0 - n⟩:Entry),(⟨dst,n⟩:Entry)]).map ey) 0 jN rfl (by decide) ⟨⟨rfl,rfl⟩,⟨rfl,rfl⟩,trivial⟩ rfl rfl rfl rfl) rfl ?_
 obtain ⟨r0,e0,hr0⟩:∃ (r0:List Entry) (e0:Int),fU l ([(⟨src,0 - n⟩:Entry),(⟨dst,n⟩:Entry)])=(r0,e0):=⟨_,_,rfl⟩
 refine aL 2 [1,0] (fM 1 [0] (wm l ([(⟨src,0 - n⟩:Entry),(⟨dst,n⟩:Entry)]) r0 e0 hr0) Fu rfl rfl ⟨⟨_,rfl,.c (.d _)⟩,⟨_,rfl,.c (.s rfl (by decide) (by first|omega|(simp;done)|(simp;omega)))⟩,trivial⟩ ⟨trivial,rfl,trivial⟩ ⟨(xQ _),trivial⟩ rfl rfl rfl rfl) rfl ?_
 refine ab aa 4 rfl ?_
 refine ae ?_
 refine ar ?_
 have hX:iL l src dst n=(r0,e0):=by
   unfold iL;rw [if_neg (by omega)];assumption
 rw [hX] at hr;clear hX
 simp only [Prod.mk.injEq] at hr;obtain ⟨rfl,rfl⟩:=hr
 refine ah aa [1] 1 rfl rfl rfl rfl rfl rfl ?_ ?_
 all_goals first|rfl|(simp [au];done)|(simp [au];omega)
theorem jk {α:Type}:∀ l:List α,l=[]\/∃ A y,l=A++[y]
 |[]=>.inl rfl
 |x::l=>.inr (by
  rcases jk l with rfl|⟨A,y,rfl⟩
  ·exact ⟨[],x,rfl⟩
  ·exact ⟨x::A,y,rfl⟩)
def gl (a b:al):Bool:=decide (a.ay < b.ay)||(decide (a.ay=b.ay) && decide (a.ba < b.ba))
def fL (a b:al):Prop:=a.ay < b.ay\/(a.ay=b.ay/\a.ba<=b.ba)
def jv (a b:al):Bool:=decide (a.ay=b.ay) && decide (a.ba=b.ba)
def eO (l:List al):Prop:=l.Pairwise fL
def Same (u v:List al):Prop:=∀ k:al,u.filter (jv k)=v.filter (jv k)
theorem qR {a b:al}:gl a b=true↔(a.ay < b.ay\/(a.ay=b.ay/\a.ba < b.ba)):=by unfold gl;simp
theorem qS {a b:al}:gl a b=false↔fL b a:=by
 unfold gl fL
 rw [Bool.or_eq_false_iff,decide_eq_false_iff_not,Bool.and_eq_false_iff,decide_eq_false_iff_not,decide_eq_false_iff_not]
 omega
theorem ku {a b:al} (h:gl a b=true):fL a b:=by rw [qR] at h;unfold fL;omega
theorem mZ (a:al):fL a a:=by unfold fL;omega
theorem kr {a b c:al} (h:fL a b) (h':fL b c):fL a c:=by unfold fL at *;omega
theorem uL {a b c:al} (h:gl a b=true) (h':fL b c):gl a c=true:=by rw [qR] at *;unfold fL at *;omega
theorem zh {a b c:al} (h:fL a b) (h':gl b c=true):gl a c=true:=by rw [qR] at *;unfold fL at *;omega
theorem oN {a b:al}:jv a b=true↔(a.ay=b.ay/\a.ba=b.ba):=by unfold jv;simp
theorem kO (a:al):jv a a=true:=by rw [oN];exact ⟨rfl,rfl⟩
theorem Same.refl (u:List al):Same u u:=fun _=>rfl
theorem Same.symm {u v:List al} (h:Same u v):Same v u:=fun k=>(h k).symm
theorem Same.trans {u v z:List al} (h:Same u v) (h':Same v z):Same u z:=fun k=>(h k).trans (h' k)
theorem Same.app {u v u' v':List al} (h:Same u u') (h':Same v v'):Same (u++v) (u'++v'):=fun k=>by rw [List.filter_append,List.filter_append,h k,h' k]
theorem Same.mem {u v:List al} (h:Same u v) {x:al}:x∈u↔x∈v:=by
 have h1:∀ l:List al,x∈l.filter (jv x)↔x∈l:=fun l=>by simp [kO]
 rw [<-h1 u,<-h1 v,h x]
theorem Same.perm {u v:List al} (h:Same u v):u.Perm v:=by
 rw [List.perm_iff_count]
 intro x
 rw [<-List.count_filter (p:=jv x) (l:=u) (kO x),<-List.count_filter (p:=jv x) (l:=v) (kO x),h x]
theorem Same.len {u v:List al} (h:Same u v):u.length=v.length:=h.perm.length_eq
theorem Same.comm {u v:List al} (h:∀ x∈u,∀ y∈v,gl y x=true):Same (u++v) (v++u):=fun k=>by
 rw [List.filter_append,List.filter_append]
 by_cases hu:u.filter (jv k)=[]
 ·rw [hu];simp
 ·by_cases hv:v.filter (jv k)=[]
  ·rw [hv];simp
  ·exfalso
   obtain ⟨x,hx⟩:=List.exists_mem_of_ne_nil _ hu
   obtain ⟨y,hy⟩:=List.exists_mem_of_ne_nil _ hv
   rw [List.mem_filter] at hx hy
   have h1:=h x hx.1 y hy.1
   have h2:=oN.1 hx.2
   have h3:=oN.1 hy.2
   rw [qR] at h1
   omega
theorem eO.uniq:∀ {u v:List al},eO u->eO v->Same u v->u=v
 |[],v,_,_,h=>by have:=h.len;exact (List.eq_nil_of_length_eq_zero this.symm).symm
 |x::u,[],_,_,h=>by have:=h.len;cases this
 |x::u,y::v,hu,hv,h=>by
  obtain ⟨hu1,hu2⟩:=List.pairwise_cons.1 hu
  obtain ⟨hv1,hv2⟩:=List.pairwise_cons.1 hv
  have h1:fL x y:=by
   rcases List.mem_cons.1 (h.mem.2 (List.mem_cons_self (a:=y) (l:=v))) with rfl|hm
   ·exact mZ _
   ·exact hu1 y hm
  have h2:fL y x:=by
   rcases List.mem_cons.1 (h.mem.1 (List.mem_cons_self (a:=x) (l:=u))) with rfl|hm
   ·exact mZ _
   ·exact hv1 x hm
  have h3:jv x y=true:=by rw [oN];unfold fL at h1 h2;omega
  have h4:=h x
  rw [List.filter_cons,List.filter_cons,if_pos (kO x),if_pos h3] at h4
  obtain ⟨rfl,_⟩:=List.cons.inj h4
  have h5:Same u v:=fun k=>by
   have:=h k
   rw [List.filter_cons,List.filter_cons] at this
   split at this
   ·exact (List.cons.inj this).2
   ·exact this
  rw [eO.uniq hu2 hv2 h5]

def gK (d:List al) (i j:Nat):List al:=
 match d[i]?,d[j]? with
 |some x,some y=>(d.set i y).set j x
 |_,_=>d
theorem ld {d:List al} {i j:Nat} {x y:al} (hx:d[i]?=some x) (hy:d[j]?=some y):gK d i j=(d.set i y).set j x:=by unfold gK;rw [hx,hy]
theorem lC (d:List al) (i j:Nat):(gK d i j).length=d.length:=by
 unfold gK;split<;>simp
theorem nO (s t u:List al) (x y:al) {i j:Nat} (hi:i=s.length) (hj:j=s.length+1+t.length):gK (s++x::(t++y::u)) i j=s++y::(t++x::u):=by
 subst hi hj
 have h1:(s++x::(t++y::u))[s.length]?=some x:=by simp
 have h2:(s++x::(t++y::u))[s.length+1+t.length]?=some y:=by
  rw [List.getElem?_append_right (by omega),show s.length+1+t.length - s.length=t.length+1 by omega,List.getElem?_cons_succ];simp
 rw [ld h1 h2,List.set_append_right _ _ (Nat.le_refl _),Nat.sub_self,List.set_cons_zero,List.set_append_right _ _ (by omega),show s.length+1+t.length - s.length=t.length+1 by omega,
  List.set_cons_succ,List.set_append_right _ _ (Nat.le_refl _),Nat.sub_self,List.set_cons_zero]
theorem xx (d:List al) (i j:Nat):gK d i j=gK d j i:=by
 by_cases hij:i=j
 ·subst hij;rfl
 ·unfold gK
  cases hx:d[i]? with
  |none=>cases hy:d[j]?<;>rfl
  |some x=>
   cases hy:d[j]? with
   |none=>rfl
   |some y=>exact List.set_comm _ _ hij
theorem qD (s t u:List al) (x y:al) {i j:Nat} (hi:i=s.length) (hj:j=s.length+1+t.length):gK (s++x::(t++y::u)) j i=s++y::(t++x::u):=by rw [xx];exact nO s t u x y hi hj

structure Part (d y:List al) (a b:Nat):Prop where
 len:y.length=d.length
 l:y.take a=d.take a
 r:y.drop b=d.drop b
 s:eO ((y.drop a).take (b - a))
 m:Same d y
theorem Part.of {P X C R:List al} {a b:Nat} (ha:P.length=a) (hb:b=a+X.length) (hs:eO C) (hm:Same X C):Part (P++X++R) (P++C++R) a b:=by
 subst ha hb
 have hl:=hm.len
 refine ⟨by simp [hl],by simp,?_,?_,((Same.refl P).app hm).app (Same.refl R)⟩
 ·have h1:∀ Z:List al,Z.length=X.length->(P++Z++R).drop (P.length+X.length)=R:=fun Z hz=>by
   rw [<-hz,<-List.length_append,List.drop_left]
  rw [h1 C hl.symm,h1 X rfl]
 ·rw [List.append_assoc,List.drop_left,show P.length+X.length - P.length=C.length by omega,List.take_left];exact hs
theorem parts {d:List al} {a b:Nat} (h:a<=b) (hb:b<=d.length):d=d.take a++(d.drop a).take (b - a)++d.drop b:=by
 have h1:d.drop b=(d.drop a).drop (b - a):=by rw [List.drop_drop];congr 1;omega
 rw [h1,List.append_assoc,List.take_append_drop,List.take_append_drop]

def jh (a:Nat):Nat->List al->List al
 |0,d=>d
 |j+1,d=>
  if a < j+1 then
   match d[j+1]?,d[j]? with
   |some x,some y=>if gl x y=true then jh a j (gK d (j+1) j) else d
   |_,_=>d
  else d
theorem qa {a j:Nat} {d:List al} (h:¬a < j):jh a j d=d:=by
 cases j with
 |zero=>rfl
 |succ j=>unfold jh;rw [if_neg h]
theorem ot {a j:Nat} {d:List al} {x y:al} (hx:d[j]?=some x) (hy:d[j - 1]?=some y) (h:gl x y=false):jh a j d=d:=by
 cases j with
 |zero=>rfl
 |succ j=>
  unfold jh
  split
  ·rw [hx,show d[j]?=some y from hy];simp [h]
  ·rfl
theorem wZ {a j:Nat} {d:List al} {x y:al} (ha:a < j) (hx:d[j]?=some x) (hy:d[j - 1]?=some y) (h:gl x y=true):jh a j d=jh a (j - 1) (gK d j (j - 1)):=by
 cases j with
 |zero=>omega
 |succ j=>
  conv=>lhs;unfold jh
  rw [if_pos ha,hx,show d[j]?=some y from hy]
  simp only [h,if_true]
  rfl
theorem uT (a:Nat):∀ (j:Nat) (d:List al),(jh a j d).length=d.length
 |0,d=>rfl
 |j+1,d=>by
  unfold jh
  split
  ·split
   ·split
    ·rw [uT a j,lC]
    ·rfl
   ·rfl
  ·rfl
theorem uU (P:List al) (x:al):∀ (n:Nat) (A R:List al),A.length=n->∃ A1 A2,A=A1++A2/\jh P.length (P.length+n) (P++A++x::R)=P++(A1++x::A2)++R/\(∀ y∈A2,gl x y=true)/\(∀ A0 y,A1=A0++[y]->fL y x)
 |0,A,R,hA=>by
  obtain rfl:=List.eq_nil_of_length_eq_zero hA
  refine ⟨[],[],rfl,?_,by simp,by simp⟩
  rw [qa (by omega)];simp
 |n+1,A,R,hA=>by
  obtain ⟨A',y,rfl⟩:∃ A' y,A=A'++[y]:=by
   rcases jk A with rfl|h
   ·cases hA
   ·exact h
  have hn:A'.length=n:=by simpa using hA
  have e1:P++(A'++[y])++x::R=(P++A')++y::([]++x::R):=by simp
  have h1:(P++(A'++[y])++x::R)[P.length+(n+1)]?=some x:=by
   rw [List.getElem?_append_right (by simp;omega),show P.length+(n+1) - (P++(A'++[y])).length=0 by simp;omega];rfl
  have h2:(P++(A'++[y])++x::R)[P.length+(n+1) - 1]?=some y:=by
   rw [e1,List.getElem?_append_right (by simp;omega),show P.length+(n+1) - 1 - (P++A').length=0 by simp;omega];rfl
  cases hc:gl x y with
  |true=>
   rw [wZ (by omega) h1 h2 hc,show P.length+(n+1) - 1=P.length+n by omega,e1,qD (P++A') [] R y x (by simp;omega) (by simp;omega)]
   obtain ⟨A1,A2,rfl,h3,h4,h5⟩:=uU P x n A' (y::R) hn
   refine ⟨A1,A2++[y],by simp,?_,?_,h5⟩
   ·rw [List.nil_append,h3];simp
   ·intro z hz
    rcases List.mem_append.1 hz with hz|hz
    ·exact h4 z hz
    ·rw [List.mem_singleton.1 hz];exact hc
  |false=>
   rw [ot h1 h2 hc]
   refine ⟨A'++[y],[],by simp,by simp,by simp,fun A0 z hz=>?_⟩
   obtain ⟨_,h⟩:=List.append_inj' hz rfl
   rw [<-List.cons.inj h|>.1]
   exact qS.1 hc
theorem gn {u v:List al}:eO (u++v)↔eO u/\eO v/\∀ x∈u,∀ y∈v,fL x y:=List.pairwise_append
theorem ui {u:List al} {y x:al} (h:eO (u++[y])) (hx:fL y x):∀ z∈u++[y],fL z x:=fun z hz=>by
 rcases List.mem_append.1 hz with hz|hz
 ·exact kr ((gn.1 h).2.2 z hz y (List.mem_singleton.2 rfl)) hx
 ·rw [List.mem_singleton.1 hz];exact hx
theorem zi {u:List al} {x:al} (h:eO u) (hl:∀ A0 y,u=A0++[y]->fL y x):∀ z∈u,fL z x:=by
 rcases jk u with rfl|⟨A',y,h'⟩
 ·simp
 ·rw [h'] at h ⊢;exact ui h (hl A' y h')
theorem ze {A1 A2:List al} {x:al} (h:eO (A1++A2)) (h1:∀ z∈A1,fL z x) (h2:∀ z∈A2,gl x z=true):eO (A1++x::A2)/\Same (A1++A2++[x]) (A1++x::A2):=by
 obtain ⟨s1,s2,s3⟩:=gn.1 h
 refine ⟨gn.2 ⟨s1,List.pairwise_cons.2 ⟨fun y hy=>ku (h2 y hy),s2⟩,fun z hz y hy=>?_⟩,?_⟩
 ·rcases List.mem_cons.1 hy with rfl|hy
  ·exact h1 z hz
  ·exact s3 z hz y hy
 ·have:=(Same.refl A1).app (Same.comm (u:=A2) (v:=[x]) fun y hy z hz=>by rw [List.mem_singleton.1 hz];exact h2 y hy)
  simpa using this
theorem CD {B1 B2:List al} {x:al} (h:eO (B1++B2)) (h1:∀ z∈B1,gl z x=true) (h2:∀ z∈B2,fL x z):eO (B1++x::B2)/\Same (x::(B1++B2)) (B1++x::B2):=by
 obtain ⟨s1,s2,s3⟩:=gn.1 h
 refine ⟨gn.2 ⟨s1,List.pairwise_cons.2 ⟨h2,s2⟩,fun z hz y hy=>?_⟩,?_⟩
 ·rcases List.mem_cons.1 hy with rfl|hy
  ·exact ku (h1 z hz)
  ·exact s3 z hz y hy
 ·have:=(Same.comm (u:=[x]) (v:=B1) fun y hy z hz=>by rw [List.mem_singleton.1 hy];exact h1 z hz).app (Same.refl B2)
  simpa using this
def iT (a:Nat):Nat->List al->List al
 |0,d=>d
 |n+1,d=>jh a (a+1+n) (iT a n d)
theorem pZ (a:Nat):∀ (n:Nat) (d:List al),(iT a n d).length=d.length
 |0,_=>rfl
 |n+1,d=>by unfold iT;rw [uT,pZ a n]
theorem uQ (P X R:List al):∀ n,n < X.length->∃ C,iT P.length n (P++X++R)=P++C++X.drop (n+1)++R/\eO C/\Same (X.take (n+1)) C
 |0,h=>by
  refine ⟨X.take 1,?_,?_,Same.refl _⟩
  ·unfold iT;rw [List.append_assoc P (X.take 1),List.take_append_drop]
  ·cases X with
   |nil=>cases h
   |cons x X=>exact List.pairwise_singleton _ _
 |n+1,h=>by
  obtain ⟨C,h1,h2,h3⟩:=uQ P X R n (by omega)
  have hl:C.length=n+1:=by rw [<-h3.len,List.length_take];omega
  have e1:X.drop (n+1)=X[n+1]::X.drop (n+2):=List.drop_eq_getElem_cons h
  obtain ⟨A1,A2,rfl,h4,h5,h6⟩:=uU P X[n+1] (n+1) C (X.drop (n+2)++R) hl
  have h7:eO A1:=(gn.1 h2).1
  obtain ⟨h8,h9⟩:=ze h2 (zi h7 h6) h5
  refine ⟨A1++X[n+1]::A2,?_,h8,?_⟩
  ·unfold iT
   rw [h1,show P.length+1+n=P.length+(n+1) by omega,show P++(A1++A2)++X.drop (n+1)++R=P++(A1++A2)++X[n+1]::(X.drop (n+2)++R) by rw [List.append_assoc _ _ R,e1,List.cons_append],h4]
   simp
  ·rw [List.take_add_one,List.getElem?_eq_getElem h]
   exact (h3.app (Same.refl _)).trans h9
theorem sZ {d:List al} {a b:Nat} (h:a<=b) (hb:b<=d.length):Part d (iT a (b - (a+1)) d) a b:=by
 by_cases hab:a=b
 ·subst hab
  rw [show a - (a+1)=0 by omega]
  exact ⟨rfl,rfl,rfl,by rw [Nat.sub_self];exact List.Pairwise.nil,Same.refl _⟩
 ·have e:=parts h hb
  have h1:(d.take a).length=a:=by rw [List.length_take];omega
  have h2:((d.drop a).take (b - a)).length=b - a:=by rw [List.length_take,List.length_drop];omega
  obtain ⟨C,h3,h4,h5⟩:=uQ (d.take a) ((d.drop a).take (b - a)) (d.drop b) (b - (a+1)) (by omega)
  rw [h1] at h3
  rw [<-e,List.drop_of_length_le (l:=(d.drop a).take (b - a)) (by omega),List.append_nil] at h3
  rw [List.take_of_length_le (l:=(d.drop a).take (b - a)) (by omega)] at h5
  have:=Part.of (P:=d.take a) (R:=d.drop b) (a:=a) (b:=b) h1 (by omega) h4 h5
  rwa [<-e,<-h3] at this

def dp (d:List al) (i j:Nat):Bool:=
 match d[i]?,d[j]? with
 |some x,some y=>gl x y
 |_,_=>false
theorem fK {d:List al} {i j:Nat} {x y:al} (hx:d[i]?=some x) (hy:d[j]?=some y):dp d i j=gl x y:=by unfold dp;rw [hx,hy]
def fA (p:Nat->Bool) (i j:Nat):Nat:=
 if _h:i < j then if p ((i+j) / 2)=true then fA p ((i+j) / 2+1) j else fA p i ((i+j) / 2) else i
termination_by j - i
theorem eE {p:Nat->Bool} {i j:Nat} (h:¬i < j):fA p i j=i:=by rw [fA,dif_neg h]
theorem Cp {p:Nat->Bool} {i j:Nat} (h:i < j) (hp:p ((i+j) / 2)=true):fA p i j=fA p ((i+j) / 2+1) j:=by rw [fA,dif_pos h,if_pos hp]
theorem Cq {p:Nat->Bool} {i j:Nat} (h:i < j) (hp:p ((i+j) / 2)=false):fA p i j=fA p i ((i+j) / 2):=by rw [fA,dif_pos h,if_neg (by rw [hp];exact Bool.false_ne_true)]
theorem ka (p:Nat->Bool):∀ (n i j:Nat),j - i<=n->i<=j->i<=fA p i j/\fA p i j<=j/\(fA p i j=i\/p (fA p i j - 1)=true)/\(fA p i j=j\/p (fA p i j)=false)
 |0,i,j,hn,h=>by rw [eE (by omega)];exact ⟨Nat.le_refl _,h,.inl rfl,.inl (by omega)⟩
 |n+1,i,j,hn,h=>by
  by_cases hij:i < j
  ·cases hp:p ((i+j) / 2) with
   |true=>
    rw [Cp hij hp]
    obtain ⟨h1,h2,h3,h4⟩:=ka p n ((i+j) / 2+1) j (by omega) (by omega)
    refine ⟨by omega,h2,?_,h4⟩
    rcases h3 with h3|h3
    ·right;rw [h3,Nat.add_sub_cancel];exact hp
    ·exact .inr h3
   |false=>
    rw [Cq hij hp]
    obtain ⟨h1,h2,h3,h4⟩:=ka p n i ((i+j) / 2) (by omega) (by omega)
    refine ⟨h1,by omega,h3,?_⟩
    rcases h4 with h4|h4
    ·right;rw [h4];exact hp
    ·exact .inr h4
  ·rw [eE hij];exact ⟨Nat.le_refl _,h,.inl rfl,.inl (by omega)⟩
def nD (a:Nat):Nat->List al->List al
 |0,d=>d
 |n+1,d=>gK (nD a n d) (a+n) (a+n+1)
def nE (m:Nat):Nat->List al->List al
 |0,d=>d
 |n+1,d=>gK (nE m n d) (m - n) (m - n - 1)
theorem wU (a:Nat):∀ (n:Nat) (d:List al),(nD a n d).length=d.length
 |0,_=>rfl
 |n+1,d=>by unfold nD;rw [lC,wU a n]
theorem wW (m:Nat):∀ (n:Nat) (d:List al),(nE m n d).length=d.length
 |0,_=>rfl
 |n+1,d=>by unfold nE;rw [lC,wW m n]
theorem wV (P:List al) (x:al):∀ (n:Nat) (V R:List al),V.length=n->nD P.length n (P++x::(V++R))=P++V++x::R
 |0,V,R,h=>by obtain rfl:=List.eq_nil_of_length_eq_zero h;simp [nD]
 |n+1,V,R,h=>by
  rcases jk V with rfl|⟨V',y,rfl⟩
  ·cases h
  ·have hn:V'.length=n:=by simpa using h
   unfold nD
   rw [show P++x::(V'++[y]++R)=P++x::(V'++(y::R)) by simp,wV P x n V' (y::R) hn]
   have:=nO (P++V') [] R x y (i:=P.length+n) (j:=P.length+n+1) (by simp;omega) (by simp;omega)
   rw [List.nil_append,List.nil_append] at this
   rw [this];simp
theorem wX (P:List al) (x:al) (R:List al):∀ (n:Nat) (U1 U2:List al),U2.length=n->nE (P++U1++U2).length n (P++U1++U2++x::R)=P++U1++x::(U2++R)
 |0,U1,U2,h=>by obtain rfl:=List.eq_nil_of_length_eq_zero h;simp [nE]
 |n+1,U1,U2,h=>by
  cases U2 with
  |nil=>cases h
  |cons y U=>
   have hn:U.length=n:=by simpa using h
   unfold nE
   have e1:P++U1++y::U=P++(U1++[y])++U:=by simp
   rw [e1,wX P x R n (U1++[y]) U hn]
   have:=qD (P++U1) [] (U++R) y x (i:=(P++(U1++[y])++U).length - n - 1) (j:=(P++(U1++[y])++U).length - n) (by simp;omega) (by simp;omega)
   rw [List.nil_append,List.nil_append] at this
   rw [show P++(U1++[y])++x::(U++R)=P++U1++y::x::(U++R) by simp,this]
   simp
def fT (a b:Nat):Nat->List al->List al
 |0,d=>d
 |n+1,d=>gK (fT a b n d) (a+n) (b+n)
theorem iz (a b:Nat):∀ (n:Nat) (d:List al),(fT a b n d).length=d.length
 |0,_=>rfl
 |n+1,d=>by unfold fT;rw [lC,iz a b n]
theorem lB (p:List al):∀ (n:Nat) (x q y r:List al) {b:Nat},x.length=n->y.length=n->b=p.length+n+q.length->fT p.length b n (p++(x++(q++(y++r))))=p++(y++(q++(x++r)))
 |0,x,q,y,r,b,hx,hy,_=>by obtain rfl:=List.eq_nil_of_length_eq_zero hx;obtain rfl:=List.eq_nil_of_length_eq_zero hy;rfl
 |n+1,x,q,y,r,b,hx,hy,hb=>by
  rcases jk x with rfl|⟨x',x1,rfl⟩
  ·cases hx
  rcases jk y with rfl|⟨y',y1,rfl⟩
  ·cases hy
  have h1:x'.length=n:=by simpa using hx
  have h2:y'.length=n:=by simpa using hy
  unfold fT
  have:=lB p n x' (x1::q) y' (y1::r) (b:=b) h1 h2 (by simp;omega)
  rw [show p++(x'++[x1]++(q++(y'++[y1]++r)))=p++(x'++(x1::q++(y'++y1::r))) by simp,this]
  have:=nO (p++y') (q++x') r x1 y1 (i:=p.length+n) (j:=b+n) (by simp;omega) (by simp;omega)
  rw [show p++(y'++(x1::q++(x'++y1::r)))=p++y'++x1::(q++x'++y1::r) by simp,this]
  simp
def iP (m:Nat) (i j:Nat) (d:List al):List al:=
 if _h:0 < i/\0 < j then
  if i=j then fT (m - i) m i d
  else if i > j then iP m (i - j) j (fT (m - i) m j d)
  else iP m i (j - i) (fT (m - i) (m+j - i) i d)
 else d
termination_by i+j
theorem yU {m i:Nat} {d:List al} (hi:0 < i):iP m i i d=fT (m - i) m i d:=by rw [iP,dif_pos ⟨hi,hi⟩,if_pos rfl]
theorem yT {m i j:Nat} {d:List al} (hj:0 < j) (h:i > j):iP m i j d=iP m (i - j) j (fT (m - i) m j d):=by rw [iP,dif_pos ⟨by omega,hj⟩,if_neg (by omega),if_pos h]
theorem yS {m i j:Nat} {d:List al} (hi:0 < i) (h:i < j):iP m i j d=iP m i (j - i) (fT (m - i) (m+j - i) i d):=by rw [iP,dif_pos ⟨hi,by omega⟩,if_neg (by omega),if_neg (by omega)]
theorem rM:∀ (n:Nat) (P u v R:List al) (m:Nat),u.length+v.length<=n->0 < u.length->0 < v.length->m=P.length+u.length->iP m u.length v.length (P++(u++(v++R)))=P++(v++(u++R))
 |0,P,u,v,R,m,hn,hu,hv,hm=>by omega
 |n+1,P,u,v,R,m,hn,hu,hv,hm=>by
  rcases Nat.lt_trichotomy u.length v.length with h|h|h
  ·rw [yS hu h]
   have e:v=v.take (v.length - u.length)++v.drop (v.length - u.length):=(List.take_append_drop _ _).symm
   have l1:(v.take (v.length - u.length)).length=v.length - u.length:=by rw [List.length_take];omega
   have l2:(v.drop (v.length - u.length)).length=u.length:=by rw [List.length_drop];omega
   generalize hv1:v.take (v.length - u.length)=v1 at e l1
   generalize hv2:v.drop (v.length - u.length)=v2 at e l2
   have h1:=lB P u.length u v1 v2 R (b:=m+v.length - u.length) rfl l2 (by omega)
   rw [show m - u.length=P.length by omega,show P++(u++(v++R))=P++(u++(v1++(v2++R))) by rw [e];simp,h1,<-l1]
   have h2:=rM n P v2 v1 (u++R) m (by omega) (by omega) (by omega) (by omega)
   rw [l2] at h2
   rw [h2,e];simp
  ·rw [<-h,yU hu,show m - u.length=P.length by omega]
   have h1:=lB P u.length u [] v R (b:=m) rfl h.symm (by simp;omega)
   simpa using h1
  ·rw [yT hv h]
   have e:u=u.take v.length++u.drop v.length:=(List.take_append_drop _ _).symm
   have l1:(u.take v.length).length=v.length:=by rw [List.length_take];omega
   have l2:(u.drop v.length).length=u.length - v.length:=by rw [List.length_drop]
   generalize hv1:u.take v.length=u1 at e l1
   generalize hv2:u.drop v.length=u2 at e l2
   have h1:=lB P v.length u1 u2 v R (b:=m) l1 rfl (by omega)
   rw [show m - u.length=P.length by omega,show P++(u++(v++R))=P++(u1++(u2++(v++R))) by rw [e];simp,h1,<-l2]
   have h2:=rM n (P++v) u2 u1 R m (by omega) (by omega) (by omega) (by simp;omega)
   rw [l1] at h2
   rw [show P++(v++(u2++(u1++R)))=P++v++(u2++(u1++R)) by simp,h2,e];simp
theorem mr:∀ (n m i j:Nat) (d:List al),i+j<=n->(iP m i j d).length=d.length
 |0,m,i,j,d,h=>by rw [iP,dif_neg (by omega)]
 |n+1,m,i,j,d,h=>by
  rw [iP]
  split
  ·split
   ·rw [iz]
   ·split
    ·rw [mr n _ _ _ _ (by omega),iz]
    ·rw [mr n _ _ _ _ (by omega),iz]
  ·rfl
def eb (d:List al) (a m b:Nat):Nat:=
 if m > (a+b) / 2 then fA (fun c=>!dp d ((a+b) / 2+m - 1 - c) c) ((a+b) / 2+m - b) ((a+b) / 2)
 else fA (fun c=>!dp d ((a+b) / 2+m - 1 - c) c) a m
def eN (s m e:Nat) (d:List al):List al:=if s < m/\m < e then iP m (m - s) (e - m) d else d
def dw:Nat->Nat->Nat->Nat->List al->List al
 |0,_,_,_,d=>d
 |f+1,a,m,b,d=>
  if m - a=1 then nD a (fA (fun h=>dp d h a) m b - 1 - a) d
  else if b - m=1 then nE m (m - fA (fun h=>!dp d m h) a m) d
  else
   (fun s=>(fun e=>(fun d1=>(fun d2=>if (a+b) / 2 < e/\e < b then dw f ((a+b) / 2) e b d2 else d2)
    (if a < s/\s < (a+b) / 2 then dw f a s ((a+b) / 2) d1 else d1)) (eN s m e d)) ((a+b) / 2+m - s)) (eb d a m b)
theorem kN (s m e:Nat) (d:List al):(eN s m e d).length=d.length:=by unfold eN;split;exact mr _ _ _ _ _ (Nat.le_refl _);rfl
theorem eG:∀ (f a m b:Nat) (d:List al),(dw f a m b d).length=d.length
 |0,_,_,_,_=>rfl
 |f+1,a,m,b,d=>by
  unfold dw
  split
  ·rw [wU]
  ·split
   ·rw [wW]
   ·dsimp only
    split
    ·rw [eG f]
     split
     ·rw [eG f,kN]
     ·rw [kN]
    ·split
     ·rw [eG f,kN]
     ·rw [kN]
theorem sY {a i:Nat} {d:List al} (h:a+1<=i):iT a (i+1 - (a+1)) d=jh a i (iT a (i - (a+1)) d):=by
 rw [show i+1 - (a+1)=(i - (a+1))+1 by omega]
 conv=>lhs;unfold iT
 rw [show a+1+(i - (a+1))=i by omega]
theorem AN {a k:Nat} {d:List al} (h:a<=k):nD a (k+1 - a) d=gK (nD a (k - a) d) k (k+1):=by
 rw [show k+1 - a=(k - a)+1 by omega]
 conv=>lhs;unfold nD
 rw [show a+(k - a)=k by omega]
theorem AO {m k:Nat} {d:List al} (h:k<=m) (h0:0 < k):nE m (m - (k - 1)) d=gK (nE m (m - k) d) k (k - 1):=by
 rw [show m - (k - 1)=(m - k)+1 by omega]
 conv=>lhs;unfold nE
 rw [show m - (m - k)=k by omega]
theorem lM {P X:List al} {k n:Nat} (hn:n=P.length+k):(P++X)[n]?=X[k]?:=by
 subst hn;rw [List.getElem?_append_right (by omega),Nat.add_sub_cancel_left]
theorem le_last {B:List al} {x:al} (h:eO B) (hl:∀ A0 y,B=A0++[y]->gl y x=true):∀ z∈B,gl z x=true:=by
 rcases jk B with rfl|⟨A',y,h'⟩
 ·simp
 ·intro z hz
  have h1:=hl A' y h'
  rw [h'] at h hz
  rcases List.mem_append.1 hz with hz|hz
  ·exact zh ((gn.1 h).2.2 z hz y (List.mem_singleton.2 rfl)) h1
  ·rw [List.mem_singleton.1 hz];exact h1
theorem Bl {B:List al} {x:al} (h:eO B) (hl:∀ y B0,B=y::B0->gl x y=true):∀ z∈B,gl x z=true:=by
 cases B with
 |nil=>simp
 |cons y B0=>
  intro z hz
  have h1:=hl y B0 rfl
  rcases List.mem_cons.1 hz with rfl|hz
  ·exact h1
  ·exact uL h1 ((List.pairwise_cons.1 h).1 z hz)
theorem Bm {B:List al} {x:al} (h:eO B) (hl:∀ y B0,B=y::B0->fL x y):∀ z∈B,fL x z:=by
 cases B with
 |nil=>simp
 |cons y B0=>
  intro z hz
  have h1:=hl y B0 rfl
  rcases List.mem_cons.1 hz with rfl|hz
  ·exact h1
  ·exact kr h1 ((List.pairwise_cons.1 h).1 z hz)
theorem uj {A:List al} {y:al} {A0:List al} (h:A=A0++[y]):A[A.length - 1]?=some y:=by subst h;simp
theorem mJ (l:List al) (k:Nat) (h:k<=l.length):∃ u v,l=u++v/\u.length=k:=⟨l.take k,l.drop k,(List.take_append_drop k l).symm,by rw [List.length_take];omega⟩
theorem tf {U:List al} {u:al} (h:eO U) (hu:U[0]?=some u):∀ x∈U,fL u x:=by
 cases U with
 |nil=>simp
 |cons y U=>
  simp at hu;subst hu
  intro x hx
  rcases List.mem_cons.1 hx with rfl|hx
  ·exact mZ _
  ·exact (List.pairwise_cons.1 h).1 x hx
theorem uO {V:List al} {v:al} (h:eO V) (hv:V[V.length - 1]?=some v):∀ y∈V,fL y v:=by
 rcases jk V with rfl|⟨A,z,rfl⟩
 ·simp
 ·simp at hv;subst hv
  exact ui h (mZ _)
theorem get_some {V:List al} {k:Nat} (h:k < V.length):∃ v,V[k]?=some v:=⟨V[k],List.getElem?_eq_getElem h⟩
theorem pQ:∀ (f:Nat) (P A B R:List al),A.length+B.length<=f->0 < A.length->0 < B.length->eO A->eO B->
  ∃ C,dw f P.length (P.length+A.length) (P.length+A.length+B.length) (P++(A++(B++R)))=P++(C++R)/\eO C/\Same (A++B) C
 |0,P,A,B,R,hf,ha,hb,_,_=>by omega
 |f+1,P,A,B,R,hf,ha,hb,sA,sB=>by
  obtain ⟨a,hea⟩:∃ a,a=P.length:=⟨_,rfl⟩
  obtain ⟨m,hem⟩:∃ m,m=P.length+A.length:=⟨_,rfl⟩
  obtain ⟨b,heb⟩:∃ b,b=P.length+A.length+B.length:=⟨_,rfl⟩
  rw [<-hea,show a+A.length=m by omega,show m+B.length=b by omega]
  unfold dw
  split
  ·
   rename_i h1
   obtain ⟨x,rfl⟩:∃ x,A=[x]:=by
    match A,ha,(by omega:A.length=1) with
    |[x],_,_=>exact ⟨x,rfl⟩
   have hl1:[x].length=1:=rfl
   obtain ⟨q1,q2,q3,q4⟩:=ka (fun h=>dp (P++([x]++(B++R))) h a) (b - m) m b (Nat.le_refl _) (by omega)
   generalize fA (fun h=>dp (P++([x]++(B++R))) h a) m b=i at q1 q2 q3 q4
   obtain ⟨B1,B2,rfl,hB1⟩:=mJ B (i - m) (by omega)
   rw [List.length_append] at heb
   have gx:(P++([x]++(B1++B2++R)))[a]?=some x:=by rw [lM (k:=0) (by omega)];rfl
   have gB:∀ k,k < B1.length+B2.length->(P++([x]++(B1++B2++R)))[m+k]?=(B1++B2)[k]?:=fun k hk=>by
    rw [lM (k:=k+1) (by omega),List.cons_append,List.getElem?_cons_succ,List.nil_append,List.getElem?_append_left (by simp;omega)]
   obtain ⟨s1,s2,s3⟩:=gn.1 sB
   have w1:∀ z∈B1,gl z x=true:=le_last s1 fun A0 y hy=>by
    have hpos:0 < B1.length:=by rw [hy];simp
    rcases q3 with q3|q3
    ·omega
    ·have g1:=gB (B1.length - 1) (by omega)
     rw [List.getElem?_append_left (l₁:=B1) (by omega),uj hy,show m+(B1.length - 1)=i - 1 by omega] at g1
     have q3:dp (P++([x]++(B1++B2++R))) (i - 1) a=true:=q3
     rwa [fK g1 gx] at q3
   have w2:∀ z∈B2,fL x z:=Bm s2 fun y B0 hy=>by
    have hpos:0 < B2.length:=by rw [hy];simp
    rcases q4 with q4|q4
    ·omega
    ·have g1:=gB B1.length (by omega)
     have g2:B2[0]?=some y:=by rw [hy];rfl
     rw [List.getElem?_append_right (l₁:=B1) (Nat.le_refl _),Nat.sub_self,g2,show m+B1.length=i by omega] at g1
     have q4:dp (P++([x]++(B1++B2++R))) i a=false:=q4
     rw [fK g1 gx] at q4
     exact qS.1 q4
   obtain ⟨t1,t2⟩:=CD sB w1 w2
   refine ⟨B1++x::B2,?_,t1,t2⟩
   have h2:=wV P x B1.length B1 (B2++R) rfl
   rw [show i - 1 - a=B1.length by omega,hea,show P++([x]++(B1++B2++R))=P++x::(B1++(B2++R)) by simp,h2]
   simp
  ·split
   ·
    rename_i h0 h1
    obtain ⟨x,rfl⟩:∃ x,B=[x]:=by
     match B,hb,(by omega:B.length=1) with
     |[x],_,_=>exact ⟨x,rfl⟩
    have hl1:[x].length=1:=rfl
    obtain ⟨q1,q2,q3,q4⟩:=ka (fun h=>!dp (P++(A++([x]++R))) m h) (m - a) a m (Nat.le_refl _) (by omega)
    generalize fA (fun h=>!dp (P++(A++([x]++R))) m h) a m=i at q1 q2 q3 q4
    obtain ⟨A1,A2,rfl,hA1⟩:=mJ A (i - a) (by omega)
    rw [List.length_append] at hem heb
    have gx:(P++(A1++A2++([x]++R)))[m]?=some x:=by rw [lM (k:=A1.length+A2.length) (by omega),lM (k:=0) (by simp)];rfl
    have gA:∀ k,k < A1.length+A2.length->(P++(A1++A2++([x]++R)))[a+k]?=(A1++A2)[k]?:=fun k hk=>by
     rw [lM (k:=k) (by omega),List.getElem?_append_left (by simp;omega)]
    obtain ⟨s1,s2,s3⟩:=gn.1 sA
    have w1:∀ z∈A1,fL z x:=zi s1 fun A0 y hy=>by
     have hpos:0 < A1.length:=by rw [hy];simp
     rcases q3 with q3|q3
     ·omega
     ·have g1:=gA (A1.length - 1) (by omega)
      rw [List.getElem?_append_left (l₁:=A1) (by omega),uj hy,show a+(A1.length - 1)=i - 1 by omega] at g1
      have q3:(!dp (P++(A1++A2++([x]++R))) m (i - 1))=true:=q3
      rw [fK gx g1,Bool.not_eq_true'] at q3
      exact qS.1 q3
    have w2:∀ z∈A2,gl x z=true:=Bl s2 fun y B0 hy=>by
     have hpos:0 < A2.length:=by rw [hy];simp
     rcases q4 with q4|q4
     ·omega
     ·have g1:=gA A1.length (by omega)
      have g2:A2[0]?=some y:=by rw [hy];rfl
      rw [List.getElem?_append_right (l₁:=A1) (Nat.le_refl _),Nat.sub_self,g2,show a+A1.length=i by omega] at g1
      have q4:(!dp (P++(A1++A2++([x]++R))) m i)=false:=q4
      rw [fK gx g1,Bool.not_eq_false'] at q4
      exact q4
    obtain ⟨t1,t2⟩:=ze sA w1 w2
    refine ⟨A1++x::A2,?_,t1,t2⟩
    have h2:=wX P x R A2.length A1 A2 rfl
    rw [show (P++A1++A2).length=m by simp;omega] at h2
    rw [show m - i=A2.length by omega,show P++(A1++A2++([x]++R))=P++A1++A2++x::R by simp,h2]
    simp
   ·
    rename_i h0 h1
    obtain ⟨mid,hmid⟩:∃ mid,mid=(a+b) / 2:=⟨_,rfl⟩
    have hs:∃ s,eb (P++(A++(B++R))) a m b=s/\a<=s/\s<=m/\s<=mid/\mid+m - s<=b/\
      (s=m\/s=mid\/dp (P++(A++(B++R))) (mid+m - 1 - s) s=true)/\(s=a\/mid+m - s=b\/dp (P++(A++(B++R))) (mid+m - s) (s - 1)=false):=by
     refine ⟨_,rfl,?_⟩
     unfold eb
     rw [<-hmid]
     split
     ·obtain ⟨q1,q2,q3,q4⟩:=ka (fun c=>!dp (P++(A++(B++R))) (mid+m - 1 - c) c) (mid - (mid+m - b)) (mid+m - b) mid (Nat.le_refl _) (by omega)
      generalize fA (fun c=>!dp (P++(A++(B++R))) (mid+m - 1 - c) c) (mid+m - b) mid=s at q1 q2 q3 q4
      refine ⟨by omega,by omega,by omega,by omega,?_,?_⟩
      ·rcases q4 with q4|q4
       ·exact .inr (.inl q4)
       ·right;right;simpa using q4
      ·rcases q3 with q3|q3
       ·right;left;omega
       ·by_cases hs0:s=a
        ·exact .inl hs0
        ·right;right
         have q3:(!dp (P++(A++(B++R))) (mid+m - 1 - (s - 1)) (s - 1))=true:=q3
         rw [show mid+m - 1 - (s - 1)=mid+m - s by omega] at q3;simpa using q3
     ·obtain ⟨q1,q2,q3,q4⟩:=ka (fun c=>!dp (P++(A++(B++R))) (mid+m - 1 - c) c) (m - a) a m (Nat.le_refl _) (by omega)
      generalize fA (fun c=>!dp (P++(A++(B++R))) (mid+m - 1 - c) c) a m=s at q1 q2 q3 q4
      refine ⟨by omega,by omega,by omega,by omega,?_,?_⟩
      ·rcases q4 with q4|q4
       ·exact .inl q4
       ·right;right;simpa using q4
      ·rcases q3 with q3|q3
       ·exact .inl q3
       ·by_cases hs0:s=a
        ·exact .inl hs0
        ·right;right
         have q3:(!dp (P++(A++(B++R))) (mid+m - 1 - (s - 1)) (s - 1))=true:=q3
         rw [show mid+m - 1 - (s - 1)=mid+m - s by omega] at q3;simpa using q3
    obtain ⟨s,hs0,hs1,hs2,hs3,hs4,hs5,hs6⟩:=hs
    dsimp only
    rw [hs0,<-hmid]
    obtain ⟨A1,U,rfl,hA1⟩:=mJ A (s - a) (by omega)
    rw [List.length_append] at hem heb ha hf
    obtain ⟨V,B2,rfl,hV⟩:=mJ B (mid+m - s - m) (by omega)
    rw [List.length_append] at heb hb hf
    have gA:∀ k,k < A1.length+U.length->(P++(A1++U++(V++B2++R)))[a+k]?=(A1++U)[k]?:=fun k hk=>by
     rw [lM (k:=k) (by omega),List.getElem?_append_left (by simp;omega)]
    have gB:∀ k,k < V.length+B2.length->(P++(A1++U++(V++B2++R)))[m+k]?=(V++B2)[k]?:=fun k hk=>by
     rw [lM (k:=A1.length+U.length+k) (by omega),lM (k:=k) (by simp),List.getElem?_append_left (by simp;omega)]
    obtain ⟨a1,a2,a3⟩:=gn.1 sA
    obtain ⟨b1,b2,b3⟩:=gn.1 sB
    have w1:∀ x∈U,∀ y∈V,gl y x=true:=by
     intro x hx y hy
     have hU:0 < U.length:=List.length_pos_of_mem hx
     have hVp:0 < V.length:=List.length_pos_of_mem hy
     rcases hs5 with h5|h5|h5
     ·omega
     ·omega
     ·obtain ⟨v,hv⟩:=get_some (V:=V) (k:=V.length - 1) (by omega)
      obtain ⟨u,hu⟩:=get_some (V:=U) (k:=0) hU
      have g1:=gB (V.length - 1) (by omega)
      rw [List.getElem?_append_left (l₁:=V) (by omega),hv,show m+(V.length - 1)=mid+m - 1 - s by omega] at g1
      have g2:=gA A1.length (by omega)
      rw [List.getElem?_append_right (l₁:=A1) (Nat.le_refl _),Nat.sub_self,hu,show a+A1.length=s by omega] at g2
      rw [fK g1 g2] at h5
      exact uL (zh (uO b1 hv y hy) h5) (tf a2 hu x hx)
    have w2:∀ x∈A1,∀ y∈B2,fL x y:=by
     intro x hx y hy
     have hAp:0 < A1.length:=List.length_pos_of_mem hx
     have hBp:0 < B2.length:=List.length_pos_of_mem hy
     rcases hs6 with h6|h6|h6
     ·omega
     ·omega
     ·obtain ⟨v,hv⟩:=get_some (V:=A1) (k:=A1.length - 1) (by omega)
      obtain ⟨u,hu⟩:=get_some (V:=B2) (k:=0) hBp
      have g1:=gB V.length (by omega)
      rw [List.getElem?_append_right (l₁:=V) (Nat.le_refl _),Nat.sub_self,hu,show m+V.length=mid+m - s by omega] at g1
      have g2:=gA (A1.length - 1) (by omega)
      rw [List.getElem?_append_left (l₁:=A1) (by omega),hv,show a+(A1.length - 1)=s - 1 by omega] at g2
      rw [fK g1 g2] at h6
      exact kr (uO a1 hv x hx) (kr (qS.1 h6) (tf b2 hu y hy))
    have hr:eN s m (mid+m - s) (P++(A1++U++(V++B2++R)))=P++(A1++(V++(U++(B2++R)))):=by
     unfold eN
     have e0:P++(A1++U++(V++B2++R))=P++A1++(U++(V++(B2++R))):=by simp
     split
     ·have:=rM (U.length+V.length) (P++A1) U V (B2++R) m (Nat.le_refl _) (by omega) (by omega) (by simp;omega)
      rw [show m - s=U.length by omega,show mid+m - s - m=V.length by omega,e0,this];simp
     ·rcases (by omega:U.length=0\/V.length=0) with hz|hz
      ·obtain rfl:=List.eq_nil_of_length_eq_zero hz;simp
      ·obtain rfl:=List.eq_nil_of_length_eq_zero hz;simp
    rw [hr]
    have hL:∃ C1,(if a < s/\s < mid then dw f a s mid (P++(A1++(V++(U++(B2++R))))) else P++(A1++(V++(U++(B2++R)))))=P++(C1++(U++(B2++R)))/\eO C1/\Same (A1++V) C1:=by
     split
     ·obtain ⟨C1,c1,c2,c3⟩:=pQ f P A1 V (U++(B2++R)) (by omega) (by omega) (by omega) a1 b1
      rw [<-hea,show a+A1.length=s by omega,show s+V.length=mid by omega] at c1
      exact ⟨C1,c1,c2,c3⟩
     ·rcases (by omega:A1.length=0\/V.length=0) with hz|hz
      ·obtain rfl:=List.eq_nil_of_length_eq_zero hz;exact ⟨V,by simp,b1,Same.refl _⟩
      ·obtain rfl:=List.eq_nil_of_length_eq_zero hz;exact ⟨A1,by simp,a1,by rw [List.append_nil];exact Same.refl _⟩
    obtain ⟨C1,c1,c2,c3⟩:=hL
    rw [c1]
    have hc1:C1.length=A1.length+V.length:=by rw [<-c3.len,List.length_append]
    have hR:∃ C2,(if mid < mid+m - s/\mid+m - s < b then dw f mid (mid+m - s) b (P++(C1++(U++(B2++R)))) else P++(C1++(U++(B2++R))))=P++(C1++(C2++R))/\eO C2/\Same (U++B2) C2:=by
     split
     ·obtain ⟨C2,d1,d2,d3⟩:=pQ f (P++C1) U B2 R (by omega) (by omega) (by omega) a2 b2
      rw [List.length_append,show P.length+C1.length=mid by omega,show mid+U.length=mid+m - s by omega,show mid+m - s+B2.length=b by omega] at d1
      exact ⟨C2,by simpa using d1,d2,d3⟩
     ·rcases (by omega:U.length=0\/B2.length=0) with hz|hz
      ·obtain rfl:=List.eq_nil_of_length_eq_zero hz;exact ⟨B2,by simp,b2,Same.refl _⟩
      ·obtain rfl:=List.eq_nil_of_length_eq_zero hz;exact ⟨U,by simp,a2,by rw [List.append_nil];exact Same.refl _⟩
    obtain ⟨C2,d1,d2,d3⟩:=hR
    refine ⟨C1++C2,by rw [d1];simp,gn.2 ⟨c2,d2,?_⟩,?_⟩
    ·intro x hx y hy
     rcases List.mem_append.1 (c3.mem.2 hx) with hx|hx
     ·rcases List.mem_append.1 (d3.mem.2 hy) with hy|hy
      ·exact a3 x hx y hy
      ·exact w2 x hx y hy
     ·rcases List.mem_append.1 (d3.mem.2 hy) with hy|hy
      ·exact ku (w1 y hy x hx)
      ·exact b3 x hx y hy
    ·have e1:Same (A1++U++(V++B2)) (A1++(V++(U++B2))):=by
      have:=(Same.refl A1).app ((Same.comm w1).app (Same.refl B2))
      simpa using this
     have e2:=c3.app d3
     rw [List.append_assoc] at e2
     exact e1.trans e2
theorem yF {f:Nat} {d:List al} {a m b:Nat} (h1:a < m) (h2:m < b) (h3:b<=d.length) (hf:b - a<=f) (sA:eO ((d.drop a).take (m - a))) (sB:eO ((d.drop m).take (b - m))):Part d (dw f a m b d) a b:=by
 have e1:=parts (d:=d) (a:=a) (b:=b) (by omega) h3
 have e2:(d.drop a).take (b - a)=(d.drop a).take (m - a)++(d.drop m).take (b - m):=by
  rw [show b - a=(m - a)+(b - m) by omega,List.take_add,List.drop_drop,show a+(m - a)=m by omega]
 have l1:(d.take a).length=a:=by rw [List.length_take];omega
 have l2:((d.drop a).take (m - a)).length=m - a:=by rw [List.length_take,List.length_drop];omega
 have l3:((d.drop m).take (b - m)).length=b - m:=by rw [List.length_take,List.length_drop];omega
 obtain ⟨C,c1,c2,c3⟩:=pQ f (d.take a) ((d.drop a).take (m - a)) ((d.drop m).take (b - m)) (d.drop b) (by omega) (by omega) (by omega) sA sB
 rw [l1,l2,l3,show a+(m - a)=m by omega,show m+(b - m)=b by omega] at c1
 rw [<-e2] at c3
 rw [e2] at e1
 have e3:d.take a++((d.drop a).take (m - a)++((d.drop m).take (b - m)++d.drop b))=d:=by rw [<-List.append_assoc,<-List.append_assoc,List.append_assoc (d.take a)];exact e1.symm
 rw [e3] at c1
 have:=Part.of (P:=d.take a) (X:=(d.drop a).take (b - a)) (C:=C) (R:=d.drop b) (a:=a) (b:=b) l1 (by rw [List.length_take,List.length_drop];omega) c2 c3
 rwa [e2,<-e1,List.append_assoc,<-c1] at this
theorem rq {p:Nat->Bool} {i j h R:Nat} (hb:fA p i j=R) (hij:i < j) (hh:h=(i+j) / 2) (hp:p h=true):fA p (h+1) j=R:=by
 subst hh;rw [<-hb,Cp hij hp]
theorem rr {p:Nat->Bool} {i j h R:Nat} (hb:fA p i j=R) (hij:i < j) (hh:h=(i+j) / 2) (hp:p h=false):fA p i h=R:=by
 subst hh;rw [<-hb,Cq hij hp]
theorem dS {f a m b mid s e:Nat} {d d1 d2 d3:List al} (h0:¬m - a=1) (h1:¬b - m=1) (hm:mid=(a+b) / 2) (hs:eb d a m b=s) (he:mid+m - s=e) (hd1:eN s m e d=d1)
  (hd2:(if a < s/\s < mid then dw f a s mid d1 else d1)=d2) (hd3:(if mid < e/\e < b then dw f mid e b d2 else d2)=d3):dw (f+1) a m b d=d3:=by
 subst hm he hd1 hd2 hd3 hs
 rw [dw.eq_2,if_neg h0,if_neg h1]
end Go.Proofs.Ytegepioggeggaaa.Dev
