/- A part of the proof: PlBook, Com, Book5, Book7, Book9, PlSort, PlSort2, PlSort3. No condition. -/
import Derived.Test.YtegepioggeggaaaD05
set_option linter.unusedVariables false
set_option linter.unusedSimpArgs false
set_option maxHeartbeats 2000000
set_option maxRecDepth 100000
namespace Go.Proofs.Ytegepioggeggaaa.Dev
open Go.RowKit
def eS (x:Entry):Prop:=x.aR < 0\/x.aR > 57\/x.sum < -1000000000000\/x.sum > 1000000000000
instance (x:Entry):Decidable (eS x):=by unfold eS;infer_instance
def kA (l:List Entry) (q:Nat):Int:=
 match l[q]? with
 |some x=>if eS x then 3 else if (0 < q/\(l.getD (q - 1) ⟨0,0⟩).aR>=x.aR)\/x.sum=0 then 2 else 0
 |none=>0
def eh:List Entry->Int
 |[]=>0
 |x::l=>x.sum+eh l
def ei (l:List Entry):cX:=if (scan (kA l) 0 l.length).1≠0 then ⟨(scan (kA l) 0 l.length).1,(scan (kA l) 0 l.length).2⟩ else if eh l≠0 then ⟨8,0⟩ else ⟨0,0⟩
theorem yw (x:Entry) (l:List Entry):eh (x::l)=x.sum+eh l:=rfl
theorem lW (l r:List Entry):eh (l++r)=eh l+eh r:=by
 induction l with
 |nil=>simp [eh]
 |cons x l ih=>simp only [List.cons_append,eh,ih];omega
theorem sn {α:Type} {l:List α} {q:Nat} {x:α} (h:l[q]?=some x):l.take (q+1)=l.take q++[x]:=by
 obtain ⟨hlt,rfl⟩:=List.getElem?_eq_some_iff.1 h
 rw [List.take_add_one,List.getElem?_eq_getElem hlt];rfl
theorem jc {l:List Entry} {q:Nat} {x:Entry} (h:l[q]?=some x):eh (l.take (q+1))=eh (l.take q)+x.sum:=by
 rw [sn h,lW];simp [eh]
def ie (l:List Entry) (q:Nat):Int:=if q=0 then -1 else (l.getD (q - 1) ⟨0,0⟩).aR
theorem jx {l:List Entry} {q:Nat} {x:Entry} (h:l[q]?=some x):ie l (q+1)=x.aR:=by
 unfold ie
 rw [if_neg (by omega),List.getD_eq_getElem?_getD,Nat.add_sub_cancel,h];rfl
theorem kl {l:List Entry} {q:Nat} {x:Entry} (hq:0 < q) (h:l[q - 1]?=some x):ie l q=x.aR:=by
 unfold ie
 rw [if_neg (by omega),List.getD_eq_getElem?_getD,h];rfl
theorem gR {l:List Entry} {q:Nat} {x:Entry} (h:l[q]?=some x):kA l q=if eS x then 3 else if (0 < q/\ie l q>=x.aR)\/x.sum=0 then 2 else 0:=by
 unfold kA
 rw [h]
 by_cases hq:q=0
 ·subst hq;simp
 ·unfold ie;rw [if_neg hq]
structure iU (l:List Entry):Prop where
 up:Up l
 ok:∀ x∈l,0<=x.aR/\x.aR<=57/\-1000000000000<=x.sum/\x.sum<=1000000000000/\x.sum≠0
theorem Eo {l:List Entry} (h:∀ q x y,l[q]?=some x->l[q+1]?=some y->x.aR < y.aR):Up l:=by
 unfold Up
 induction l with
 |nil=>exact List.Pairwise.nil
 |cons x l ih=>
  have h2:=ih fun q a b ha hb=>h (q+1) a b (by simpa using ha) (by simpa using hb)
  refine List.pairwise_cons.2 ⟨fun y hy=>?_,h2⟩
  cases l with
  |nil=>cases hy
  |cons z l=>
   have hz:=h 0 x z (by simp) (by simp)
   rcases List.mem_cons.1 hy with rfl|hy
   ·exact hz
   ·have:=(List.pairwise_cons.1 h2).1 y hy;omega
theorem yn {l:List Entry} (h:Up l) {i j:Nat} {x y:Entry} (hij:i < j) (hx:l[i]?=some x) (hy:l[j]?=some y):x.aR < y.aR:=by
 obtain ⟨hi,rfl⟩:=List.getElem?_eq_some_iff.1 hx
 obtain ⟨hj,rfl⟩:=List.getElem?_eq_some_iff.1 hy
 exact List.pairwise_iff_getElem.1 h i j hi hj hij
theorem yB {l:List Entry}:(scan (kA l) 0 l.length).1=0↔iU l:=by
 rw [mR]
 constructor
 ·intro h
  have at':∀ q x,l[q]?=some x->¬eS x/\¬((0 < q/\ie l q>=x.aR)\/x.sum=0):=fun q x hx=>by
   have hq:=(List.getElem?_eq_some_iff.1 hx).1
   have h1:=h q (Nat.zero_le _) (by omega)
   rw [gR hx] at h1
   split at h1
   ·cases h1
   ·split at h1
    ·cases h1
    ·exact ⟨by assumption,by assumption⟩
  refine ⟨Eo fun q x y hx hy=>?_,fun x hx=>?_⟩
  ·have h1:=(at' (q+1) y hy).2
   rw [jx hx] at h1
   omega
  ·obtain ⟨q,hq⟩:=List.getElem?_of_mem hx
   have h1:=at' q x hq
   unfold eS at h1
   omega
 ·intro h q _ hq
  obtain ⟨x,hx⟩:∃ x,l[q]?=some x:=⟨_,List.getElem?_eq_getElem (by omega)⟩
  have h1:=h.ok x (List.mem_of_getElem? hx)
  rw [gR hx,if_neg (by unfold eS;omega),if_neg]
  rintro (⟨h2,h3⟩|h2)
  ·obtain ⟨y,hy⟩:∃ y,l[q - 1]?=some y:=⟨_,List.getElem?_eq_getElem (by omega)⟩
   rw [kl h2 hy] at h3
   have:=yn h.up (by omega:q - 1 < q) hy hx
   omega
  ·exact h1.2.2.2.2 h2
theorem kG {l:List Entry}:(ei l).err=0↔iU l/\eh l=0:=by
 unfold ei
 rw [<-yB]
 split
 ·rename_i h;constructor
  ·intro h1;exact absurd h1 h
  ·intro h1;exact absurd h1.1 h
 ·rename_i h
  split
  ·rename_i h2;constructor
   ·intro h1;cases h1
   ·intro h1;exact absurd h1.2 h2
  ·rename_i h2;constructor
   ·intro _;exact ⟨by omega,by omega⟩
   ·intro _;rfl
theorem sH {l:List Entry} (h:iU l):l.length<=58:=by
 have key:∀ (q:Nat) (x:Entry),l[q]?=some x->(q:Int)<=x.aR:=by
  intro q
  induction q with
  |zero=>intro x hx;have:=h.ok x (List.mem_of_getElem? hx);omega
  |succ q ih=>
   intro x hx
   have hq:=(List.getElem?_eq_some_iff.1 hx).1
   obtain ⟨y,hy⟩:∃ y,l[q]?=some y:=⟨_,List.getElem?_eq_getElem (by omega)⟩
   have h1:=ih y hy
   have h2:=yn h.up (by omega:q < q+1) hy hx
   omega
 by_cases hl:l.length=0
 ·omega
 ·obtain ⟨x,hx⟩:∃ x,l[l.length - 1]?=some x:=⟨_,List.getElem?_eq_getElem (by omega)⟩
  have h1:=key _ x hx
  have h2:=h.ok x (List.mem_of_getElem? hx)
  omega
theorem lA {x:Entry} {l:List Entry} {a s:Int} (h:x.aR < a):gy (x::l) a s=x::gy l a s:=by
 unfold gy
 rw [oo h,show dV (x::l) a=dV l a+1 by simp [dV,h]]
 cases fr l a<;>simp
theorem lz {x:Entry} {l:List Entry} {a s:Int} (h:x.aR=a):gy (x::l) a s=(if s=0 then [] else [⟨a,s⟩])++l:=by
 unfold gy
 rw [lI (by omega),show dV (x::l) a=0 by simp [dV];omega]
 simp [h]
theorem mO {x:Entry} {l:List Entry} {a s:Int} (h:a < x.aR):gy (x::l) a s=(if s=0 then [] else [⟨a,s⟩])++x::l:=by
 unfold gy
 rw [lI (by omega),show dV (x::l) a=0 by simp [dV];omega]
 have:¬x.aR=a:=by omega
 simp [this]
theorem mN (a s:Int):gy [] a s=if s=0 then [] else [⟨a,s⟩]:=by simp [gy,dV,fr]
theorem pT {a s:Int}:∀ {l:List Entry} {x:Entry},x∈gy l a s->x∈l\/(x=⟨a,s⟩/\s≠0)
 |[],x,h=>by
  rw [mN] at h
  split at h
  ·cases h
  ·rename_i h0;exact .inr ⟨by simpa using h,h0⟩
 |y::l,x,h=>by
  have one:x∈(if s=0 then [] else [(⟨a,s⟩:Entry)])->x=⟨a,s⟩/\s≠0:=fun h=>by
   split at h
   ·cases h
   ·rename_i h0;exact ⟨by simpa using h,h0⟩
  rcases Int.lt_trichotomy y.aR a with h1|h1|h1
  ·rw [lA h1] at h
   rcases List.mem_cons.1 h with rfl|h
   ·exact .inl List.mem_cons_self
   ·rcases pT h with h|h
    ·exact .inl (List.mem_cons_of_mem _ h)
    ·exact .inr h
  ·rw [lz h1] at h
   rcases List.mem_append.1 h with h|h
   ·exact .inr (one h)
   ·exact .inl (List.mem_cons_of_mem _ h)
  ·rw [mO h1] at h
   rcases List.mem_append.1 h with h|h
   ·exact .inr (one h)
   ·exact .inl h
theorem kP {x:Entry} {l:List Entry}:Up (x::l)↔(∀ y∈l,x.aR < y.aR)/\Up l:=List.pairwise_cons
theorem rG {a s:Int}:∀ {l:List Entry},Up l->Up (gy l a s)
 |[],_=>by rw [mN];split;exact List.Pairwise.nil;exact List.pairwise_singleton _ _
 |y::l,h=>by
  obtain ⟨h1,h2⟩:=kP.1 h
  rcases Int.lt_trichotomy y.aR a with h3|h3|h3
  ·rw [lA h3]
   refine kP.2 ⟨fun z hz=>?_,rG h2⟩
   rcases pT hz with hz|⟨rfl,_⟩
   ·exact h1 z hz
   ·exact h3
  ·rw [lz h3]
   split
   ·exact h2
   ·exact kP.2 ⟨fun z hz=>by have:=h1 z hz;show a < z.aR;omega,h2⟩
  ·rw [mO h3]
   split
   ·exact h
   ·exact kP.2 ⟨fun z hz=>by
     show a < z.aR
     rcases List.mem_cons.1 hz with rfl|hz
     ·exact h3
     ·have:=h1 z hz;omega,h⟩
theorem qd (a s b:Int) (l:List Entry):dA ((if s=0 then [] else [⟨a,s⟩])++l) b=if s≠0/\a=b then s else dA l b:=by
 by_cases h:s=0
 ·simp [h]
 ·simp [h,dA]
theorem qc {a s b:Int}:∀ {l:List Entry},Up l->dA (gy l a s) b=if a=b then s else dA l b
 |[],_=>by
  have:=qd a s b []
  rw [List.append_nil] at this
  rw [mN,this]
  by_cases h:s=0
  ·subst h;simp [dA]
  ·simp [h]
 |y::l,h=>by
  obtain ⟨h1,h2⟩:=kP.1 h
  rcases Int.lt_trichotomy y.aR a with h3|h3|h3
  ·rw [lA h3]
   unfold dA
   rw [qc h2]
   by_cases h4:y.aR=b
   ·rw [if_pos h4,if_pos h4,if_neg (by omega)]
   ·rw [if_neg h4,if_neg h4]
  ·rw [lz h3,qd]
   by_cases h4:a=b
   ·subst h4
    by_cases h5:s=0
    ·subst h5;simp;exact iP fun z hz=>by have:=h1 z hz;omega
    ·simp [h5]
   ·rw [if_neg (fun h=>h4 h.2),if_neg h4]
    conv=>rhs;unfold dA
    rw [if_neg (by omega)]
  ·rw [mO h3,qd]
   by_cases h4:a=b
   ·subst h4
    by_cases h5:s=0
    ·subst h5;simp;exact iP fun z hz=>by
      rcases List.mem_cons.1 hz with rfl|hz
      ·exact h3
      ·have:=h1 z hz;omega
    ·simp [h5]
   ·rw [if_neg (fun h=>h4 h.2),if_neg h4]
theorem uc {a s:Int}:∀ {l:List Entry},Up l->eh (gy l a s)=eh l - dA l a+s
 |[],_=>by
  rw [mN]
  by_cases h:s=0
  ·subst h;simp [eh,dA]
  ·simp [h,eh,dA]
 |y::l,h=>by
  obtain ⟨h1,h2⟩:=kP.1 h
  have one:eh (if s=0 then [] else [(⟨a,s⟩:Entry)])=s:=by split<;>simp_all [eh]
  rcases Int.lt_trichotomy y.aR a with h3|h3|h3
  ·rw [lA h3]
   unfold eh dA
   rw [uc h2,if_neg (by omega)];omega
  ·rw [lz h3,lW,one]
   conv=>rhs;unfold eh dA
   rw [if_pos h3];omega
  ·rw [mO h3,lW,one,iP fun z hz=>by
    rcases List.mem_cons.1 hz with rfl|hz
    ·exact h3
    ·have:=h1 z hz;omega]
   omega
theorem qE {l:List Entry} {a s:Int} (h:iU l) (ha:0<=a/\a<=57) (hs:-1000000000000<=s/\s<=1000000000000):iU (gy l a s):=
 ⟨rG h.up,fun x hx=>by
  rcases pT hx with hx|⟨rfl,h0⟩
  ·exact h.ok x hx
  ·exact ⟨ha.1,ha.2,hs.1,hs.2,h0⟩⟩
def eZ:List Entry->List Entry->Option (List Entry)
 |l,[]=>some l
 |l,e::es=>if gZ (dA l e.aR+e.sum)=true then eZ (gy l e.aR (dA l e.aR+e.sum)) es else none
def fS (l es:List Entry):List Entry×Int:=
 if (ei l).err≠0 then ([],(ei l).err)
 else if es.length > 10 then ([],5)
 else if ∃ x∈es,eS x then ([],3)
 else if eh es≠0 then ([],8)
 else match eZ l es with
  |some r=>(r,0)
  |none=>([],4)
theorem lJ {s:Int}:gZ s=true↔-1000000000000<=s/\s<=1000000000000:=by
 unfold gZ;simp only [Bool.and_eq_true,decide_eq_true_eq,ge_iff_le]
theorem pv {l es:List Entry} {q:Nat} {e:Entry} (h:es[q]?=some e):eZ l (es.drop q)=if gZ (dA l e.aR+e.sum)=true then eZ (gy l e.aR (dA l e.aR+e.sum)) (es.drop (q+1)) else none:=by
 obtain ⟨hq,rfl⟩:=List.getElem?_eq_some_iff.1 h
 rw [List.drop_eq_getElem_cons hq];rfl
theorem nZ:∀ {es l r:List Entry},iU l->(∀ x∈es,¬eS x)->eZ l es=some r->iU r/\eh r=eh l+eh es
 |[],l,r,h,_,hp=>by
  have:l=r:=by simpa [eZ] using hp
  subst this;exact ⟨h,by simp [eh]⟩
 |e::es,l,r,h,hb,hp=>by
  unfold eZ at hp
  split at hp
  ·rename_i hg
   have hg:=lJ.1 hg
   have h1:=hb e List.mem_cons_self
   unfold eS at h1
   obtain ⟨h2,h3⟩:=nZ (qE h (by omega) hg) (fun x hx=>hb x (List.mem_cons_of_mem _ hx)) hp
   refine ⟨h2,?_⟩
   rw [h3,uc h.up,yw]
   omega
  ·cases hp
def lb (a:Int):List Entry->Int
 |[]=>0
 |e::es=>(if e.aR=a then e.sum else 0)+lb a es
theorem vL (a:Int) (e:Entry) (es:List Entry):lb a (e::es)=(if e.aR=a then e.sum else 0)+lb a es:=rfl
theorem qL {a:Int}:∀ {es l r:List Entry},Up l->eZ l es=some r->dA r a=dA l a+lb a es
 |[],l,r,h,hp=>by
  have:l=r:=by simpa [eZ] using hp
  subst this;simp [lb]
 |e::es,l,r,h,hp=>by
  unfold eZ at hp
  split at hp
  ·rw [qL (rG h) hp,qc h,vL]
   by_cases hc:e.aR=a
   ·subst hc;simp;omega
   ·simp [hc]
  ·cases hp


theorem pF (l:List Int) (hl:l.length * 8<=140737488355328):Fn Try.prog 95 [(.c (gn l))] (aC (.s 0 0 1 l.length)) [(0,.arr 3 1 (l.map rI))]:=by
 refine Fn.mk' 8 [(0,(aC (gn l)))] Try.func95 rfl rfl rfl rfl ?_
 intro W0 T0
 refine dF 0 rfl (fun hlen0=>?_)
 refine ad aa 1 rfl ?_
 refine af ?_
 refine aE aa 1 rfl ?_
 refine hG (ah.plain rfl) rfl rfl Try.underlying30 rfl rfl (fun bn1 hbn1=>?_)
 refine ae ?_
 refine ag rfl (fun hc2=>?_) (fun hc2=>?_)
 ·
  have hc2':=hc2;try simp only [bl,bJ] at hc2'
  refine ad aa 1 rfl ?_
  refine ax ?_
  refine an ?_
  refine cT (aD.nil 2 3 1 (by decide) rfl) ?_
  refine al aa [0] 1 rfl rfl rfl rfl rfl rfl ?_ ?_
  ·(have h0:=hbn1 (by assumption);have h1:l=[]:=by (cases l with|nil=>rfl|cons=>simp at h0));subst h1;rfl
  ·(have h0:=hbn1 (by assumption);have h1:l=[]:=by (cases l with|nil=>rfl|cons=>simp at h0));subst h1;rfl
 have hc2':=hc2;try simp only [bl,bJ] at hc2'
 refine aP ?_
 refine eN ?_
 refine aM 1 [0] (dv (ys:=[]) (rows:=(([]:List Int)).map rI) 0 mM rfl (by decide) trivial rfl rfl rfl rfl) rfl ?_
 refine ab aa 1 rfl ?_
 refine aM 2 [1] (dd (m:=l.length) (N:=l.length) (k2:=1) (ys:=(l).map rI) mM rfl rfl rfl rfl rfl rfl (by first|omega|(simp;omega)|(simp;done)) rfl (.d _ _) (by first|omega|(simp;omega)|(simp;done)) (by first|omega|(simp;omega)|(simp;done)) rfl (by decide) (by first|omega|(simp;omega)|(simp;done)) (by first|omega|(simp;omega)|(simp;done))) rfl ?_
 refine ab aa 1 rfl ?_
 refine ae ?_
 refine ax ?_
 refine al aa [1] 1 rfl rfl rfl rfl rfl rfl ?_ ?_
 ·first|rfl|simp [fD,aC]
 ·first|rfl|simp
theorem mB (l:List ca) (hl:l.length * 32<=140737488355328):Fn Try.prog 99 [(.c (gI l))] (aC (.s 0 0 4 l.length)) [(0,.arr 107 4 (l.map hP))]:=by
 refine Fn.mk' 8 [(0,(aC (gI l)))] Try.func99 rfl rfl rfl rfl ?_
 intro W0 T0
 refine dF 0 rfl (fun hlen0=>?_)
 refine ad aa 1 rfl ?_
 refine af ?_
 refine aE aa 1 rfl ?_
 refine hG (ah.plain rfl) rfl rfl Try.underlying39 rfl rfl (fun bn1 hbn1=>?_)
 refine ae ?_
 refine ag rfl (fun hc2=>?_) (fun hc2=>?_)
 ·
  have hc2':=hc2;try simp only [bl,bJ] at hc2'
  refine ad aa 1 rfl ?_
  refine ax ?_
  refine an ?_
  refine cT (aD.nil 2 107 4 (by decide) rfl) ?_
  refine al aa [0] 1 rfl rfl rfl rfl rfl rfl ?_ ?_
  ·(have h0:=hbn1 (by assumption);have h1:l=[]:=by (cases l with|nil=>rfl|cons=>simp at h0));subst h1;rfl
  ·(have h0:=hbn1 (by assumption);have h1:l=[]:=by (cases l with|nil=>rfl|cons=>simp at h0));subst h1;rfl
 have hc2':=hc2;try simp only [bl,bJ] at hc2'
 refine aP ?_
 refine eN ?_
 refine aM 1 [0] (dv (ys:=[]) (rows:=(([]:List ca)).map hP) 0 xh rfl (by decide) trivial rfl rfl rfl rfl) rfl ?_
 refine ab aa 1 rfl ?_
 refine aM 2 [1] (dd (m:=l.length) (N:=l.length) (k2:=1) (ys:=(l).map hP) xh rfl rfl rfl rfl rfl rfl (by first|omega|(simp;omega)|(simp;done)) rfl (.d _ _) (by first|omega|(simp;omega)|(simp;done)) (by first|omega|(simp;omega)|(simp;done)) rfl (by decide) (by first|omega|(simp;omega)|(simp;done)) (by first|omega|(simp;omega)|(simp;done))) rfl ?_
 refine ab aa 1 rfl ?_
 refine ae ?_
 refine ax ?_
 refine al aa [1] 1 rfl rfl rfl rfl rfl rfl ?_ ?_
 ·first|rfl|simp [fD,aC]
 ·first|rfl|simp
theorem pG (l:List cF) (hl:l.length * 16<=140737488355328):Fn Try.prog 114 [(.c (fj l))] (aC (.s 0 0 2 l.length)) [(0,.arr 125 2 (l.map gJ))]:=by
 refine Fn.mk' 8 [(0,(aC (fj l)))] Try.func114 rfl rfl rfl rfl ?_
 intro W0 T0
 refine dF 0 rfl (fun hlen0=>?_)
 refine ad aa 1 rfl ?_
 refine af ?_
 refine aE aa 1 rfl ?_
 refine hG (ah.plain rfl) rfl rfl Try.underlying59 rfl rfl (fun bn1 hbn1=>?_)
 refine ae ?_
 refine ag rfl (fun hc2=>?_) (fun hc2=>?_)
 ·
  have hc2':=hc2;try simp only [bl,bJ] at hc2'
  refine ad aa 1 rfl ?_
  refine ax ?_
  refine an ?_
  refine cT (aD.nil 2 125 2 (by decide) rfl) ?_
  refine al aa [0] 1 rfl rfl rfl rfl rfl rfl ?_ ?_
  ·(have h0:=hbn1 (by assumption);have h1:l=[]:=by (cases l with|nil=>rfl|cons=>simp at h0));subst h1;rfl
  ·(have h0:=hbn1 (by assumption);have h1:l=[]:=by (cases l with|nil=>rfl|cons=>simp at h0));subst h1;rfl
 have hc2':=hc2;try simp only [bl,bJ] at hc2'
 refine aP ?_
 refine eN ?_
 refine aM 1 [0] (dv (ys:=[]) (rows:=(([]:List cF)).map gJ) 0 nP rfl (by decide) trivial rfl rfl rfl rfl) rfl ?_
 refine ab aa 1 rfl ?_
 refine aM 2 [1] (dd (m:=l.length) (N:=l.length) (k2:=1) (ys:=(l).map gJ) nP rfl rfl rfl rfl rfl rfl (by first|omega|(simp;omega)|(simp;done)) rfl (.d _ _) (by first|omega|(simp;omega)|(simp;done)) (by first|omega|(simp;omega)|(simp;done)) rfl (by decide) (by first|omega|(simp;omega)|(simp;done)) (by first|omega|(simp;omega)|(simp;done))) rfl ?_
 refine ab aa 1 rfl ?_
 refine ae ?_
 refine ax ?_
 refine al aa [1] 1 rfl rfl rfl rfl rfl rfl ?_ ?_
 ·first|rfl|simp [fD,aC]
 ·first|rfl|simp
theorem lk (l:List bj) (hl:l.length * 32<=140737488355328):Fn Try.prog 106 [(.c (de l))] (aC (.s 0 0 4 l.length)) [(0,.arr 80 4 (l.map fo))]:=by
 refine Fn.mk' 8 [(0,(aC (de l)))] Try.func106 rfl rfl rfl rfl ?_
 intro W0 T0
 refine dF 0 rfl (fun hlen0=>?_)
 refine ad aa 1 rfl ?_
 refine af ?_
 refine aE aa 1 rfl ?_
 refine hG (ah.plain rfl) rfl rfl Try.underlying32 rfl rfl (fun bn1 hbn1=>?_)
 refine ae ?_
 refine ag rfl (fun hc2=>?_) (fun hc2=>?_)
 ·
  have hc2':=hc2;try simp only [bl,bJ] at hc2'
  refine ad aa 1 rfl ?_
  refine ax ?_
  refine an ?_
  refine cT (aD.nil 2 80 4 (by decide) rfl) ?_
  refine al aa [0] 1 rfl rfl rfl rfl rfl rfl ?_ ?_
  ·(have h0:=hbn1 (by assumption);have h1:l=[]:=by (cases l with|nil=>rfl|cons=>simp at h0));subst h1;rfl
  ·(have h0:=hbn1 (by assumption);have h1:l=[]:=by (cases l with|nil=>rfl|cons=>simp at h0));subst h1;rfl
 have hc2':=hc2;try simp only [bl,bJ] at hc2'
 refine aP ?_
 refine eN ?_
 refine aM 1 [0] (dv (ys:=[]) (rows:=(([]:List bj)).map fo) 0 uh rfl (by decide) trivial rfl rfl rfl rfl) rfl ?_
 refine ab aa 1 rfl ?_
 refine aM 2 [1] (dd (m:=l.length) (N:=l.length) (k2:=1) (ys:=(l).map fo) uh rfl rfl rfl rfl rfl rfl (by first|omega|(simp;omega)|(simp;done)) rfl (.d _ _) (by first|omega|(simp;omega)|(simp;done)) (by first|omega|(simp;omega)|(simp;done)) rfl (by decide) (by first|omega|(simp;omega)|(simp;done)) (by first|omega|(simp;omega)|(simp;done))) rfl ?_
 refine ab aa 1 rfl ?_
 refine ae ?_
 refine ax ?_
 refine al aa [1] 1 rfl rfl rfl rfl rfl rfl ?_ ?_
 ·first|rfl|simp [fD,aC]
 ·first|rfl|simp
theorem tJ (l:List Entry) (hl:l.length * 16<=140737488355328):Fn Try.prog 115 [(.c (dP l))] (aC (.s 0 0 2 l.length)) [(0,.arr 115 2 (l.map eu))]:=by
 refine Fn.mk' 8 [(0,(aC (dP l)))] Try.func115 rfl rfl rfl rfl ?_
 intro W0 T0
 refine dF 0 rfl (fun hlen0=>?_)
 refine ad aa 1 rfl ?_
 refine af ?_
 refine aE aa 1 rfl ?_
 refine hG (ah.plain rfl) rfl rfl Try.underlying44 rfl rfl (fun bn1 hbn1=>?_)
 refine ae ?_
 refine ag rfl (fun hc2=>?_) (fun hc2=>?_)
 ·
  have hc2':=hc2;try simp only [bl,bJ] at hc2'
  refine ad aa 1 rfl ?_
  refine ax ?_
  refine an ?_
  refine cT (aD.nil 2 115 2 (by decide) rfl) ?_
  refine al aa [0] 1 rfl rfl rfl rfl rfl rfl ?_ ?_
  ·(have h0:=hbn1 (by assumption);have h1:l=[]:=by (cases l with|nil=>rfl|cons=>simp at h0));subst h1;rfl
  ·(have h0:=hbn1 (by assumption);have h1:l=[]:=by (cases l with|nil=>rfl|cons=>simp at h0));subst h1;rfl
 have hc2':=hc2;try simp only [bl,bJ] at hc2'
 refine aP ?_
 refine eN ?_
 refine aM 1 [0] (dv (ys:=[]) (rows:=(([]:List Entry)).map eu) 0 jH rfl (by decide) trivial rfl rfl rfl rfl) rfl ?_
 refine ab aa 1 rfl ?_
 refine aM 2 [1] (dd (m:=l.length) (N:=l.length) (k2:=1) (ys:=(l).map eu) jH rfl rfl rfl rfl rfl rfl (by first|omega|(simp;omega)|(simp;done)) rfl (.d _ _) (by first|omega|(simp;omega)|(simp;done)) (by first|omega|(simp;omega)|(simp;done)) rfl (by decide) (by first|omega|(simp;omega)|(simp;done)) (by first|omega|(simp;omega)|(simp;done))) rfl ?_
 refine ab aa 1 rfl ?_
 refine ae ?_
 refine ax ?_
 refine al aa [1] 1 rfl rfl rfl rfl rfl rfl ?_ ?_
 ·first|rfl|simp [fD,aC]
 ·first|rfl|simp
theorem mz (l:List ak) (hl:l.length * 32<=140737488355328):Fn Try.prog 54 [(.c (iJ l))] (aC (.s 0 0 4 l.length)) [(0,.arr 83 4 (l.map gK))]:=by
 refine Fn.mk' 8 [(0,(aC (iJ l)))] Try.func54 rfl rfl rfl rfl ?_
 intro W0 T0
 refine dF 0 rfl (fun hlen0=>?_)
 refine ad aa 1 rfl ?_
 refine af ?_
 refine aE aa 1 rfl ?_
 refine hG (ah.plain rfl) rfl rfl Try.underlying42 rfl rfl (fun bn1 hbn1=>?_)
 refine ae ?_
 refine ag rfl (fun hc2=>?_) (fun hc2=>?_)
 ·
  have hc2':=hc2;try simp only [bl,bJ] at hc2'
  refine ad aa 1 rfl ?_
  refine ax ?_
  refine an ?_
  refine cT (aD.nil 2 83 4 (by decide) rfl) ?_
  refine al aa [0] 1 rfl rfl rfl rfl rfl rfl ?_ ?_
  ·(have h0:=hbn1 (by assumption);have h1:l=[]:=by (cases l with|nil=>rfl|cons=>simp at h0));subst h1;rfl
  ·(have h0:=hbn1 (by assumption);have h1:l=[]:=by (cases l with|nil=>rfl|cons=>simp at h0));subst h1;rfl
 have hc2':=hc2;try simp only [bl,bJ] at hc2'
 refine aP ?_
 refine eN ?_
 refine aM 1 [0] (dv (ys:=[]) (rows:=(([]:List ak)).map gK) 0 xg rfl (by decide) trivial rfl rfl rfl rfl) rfl ?_
 refine ab aa 1 rfl ?_
 refine aM 2 [1] (dd (m:=l.length) (N:=l.length) (k2:=1) (ys:=(l).map gK) xg rfl rfl rfl rfl rfl rfl (by first|omega|(simp;omega)|(simp;done)) rfl (.d _ _) (by first|omega|(simp;omega)|(simp;done)) (by first|omega|(simp;omega)|(simp;done)) rfl (by decide) (by first|omega|(simp;omega)|(simp;done)) (by first|omega|(simp;omega)|(simp;done))) rfl ?_
 refine ab aa 1 rfl ?_
 refine ae ?_
 refine ax ?_
 refine al aa [1] 1 rfl rfl rfl rfl rfl rfl ?_ ?_
 ·first|rfl|simp [fD,aC]
 ·first|rfl|simp


theorem vp (l:List Entry) (f:cX) (hr:ei l=f):Fn Try.prog 33 [(.c (dP l))] (.v (.g [(cI f.err),(cI f.at_)])) []:=by
 refine Fn.mk' 64 [(0,(aC (dP l)))] Try.func33 rfl rfl rfl rfl ?_
 intro W0 T0
 refine dF 0 rfl (fun hlen0=>?_)
 refine ad aa 1 rfl ?_
 refine ad aa 1 rfl ?_
 refine af ?_
 refine aE aa 1 rfl ?_
 refine ay (cY rfl rfl rfl rfl rfl Try.underlying44) rfl ?_
 refine ab aa 1 rfl ?_
 refine ae ?_
 refine aW ?_
 refine cw (β:=Nat) (fun (q:Nat)=>⟨[(0,(aC (dP l))),(2,(aC (.p 0 0 0 0))),(3,(aI (eh (l.take q)))),(6,(aC (dP l))),(7,(aI (↑l.length:Int))),(8,(aI (↑q:Int)))],[(0,(.box 50 [(cI 0),(cI 0)]))],1⟩) (fun (q:Nat)=>q<=l.length/\scan (kA l) 0 l.length=scan (kA l) q (l.length - q)/\(q:Int) - 1<=ie l q/\ie l q<=57/\-1000000000000 * (q:Int)<=eh (l.take q)/\eh (l.take q)<=1000000000000 * (q:Int)) (fun (q:Nat)=>l.length - q) 0 ?_ ?_ ?_
 ·(have h1:ie l 0=-1:=rfl);(have h2:eh (l.take 0)=0:=rfl);exact ⟨by omega,rfl,by omega,by omega⟩
 ·exact aD.bY id (by refine ⟨?_,?_,?_,?_,?_,?_,trivial⟩<;>first|rfl|(simp only [bo];done)|(congr 3;omega)|(congr 4;omega)|(simp only [bp];rfl)) (⟨by first|rfl|(simp only [bo];done)|(congr 3;omega)|(congr 4;omega)|(simp only [bp];rfl),trivial⟩) rfl
 rintro q ⟨hi0_0,hi0_1,hi0_2,hi0_3⟩
 refine ad aa 1 rfl ?_
 refine af ?_
 refine ag rfl (fun hc1=>?_) (fun hc1=>?_)
 ·
  have hc1':=of_decide_eq_true hc1
  refine aP ?_
  refine af ?_
  refine aW ?_
  refine aE aa 1 rfl ?_
  obtain ⟨x1,hx1⟩:=cq (xs:=l) (i:=q) (by first|omega|(simp;done)|(simp;omega))
  refine ay (cS (i:=q) rfl rfl rfl Try.underlying44 dZ (by first|omega|(simp;done)|(simp;omega)) (bu hx1)) rfl ?_
  refine ab aa 4 rfl ?_
  refine ae ?_
  refine af ?_
  refine aW ?_
  refine cp 13 ((((decide (x1.aR < 0))||(decide (x1.aR>=58)))||(decide (x1.sum < (-1000000000000))))||(decide (x1.sum > 1000000000000))) ?_ ?_
  ·
   refine aw ?_
   refine ab aa 4 rfl ?_
   refine bw (t:=17) rfl (fun hb2=>?_) (fun hb2=>?_)
   ·
    have hb2':=of_decide_eq_true hb2
    refine ab aa 15 rfl ?_
    refine ae ?_
    exact aD.bA 20 rfl rfl (by first|(simp [hb2];done)|(simp_all;done)|(exfalso;simp_all;done)|(simp_all;omega)) rfl
   have hb2':=of_decide_eq_false hb2
   refine ab aa 5 rfl ?_
   refine bw (t:=22) rfl (fun hb3=>?_) (fun hb3=>?_)
   ·
    have hb3':=of_decide_eq_true hb3
    refine ab aa 10 rfl ?_
    refine ae ?_
    exact aD.bA 21 rfl rfl (by first|(simp [hb2,hb3];done)|(simp_all;done)|(exfalso;simp_all;done)|(simp_all;omega)) rfl
   have hb3':=of_decide_eq_false hb3
   refine ab aa 5 rfl ?_
   refine bw (t:=27) rfl (fun hb4=>?_) (fun hb4=>?_)
   ·
    have hb4':=of_decide_eq_true hb4
    refine ab aa 5 rfl ?_
    refine ae ?_
    exact aD.bA 22 rfl rfl (by first|(simp [hb2,hb3,hb4];done)|(simp_all;done)|(exfalso;simp_all;done)|(simp_all;omega)) rfl
   have hb4':=of_decide_eq_false hb4
   refine ab aa 5 rfl ?_
   refine ae ?_
   exact aD.bA 22 rfl rfl (by first|(simp [hb2,hb3,hb4];done)|(simp_all;done)|(exfalso;simp_all;done)|(simp_all;omega)) rfl
  refine ag rfl (fun hc5=>?_) (fun hc5=>?_)
  ·
   have hc5':=hc5;try simp only [bl,bJ] at hc5'
   refine ad aa 3 rfl ?_
   refine ax ?_
   refine bf ?_
   refine an ?_
   refine bf ?_
   refine an ?_
   refine an ?_
   refine bf ?_
   refine an ?_
   have hX:ei l=(⟨3,(↑q:Int)⟩:cX):=by
     (have hb:eS x1:=by unfold eS;omega);(have h0:=gW (e:=kA l) (q:=q) (n:=l.length) (by omega) (by rw [gR hx1,if_pos hb]) (by decide:(3:Int)≠0));(unfold ei;rw [hi0_1,h0];rfl)
   rw [hX] at hr;clear hX
   subst hr
   refine al aa [0] 0 rfl rfl rfl rfl rfl rfl ?_ ?_
   all_goals first|rfl|(simp [ar];done)|(simp [ar];omega)
  have hc5':=hc5;try simp only [bl,bJ] at hc5'
  refine af ?_
  rcases Bool.eq_false_or_eq_true (decide ((↑q:Int) > 0)) with hb6|hb6
  ·
   have hb6':=of_decide_eq_true hb6
   obtain ⟨x2,hx2⟩:=cq (xs:=l) (i:=(q) - 1) (by first|omega|(simp;done)|(simp;omega))
   rcases Bool.eq_false_or_eq_true (decide (x2.aR>=x1.aR)) with hb7|hb7
   ·
    have hb7':=of_decide_eq_true hb7
    refine bc [0,2,3,6,7,8,5,4] [1,0] mixed rfl rfl ?_
    refine aA (kn:=[(36,true)]) aa 5 rfl ⟨hb6,trivial⟩ ?_
    refine aT (n':=2) [39,37] [] rfl rfl (.inl ⟨(ah.yes rfl rfl rfl),aJ.cast (aK rfl rfl rfl (aH (by first|omega|(simp;done)|(simp;omega)))) rfl⟩) rfl ?_
    refine aT (n':=2) [38,40,37] [] rfl rfl (.inl ⟨(ah.yes rfl rfl rfl),aJ.cast (cS (i:=(q) - 1) rfl rfl rfl Try.underlying44 dZ (by first|omega|(simp;done)|(simp;omega)) (bu hx2)) rfl⟩) rfl ?_
    refine aA (kn:=[(46,true)]) aa 12 rfl ⟨hb7,trivial⟩ ?_
    refine bC [1,0] rfl rfl rfl rfl (by kernel_rfl) ?_
    refine ae ?_
    refine ag rfl (fun _=>?_) (fun hno=>by cases hno)
    refine ad aa 3 rfl ?_
    refine ax ?_
    refine bf ?_
    refine an ?_
    refine bf ?_
    refine an ?_
    refine an ?_
    refine bf ?_
    refine an ?_
    have hX:ei l=(⟨2,(↑q:Int)⟩:cX):=by
      (have hb:¬eS x1:=by unfold eS;omega);(have hla:=kl (by omega) hx2);(have h0:=gW (e:=kA l) (q:=q) (n:=l.length) (by omega) (by rw [gR hx1,if_neg hb,if_pos (by omega)]) (by decide:(2:Int)≠0));(unfold ei;rw [hi0_1,h0];rfl)
    rw [hX] at hr;clear hX
    subst hr
    refine al aa [0] 0 rfl rfl rfl rfl rfl rfl ?_ ?_
    all_goals first|rfl|(simp [ar];done)|(simp [ar];omega)
   have hb7':=of_decide_eq_false hb7
   refine bc [0,2,3,6,7,8,5,4] [1,0] mixed rfl rfl ?_
   refine aA (kn:=[(36,true)]) aa 5 rfl ⟨hb6,trivial⟩ ?_
   refine aT (n':=2) [39,37] [] rfl rfl (.inl ⟨(ah.yes rfl rfl rfl),aJ.cast (aK rfl rfl rfl (aH (by first|omega|(simp;done)|(simp;omega)))) rfl⟩) rfl ?_
   refine aT (n':=2) [38,40,37] [] rfl rfl (.inl ⟨(ah.yes rfl rfl rfl),aJ.cast (cS (i:=(q) - 1) rfl rfl rfl Try.underlying44 dZ (by first|omega|(simp;done)|(simp;omega)) (bu hx2)) rfl⟩) rfl ?_
   refine aA (kn:=[(46,false)]) aa 12 rfl ⟨hb7,trivial⟩ ?_
   refine bC [1,0] rfl rfl rfl rfl (by kernel_rfl) ?_
   refine ae ?_
   refine ag rfl (fun hc9=>?_) (fun hc9=>?_)
   ·
    have hc9':=of_decide_eq_true hc9
    refine ad aa 3 rfl ?_
    refine ax ?_
    refine bf ?_
    refine an ?_
    refine bf ?_
    refine an ?_
    refine an ?_
    refine bf ?_
    refine an ?_
    have hX:ei l=(⟨2,(↑q:Int)⟩:cX):=by
      (have hb:¬eS x1:=by unfold eS;omega);(have hla:=kl (by omega) hx2);(have h0:=gW (e:=kA l) (q:=q) (n:=l.length) (by omega) (by rw [gR hx1,if_neg hb,if_pos (by omega)]) (by decide:(2:Int)≠0));(unfold ei;rw [hi0_1,h0];rfl)
    rw [hX] at hr;clear hX
    subst hr
    refine al aa [0] 0 rfl rfl rfl rfl rfl rfl ?_ ?_
    all_goals first|rfl|(simp [ar];done)|(simp [ar];omega)
   have hc9':=of_decide_eq_false hc9
   refine cW ?_
   refine bn ?_
   refine then_ok ?_
   refine aw ?_
   refine ab aa 3 rfl ?_
   refine ay (aK rfl rfl rfl (aH (by first|omega|(simp;done)|(simp;omega)))) rfl ?_
   refine ab aa 1 rfl ?_
   refine bX ?_
   refine bn ?_
   refine then_ok ?_
   refine aw ?_
   refine ay (aK rfl rfl rfl (aH (by first|omega|(simp;done)|(simp;omega)))) rfl ?_
   refine ab aa 1 rfl ?_
   refine ae ?_
   refine ⟨q+1,⟨by omega,by rw [hi0_1];exact mo (by omega) (by have hla:=kl (by omega) hx2;rw [gR hx1,if_neg (by unfold eS;omega),if_neg (by omega)]),by rw [jx hx1];have hla:=kl (by omega) hx2;omega,by rw [jx hx1,jc hx1];omega⟩,by first|omega|(simp;done)|(simp;omega),aD.bY id (by refine ⟨?_,?_,?_,?_,?_,?_,trivial⟩<;>first|rfl|(simp only [bo];done)|(congr 3;omega)|(congr 4;omega)|(simp only [bp];rfl)|(rw [jc hx1];rfl)) (⟨by first|rfl|(simp only [bo];done)|(congr 3;omega)|(congr 4;omega)|(simp only [bp];rfl),trivial⟩) rfl⟩
  have hb6':=of_decide_eq_false hb6
  refine bc [0,2,3,6,7,8,5,4] [1,0] mixed rfl rfl ?_
  refine aA (kn:=[(36,false)]) aa 19 rfl ⟨hb6,trivial⟩ ?_
  refine bC [1,0] rfl rfl rfl rfl (by kernel_rfl) ?_
  refine ae ?_
  refine ag rfl (fun hc10=>?_) (fun hc10=>?_)
  ·
   have hc10':=of_decide_eq_true hc10
   refine ad aa 3 rfl ?_
   refine ax ?_
   refine bf ?_
   refine an ?_
   refine bf ?_
   refine an ?_
   refine an ?_
   refine bf ?_
   refine an ?_
   have hX:ei l=(⟨2,(↑q:Int)⟩:cX):=by
     (have hb:¬eS x1:=by unfold eS;omega);(have h0:=gW (e:=kA l) (q:=q) (n:=l.length) (by omega) (by rw [gR hx1,if_neg hb,if_pos (by omega)]) (by decide:(2:Int)≠0));(unfold ei;rw [hi0_1,h0];rfl)
   rw [hX] at hr;clear hX
   subst hr
   refine al aa [0] 0 rfl rfl rfl rfl rfl rfl ?_ ?_
   all_goals first|rfl|(simp [ar];done)|(simp [ar];omega)
  have hc10':=of_decide_eq_false hc10
  refine cW ?_
  refine bn ?_
  refine then_ok ?_
  refine aw ?_
  refine ab aa 3 rfl ?_
  refine ay (aK rfl rfl rfl (aH (by first|omega|(simp;done)|(simp;omega)))) rfl ?_
  refine ab aa 1 rfl ?_
  refine bX ?_
  refine bn ?_
  refine then_ok ?_
  refine aw ?_
  refine ay (aK rfl rfl rfl (aH (by first|omega|(simp;done)|(simp;omega)))) rfl ?_
  refine ab aa 1 rfl ?_
  refine ae ?_
  refine ⟨q+1,⟨by omega,by rw [hi0_1];exact mo (by omega) (by have hla:ie l q=-1:=(by unfold ie;rw [if_pos (by omega)]);rw [gR hx1,if_neg (by unfold eS;omega),if_neg (by omega)]),by rw [jx hx1];have hla:ie l q=-1:=(by unfold ie;rw [if_pos (by omega)]);omega,by rw [jx hx1,jc hx1];omega⟩,by first|omega|(simp;done)|(simp;omega),aD.bY id (by refine ⟨?_,?_,?_,?_,?_,?_,trivial⟩<;>first|rfl|(simp only [bo];done)|(congr 3;omega)|(congr 4;omega)|(simp only [bp];rfl)|(rw [jc hx1];rfl)) (⟨by first|rfl|(simp only [bo];done)|(congr 3;omega)|(congr 4;omega)|(simp only [bp];rfl),trivial⟩) rfl⟩
 have hc1':=of_decide_eq_false hc1
 refine cm ?_
 refine aQ ?_
 refine aQ ?_
 refine bO ?_
 refine then_ok ?_
 refine af ?_
 refine ad aa 2 rfl ?_
 refine ag rfl (fun hc11=>?_) (fun hc11=>?_)
 ·
  have hc11':=of_decide_eq_true hc11
  refine ad aa 2 rfl ?_
  refine ax ?_
  refine an ?_
  have hX:ei l=(⟨8,0⟩:cX):=by
    (obtain rfl:q=l.length:=by omega);rw [List.take_length] at *;(unfold ei;rw [hi0_1,mQ (by omega)];rw [if_neg (by decide),if_pos (by omega)])
  rw [hX] at hr;clear hX
  subst hr
  refine al aa [0] 0 rfl rfl rfl rfl rfl rfl ?_ ?_
  all_goals first|rfl|(simp [ar];done)|(simp [ar];omega)
 have hc11':=of_decide_eq_false hc11
 refine aP ?_
 refine ad aa 2 rfl ?_
 refine ax ?_
 have hX:ei l=(⟨0,0⟩:cX):=by
   (obtain rfl:q=l.length:=by omega);rw [List.take_length] at *;(unfold ei;rw [hi0_1,mQ (by omega)];rw [if_neg (by decide),if_neg (by omega)])
 rw [hX] at hr;clear hX
 subst hr
 refine al aa [0] 0 rfl rfl rfl rfl rfl rfl ?_ ?_
 all_goals first|rfl|(simp [ar];done)|(simp [ar];omega)


theorem pX {l es:List Entry} (h0:(ei l).err=0) (h1:es.length<=10) (h2:∀ x∈es,¬eS x) (h3:eh es=0):fS l es=match eZ l es with
    |some r=>(r,0)
    |none=>([],4):=by
  unfold fS
  rw [if_neg (by omega),if_neg (by omega),if_neg (fun ⟨x,hx,hb⟩=>h2 x hx hb),if_neg (by omega)]
  all_goals (cases eZ l es<;>rfl)
theorem sO {es:List Entry} {q:Nat} (h:∀ x∈es.take q,¬eS x) (hq:es.length<=q):∀ x∈es,¬eS x:=by
  rwa [List.take_of_length_le hq] at h
theorem xu {es:List Entry} {q:Nat} {x:Entry} (h:∀ x∈es.take q,¬eS x) (hx:es[q]?=some x) (hb:¬eS x):∀ x∈es.take (q+1),¬eS x:=by
  rw [sn hx]
  intro y hy
  rcases List.mem_append.1 hy with hy|hy
  ·exact h y hy
  ·rw [List.mem_singleton.1 hy];exact hb
theorem wa {es:List Entry} {q:Nat} (hq:es.length<=q):eh (es.take q)=eh es:=by rw [List.take_of_length_le hq]
theorem Cd {l m es:List Entry} {q:Nat} (h:eZ l es=eZ m (es.drop q)) (hq:es.length<=q):eZ l es=some m:=by
  rw [h,List.drop_of_length_le hq];rfl
theorem vU (l es:List Entry) (r:List Entry) (e:Int) (hr:fS l es=(r,e)):Fn Try.prog 111 [(.c (dP l)),(.c (dP es))] (.t [(.c (.s 0 0 2 r.length)),(.c (cI e))]) [(0,(lp r))]:=by
 refine Fn.mk' 75 [(0,(aC (dP l))),(1,(aC (dP es)))] Try.func111 rfl rfl rfl rfl ?_
 intro W0 T0
 refine dF 0 rfl (fun hlen0=>?_)
 refine dF 1 rfl (fun hlen1=>?_)
 refine ad aa 2 rfl ?_
 refine af ?_
 refine aE aa 1 rfl ?_
 obtain ⟨f0,hr0⟩:∃ (f0:cX),ei l=f0:=⟨_,rfl⟩
 refine aM 0 [] (bP 0 (vp l f0 hr0) Gc rfl rfl ⟨⟨_,rfl,.c (.d _)⟩,trivial⟩ ⟨trivial,trivial,trivial⟩ trivial rfl rfl rfl rfl) rfl ?_
 refine ab aa 2 rfl ?_
 refine ae ?_
 refine ad aa 3 rfl ?_
 refine ag rfl (fun hc1=>?_) (fun hc1=>?_)
 ·
  have hc1':=of_decide_eq_true hc1
  refine af ?_
  refine bc [0,1,6] [0] mixed rfl rfl ?_
  refine aA (kn:=[]) aa 4 rfl trivial ?_
  refine bC [0] rfl rfl rfl rfl (by kernel_rfl) ?_
  refine ae ?_
  refine ax ?_
  refine an ?_
  refine cT (aD.nil 4 115 2 (by decide) rfl) ?_
  have hX:fS l es=(([]:List Entry),f0.err):=by
    unfold fS;rw [if_pos (by rw [hr0];omega),hr0]
  rw [hX] at hr;clear hX
  simp only [Prod.mk.injEq] at hr;obtain ⟨rfl,rfl⟩:=hr
  refine al aa [1] 1 rfl rfl rfl rfl rfl rfl ?_ ?_
  all_goals first|rfl|(simp [ar];done)|(simp [ar];omega)
 have hc1':=of_decide_eq_false hc1
 refine aP ?_
 refine af ?_
 refine aE aa 1 rfl ?_
 refine ay (cY rfl rfl rfl rfl rfl Try.underlying44) rfl ?_
 refine ab aa 1 rfl ?_
 refine ae ?_
 refine ag rfl (fun hc2=>?_) (fun hc2=>?_)
 ·
  have hc2':=of_decide_eq_true hc2
  refine ad aa 2 rfl ?_
  refine ax ?_
  refine an ?_
  refine cT (aD.nil 4 115 2 (by decide) rfl) ?_
  have hX:fS l es=(([]:List Entry),5):=by
    unfold fS;rw [if_neg (by rw [hr0];omega),if_pos (by omega)]
  rw [hX] at hr;clear hX
  simp only [Prod.mk.injEq] at hr;obtain ⟨rfl,rfl⟩:=hr
  refine al aa [1] 1 rfl rfl rfl rfl rfl rfl ?_ ?_
  all_goals first|rfl|(simp [ar];done)|(simp [ar];omega)
 have hc2':=of_decide_eq_false hc2
 refine aP ?_
 refine ad aa 1 rfl ?_
 refine af ?_
 refine aE aa 1 rfl ?_
 refine ay (cY rfl rfl rfl rfl rfl Try.underlying44) rfl ?_
 refine ab aa 1 rfl ?_
 refine ae ?_
 refine aW ?_
 refine cw (β:=Nat) (fun (q:Nat)=>⟨[(0,(aC (dP l))),(1,(aC (dP es))),(7,(aI (eh (es.take q)))),(25,(aC (dP es))),(26,(aI (↑es.length:Int))),(27,(aI (↑q:Int)))],[],0⟩) (fun (q:Nat)=>q<=es.length/\(∀ x∈es.take q,¬eS x)/\-1000000000000 * (q:Int)<=eh (es.take q)/\eh (es.take q)<=1000000000000 * (q:Int)) (fun (q:Nat)=>es.length - q) 0 ?_ ?_ ?_
 ·(have h2:eh (es.take 0)=0:=rfl);exact ⟨by omega,by intro x hx;simp at hx,by omega⟩
 ·exact aD.bY id (by refine ⟨?_,?_,?_,?_,?_,?_,trivial⟩<;>first|rfl|(simp only [bo];done)|(congr 3;omega)|(congr 4;omega)|(simp only [bp];rfl)) (trivial) rfl
 rintro q ⟨hi0_0,hi0_1,hi0_2⟩
 refine ad aa 1 rfl ?_
 refine af ?_
 refine ag rfl (fun hc3=>?_) (fun hc3=>?_)
 ·
  have hc3':=of_decide_eq_true hc3
  refine aP ?_
  refine af ?_
  refine aW ?_
  refine eN ?_
  obtain ⟨x1,hx1⟩:=cq (xs:=es) (i:=q) (by first|omega|(simp;done)|(simp;omega))
  refine ay (cS (i:=q) rfl rfl rfl Try.underlying44 dZ (by first|omega|(simp;done)|(simp;omega)) (bu hx1)) rfl ?_
  refine ab aa 3 rfl ?_
  refine ae ?_
  refine af ?_
  refine cp 48 ((((decide (x1.aR < 0))||(decide (x1.aR>=58)))||(decide (x1.sum < (-1000000000000))))||(decide (x1.sum > 1000000000000))) ?_ ?_
  ·
   refine aw ?_
   refine ab aa 4 rfl ?_
   refine bw (t:=34) rfl (fun hb4=>?_) (fun hb4=>?_)
   ·
    have hb4':=of_decide_eq_true hb4
    refine ab aa 14 rfl ?_
    refine ae ?_
    exact aD.bA 19 rfl rfl (by first|(simp [hb4];done)|(simp_all;done)|(exfalso;simp_all;done)|(simp_all;omega)) rfl
   have hb4':=of_decide_eq_false hb4
   refine ab aa 5 rfl ?_
   refine bw (t:=39) rfl (fun hb5=>?_) (fun hb5=>?_)
   ·
    have hb5':=of_decide_eq_true hb5
    refine ab aa 9 rfl ?_
    refine ae ?_
    exact aD.bA 20 rfl rfl (by first|(simp [hb4,hb5];done)|(simp_all;done)|(exfalso;simp_all;done)|(simp_all;omega)) rfl
   have hb5':=of_decide_eq_false hb5
   refine ab aa 5 rfl ?_
   refine bw (t:=44) rfl (fun hb6=>?_) (fun hb6=>?_)
   ·
    have hb6':=of_decide_eq_true hb6
    refine ab aa 4 rfl ?_
    refine ae ?_
    exact aD.bA 21 rfl rfl (by first|(simp [hb4,hb5,hb6];done)|(simp_all;done)|(exfalso;simp_all;done)|(simp_all;omega)) rfl
   have hb6':=of_decide_eq_false hb6
   refine ab aa 4 rfl ?_
   refine ae ?_
   exact aD.bA 21 rfl rfl (by first|(simp [hb4,hb5,hb6];done)|(simp_all;done)|(exfalso;simp_all;done)|(simp_all;omega)) rfl
  refine ag rfl (fun hc7=>?_) (fun hc7=>?_)
  ·
   have hc7':=hc7;try simp only [bl,bJ] at hc7'
   refine ad aa 2 rfl ?_
   refine ax ?_
   refine an ?_
   refine bf ?_
   refine an ?_
   refine an ?_
   refine bf ?_
   refine an ?_
   refine cT (aD.nil 4 115 2 (by decide) rfl) ?_
   have hX:fS l es=(([]:List Entry),3):=by
     unfold fS;rw [if_neg (by rw [hr0];omega),if_neg (by omega),if_pos ⟨x1,List.mem_of_getElem? hx1,by unfold eS;omega⟩]
   rw [hX] at hr;clear hX
   simp only [Prod.mk.injEq] at hr;obtain ⟨rfl,rfl⟩:=hr
   refine al aa [1] 1 rfl rfl rfl rfl rfl rfl ?_ ?_
   all_goals first|rfl|(simp [ar];done)|(simp [ar];omega)
  have hc7':=hc7;try simp only [bl,bJ] at hc7'
  refine aP ?_
  refine aw ?_
  refine ab aa 3 rfl ?_
  refine ay (aK rfl rfl rfl (aH (by first|omega|(simp;done)|(simp;omega)))) rfl ?_
  refine ab aa 1 rfl ?_
  refine bX ?_
  refine bn ?_
  refine then_ok ?_
  refine aw ?_
  refine ay (aK rfl rfl rfl (aH (by first|omega|(simp;done)|(simp;omega)))) rfl ?_
  refine ab aa 1 rfl ?_
  refine ae ?_
  refine ⟨q+1,⟨by omega,xu hi0_1 hx1 (by unfold eS;omega),by rw [jc hx1];omega⟩,by first|omega|(simp;done)|(simp;omega),aD.bY id (by refine ⟨?_,?_,?_,?_,?_,?_,trivial⟩<;>first|rfl|(simp only [bo];done)|(congr 3;omega)|(congr 4;omega)|(simp only [bp];rfl)|(rw [jc hx1];rfl)) (trivial) rfl⟩
 have hc3':=of_decide_eq_false hc3
 refine cm ?_
 refine aQ ?_
 refine aQ ?_
 refine bO ?_
 refine then_ok ?_
 refine af ?_
 refine ad aa 2 rfl ?_
 refine ag rfl (fun hc8=>?_) (fun hc8=>?_)
 ·
  have hc8':=of_decide_eq_true hc8
  refine ad aa 2 rfl ?_
  refine ax ?_
  refine an ?_
  refine cT (aD.nil 4 115 2 (by decide) rfl) ?_
  have hX:fS l es=(([]:List Entry),8):=by
    (have hs:=wa (es:=es) (q:=q) (by omega));(have hnb:=sO hi0_1 (by omega));unfold fS;rw [if_neg (by rw [hr0];omega),if_neg (by omega),if_neg (fun ⟨x,hx,hb⟩=>hnb x hx hb),if_pos (by omega)]
  rw [hX] at hr;clear hX
  simp only [Prod.mk.injEq] at hr;obtain ⟨rfl,rfl⟩:=hr
  refine al aa [0] 1 rfl rfl rfl rfl rfl rfl ?_ ?_
  all_goals first|rfl|(simp [ar];done)|(simp [ar];omega)
 have hc8':=of_decide_eq_false hc8
 refine aP ?_
 have h0:(ei l).err=0:=by rw [hr0];omega
 have hR:iU l:=(kG.1 h0).1
 have hRl:=sH hR
 have hs:=wa (es:=es) (q:=q) (by omega)
 have hnb:=sO hi0_1 (by omega)
 refine aE aa 1 rfl ?_
 refine aM 1 [0] (bP 0 (tJ l (by first|omega|(simp;done)|(simp;omega))) EM rfl rfl ⟨⟨_,rfl,.c (.d _)⟩,trivial⟩ trivial ⟨(fun _ _ _ _=>trivial),trivial⟩ rfl rfl rfl rfl) rfl ?_
 refine ab aa 1 rfl ?_
 refine ae ?_
 refine af ?_
 refine aE aa 1 rfl ?_
 refine ay (cY rfl rfl rfl rfl rfl Try.underlying44) rfl ?_
 refine ab aa 1 rfl ?_
 refine ae ?_
 refine aW ?_
 refine cw (β:=Nat×List Entry) (fun (p:Nat×List Entry)=>match p with|(p,m)=>⟨[(0,(aC (dP l))),(1,(aC (dP es))),(7,(aI (eh (es.take q)))),(25,(aC (dP es))),(26,(aI (↑es.length:Int))),(27,(aI (↑q:Int))),(10,(aC (.s 0 0 2 m.length))),(58,(aC (dP es))),(59,(aI (↑es.length:Int))),(60,(aI (↑p:Int)))],[(0,(lp m))],1⟩) (fun (p:Nat×List Entry)=>match p with|(p,m)=>p<=es.length/\iU m/\eZ l es=eZ m (es.drop p)) (fun (p:Nat×List Entry)=>match p with|(p,m)=>es.length - p) (0,l) ?_ ?_ ?_
 ·exact ⟨by omega,hR,rfl⟩
 ·exact aD.bY id (by refine ⟨?_,?_,?_,?_,?_,?_,?_,?_,?_,?_,trivial⟩<;>first|rfl|(simp only [bo];done)|(congr 3;omega)|(congr 4;omega)|(simp only [bp];rfl)) (⟨by first|rfl|(simp only [bo];done)|(congr 3;omega)|(congr 4;omega)|(simp only [bp];rfl),trivial⟩) rfl
 rintro ⟨p,m⟩ ⟨hi1_0,hi1_1,hi1_2⟩
 refine ad aa 1 rfl ?_
 refine af ?_
 refine ag rfl (fun hc9=>?_) (fun hc9=>?_)
 ·
  have hc9':=of_decide_eq_true hc9
  refine aP ?_
  refine af ?_
  refine aW ?_
  refine eN ?_
  obtain ⟨x1,hx1⟩:=cq (xs:=es) (i:=p) (by first|omega|(simp;done)|(simp;omega))
  have hx1n:=hnb x1 (List.mem_of_getElem? hx1)
  have hx1b:0<=x1.aR/\x1.aR<=57/\-1000000000000<=x1.sum/\x1.sum<=1000000000000:=by unfold eS at hx1n;omega
  refine ay (cS (i:=p) rfl rfl rfl Try.underlying44 dZ (by first|omega|(simp;done)|(simp;omega)) (bu hx1)) rfl ?_
  refine ab aa 3 rfl ?_
  refine ae ?_
  refine aE aa 2 rfl ?_
  obtain ⟨r1,g1,hr1⟩:∃ (r1:List Entry) (g1:Bool),jr m x1=(r1,g1):=⟨_,_,rfl⟩
  obtain ⟨hp1,hg1⟩:=Prod.mk.inj hr1
  refine aM 3 [2,1] (cE id (aX [2]) (EX m x1 (by exact (show iU _ by assumption).up) (by (have:=sH (show iU _ by assumption);omega)) (by (intro y hy;have:=(show iU _ by assumption).ok y hy;omega)) (by (unfold eS at *;omega)) r1 g1 hr1) EL rfl rfl ⟨⟨_,rfl,.inl ⟨rfl,rfl⟩⟩,⟨_,rfl,.inr (.g ⟨.d _,.d _,trivial⟩)⟩,trivial⟩ ⟨rfl,trivial⟩ rfl rfl rfl rfl rfl rfl ⟨trivial,trivial,trivial⟩ ⟨(fun _ _ _ _=>trivial),trivial⟩ rfl rfl rfl rfl) rfl ?_
  refine ab aa 5 rfl ?_
  refine ae ?_
  refine af ?_
  refine ad aa 2 rfl ?_
  refine ag rfl (fun hc10=>?_) (fun hc10=>?_)
  ·
   have hc10':=hc10;try simp only [bl,bJ] at hc10'
   refine ad aa 2 rfl ?_
   refine ax ?_
   refine an ?_
   refine bf ?_
   refine an ?_
   refine an ?_
   refine bf ?_
   refine an ?_
   refine cT (aD.nil 4 115 2 (by decide) rfl) ?_
   have hX:fS l es=(([]:List Entry),4):=by
     rw [pX h0 (by omega) hnb (by omega),hi1_2,pv hx1,if_neg (by simp_all)]
   rw [hX] at hr;clear hX
   simp only [Prod.mk.injEq] at hr;obtain ⟨rfl,rfl⟩:=hr
   refine al aa [3] 1 rfl rfl rfl rfl rfl rfl ?_ ?_
   all_goals first|rfl|(simp [ar];done)|(simp [ar];omega)
  have hc10':=hc10;try simp only [bl,bJ] at hc10'
  refine aP ?_
  refine aw ?_
  refine ab aa 2 rfl ?_
  refine bX ?_
  refine bn ?_
  refine then_ok ?_
  refine aw ?_
  refine ay (aK rfl rfl rfl (aH (by first|omega|(simp;done)|(simp;omega)))) rfl ?_
  refine ab aa 1 rfl ?_
  refine ae ?_
  refine ⟨(p+1,r1),⟨by omega,by rw [<-hp1];exact qE hi1_1 (by omega) (lJ.1 (by rw [hg1];simp_all)),by rw [hi1_2,pv hx1,if_pos (by rw [hg1];simp_all),hp1]⟩,by first|omega|(simp;done)|(simp;omega),aD.bY (fun k=>if k=0 then 2 else k) (by refine ⟨?_,?_,?_,?_,?_,?_,?_,?_,?_,?_,trivial⟩<;>first|rfl|(simp only [bo];done)|(congr 3;omega)|(congr 4;omega)|(simp only [bp];rfl)) (⟨by first|rfl|(simp only [bo];done)|(congr 3;omega)|(congr 4;omega)|(simp only [bp];rfl),trivial⟩) rfl⟩
 have hc9':=of_decide_eq_false hc9
 refine cm ?_
 refine aQ ?_
 refine aQ ?_
 refine bO ?_
 refine then_ok ?_
 refine ad aa 3 rfl ?_
 refine ax ?_
 have hX:fS l es=(m,0):=by
   rw [pX h0 (by omega) hnb (by omega),Cd hi1_2 (by omega)]
 rw [hX] at hr;clear hX
 simp only [Prod.mk.injEq] at hr;obtain ⟨rfl,rfl⟩:=hr
 refine al aa [0] 1 rfl rfl rfl rfl rfl rfl ?_ ?_
 all_goals first|rfl|(simp [ar];done)|(simp [ar];omega)


def iA (l:List Entry) (src dst n:Int):List Entry×Int:=if n < 0\/n > 1000000000000 then ([],3) else fS l [⟨src,0 - n⟩,⟨dst,n⟩]
theorem An {l es r : List Entry} (h : fS l es = (r, 0)) : (ei l).err = 0 ∧ es.length ≤ 10 ∧ (∀ x ∈ es, ¬ eS x) ∧ eh es = 0 ∧ eZ l es = some r := by
  unfold fS at h
  split at h
  · rename_i h0; injection h with _ h1; exact absurd h1 h0
  rename_i h0
  split at h
  · injection h with _ h1; cases h1
  rename_i h1
  split at h
  · injection h with _ h1; cases h1
  rename_i h2
  split at h
  · injection h with _ h1; cases h1
  rename_i h3
  split at h
  · rename_i r' hr
    injection h with h4 _
    subst h4
    exact ⟨by omega, by omega, fun x hx hb => h2 ⟨x, hx, hb⟩, by omega, hr⟩
  · injection h with _ h1; cases h1
theorem nV {l es r:List Entry} (h:fS l es=(r,0)) (a:Int):(ei r).err=0/\dA r a=dA l a+lb a es:=by
  obtain ⟨h1,h2,h3,h4,h5⟩:=An h
  obtain ⟨h6,h7⟩:=kG.1 h1
  obtain ⟨h8,h9⟩:=nZ h6 h3 h5
  exact ⟨kG.2 ⟨h8,by omega⟩,qL h6.up h5⟩

theorem vV (l:List Entry) (src dst n:Int) (r:List Entry) (e:Int) (hr:iA l src dst n=(r,e)):Fn Try.prog 98 [(.c (dP l)),(.c (cI src)),(.c (cI dst)),(.c (cI n))] (.t [(.c (.s 0 0 2 r.length)),(.c (cI e))]) [(0,(lp r))]:=by
 refine Fn.mk' 28 [(0,(aC (dP l))),(1,(aI src)),(2,(aI dst)),(3,(aI n))] Try.func98 rfl rfl rfl rfl ?_
 intro W0 T0
 refine dF 0 rfl (fun hlen0=>?_)
 refine ad aa 2 rfl ?_
 refine af ?_
 refine cp 15 ((decide (n < 0))||(decide (n > 1000000000000))) ?_ ?_
 ·
  refine aw ?_
  refine ab aa 3 rfl ?_
  refine bw (t:=12) rfl (fun hb1=>?_) (fun hb1=>?_)
  ·
   have hb1':=of_decide_eq_true hb1
   refine ab aa 3 rfl ?_
   refine ae ?_
   exact aD.bA 7 rfl rfl (by first|(simp [hb1];done)|(simp_all;done)|(exfalso;simp_all;done)|(simp_all;omega)) rfl
  have hb1':=of_decide_eq_false hb1
  refine ab aa 3 rfl ?_
  refine ae ?_
  exact aD.bA 7 rfl rfl (by first|(simp [hb1];done)|(simp_all;done)|(exfalso;simp_all;done)|(simp_all;omega)) rfl
 refine ag rfl (fun hc2=>?_) (fun hc2=>?_)
 ·
  have hc2':=hc2;try simp only [bl,bJ] at hc2'
  refine ad aa 2 rfl ?_
  refine ax ?_
  refine an ?_
  refine cT (aD.nil 8 115 2 (by decide) rfl) ?_
  have hX:iA l src dst n=(([]:List Entry),3):=by
    unfold iA;rw [if_pos (by omega)]
  rw [hX] at hr;clear hX
  simp only [Prod.mk.injEq] at hr;obtain ⟨rfl,rfl⟩:=hr
  refine al aa [0] 1 rfl rfl rfl rfl rfl rfl ?_ ?_
  all_goals first|rfl|(simp [ar];done)|(simp [ar];omega)
 have hc2':=hc2;try simp only [bl,bJ] at hc2'
 refine aP ?_
 refine aE aa 3 rfl ?_
 refine ay (ra rfl rfl (aH (by first|omega|(simp;done)|(simp;omega)))) rfl ?_
 refine ab aa 4 rfl ?_
 refine aM 1 [0] (dv (ys:=[(0,(.g [(cI src),(cI (0 - n))])),(1,(.g [(cI dst),(cI n)]))]) (rows:=([(⟨src,0 - n⟩:Entry),(⟨dst,n⟩:Entry)]).map eu) 0 jH rfl (by decide) ⟨⟨rfl,rfl⟩,⟨rfl,rfl⟩,trivial⟩ rfl rfl rfl rfl) rfl ?_
 obtain ⟨r0,e0,hr0⟩:∃ (r0:List Entry) (e0:Int),fS l ([(⟨src,0 - n⟩:Entry),(⟨dst,n⟩:Entry)])=(r0,e0):=⟨_,_,rfl⟩
 refine aM 2 [1,0] (fH 1 [0] (vU l ([(⟨src,0 - n⟩:Entry),(⟨dst,n⟩:Entry)]) r0 e0 hr0) EO rfl rfl ⟨⟨_,rfl,.c (.d _)⟩,⟨_,rfl,.c (.s rfl (by decide) (by first|omega|(simp;done)|(simp;omega)))⟩,trivial⟩ ⟨trivial,rfl,trivial⟩ ⟨(xA _),trivial⟩ rfl rfl rfl rfl) rfl ?_
 refine ab aa 4 rfl ?_
 refine ae ?_
 refine ax ?_
 have hX:iA l src dst n=(r0,e0):=by
   unfold iA;rw [if_neg (by omega)];assumption
 rw [hX] at hr;clear hX
 simp only [Prod.mk.injEq] at hr;obtain ⟨rfl,rfl⟩:=hr
 refine al aa [1] 1 rfl rfl rfl rfl rfl rfl ?_ ?_
 all_goals first|rfl|(simp [ar];done)|(simp [ar];omega)
theorem jd {α:Type}:∀ l:List α,l=[]\/∃ A y,l=A++[y]
 |[]=>.inl rfl
 |x::l=>.inr (by
  rcases jd l with rfl|⟨A,y,rfl⟩
  ·exact ⟨[],x,rfl⟩
  ·exact ⟨x::A,y,rfl⟩)
def gl (a b:ak):Bool:=decide (a.az < b.az)||(decide (a.az=b.az) && decide (a.ba < b.ba))
def fG (a b:ak):Prop:=a.az < b.az\/(a.az=b.az/\a.ba<=b.ba)
def jq (a b:ak):Bool:=decide (a.az=b.az) && decide (a.ba=b.ba)
def eQ (l:List ak):Prop:=l.Pairwise fG
def Same (u v:List ak):Prop:=∀ k:ak,u.filter (jq k)=v.filter (jq k)
theorem qP {a b:ak}:gl a b=true↔(a.az < b.az\/(a.az=b.az/\a.ba < b.ba)):=by unfold gl;simp
theorem qQ {a b:ak}:gl a b=false↔fG b a:=by
 unfold gl fG
 rw [Bool.or_eq_false_iff,decide_eq_false_iff_not,Bool.and_eq_false_iff,decide_eq_false_iff_not,decide_eq_false_iff_not]
 omega
theorem kj {a b:ak} (h:gl a b=true):fG a b:=by rw [qP] at h;unfold fG;omega
theorem nd (a:ak):fG a a:=by unfold fG;omega
theorem ki {a b c:ak} (h:fG a b) (h':fG b c):fG a c:=by unfold fG at *;omega
theorem uF {a b c:ak} (h:gl a b=true) (h':fG b c):gl a c=true:=by rw [qP] at *;unfold fG at *;omega
theorem yT {a b c:ak} (h:fG a b) (h':gl b c=true):gl a c=true:=by rw [qP] at *;unfold fG at *;omega
theorem oM {a b:ak}:jq a b=true↔(a.az=b.az/\a.ba=b.ba):=by unfold jq;simp
theorem kI (a:ak):jq a a=true:=by rw [oM];exact ⟨rfl,rfl⟩
theorem Same.refl (u:List ak):Same u u:=fun _=>rfl
theorem Same.symm {u v:List ak} (h:Same u v):Same v u:=fun k=>(h k).symm
theorem Same.trans {u v z:List ak} (h:Same u v) (h':Same v z):Same u z:=fun k=>(h k).trans (h' k)
theorem Same.app {u v u' v':List ak} (h:Same u u') (h':Same v v'):Same (u++v) (u'++v'):=fun k=>by rw [List.filter_append,List.filter_append,h k,h' k]
theorem Same.mem {u v:List ak} (h:Same u v) {x:ak}:x∈u↔x∈v:=by
 have h1:∀ l:List ak,x∈l.filter (jq x)↔x∈l:=fun l=>by simp [kI]
 rw [<-h1 u,<-h1 v,h x]
theorem Same.perm {u v:List ak} (h:Same u v):u.Perm v:=by
 rw [List.perm_iff_count]
 intro x
 rw [<-List.count_filter (p:=jq x) (l:=u) (kI x),<-List.count_filter (p:=jq x) (l:=v) (kI x),h x]
theorem Same.len {u v:List ak} (h:Same u v):u.length=v.length:=h.perm.length_eq
theorem Same.comm {u v:List ak} (h:∀ x∈u,∀ y∈v,gl y x=true):Same (u++v) (v++u):=fun k=>by
 rw [List.filter_append,List.filter_append]
 by_cases hu:u.filter (jq k)=[]
 ·rw [hu];simp
 ·by_cases hv:v.filter (jq k)=[]
  ·rw [hv];simp
  ·exfalso
   obtain ⟨x,hx⟩:=List.exists_mem_of_ne_nil _ hu
   obtain ⟨y,hy⟩:=List.exists_mem_of_ne_nil _ hv
   rw [List.mem_filter] at hx hy
   have h1:=h x hx.1 y hy.1
   have h2:=oM.1 hx.2
   have h3:=oM.1 hy.2
   rw [qP] at h1
   omega
theorem eQ.uniq:∀ {u v:List ak},eQ u->eQ v->Same u v->u=v
 |[],v,_,_,h=>by have:=h.len;exact (List.eq_nil_of_length_eq_zero this.symm).symm
 |x::u,[],_,_,h=>by have:=h.len;cases this
 |x::u,y::v,hu,hv,h=>by
  obtain ⟨hu1,hu2⟩:=List.pairwise_cons.1 hu
  obtain ⟨hv1,hv2⟩:=List.pairwise_cons.1 hv
  have h1:fG x y:=by
   rcases List.mem_cons.1 (h.mem.2 (List.mem_cons_self (a:=y) (l:=v))) with rfl|hm
   ·exact nd _
   ·exact hu1 y hm
  have h2:fG y x:=by
   rcases List.mem_cons.1 (h.mem.1 (List.mem_cons_self (a:=x) (l:=u))) with rfl|hm
   ·exact nd _
   ·exact hv1 x hm
  have h3:jq x y=true:=by rw [oM];unfold fG at h1 h2;omega
  have h4:=h x
  rw [List.filter_cons,List.filter_cons,if_pos (kI x),if_pos h3] at h4
  obtain ⟨rfl,_⟩:=List.cons.inj h4
  have h5:Same u v:=fun k=>by
   have:=h k
   rw [List.filter_cons,List.filter_cons] at this
   split at this
   ·exact (List.cons.inj this).2
   ·exact this
  rw [eQ.uniq hu2 hv2 h5]

def gH (d:List ak) (i j:Nat):List ak:=
 match d[i]?,d[j]? with
 |some x,some y=>(d.set i y).set j x
 |_,_=>d
theorem kX {d:List ak} {i j:Nat} {x y:ak} (hx:d[i]?=some x) (hy:d[j]?=some y):gH d i j=(d.set i y).set j x:=by unfold gH;rw [hx,hy]
theorem ly (d:List ak) (i j:Nat):(gH d i j).length=d.length:=by
 unfold gH;split<;>simp
theorem nO (s t u:List ak) (x y:ak) {i j:Nat} (hi:i=s.length) (hj:j=s.length+1+t.length):gH (s++x::(t++y::u)) i j=s++y::(t++x::u):=by
 subst hi hj
 have h1:(s++x::(t++y::u))[s.length]?=some x:=by simp
 have h2:(s++x::(t++y::u))[s.length+1+t.length]?=some y:=by
  rw [List.getElem?_append_right (by omega),show s.length+1+t.length - s.length=t.length+1 by omega,List.getElem?_cons_succ];simp
 rw [kX h1 h2,List.set_append_right _ _ (Nat.le_refl _),Nat.sub_self,List.set_cons_zero,List.set_append_right _ _ (by omega),show s.length+1+t.length - s.length=t.length+1 by omega,
  List.set_cons_succ,List.set_append_right _ _ (Nat.le_refl _),Nat.sub_self,List.set_cons_zero]
theorem xd (d:List ak) (i j:Nat):gH d i j=gH d j i:=by
 by_cases hij:i=j
 ·subst hij;rfl
 ·unfold gH
  cases hx:d[i]? with
  |none=>cases hy:d[j]?<;>rfl
  |some x=>
   cases hy:d[j]? with
   |none=>rfl
   |some y=>exact List.set_comm _ _ hij
theorem qC (s t u:List ak) (x y:ak) {i j:Nat} (hi:i=s.length) (hj:j=s.length+1+t.length):gH (s++x::(t++y::u)) j i=s++y::(t++x::u):=by rw [xd];exact nO s t u x y hi hj

structure Part (d y:List ak) (a b:Nat):Prop where
 len:y.length=d.length
 l:y.take a=d.take a
 r:y.drop b=d.drop b
 s:eQ ((y.drop a).take (b - a))
 m:Same d y
theorem Part.of {P X C R:List ak} {a b:Nat} (ha:P.length=a) (hb:b=a+X.length) (hs:eQ C) (hm:Same X C):Part (P++X++R) (P++C++R) a b:=by
 subst ha hb
 have hl:=hm.len
 refine ⟨by simp [hl],by simp,?_,?_,((Same.refl P).app hm).app (Same.refl R)⟩
 ·have h1:∀ Z:List ak,Z.length=X.length->(P++Z++R).drop (P.length+X.length)=R:=fun Z hz=>by
   rw [<-hz,<-List.length_append,List.drop_left]
  rw [h1 C hl.symm,h1 X rfl]
 ·rw [List.append_assoc,List.drop_left,show P.length+X.length - P.length=C.length by omega,List.take_left];exact hs
theorem parts {d:List ak} {a b:Nat} (h:a<=b) (hb:b<=d.length):d=d.take a++(d.drop a).take (b - a)++d.drop b:=by
 have h1:d.drop b=(d.drop a).drop (b - a):=by rw [List.drop_drop];congr 1;omega
 rw [h1,List.append_assoc,List.take_append_drop,List.take_append_drop]

def iZ (a:Nat):Nat->List ak->List ak
 |0,d=>d
 |j+1,d=>
  if a < j+1 then
   match d[j+1]?,d[j]? with
   |some x,some y=>if gl x y=true then iZ a j (gH d (j+1) j) else d
   |_,_=>d
  else d
theorem qa {a j:Nat} {d:List ak} (h:¬a < j):iZ a j d=d:=by
 cases j with
 |zero=>rfl
 |succ j=>unfold iZ;rw [if_neg h]
theorem oh {a j:Nat} {d:List ak} {x y:ak} (hx:d[j]?=some x) (hy:d[j - 1]?=some y) (h:gl x y=false):iZ a j d=d:=by
 cases j with
 |zero=>rfl
 |succ j=>
  unfold iZ
  split
  ·rw [hx,show d[j]?=some y from hy];simp [h]
  ·rfl
theorem wJ {a j:Nat} {d:List ak} {x y:ak} (ha:a < j) (hx:d[j]?=some x) (hy:d[j - 1]?=some y) (h:gl x y=true):iZ a j d=iZ a (j - 1) (gH d j (j - 1)):=by
 cases j with
 |zero=>omega
 |succ j=>
  conv=>lhs;unfold iZ
  rw [if_pos ha,hx,show d[j]?=some y from hy]
  simp only [h,if_true]
  rfl
theorem uM (a:Nat):∀ (j:Nat) (d:List ak),(iZ a j d).length=d.length
 |0,d=>rfl
 |j+1,d=>by
  unfold iZ
  split
  ·split
   ·split
    ·rw [uM a j,ly]
    ·rfl
   ·rfl
  ·rfl
theorem uN (P:List ak) (x:ak):∀ (n:Nat) (A R:List ak),A.length=n->∃ A1 A2,A=A1++A2/\iZ P.length (P.length+n) (P++A++x::R)=P++(A1++x::A2)++R/\(∀ y∈A2,gl x y=true)/\(∀ A0 y,A1=A0++[y]->fG y x)
 |0,A,R,hA=>by
  obtain rfl:=List.eq_nil_of_length_eq_zero hA
  refine ⟨[],[],rfl,?_,by simp,by simp⟩
  rw [qa (by omega)];simp
 |n+1,A,R,hA=>by
  obtain ⟨A',y,rfl⟩:∃ A' y,A=A'++[y]:=by
   rcases jd A with rfl|h
   ·cases hA
   ·exact h
  have hn:A'.length=n:=by simpa using hA
  have e1:P++(A'++[y])++x::R=(P++A')++y::([]++x::R):=by simp
  have h1:(P++(A'++[y])++x::R)[P.length+(n+1)]?=some x:=by
   rw [List.getElem?_append_right (by simp;omega),show P.length+(n+1) - (P++(A'++[y])).length=0 by simp;omega];rfl
  have h2:(P++(A'++[y])++x::R)[P.length+(n+1) - 1]?=some y:=by
   rw [e1,List.getElem?_append_right (by simp;omega),show P.length+(n+1) - 1 - (P++A').length=0 by simp;omega];rfl
  cases hc:gl x y with
  |true=>
   rw [wJ (by omega) h1 h2 hc,show P.length+(n+1) - 1=P.length+n by omega,e1,qC (P++A') [] R y x (by simp;omega) (by simp;omega)]
   obtain ⟨A1,A2,rfl,h3,h4,h5⟩:=uN P x n A' (y::R) hn
   refine ⟨A1,A2++[y],by simp,?_,?_,h5⟩
   ·rw [List.nil_append,h3];simp
   ·intro z hz
    rcases List.mem_append.1 hz with hz|hz
    ·exact h4 z hz
    ·rw [List.mem_singleton.1 hz];exact hc
  |false=>
   rw [oh h1 h2 hc]
   refine ⟨A'++[y],[],by simp,by simp,by simp,fun A0 z hz=>?_⟩
   obtain ⟨_,h⟩:=List.append_inj' hz rfl
   rw [<-List.cons.inj h|>.1]
   exact qQ.1 hc
theorem gm {u v:List ak}:eQ (u++v)↔eQ u/\eQ v/\∀ x∈u,∀ y∈v,fG x y:=List.pairwise_append
theorem ue {u:List ak} {y x:ak} (h:eQ (u++[y])) (hx:fG y x):∀ z∈u++[y],fG z x:=fun z hz=>by
 rcases List.mem_append.1 hz with hz|hz
 ·exact ki ((gm.1 h).2.2 z hz y (List.mem_singleton.2 rfl)) hx
 ·rw [List.mem_singleton.1 hz];exact hx
theorem yU {u:List ak} {x:ak} (h:eQ u) (hl:∀ A0 y,u=A0++[y]->fG y x):∀ z∈u,fG z x:=by
 rcases jd u with rfl|⟨A',y,h'⟩
 ·simp
 ·rw [h'] at h ⊢;exact ue h (hl A' y h')
theorem yQ {A1 A2:List ak} {x:ak} (h:eQ (A1++A2)) (h1:∀ z∈A1,fG z x) (h2:∀ z∈A2,gl x z=true):eQ (A1++x::A2)/\Same (A1++A2++[x]) (A1++x::A2):=by
 obtain ⟨s1,s2,s3⟩:=gm.1 h
 refine ⟨gm.2 ⟨s1,List.pairwise_cons.2 ⟨fun y hy=>kj (h2 y hy),s2⟩,fun z hz y hy=>?_⟩,?_⟩
 ·rcases List.mem_cons.1 hy with rfl|hy
  ·exact h1 z hz
  ·exact s3 z hz y hy
 ·have:=(Same.refl A1).app (Same.comm (u:=A2) (v:=[x]) fun y hy z hz=>by rw [List.mem_singleton.1 hz];exact h2 y hy)
  simpa using this
theorem Ch {B1 B2:List ak} {x:ak} (h:eQ (B1++B2)) (h1:∀ z∈B1,gl z x=true) (h2:∀ z∈B2,fG x z):eQ (B1++x::B2)/\Same (x::(B1++B2)) (B1++x::B2):=by
 obtain ⟨s1,s2,s3⟩:=gm.1 h
 refine ⟨gm.2 ⟨s1,List.pairwise_cons.2 ⟨h2,s2⟩,fun z hz y hy=>?_⟩,?_⟩
 ·rcases List.mem_cons.1 hy with rfl|hy
  ·exact kj (h1 z hz)
  ·exact s3 z hz y hy
 ·have:=(Same.comm (u:=[x]) (v:=B1) fun y hy z hz=>by rw [List.mem_singleton.1 hy];exact h1 z hz).app (Same.refl B2)
  simpa using this
def iI (a:Nat):Nat->List ak->List ak
 |0,d=>d
 |n+1,d=>iZ a (a+1+n) (iI a n d)
theorem pZ (a:Nat):∀ (n:Nat) (d:List ak),(iI a n d).length=d.length
 |0,_=>rfl
 |n+1,d=>by unfold iI;rw [uM,pZ a n]
theorem uJ (P X R:List ak):∀ n,n < X.length->∃ C,iI P.length n (P++X++R)=P++C++X.drop (n+1)++R/\eQ C/\Same (X.take (n+1)) C
 |0,h=>by
  refine ⟨X.take 1,?_,?_,Same.refl _⟩
  ·unfold iI;rw [List.append_assoc P (X.take 1),List.take_append_drop]
  ·cases X with
   |nil=>cases h
   |cons x X=>exact List.pairwise_singleton _ _
 |n+1,h=>by
  obtain ⟨C,h1,h2,h3⟩:=uJ P X R n (by omega)
  have hl:C.length=n+1:=by rw [<-h3.len,List.length_take];omega
  have e1:X.drop (n+1)=X[n+1]::X.drop (n+2):=List.drop_eq_getElem_cons h
  obtain ⟨A1,A2,rfl,h4,h5,h6⟩:=uN P X[n+1] (n+1) C (X.drop (n+2)++R) hl
  have h7:eQ A1:=(gm.1 h2).1
  obtain ⟨h8,h9⟩:=yQ h2 (yU h7 h6) h5
  refine ⟨A1++X[n+1]::A2,?_,h8,?_⟩
  ·unfold iI
   rw [h1,show P.length+1+n=P.length+(n+1) by omega,show P++(A1++A2)++X.drop (n+1)++R=P++(A1++A2)++X[n+1]::(X.drop (n+2)++R) by rw [List.append_assoc _ _ R,e1,List.cons_append],h4]
   simp
  ·rw [List.take_add_one,List.getElem?_eq_getElem h]
   exact (h3.app (Same.refl _)).trans h9
theorem sX {d:List ak} {a b:Nat} (h:a<=b) (hb:b<=d.length):Part d (iI a (b - (a+1)) d) a b:=by
 by_cases hab:a=b
 ·subst hab
  rw [show a - (a+1)=0 by omega]
  exact ⟨rfl,rfl,rfl,by rw [Nat.sub_self];exact List.Pairwise.nil,Same.refl _⟩
 ·have e:=parts h hb
  have h1:(d.take a).length=a:=by rw [List.length_take];omega
  have h2:((d.drop a).take (b - a)).length=b - a:=by rw [List.length_take,List.length_drop];omega
  obtain ⟨C,h3,h4,h5⟩:=uJ (d.take a) ((d.drop a).take (b - a)) (d.drop b) (b - (a+1)) (by omega)
  rw [h1] at h3
  rw [<-e,List.drop_of_length_le (l:=(d.drop a).take (b - a)) (by omega),List.append_nil] at h3
  rw [List.take_of_length_le (l:=(d.drop a).take (b - a)) (by omega)] at h5
  have:=Part.of (P:=d.take a) (R:=d.drop b) (a:=a) (b:=b) h1 (by omega) h4 h5
  rwa [<-e,<-h3] at this

def dn (d:List ak) (i j:Nat):Bool:=
 match d[i]?,d[j]? with
 |some x,some y=>gl x y
 |_,_=>false
theorem fF {d:List ak} {i j:Nat} {x y:ak} (hx:d[i]?=some x) (hy:d[j]?=some y):dn d i j=gl x y:=by unfold dn;rw [hx,hy]
def fy (p:Nat->Bool) (i j:Nat):Nat:=
 if _h:i < j then if p ((i+j) / 2)=true then fy p ((i+j) / 2+1) j else fy p i ((i+j) / 2) else i
termination_by j - i
theorem eC {p:Nat->Bool} {i j:Nat} (h:¬i < j):fy p i j=i:=by rw [fy,dif_neg h]
theorem BQ {p:Nat->Bool} {i j:Nat} (h:i < j) (hp:p ((i+j) / 2)=true):fy p i j=fy p ((i+j) / 2+1) j:=by rw [fy,dif_pos h,if_pos hp]
theorem BR {p:Nat->Bool} {i j:Nat} (h:i < j) (hp:p ((i+j) / 2)=false):fy p i j=fy p i ((i+j) / 2):=by rw [fy,dif_pos h,if_neg (by rw [hp];exact Bool.false_ne_true)]
theorem jT (p:Nat->Bool):∀ (n i j:Nat),j - i<=n->i<=j->i<=fy p i j/\fy p i j<=j/\(fy p i j=i\/p (fy p i j - 1)=true)/\(fy p i j=j\/p (fy p i j)=false)
 |0,i,j,hn,h=>by rw [eC (by omega)];exact ⟨Nat.le_refl _,h,.inl rfl,.inl (by omega)⟩
 |n+1,i,j,hn,h=>by
  by_cases hij:i < j
  ·cases hp:p ((i+j) / 2) with
   |true=>
    rw [BQ hij hp]
    obtain ⟨h1,h2,h3,h4⟩:=jT p n ((i+j) / 2+1) j (by omega) (by omega)
    refine ⟨by omega,h2,?_,h4⟩
    rcases h3 with h3|h3
    ·right;rw [h3,Nat.add_sub_cancel];exact hp
    ·exact .inr h3
   |false=>
    rw [BR hij hp]
    obtain ⟨h1,h2,h3,h4⟩:=jT p n i ((i+j) / 2) (by omega) (by omega)
    refine ⟨h1,by omega,h3,?_⟩
    rcases h4 with h4|h4
    ·right;rw [h4];exact hp
    ·exact .inr h4
  ·rw [eC hij];exact ⟨Nat.le_refl _,h,.inl rfl,.inl (by omega)⟩
def nD (a:Nat):Nat->List ak->List ak
 |0,d=>d
 |n+1,d=>gH (nD a n d) (a+n) (a+n+1)
def nE (m:Nat):Nat->List ak->List ak
 |0,d=>d
 |n+1,d=>gH (nE m n d) (m - n) (m - n - 1)
theorem wE (a:Nat):∀ (n:Nat) (d:List ak),(nD a n d).length=d.length
 |0,_=>rfl
 |n+1,d=>by unfold nD;rw [ly,wE a n]
theorem wG (m:Nat):∀ (n:Nat) (d:List ak),(nE m n d).length=d.length
 |0,_=>rfl
 |n+1,d=>by unfold nE;rw [ly,wG m n]
theorem wF (P:List ak) (x:ak):∀ (n:Nat) (V R:List ak),V.length=n->nD P.length n (P++x::(V++R))=P++V++x::R
 |0,V,R,h=>by obtain rfl:=List.eq_nil_of_length_eq_zero h;simp [nD]
 |n+1,V,R,h=>by
  rcases jd V with rfl|⟨V',y,rfl⟩
  ·cases h
  ·have hn:V'.length=n:=by simpa using h
   unfold nD
   rw [show P++x::(V'++[y]++R)=P++x::(V'++(y::R)) by simp,wF P x n V' (y::R) hn]
   have:=nO (P++V') [] R x y (i:=P.length+n) (j:=P.length+n+1) (by simp;omega) (by simp;omega)
   rw [List.nil_append,List.nil_append] at this
   rw [this];simp
theorem wH (P:List ak) (x:ak) (R:List ak):∀ (n:Nat) (U1 U2:List ak),U2.length=n->nE (P++U1++U2).length n (P++U1++U2++x::R)=P++U1++x::(U2++R)
 |0,U1,U2,h=>by obtain rfl:=List.eq_nil_of_length_eq_zero h;simp [nE]
 |n+1,U1,U2,h=>by
  cases U2 with
  |nil=>cases h
  |cons y U=>
   have hn:U.length=n:=by simpa using h
   unfold nE
   have e1:P++U1++y::U=P++(U1++[y])++U:=by simp
   rw [e1,wH P x R n (U1++[y]) U hn]
   have:=qC (P++U1) [] (U++R) y x (i:=(P++(U1++[y])++U).length - n - 1) (j:=(P++(U1++[y])++U).length - n) (by simp;omega) (by simp;omega)
   rw [List.nil_append,List.nil_append] at this
   rw [show P++(U1++[y])++x::(U++R)=P++U1++y::x::(U++R) by simp,this]
   simp
def fQ (a b:Nat):Nat->List ak->List ak
 |0,d=>d
 |n+1,d=>gH (fQ a b n d) (a+n) (b+n)
theorem im (a b:Nat):∀ (n:Nat) (d:List ak),(fQ a b n d).length=d.length
 |0,_=>rfl
 |n+1,d=>by unfold fQ;rw [ly,im a b n]
theorem lx (p:List ak):∀ (n:Nat) (x q y r:List ak) {b:Nat},x.length=n->y.length=n->b=p.length+n+q.length->fQ p.length b n (p++(x++(q++(y++r))))=p++(y++(q++(x++r)))
 |0,x,q,y,r,b,hx,hy,_=>by obtain rfl:=List.eq_nil_of_length_eq_zero hx;obtain rfl:=List.eq_nil_of_length_eq_zero hy;rfl
 |n+1,x,q,y,r,b,hx,hy,hb=>by
  rcases jd x with rfl|⟨x',x1,rfl⟩
  ·cases hx
  rcases jd y with rfl|⟨y',y1,rfl⟩
  ·cases hy
  have h1:x'.length=n:=by simpa using hx
  have h2:y'.length=n:=by simpa using hy
  unfold fQ
  have:=lx p n x' (x1::q) y' (y1::r) (b:=b) h1 h2 (by simp;omega)
  rw [show p++(x'++[x1]++(q++(y'++[y1]++r)))=p++(x'++(x1::q++(y'++y1::r))) by simp,this]
  have:=nO (p++y') (q++x') r x1 y1 (i:=p.length+n) (j:=b+n) (by simp;omega) (by simp;omega)
  rw [show p++(y'++(x1::q++(x'++y1::r)))=p++y'++x1::(q++x'++y1::r) by simp,this]
  simp
def iE (m:Nat) (i j:Nat) (d:List ak):List ak:=
 if _h:0 < i/\0 < j then
  if i=j then fQ (m - i) m i d
  else if i > j then iE m (i - j) j (fQ (m - i) m j d)
  else iE m i (j - i) (fQ (m - i) (m+j - i) i d)
 else d
termination_by i+j
theorem yH {m i:Nat} {d:List ak} (hi:0 < i):iE m i i d=fQ (m - i) m i d:=by rw [iE,dif_pos ⟨hi,hi⟩,if_pos rfl]
theorem yG {m i j:Nat} {d:List ak} (hj:0 < j) (h:i > j):iE m i j d=iE m (i - j) j (fQ (m - i) m j d):=by rw [iE,dif_pos ⟨by omega,hj⟩,if_neg (by omega),if_pos h]
theorem yF {m i j:Nat} {d:List ak} (hi:0 < i) (h:i < j):iE m i j d=iE m i (j - i) (fQ (m - i) (m+j - i) i d):=by rw [iE,dif_pos ⟨hi,by omega⟩,if_neg (by omega),if_neg (by omega)]
theorem rK:∀ (n:Nat) (P u v R:List ak) (m:Nat),u.length+v.length<=n->0 < u.length->0 < v.length->m=P.length+u.length->iE m u.length v.length (P++(u++(v++R)))=P++(v++(u++R))
 |0,P,u,v,R,m,hn,hu,hv,hm=>by omega
 |n+1,P,u,v,R,m,hn,hu,hv,hm=>by
  rcases Nat.lt_trichotomy u.length v.length with h|h|h
  ·rw [yF hu h]
   have e:v=v.take (v.length - u.length)++v.drop (v.length - u.length):=(List.take_append_drop _ _).symm
   have l1:(v.take (v.length - u.length)).length=v.length - u.length:=by rw [List.length_take];omega
   have l2:(v.drop (v.length - u.length)).length=u.length:=by rw [List.length_drop];omega
   generalize hv1:v.take (v.length - u.length)=v1 at e l1
   generalize hv2:v.drop (v.length - u.length)=v2 at e l2
   have h1:=lx P u.length u v1 v2 R (b:=m+v.length - u.length) rfl l2 (by omega)
   rw [show m - u.length=P.length by omega,show P++(u++(v++R))=P++(u++(v1++(v2++R))) by rw [e];simp,h1,<-l1]
   have h2:=rK n P v2 v1 (u++R) m (by omega) (by omega) (by omega) (by omega)
   rw [l2] at h2
   rw [h2,e];simp
  ·rw [<-h,yH hu,show m - u.length=P.length by omega]
   have h1:=lx P u.length u [] v R (b:=m) rfl h.symm (by simp;omega)
   simpa using h1
  ·rw [yG hv h]
   have e:u=u.take v.length++u.drop v.length:=(List.take_append_drop _ _).symm
   have l1:(u.take v.length).length=v.length:=by rw [List.length_take];omega
   have l2:(u.drop v.length).length=u.length - v.length:=by rw [List.length_drop]
   generalize hv1:u.take v.length=u1 at e l1
   generalize hv2:u.drop v.length=u2 at e l2
   have h1:=lx P v.length u1 u2 v R (b:=m) l1 rfl (by omega)
   rw [show m - u.length=P.length by omega,show P++(u++(v++R))=P++(u1++(u2++(v++R))) by rw [e];simp,h1,<-l2]
   have h2:=rK n (P++v) u2 u1 R m (by omega) (by omega) (by omega) (by simp;omega)
   rw [l1] at h2
   rw [show P++(v++(u2++(u1++R)))=P++v++(u2++(u1++R)) by simp,h2,e];simp
theorem mq:∀ (n m i j:Nat) (d:List ak),i+j<=n->(iE m i j d).length=d.length
 |0,m,i,j,d,h=>by rw [iE,dif_neg (by omega)]
 |n+1,m,i,j,d,h=>by
  rw [iE]
  split
  ·split
   ·rw [im]
   ·split
    ·rw [mq n _ _ _ _ (by omega),im]
    ·rw [mq n _ _ _ _ (by omega),im]
  ·rfl
def eb (d:List ak) (a m b:Nat):Nat:=
 if m > (a+b) / 2 then fy (fun c=>!dn d ((a+b) / 2+m - 1 - c) c) ((a+b) / 2+m - b) ((a+b) / 2)
 else fy (fun c=>!dn d ((a+b) / 2+m - 1 - c) c) a m
def eO (s m e:Nat) (d:List ak):List ak:=if s < m/\m < e then iE m (m - s) (e - m) d else d
def dr:Nat->Nat->Nat->Nat->List ak->List ak
 |0,_,_,_,d=>d
 |f+1,a,m,b,d=>
  if m - a=1 then nD a (fy (fun h=>dn d h a) m b - 1 - a) d
  else if b - m=1 then nE m (m - fy (fun h=>!dn d m h) a m) d
  else
   (fun s=>(fun e=>(fun d1=>(fun d2=>if (a+b) / 2 < e/\e < b then dr f ((a+b) / 2) e b d2 else d2)
    (if a < s/\s < (a+b) / 2 then dr f a s ((a+b) / 2) d1 else d1)) (eO s m e d)) ((a+b) / 2+m - s)) (eb d a m b)
theorem kH (s m e:Nat) (d:List ak):(eO s m e d).length=d.length:=by unfold eO;split;exact mq _ _ _ _ _ (Nat.le_refl _);rfl
theorem eF:∀ (f a m b:Nat) (d:List ak),(dr f a m b d).length=d.length
 |0,_,_,_,_=>rfl
 |f+1,a,m,b,d=>by
  unfold dr
  split
  ·rw [wE]
  ·split
   ·rw [wG]
   ·dsimp only
    split
    ·rw [eF f]
     split
     ·rw [eF f,kH]
     ·rw [kH]
    ·split
     ·rw [eF f,kH]
     ·rw [kH]
theorem sW {a i:Nat} {d:List ak} (h:a+1<=i):iI a (i+1 - (a+1)) d=iZ a i (iI a (i - (a+1)) d):=by
 rw [show i+1 - (a+1)=(i - (a+1))+1 by omega]
 conv=>lhs;unfold iI
 rw [show a+1+(i - (a+1))=i by omega]
theorem Ao {a k:Nat} {d:List ak} (h:a<=k):nD a (k+1 - a) d=gH (nD a (k - a) d) k (k+1):=by
 rw [show k+1 - a=(k - a)+1 by omega]
 conv=>lhs;unfold nD
 rw [show a+(k - a)=k by omega]
theorem Ap {m k:Nat} {d:List ak} (h:k<=m) (h0:0 < k):nE m (m - (k - 1)) d=gH (nE m (m - k) d) k (k - 1):=by
 rw [show m - (k - 1)=(m - k)+1 by omega]
 conv=>lhs;unfold nE
 rw [show m - (m - k)=k by omega]
theorem lK {P X:List ak} {k n:Nat} (hn:n=P.length+k):(P++X)[n]?=X[k]?:=by
 subst hn;rw [List.getElem?_append_right (by omega),Nat.add_sub_cancel_left]
theorem le_last {B:List ak} {x:ak} (h:eQ B) (hl:∀ A0 y,B=A0++[y]->gl y x=true):∀ z∈B,gl z x=true:=by
 rcases jd B with rfl|⟨A',y,h'⟩
 ·simp
 ·intro z hz
  have h1:=hl A' y h'
  rw [h'] at h hz
  rcases List.mem_append.1 hz with hz|hz
  ·exact yT ((gm.1 h).2.2 z hz y (List.mem_singleton.2 rfl)) h1
  ·rw [List.mem_singleton.1 hz];exact h1
theorem AM {B:List ak} {x:ak} (h:eQ B) (hl:∀ y B0,B=y::B0->gl x y=true):∀ z∈B,gl x z=true:=by
 cases B with
 |nil=>simp
 |cons y B0=>
  intro z hz
  have h1:=hl y B0 rfl
  rcases List.mem_cons.1 hz with rfl|hz
  ·exact h1
  ·exact uF h1 ((List.pairwise_cons.1 h).1 z hz)
theorem AN {B:List ak} {x:ak} (h:eQ B) (hl:∀ y B0,B=y::B0->fG x y):∀ z∈B,fG x z:=by
 cases B with
 |nil=>simp
 |cons y B0=>
  intro z hz
  have h1:=hl y B0 rfl
  rcases List.mem_cons.1 hz with rfl|hz
  ·exact h1
  ·exact ki h1 ((List.pairwise_cons.1 h).1 z hz)
theorem uf {A:List ak} {y:ak} {A0:List ak} (h:A=A0++[y]):A[A.length - 1]?=some y:=by subst h;simp
theorem mK (l:List ak) (k:Nat) (h:k<=l.length):∃ u v,l=u++v/\u.length=k:=⟨l.take k,l.drop k,(List.take_append_drop k l).symm,by rw [List.length_take];omega⟩
theorem tc {U:List ak} {u:ak} (h:eQ U) (hu:U[0]?=some u):∀ x∈U,fG u x:=by
 cases U with
 |nil=>simp
 |cons y U=>
  simp at hu;subst hu
  intro x hx
  rcases List.mem_cons.1 hx with rfl|hx
  ·exact nd _
  ·exact (List.pairwise_cons.1 h).1 x hx
theorem uI {V:List ak} {v:ak} (h:eQ V) (hv:V[V.length - 1]?=some v):∀ y∈V,fG y v:=by
 rcases jd V with rfl|⟨A,z,rfl⟩
 ·simp
 ·simp at hv;subst hv
  exact ue h (nd _)
theorem get_some {V:List ak} {k:Nat} (h:k < V.length):∃ v,V[k]?=some v:=⟨V[k],List.getElem?_eq_getElem h⟩
theorem pQ:∀ (f:Nat) (P A B R:List ak),A.length+B.length<=f->0 < A.length->0 < B.length->eQ A->eQ B->
  ∃ C,dr f P.length (P.length+A.length) (P.length+A.length+B.length) (P++(A++(B++R)))=P++(C++R)/\eQ C/\Same (A++B) C
 |0,P,A,B,R,hf,ha,hb,_,_=>by omega
 |f+1,P,A,B,R,hf,ha,hb,sA,sB=>by
  obtain ⟨a,hea⟩:∃ a,a=P.length:=⟨_,rfl⟩
  obtain ⟨m,hem⟩:∃ m,m=P.length+A.length:=⟨_,rfl⟩
  obtain ⟨b,heb⟩:∃ b,b=P.length+A.length+B.length:=⟨_,rfl⟩
  rw [<-hea,show a+A.length=m by omega,show m+B.length=b by omega]
  unfold dr
  split
  ·
   rename_i h1
   obtain ⟨x,rfl⟩:∃ x,A=[x]:=by
    match A,ha,(by omega:A.length=1) with
    |[x],_,_=>exact ⟨x,rfl⟩
   have hl1:[x].length=1:=rfl
   obtain ⟨q1,q2,q3,q4⟩:=jT (fun h=>dn (P++([x]++(B++R))) h a) (b - m) m b (Nat.le_refl _) (by omega)
   generalize fy (fun h=>dn (P++([x]++(B++R))) h a) m b=i at q1 q2 q3 q4
   obtain ⟨B1,B2,rfl,hB1⟩:=mK B (i - m) (by omega)
   rw [List.length_append] at heb
   have gx:(P++([x]++(B1++B2++R)))[a]?=some x:=by rw [lK (k:=0) (by omega)];rfl
   have gB:∀ k,k < B1.length+B2.length->(P++([x]++(B1++B2++R)))[m+k]?=(B1++B2)[k]?:=fun k hk=>by
    rw [lK (k:=k+1) (by omega),List.cons_append,List.getElem?_cons_succ,List.nil_append,List.getElem?_append_left (by simp;omega)]
   obtain ⟨s1,s2,s3⟩:=gm.1 sB
   have w1:∀ z∈B1,gl z x=true:=le_last s1 fun A0 y hy=>by
    have hpos:0 < B1.length:=by rw [hy];simp
    rcases q3 with q3|q3
    ·omega
    ·have g1:=gB (B1.length - 1) (by omega)
     rw [List.getElem?_append_left (l₁:=B1) (by omega),uf hy,show m+(B1.length - 1)=i - 1 by omega] at g1
     have q3:dn (P++([x]++(B1++B2++R))) (i - 1) a=true:=q3
     rwa [fF g1 gx] at q3
   have w2:∀ z∈B2,fG x z:=AN s2 fun y B0 hy=>by
    have hpos:0 < B2.length:=by rw [hy];simp
    rcases q4 with q4|q4
    ·omega
    ·have g1:=gB B1.length (by omega)
     have g2:B2[0]?=some y:=by rw [hy];rfl
     rw [List.getElem?_append_right (l₁:=B1) (Nat.le_refl _),Nat.sub_self,g2,show m+B1.length=i by omega] at g1
     have q4:dn (P++([x]++(B1++B2++R))) i a=false:=q4
     rw [fF g1 gx] at q4
     exact qQ.1 q4
   obtain ⟨t1,t2⟩:=Ch sB w1 w2
   refine ⟨B1++x::B2,?_,t1,t2⟩
   have h2:=wF P x B1.length B1 (B2++R) rfl
   rw [show i - 1 - a=B1.length by omega,hea,show P++([x]++(B1++B2++R))=P++x::(B1++(B2++R)) by simp,h2]
   simp
  ·split
   ·
    rename_i h0 h1
    obtain ⟨x,rfl⟩:∃ x,B=[x]:=by
     match B,hb,(by omega:B.length=1) with
     |[x],_,_=>exact ⟨x,rfl⟩
    have hl1:[x].length=1:=rfl
    obtain ⟨q1,q2,q3,q4⟩:=jT (fun h=>!dn (P++(A++([x]++R))) m h) (m - a) a m (Nat.le_refl _) (by omega)
    generalize fy (fun h=>!dn (P++(A++([x]++R))) m h) a m=i at q1 q2 q3 q4
    obtain ⟨A1,A2,rfl,hA1⟩:=mK A (i - a) (by omega)
    rw [List.length_append] at hem heb
    have gx:(P++(A1++A2++([x]++R)))[m]?=some x:=by rw [lK (k:=A1.length+A2.length) (by omega),lK (k:=0) (by simp)];rfl
    have gA:∀ k,k < A1.length+A2.length->(P++(A1++A2++([x]++R)))[a+k]?=(A1++A2)[k]?:=fun k hk=>by
     rw [lK (k:=k) (by omega),List.getElem?_append_left (by simp;omega)]
    obtain ⟨s1,s2,s3⟩:=gm.1 sA
    have w1:∀ z∈A1,fG z x:=yU s1 fun A0 y hy=>by
     have hpos:0 < A1.length:=by rw [hy];simp
     rcases q3 with q3|q3
     ·omega
     ·have g1:=gA (A1.length - 1) (by omega)
      rw [List.getElem?_append_left (l₁:=A1) (by omega),uf hy,show a+(A1.length - 1)=i - 1 by omega] at g1
      have q3:(!dn (P++(A1++A2++([x]++R))) m (i - 1))=true:=q3
      rw [fF gx g1,Bool.not_eq_true'] at q3
      exact qQ.1 q3
    have w2:∀ z∈A2,gl x z=true:=AM s2 fun y B0 hy=>by
     have hpos:0 < A2.length:=by rw [hy];simp
     rcases q4 with q4|q4
     ·omega
     ·have g1:=gA A1.length (by omega)
      have g2:A2[0]?=some y:=by rw [hy];rfl
      rw [List.getElem?_append_right (l₁:=A1) (Nat.le_refl _),Nat.sub_self,g2,show a+A1.length=i by omega] at g1
      have q4:(!dn (P++(A1++A2++([x]++R))) m i)=false:=q4
      rw [fF gx g1,Bool.not_eq_false'] at q4
      exact q4
    obtain ⟨t1,t2⟩:=yQ sA w1 w2
    refine ⟨A1++x::A2,?_,t1,t2⟩
    have h2:=wH P x R A2.length A1 A2 rfl
    rw [show (P++A1++A2).length=m by simp;omega] at h2
    rw [show m - i=A2.length by omega,show P++(A1++A2++([x]++R))=P++A1++A2++x::R by simp,h2]
    simp
   ·
    rename_i h0 h1
    obtain ⟨mid,hmid⟩:∃ mid,mid=(a+b) / 2:=⟨_,rfl⟩
    have hs:∃ s,eb (P++(A++(B++R))) a m b=s/\a<=s/\s<=m/\s<=mid/\mid+m - s<=b/\
      (s=m\/s=mid\/dn (P++(A++(B++R))) (mid+m - 1 - s) s=true)/\(s=a\/mid+m - s=b\/dn (P++(A++(B++R))) (mid+m - s) (s - 1)=false):=by
     refine ⟨_,rfl,?_⟩
     unfold eb
     rw [<-hmid]
     split
     ·obtain ⟨q1,q2,q3,q4⟩:=jT (fun c=>!dn (P++(A++(B++R))) (mid+m - 1 - c) c) (mid - (mid+m - b)) (mid+m - b) mid (Nat.le_refl _) (by omega)
      generalize fy (fun c=>!dn (P++(A++(B++R))) (mid+m - 1 - c) c) (mid+m - b) mid=s at q1 q2 q3 q4
      refine ⟨by omega,by omega,by omega,by omega,?_,?_⟩
      ·rcases q4 with q4|q4
       ·exact .inr (.inl q4)
       ·right;right;simpa using q4
      ·rcases q3 with q3|q3
       ·right;left;omega
       ·by_cases hs0:s=a
        ·exact .inl hs0
        ·right;right
         have q3:(!dn (P++(A++(B++R))) (mid+m - 1 - (s - 1)) (s - 1))=true:=q3
         rw [show mid+m - 1 - (s - 1)=mid+m - s by omega] at q3;simpa using q3
     ·obtain ⟨q1,q2,q3,q4⟩:=jT (fun c=>!dn (P++(A++(B++R))) (mid+m - 1 - c) c) (m - a) a m (Nat.le_refl _) (by omega)
      generalize fy (fun c=>!dn (P++(A++(B++R))) (mid+m - 1 - c) c) a m=s at q1 q2 q3 q4
      refine ⟨by omega,by omega,by omega,by omega,?_,?_⟩
      ·rcases q4 with q4|q4
       ·exact .inl q4
       ·right;right;simpa using q4
      ·rcases q3 with q3|q3
       ·exact .inl q3
       ·by_cases hs0:s=a
        ·exact .inl hs0
        ·right;right
         have q3:(!dn (P++(A++(B++R))) (mid+m - 1 - (s - 1)) (s - 1))=true:=q3
         rw [show mid+m - 1 - (s - 1)=mid+m - s by omega] at q3;simpa using q3
    obtain ⟨s,hs0,hs1,hs2,hs3,hs4,hs5,hs6⟩:=hs
    dsimp only
    rw [hs0,<-hmid]
    obtain ⟨A1,U,rfl,hA1⟩:=mK A (s - a) (by omega)
    rw [List.length_append] at hem heb ha hf
    obtain ⟨V,B2,rfl,hV⟩:=mK B (mid+m - s - m) (by omega)
    rw [List.length_append] at heb hb hf
    have gA:∀ k,k < A1.length+U.length->(P++(A1++U++(V++B2++R)))[a+k]?=(A1++U)[k]?:=fun k hk=>by
     rw [lK (k:=k) (by omega),List.getElem?_append_left (by simp;omega)]
    have gB:∀ k,k < V.length+B2.length->(P++(A1++U++(V++B2++R)))[m+k]?=(V++B2)[k]?:=fun k hk=>by
     rw [lK (k:=A1.length+U.length+k) (by omega),lK (k:=k) (by simp),List.getElem?_append_left (by simp;omega)]
    obtain ⟨a1,a2,a3⟩:=gm.1 sA
    obtain ⟨b1,b2,b3⟩:=gm.1 sB
    have w1:∀ x∈U,∀ y∈V,gl y x=true:=by
     intro x hx y hy
     have hU:0 < U.length:=List.length_pos_of_mem hx
     have hVp:0 < V.length:=List.length_pos_of_mem hy
     rcases hs5 with h5|h5|h5
     ·omega
     ·omega
     ·obtain ⟨v,hv⟩:=get_some (V:=V) (k:=V.length - 1) (by omega)
      obtain ⟨u,hu⟩:=get_some (V:=U) (k:=0) hU
      have g1:=gB (V.length - 1) (by omega)
      rw [List.getElem?_append_left (l₁:=V) (by omega),hv,show m+(V.length - 1)=mid+m - 1 - s by omega] at g1
      have g2:=gA A1.length (by omega)
      rw [List.getElem?_append_right (l₁:=A1) (Nat.le_refl _),Nat.sub_self,hu,show a+A1.length=s by omega] at g2
      rw [fF g1 g2] at h5
      exact uF (yT (uI b1 hv y hy) h5) (tc a2 hu x hx)
    have w2:∀ x∈A1,∀ y∈B2,fG x y:=by
     intro x hx y hy
     have hAp:0 < A1.length:=List.length_pos_of_mem hx
     have hBp:0 < B2.length:=List.length_pos_of_mem hy
     rcases hs6 with h6|h6|h6
     ·omega
     ·omega
     ·obtain ⟨v,hv⟩:=get_some (V:=A1) (k:=A1.length - 1) (by omega)
      obtain ⟨u,hu⟩:=get_some (V:=B2) (k:=0) hBp
      have g1:=gB V.length (by omega)
      rw [List.getElem?_append_right (l₁:=V) (Nat.le_refl _),Nat.sub_self,hu,show m+V.length=mid+m - s by omega] at g1
      have g2:=gA (A1.length - 1) (by omega)
      rw [List.getElem?_append_left (l₁:=A1) (by omega),hv,show a+(A1.length - 1)=s - 1 by omega] at g2
      rw [fF g1 g2] at h6
      exact ki (uI a1 hv x hx) (ki (qQ.1 h6) (tc b2 hu y hy))
    have hr:eO s m (mid+m - s) (P++(A1++U++(V++B2++R)))=P++(A1++(V++(U++(B2++R)))):=by
     unfold eO
     have e0:P++(A1++U++(V++B2++R))=P++A1++(U++(V++(B2++R))):=by simp
     split
     ·have:=rK (U.length+V.length) (P++A1) U V (B2++R) m (Nat.le_refl _) (by omega) (by omega) (by simp;omega)
      rw [show m - s=U.length by omega,show mid+m - s - m=V.length by omega,e0,this];simp
     ·rcases (by omega:U.length=0\/V.length=0) with hz|hz
      ·obtain rfl:=List.eq_nil_of_length_eq_zero hz;simp
      ·obtain rfl:=List.eq_nil_of_length_eq_zero hz;simp
    rw [hr]
    have hL:∃ C1,(if a < s/\s < mid then dr f a s mid (P++(A1++(V++(U++(B2++R))))) else P++(A1++(V++(U++(B2++R)))))=P++(C1++(U++(B2++R)))/\eQ C1/\Same (A1++V) C1:=by
     split
     ·obtain ⟨C1,c1,c2,c3⟩:=pQ f P A1 V (U++(B2++R)) (by omega) (by omega) (by omega) a1 b1
      rw [<-hea,show a+A1.length=s by omega,show s+V.length=mid by omega] at c1
      exact ⟨C1,c1,c2,c3⟩
     ·rcases (by omega:A1.length=0\/V.length=0) with hz|hz
      ·obtain rfl:=List.eq_nil_of_length_eq_zero hz;exact ⟨V,by simp,b1,Same.refl _⟩
      ·obtain rfl:=List.eq_nil_of_length_eq_zero hz;exact ⟨A1,by simp,a1,by rw [List.append_nil];exact Same.refl _⟩
    obtain ⟨C1,c1,c2,c3⟩:=hL
    rw [c1]
    have hc1:C1.length=A1.length+V.length:=by rw [<-c3.len,List.length_append]
    have hR:∃ C2,(if mid < mid+m - s/\mid+m - s < b then dr f mid (mid+m - s) b (P++(C1++(U++(B2++R)))) else P++(C1++(U++(B2++R))))=P++(C1++(C2++R))/\eQ C2/\Same (U++B2) C2:=by
     split
     ·obtain ⟨C2,d1,d2,d3⟩:=pQ f (P++C1) U B2 R (by omega) (by omega) (by omega) a2 b2
      rw [List.length_append,show P.length+C1.length=mid by omega,show mid+U.length=mid+m - s by omega,show mid+m - s+B2.length=b by omega] at d1
      exact ⟨C2,by simpa using d1,d2,d3⟩
     ·rcases (by omega:U.length=0\/B2.length=0) with hz|hz
      ·obtain rfl:=List.eq_nil_of_length_eq_zero hz;exact ⟨B2,by simp,b2,Same.refl _⟩
      ·obtain rfl:=List.eq_nil_of_length_eq_zero hz;exact ⟨U,by simp,a2,by rw [List.append_nil];exact Same.refl _⟩
    obtain ⟨C2,d1,d2,d3⟩:=hR
    refine ⟨C1++C2,by rw [d1];simp,gm.2 ⟨c2,d2,?_⟩,?_⟩
    ·intro x hx y hy
     rcases List.mem_append.1 (c3.mem.2 hx) with hx|hx
     ·rcases List.mem_append.1 (d3.mem.2 hy) with hy|hy
      ·exact a3 x hx y hy
      ·exact w2 x hx y hy
     ·rcases List.mem_append.1 (d3.mem.2 hy) with hy|hy
      ·exact kj (w1 y hy x hx)
      ·exact b3 x hx y hy
    ·have e1:Same (A1++U++(V++B2)) (A1++(V++(U++B2))):=by
      have:=(Same.refl A1).app ((Same.comm w1).app (Same.refl B2))
      simpa using this
     have e2:=c3.app d3
     rw [List.append_assoc] at e2
     exact e1.trans e2
theorem yq {f:Nat} {d:List ak} {a m b:Nat} (h1:a < m) (h2:m < b) (h3:b<=d.length) (hf:b - a<=f) (sA:eQ ((d.drop a).take (m - a))) (sB:eQ ((d.drop m).take (b - m))):Part d (dr f a m b d) a b:=by
 have e1:=parts (d:=d) (a:=a) (b:=b) (by omega) h3
 have e2:(d.drop a).take (b - a)=(d.drop a).take (m - a)++(d.drop m).take (b - m):=by
  rw [show b - a=(m - a)+(b - m) by omega,List.take_add,List.drop_drop,show a+(m - a)=m by omega]
 have l1:(d.take a).length=a:=by rw [List.length_take];omega
 have l2:((d.drop a).take (m - a)).length=m - a:=by rw [List.length_take,List.length_drop];omega
 have l3:((d.drop m).take (b - m)).length=b - m:=by rw [List.length_take,List.length_drop];omega
 obtain ⟨C,c1,c2,c3⟩:=pQ f (d.take a) ((d.drop a).take (m - a)) ((d.drop m).take (b - m)) (d.drop b) (by omega) (by omega) (by omega) sA sB
 rw [l1,l2,l3,show a+(m - a)=m by omega,show m+(b - m)=b by omega] at c1
 rw [<-e2] at c3
 rw [e2] at e1
 have e3:d.take a++((d.drop a).take (m - a)++((d.drop m).take (b - m)++d.drop b))=d:=by rw [<-List.append_assoc,<-List.append_assoc,List.append_assoc (d.take a)];exact e1.symm
 rw [e3] at c1
 have:=Part.of (P:=d.take a) (X:=(d.drop a).take (b - a)) (C:=C) (R:=d.drop b) (a:=a) (b:=b) l1 (by rw [List.length_take,List.length_drop];omega) c2 c3
 rwa [e2,<-e1,List.append_assoc,<-c1] at this
theorem rq {p:Nat->Bool} {i j h R:Nat} (hb:fy p i j=R) (hij:i < j) (hh:h=(i+j) / 2) (hp:p h=true):fy p (h+1) j=R:=by
 subst hh;rw [<-hb,BQ hij hp]
theorem rr {p:Nat->Bool} {i j h R:Nat} (hb:fy p i j=R) (hij:i < j) (hh:h=(i+j) / 2) (hp:p h=false):fy p i h=R:=by
 subst hh;rw [<-hb,BR hij hp]
theorem dO {f a m b mid s e:Nat} {d d1 d2 d3:List ak} (h0:¬m - a=1) (h1:¬b - m=1) (hm:mid=(a+b) / 2) (hs:eb d a m b=s) (he:mid+m - s=e) (hd1:eO s m e d=d1)
  (hd2:(if a < s/\s < mid then dr f a s mid d1 else d1)=d2) (hd3:(if mid < e/\e < b then dr f mid e b d2 else d2)=d3):dr (f+1) a m b d=d3:=by
 subst hm he hd1 hd2 hd3 hs
 rw [dr.eq_2,if_neg h0,if_neg h1]
def kx:List ak->ak->List ak
 |[],r=>[r]
 |x::l,r=>if gl r x=true then r::x::l else x::kx l r
def gi (l:List ak):List ak:=l.foldl kx []
theorem uL {r z:ak}:∀ {l:List ak},z∈kx l r↔z=r\/z∈l
 |[]=>by simp [kx]
 |x::l=>by
  unfold kx
  split
  ·simp
  ·rw [List.mem_cons,uL,List.mem_cons]
   constructor
   ·rintro (h|h|h)
    ·exact .inr (.inl h)
    ·exact .inl h
    ·exact .inr (.inr h)
   ·rintro (h|h|h)
    ·exact .inr (.inl h)
    ·exact .inl h
    ·exact .inr (.inr h)
theorem uK {r:ak}:∀ {l:List ak},eQ l->eQ (kx l r)
 |[],_=>List.pairwise_singleton _ _
 |x::l,h=>by
  obtain ⟨h1,h2⟩:=List.pairwise_cons.1 h
  unfold kx
  split
  ·rename_i hc
   exact List.pairwise_cons.2 ⟨fun z hz=>by
    rcases List.mem_cons.1 hz with rfl|hz
    ·exact kj hc
    ·exact ki (kj hc) (h1 z hz),h⟩
  ·rename_i hc
   have hc:fG x r:=qQ.1 (by simpa using hc)
   exact List.pairwise_cons.2 ⟨fun z hz=>by
    rcases uL.1 hz with rfl|hz
    ·exact hc
    ·exact h1 z hz,uK h2⟩
theorem sY {r:ak}:∀ {l:List ak},eQ l->Same (l++[r]) (kx l r)
 |[],_=>Same.refl _
 |x::l,h=>by
  obtain ⟨h1,h2⟩:=List.pairwise_cons.1 h
  unfold kx
  split
  ·rename_i hc
   exact (Same.comm (u:=x::l) (v:=[r]) fun y hy z hz=>by
    rw [List.mem_singleton.1 hz]
    rcases List.mem_cons.1 hy with rfl|hy
    ·exact hc
    ·exact uF hc (h1 y hy))
  ·exact (Same.refl [x]).app (sY h2)
theorem qe:∀ (l acc:List ak),eQ acc->eQ (l.foldl kx acc)/\Same (acc++l) (l.foldl kx acc)
 |[],acc,h=>⟨h,by rw [List.append_nil];exact Same.refl _⟩
 |x::l,acc,h=>by
  obtain ⟨h1,h2⟩:=qe l (kx acc x) (uK h)
  refine ⟨h1,?_⟩
  have h3:=((sY (r:=x) h).app (Same.refl l)).trans h2
  simpa using h3
theorem yy (l:List ak):eQ (gi l):=(qe l [] List.Pairwise.nil).1
theorem mL (l:List ak):Same l (gi l):=(qe l [] List.Pairwise.nil).2
theorem xf {l d:List ak} (h:eQ d) (h':Same l d):gi l=d:=eQ.uniq (yy l) h ((mL l).symm.trans h')
theorem sC (l:List ak):(gi l).length=l.length:=(mL l).len.symm
theorem yz {l:List ak} (h:l.length=0):gi l=l:=by obtain rfl:=List.eq_nil_of_length_eq_zero h;rfl
def jg (d:List ak) (a s:Nat):List ak:=(d.drop a).take s
def si (s a:Nat) (d:List ak):Prop:=(∃ q,a=q * s)/\∀ k,(k+1) * s<=a->eQ (jg d (k * s) s)
def sg (s:Nat) (d:List ak):Prop:=∀ k,eQ (jg d (k * s) s)
def mh (s a:Nat) (d:List ak):Prop:=si (2 * s) a d/\∀ k,a<=k * s->eQ (jg d (k * s) s)
theorem Part.CQ {d y:List ak} {a b:Nat} (h:Part d y a b) {c s:Nat} (hc:c+s<=a):jg y c s=jg d c s:=by
 have e:∀ z:List ak,jg z c s=((z.take a).drop c).take s:=fun z=>by
  unfold jg;rw [List.drop_take,List.take_take,Nat.min_eq_left (by omega)]
 rw [e y,e d,h.l]
theorem Part.Fv {d y:List ak} {a b:Nat} (h:Part d y a b) {c s:Nat} (hc:b<=c):jg y c s=jg d c s:=by
 have e:∀ z:List ak,jg z c s=((z.drop b).drop (c - b)).take s:=fun z=>by
  unfold jg;rw [List.drop_drop,show b+(c - b)=c by omega]
 rw [e y,e d,h.r]
theorem we {d:List ak} {a s:Nat} (h:d.length<=a):jg d a s=[]:=by unfold jg;rw [List.drop_of_length_le h];simp
theorem rH {d:List ak} {a s t:Nat} (hs:d.length<=a+s) (ht:d.length<=a+t):jg d a s=jg d a t:=by
 unfold jg;rw [List.take_of_length_le (by rw [List.length_drop];omega),List.take_of_length_le (by rw [List.length_drop];omega)]
theorem wb:eQ []:=List.Pairwise.nil
theorem Cg {k q s:Nat} (h:(k+1) * s<=q * s+s) (hs:0 < s):k<=q:=by
 rw [<-Nat.succ_mul] at h
 have:=Nat.le_of_mul_le_mul_right h hs
 omega
theorem rh {s:Nat} (hs:0 < s) {d:List ak}:si s 0 d:=⟨⟨0,by simp⟩,fun k h=>by rw [Nat.succ_mul] at h;omega⟩
theorem tg {s a:Nat} {d y:List ak} (hs:0 < s) (h:si s a d) (p:Part d y a (a+s)):si s (a+s) y:=by
 obtain ⟨⟨q,hq⟩,h2⟩:=h
 refine ⟨⟨q+1,by rw [Nat.succ_mul,hq]⟩,fun k hk=>?_⟩
 subst hq
 have hkq:=Cg hk hs
 by_cases e:k=q
 ·subst e
  have:=p.s
  rw [Nat.add_sub_cancel_left] at this
  exact this
 ·have h3:(k+1) * s<=q * s:=Nat.mul_le_mul_right s (by omega)
  rw [p.CQ (by rw [Nat.succ_mul] at h3;exact h3)]
  exact h2 k h3
theorem vf {s a:Nat} {d y:List ak} (hs:0 < s) (h:si s a d) (ha:a<=y.length) (p:Part d y a y.length) (hn:y.length<=a+s):sg s y:=by
 obtain ⟨⟨q,rfl⟩,h2⟩:=h
 intro k
 rcases Nat.lt_trichotomy k q with e|e|e
 ·have h3:(k+1) * s<=q * s:=Nat.mul_le_mul_right s (by omega)
  rw [p.CQ (by rw [Nat.succ_mul] at h3;exact h3)]
  exact h2 k h3
 ·subst e
  have h3:=p.s
  rw [rH (t:=y.length - k * s) hn (by omega)]
  exact h3
 ·have h3:(q+1) * s<=k * s:=Nat.mul_le_mul_right s (by omega)
  rw [Nat.succ_mul] at h3
  rw [we (by omega)];exact wb
theorem Ab {s:Nat} {d:List ak} (h:sg s d) (hs:d.length<=s):eQ d:=by
 have:=h 0
 unfold jg at this
 rw [Nat.zero_mul,List.drop_zero,List.take_of_length_le hs] at this
 exact this
theorem xC {s:Nat} (hs:0 < s) {d:List ak} (h:sg s d):mh s 0 d:=⟨rh (by omega),fun k _=>h k⟩
theorem mh.mul {s a:Nat} {d:List ak} (h:mh s a d):∃ k,a=k * s:=by
 obtain ⟨q,hq⟩:=h.1.1
 exact ⟨q * 2,by rw [hq,Nat.mul_assoc]⟩
theorem Av {s a:Nat} {d:List ak} (h:mh s a d):eQ (jg d a s)/\eQ (jg d (a+s) s):=by
 obtain ⟨k,hk⟩:=h.mul
 refine ⟨?_,?_⟩
 ·have:=h.2 k (by omega);rwa [<-hk] at this
 ·have:=h.2 (k+1) (by rw [Nat.succ_mul];omega);rwa [Nat.succ_mul,<-hk] at this
theorem zf {s a:Nat} {d y:List ak} (hs:0 < s) (h:mh s a d) (p:Part d y a (a+2 * s)):mh s (a+2 * s) y:=
 ⟨tg (by omega) h.1 p,fun k hk=>by rw [p.Fv hk];exact h.2 k (by omega)⟩
theorem Aw {s a:Nat} {d y:List ak} (hs:0 < s) (h:mh s a d) (ha:a<=y.length) (p:Part d y a y.length) (hn:y.length<=a+2 * s):sg (s * 2) y:=by
 rw [Nat.mul_comm];exact vf (by omega) h.1 ha p hn
theorem zg {s a:Nat} {d:List ak} (hs:0 < s) (h:mh s a d) (hn:d.length<=a+s):sg (s * 2) d:=by
 rw [Nat.mul_comm]
 obtain ⟨⟨⟨q,rfl⟩,h2⟩,h3⟩:=h
 intro k
 rcases Nat.lt_trichotomy k q with e|e|e
 ·exact h2 k (Nat.mul_le_mul_right _ (by omega))
 ·subst e
  rw [rH (t:=s) (by omega) hn]
  have:=h3 (k * 2) (by rw [Nat.mul_assoc];omega)
  rwa [Nat.mul_assoc] at this
 ·have h4:(q+1) * (2 * s)<=k * (2 * s):=Nat.mul_le_mul_right _ (by omega)
  rw [Nat.succ_mul] at h4
  rw [we (by omega)];exact wb
theorem ub {s a b:Nat} {d:List ak} (hs:0 < s) (h:mh s a d) (h1:a+s < b) (h2:b<=d.length) (h3:b=a+2 * s\/(b=d.length/\b<=a+2 * s)):Part d (dr (b - a) a (a+s) b d) a b:=by
 obtain ⟨s1,s2⟩:=Av h
 refine yq (by omega) h1 h2 (Nat.le_refl _) ?_ ?_
 ·rw [Nat.add_sub_cancel_left];exact s1
 ·rcases h3 with h3|⟨h3,h4⟩
  ·rw [show b - (a+s)=s by omega];exact s2
  ·have:=rH (d:=d) (a:=a+s) (s:=s) (t:=b - (a+s)) (by omega) (by omega)
   show eQ (jg d (a+s) (b - (a+s)))
   rw [<-this];exact s2
end Go.Proofs.Ytegepioggeggaaa.Dev
