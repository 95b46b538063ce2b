/- A part of the proof: PlSort, PlSort2, PlSort3, PlDay, PlBank, OpsB, Bank0, Pace1, Pace2, Del1, Pace3. No condition. -/
import Derived.Test.YtegepioggeggaaaD06
set_option linter.unusedVariables false
set_option linter.unusedSimpArgs false
set_option maxHeartbeats 1000000
set_option maxRecDepth 100000
namespace Go.Proofs.Ytegepioggeggaaa.Dev
open Go.RowKit
open Go.ChangeShapes Go.WideShapes Go.Deep Go.Joins
theorem jL {α:Type}:∀ l:List α,l=[]\/∃ A y,l=A++[y]
 |[]=>.inl rfl
 |x::l=>.inr (by
  rcases jL l with rfl|⟨A,y,rfl⟩
  ·exact ⟨[],x,rfl⟩
  ·exact ⟨x::A,y,rfl⟩)
def gL (a b:ar):Bool:=decide (a.aE < b.aE)||(decide (a.aE=b.aE) && decide (a.bd < b.bd))
def fZ (a b:ar):Prop:=a.aE < b.aE\/(a.aE=b.aE/\a.bd<=b.bd)
def jU (a b:ar):Bool:=decide (a.aE=b.aE) && decide (a.bd=b.bd)
def fi (l:List ar):Prop:=l.Pairwise fZ
def Same (u v:List ar):Prop:=∀ k:ar,u.filter (jU k)=v.filter (jU k)
theorem rM {a b:ar}:gL a b=true↔(a.aE < b.aE\/(a.aE=b.aE/\a.bd < b.bd)):=by unfold gL;simp
theorem rN {a b:ar}:gL a b=false↔fZ b a:=by
 unfold gL fZ
 rw [Bool.or_eq_false_iff,decide_eq_false_iff_not,Bool.and_eq_false_iff,decide_eq_false_iff_not,decide_eq_false_iff_not]
 omega
theorem kT {a b:ar} (h:gL a b=true):fZ a b:=by rw [rM] at h;unfold fZ;omega
theorem nJ (a:ar):fZ a a:=by unfold fZ;omega
theorem kS {a b c:ar} (h:fZ a b) (h':fZ b c):fZ a c:=by unfold fZ at *;omega
theorem vt {a b c:ar} (h:gL a b=true) (h':fZ b c):gL a c=true:=by rw [rM] at *;unfold fZ at *;omega
theorem Ag {a b c:ar} (h:fZ a b) (h':gL b c=true):gL a c=true:=by rw [rM] at *;unfold fZ at *;omega
theorem pE {a b:ar}:jU a b=true↔(a.aE=b.aE/\a.bd=b.bd):=by unfold jU;simp
theorem lr (a:ar):jU a a=true:=by rw [pE];exact ⟨rfl,rfl⟩
theorem Same.refl (u:List ar):Same u u:=fun _=>rfl
theorem Same.symm {u v:List ar} (h:Same u v):Same v u:=fun k=>(h k).symm
theorem Same.trans {u v z:List ar} (h:Same u v) (h':Same v z):Same u z:=fun k=>(h k).trans (h' k)
theorem Same.app {u v u' v':List ar} (h:Same u u') (h':Same v v'):Same (u++v) (u'++v'):=fun k=>by rw [List.filter_append,List.filter_append,h k,h' k]
theorem Same.mem {u v:List ar} (h:Same u v) {x:ar}:x∈u↔x∈v:=by
 have h1:∀ l:List ar,x∈l.filter (jU x)↔x∈l:=fun l=>by simp [lr]
 rw [<-h1 u,<-h1 v,h x]
theorem Same.perm {u v:List ar} (h:Same u v):u.Perm v:=by
 rw [List.perm_iff_count]
 intro x
 rw [<-List.count_filter (p:=jU x) (l:=u) (lr x),<-List.count_filter (p:=jU x) (l:=v) (lr x),h x]
theorem Same.len {u v:List ar} (h:Same u v):u.length=v.length:=h.perm.length_eq
theorem Same.comm {u v:List ar} (h:∀ x∈u,∀ y∈v,gL y x=true):Same (u++v) (v++u):=fun k=>by
 rw [List.filter_append,List.filter_append]
 by_cases hu:u.filter (jU k)=[]
 ·rw [hu];simp
 ·by_cases hv:v.filter (jU k)=[]
  ·rw [hv];simp
  ·exfalso
   obtain ⟨x,hx⟩:=List.exists_mem_of_ne_nil _ hu
   obtain ⟨y,hy⟩:=List.exists_mem_of_ne_nil _ hv
   rw [List.mem_filter] at hx hy
   have h1:=h x hx.1 y hy.1
   have h2:=pE.1 hx.2
   have h3:=pE.1 hy.2
   rw [rM] at h1
   omega
theorem fi.uniq:∀ {u v:List ar},fi u->fi v->Same u v->u=v
 |[],v,_,_,h=>by have:=h.len;exact (List.eq_nil_of_length_eq_zero this.symm).symm
 |x::u,[],_,_,h=>by have:=h.len;cases this
 |x::u,y::v,hu,hv,h=>by
  obtain ⟨hu1,hu2⟩:=List.pairwise_cons.1 hu
  obtain ⟨hv1,hv2⟩:=List.pairwise_cons.1 hv
  have h1:fZ x y:=by
   rcases List.mem_cons.1 (h.mem.2 (List.mem_cons_self (a:=y) (l:=v))) with rfl|hm
   ·exact nJ _
   ·exact hu1 y hm
  have h2:fZ y x:=by
   rcases List.mem_cons.1 (h.mem.1 (List.mem_cons_self (a:=x) (l:=u))) with rfl|hm
   ·exact nJ _
   ·exact hv1 x hm
  have h3:jU x y=true:=by rw [pE];unfold fZ at h1 h2;omega
  have h4:=h x
  rw [List.filter_cons,List.filter_cons,if_pos (lr x),if_pos h3] at h4
  obtain ⟨rfl,_⟩:=List.cons.inj h4
  have h5:Same u v:=fun k=>by
   have:=h k
   rw [List.filter_cons,List.filter_cons] at this
   split at this
   ·exact (List.cons.inj this).2
   ·exact this
  rw [fi.uniq hu2 hv2 h5]

def hO (d:List ar) (i j:Nat):List ar:=
 match d[i]?,d[j]? with
 |some x,some y=>(d.set i y).set j x
 |_,_=>d
theorem lJ {d:List ar} {i j:Nat} {x y:ar} (hx:d[i]?=some x) (hy:d[j]?=some y):hO d i j=(d.set i y).set j x:=by unfold hO;rw [hx,hy]
theorem mb (d:List ar) (i j:Nat):(hO d i j).length=d.length:=by
 unfold hO;split<;>simp
theorem oF (s t u:List ar) (x y:ar) {i j:Nat} (hi:i=s.length) (hj:j=s.length+1+t.length):hO (s++x::(t++y::u)) i j=s++y::(t++x::u):=by
 subst hi hj
 have h1:(s++x::(t++y::u))[s.length]?=some x:=by simp
 have h2:(s++x::(t++y::u))[s.length+1+t.length]?=some y:=by
  rw [List.getElem?_append_right (by omega),show s.length+1+t.length - s.length=t.length+1 by omega,List.getElem?_cons_succ];simp
 rw [lJ h1 h2,List.set_append_right _ _ (Nat.le_refl _),Nat.sub_self,List.set_cons_zero,List.set_append_right _ _ (by omega),show s.length+1+t.length - s.length=t.length+1 by omega,
  List.set_cons_succ,List.set_append_right _ _ (Nat.le_refl _),Nat.sub_self,List.set_cons_zero]
theorem yf (d:List ar) (i j:Nat):hO d i j=hO d j i:=by
 by_cases hij:i=j
 ·subst hij;rfl
 ·unfold hO
  cases hx:d[i]? with
  |none=>cases hy:d[j]?<;>rfl
  |some x=>
   cases hy:d[j]? with
   |none=>rfl
   |some y=>exact List.set_comm _ _ hij
theorem ry (s t u:List ar) (x y:ar) {i j:Nat} (hi:i=s.length) (hj:j=s.length+1+t.length):hO (s++x::(t++y::u)) j i=s++y::(t++x::u):=by rw [yf];exact oF s t u x y hi hj

structure Part (d y:List ar) (a b:Nat):Prop where
 len:y.length=d.length
 l:y.take a=d.take a
 r:y.drop b=d.drop b
 s:fi ((y.drop a).take (b - a))
 m:Same d y
theorem Part.of {P X C R:List ar} {a b:Nat} (ha:P.length=a) (hb:b=a+X.length) (hs:fi C) (hm:Same X C):Part (P++X++R) (P++C++R) a b:=by
 subst ha hb
 have hl:=hm.len
 refine ⟨by simp [hl],by simp,?_,?_,((Same.refl P).app hm).app (Same.refl R)⟩
 ·have h1:∀ Z:List ar,Z.length=X.length->(P++Z++R).drop (P.length+X.length)=R:=fun Z hz=>by
   rw [<-hz,<-List.length_append,List.drop_left]
  rw [h1 C hl.symm,h1 X rfl]
 ·rw [List.append_assoc,List.drop_left,show P.length+X.length - P.length=C.length by omega,List.take_left];exact hs
theorem parts {d:List ar} {a b:Nat} (h:a<=b) (hb:b<=d.length):d=d.take a++(d.drop a).take (b - a)++d.drop b:=by
 have h1:d.drop b=(d.drop a).drop (b - a):=by rw [List.drop_drop];congr 1;omega
 rw [h1,List.append_assoc,List.take_append_drop,List.take_append_drop]

def jG (a:Nat):Nat->List ar->List ar
 |0,d=>d
 |j+1,d=>
  if a < j+1 then
   match d[j+1]?,d[j]? with
   |some x,some y=>if gL x y=true then jG a j (hO d (j+1) j) else d
   |_,_=>d
  else d
theorem qR {a j:Nat} {d:List ar} (h:¬a < j):jG a j d=d:=by
 cases j with
 |zero=>rfl
 |succ j=>unfold jG;rw [if_neg h]
theorem oX {a j:Nat} {d:List ar} {x y:ar} (hx:d[j]?=some x) (hy:d[j - 1]?=some y) (h:gL x y=false):jG a j d=d:=by
 cases j with
 |zero=>rfl
 |succ j=>
  unfold jG
  split
  ·rw [hx,show d[j]?=some y from hy];simp [h]
  ·rfl
theorem xJ {a j:Nat} {d:List ar} {x y:ar} (ha:a < j) (hx:d[j]?=some x) (hy:d[j - 1]?=some y) (h:gL x y=true):jG a j d=jG a (j - 1) (hO d j (j - 1)):=by
 cases j with
 |zero=>omega
 |succ j=>
  conv=>lhs;unfold jG
  rw [if_pos ha,hx,show d[j]?=some y from hy]
  simp only [h,if_true]
  rfl
theorem vA (a:Nat):∀ (j:Nat) (d:List ar),(jG a j d).length=d.length
 |0,d=>rfl
 |j+1,d=>by
  unfold jG
  split
  ·split
   ·split
    ·rw [vA a j,mb]
    ·rfl
   ·rfl
  ·rfl
theorem vB (P:List ar) (x:ar):∀ (n:Nat) (A R:List ar),A.length=n->∃ A1 A2,A=A1++A2/\jG P.length (P.length+n) (P++A++x::R)=P++(A1++x::A2)++R/\(∀ y∈A2,gL x y=true)/\(∀ A0 y,A1=A0++[y]->fZ y x)
 |0,A,R,hA=>by
  obtain rfl:=List.eq_nil_of_length_eq_zero hA
  refine ⟨[],[],rfl,?_,by simp,by simp⟩
  rw [qR (by omega)];simp
 |n+1,A,R,hA=>by
  obtain ⟨A',y,rfl⟩:∃ A' y,A=A'++[y]:=by
   rcases jL A with rfl|h
   ·cases hA
   ·exact h
  have hn:A'.length=n:=by simpa using hA
  have e1:P++(A'++[y])++x::R=(P++A')++y::([]++x::R):=by simp
  have h1:(P++(A'++[y])++x::R)[P.length+(n+1)]?=some x:=by
   rw [List.getElem?_append_right (by simp;omega),show P.length+(n+1) - (P++(A'++[y])).length=0 by simp;omega];rfl
  have h2:(P++(A'++[y])++x::R)[P.length+(n+1) - 1]?=some y:=by
   rw [e1,List.getElem?_append_right (by simp;omega),show P.length+(n+1) - 1 - (P++A').length=0 by simp;omega];rfl
  cases hc:gL x y with
  |true=>
   rw [xJ (by omega) h1 h2 hc,show P.length+(n+1) - 1=P.length+n by omega,e1,ry (P++A') [] R y x (by simp;omega) (by simp;omega)]
   obtain ⟨A1,A2,rfl,h3,h4,h5⟩:=vB P x n A' (y::R) hn
   refine ⟨A1,A2++[y],by simp,?_,?_,h5⟩
   ·rw [List.nil_append,h3];simp
   ·intro z hz
    rcases List.mem_append.1 hz with hz|hz
    ·exact h4 z hz
    ·rw [List.mem_singleton.1 hz];exact hc
  |false=>
   rw [oX h1 h2 hc]
   refine ⟨A'++[y],[],by simp,by simp,by simp,fun A0 z hz=>?_⟩
   obtain ⟨_,h⟩:=List.append_inj' hz rfl
   rw [<-List.cons.inj h|>.1]
   exact rN.1 hc
theorem gP {u v:List ar}:fi (u++v)↔fi u/\fi v/\∀ x∈u,∀ y∈v,fZ x y:=List.pairwise_append
theorem uV {u:List ar} {y x:ar} (h:fi (u++[y])) (hx:fZ y x):∀ z∈u++[y],fZ z x:=fun z hz=>by
 rcases List.mem_append.1 hz with hz|hz
 ·exact kS ((gP.1 h).2.2 z hz y (List.mem_singleton.2 rfl)) hx
 ·rw [List.mem_singleton.1 hz];exact hx
theorem Ah {u:List ar} {x:ar} (h:fi u) (hl:∀ A0 y,u=A0++[y]->fZ y x):∀ z∈u,fZ z x:=by
 rcases jL u with rfl|⟨A',y,h'⟩
 ·simp
 ·rw [h'] at h ⊢;exact uV h (hl A' y h')
theorem Ac {A1 A2:List ar} {x:ar} (h:fi (A1++A2)) (h1:∀ z∈A1,fZ z x) (h2:∀ z∈A2,gL x z=true):fi (A1++x::A2)/\Same (A1++A2++[x]) (A1++x::A2):=by
 obtain ⟨s1,s2,s3⟩:=gP.1 h
 refine ⟨gP.2 ⟨s1,List.pairwise_cons.2 ⟨fun y hy=>kT (h2 y hy),s2⟩,fun z hz y hy=>?_⟩,?_⟩
 ·rcases List.mem_cons.1 hy with rfl|hy
  ·exact h1 z hz
  ·exact s3 z hz y hy
 ·have:=(Same.refl A1).app (Same.comm (u:=A2) (v:=[x]) fun y hy z hz=>by rw [List.mem_singleton.1 hz];exact h2 y hy)
  simpa using this
theorem Dm {B1 B2:List ar} {x:ar} (h:fi (B1++B2)) (h1:∀ z∈B1,gL z x=true) (h2:∀ z∈B2,fZ x z):fi (B1++x::B2)/\Same (x::(B1++B2)) (B1++x::B2):=by
 obtain ⟨s1,s2,s3⟩:=gP.1 h
 refine ⟨gP.2 ⟨s1,List.pairwise_cons.2 ⟨h2,s2⟩,fun z hz y hy=>?_⟩,?_⟩
 ·rcases List.mem_cons.1 hy with rfl|hy
  ·exact kT (h1 z hz)
  ·exact s3 z hz y hy
 ·have:=(Same.comm (u:=[x]) (v:=B1) fun y hy z hz=>by rw [List.mem_singleton.1 hy];exact h1 z hz).app (Same.refl B2)
  simpa using this
def jm (a:Nat):Nat->List ar->List ar
 |0,d=>d
 |n+1,d=>jG a (a+1+n) (jm a n d)
theorem qQ (a:Nat):∀ (n:Nat) (d:List ar),(jm a n d).length=d.length
 |0,_=>rfl
 |n+1,d=>by unfold jm;rw [vA,qQ a n]
theorem vx (P X R:List ar):∀ n,n < X.length->∃ C,jm P.length n (P++X++R)=P++C++X.drop (n+1)++R/\fi C/\Same (X.take (n+1)) C
 |0,h=>by
  refine ⟨X.take 1,?_,?_,Same.refl _⟩
  ·unfold jm;rw [List.append_assoc P (X.take 1),List.take_append_drop]
  ·cases X with
   |nil=>cases h
   |cons x X=>exact List.pairwise_singleton _ _
 |n+1,h=>by
  obtain ⟨C,h1,h2,h3⟩:=vx P X R n (by omega)
  have hl:C.length=n+1:=by rw [<-h3.len,List.length_take];omega
  have e1:X.drop (n+1)=X[n+1]::X.drop (n+2):=List.drop_eq_getElem_cons h
  obtain ⟨A1,A2,rfl,h4,h5,h6⟩:=vB P X[n+1] (n+1) C (X.drop (n+2)++R) hl
  have h7:fi A1:=(gP.1 h2).1
  obtain ⟨h8,h9⟩:=Ac h2 (Ah h7 h6) h5
  refine ⟨A1++X[n+1]::A2,?_,h8,?_⟩
  ·unfold jm
   rw [h1,show P.length+1+n=P.length+(n+1) by omega,show P++(A1++A2)++X.drop (n+1)++R=P++(A1++A2)++X[n+1]::(X.drop (n+2)++R) by rw [List.append_assoc _ _ R,e1,List.cons_append],h4]
   simp
  ·rw [List.take_add_one,List.getElem?_eq_getElem h]
   exact (h3.app (Same.refl _)).trans h9
theorem tQ {d:List ar} {a b:Nat} (h:a<=b) (hb:b<=d.length):Part d (jm a (b - (a+1)) d) a b:=by
 by_cases hab:a=b
 ·subst hab
  rw [show a - (a+1)=0 by omega]
  exact ⟨rfl,rfl,rfl,by rw [Nat.sub_self];exact List.Pairwise.nil,Same.refl _⟩
 ·have e:=parts h hb
  have h1:(d.take a).length=a:=by rw [List.length_take];omega
  have h2:((d.drop a).take (b - a)).length=b - a:=by rw [List.length_take,List.length_drop];omega
  obtain ⟨C,h3,h4,h5⟩:=vx (d.take a) ((d.drop a).take (b - a)) (d.drop b) (b - (a+1)) (by omega)
  rw [h1] at h3
  rw [<-e,List.drop_of_length_le (l:=(d.drop a).take (b - a)) (by omega),List.append_nil] at h3
  rw [List.take_of_length_le (l:=(d.drop a).take (b - a)) (by omega)] at h5
  have:=Part.of (P:=d.take a) (R:=d.drop b) (a:=a) (b:=b) h1 (by omega) h4 h5
  rwa [<-e,<-h3] at this

def dA (d:List ar) (i j:Nat):Bool:=
 match d[i]?,d[j]? with
 |some x,some y=>gL x y
 |_,_=>false
theorem fY {d:List ar} {i j:Nat} {x y:ar} (hx:d[i]?=some x) (hy:d[j]?=some y):dA d i j=gL x y:=by unfold dA;rw [hx,hy]
def fR (p:Nat->Bool) (i j:Nat):Nat:=
 if _h:i < j then if p ((i+j) / 2)=true then fR p ((i+j) / 2+1) j else fR p i ((i+j) / 2) else i
termination_by j - i
theorem eR {p:Nat->Bool} {i j:Nat} (h:¬i < j):fR p i j=i:=by rw [fR,dif_neg h]
theorem CY {p:Nat->Bool} {i j:Nat} (h:i < j) (hp:p ((i+j) / 2)=true):fR p i j=fR p ((i+j) / 2+1) j:=by rw [fR,dif_pos h,if_pos hp]
theorem CZ {p:Nat->Bool} {i j:Nat} (h:i < j) (hp:p ((i+j) / 2)=false):fR p i j=fR p i ((i+j) / 2):=by rw [fR,dif_pos h,if_neg (by rw [hp];exact Bool.false_ne_true)]
theorem kE (p:Nat->Bool):∀ (n i j:Nat),j - i<=n->i<=j->i<=fR p i j/\fR p i j<=j/\(fR p i j=i\/p (fR p i j - 1)=true)/\(fR p i j=j\/p (fR p i j)=false)
 |0,i,j,hn,h=>by rw [eR (by omega)];exact ⟨Nat.le_refl _,h,.inl rfl,.inl (by omega)⟩
 |n+1,i,j,hn,h=>by
  by_cases hij:i < j
  ·cases hp:p ((i+j) / 2) with
   |true=>
    rw [CY hij hp]
    obtain ⟨h1,h2,h3,h4⟩:=kE p n ((i+j) / 2+1) j (by omega) (by omega)
    refine ⟨by omega,h2,?_,h4⟩
    rcases h3 with h3|h3
    ·right;rw [h3,Nat.add_sub_cancel];exact hp
    ·exact .inr h3
   |false=>
    rw [CZ hij hp]
    obtain ⟨h1,h2,h3,h4⟩:=kE p n i ((i+j) / 2) (by omega) (by omega)
    refine ⟨h1,by omega,h3,?_⟩
    rcases h4 with h4|h4
    ·right;rw [h4];exact hp
    ·exact .inr h4
  ·rw [eR hij];exact ⟨Nat.le_refl _,h,.inl rfl,.inl (by omega)⟩
def ov (a:Nat):Nat->List ar->List ar
 |0,d=>d
 |n+1,d=>hO (ov a n d) (a+n) (a+n+1)
def ow (m:Nat):Nat->List ar->List ar
 |0,d=>d
 |n+1,d=>hO (ow m n d) (m - n) (m - n - 1)
theorem xE (a:Nat):∀ (n:Nat) (d:List ar),(ov a n d).length=d.length
 |0,_=>rfl
 |n+1,d=>by unfold ov;rw [mb,xE a n]
theorem xG (m:Nat):∀ (n:Nat) (d:List ar),(ow m n d).length=d.length
 |0,_=>rfl
 |n+1,d=>by unfold ow;rw [mb,xG m n]
theorem xF (P:List ar) (x:ar):∀ (n:Nat) (V R:List ar),V.length=n->ov P.length n (P++x::(V++R))=P++V++x::R
 |0,V,R,h=>by obtain rfl:=List.eq_nil_of_length_eq_zero h;simp [ov]
 |n+1,V,R,h=>by
  rcases jL V with rfl|⟨V',y,rfl⟩
  ·cases h
  ·have hn:V'.length=n:=by simpa using h
   unfold ov
   rw [show P++x::(V'++[y]++R)=P++x::(V'++(y::R)) by simp,xF P x n V' (y::R) hn]
   have:=oF (P++V') [] R x y (i:=P.length+n) (j:=P.length+n+1) (by simp;omega) (by simp;omega)
   rw [List.nil_append,List.nil_append] at this
   rw [this];simp
theorem xH (P:List ar) (x:ar) (R:List ar):∀ (n:Nat) (U1 U2:List ar),U2.length=n->ow (P++U1++U2).length n (P++U1++U2++x::R)=P++U1++x::(U2++R)
 |0,U1,U2,h=>by obtain rfl:=List.eq_nil_of_length_eq_zero h;simp [ow]
 |n+1,U1,U2,h=>by
  cases U2 with
  |nil=>cases h
  |cons y U=>
   have hn:U.length=n:=by simpa using h
   unfold ow
   have e1:P++U1++y::U=P++(U1++[y])++U:=by simp
   rw [e1,xH P x R n (U1++[y]) U hn]
   have:=ry (P++U1) [] (U++R) y x (i:=(P++(U1++[y])++U).length - n - 1) (j:=(P++(U1++[y])++U).length - n) (by simp;omega) (by simp;omega)
   rw [List.nil_append,List.nil_append] at this
   rw [show P++(U1++[y])++x::(U++R)=P++U1++y::x::(U++R) by simp,this]
   simp
def gm (a b:Nat):Nat->List ar->List ar
 |0,d=>d
 |n+1,d=>hO (gm a b n d) (a+n) (b+n)
theorem iO (a b:Nat):∀ (n:Nat) (d:List ar),(gm a b n d).length=d.length
 |0,_=>rfl
 |n+1,d=>by unfold gm;rw [mb,iO a b n]
theorem ma (p:List ar):∀ (n:Nat) (x q y r:List ar) {b:Nat},x.length=n->y.length=n->b=p.length+n+q.length->gm p.length b n (p++(x++(q++(y++r))))=p++(y++(q++(x++r)))
 |0,x,q,y,r,b,hx,hy,_=>by obtain rfl:=List.eq_nil_of_length_eq_zero hx;obtain rfl:=List.eq_nil_of_length_eq_zero hy;rfl
 |n+1,x,q,y,r,b,hx,hy,hb=>by
  rcases jL x with rfl|⟨x',x1,rfl⟩
  ·cases hx
  rcases jL y with rfl|⟨y',y1,rfl⟩
  ·cases hy
  have h1:x'.length=n:=by simpa using hx
  have h2:y'.length=n:=by simpa using hy
  unfold gm
  have:=ma p n x' (x1::q) y' (y1::r) (b:=b) h1 h2 (by simp;omega)
  rw [show p++(x'++[x1]++(q++(y'++[y1]++r)))=p++(x'++(x1::q++(y'++y1::r))) by simp,this]
  have:=oF (p++y') (q++x') r x1 y1 (i:=p.length+n) (j:=b+n) (by simp;omega) (by simp;omega)
  rw [show p++(y'++(x1::q++(x'++y1::r)))=p++y'++x1::(q++x'++y1::r) by simp,this]
  simp
def jg (m:Nat) (i j:Nat) (d:List ar):List ar:=
 if _h:0 < i/\0 < j then
  if i=j then gm (m - i) m i d
  else if i > j then jg m (i - j) j (gm (m - i) m j d)
  else jg m i (j - i) (gm (m - i) (m+j - i) i d)
 else d
termination_by i+j
theorem zQ {m i:Nat} {d:List ar} (hi:0 < i):jg m i i d=gm (m - i) m i d:=by rw [jg,dif_pos ⟨hi,hi⟩,if_pos rfl]
theorem zP {m i j:Nat} {d:List ar} (hj:0 < j) (h:i > j):jg m i j d=jg m (i - j) j (gm (m - i) m j d):=by rw [jg,dif_pos ⟨by omega,hj⟩,if_neg (by omega),if_pos h]
theorem zO {m i j:Nat} {d:List ar} (hi:0 < i) (h:i < j):jg m i j d=jg m i (j - i) (gm (m - i) (m+j - i) i d):=by rw [jg,dif_pos ⟨hi,by omega⟩,if_neg (by omega),if_neg (by omega)]
theorem sE:∀ (n:Nat) (P u v R:List ar) (m:Nat),u.length+v.length<=n->0 < u.length->0 < v.length->m=P.length+u.length->jg m u.length v.length (P++(u++(v++R)))=P++(v++(u++R))
 |0,P,u,v,R,m,hn,hu,hv,hm=>by omega
 |n+1,P,u,v,R,m,hn,hu,hv,hm=>by
  rcases Nat.lt_trichotomy u.length v.length with h|h|h
  ·rw [zO hu h]
   have e:v=v.take (v.length - u.length)++v.drop (v.length - u.length):=(List.take_append_drop _ _).symm
   have l1:(v.take (v.length - u.length)).length=v.length - u.length:=by rw [List.length_take];omega
   have l2:(v.drop (v.length - u.length)).length=u.length:=by rw [List.length_drop];omega
   generalize hv1:v.take (v.length - u.length)=v1 at e l1
   generalize hv2:v.drop (v.length - u.length)=v2 at e l2
   have h1:=ma P u.length u v1 v2 R (b:=m+v.length - u.length) rfl l2 (by omega)
   rw [show m - u.length=P.length by omega,show P++(u++(v++R))=P++(u++(v1++(v2++R))) by rw [e];simp,h1,<-l1]
   have h2:=sE n P v2 v1 (u++R) m (by omega) (by omega) (by omega) (by omega)
   rw [l2] at h2
   rw [h2,e];simp
  ·rw [<-h,zQ hu,show m - u.length=P.length by omega]
   have h1:=ma P u.length u [] v R (b:=m) rfl h.symm (by simp;omega)
   simpa using h1
  ·rw [zP hv h]
   have e:u=u.take v.length++u.drop v.length:=(List.take_append_drop _ _).symm
   have l1:(u.take v.length).length=v.length:=by rw [List.length_take];omega
   have l2:(u.drop v.length).length=u.length - v.length:=by rw [List.length_drop]
   generalize hv1:u.take v.length=u1 at e l1
   generalize hv2:u.drop v.length=u2 at e l2
   have h1:=ma P v.length u1 u2 v R (b:=m) l1 rfl (by omega)
   rw [show m - u.length=P.length by omega,show P++(u++(v++R))=P++(u1++(u2++(v++R))) by rw [e];simp,h1,<-l2]
   have h2:=sE n (P++v) u2 u1 R m (by omega) (by omega) (by omega) (by simp;omega)
   rw [l1] at h2
   rw [show P++(v++(u2++(u1++R)))=P++v++(u2++(u1++R)) by simp,h2,e];simp
theorem mQ:∀ (n m i j:Nat) (d:List ar),i+j<=n->(jg m i j d).length=d.length
 |0,m,i,j,d,h=>by rw [jg,dif_neg (by omega)]
 |n+1,m,i,j,d,h=>by
  rw [jg]
  split
  ·split
   ·rw [iO]
   ·split
    ·rw [mQ n _ _ _ _ (by omega),iO]
    ·rw [mQ n _ _ _ _ (by omega),iO]
  ·rfl
def en (d:List ar) (a m b:Nat):Nat:=
 if m > (a+b) / 2 then fR (fun c=>!dA d ((a+b) / 2+m - 1 - c) c) ((a+b) / 2+m - b) ((a+b) / 2)
 else fR (fun c=>!dA d ((a+b) / 2+m - 1 - c) c) a m
def fg (s m e:Nat) (d:List ar):List ar:=if s < m/\m < e then jg m (m - s) (e - m) d else d
def dF:Nat->Nat->Nat->Nat->List ar->List ar
 |0,_,_,_,d=>d
 |f+1,a,m,b,d=>
  if m - a=1 then ov a (fR (fun h=>dA d h a) m b - 1 - a) d
  else if b - m=1 then ow m (m - fR (fun h=>!dA d m h) a m) d
  else
   (fun s=>(fun e=>(fun d1=>(fun d2=>if (a+b) / 2 < e/\e < b then dF f ((a+b) / 2) e b d2 else d2)
    (if a < s/\s < (a+b) / 2 then dF f a s ((a+b) / 2) d1 else d1)) (fg s m e d)) ((a+b) / 2+m - s)) (en d a m b)
theorem lq (s m e:Nat) (d:List ar):(fg s m e d).length=d.length:=by unfold fg;split;exact mQ _ _ _ _ _ (Nat.le_refl _);rfl
theorem eS:∀ (f a m b:Nat) (d:List ar),(dF f a m b d).length=d.length
 |0,_,_,_,_=>rfl
 |f+1,a,m,b,d=>by
  unfold dF
  split
  ·rw [xE]
  ·split
   ·rw [xG]
   ·dsimp only
    split
    ·rw [eS f]
     split
     ·rw [eS f,lq]
     ·rw [lq]
    ·split
     ·rw [eS f,lq]
     ·rw [lq]
theorem tP {a i:Nat} {d:List ar} (h:a+1<=i):jm a (i+1 - (a+1)) d=jG a i (jm a (i - (a+1)) d):=by
 rw [show i+1 - (a+1)=(i - (a+1))+1 by omega]
 conv=>lhs;unfold jm
 rw [show a+1+(i - (a+1))=i by omega]
theorem BG {a k:Nat} {d:List ar} (h:a<=k):ov a (k+1 - a) d=hO (ov a (k - a) d) k (k+1):=by
 rw [show k+1 - a=(k - a)+1 by omega]
 conv=>lhs;unfold ov
 rw [show a+(k - a)=k by omega]
theorem BH {m k:Nat} {d:List ar} (h:k<=m) (h0:0 < k):ow m (m - (k - 1)) d=hO (ow m (m - k) d) k (k - 1):=by
 rw [show m - (k - 1)=(m - k)+1 by omega]
 conv=>lhs;unfold ow
 rw [show m - (m - k)=k by omega]
theorem mq {P X:List ar} {k n:Nat} (hn:n=P.length+k):(P++X)[n]?=X[k]?:=by
 subst hn;rw [List.getElem?_append_right (by omega),Nat.add_sub_cancel_left]
theorem le_last {B:List ar} {x:ar} (h:fi B) (hl:∀ A0 y,B=A0++[y]->gL y x=true):∀ z∈B,gL z x=true:=by
 rcases jL B with rfl|⟨A',y,h'⟩
 ·simp
 ·intro z hz
  have h1:=hl A' y h'
  rw [h'] at h hz
  rcases List.mem_append.1 hz with hz|hz
  ·exact Ag ((gP.1 h).2.2 z hz y (List.mem_singleton.2 rfl)) h1
  ·rw [List.mem_singleton.1 hz];exact h1
theorem Ca {B:List ar} {x:ar} (h:fi B) (hl:∀ y B0,B=y::B0->gL x y=true):∀ z∈B,gL x z=true:=by
 cases B with
 |nil=>simp
 |cons y B0=>
  intro z hz
  have h1:=hl y B0 rfl
  rcases List.mem_cons.1 hz with rfl|hz
  ·exact h1
  ·exact vt h1 ((List.pairwise_cons.1 h).1 z hz)
theorem Cb {B:List ar} {x:ar} (h:fi B) (hl:∀ y B0,B=y::B0->fZ x y):∀ z∈B,fZ x z:=by
 cases B with
 |nil=>simp
 |cons y B0=>
  intro z hz
  have h1:=hl y B0 rfl
  rcases List.mem_cons.1 hz with rfl|hz
  ·exact h1
  ·exact kS h1 ((List.pairwise_cons.1 h).1 z hz)
theorem uW {A:List ar} {y:ar} {A0:List ar} (h:A=A0++[y]):A[A.length - 1]?=some y:=by subst h;simp
theorem np (l:List ar) (k:Nat) (h:k<=l.length):∃ u v,l=u++v/\u.length=k:=⟨l.take k,l.drop k,(List.take_append_drop k l).symm,by rw [List.length_take];omega⟩
theorem tY {U:List ar} {u:ar} (h:fi U) (hu:U[0]?=some u):∀ x∈U,fZ u x:=by
 cases U with
 |nil=>simp
 |cons y U=>
  simp at hu;subst hu
  intro x hx
  rcases List.mem_cons.1 hx with rfl|hx
  ·exact nJ _
  ·exact (List.pairwise_cons.1 h).1 x hx
theorem vw {V:List ar} {v:ar} (h:fi V) (hv:V[V.length - 1]?=some v):∀ y∈V,fZ y v:=by
 rcases jL V with rfl|⟨A,z,rfl⟩
 ·simp
 ·simp at hv;subst hv
  exact uV h (nJ _)
theorem get_some {V:List ar} {k:Nat} (h:k < V.length):∃ v,V[k]?=some v:=⟨V[k],List.getElem?_eq_getElem h⟩
theorem qJ:∀ (f:Nat) (P A B R:List ar),A.length+B.length<=f->0 < A.length->0 < B.length->fi A->fi B->
  ∃ C,dF f P.length (P.length+A.length) (P.length+A.length+B.length) (P++(A++(B++R)))=P++(C++R)/\fi C/\Same (A++B) C
 |0,P,A,B,R,hf,ha,hb,_,_=>by omega
 |f+1,P,A,B,R,hf,ha,hb,sA,sB=>by
  obtain ⟨a,hea⟩:∃ a,a=P.length:=⟨_,rfl⟩
  obtain ⟨m,hem⟩:∃ m,m=P.length+A.length:=⟨_,rfl⟩
  obtain ⟨b,heb⟩:∃ b,b=P.length+A.length+B.length:=⟨_,rfl⟩
  rw [<-hea,show a+A.length=m by omega,show m+B.length=b by omega]
  unfold dF
  split
  ·
   rename_i h1
   obtain ⟨x,rfl⟩:∃ x,A=[x]:=by
    match A,ha,(by omega:A.length=1) with
    |[x],_,_=>exact ⟨x,rfl⟩
   have hl1:[x].length=1:=rfl
   obtain ⟨q1,q2,q3,q4⟩:=kE (fun h=>dA (P++([x]++(B++R))) h a) (b - m) m b (Nat.le_refl _) (by omega)
   generalize fR (fun h=>dA (P++([x]++(B++R))) h a) m b=i at q1 q2 q3 q4
   obtain ⟨B1,B2,rfl,hB1⟩:=np B (i - m) (by omega)
   rw [List.length_append] at heb
   have gx:(P++([x]++(B1++B2++R)))[a]?=some x:=by rw [mq (k:=0) (by omega)];rfl
   have gB:∀ k,k < B1.length+B2.length->(P++([x]++(B1++B2++R)))[m+k]?=(B1++B2)[k]?:=fun k hk=>by
    rw [mq (k:=k+1) (by omega),List.cons_append,List.getElem?_cons_succ,List.nil_append,List.getElem?_append_left (by simp;omega)]
   obtain ⟨s1,s2,s3⟩:=gP.1 sB
   have w1:∀ z∈B1,gL z x=true:=le_last s1 fun A0 y hy=>by
    have hpos:0 < B1.length:=by rw [hy];simp
    rcases q3 with q3|q3
    ·omega
    ·have g1:=gB (B1.length - 1) (by omega)
     rw [List.getElem?_append_left (l₁:=B1) (by omega),uW hy,show m+(B1.length - 1)=i - 1 by omega] at g1
     have q3:dA (P++([x]++(B1++B2++R))) (i - 1) a=true:=q3
     rwa [fY g1 gx] at q3
   have w2:∀ z∈B2,fZ x z:=Cb s2 fun y B0 hy=>by
    have hpos:0 < B2.length:=by rw [hy];simp
    rcases q4 with q4|q4
    ·omega
    ·have g1:=gB B1.length (by omega)
     have g2:B2[0]?=some y:=by rw [hy];rfl
     rw [List.getElem?_append_right (l₁:=B1) (Nat.le_refl _),Nat.sub_self,g2,show m+B1.length=i by omega] at g1
     have q4:dA (P++([x]++(B1++B2++R))) i a=false:=q4
     rw [fY g1 gx] at q4
     exact rN.1 q4
   obtain ⟨t1,t2⟩:=Dm sB w1 w2
   refine ⟨B1++x::B2,?_,t1,t2⟩
   have h2:=xF P x B1.length B1 (B2++R) rfl
   rw [show i - 1 - a=B1.length by omega,hea,show P++([x]++(B1++B2++R))=P++x::(B1++(B2++R)) by simp,h2]
   simp
  ·split
   ·
    rename_i h0 h1
    obtain ⟨x,rfl⟩:∃ x,B=[x]:=by
     match B,hb,(by omega:B.length=1) with
     |[x],_,_=>exact ⟨x,rfl⟩
    have hl1:[x].length=1:=rfl
    obtain ⟨q1,q2,q3,q4⟩:=kE (fun h=>!dA (P++(A++([x]++R))) m h) (m - a) a m (Nat.le_refl _) (by omega)
    generalize fR (fun h=>!dA (P++(A++([x]++R))) m h) a m=i at q1 q2 q3 q4
    obtain ⟨A1,A2,rfl,hA1⟩:=np A (i - a) (by omega)
    rw [List.length_append] at hem heb
    have gx:(P++(A1++A2++([x]++R)))[m]?=some x:=by rw [mq (k:=A1.length+A2.length) (by omega),mq (k:=0) (by simp)];rfl
    have gA:∀ k,k < A1.length+A2.length->(P++(A1++A2++([x]++R)))[a+k]?=(A1++A2)[k]?:=fun k hk=>by
     rw [mq (k:=k) (by omega),List.getElem?_append_left (by simp;omega)]
    obtain ⟨s1,s2,s3⟩:=gP.1 sA
    have w1:∀ z∈A1,fZ z x:=Ah s1 fun A0 y hy=>by
     have hpos:0 < A1.length:=by rw [hy];simp
     rcases q3 with q3|q3
     ·omega
     ·have g1:=gA (A1.length - 1) (by omega)
      rw [List.getElem?_append_left (l₁:=A1) (by omega),uW hy,show a+(A1.length - 1)=i - 1 by omega] at g1
      have q3:(!dA (P++(A1++A2++([x]++R))) m (i - 1))=true:=q3
      rw [fY gx g1,Bool.not_eq_true'] at q3
      exact rN.1 q3
    have w2:∀ z∈A2,gL x z=true:=Ca s2 fun y B0 hy=>by
     have hpos:0 < A2.length:=by rw [hy];simp
     rcases q4 with q4|q4
     ·omega
     ·have g1:=gA A1.length (by omega)
      have g2:A2[0]?=some y:=by rw [hy];rfl
      rw [List.getElem?_append_right (l₁:=A1) (Nat.le_refl _),Nat.sub_self,g2,show a+A1.length=i by omega] at g1
      have q4:(!dA (P++(A1++A2++([x]++R))) m i)=false:=q4
      rw [fY gx g1,Bool.not_eq_false'] at q4
      exact q4
    obtain ⟨t1,t2⟩:=Ac sA w1 w2
    refine ⟨A1++x::A2,?_,t1,t2⟩
    have h2:=xH P x R A2.length A1 A2 rfl
    rw [show (P++A1++A2).length=m by simp;omega] at h2
    rw [show m - i=A2.length by omega,show P++(A1++A2++([x]++R))=P++A1++A2++x::R by simp,h2]
    simp
   ·
    rename_i h0 h1
    obtain ⟨mid,hmid⟩:∃ mid,mid=(a+b) / 2:=⟨_,rfl⟩
    have hs:∃ s,en (P++(A++(B++R))) a m b=s/\a<=s/\s<=m/\s<=mid/\mid+m - s<=b/\
      (s=m\/s=mid\/dA (P++(A++(B++R))) (mid+m - 1 - s) s=true)/\(s=a\/mid+m - s=b\/dA (P++(A++(B++R))) (mid+m - s) (s - 1)=false):=by
     refine ⟨_,rfl,?_⟩
     unfold en
     rw [<-hmid]
     split
     ·obtain ⟨q1,q2,q3,q4⟩:=kE (fun c=>!dA (P++(A++(B++R))) (mid+m - 1 - c) c) (mid - (mid+m - b)) (mid+m - b) mid (Nat.le_refl _) (by omega)
      generalize fR (fun c=>!dA (P++(A++(B++R))) (mid+m - 1 - c) c) (mid+m - b) mid=s at q1 q2 q3 q4
      refine ⟨by omega,by omega,by omega,by omega,?_,?_⟩
      ·rcases q4 with q4|q4
       ·exact .inr (.inl q4)
       ·right;right;simpa using q4
      ·rcases q3 with q3|q3
       ·right;left;omega
       ·by_cases hs0:s=a
        ·exact .inl hs0
        ·right;right
         have q3:(!dA (P++(A++(B++R))) (mid+m - 1 - (s - 1)) (s - 1))=true:=q3
         rw [show mid+m - 1 - (s - 1)=mid+m - s by omega] at q3;simpa using q3
     ·obtain ⟨q1,q2,q3,q4⟩:=kE (fun c=>!dA (P++(A++(B++R))) (mid+m - 1 - c) c) (m - a) a m (Nat.le_refl _) (by omega)
      generalize fR (fun c=>!dA (P++(A++(B++R))) (mid+m - 1 - c) c) a m=s at q1 q2 q3 q4
      refine ⟨by omega,by omega,by omega,by omega,?_,?_⟩
      ·rcases q4 with q4|q4
       ·exact .inl q4
       ·right;right;simpa using q4
      ·rcases q3 with q3|q3
       ·exact .inl q3
       ·by_cases hs0:s=a
        ·exact .inl hs0
        ·right;right
         have q3:(!dA (P++(A++(B++R))) (mid+m - 1 - (s - 1)) (s - 1))=true:=q3
         rw [show mid+m - 1 - (s - 1)=mid+m - s by omega] at q3;simpa using q3
    obtain ⟨s,hs0,hs1,hs2,hs3,hs4,hs5,hs6⟩:=hs
    dsimp only
    rw [hs0,<-hmid]
    obtain ⟨A1,U,rfl,hA1⟩:=np A (s - a) (by omega)
    rw [List.length_append] at hem heb ha hf
    obtain ⟨V,B2,rfl,hV⟩:=np B (mid+m - s - m) (by omega)
    rw [List.length_append] at heb hb hf
    have gA:∀ k,k < A1.length+U.length->(P++(A1++U++(V++B2++R)))[a+k]?=(A1++U)[k]?:=fun k hk=>by
     rw [mq (k:=k) (by omega),List.getElem?_append_left (by simp;omega)]
    have gB:∀ k,k < V.length+B2.length->(P++(A1++U++(V++B2++R)))[m+k]?=(V++B2)[k]?:=fun k hk=>by
     rw [mq (k:=A1.length+U.length+k) (by omega),mq (k:=k) (by simp),List.getElem?_append_left (by simp;omega)]
    obtain ⟨a1,a2,a3⟩:=gP.1 sA
    obtain ⟨b1,b2,b3⟩:=gP.1 sB
    have w1:∀ x∈U,∀ y∈V,gL y x=true:=by
     intro x hx y hy
     have hU:0 < U.length:=List.length_pos_of_mem hx
     have hVp:0 < V.length:=List.length_pos_of_mem hy
     rcases hs5 with h5|h5|h5
     ·omega
     ·omega
     ·obtain ⟨v,hv⟩:=get_some (V:=V) (k:=V.length - 1) (by omega)
      obtain ⟨u,hu⟩:=get_some (V:=U) (k:=0) hU
      have g1:=gB (V.length - 1) (by omega)
      rw [List.getElem?_append_left (l₁:=V) (by omega),hv,show m+(V.length - 1)=mid+m - 1 - s by omega] at g1
      have g2:=gA A1.length (by omega)
      rw [List.getElem?_append_right (l₁:=A1) (Nat.le_refl _),Nat.sub_self,hu,show a+A1.length=s by omega] at g2
      rw [fY g1 g2] at h5
      exact vt (Ag (vw b1 hv y hy) h5) (tY a2 hu x hx)
    have w2:∀ x∈A1,∀ y∈B2,fZ x y:=by
     intro x hx y hy
     have hAp:0 < A1.length:=List.length_pos_of_mem hx
     have hBp:0 < B2.length:=List.length_pos_of_mem hy
     rcases hs6 with h6|h6|h6
     ·omega
     ·omega
     ·obtain ⟨v,hv⟩:=get_some (V:=A1) (k:=A1.length - 1) (by omega)
      obtain ⟨u,hu⟩:=get_some (V:=B2) (k:=0) hBp
      have g1:=gB V.length (by omega)
      rw [List.getElem?_append_right (l₁:=V) (Nat.le_refl _),Nat.sub_self,hu,show m+V.length=mid+m - s by omega] at g1
      have g2:=gA (A1.length - 1) (by omega)
      rw [List.getElem?_append_left (l₁:=A1) (by omega),hv,show a+(A1.length - 1)=s - 1 by omega] at g2
      rw [fY g1 g2] at h6
      exact kS (vw a1 hv x hx) (kS (rN.1 h6) (tY b2 hu y hy))
    have hr:fg s m (mid+m - s) (P++(A1++U++(V++B2++R)))=P++(A1++(V++(U++(B2++R)))):=by
     unfold fg
     have e0:P++(A1++U++(V++B2++R))=P++A1++(U++(V++(B2++R))):=by simp
     split
     ·have:=sE (U.length+V.length) (P++A1) U V (B2++R) m (Nat.le_refl _) (by omega) (by omega) (by simp;omega)
      rw [show m - s=U.length by omega,show mid+m - s - m=V.length by omega,e0,this];simp
     ·rcases (by omega:U.length=0\/V.length=0) with hz|hz
      ·obtain rfl:=List.eq_nil_of_length_eq_zero hz;simp
      ·obtain rfl:=List.eq_nil_of_length_eq_zero hz;simp
    rw [hr]
    have hL:∃ C1,(if a < s/\s < mid then dF f a s mid (P++(A1++(V++(U++(B2++R))))) else P++(A1++(V++(U++(B2++R)))))=P++(C1++(U++(B2++R)))/\fi C1/\Same (A1++V) C1:=by
     split
     ·obtain ⟨C1,c1,c2,c3⟩:=qJ f P A1 V (U++(B2++R)) (by omega) (by omega) (by omega) a1 b1
      rw [<-hea,show a+A1.length=s by omega,show s+V.length=mid by omega] at c1
      exact ⟨C1,c1,c2,c3⟩
     ·rcases (by omega:A1.length=0\/V.length=0) with hz|hz
      ·obtain rfl:=List.eq_nil_of_length_eq_zero hz;exact ⟨V,by simp,b1,Same.refl _⟩
      ·obtain rfl:=List.eq_nil_of_length_eq_zero hz;exact ⟨A1,by simp,a1,by rw [List.append_nil];exact Same.refl _⟩
    obtain ⟨C1,c1,c2,c3⟩:=hL
    rw [c1]
    have hc1:C1.length=A1.length+V.length:=by rw [<-c3.len,List.length_append]
    have hR:∃ C2,(if mid < mid+m - s/\mid+m - s < b then dF f mid (mid+m - s) b (P++(C1++(U++(B2++R)))) else P++(C1++(U++(B2++R))))=P++(C1++(C2++R))/\fi C2/\Same (U++B2) C2:=by
     split
     ·obtain ⟨C2,d1,d2,d3⟩:=qJ f (P++C1) U B2 R (by omega) (by omega) (by omega) a2 b2
      rw [List.length_append,show P.length+C1.length=mid by omega,show mid+U.length=mid+m - s by omega,show mid+m - s+B2.length=b by omega] at d1
      exact ⟨C2,by simpa using d1,d2,d3⟩
     ·rcases (by omega:U.length=0\/B2.length=0) with hz|hz
      ·obtain rfl:=List.eq_nil_of_length_eq_zero hz;exact ⟨B2,by simp,b2,Same.refl _⟩
      ·obtain rfl:=List.eq_nil_of_length_eq_zero hz;exact ⟨U,by simp,a2,by rw [List.append_nil];exact Same.refl _⟩
    obtain ⟨C2,d1,d2,d3⟩:=hR
    refine ⟨C1++C2,by rw [d1];simp,gP.2 ⟨c2,d2,?_⟩,?_⟩
    ·intro x hx y hy
     rcases List.mem_append.1 (c3.mem.2 hx) with hx|hx
     ·rcases List.mem_append.1 (d3.mem.2 hy) with hy|hy
      ·exact a3 x hx y hy
      ·exact w2 x hx y hy
     ·rcases List.mem_append.1 (d3.mem.2 hy) with hy|hy
      ·exact kT (w1 y hy x hx)
      ·exact b3 x hx y hy
    ·have e1:Same (A1++U++(V++B2)) (A1++(V++(U++B2))):=by
      have:=(Same.refl A1).app ((Same.comm w1).app (Same.refl B2))
      simpa using this
     have e2:=c3.app d3
     rw [List.append_assoc] at e2
     exact e1.trans e2
theorem zB {f:Nat} {d:List ar} {a m b:Nat} (h1:a < m) (h2:m < b) (h3:b<=d.length) (hf:b - a<=f) (sA:fi ((d.drop a).take (m - a))) (sB:fi ((d.drop m).take (b - m))):Part d (dF f a m b d) a b:=by
 have e1:=parts (d:=d) (a:=a) (b:=b) (by omega) h3
 have e2:(d.drop a).take (b - a)=(d.drop a).take (m - a)++(d.drop m).take (b - m):=by
  rw [show b - a=(m - a)+(b - m) by omega,List.take_add,List.drop_drop,show a+(m - a)=m by omega]
 have l1:(d.take a).length=a:=by rw [List.length_take];omega
 have l2:((d.drop a).take (m - a)).length=m - a:=by rw [List.length_take,List.length_drop];omega
 have l3:((d.drop m).take (b - m)).length=b - m:=by rw [List.length_take,List.length_drop];omega
 obtain ⟨C,c1,c2,c3⟩:=qJ f (d.take a) ((d.drop a).take (m - a)) ((d.drop m).take (b - m)) (d.drop b) (by omega) (by omega) (by omega) sA sB
 rw [l1,l2,l3,show a+(m - a)=m by omega,show m+(b - m)=b by omega] at c1
 rw [<-e2] at c3
 rw [e2] at e1
 have e3:d.take a++((d.drop a).take (m - a)++((d.drop m).take (b - m)++d.drop b))=d:=by rw [<-List.append_assoc,<-List.append_assoc,List.append_assoc (d.take a)];exact e1.symm
 rw [e3] at c1
 have:=Part.of (P:=d.take a) (X:=(d.drop a).take (b - a)) (C:=C) (R:=d.drop b) (a:=a) (b:=b) l1 (by rw [List.length_take,List.length_drop];omega) c2 c3
 rwa [e2,<-e1,List.append_assoc,<-c1] at this
theorem se {p:Nat->Bool} {i j h R:Nat} (hb:fR p i j=R) (hij:i < j) (hh:h=(i+j) / 2) (hp:p h=true):fR p (h+1) j=R:=by
 subst hh;rw [<-hb,CY hij hp]
theorem sf {p:Nat->Bool} {i j h R:Nat} (hb:fR p i j=R) (hij:i < j) (hh:h=(i+j) / 2) (hp:p h=false):fR p i h=R:=by
 subst hh;rw [<-hb,CZ hij hp]
theorem dX {f a m b mid s e:Nat} {d d1 d2 d3:List ar} (h0:¬m - a=1) (h1:¬b - m=1) (hm:mid=(a+b) / 2) (hs:en d a m b=s) (he:mid+m - s=e) (hd1:fg s m e d=d1)
  (hd2:(if a < s/\s < mid then dF f a s mid d1 else d1)=d2) (hd3:(if mid < e/\e < b then dF f mid e b d2 else d2)=d3):dF (f+1) a m b d=d3:=by
 subst hm he hd1 hd2 hd3 hs
 rw [dF.eq_2,if_neg h0,if_neg h1]
def lb:List ar->ar->List ar
 |[],r=>[r]
 |x::l,r=>if gL r x=true then r::x::l else x::lb l r
def gH (l:List ar):List ar:=l.foldl lb []
theorem vz {r z:ar}:∀ {l:List ar},z∈lb l r↔z=r\/z∈l
 |[]=>by simp [lb]
 |x::l=>by
  unfold lb
  split
  ·simp
  ·rw [List.mem_cons,vz,List.mem_cons]
   constructor
   ·rintro (h|h|h)
    ·exact .inr (.inl h)
    ·exact .inl h
    ·exact .inr (.inr h)
   ·rintro (h|h|h)
    ·exact .inr (.inl h)
    ·exact .inl h
    ·exact .inr (.inr h)
theorem vy {r:ar}:∀ {l:List ar},fi l->fi (lb l r)
 |[],_=>List.pairwise_singleton _ _
 |x::l,h=>by
  obtain ⟨h1,h2⟩:=List.pairwise_cons.1 h
  unfold lb
  split
  ·rename_i hc
   exact List.pairwise_cons.2 ⟨fun z hz=>by
    rcases List.mem_cons.1 hz with rfl|hz
    ·exact kT hc
    ·exact kS (kT hc) (h1 z hz),h⟩
  ·rename_i hc
   have hc:fZ x r:=rN.1 (by simpa using hc)
   exact List.pairwise_cons.2 ⟨fun z hz=>by
    rcases vz.1 hz with rfl|hz
    ·exact hc
    ·exact h1 z hz,vy h2⟩
theorem tR {r:ar}:∀ {l:List ar},fi l->Same (l++[r]) (lb l r)
 |[],_=>Same.refl _
 |x::l,h=>by
  obtain ⟨h1,h2⟩:=List.pairwise_cons.1 h
  unfold lb
  split
  ·rename_i hc
   exact (Same.comm (u:=x::l) (v:=[r]) fun y hy z hz=>by
    rw [List.mem_singleton.1 hz]
    rcases List.mem_cons.1 hy with rfl|hy
    ·exact hc
    ·exact vt hc (h1 y hy))
  ·exact (Same.refl [x]).app (tR h2)
theorem qU:∀ (l acc:List ar),fi acc->fi (l.foldl lb acc)/\Same (acc++l) (l.foldl lb acc)
 |[],acc,h=>⟨h,by rw [List.append_nil];exact Same.refl _⟩
 |x::l,acc,h=>by
  obtain ⟨h1,h2⟩:=qU l (lb acc x) (vy h)
  refine ⟨h1,?_⟩
  have h3:=((tR (r:=x) h).app (Same.refl l)).trans h2
  simpa using h3
theorem zH (l:List ar):fi (gH l):=(qU l [] List.Pairwise.nil).1
theorem nr (l:List ar):Same l (gH l):=(qU l [] List.Pairwise.nil).2
theorem yi {l d:List ar} (h:fi d) (h':Same l d):gH l=d:=fi.uniq (zH l) h ((nr l).symm.trans h')
theorem tq (l:List ar):(gH l).length=l.length:=(nr l).len.symm
theorem zI {l:List ar} (h:l.length=0):gH l=l:=by obtain rfl:=List.eq_nil_of_length_eq_zero h;rfl
def jN (d:List ar) (a s:Nat):List ar:=(d.drop a).take s
def ta (s a:Nat) (d:List ar):Prop:=(∃ q,a=q * s)/\∀ k,(k+1) * s<=a->fi (jN d (k * s) s)
def sZ (s:Nat) (d:List ar):Prop:=∀ k,fi (jN d (k * s) s)
def mK (s a:Nat) (d:List ar):Prop:=ta (2 * s) a d/\∀ k,a<=k * s->fi (jN d (k * s) s)
theorem Part.DT {d y:List ar} {a b:Nat} (h:Part d y a b) {c s:Nat} (hc:c+s<=a):jN y c s=jN d c s:=by
 have e:∀ z:List ar,jN z c s=((z.take a).drop c).take s:=fun z=>by
  unfold jN;rw [List.drop_take,List.take_take,Nat.min_eq_left (by omega)]
 rw [e y,e d,h.l]
theorem Part.GO {d y:List ar} {a b:Nat} (h:Part d y a b) {c s:Nat} (hc:b<=c):jN y c s=jN d c s:=by
 have e:∀ z:List ar,jN z c s=((z.drop b).drop (c - b)).take s:=fun z=>by
  unfold jN;rw [List.drop_drop,show b+(c - b)=c by omega]
 rw [e y,e d,h.r]
theorem xj {d:List ar} {a s:Nat} (h:d.length<=a):jN d a s=[]:=by unfold jN;rw [List.drop_of_length_le h];simp
theorem sC {d:List ar} {a s t:Nat} (hs:d.length<=a+s) (ht:d.length<=a+t):jN d a s=jN d a t:=by
 unfold jN;rw [List.take_of_length_le (by rw [List.length_drop];omega),List.take_of_length_le (by rw [List.length_drop];omega)]
theorem xh:fi []:=List.Pairwise.nil
theorem Dl {k q s:Nat} (h:(k+1) * s<=q * s+s) (hs:0 < s):k<=q:=by
 rw [<-Nat.succ_mul] at h
 have:=Nat.le_of_mul_le_mul_right h hs
 omega
theorem rZ {s:Nat} (hs:0 < s) {d:List ar}:ta s 0 d:=⟨⟨0,by simp⟩,fun k h=>by rw [Nat.succ_mul] at h;omega⟩
theorem uc {s a:Nat} {d y:List ar} (hs:0 < s) (h:ta s a d) (p:Part d y a (a+s)):ta s (a+s) y:=by
 obtain ⟨⟨q,hq⟩,h2⟩:=h
 refine ⟨⟨q+1,by rw [Nat.succ_mul,hq]⟩,fun k hk=>?_⟩
 subst hq
 have hkq:=Dl hk hs
 by_cases e:k=q
 ·subst e
  have:=p.s
  rw [Nat.add_sub_cancel_left] at this
  exact this
 ·have h3:(k+1) * s<=q * s:=Nat.mul_le_mul_right s (by omega)
  rw [p.DT (by rw [Nat.succ_mul] at h3;exact h3)]
  exact h2 k h3
theorem vX {s a:Nat} {d y:List ar} (hs:0 < s) (h:ta s a d) (ha:a<=y.length) (p:Part d y a y.length) (hn:y.length<=a+s):sZ s y:=by
 obtain ⟨⟨q,rfl⟩,h2⟩:=h
 intro k
 rcases Nat.lt_trichotomy k q with e|e|e
 ·have h3:(k+1) * s<=q * s:=Nat.mul_le_mul_right s (by omega)
  rw [p.DT (by rw [Nat.succ_mul] at h3;exact h3)]
  exact h2 k h3
 ·subst e
  have h3:=p.s
  rw [sC (t:=y.length - k * s) hn (by omega)]
  exact h3
 ·have h3:(q+1) * s<=k * s:=Nat.mul_le_mul_right s (by omega)
  rw [Nat.succ_mul] at h3
  rw [xj (by omega)];exact xh
theorem Br {s:Nat} {d:List ar} (h:sZ s d) (hs:d.length<=s):fi d:=by
 have:=h 0
 unfold jN at this
 rw [Nat.zero_mul,List.drop_zero,List.take_of_length_le hs] at this
 exact this
theorem yF {s:Nat} (hs:0 < s) {d:List ar} (h:sZ s d):mK s 0 d:=⟨rZ (by omega),fun k _=>h k⟩
theorem mK.mul {s a:Nat} {d:List ar} (h:mK s a d):∃ k,a=k * s:=by
 obtain ⟨q,hq⟩:=h.1.1
 exact ⟨q * 2,by rw [hq,Nat.mul_assoc]⟩
theorem BM {s a:Nat} {d:List ar} (h:mK s a d):fi (jN d a s)/\fi (jN d (a+s) s):=by
 obtain ⟨k,hk⟩:=h.mul
 refine ⟨?_,?_⟩
 ·have:=h.2 k (by omega);rwa [<-hk] at this
 ·have:=h.2 (k+1) (by rw [Nat.succ_mul];omega);rwa [Nat.succ_mul,<-hk] at this
theorem Aq {s a:Nat} {d y:List ar} (hs:0 < s) (h:mK s a d) (p:Part d y a (a+2 * s)):mK s (a+2 * s) y:=
 ⟨uc (by omega) h.1 p,fun k hk=>by rw [p.GO hk];exact h.2 k (by omega)⟩
theorem BN {s a:Nat} {d y:List ar} (hs:0 < s) (h:mK s a d) (ha:a<=y.length) (p:Part d y a y.length) (hn:y.length<=a+2 * s):sZ (s * 2) y:=by
 rw [Nat.mul_comm];exact vX (by omega) h.1 ha p hn
theorem Ar {s a:Nat} {d:List ar} (hs:0 < s) (h:mK s a d) (hn:d.length<=a+s):sZ (s * 2) d:=by
 rw [Nat.mul_comm]
 obtain ⟨⟨⟨q,rfl⟩,h2⟩,h3⟩:=h
 intro k
 rcases Nat.lt_trichotomy k q with e|e|e
 ·exact h2 k (Nat.mul_le_mul_right _ (by omega))
 ·subst e
  rw [sC (t:=s) (by omega) hn]
  have:=h3 (k * 2) (by rw [Nat.mul_assoc];omega)
  rwa [Nat.mul_assoc] at this
 ·have h4:(q+1) * (2 * s)<=k * (2 * s):=Nat.mul_le_mul_right _ (by omega)
  rw [Nat.succ_mul] at h4
  rw [xj (by omega)];exact xh
theorem uS {s a b:Nat} {d:List ar} (hs:0 < s) (h:mK s a d) (h1:a+s < b) (h2:b<=d.length) (h3:b=a+2 * s\/(b=d.length/\b<=a+2 * s)):Part d (dF (b - a) a (a+s) b d) a b:=by
 obtain ⟨s1,s2⟩:=BM h
 refine zB (by omega) h1 h2 (Nat.le_refl _) ?_ ?_
 ·rw [Nat.add_sub_cancel_left];exact s1
 ·rcases h3 with h3|⟨h3,h4⟩
  ·rw [show b - (a+s)=s by omega];exact s2
  ·have:=sC (d:=d) (a:=a+s) (s:=s) (t:=b - (a+s)) (by omega) (by omega)
   show fi (jN d (a+s) (b - (a+s)))
   rw [<-this];exact s2
def mI (r:ar):Prop:=r.kind < 1\/r.kind > 8
def od (r:ar):Prop:=r.aE < 0\/r.aE > 7\/r.bd < 0\/r.bd > 29\/r.sum < 1\/r.sum > 1000000
instance (r:ar):Decidable (mI r):=by unfold mI;infer_instance
instance (r:ar):Decidable (od r):=by unfold od;infer_instance
def mG:List ar->Int->dc
 |[],_=>⟨0,0⟩
 |r::l,i=>if mI r then ⟨1,i⟩ else if od r then ⟨3,i⟩ else mG l (i+1)
def gE (l:List ar):dc:=if l.length > 100 then ⟨5,0⟩ else mG l 0
theorem oO {l:List ar} {q:Nat} {x:ar} (h:l[q]?=some x):mG (l.drop q) q=if mI x then ⟨1,q⟩ else if od x then ⟨3,q⟩ else mG (l.drop (q+1)) ((q+1:Nat):Int):=by
 obtain ⟨hq,rfl⟩:=List.getElem?_eq_some_iff.1 h
 rw [List.drop_eq_getElem_cons hq];rfl
theorem zR {l:List ar} {q:Nat} {i:Int} (h:l.length<=q):mG (l.drop q) i=⟨0,0⟩:=by rw [List.drop_of_length_le h];rfl
def xx (r:ar):Prop:=¬mI r/\¬od r
theorem xr:∀ {l:List ar} {i:Int},(mG l i).err=0↔∀ x∈l,xx x
 |[],i=>by simp [mG]
 |r::l,i=>by
  unfold mG
  split
  ·rename_i h
   simp only [List.mem_cons,forall_eq_or_imp]
   exact ⟨fun e=>absurd e (by decide),fun e=>absurd h e.1.1⟩
  ·split
   ·rename_i h
    simp only [List.mem_cons,forall_eq_or_imp]
    exact ⟨fun e=>absurd e (by decide),fun e=>absurd h e.1.2⟩
   ·rename_i h1 h2
    rw [xr]
    simp only [List.mem_cons,forall_eq_or_imp]
    exact ⟨fun e=>⟨⟨h1,h2⟩,e⟩,fun e=>e.2⟩
theorem zo {l:List ar}:(gE l).err=0↔l.length<=100/\∀ x∈l,xx x:=by
 unfold gE
 split
 ·exact ⟨fun e=>absurd e (by decide),fun e=>by omega⟩
 ·rw [xr];exact ⟨fun e=>⟨by omega,e⟩,fun e=>e.2⟩
theorem FH {x:ar} (h:xx x):0<=x.aE/\x.aE<=7/\0<=x.bd/\x.bd<=29/\1<=x.kind/\x.kind<=8/\1<=x.sum/\x.sum<=1000000:=by
 unfold xx mI od at h;omega
theorem rr {l:List ar} {q:Nat} {x:ar} (h:l[q]?=some x):l.take (q+1)=l.take q++[x]:=by
 rw [List.take_add_one,h];rfl
def mu (n:Int):Nat->List Int
 |0=>[]
 |k+1=>n / 256 ^ k % 256::mu n k
theorem pR (n:Int):∀ k,(mu n k).length=k
 |0=>rfl
 |k+1=>by unfold mu;rw [List.length_cons,pR n k]
theorem Cw {n:Int} {k:Nat} (h:1<=k):mu n k=n / 256 ^ (k - 1) % 256::mu n (k - 1):=by
 obtain ⟨j,rfl⟩:∃ j,k=j+1:=⟨k - 1,by omega⟩
 rfl
theorem Dj (k:Nat):(2:Int) ^ (8 * k)=256 ^ k:=by rw [Int.pow_mul];rfl
theorem GN {k:Nat} {b n:Int} (h1:1<=k) (hb:b=8 * ((k:Int) - 1)):n / 2 ^ b.toNat=n / 256 ^ (k - 1):=by
 subst hb
 rw [show (8 * ((k:Int) - 1)).toNat=8 * (k - 1) by omega,Dj]
def vh (x:ar):List Int:=[x.aE % 256,x.bd % 256,x.kind % 256]++mu x.sum 3
def lK:List ar->Int
 |[]=>0
 |x::l=>x.sum+lK l
theorem Bp (u v:List ar):lK (u++v)=lK u+lK v:=by
 induction u with
 |nil=>simp [lK]
 |cons x u ih=>simp only [List.cons_append,lK,ih];omega
theorem zE {l:List ar} {q:Nat} {x:ar} (h:l[q]?=some x):lK (l.take (q+1))=lK (l.take q)+x.sum:=by
 rw [rr h,Bp];simp [lK]
def mn (l r:List ar):List Int:=((l.length:Int) % 256)::r.flatMap vh
theorem yE {l r:List ar} {q:Nat} {x:ar} (h:r[q]?=some x):mn l (r.take (q+1))=mn l (r.take q)++vh x:=by
 unfold mn;rw [rr h,List.flatMap_append];simp
theorem BB (x:ar):(vh x).length=6:=by unfold vh;rw [List.length_append,pR];rfl
theorem Ap (l r:List ar):(mn l r).length=1+6 * r.length:=by
 unfold mn
 rw [List.length_cons]
 induction r with
 |nil=>rfl
 |cons x r ih=>rw [List.flatMap_cons,List.length_append,BB,List.length_cons];omega
def kf (l:List ar):List Int×dc:=if (gE l).err=0 then (mn l (gH l)++mu (lK (gH l)) 4,⟨0,0⟩) else ([],gE l)
def dG (e err:Int):Int:=if e=0 then err else e
def dQ (l:List Entry) (e src dst n:Int):List Entry×Int:=
 if dG e (jb l src dst n).2=0 then ((jb l src dst n).1,0) else (l,dG e (jb l src dst n).2)
def cJ (l:List bD) (e k held bE:Int):List bD×Int:=
 match l[k.toNat]? with
 |none=>(l,e)
 |some c=>if dG e (ei c held bE).2=0 then (l.set k.toNat (ei c held bE).1,0) else (l,dG e (ei c held bE).2)
def eO (s:bS) (e:Int) (t:bg):bS×Int:=if dG e (gG s t).2=0 then ((gG s t).1,0) else (s,dG e (gG s t).2)
def iZ (l:List ar) (e:Int) (r:ar):List ar×Int:=if l.length=100 then (l,dG e 5) else (l++[r],e)
theorem tu {l:List bD} {e k held bE:Int} {c:bD} (h:l[k.toNat]?=some c):cJ l e k held bE=if dG e (ei c held bE).2=0 then (l.set k.toNat (ei c held bE).1,0) else (l,dG e (ei c held bE).2):=by
 unfold cJ;rw [h]
def dP (au:List bC) (due:List Int) (al:List bD) (book:List Entry) (e:Int) (t:bg):List Int×List bD×List Entry×Int:=
 match au[t.bd.toNat]? with
 |none=>(due,al,book,e)
 |some a=>
  if t.kind=1 then (due.set a.aE.toNat (IntKind.i64.wrap (due.getD a.aE.toNat 0+t.sum)),al,dQ book e 1 (50+a.aE) t.sum)
  else if t.kind=2 then (due,(cJ al e a.aO 0 t.sum).1,dQ book (cJ al e a.aO 0 t.sum).2 1 (10+a.aO) t.sum)
  else if t.kind=3 then (due.set a.aE.toNat (IntKind.i64.wrap (due.getD a.aE.toNat 0 - t.sum)),al,dQ book e (50+a.aE) 2 t.sum)
  else (due,al,book,e)
structure Bk where (time:Int) (down:Bool) (al:List bD) (due:List Int) (au:List bC) (s0 s1:bS) (n0 n1:Int) (w0 w1:List cj) (aY:cH) (aS:List ar) (book:List Entry)
 deriving DecidableEq
def dw (b c:Bk) (e:Int):Bk×Answer:=if e=0 then (c,⟨0,0⟩) else (b,⟨e,0⟩)
def fI (b:Bk) (d:bJ):Bk×Answer:=
 if d.n < 0\/d.n>=b.al.length then (b,⟨6,0⟩)
 else if d.sum < 1\/d.sum > 1000000 then (b,⟨3,0⟩)
 else dw b {b with al:=(cJ b.al 0 d.n 0 d.sum).1,book:=(dQ b.book (cJ b.al 0 d.n 0 d.sum).2 0 (10+d.n) d.sum).1} (dQ b.book (cJ b.al 0 d.n 0 d.sum).2 0 (10+d.n) d.sum).2
def gN (b:Bk) (d:bJ):Bk×Answer:=
 if d.n < 0\/d.n>=b.due.length then (b,⟨6,0⟩)
 else if b.due.getD d.n.toNat 0<=0 then (b,⟨10,0⟩)
 else dw b {b with due:=b.due.set d.n.toNat 0,book:=(dQ b.book 0 (50+d.n) 0 (b.due.getD d.n.toNat 0)).1} (dQ b.book 0 (50+d.n) 0 (b.due.getD d.n.toNat 0)).2
def fv (time:Int):List bC->Nat->List bD->List bC->Int->List bD×List bC×Int
 |[],_,al,au,e=>(al,au,e)
 |a::l,i,al,au,e=>fv time l (i+1) (cJ al e a.aO (bR (ep a time) - bR a) 0).1 (au.set i (ep a time)) (cJ al e a.aO (bR (ep a time) - bR a) 0).2
def gJ (b:Bk):Bk:=if (fv b.time b.au 0 b.al b.au 0).2.2=0 then {b with al:=(fv b.time b.au 0 b.al b.au 0).1,au:=(fv b.time b.au 0 b.al b.au 0).2.1} else b
def fk (b:Bk) (d:bJ):Bk×Answer:=
 if d.sum < 0\/d.sum > 1000000 - b.time then (b,⟨3,0⟩)
 else (if b.down=true then {b with time:=b.time+d.sum} else gJ {b with time:=b.time+d.sum},⟨0,0⟩)
def jA (l:List cj) (ks:List bg) (n:Int):List cj:=l++ks.map (fun t=>⟨t,-1⟩)++[⟨⟨0,0,0,0⟩,n⟩]
def iV (w:List cj) (ks:List bg) (n:Int):List cj×Answer:=if (jA w ks n).length > 60 then (w,⟨5,0⟩) else (jA w ks n,⟨0,0⟩)
def eE (s0 s1:bS) (n0 n1:Int) (w0 w1:List cj) (d:bJ):List cj×List cj×Answer:=
 if d.n=0 then (w0,iV w1 s0.kept n0) else if d.n=1 then ((iV w0 s1.kept n1).1,w1,(iV w0 s1.kept n1).2) else (w0,w1,⟨6,0⟩)
def iY (aS:List ar) (days:List (List Int)):List ar×List (List Int)×Answer:=
 if (kf aS).2.err≠0 then (aS,days,⟨(kf aS).2.err,0⟩) else ([],days++[(kf aS).1],⟨0,0⟩)
def gS (e:Int):Int:=if e=10 then 12 else e
def dK (b:Bk) (d:bJ):Bk×Answer:=
 if d.n < 0\/d.n>=b.al.length\/d.aE < 0\/d.aE>=b.due.length then (b,⟨6,0⟩)
 else if b.down=true then
  (if gS (cv b.aY ⟨d.n,d.aE,d.sum,b.time⟩).2=0/\(b.au.length:Int)+(cv b.aY ⟨d.n,d.aE,d.sum,b.time⟩).1.aU.length > 30 then (b,⟨5,0⟩)
  else if gS (cv b.aY ⟨d.n,d.aE,d.sum,b.time⟩).2≠0 then (b,⟨gS (cv b.aY ⟨d.n,d.aE,d.sum,b.time⟩).2,0⟩)
  else ({b with aY:=(cv b.aY ⟨d.n,d.aE,d.sum,b.time⟩).1},⟨0,(b.au.length:Int)+(cv b.aY ⟨d.n,d.aE,d.sum,b.time⟩).1.aU.length - 1⟩))
 else if (dm d.n d.aE d.sum b.time).2=0/\b.au.length=30 then (b,⟨5,0⟩)
 else if (dm d.n d.aE d.sum b.time).2≠0 then (b,⟨(dm d.n d.aE d.sum b.time).2,0⟩)
 else match b.al[d.n.toNat]? with
  |none=>(b,⟨0,0⟩)
  |some c=>
   if (dz c d.sum b.time).2≠0 then (b,⟨(dz c d.sum b.time).2,0⟩)
   else ({b with al:=b.al.set d.n.toNat (dz c d.sum b.time).1,au:=b.au++[(dm d.n d.aE d.sum b.time).1]},⟨0,b.au.length⟩)
theorem uw (s:cH) (a:cp):(cv s a).1.aU.length<=s.aU.length+1:=by
 unfold cv;(repeat' split)<;>simp [fN]
def kV (al:List bD) (k:Int):Int:=
 match al[k.toNat]? with
 |none=>0
 |some c=>c.bE - c.held
def dk (b:Bk) (a cw:bC) (d:bJ):List bD×List Int×List Entry×bS×bS×Int:=
 if d.move=1\/d.move=4 then ((cJ b.al 0 a.aO (bR a - bR cw) 0).1,b.due,b.book,b.s0,b.s1,(cJ b.al 0 a.aO (bR a - bR cw) 0).2)
 else if d.move=2\/d.move=3 then
  ((cJ b.al 0 a.aO (bR a - bR cw) (0 - d.sum)).1,b.due,(dQ b.book (cJ b.al 0 a.aO (bR a - bR cw) (0 - d.sum)).2 (10+a.aO) 1 d.sum).1,
   (eO b.s0 (dQ b.book (cJ b.al 0 a.aO (bR a - bR cw) (0 - d.sum)).2 (10+a.aO) 1 d.sum).2 ⟨0,1,d.n,d.sum⟩).1,b.s1,
   (eO b.s0 (dQ b.book (cJ b.al 0 a.aO (bR a - bR cw) (0 - d.sum)).2 (10+a.aO) 1 d.sum).2 ⟨0,1,d.n,d.sum⟩).2)
 else if d.move=5 then
  (b.al,b.due.set a.aE.toNat (IntKind.i64.wrap (b.due.getD a.aE.toNat 0 - d.sum)),(dQ b.book 0 (50+a.aE) 1 d.sum).1,b.s0,(eO b.s1 (dQ b.book 0 (50+a.aE) 1 d.sum).2 ⟨0,2,d.n,d.sum⟩).1,(eO b.s1 (dQ b.book 0 (50+a.aE) 1 d.sum).2 ⟨0,2,d.n,d.sum⟩).2)
 else if d.move=6 then ((cJ b.al 0 a.aO 0 d.sum).1,b.due,(dQ b.book (cJ b.al 0 a.aO 0 d.sum).2 2 (10+a.aO) d.sum).1,b.s0,b.s1,(dQ b.book (cJ b.al 0 a.aO 0 d.sum).2 2 (10+a.aO) d.sum).2)
 else if d.move=7 then (b.al,b.due,b.book,(eO b.s0 0 ⟨0,3,d.n,d.sum⟩).1,b.s1,(eO b.s0 0 ⟨0,3,d.n,d.sum⟩).2)
 else if d.move=8 then ((cJ b.al 0 a.aO 0 (0 - d.sum)).1,b.due,(dQ b.book (cJ b.al 0 a.aO 0 (0 - d.sum)).2 (10+a.aO) 2 d.sum).1,b.s0,b.s1,(dQ b.book (cJ b.al 0 a.aO 0 (0 - d.sum)).2 (10+a.aO) 2 d.sum).2)
 else (b.al,b.due,b.book,b.s0,b.s1,0)
def nV (b:Bk) (a:bC) (d:bJ) (r:List bD×List Int×List Entry×bS×bS×Int):Bk×Answer:=
 dw b { b with al := r.1, due := r.2.1, book := r.2.2.1, s0 := r.2.2.2.1, s1 := r.2.2.2.2.1, aS := (iZ b.aS r.2.2.2.2.2 ⟨a.aE, d.n, d.move, d.sum⟩).1, au := b.au.set d.n.toNat a } (iZ b.aS r.2.2.2.2.2 ⟨a.aE, d.n, d.move, d.sum⟩).2
def dN (b:Bk) (d:bJ):Bk×Answer:=
 if b.down=true then (b,⟨12,0⟩)
 else if d.n < 0\/d.n>=b.au.length then (b,⟨6,0⟩)
 else match b.au[d.n.toNat]? with
  |none=>(b,⟨0,0⟩)
  |some cw=>
   if (cq cw d.move d.sum).2≠0 then (b,⟨(cq cw d.move d.sum).2,0⟩)
   else if d.move=1/\d.sum > kV b.al (cq cw d.move d.sum).1.aO then (b,⟨10,0⟩)
   else nV b (cq cw d.move d.sum).1 d (dk b (cq cw d.move d.sum).1 cw d)
theorem jD {a:bC} (h:0<=a.sum/\a.sum<=1000000/\0<=a.captured/\a.captured<=a.sum/\0<=a.bB/\0<=a.bl/\a.bB+a.bl<=a.captured/\0<=a.aO/\a.aO<=7/\0<=a.aE/\a.aE<=7/\0<=a.dg/\a.dg<=1000100):bM a=0:=by
 unfold bM;rw [if_neg (by omega),if_neg (by omega)]
theorem fo {α:Type} {x b:α} {e:Int} (h:(x,e)=(b,(0:Int))):x=b/\e=0:=Prod.mk.inj h
theorem wJ {a b:bC} {k n:Int} (hw:bM a=0) (h1:1<=n) (h2:n<=1000000) (h:dR a k n=(b,0)):bM b=0/\b.aO=a.aO/\b.aE=a.aE:=by
 have hr:=eM hw
 unfold dR at h
 by_cases c1:a.shut=true
 ·rw [if_pos c1] at h;have:=(fo h).2;omega
 rw [if_neg c1] at h
 by_cases c2:k=1
 ·rw [if_pos c2] at h
  by_cases c3:n > 1000000 - a.sum
  ·rw [if_pos c3] at h;have:=(fo h).2;omega
  ·rw [if_neg c3] at h;obtain ⟨rfl,_⟩:=fo h
   exact ⟨jD (by dsimp only;omega),rfl,rfl⟩
 rw [if_neg c2] at h
 by_cases c3:n > a.sum - a.captured
 ·rw [if_pos c3] at h;have:=(fo h).2;omega
 rw [if_neg c3] at h
 by_cases c4:k=4
 ·rw [if_pos c4] at h;obtain ⟨rfl,_⟩:=fo h
  exact ⟨jD (by dsimp only;omega),rfl,rfl⟩
 ·rw [if_neg c4] at h;obtain ⟨rfl,_⟩:=fo h
  exact ⟨jD (by dsimp only;omega),rfl,rfl⟩
theorem kJ {a b:bC} {k n:Int} (h:cq a k n=(b,0)):bM a=0/\bM b=0/\b.aO=a.aO/\b.aE=a.aE/\1<=k/\k<=8/\1<=n/\n<=1000000:=by
 unfold cq at h
 by_cases c0:bM a≠0
 ·rw [if_pos c0] at h;exact absurd (fo h).2 c0
 rw [if_neg c0] at h
 have hw:bM a=0:=by omega
 have hr:=eM hw
 by_cases c1:k < 1\/k > 8
 ·rw [if_pos c1] at h;have:=(fo h).2;omega
 rw [if_neg c1] at h
 by_cases c2:n < 1\/n > 1000000
 ·rw [if_pos c2] at h;have:=(fo h).2;omega
 rw [if_neg c2] at h
 have hb:bM b=0/\b.aO=a.aO/\b.aE=a.aE:=by
  by_cases k5:k=5
  ·rw [if_pos k5] at h
   by_cases c:n > a.captured - a.bB - a.bl
   ·rw [if_pos c] at h;have:=(fo h).2;omega
   ·rw [if_neg c] at h;obtain ⟨rfl,_⟩:=fo h;exact ⟨jD (by dsimp only;omega),rfl,rfl⟩
  rw [if_neg k5] at h
  by_cases k6:k=6
  ·rw [if_pos k6] at h
   by_cases c:n > a.captured - a.bB - a.bl
   ·rw [if_pos c] at h;have:=(fo h).2;omega
   ·rw [if_neg c] at h;obtain ⟨rfl,_⟩:=fo h;exact ⟨jD (by dsimp only;omega),rfl,rfl⟩
  rw [if_neg k6] at h
  by_cases k7:k=7
  ·rw [if_pos k7] at h
   by_cases c:n > a.bl
   ·rw [if_pos c] at h;have:=(fo h).2;omega
   ·rw [if_neg c] at h;obtain ⟨rfl,_⟩:=fo h;exact ⟨jD (by dsimp only;omega),rfl,rfl⟩
  rw [if_neg k7] at h
  by_cases k8:k=8
  ·rw [if_pos k8] at h
   by_cases c:n > a.bl
   ·rw [if_pos c] at h;have:=(fo h).2;omega
   ·rw [if_neg c] at h;obtain ⟨rfl,_⟩:=fo h;exact ⟨jD (by dsimp only;omega),rfl,rfl⟩
  rw [if_neg k8] at h
  by_cases c:(dR a k n).2≠0
  ·rw [if_pos c] at h;exact absurd (fo h).2 c
  ·rw [if_neg c] at h;exact wJ hw (by omega) (by omega) h
 exact ⟨hw,hb.1,hb.2.1,hb.2.2,by omega,by omega,by omega,by omega⟩
theorem Bj {c:bD} (h:cQ c=0):-9223372036854775808<=c.bE - c.held/\c.bE - c.held<=9223372036854775807:=by
 have:=iD h;omega
def fK:List cp->List bD->List bC->List bD×List bC×Int
 |[],cs,xs=>(cs,xs,0)
 |x::l,cs,xs=>
  if (dm x.aO x.aE x.sum x.time).2≠0 then (cs,xs,(dm x.aO x.aE x.sum x.time).2)
  else match cs[x.aO.toNat]? with
   |none=>(cs,xs,0)
   |some c=>if (eP c x.sum).2≠0 then (cs,xs,(eP c x.sum).2) else fK l (cs.set x.aO.toNat (eP c x.sum).1) (xs++[(dm x.aO x.aE x.sum x.time).1])
theorem qH {l:List cp} {q:Nat} {x:cp} {cs:List bD} {xs:List bC} (h:l[q]?=some x):fK (l.drop q) cs xs=
  if (dm x.aO x.aE x.sum x.time).2≠0 then (cs,xs,(dm x.aO x.aE x.sum x.time).2)
  else match cs[x.aO.toNat]? with
   |none=>(cs,xs,0)
   |some c=>if (eP c x.sum).2≠0 then (cs,xs,(eP c x.sum).2) else fK (l.drop (q+1)) (cs.set x.aO.toNat (eP c x.sum).1) (xs++[(dm x.aO x.aE x.sum x.time).1]):=by
 obtain ⟨hq,rfl⟩:=List.getElem?_eq_some_iff.1 h
 rw [List.drop_eq_getElem_cons hq];rfl
def iM (b:Bk):Bk×Answer:=
 if b.down=false then (b,⟨8,0⟩)
 else if (cX b.aY).2.2≠0 then (b,⟨(cX b.aY).2.2,0⟩)
 else if (fK (cX b.aY).2.1 b.al b.au).2.2≠0 then (b,⟨(fK (cX b.aY).2.1 b.al b.au).2.2,0⟩)
 else (gJ {b with al:=(fK (cX b.aY).2.1 b.al b.au).1,au:=(fK (cX b.aY).2.1 b.al b.au).2.1,aY:=(cX b.aY).1,down:=false},⟨0,0⟩)
def fQ (b:Bk) (d:bJ):Bk×Answer:=
 match b.w0[0]? with
 |none=>(b,⟨6,0⟩)
 |some p=>
  if d.kind=7 then ({b with w0:=b.w0.drop 1},⟨0,0⟩)
  else if p.seen>=0 then (if (eh b.s0 p.seen).2=0 then ({b with w0:=b.w0.drop 1,s0:=(eh b.s0 p.seen).1},⟨0,0⟩) else (b,⟨(eh b.s0 p.seen).2,0⟩))
  else if (fV b.n0 p.cc).2=true then
   dw b { b with w0 := b.w0.drop 1, n0 := (fV b.n0 p.cc).1, due := (dP b.au b.due b.al b.book 0 p.cc).1, al := (dP b.au b.due b.al b.book 0 p.cc).2.1, book := (dP b.au b.due b.al b.book 0 p.cc).2.2.1 } (dP b.au b.due b.al b.book 0 p.cc).2.2.2
  else ({b with w0:=b.w0.drop 1,n0:=(fV b.n0 p.cc).1},⟨0,0⟩)
def fP (b:Bk) (d:bJ):Bk×Answer:=
 match b.w1[0]? with
 |none=>(b,⟨6,0⟩)
 |some p=>
  if d.kind=7 then ({b with w1:=b.w1.drop 1},⟨0,0⟩)
  else if p.seen>=0 then (if (eh b.s1 p.seen).2=0 then ({b with w1:=b.w1.drop 1,s1:=(eh b.s1 p.seen).1},⟨0,0⟩) else (b,⟨(eh b.s1 p.seen).2,0⟩))
  else if (fV b.n1 p.cc).2=true then
   dw b { b with w1 := b.w1.drop 1, n1 := (fV b.n1 p.cc).1, due := (dP b.au b.due b.al b.book 0 p.cc).1, al := (dP b.au b.due b.al b.book 0 p.cc).2.1, book := (dP b.au b.due b.al b.book 0 p.cc).2.2.1 } (dP b.au b.due b.al b.book 0 p.cc).2.2.2
  else ({b with w1:=b.w1.drop 1,n1:=(fV b.n1 p.cc).1},⟨0,0⟩)
def cA (b:Bk) (d:bJ):Bk×Answer:=if d.n=0 then fQ b d else if d.n=1 then fP b d else (b,⟨6,0⟩)
def eX (b:Bk) (days:List (List Int)) (d:bJ):Bk×List (List Int)×Answer:=
 if d.kind=1 then ((fI b d).1,days,(fI b d).2)
 else if d.kind=2 then ((dK b d).1,days,(dK b d).2)
 else if d.kind=3 then ((dN b d).1,days,(dN b d).2)
 else if d.kind=4 then ((fk b d).1,days,(fk b d).2)
 else if d.kind=5 then ({b with w0:=(eE b.s0 b.s1 b.n0 b.n1 b.w0 b.w1 d).1,w1:=(eE b.s0 b.s1 b.n0 b.n1 b.w0 b.w1 d).2.1},days,(eE b.s0 b.s1 b.n0 b.n1 b.w0 b.w1 d).2.2)
 else if d.kind=6\/d.kind=7 then ((cA b d).1,days,(cA b d).2)
 else if d.kind=8 then (if b.down=true then (b,days,⟨8,0⟩) else ({b with down:=true},days,⟨0,0⟩))
 else if d.kind=9 then ((iM b).1,days,(iM b).2)
 else if d.kind=10 then ({b with aS:=(iY b.aS days).1},(iY b.aS days).2.1,(iY b.aS days).2.2)
 else if d.kind=11 then ((gN b d).1,days,(gN b d).2)
 else (b,days,⟨1,0⟩)
def fH (b:Bk) (days:List (List Int)) (told:List (Int×Answer)) (cl:Nat) (d:bJ):Bk×List (List Int)×List (Int×Answer)×Nat×Answer:=
 if (jj told d.id).isSome=true/\d.id≠0 then (b,days,told,cl,(jj told d.id).getD ⟨0,0⟩)
 else ((eX b days d).1,(eX b days d).2.1,qI told d.id (eX b days d).2.2,if (jj told d.id).isSome then cl else cl+1,(eX b days d).2.2)
structure Setup where (da:List ew) (gn cap:Int)
 deriving DecidableEq
def oQ:List ew->Int->dc
 |[],_=>⟨0,0⟩
 |p::l,i=>if ft p≠0 then ⟨ft p,i⟩ else oQ l (i+1)
theorem tG {l:List ew} {q:Nat} {p:ew} (h:l[q]?=some p):oQ (l.drop q) q=if ft p≠0 then ⟨ft p,q⟩ else oQ (l.drop (q+1)) ((q+1:Nat):Int):=by
 obtain ⟨hq,rfl⟩:=List.getElem?_eq_some_iff.1 h
 rw [List.drop_eq_getElem_cons hq];rfl
def eC (s:Setup):dc:=
 if s.da.length > 8\/s.gn < 0\/s.gn > 8 then ⟨5,0⟩ else if s.cap < 0\/s.cap > 1000000 then ⟨3,0⟩ else oQ s.da 0
def yx:Bk:=⟨0,false,[],[],[],⟨0,[]⟩,⟨0,[]⟩,0,0,[],[],⟨0,[],[]⟩,[],[]⟩
def nZ (p:ew):bD:=⟨0,0,p,[]⟩
def iB (s:Setup):Bk:=⟨0,false,s.da.map nZ,List.replicate s.gn.toNat 0,[],⟨0,[]⟩,⟨0,[]⟩,0,0,[],[],(dH s.cap s.da.length).1,[],[]⟩
def kH:List bJ->Bk->List (List Int)->List (Int×Answer)->Nat->List Answer->Bk×List (List Int)×List Answer
 |[],b,days,_,_,out=>(b,days,out)
 |d::l,b,days,told,cl,out=>kH l (fH b days told cl d).1 (fH b days told cl d).2.1 (fH b days told cl d).2.2.1 (fH b days told cl d).2.2.2.1 (out++[(fH b days told cl d).2.2.2.2])
theorem yr {l:List bJ} {q:Nat} {d:bJ} {b:Bk} {days:List (List Int)} {told:List (Int×Answer)} {cl:Nat} {out:List Answer} (h:l[q]?=some d):
  kH (l.drop q) b days told cl out=kH (l.drop (q+1)) (fH b days told cl d).1 (fH b days told cl d).2.1 (fH b days told cl d).2.2.1 (fH b days told cl d).2.2.2.1 (out++[(fH b days told cl d).2.2.2.2]):=by
 obtain ⟨hq,rfl⟩:=List.getElem?_eq_some_iff.1 h
 rw [List.drop_eq_getElem_cons hq];rfl
def iJ (s:Setup) (l:List bJ):Bk×List (List Int)×List Answer×dc:=
 if (eC s).err≠0 then (yx,[],[],eC s) else if l.length > 150 then (yx,[],[],⟨5,0⟩)
 else ((kH l (iB s) [] [] 0 []).1,(kH l (iB s) [] [] 0 []).2.1,(kH l (iB s) [] [] 0 []).2.2,⟨0,0⟩)
theorem yC {time:Int} {l:List bC} {q:Nat} {a:bC} {al:List bD} {au:List bC} {e:Int} (h:l[q]?=some a):fv time (l.drop q) q al au e=
  fv time (l.drop (q+1)) (q+1) (cJ al e a.aO (bR (ep a time) - bR a) 0).1 (au.set q (ep a time)) (cJ al e a.aO (bR (ep a time) - bR a) 0).2:=by
 obtain ⟨hq,rfl⟩:=List.getElem?_eq_some_iff.1 h
 rw [List.drop_eq_getElem_cons hq];rfl
theorem fb (l:List bD) (e k held bE:Int):(cJ l e k held bE).1.length=l.length:=by
 unfold cJ
 split
 ·rfl
 ·split<;>simp
theorem xI {a:bC} {t:Int} (h:bM a=0):bM (ep a t)=0:=by
 unfold bM at h ⊢;unfold ep;exact h
theorem oY {a:bC} (h:bM a=0):0<=bR a/\bR a<=1000000:=by
 have:=eM h
 unfold bR;split<;>omega
structure cz (b:Bk):Prop where
 time:0<=b.time/\b.time<=1000000
 al:b.al.length<=8
 due:b.due.length<=8
 au:b.au.length+b.aY.aU.length<=30
 aS:b.aS.length<=100
 w0:b.w0.length<=60
 w1:b.w1.length<=60
 perm:∀ a∈b.au,bM a=0/\0<=a.aO/\a.aO < b.al.length/\0<=a.aE/\a.aE < b.due.length
 jx:∀ a∈b.aY.aU,0<=a.aO/\a.aO < b.al.length/\0<=a.aE/\a.aE < b.due.length
 k0:∀ t∈b.s0.kept,fj t.number/\0<=t.bd/\t.bd < b.au.length
 k1:∀ t∈b.s1.kept,fj t.number/\0<=t.bd/\t.bd < b.au.length
 right:∀ c∈b.al,cQ c=0
 l0:b.s0.kept.length<=40
 l1:b.s1.kept.length<=40
 p0:∀ p∈b.w0,p.seen < 0->fj p.cc.number/\0<=p.cc.bd/\p.cc.bd < b.au.length
 p1:∀ p∈b.w1,p.seen < 0->fj p.cc.number/\0<=p.cc.bd/\p.cc.bd < b.au.length
 n0:0<=b.n0
 n1:0<=b.n1
 calm:b.down=false->b.aY.aU=[]
theorem cz.tick {b:Bk} (h:cz b) {t:Int} (h0:0<=t) (h1:t<=1000000):cz {b with time:=t}:=
 ⟨⟨h0,h1⟩,h.al,h.due,h.au,h.aS,h.w0,h.w1,h.perm,h.jx,h.k0,h.k1,h.right,h.l0,h.l1,h.p0,h.p1,h.n0,h.n1,h.calm⟩
def zV (x:ew):Prop:=fj x.cG/\fj x.count/\fj x.sum
theorem yu:kg Try.prog 58 3 gR zV:=⟨fun _=>rfl,fun H enc w base spare held n cs y h=>by
  obtain ⟨hl,m,hF⟩:=pe Try.underlying58 h
  obtain ⟨⟨a0,q0,r0⟩,hF⟩:=eY (o:=0) (o':=1) hF (fT Try.underlying3) rfl (by kernel_rfl) rfl
  obtain ⟨⟨a1,q1,r1⟩,hF⟩:=eY (o:=1) (o':=2) hF (fT Try.underlying3) rfl (by kernel_rfl) rfl
  obtain ⟨⟨a2,q2,r2⟩,hF⟩:=eY (o:=2) (o':=3) hF (fT Try.underlying3) rfl (by kernel_rfl) rfl
  exact ⟨⟨a0,a1,a2⟩,r0 _ (r1 _ (r2 _ (nS (hl.trans (by kernel_rfl))))),q0,q1,q2⟩⟩
def zW (x:bJ):Prop:=fj x.id/\fj x.kind/\fj x.n/\fj x.aE/\fj x.move/\fj x.sum
theorem yv:kg Try.prog 27 6 dj zW:=⟨fun _=>rfl,fun H enc w base spare held n cs y h=>by
  obtain ⟨hl,m,hF⟩:=pe Try.underlying27 h
  obtain ⟨⟨a0,q0,r0⟩,hF⟩:=eY (o:=0) (o':=1) hF (fT Try.underlying3) rfl (by kernel_rfl) rfl
  obtain ⟨⟨a1,q1,r1⟩,hF⟩:=eY (o:=1) (o':=2) hF (fT Try.underlying3) rfl (by kernel_rfl) rfl
  obtain ⟨⟨a2,q2,r2⟩,hF⟩:=eY (o:=2) (o':=3) hF (fT Try.underlying3) rfl (by kernel_rfl) rfl
  obtain ⟨⟨a3,q3,r3⟩,hF⟩:=eY (o:=3) (o':=4) hF (fT Try.underlying3) rfl (by kernel_rfl) rfl
  obtain ⟨⟨a4,q4,r4⟩,hF⟩:=eY (o:=4) (o':=5) hF (fT Try.underlying3) rfl (by kernel_rfl) rfl
  obtain ⟨⟨a5,q5,r5⟩,hF⟩:=eY (o:=5) (o':=6) hF (fT Try.underlying3) rfl (by kernel_rfl) rfl
  exact ⟨⟨a0,a1,a2,a3,a4,a5⟩,r0 _ (r1 _ (r2 _ (r3 _ (r4 _ (r5 _ (nS (hl.trans (by kernel_rfl)))))))),q0,q1,q2,q3,q4,q5⟩⟩
def Fp (x:Setup):List D:=[.r 3 (x.da.map gR),dI x.gn,dI x.cap]
def Dk (x:Setup):Prop:=((∀ y∈x.da,zV y)/\x.da.length<=9223372036854775807)/\fj x.gn/\fj x.cap
theorem wI:kg Try.prog 55 3 Fp Dk:=⟨fun _=>rfl,fun H enc w base spare held n cs y h=>by
  obtain ⟨hl,m,hF⟩:=pe Try.underlying55 h
  obtain ⟨⟨a0,q0,r0⟩,hF⟩:=eY (o:=0) (o':=1) hF (qk Try.underlying53 (by kernel_rfl) (by decide) yu) rfl (by kernel_rfl) rfl
  obtain ⟨⟨a1,q1,r1⟩,hF⟩:=eY (o:=1) (o':=2) hF (fT Try.underlying3) rfl (by kernel_rfl) rfl
  obtain ⟨⟨a2,q2,r2⟩,hF⟩:=eY (o:=2) (o':=3) hF (fT Try.underlying3) rfl (by kernel_rfl) rfl
  exact ⟨⟨a0,a1,a2⟩,r0 _ (r1 _ (r2 _ (nS (hl.trans (by kernel_rfl))))),q0,q1,q2⟩⟩
theorem BF:kg Try.prog 27 6 dj zW:=yv

def aZ (b:Bk) (i j k m:Nat) (u v:CV):List CV:=[(cI b.time),(cB b.down),(.s i 0 6 b.al.length),(.s j 0 1 b.due.length),(.s k 0 8 b.au.length),(cI b.s0.bq),(ck b.s0.kept),(cI b.s1.bq),(ck b.s1.kept),(cI b.n0),(cI b.n1),(cV b.w0),(cV b.w1),(cI b.aY.cap),(df b.aY.used),(eb b.aY.aU),(.s m 0 4 b.aS.length),u,(cZ b.book),v]
def bm (x:Nat->Value):List CV:=[.d (.v (x 0)),.d (.v (x 1)),.d (.v (x 2)),.d (.v (x 3)),.d (.v (x 4)),.d (.v (x 5)),.d (.v (x 6)),.d (.v (x 7)),.d (.v (x 8)),.d (.v (x 9)),.d (.v (x 10)),.d (.v (x 11)),.d (.v (x 12)),.d (.v (x 13)),.d (.v (x 14)),.d (.v (x 15)),.d (.v (x 16)),.d (.v (x 17)),.d (.v (x 18)),.d (.v (x 19))]
def dD:List (Option CV):=[none,none,none,none,none,none,none,none,none,none,none,none,none,none,none,none,none,none,none,none]
def ji (b:Bk) (i j k m:Nat) (u v:Option CV):List (Option CV):=[some (cI b.time),some (cB b.down),some (.s i 0 6 b.al.length),some (.s j 0 1 b.due.length),some (.s k 0 8 b.au.length),some (cI b.s0.bq),some (ck b.s0.kept),some (cI b.s1.bq),some (ck b.s1.kept),some (cI b.n0),some (cI b.n1),some (cV b.w0),some (cV b.w1),some (cI b.aY.cap),some (df b.aY.used),some (eb b.aY.aU),some (.s m 0 4 b.aS.length),u,some (cZ b.book),v]


theorem wb (a b c:Int):Fn Try.prog 44 [(.g [(cI a),(cI b),(cI c)])] (aI (jI a b c)) []:=by
 refine Fn.mk' 31 [(0,(aG [(cI a),(cI b),(cI c)]))] Try.func44 rfl rfl rfl rfl ?_
 intro W0 T0
 refine ae aa 2 rfl ?_
 refine ag ?_
 refine cr 30 ((((((decide (a < 1))||(decide (a > 1000000)))||(decide (b < 0)))||(decide (b > 30)))||(decide (c < 0)))||(decide (c > 1000000000000))) ?_ ?_
 ·
  refine aw ?_
  refine ad aa 4 rfl ?_
  refine bK (t:=6) rfl (fun hb1=>?_) (fun hb1=>?_)
  ·
   have hb1':=of_decide_eq_true hb1
   refine ad aa 24 rfl ?_
   refine af ?_
   exact aF.bF 29 rfl rfl (by first|(simp [hb1];done)|(simp_all;done)|(exfalso;simp_all;done)|(simp_all;omega)) rfl
  have hb1':=of_decide_eq_false hb1
  refine ad aa 5 rfl ?_
  refine bK (t:=11) rfl (fun hb2=>?_) (fun hb2=>?_)
  ·
   have hb2':=of_decide_eq_true hb2
   refine ad aa 19 rfl ?_
   refine af ?_
   exact aF.bF 30 rfl rfl (by first|(simp [hb1,hb2];done)|(simp_all;done)|(exfalso;simp_all;done)|(simp_all;omega)) rfl
  have hb2':=of_decide_eq_false hb2
  refine ad aa 5 rfl ?_
  refine bK (t:=16) rfl (fun hb3=>?_) (fun hb3=>?_)
  ·
   have hb3':=of_decide_eq_true hb3
   refine ad aa 14 rfl ?_
   refine af ?_
   exact aF.bF 31 rfl rfl (by first|(simp [hb1,hb2,hb3];done)|(simp_all;done)|(exfalso;simp_all;done)|(simp_all;omega)) rfl
  have hb3':=of_decide_eq_false hb3
  refine ad aa 5 rfl ?_
  refine bK (t:=21) rfl (fun hb4=>?_) (fun hb4=>?_)
  ·
   have hb4':=of_decide_eq_true hb4
   refine ad aa 9 rfl ?_
   refine af ?_
   exact aF.bF 32 rfl rfl (by first|(simp [hb1,hb2,hb3,hb4];done)|(simp_all;done)|(exfalso;simp_all;done)|(simp_all;omega)) rfl
  have hb4':=of_decide_eq_false hb4
  refine ad aa 5 rfl ?_
  refine bK (t:=26) rfl (fun hb5=>?_) (fun hb5=>?_)
  ·
   have hb5':=of_decide_eq_true hb5
   refine ad aa 4 rfl ?_
   refine af ?_
   exact aF.bF 33 rfl rfl (by first|(simp [hb1,hb2,hb3,hb4,hb5];done)|(simp_all;done)|(exfalso;simp_all;done)|(simp_all;omega)) rfl
  have hb5':=of_decide_eq_false hb5
  refine ad aa 4 rfl ?_
  refine af ?_
  exact aF.bF 33 rfl rfl (by first|(simp [hb1,hb2,hb3,hb4,hb5];done)|(simp_all;done)|(exfalso;simp_all;done)|(simp_all;omega)) rfl
 refine aj rfl (fun hc6=>?_) (fun hc6=>?_)
 ·
  have hc6':=hc6;try simp only [bx,bV] at hc6'
  refine ae aa 1 rfl ?_
  refine aA ?_
  refine ax ?_
  refine aq aa [] 0 rfl rfl rfl rfl rfl rfl ?_ ?_
  ·(show aI _=aI _;unfold jI;rw [if_pos (by omega)])
  ·rfl
 have hc6':=hc6;try simp only [bx,bV] at hc6'
 refine aQ ?_
 refine ae aa 1 rfl ?_
 refine aA ?_
 refine aq aa [] 0 rfl rfl rfl rfl rfl rfl ?_ ?_
 ·(show aI _=aI _;unfold jI;rw [if_neg (by omega)])
 ·rfl

theorem wU (l:List de):Fn Try.prog 45 [(.c (eL l))] (aG [cI (cW l).1,cI (cW l).2]) []:=by
 refine Fn.mk' 53 [(0,(aC (eL l)))] Try.func45 rfl rfl rfl rfl ?_
 intro W0 T0
 refine dq 0 rfl (fun hlen0=>?_)
 refine ae aa 1 rfl ?_
 refine ag ?_
 refine aH aa 1 rfl ?_
 refine az (bP rfl rfl rfl rfl rfl Try.underlying59) rfl ?_
 refine ad aa 1 rfl ?_
 refine af ?_
 refine aj rfl (fun hc1=>?_) (fun hc1=>?_)
 ·
  have hc1':=of_decide_eq_true hc1
  refine ae aa 2 rfl ?_
  refine aA ?_
  refine ax ?_
  refine aq aa [0] 0 rfl rfl rfl rfl rfl rfl ?_ ?_
  ·(have h:cW l=(5,0):=by (unfold cW;rw [if_pos (by omega)]));rw [h];rfl
  ·rfl
 have hc1':=of_decide_eq_false hc1
 refine aQ ?_
 refine ag ?_
 refine aH aa 1 rfl ?_
 refine az (bP rfl rfl rfl rfl rfl Try.underlying59) rfl ?_
 refine ad aa 1 rfl ?_
 refine af ?_
 refine aR ?_
 refine ch (β:=Nat) (fun (q:Nat)=>⟨[(0,(aC (eL l))),(2,(aC (.p 0 0 0 0))),(9,(aC (eL l))),(10,(aI (↑l.length:Int))),(11,(aI (↑q:Int)))],[(0,(.box 50 [(cI 0),(cI 0)]))],1⟩) (fun (q:Nat)=>q<=l.length/\scan (ki l) 0 l.length=scan (ki l) q (l.length - q)) (fun (q:Nat)=>l.length - q) 0 ?_ ?_ ?_
 ·exact ⟨by omega,rfl⟩
 ·exact aF.bL id (by refine ⟨?_,?_,?_,?_,?_,trivial⟩<;>first|rfl|(simp only [ba];done)|(congr 3;omega)|(congr 4;omega)|(simp only [bb];rfl)) (⟨by first|rfl|(simp only [ba];done)|(congr 3;omega)|(congr 4;omega)|(simp only [bb];rfl),trivial⟩) rfl
 rintro q ⟨hi0_0,hi0_1⟩
 refine ae aa 1 rfl ?_
 refine ag ?_
 refine aj rfl (fun hc2=>?_) (fun hc2=>?_)
 ·
  have hc2':=of_decide_eq_true hc2
  refine aQ ?_
  refine ag ?_
  refine aR ?_
  refine aH aa 1 rfl ?_
  obtain ⟨x1,hx1⟩:=cg (xs:=l) (i:=q) (by first|omega|(simp;done)|(simp;omega))
  refine az (bX (i:=q) rfl rfl rfl Try.underlying59 hM (by first|omega|(simp;done)|(simp;omega)) (bj hx1)) rfl ?_
  refine ad aa 4 rfl ?_
  refine af ?_
  refine ag ?_
  refine cr 33 ((((decide (x1.time < 0))||(decide (x1.time > 1000000)))||(decide (x1.sum < 0)))||(decide (x1.sum > 1000000))) ?_ ?_
  ·
   refine aw ?_
   refine ad aa 4 rfl ?_
   refine bK (t:=19) rfl (fun hb3=>?_) (fun hb3=>?_)
   ·
    have hb3':=of_decide_eq_true hb3
    refine ad aa 14 rfl ?_
    refine af ?_
    exact aF.bF 19 rfl rfl (by first|(simp [hb3];done)|(simp_all;done)|(exfalso;simp_all;done)|(simp_all;omega)) rfl
   have hb3':=of_decide_eq_false hb3
   refine ad aa 5 rfl ?_
   refine bK (t:=24) rfl (fun hb4=>?_) (fun hb4=>?_)
   ·
    have hb4':=of_decide_eq_true hb4
    refine ad aa 9 rfl ?_
    refine af ?_
    exact aF.bF 20 rfl rfl (by first|(simp [hb3,hb4];done)|(simp_all;done)|(exfalso;simp_all;done)|(simp_all;omega)) rfl
   have hb4':=of_decide_eq_false hb4
   refine ad aa 5 rfl ?_
   refine bK (t:=29) rfl (fun hb5=>?_) (fun hb5=>?_)
   ·
    have hb5':=of_decide_eq_true hb5
    refine ad aa 4 rfl ?_
    refine af ?_
    exact aF.bF 21 rfl rfl (by first|(simp [hb3,hb4,hb5];done)|(simp_all;done)|(exfalso;simp_all;done)|(simp_all;omega)) rfl
   have hb5':=of_decide_eq_false hb5
   refine ad aa 4 rfl ?_
   refine af ?_
   exact aF.bF 21 rfl rfl (by first|(simp [hb3,hb4,hb5];done)|(simp_all;done)|(exfalso;simp_all;done)|(simp_all;omega)) rfl
  refine aj rfl (fun hc6=>?_) (fun hc6=>?_)
  ·
   have hc6':=hc6;try simp only [bx,bV] at hc6'
   refine ae aa 3 rfl ?_
   refine aA ?_
   refine ax ?_
   refine bp ?_
   refine ax ?_
   refine ax ?_
   refine bp ?_
   refine ax ?_
   refine aq aa [0] 0 rfl rfl rfl rfl rfl rfl ?_ ?_
   ·(have h:cW l=(3,(q:Int)):=by (unfold cW;rw [if_neg (by omega),hi0_1];exact iw (by omega) (show ki l q=3 by (unfold ki;simp only [hx1];rw [if_pos (by omega)])) (by decide)));rw [h];rfl
   ·rfl
  have hc6':=hc6;try simp only [bx,bV] at hc6'
  refine aQ ?_
  refine ag ?_
  rcases Bool.eq_false_or_eq_true (decide ((↑q:Int) > 0)) with hb7|hb7
  ·
   have hb7':=of_decide_eq_true hb7
   obtain ⟨x2,hx2⟩:=cg (xs:=l) (i:=(q) - 1) (by first|omega|(simp;done)|(simp;omega))
   refine aX [0,2,9,10,11,4,3] [1,0] mixed rfl rfl ?_
   refine ay (kn:=[(37,true)]) aa 5 rfl ⟨hb7,trivial⟩ ?_
   refine aP (n':=2) [40,38] [] rfl rfl (.inl ⟨(ah.yes rfl rfl rfl),aJ.cast (aK rfl rfl rfl (aL (by first|omega|(simp;done)|(simp;omega)))) rfl⟩) rfl ?_
   refine aP (n':=2) [39,41,38] [] rfl rfl (.inl ⟨(ah.yes rfl rfl rfl),aJ.cast (bX (i:=(q) - 1) rfl rfl rfl Try.underlying59 hM (by first|omega|(simp;done)|(simp;omega)) (bj hx2)) rfl⟩) rfl ?_
   refine ay (kn:=[]) aa 6 rfl trivial ?_
   refine bw [1,0] rfl rfl rfl rfl (by kernel_rfl) ?_
   refine af ?_
   refine aj rfl (fun hc8=>?_) (fun hc8=>?_)
   ·
    have hc8':=of_decide_eq_true hc8
    refine ae aa 3 rfl ?_
    refine aA ?_
    refine bp ?_
    refine ax ?_
    refine ax ?_
    refine bp ?_
    refine ax ?_
    refine aq aa [0] 0 rfl rfl rfl rfl rfl rfl ?_ ?_
    ·(have h:cW l=(2,(q:Int)):=by (unfold cW;rw [if_neg (by omega),hi0_1];exact iw (by omega) (show ki l q=2 by (unfold ki;simp only [hx1];rw [if_neg (by omega),if_pos (by refine ⟨by omega,?_⟩;rw [List.getD_eq_getElem?_getD,hx2];simp only [Option.getD_some];omega)])) (by decide)));rw [h];rfl
    ·rfl
   have hc8':=of_decide_eq_false hc8
   refine cE ?_
   refine bf ?_
   refine then_ok ?_
   refine aw ?_
   refine az (aK rfl rfl rfl (aL (by first|omega|(simp;done)|(simp;omega)))) rfl ?_
   refine ad aa 1 rfl ?_
   refine af ?_
   refine ⟨q+1,⟨by omega,by rw [hi0_1];exact mP (by omega) (by unfold ki;simp only [hx1];rw [if_neg (by omega),if_neg (by first|omega|(rw [List.getD_eq_getElem?_getD,hx2];simp only [Option.getD_some];omega))])⟩,by first|omega|(simp;done)|(simp;omega),aF.bL id (by refine ⟨?_,?_,?_,?_,?_,trivial⟩<;>first|rfl|(simp only [ba];done)|(congr 3;omega)|(congr 4;omega)|(simp only [bb];rfl)) (⟨by first|rfl|(simp only [ba];done)|(congr 3;omega)|(congr 4;omega)|(simp only [bb];rfl),trivial⟩) rfl⟩
  have hb7':=of_decide_eq_false hb7
  refine aX [0,2,9,10,11,4,3] [1,0] mixed rfl rfl ?_
  refine ay (kn:=[(37,false)]) aa 13 rfl ⟨hb7,trivial⟩ ?_
  refine bw [1,0] rfl rfl rfl rfl (by kernel_rfl) ?_
  refine af ?_
  refine aj rfl (fun hno=>by cases hno) (fun _=>?_)
  refine cE ?_
  refine bf ?_
  refine then_ok ?_
  refine aw ?_
  refine az (aK rfl rfl rfl (aL (by first|omega|(simp;done)|(simp;omega)))) rfl ?_
  refine ad aa 1 rfl ?_
  refine af ?_
  refine ⟨q+1,⟨by omega,by rw [hi0_1];exact mP (by omega) (by unfold ki;simp only [hx1];rw [if_neg (by omega),if_neg (by first|omega|(rw [List.getD_eq_getElem?_getD,hx2];simp only [Option.getD_some];omega))])⟩,by first|omega|(simp;done)|(simp;omega),aF.bL id (by refine ⟨?_,?_,?_,?_,?_,trivial⟩<;>first|rfl|(simp only [ba];done)|(congr 3;omega)|(congr 4;omega)|(simp only [bb];rfl)) (⟨by first|rfl|(simp only [ba];done)|(congr 3;omega)|(congr 4;omega)|(simp only [bb];rfl),trivial⟩) rfl⟩
 have hc2':=of_decide_eq_false hc2
 refine bT ?_
 refine aN ?_
 refine aN ?_
 refine bA ?_
 refine then_ok ?_
 refine ae aa 2 rfl ?_
 refine aA ?_
 refine aq aa [0] 0 rfl rfl rfl rfl rfl rfl ?_ ?_
 ·(have h:cW l=(0,0):=by (unfold cW;rw [if_neg (by omega),hi0_1,nv (by omega)]));rw [h];rfl
 ·rfl

theorem xe (l:List de) (fn:FuncId) (bn:List (List D)) (pr:de->Bool) (hp:∀ x:de,Fn Try.prog fn ([.g [cI x.time,cI x.sum]]++bn.map fun r=>GV.c (.q r 0)) (aB (pr x)) []) (hen:bo Try.prog fn) (r:Int) (hr:gZ pr l=r):Fn Try.prog 123 [(.c (eL l)),(.c (.d (.f fn bn)))] (.v (.c (cI r))) []:=by
 refine Fn.mk' 19 [(0,(aC (eL l))),(1,(aC (.d (.f fn bn))))] Try.func123 rfl rfl rfl rfl ?_
 intro W0 T0
 refine dq 0 rfl (fun hlen0=>?_)
 refine ae aa 1 rfl ?_
 refine ag ?_
 refine aH aa 1 rfl ?_
 refine az (bP rfl rfl rfl rfl rfl Try.underlying59) rfl ?_
 refine ad aa 1 rfl ?_
 refine af ?_
 refine aR ?_
 refine ch (β:=Nat) (fun (q:Nat)=>⟨[(0,(aC (eL l))),(1,(aC (.d (.f fn bn)))),(7,(aI (↑l.length:Int))),(8,(aI (↑q:Int)))],[],0⟩) (fun (q:Nat)=>q<=l.length/\(l.take q).all (fun y=>!pr y)=true) (fun (q:Nat)=>l.length - q) 0 ?_ ?_ ?_
 ·exact ⟨by omega,by simp⟩
 ·exact aF.bL id (by refine ⟨?_,?_,?_,?_,trivial⟩<;>first|rfl|(simp only [ba];done)|(congr 3;omega)|(congr 4;omega)|(simp only [bb];rfl)) (trivial) rfl
 rintro q ⟨hi0_0,hi0_1⟩
 refine ae aa 1 rfl ?_
 refine ag ?_
 refine aj rfl (fun hc1=>?_) (fun hc1=>?_)
 ·
  have hc1':=of_decide_eq_true hc1
  refine aQ ?_
  refine ag ?_
  refine aR ?_
  refine ae aa 2 rfl ?_
  refine aH aa 3 rfl ?_
  obtain ⟨x1,hx1⟩:=cg (xs:=l) (i:=q) (by first|omega|(simp;done)|(simp;omega))
  refine az (bX (i:=q) rfl rfl rfl Try.underlying59 hM (by first|omega|(simp;done)|(simp;omega)) (bj hx1)) rfl ?_
  refine ad aa 1 rfl ?_
  refine az (ig 0 (hp x1) hen rfl rfl rfl ⟨⟨_,rfl,.g ⟨.d _,.d _,trivial⟩⟩,trivial⟩ trivial trivial rfl rfl rfl rfl) rfl ?_
  refine af ?_
  refine aj rfl (fun hc2=>?_) (fun hc2=>?_)
  ·
   have hc2':=hc2;try simp only [bx,bV] at hc2'
   refine ae aa 2 rfl ?_
   refine aA ?_
   refine bp ?_
   refine ax ?_
   refine ax ?_
   refine bp ?_
   refine ax ?_
   have hX:gZ pr l=(↑q:Int):=by
     exact tS hi0_1 hx1 hc2
   rw [hX] at hr;clear hX
   subst hr
   refine aq aa [] 0 rfl rfl rfl rfl rfl rfl ?_ ?_
   all_goals first|rfl|(simp [aD];done)|(simp [aD];omega)
  have hc2':=hc2;try simp only [bx,bV] at hc2'
  refine cE ?_
  refine bf ?_
  refine then_ok ?_
  refine aw ?_
  refine az (aK rfl rfl rfl (aL (by first|omega|(simp;done)|(simp;omega)))) rfl ?_
  refine ad aa 1 rfl ?_
  refine af ?_
  refine ⟨q+1,⟨by omega,wx hi0_1 hx1 hc2⟩,by first|omega|(simp;done)|(simp;omega),aF.bL id (by refine ⟨?_,?_,?_,?_,trivial⟩<;>first|rfl|(simp only [ba];done)|(congr 3;omega)|(congr 4;omega)|(simp only [bb];rfl)) (trivial) rfl⟩
 have hc1':=of_decide_eq_false hc1
 refine bT ?_
 refine aN ?_
 refine aN ?_
 refine bA ?_
 refine then_ok ?_
 refine ae aa 1 rfl ?_
 refine aA ?_
 have hX:gZ pr l=(-1):=by
   exact vC (by rw [<-List.take_of_length_le (l:=l) (i:=q) (by omega)];exact hi0_1)
 rw [hX] at hr;clear hX
 subst hr
 refine aq aa [] 0 rfl rfl rfl rfl rfl rfl ?_ ?_
 all_goals first|rfl|(simp [aD];done)|(simp [aD];omega)
theorem wm (l:List de) (fn:FuncId) (bn:List (List D)) (pr:de->Bool) (hp:∀ x:de,Fn Try.prog fn ([.g [cI x.time,cI x.sum]]++bn.map fun r=>GV.c (.q r 0)) (aB (pr x)) []) (hen:bo Try.prog fn) (r:List de) (hr:dC pr l=r):cM Try.prog 117 [(.c (.s 0 0 2 l.length)),(.c (.d (.f fn bn)))] [(0,(pA l))] [] (.v (.c (.s 0 0 2 r.length))) [(0,(pA r))]:=by
 refine cM.mk 42 [(0,(aC (.s 0 0 2 l.length))),(1,(aC (.d (.f fn bn))))] 1 Try.func117 rfl rfl rfl rfl rfl rfl rfl rfl rfl ?_
 intro W0 F0 T0 pg
 refine gD 0 rfl (fun hlen0=>?_)
 have hic:=tT pr l
 have hib:gZ pr l<=l.length/\-1<=gZ pr l:=by rcases hic with ⟨h,_⟩|⟨i,h,h1,_⟩<;>omega
 refine ae aa 1 rfl ?_
 refine aH aa 2 rfl ?_
 obtain ⟨r0,hr0⟩:∃ (r0:Int),gZ pr l=r0:=⟨_,rfl⟩
 refine aT 1 [0] (ga 1 [0] (xe l fn bn pr hp hen r0 hr0) FU rfl rfl ⟨⟨_,rfl,.c (.s rfl (by decide) (by first|omega|(simp;done)|(simp;omega)))⟩,⟨_,rfl,.c (.d _)⟩,trivial⟩ rfl trivial rfl rfl rfl rfl) rfl ?_
 refine ad aa 1 rfl ?_
 refine af ?_
 refine ag ?_
 refine ae aa 2 rfl ?_
 refine aj rfl (fun hc1=>?_) (fun hc1=>?_)
 ·
  have hc1':=of_decide_eq_true hc1
  refine ae aa 2 rfl ?_
  refine aA ?_
  refine ax ?_
  have hX:dC pr l=l:=by
    rcases hic with ⟨_,h⟩|⟨i0,h,_⟩
    ·exact h
    ·exfalso;omega
  rw [hX] at hr;clear hX
  subst hr
  refine aq aa [0] 1 rfl rfl rfl rfl rfl rfl ?_ ?_
  all_goals first|rfl|(simp [aD];done)|(simp [aD];omega)
 have hc1':=of_decide_eq_false hc1
 refine aQ ?_
 refine ag ?_
 refine aH aa 1 rfl ?_
 refine az (aK rfl rfl rfl (aL (by first|omega|(simp;done)|(simp;omega)))) rfl ?_
 refine ad aa 1 rfl ?_
 refine af ?_
 refine aR ?_
 obtain ⟨i0,hi0,hil,x0,hx0,hp0,hk0⟩:∃ i:Nat,gZ pr l=i/\i < l.length/\∃ x,l[i]?=some x/\pr x=true/\dC pr (l.take i)=l.take i:=by
     rcases hic with ⟨h,_⟩|h
     ·exfalso;omega
     ·exact h
 obtain rfl:r0=(i0:Int):=by omega
 refine ch (β:=Nat×Nat×List de) (fun (p:Nat×Nat×List de)=>match p with|(j,i,c)=>⟨[(0,(aC (.s 0 0 2 l.length))),(1,(aC (.d (.f fn bn)))),(4,(aC cN)),(5,(aI (↑i:Int))),(6,(aI (↑j:Int)))],[(0,(pA c))],1⟩) (fun (p:Nat×Nat×List de)=>match p with|(j,i,c)=>ll pr l c i j) (fun (p:Nat×Nat×List de)=>match p with|(j,i,c)=>l.length - j) (i0+1,i0,l) ?_ ?_ ?_
 ·exact ll.start hx0 hp0 hk0
 ·exact aF.bL id (by refine ⟨?_,?_,?_,?_,?_,trivial⟩<;>first|rfl|(simp only [ba];done)|(congr 3;omega)|(congr 4;omega)|(simp only [bb];rfl)) (⟨by first|rfl|(simp only [ba];done)|(congr 3;omega)|(congr 4;omega)|(simp only [bb];rfl),trivial⟩) rfl
 rintro ⟨j,i,c⟩ hd
 have hdl:=hd.len;have hdi:=hd.ij;have hdj:=hd.jl
 refine ag ?_
 refine aH aa 2 rfl ?_
 refine az (dy rfl rfl rfl rfl rfl Try.underlying59) rfl ?_
 refine ad aa 1 rfl ?_
 refine af ?_
 refine aj rfl (fun hc2=>?_) (fun hc2=>?_)
 ·
  have hc2':=of_decide_eq_true hc2
  refine aQ ?_
  refine ag ?_
  refine aR ?_
  refine aH aa 2 rfl ?_
  refine az (bz (i:=j) rfl rfl rfl Try.underlying59 hM (by first|omega|(simp;done)|(simp;omega)) (by first|omega|(simp;done)|(simp;omega))) rfl ?_
  obtain ⟨x1,hx1⟩:=cg (xs:=c) (i:=j) (by first|omega|(simp;done)|(simp;omega))
  refine az (dr rfl rfl rfl Try.underlying125 rfl hM (bj hx1) rfl) rfl ?_
  refine ad aa 2 rfl ?_
  refine af ?_
  refine aH aa 2 rfl ?_
  refine az (ig 2 (hp x1) hen rfl rfl rfl ⟨⟨_,rfl,.g ⟨.d _,.d _,trivial⟩⟩,trivial⟩ trivial trivial rfl rfl rfl rfl) rfl ?_
  refine ad aa 1 rfl ?_
  refine af ?_
  refine aj rfl (fun hc3=>?_) (fun hc3=>?_)
  ·
   have hc3':=hc3;try simp only [bx,bV] at hc3'
   refine aH aa 3 rfl ?_
   refine az (bz (i:=i) rfl rfl rfl Try.underlying59 hM (by first|omega|(simp;done)|(simp;omega)) (by first|omega|(simp;done)|(simp;omega))) rfl ?_
   obtain ⟨x2,hx2⟩:=cg (xs:=c) (i:=i) (by first|omega|(simp;done)|(simp;omega))
   refine gw [1,0] (dS (ds:=[(dI x1.time),(dI x1.sum)]) rfl rfl rfl rfl rfl hM rfl (Nat.le_of_ble_eq_true rfl) (bj hx2) rfl (eU (x':=x1) rfl)) rfl ?_
   refine af ?_
   refine aw ?_
   refine ad aa 1 rfl ?_
   refine az (aK rfl rfl rfl (aL (by first|omega|(simp;done)|(simp;omega)))) rfl ?_
   refine ad aa 1 rfl ?_
   refine cf ?_
   refine bf ?_
   refine then_ok ?_
   refine aw ?_
   refine ad aa 1 rfl ?_
   refine az (aK rfl rfl rfl (aL (by first|omega|(simp;done)|(simp;omega)))) rfl ?_
   refine ad aa 1 rfl ?_
   refine af ?_
   refine ⟨(j+1,(i)+1,(c).set i x1),hd.cS hx1 (by simpa using hc3),by first|omega|(simp;done)|(simp;omega),aF.bL id (by refine ⟨?_,?_,?_,?_,?_,trivial⟩<;>first|rfl|(simp only [ba];done)|(congr 3;omega)|(congr 4;omega)|(simp only [bb];rfl)) (⟨by first|rfl|(simp only [ba];done)|(congr 3;omega)|(congr 4;omega)|(simp only [bb];rfl),trivial⟩) rfl⟩
  have hc3':=hc3;try simp only [bx,bV] at hc3'
  refine cE ?_
  refine bf ?_
  refine then_ok ?_
  refine aw ?_
  refine ad aa 1 rfl ?_
  refine az (aK rfl rfl rfl (aL (by first|omega|(simp;done)|(simp;omega)))) rfl ?_
  refine ad aa 1 rfl ?_
  refine af ?_
  refine ⟨(j+1,i,c),hd.skip hx1 (by simpa using hc3),by first|omega|(simp;done)|(simp;omega),aF.bL id (by refine ⟨?_,?_,?_,?_,?_,trivial⟩<;>first|rfl|(simp only [ba];done)|(congr 3;omega)|(congr 4;omega)|(simp only [bb];rfl)) (⟨by first|rfl|(simp only [ba];done)|(congr 3;omega)|(congr 4;omega)|(simp only [bb];rfl),trivial⟩) rfl⟩
 have hc2':=of_decide_eq_false hc2
 refine bT ?_
 refine aN ?_
 refine aN ?_
 refine bA ?_
 refine then_ok ?_
 refine aH aa 2 rfl ?_
 refine az (nO (l:=i) (h:=l.length) rfl Try.underlying59 hM rfl (.inr ⟨_,rfl,rfl⟩) (.inl ⟨rfl,rfl⟩) (by first|omega|(simp;done)|(simp;omega)) (by first|omega|(simp;done)|(simp;omega)) (by first|omega|(simp;done)|(simp;omega)) rfl) rfl ?_
 refine gw [0] (sO (rows':=(c.take i).map ia) oH FB rfl rfl rfl rfl rfl rfl rfl rfl rfl (by simp [List.map_take])) rfl ?_
 refine af ?_
 refine aH aa 2 rfl ?_
 refine az (nO (l:=0) (h:=i) rfl Try.underlying59 hM rfl (.inl ⟨rfl,rfl⟩) (.inr ⟨_,rfl,rfl⟩) (by first|omega|(simp;done)|(simp;omega)) (by first|omega|(simp;done)|(simp;omega)) (by first|omega|(simp;done)|(simp;omega)) rfl) rfl ?_
 refine ad aa 1 rfl ?_
 refine af ?_
 refine aA ?_
 have hX:dC pr l=(c.take i):=by
   have hdone:=hd.done (by omega)
   rw [<-hdone]
 rw [hX] at hr;clear hX
 subst hr
 refine aq aa [0] 1 rfl rfl rfl rfl rfl rfl ?_ ?_
 all_goals first|rfl|(simp [aD];done)|(simp [aD];omega)

theorem lf (p:ew) (e:Int) (hr:ft p=e):Fn Try.prog 44 [(.g [cI p.cG,cI p.count,cI p.sum])] (.v (.c (cI e))) []:=hr▸wb p.cG p.count p.sum
theorem pq (l:List de) (f:dc) (hr:fa l=f):Fn Try.prog 45 [.c (cR 2 (l.map ia))] (.v (.g [cI f.err,cI f.at_])) []:=hr▸wU l

theorem AX (x:de) (t:Int) (p:ew) (hb:-9223372036854775808<=t - p.cG/\t - p.cG<=9223372036854775807):Fn Try.prog 118 [(.g [(cI x.time),(cI x.sum)]),(.c (.q ([dI t]) 0)),(.c (.q ([dI p.cG,dI p.count,dI p.sum]) 0))] (aB (cw p t x)) []:=by
 refine Fn.mk' 12 [(0,(aG [(cI x.time),(cI x.sum)])),(1,(aC (.q ([dI t]) 0))),(2,(aC (.q ([dI p.cG,dI p.count,dI p.sum]) 0)))] Try.func118 rfl rfl rfl rfl ?_
 intro W0 T0
 refine ae aa 2 rfl ?_
 refine aH aa 5 rfl ?_
 refine az (aK rfl rfl rfl (aL (by first|omega|(simp;done)|(simp;omega)))) rfl ?_
 refine ad aa 2 rfl ?_
 refine af ?_
 refine aA ?_
 refine aq aa [] 0 rfl rfl rfl rfl rfl rfl ?_ ?_
 all_goals first|rfl|(simp [aD];done)|(simp [aD];omega)
theorem oz (p:ew) (l:List de) (t:Int) (hb:-9223372036854775808<=t - p.cG/\t - p.cG<=9223372036854775807) (hl:l.length * 16<=140737488355328) (r:List de) (hr:dM p l t=r):Fn Try.prog 112 [(.g [(cI p.cG),(cI p.count),(cI p.sum)]),(.c (eL l)),(.c (cI t))] (.v (.c (.s 0 0 2 r.length))) [(0,(pA r))]:=by
 refine Fn.mk' 11 [(0,(aG [(cI p.cG),(cI p.count),(cI p.sum)])),(1,(aC (eL l))),(2,(aI t))] Try.func112 rfl rfl rfl rfl ?_
 intro W0 T0
 refine dq 1 rfl (fun hlen1=>?_)
 refine ae aa 3 rfl ?_
 refine aH aa 1 rfl ?_
 refine aT 3 [2,1,0] (bU 2 (qx l (by first|omega|(simp;done)|(simp;omega))) CO rfl rfl ⟨⟨_,rfl,.c (.d _)⟩,trivial⟩ trivial ⟨(fun _ _ _ _=>trivial),trivial⟩ rfl rfl rfl rfl) rfl ?_
 refine az (Ay (ks:=[1,0]) rfl ⟨rfl,rfl,trivial⟩) rfl ?_
 obtain ⟨r0,hr0⟩:∃ (r0:List de),dC (cw p t) l=r0:=⟨_,rfl⟩
 refine aT 4 [3,1,0] (vO (bh [2]) (bh [3]) [0,1] (wm l 118 ([[(dI t)],[(dI p.cG),(dI p.count),(dI p.sum)]]) (cw p t) (fun x=>AX x t p hb) FY r0 hr0) FZ rfl rfl ⟨⟨_,rfl,.inl ⟨rfl,rfl⟩⟩,⟨_,rfl,.inr (.c (.fn ⟨⟨by decide,_,rfl⟩,⟨by decide,_,rfl⟩,trivial⟩))⟩,trivial⟩ ⟨rfl,trivial⟩ rfl rfl rfl rfl rfl rfl rfl rfl trivial ⟨(BJ _),trivial⟩ rfl rfl rfl rfl) rfl ?_
 refine ad aa 1 rfl ?_
 refine af ?_
 refine aA ?_
 have hX:dM p l t=r0:=by
   assumption
 rw [hX] at hr;clear hX
 subst hr
 refine aq aa [3] 1 rfl rfl rfl rfl rfl rfl ?_ ?_
 all_goals first|rfl|(simp [aD];done)|(simp [aD];omega)
end Go.Proofs.Ytegepioggeggaaa.Dev
