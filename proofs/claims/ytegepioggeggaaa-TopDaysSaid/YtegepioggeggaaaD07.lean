/- A part of the proof: PlSort, PlSort2, PlSort3, PlDay, PlDay2, PlBank, Bank0, Pace1, Pace2. No condition. -/
import Derived.Test.YtegepioggeggaaaD06
set_option linter.unusedVariables false
set_option linter.unusedSimpArgs false
set_option maxHeartbeats 1000000
set_option maxRecDepth 100000
namespace Go.Proofs.Ytegepioggeggaaa.Dev
open Go.RowKit
theorem jW {α:Type}:∀ l:List α,l=[]\/∃ A y,l=A++[y]
 |[]=>.inl rfl
 |x::l=>.inr (by
  rcases jW l with rfl|⟨A,y,rfl⟩
  ·exact ⟨[],x,rfl⟩
  ·exact ⟨x::A,y,rfl⟩)
def gP (a b:aj):Bool:=decide (a.aD < b.aD)||(decide (a.aD=b.aD) && decide (a.bc < b.bc))
def fM (a b:aj):Prop:=a.aD < b.aD\/(a.aD=b.aD/\a.bc<=b.bc)
def km (a b:aj):Bool:=decide (a.aD=b.aD) && decide (a.bc=b.bc)
def eW (l:List aj):Prop:=l.Pairwise fM
def Same (u v:List aj):Prop:=∀ k:aj,u.filter (km k)=v.filter (km k)
theorem qj {a b:aj}:gP a b=true↔(a.aD < b.aD\/(a.aD=b.aD/\a.bc < b.bc)):=by unfold gP;simp
theorem qk {a b:aj}:gP a b=false↔fM b a:=by
 unfold gP fM
 rw [Bool.or_eq_false_iff,decide_eq_false_iff_not,Bool.and_eq_false_iff,decide_eq_false_iff_not,decide_eq_false_iff_not]
 omega
theorem lx {a b:aj} (h:gP a b=true):fM a b:=by rw [qj] at h;unfold fM;omega
theorem oe (a:aj):fM a a:=by unfold fM;omega
theorem kb {a b c:aj} (h:fM a b) (h':fM b c):fM a c:=by unfold fM at *;omega
theorem wF {a b c:aj} (h:gP a b=true) (h':fM b c):gP a c=true:=by rw [qj] at *;unfold fM at *;omega
theorem Bs {a b c:aj} (h:fM a b) (h':gP b c=true):gP a c=true:=by rw [qj] at *;unfold fM at *;omega
theorem qd {a b:aj}:km a b=true↔(a.aD=b.aD/\a.bc=b.bc):=by unfold km;simp
theorem lT (a:aj):km a a=true:=by rw [qd];exact ⟨rfl,rfl⟩
theorem Same.refl (u:List aj):Same u u:=fun _=>rfl
theorem Same.symm {u v:List aj} (h:Same u v):Same v u:=fun k=>(h k).symm
theorem Same.trans {u v z:List aj} (h:Same u v) (h':Same v z):Same u z:=fun k=>(h k).trans (h' k)
theorem Same.app {u v u' v':List aj} (h:Same u u') (h':Same v v'):Same (u++v) (u'++v'):=fun k=>by rw [List.filter_append,List.filter_append,h k,h' k]
theorem Same.mem {u v:List aj} (h:Same u v) {x:aj}:x∈u↔x∈v:=by
 have h1:∀ l:List aj,x∈l.filter (km x)↔x∈l:=fun l=>by simp [lT]
 rw [<-h1 u,<-h1 v,h x]
theorem Same.perm {u v:List aj} (h:Same u v):u.Perm v:=by
 rw [List.perm_iff_count]
 intro x
 rw [<-List.count_filter (p:=km x) (l:=u) (lT x),<-List.count_filter (p:=km x) (l:=v) (lT x),h x]
theorem Same.len {u v:List aj} (h:Same u v):u.length=v.length:=h.perm.length_eq
theorem Same.comm {u v:List aj} (h:∀ x∈u,∀ y∈v,gP y x=true):Same (u++v) (v++u):=fun k=>by
 rw [List.filter_append,List.filter_append]
 by_cases hu:u.filter (km k)=[]
 ·rw [hu];simp
 ·by_cases hv:v.filter (km k)=[]
  ·rw [hv];simp
  ·exfalso
   obtain ⟨x,hx⟩:=List.exists_mem_of_ne_nil _ hu
   obtain ⟨y,hy⟩:=List.exists_mem_of_ne_nil _ hv
   rw [List.mem_filter] at hx hy
   have h1:=h x hx.1 y hy.1
   have h2:=qd.1 hx.2
   have h3:=qd.1 hy.2
   rw [qj] at h1
   omega
theorem eW.uniq:∀ {u v:List aj},eW u->eW v->Same u v->u=v
 |[],v,_,_,h=>by have:=h.len;exact (List.eq_nil_of_length_eq_zero this.symm).symm
 |x::u,[],_,_,h=>by have:=h.len;cases this
 |x::u,y::v,hu,hv,h=>by
  obtain ⟨hu1,hu2⟩:=List.pairwise_cons.1 hu
  obtain ⟨hv1,hv2⟩:=List.pairwise_cons.1 hv
  have h1:fM x y:=by
   rcases List.mem_cons.1 (h.mem.2 (List.mem_cons_self (a:=y) (l:=v))) with rfl|hm
   ·exact oe _
   ·exact hu1 y hm
  have h2:fM y x:=by
   rcases List.mem_cons.1 (h.mem.1 (List.mem_cons_self (a:=x) (l:=u))) with rfl|hm
   ·exact oe _
   ·exact hv1 x hm
  have h3:km x y=true:=by rw [qd];unfold fM at h1 h2;omega
  have h4:=h x
  rw [List.filter_cons,List.filter_cons,if_pos (lT x),if_pos h3] at h4
  obtain ⟨rfl,_⟩:=List.cons.inj h4
  have h5:Same u v:=fun k=>by
   have:=h k
   rw [List.filter_cons,List.filter_cons] at this
   split at this
   ·exact (List.cons.inj this).2
   ·exact this
  rw [eW.uniq hu2 hv2 h5]

def iv (d:List aj) (i j:Nat):List aj:=
 match d[i]?,d[j]? with
 |some x,some y=>(d.set i y).set j x
 |_,_=>d
theorem mj {d:List aj} {i j:Nat} {x y:aj} (hx:d[i]?=some x) (hy:d[j]?=some y):iv d i j=(d.set i y).set j x:=by unfold iv;rw [hx,hy]
theorem mH (d:List aj) (i j:Nat):(iv d i j).length=d.length:=by
 unfold iv;split<;>simp
theorem oW (s t u:List aj) (x y:aj) {i j:Nat} (hi:i=s.length) (hj:j=s.length+1+t.length):iv (s++x::(t++y::u)) i j=s++y::(t++x::u):=by
 subst hi hj
 have h1:(s++x::(t++y::u))[s.length]?=some x:=by simp
 have h2:(s++x::(t++y::u))[s.length+1+t.length]?=some y:=by
  rw [List.getElem?_append_right (by omega),show s.length+1+t.length - s.length=t.length+1 by omega,List.getElem?_cons_succ];simp
 rw [mj h1 h2,List.set_append_right _ _ (Nat.le_refl _),Nat.sub_self,List.set_cons_zero,List.set_append_right _ _ (by omega),show s.length+1+t.length - s.length=t.length+1 by omega,
  List.set_cons_succ,List.set_append_right _ _ (Nat.le_refl _),Nat.sub_self,List.set_cons_zero]
theorem zo (d:List aj) (i j:Nat):iv d i j=iv d j i:=by
 by_cases hij:i=j
 ·subst hij;rfl
 ·unfold iv
  cases hx:d[i]? with
  |none=>cases hy:d[j]?<;>rfl
  |some x=>
   cases hy:d[j]? with
   |none=>rfl
   |some y=>exact List.set_comm _ _ hij
theorem si (s t u:List aj) (x y:aj) {i j:Nat} (hi:i=s.length) (hj:j=s.length+1+t.length):iv (s++x::(t++y::u)) j i=s++y::(t++x::u):=by rw [zo];exact oW s t u x y hi hj

structure Part (d y:List aj) (a b:Nat):Prop where
 len:y.length=d.length
 l:y.take a=d.take a
 r:y.drop b=d.drop b
 s:eW ((y.drop a).take (b - a))
 m:Same d y
theorem Part.of {P X C R:List aj} {a b:Nat} (ha:P.length=a) (hb:b=a+X.length) (hs:eW C) (hm:Same X C):Part (P++X++R) (P++C++R) a b:=by
 subst ha hb
 have hl:=hm.len
 refine ⟨by simp [hl],by simp,?_,?_,((Same.refl P).app hm).app (Same.refl R)⟩
 ·have h1:∀ Z:List aj,Z.length=X.length->(P++Z++R).drop (P.length+X.length)=R:=fun Z hz=>by
   rw [<-hz,<-List.length_append,List.drop_left]
  rw [h1 C hl.symm,h1 X rfl]
 ·rw [List.append_assoc,List.drop_left,show P.length+X.length - P.length=C.length by omega,List.take_left];exact hs
theorem parts {d:List aj} {a b:Nat} (h:a<=b) (hb:b<=d.length):d=d.take a++(d.drop a).take (b - a)++d.drop b:=by
 have h1:d.drop b=(d.drop a).drop (b - a):=by rw [List.drop_drop];congr 1;omega
 rw [h1,List.append_assoc,List.take_append_drop,List.take_append_drop]

def jS (a:Nat):Nat->List aj->List aj
 |0,d=>d
 |j+1,d=>
  if a < j+1 then
   match d[j+1]?,d[j]? with
   |some x,some y=>if gP x y=true then jS a j (iv d (j+1) j) else d
   |_,_=>d
  else d
theorem rC {a j:Nat} {d:List aj} (h:¬a < j):jS a j d=d:=by
 cases j with
 |zero=>rfl
 |succ j=>unfold jS;rw [if_neg h]
theorem pF {a j:Nat} {d:List aj} {x y:aj} (hx:d[j]?=some x) (hy:d[j - 1]?=some y) (h:gP x y=false):jS a j d=d:=by
 cases j with
 |zero=>rfl
 |succ j=>
  unfold jS
  split
  ·rw [hx,show d[j]?=some y from hy];simp [h]
  ·rfl
theorem yS {a j:Nat} {d:List aj} {x y:aj} (ha:a < j) (hx:d[j]?=some x) (hy:d[j - 1]?=some y) (h:gP x y=true):jS a j d=jS a (j - 1) (iv d j (j - 1)):=by
 cases j with
 |zero=>omega
 |succ j=>
  conv=>lhs;unfold jS
  rw [if_pos ha,hx,show d[j]?=some y from hy]
  simp only [h,if_true]
  rfl
theorem wO (a:Nat):∀ (j:Nat) (d:List aj),(jS a j d).length=d.length
 |0,d=>rfl
 |j+1,d=>by
  unfold jS
  split
  ·split
   ·split
    ·rw [wO a j,mH]
    ·rfl
   ·rfl
  ·rfl
theorem wP (P:List aj) (x:aj):∀ (n:Nat) (A R:List aj),A.length=n->∃ A1 A2,A=A1++A2/\jS P.length (P.length+n) (P++A++x::R)=P++(A1++x::A2)++R/\(∀ y∈A2,gP x y=true)/\(∀ A0 y,A1=A0++[y]->fM y x)
 |0,A,R,hA=>by
  obtain rfl:=List.eq_nil_of_length_eq_zero hA
  refine ⟨[],[],rfl,?_,by simp,by simp⟩
  rw [rC (by omega)];simp
 |n+1,A,R,hA=>by
  obtain ⟨A',y,rfl⟩:∃ A' y,A=A'++[y]:=by
   rcases jW A with rfl|h
   ·cases hA
   ·exact h
  have hn:A'.length=n:=by simpa using hA
  have e1:P++(A'++[y])++x::R=(P++A')++y::([]++x::R):=by simp
  have h1:(P++(A'++[y])++x::R)[P.length+(n+1)]?=some x:=by
   rw [List.getElem?_append_right (by simp;omega),show P.length+(n+1) - (P++(A'++[y])).length=0 by simp;omega];rfl
  have h2:(P++(A'++[y])++x::R)[P.length+(n+1) - 1]?=some y:=by
   rw [e1,List.getElem?_append_right (by simp;omega),show P.length+(n+1) - 1 - (P++A').length=0 by simp;omega];rfl
  cases hc:gP x y with
  |true=>
   rw [yS (by omega) h1 h2 hc,show P.length+(n+1) - 1=P.length+n by omega,e1,si (P++A') [] R y x (by simp;omega) (by simp;omega)]
   obtain ⟨A1,A2,rfl,h3,h4,h5⟩:=wP P x n A' (y::R) hn
   refine ⟨A1,A2++[y],by simp,?_,?_,h5⟩
   ·rw [List.nil_append,h3];simp
   ·intro z hz
    rcases List.mem_append.1 hz with hz|hz
    ·exact h4 z hz
    ·rw [List.mem_singleton.1 hz];exact hc
  |false=>
   rw [pF h1 h2 hc]
   refine ⟨A'++[y],[],by simp,by simp,by simp,fun A0 z hz=>?_⟩
   obtain ⟨_,h⟩:=List.append_inj' hz rfl
   rw [<-List.cons.inj h|>.1]
   exact qk.1 hc
theorem gV {u v:List aj}:eW (u++v)↔eW u/\eW v/\∀ x∈u,∀ y∈v,fM x y:=List.pairwise_append
theorem vY {u:List aj} {y x:aj} (h:eW (u++[y])) (hx:fM y x):∀ z∈u++[y],fM z x:=fun z hz=>by
 rcases List.mem_append.1 hz with hz|hz
 ·exact kb ((gV.1 h).2.2 z hz y (List.mem_singleton.2 rfl)) hx
 ·rw [List.mem_singleton.1 hz];exact hx
theorem Bt {u:List aj} {x:aj} (h:eW u) (hl:∀ A0 y,u=A0++[y]->fM y x):∀ z∈u,fM z x:=by
 rcases jW u with rfl|⟨A',y,h'⟩
 ·simp
 ·rw [h'] at h ⊢;exact vY h (hl A' y h')
theorem Bo {A1 A2:List aj} {x:aj} (h:eW (A1++A2)) (h1:∀ z∈A1,fM z x) (h2:∀ z∈A2,gP x z=true):eW (A1++x::A2)/\Same (A1++A2++[x]) (A1++x::A2):=by
 obtain ⟨s1,s2,s3⟩:=gV.1 h
 refine ⟨gV.2 ⟨s1,List.pairwise_cons.2 ⟨fun y hy=>lx (h2 y hy),s2⟩,fun z hz y hy=>?_⟩,?_⟩
 ·rcases List.mem_cons.1 hy with rfl|hy
  ·exact h1 z hz
  ·exact s3 z hz y hy
 ·have:=(Same.refl A1).app (Same.comm (u:=A2) (v:=[x]) fun y hy z hz=>by rw [List.mem_singleton.1 hz];exact h2 y hy)
  simpa using this
theorem EY {B1 B2:List aj} {x:aj} (h:eW (B1++B2)) (h1:∀ z∈B1,gP z x=true) (h2:∀ z∈B2,fM x z):eW (B1++x::B2)/\Same (x::(B1++B2)) (B1++x::B2):=by
 obtain ⟨s1,s2,s3⟩:=gV.1 h
 refine ⟨gV.2 ⟨s1,List.pairwise_cons.2 ⟨h2,s2⟩,fun z hz y hy=>?_⟩,?_⟩
 ·rcases List.mem_cons.1 hy with rfl|hy
  ·exact lx (h1 z hz)
  ·exact s3 z hz y hy
 ·have:=(Same.comm (u:=[x]) (v:=B1) fun y hy z hz=>by rw [List.mem_singleton.1 hy];exact h1 z hz).app (Same.refl B2)
  simpa using this
def jH (a:Nat):Nat->List aj->List aj
 |0,d=>d
 |n+1,d=>jS a (a+1+n) (jH a n d)
theorem rB (a:Nat):∀ (n:Nat) (d:List aj),(jH a n d).length=d.length
 |0,_=>rfl
 |n+1,d=>by unfold jH;rw [wO,rB a n]
theorem wL (P X R:List aj):∀ n,n < X.length->∃ C,jH P.length n (P++X++R)=P++C++X.drop (n+1)++R/\eW C/\Same (X.take (n+1)) C
 |0,h=>by
  refine ⟨X.take 1,?_,?_,Same.refl _⟩
  ·unfold jH;rw [List.append_assoc P (X.take 1),List.take_append_drop]
  ·cases X with
   |nil=>cases h
   |cons x X=>exact List.pairwise_singleton _ _
 |n+1,h=>by
  obtain ⟨C,h1,h2,h3⟩:=wL P X R n (by omega)
  have hl:C.length=n+1:=by rw [<-h3.len,List.length_take];omega
  have e1:X.drop (n+1)=X[n+1]::X.drop (n+2):=List.drop_eq_getElem_cons h
  obtain ⟨A1,A2,rfl,h4,h5,h6⟩:=wP P X[n+1] (n+1) C (X.drop (n+2)++R) hl
  have h7:eW A1:=(gV.1 h2).1
  obtain ⟨h8,h9⟩:=Bo h2 (Bt h7 h6) h5
  refine ⟨A1++X[n+1]::A2,?_,h8,?_⟩
  ·unfold jH
   rw [h1,show P.length+1+n=P.length+(n+1) by omega,show P++(A1++A2)++X.drop (n+1)++R=P++(A1++A2)++X[n+1]::(X.drop (n+2)++R) by rw [List.append_assoc _ _ R,e1,List.cons_append],h4]
   simp
  ·rw [List.take_add_one,List.getElem?_eq_getElem h]
   exact (h3.app (Same.refl _)).trans h9
theorem uU {d:List aj} {a b:Nat} (h:a<=b) (hb:b<=d.length):Part d (jH a (b - (a+1)) d) a b:=by
 by_cases hab:a=b
 ·subst hab
  rw [show a - (a+1)=0 by omega]
  exact ⟨rfl,rfl,rfl,by rw [Nat.sub_self];exact List.Pairwise.nil,Same.refl _⟩
 ·have e:=parts h hb
  have h1:(d.take a).length=a:=by rw [List.length_take];omega
  have h2:((d.drop a).take (b - a)).length=b - a:=by rw [List.length_take,List.length_drop];omega
  obtain ⟨C,h3,h4,h5⟩:=wL (d.take a) ((d.drop a).take (b - a)) (d.drop b) (b - (a+1)) (by omega)
  rw [h1] at h3
  rw [<-e,List.drop_of_length_le (l:=(d.drop a).take (b - a)) (by omega),List.append_nil] at h3
  rw [List.take_of_length_le (l:=(d.drop a).take (b - a)) (by omega)] at h5
  have:=Part.of (P:=d.take a) (R:=d.drop b) (a:=a) (b:=b) h1 (by omega) h4 h5
  rwa [<-e,<-h3] at this

def dA (d:List aj) (i j:Nat):Bool:=
 match d[i]?,d[j]? with
 |some x,some y=>gP x y
 |_,_=>false
theorem gm {d:List aj} {i j:Nat} {x y:aj} (hx:d[i]?=some x) (hy:d[j]?=some y):dA d i j=gP x y:=by unfold dA;rw [hx,hy]
def fY (p:Nat->Bool) (i j:Nat):Nat:=
 if _h:i < j then if p ((i+j) / 2)=true then fY p ((i+j) / 2+1) j else fY p i ((i+j) / 2) else i
termination_by j - i
theorem eV {p:Nat->Bool} {i j:Nat} (h:¬i < j):fY p i j=i:=by rw [fY,dif_neg h]
theorem EH {p:Nat->Bool} {i j:Nat} (h:i < j) (hp:p ((i+j) / 2)=true):fY p i j=fY p ((i+j) / 2+1) j:=by rw [fY,dif_pos h,if_pos hp]
theorem EI {p:Nat->Bool} {i j:Nat} (h:i < j) (hp:p ((i+j) / 2)=false):fY p i j=fY p i ((i+j) / 2):=by rw [fY,dif_pos h,if_neg (by rw [hp];exact Bool.false_ne_true)]
theorem kX (p:Nat->Bool):∀ (n i j:Nat),j - i<=n->i<=j->i<=fY p i j/\fY p i j<=j/\(fY p i j=i\/p (fY p i j - 1)=true)/\(fY p i j=j\/p (fY p i j)=false)
 |0,i,j,hn,h=>by rw [eV (by omega)];exact ⟨Nat.le_refl _,h,.inl rfl,.inl (by omega)⟩
 |n+1,i,j,hn,h=>by
  by_cases hij:i < j
  ·cases hp:p ((i+j) / 2) with
   |true=>
    rw [EH hij hp]
    obtain ⟨h1,h2,h3,h4⟩:=kX p n ((i+j) / 2+1) j (by omega) (by omega)
    refine ⟨by omega,h2,?_,h4⟩
    rcases h3 with h3|h3
    ·right;rw [h3,Nat.add_sub_cancel];exact hp
    ·exact .inr h3
   |false=>
    rw [EI hij hp]
    obtain ⟨h1,h2,h3,h4⟩:=kX p n i ((i+j) / 2) (by omega) (by omega)
    refine ⟨h1,by omega,h3,?_⟩
    rcases h4 with h4|h4
    ·right;rw [h4];exact hp
    ·exact .inr h4
  ·rw [eV hij];exact ⟨Nat.le_refl _,h,.inl rfl,.inl (by omega)⟩
def oK (a:Nat):Nat->List aj->List aj
 |0,d=>d
 |n+1,d=>iv (oK a n d) (a+n) (a+n+1)
def oL (m:Nat):Nat->List aj->List aj
 |0,d=>d
 |n+1,d=>iv (oL m n d) (m - n) (m - n - 1)
theorem yN (a:Nat):∀ (n:Nat) (d:List aj),(oK a n d).length=d.length
 |0,_=>rfl
 |n+1,d=>by unfold oK;rw [mH,yN a n]
theorem yP (m:Nat):∀ (n:Nat) (d:List aj),(oL m n d).length=d.length
 |0,_=>rfl
 |n+1,d=>by unfold oL;rw [mH,yP m n]
theorem yO (P:List aj) (x:aj):∀ (n:Nat) (V R:List aj),V.length=n->oK P.length n (P++x::(V++R))=P++V++x::R
 |0,V,R,h=>by obtain rfl:=List.eq_nil_of_length_eq_zero h;simp [oK]
 |n+1,V,R,h=>by
  rcases jW V with rfl|⟨V',y,rfl⟩
  ·cases h
  ·have hn:V'.length=n:=by simpa using h
   unfold oK
   rw [show P++x::(V'++[y]++R)=P++x::(V'++(y::R)) by simp,yO P x n V' (y::R) hn]
   have:=oW (P++V') [] R x y (i:=P.length+n) (j:=P.length+n+1) (by simp;omega) (by simp;omega)
   rw [List.nil_append,List.nil_append] at this
   rw [this];simp
theorem yQ (P:List aj) (x:aj) (R:List aj):∀ (n:Nat) (U1 U2:List aj),U2.length=n->oL (P++U1++U2).length n (P++U1++U2++x::R)=P++U1++x::(U2++R)
 |0,U1,U2,h=>by obtain rfl:=List.eq_nil_of_length_eq_zero h;simp [oL]
 |n+1,U1,U2,h=>by
  cases U2 with
  |nil=>cases h
  |cons y U=>
   have hn:U.length=n:=by simpa using h
   unfold oL
   have e1:P++U1++y::U=P++(U1++[y])++U:=by simp
   rw [e1,yQ P x R n (U1++[y]) U hn]
   have:=si (P++U1) [] (U++R) y x (i:=(P++(U1++[y])++U).length - n - 1) (j:=(P++(U1++[y])++U).length - n) (by simp;omega) (by simp;omega)
   rw [List.nil_append,List.nil_append] at this
   rw [show P++(U1++[y])++x::(U++R)=P++U1++y::x::(U++R) by simp,this]
   simp
def gD (a b:Nat):Nat->List aj->List aj
 |0,d=>d
 |n+1,d=>iv (gD a b n d) (a+n) (b+n)
theorem jk (a b:Nat):∀ (n:Nat) (d:List aj),(gD a b n d).length=d.length
 |0,_=>rfl
 |n+1,d=>by unfold gD;rw [mH,jk a b n]
theorem mG (p:List aj):∀ (n:Nat) (x q y r:List aj) {b:Nat},x.length=n->y.length=n->b=p.length+n+q.length->gD p.length b n (p++(x++(q++(y++r))))=p++(y++(q++(x++r)))
 |0,x,q,y,r,b,hx,hy,_=>by obtain rfl:=List.eq_nil_of_length_eq_zero hx;obtain rfl:=List.eq_nil_of_length_eq_zero hy;rfl
 |n+1,x,q,y,r,b,hx,hy,hb=>by
  rcases jW x with rfl|⟨x',x1,rfl⟩
  ·cases hx
  rcases jW y with rfl|⟨y',y1,rfl⟩
  ·cases hy
  have h1:x'.length=n:=by simpa using hx
  have h2:y'.length=n:=by simpa using hy
  unfold gD
  have:=mG p n x' (x1::q) y' (y1::r) (b:=b) h1 h2 (by simp;omega)
  rw [show p++(x'++[x1]++(q++(y'++[y1]++r)))=p++(x'++(x1::q++(y'++y1::r))) by simp,this]
  have:=oW (p++y') (q++x') r x1 y1 (i:=p.length+n) (j:=b+n) (by simp;omega) (by simp;omega)
  rw [show p++(y'++(x1::q++(x'++y1::r)))=p++y'++x1::(q++x'++y1::r) by simp,this]
  simp
def jA (m:Nat) (i j:Nat) (d:List aj):List aj:=
 if _h:0 < i/\0 < j then
  if i=j then gD (m - i) m i d
  else if i > j then jA m (i - j) j (gD (m - i) m j d)
  else jA m i (j - i) (gD (m - i) (m+j - i) i d)
 else d
termination_by i+j
theorem AX {m i:Nat} {d:List aj} (hi:0 < i):jA m i i d=gD (m - i) m i d:=by rw [jA,dif_pos ⟨hi,hi⟩,if_pos rfl]
theorem AW {m i j:Nat} {d:List aj} (hj:0 < j) (h:i > j):jA m i j d=jA m (i - j) j (gD (m - i) m j d):=by rw [jA,dif_pos ⟨by omega,hj⟩,if_neg (by omega),if_pos h]
theorem AU {m i j:Nat} {d:List aj} (hi:0 < i) (h:i < j):jA m i j d=jA m i (j - i) (gD (m - i) (m+j - i) i d):=by rw [jA,dif_pos ⟨hi,by omega⟩,if_neg (by omega),if_neg (by omega)]
theorem tK:∀ (n:Nat) (P u v R:List aj) (m:Nat),u.length+v.length<=n->0 < u.length->0 < v.length->m=P.length+u.length->jA m u.length v.length (P++(u++(v++R)))=P++(v++(u++R))
 |0,P,u,v,R,m,hn,hu,hv,hm=>by omega
 |n+1,P,u,v,R,m,hn,hu,hv,hm=>by
  rcases Nat.lt_trichotomy u.length v.length with h|h|h
  ·rw [AU hu h]
   have e:v=v.take (v.length - u.length)++v.drop (v.length - u.length):=(List.take_append_drop _ _).symm
   have l1:(v.take (v.length - u.length)).length=v.length - u.length:=by rw [List.length_take];omega
   have l2:(v.drop (v.length - u.length)).length=u.length:=by rw [List.length_drop];omega
   generalize hv1:v.take (v.length - u.length)=v1 at e l1
   generalize hv2:v.drop (v.length - u.length)=v2 at e l2
   have h1:=mG P u.length u v1 v2 R (b:=m+v.length - u.length) rfl l2 (by omega)
   rw [show m - u.length=P.length by omega,show P++(u++(v++R))=P++(u++(v1++(v2++R))) by rw [e];simp,h1,<-l1]
   have h2:=tK n P v2 v1 (u++R) m (by omega) (by omega) (by omega) (by omega)
   rw [l2] at h2
   rw [h2,e];simp
  ·rw [<-h,AX hu,show m - u.length=P.length by omega]
   have h1:=mG P u.length u [] v R (b:=m) rfl h.symm (by simp;omega)
   simpa using h1
  ·rw [AW hv h]
   have e:u=u.take v.length++u.drop v.length:=(List.take_append_drop _ _).symm
   have l1:(u.take v.length).length=v.length:=by rw [List.length_take];omega
   have l2:(u.drop v.length).length=u.length - v.length:=by rw [List.length_drop]
   generalize hv1:u.take v.length=u1 at e l1
   generalize hv2:u.drop v.length=u2 at e l2
   have h1:=mG P v.length u1 u2 v R (b:=m) l1 rfl (by omega)
   rw [show m - u.length=P.length by omega,show P++(u++(v++R))=P++(u1++(u2++(v++R))) by rw [e];simp,h1,<-l2]
   have h2:=tK n (P++v) u2 u1 R m (by omega) (by omega) (by omega) (by simp;omega)
   rw [l1] at h2
   rw [show P++(v++(u2++(u1++R)))=P++v++(u2++(u1++R)) by simp,h2,e];simp
theorem ny:∀ (n m i j:Nat) (d:List aj),i+j<=n->(jA m i j d).length=d.length
 |0,m,i,j,d,h=>by rw [jA,dif_neg (by omega)]
 |n+1,m,i,j,d,h=>by
  rw [jA]
  split
  ·split
   ·rw [jk]
   ·split
    ·rw [ny n _ _ _ _ (by omega),jk]
    ·rw [ny n _ _ _ _ (by omega),jk]
  ·rfl
def er (d:List aj) (a m b:Nat):Nat:=
 if m > (a+b) / 2 then fY (fun c=>!dA d ((a+b) / 2+m - 1 - c) c) ((a+b) / 2+m - b) ((a+b) / 2)
 else fY (fun c=>!dA d ((a+b) / 2+m - 1 - c) c) a m
def fj (s m e:Nat) (d:List aj):List aj:=if s < m/\m < e then jA m (m - s) (e - m) d else d
def dK:Nat->Nat->Nat->Nat->List aj->List aj
 |0,_,_,_,d=>d
 |f+1,a,m,b,d=>
  if m - a=1 then oK a (fY (fun h=>dA d h a) m b - 1 - a) d
  else if b - m=1 then oL m (m - fY (fun h=>!dA d m h) a m) d
  else
   (fun s=>(fun e=>(fun d1=>(fun d2=>if (a+b) / 2 < e/\e < b then dK f ((a+b) / 2) e b d2 else d2)
    (if a < s/\s < (a+b) / 2 then dK f a s ((a+b) / 2) d1 else d1)) (fj s m e d)) ((a+b) / 2+m - s)) (er d a m b)
theorem lS (s m e:Nat) (d:List aj):(fj s m e d).length=d.length:=by unfold fj;split;exact ny _ _ _ _ _ (Nat.le_refl _);rfl
theorem eX:∀ (f a m b:Nat) (d:List aj),(dK f a m b d).length=d.length
 |0,_,_,_,_=>rfl
 |f+1,a,m,b,d=>by
  unfold dK
  split
  ·rw [yN]
  ·split
   ·rw [yP]
   ·dsimp only
    split
    ·rw [eX f]
     split
     ·rw [eX f,lS]
     ·rw [lS]
    ·split
     ·rw [eX f,lS]
     ·rw [lS]
theorem uT {a i:Nat} {d:List aj} (h:a+1<=i):jH a (i+1 - (a+1)) d=jS a i (jH a (i - (a+1)) d):=by
 rw [show i+1 - (a+1)=(i - (a+1))+1 by omega]
 conv=>lhs;unfold jH
 rw [show a+1+(i - (a+1))=i by omega]
theorem CZ {a k:Nat} {d:List aj} (h:a<=k):oK a (k+1 - a) d=iv (oK a (k - a) d) k (k+1):=by
 rw [show k+1 - a=(k - a)+1 by omega]
 conv=>lhs;unfold oK
 rw [show a+(k - a)=k by omega]
theorem Da {m k:Nat} {d:List aj} (h:k<=m) (h0:0 < k):oL m (m - (k - 1)) d=iv (oL m (m - k) d) k (k - 1):=by
 rw [show m - (k - 1)=(m - k)+1 by omega]
 conv=>lhs;unfold oL
 rw [show m - (m - k)=k by omega]
theorem mR {P X:List aj} {k n:Nat} (hn:n=P.length+k):(P++X)[n]?=X[k]?:=by
 subst hn;rw [List.getElem?_append_right (by omega),Nat.add_sub_cancel_left]
theorem le_last {B:List aj} {x:aj} (h:eW B) (hl:∀ A0 y,B=A0++[y]->gP y x=true):∀ z∈B,gP z x=true:=by
 rcases jW B with rfl|⟨A',y,h'⟩
 ·simp
 ·intro z hz
  have h1:=hl A' y h'
  rw [h'] at h hz
  rcases List.mem_append.1 hz with hz|hz
  ·exact Bs ((gV.1 h).2.2 z hz y (List.mem_singleton.2 rfl)) h1
  ·rw [List.mem_singleton.1 hz];exact h1
theorem Dv {B:List aj} {x:aj} (h:eW B) (hl:∀ y B0,B=y::B0->gP x y=true):∀ z∈B,gP x z=true:=by
 cases B with
 |nil=>simp
 |cons y B0=>
  intro z hz
  have h1:=hl y B0 rfl
  rcases List.mem_cons.1 hz with rfl|hz
  ·exact h1
  ·exact wF h1 ((List.pairwise_cons.1 h).1 z hz)
theorem Dw {B:List aj} {x:aj} (h:eW B) (hl:∀ y B0,B=y::B0->fM x y):∀ z∈B,fM x z:=by
 cases B with
 |nil=>simp
 |cons y B0=>
  intro z hz
  have h1:=hl y B0 rfl
  rcases List.mem_cons.1 hz with rfl|hz
  ·exact h1
  ·exact kb h1 ((List.pairwise_cons.1 h).1 z hz)
theorem wa {A:List aj} {y:aj} {A0:List aj} (h:A=A0++[y]):A[A.length - 1]?=some y:=by subst h;simp
theorem nP (l:List aj) (k:Nat) (h:k<=l.length):∃ u v,l=u++v/\u.length=k:=⟨l.take k,l.drop k,(List.take_append_drop k l).symm,by rw [List.length_take];omega⟩
theorem vb {U:List aj} {u:aj} (h:eW U) (hu:U[0]?=some u):∀ x∈U,fM u x:=by
 cases U with
 |nil=>simp
 |cons y U=>
  simp at hu;subst hu
  intro x hx
  rcases List.mem_cons.1 hx with rfl|hx
  ·exact oe _
  ·exact (List.pairwise_cons.1 h).1 x hx
theorem wI {V:List aj} {v:aj} (h:eW V) (hv:V[V.length - 1]?=some v):∀ y∈V,fM y v:=by
 rcases jW V with rfl|⟨A,z,rfl⟩
 ·simp
 ·simp at hv;subst hv
  exact vY h (oe _)
theorem get_some {V:List aj} {k:Nat} (h:k < V.length):∃ v,V[k]?=some v:=⟨V[k],List.getElem?_eq_getElem h⟩
theorem rn:∀ (f:Nat) (P A B R:List aj),A.length+B.length<=f->0 < A.length->0 < B.length->eW A->eW B->
  ∃ C,dK f P.length (P.length+A.length) (P.length+A.length+B.length) (P++(A++(B++R)))=P++(C++R)/\eW C/\Same (A++B) C
 |0,P,A,B,R,hf,ha,hb,_,_=>by omega
 |f+1,P,A,B,R,hf,ha,hb,sA,sB=>by
  obtain ⟨a,hea⟩:∃ a,a=P.length:=⟨_,rfl⟩
  obtain ⟨m,hem⟩:∃ m,m=P.length+A.length:=⟨_,rfl⟩
  obtain ⟨b,heb⟩:∃ b,b=P.length+A.length+B.length:=⟨_,rfl⟩
  rw [<-hea,show a+A.length=m by omega,show m+B.length=b by omega]
  unfold dK
  split
  ·
   rename_i h1
   obtain ⟨x,rfl⟩:∃ x,A=[x]:=by
    match A,ha,(by omega:A.length=1) with
    |[x],_,_=>exact ⟨x,rfl⟩
   have hl1:[x].length=1:=rfl
   obtain ⟨q1,q2,q3,q4⟩:=kX (fun h=>dA (P++([x]++(B++R))) h a) (b - m) m b (Nat.le_refl _) (by omega)
   generalize fY (fun h=>dA (P++([x]++(B++R))) h a) m b=i at q1 q2 q3 q4
   obtain ⟨B1,B2,rfl,hB1⟩:=nP B (i - m) (by omega)
   rw [List.length_append] at heb
   have gx:(P++([x]++(B1++B2++R)))[a]?=some x:=by rw [mR (k:=0) (by omega)];rfl
   have gB:∀ k,k < B1.length+B2.length->(P++([x]++(B1++B2++R)))[m+k]?=(B1++B2)[k]?:=fun k hk=>by
    rw [mR (k:=k+1) (by omega),List.cons_append,List.getElem?_cons_succ,List.nil_append,List.getElem?_append_left (by simp;omega)]
   obtain ⟨s1,s2,s3⟩:=gV.1 sB
   have w1:∀ z∈B1,gP z x=true:=le_last s1 fun A0 y hy=>by
    have hpos:0 < B1.length:=by rw [hy];simp
    rcases q3 with q3|q3
    ·omega
    ·have g1:=gB (B1.length - 1) (by omega)
     rw [List.getElem?_append_left (l₁:=B1) (by omega),wa hy,show m+(B1.length - 1)=i - 1 by omega] at g1
     have q3:dA (P++([x]++(B1++B2++R))) (i - 1) a=true:=q3
     rwa [gm g1 gx] at q3
   have w2:∀ z∈B2,fM x z:=Dw s2 fun y B0 hy=>by
    have hpos:0 < B2.length:=by rw [hy];simp
    rcases q4 with q4|q4
    ·omega
    ·have g1:=gB B1.length (by omega)
     have g2:B2[0]?=some y:=by rw [hy];rfl
     rw [List.getElem?_append_right (l₁:=B1) (Nat.le_refl _),Nat.sub_self,g2,show m+B1.length=i by omega] at g1
     have q4:dA (P++([x]++(B1++B2++R))) i a=false:=q4
     rw [gm g1 gx] at q4
     exact qk.1 q4
   obtain ⟨t1,t2⟩:=EY sB w1 w2
   refine ⟨B1++x::B2,?_,t1,t2⟩
   have h2:=yO P x B1.length B1 (B2++R) rfl
   rw [show i - 1 - a=B1.length by omega,hea,show P++([x]++(B1++B2++R))=P++x::(B1++(B2++R)) by simp,h2]
   simp
  ·split
   ·
    rename_i h0 h1
    obtain ⟨x,rfl⟩:∃ x,B=[x]:=by
     match B,hb,(by omega:B.length=1) with
     |[x],_,_=>exact ⟨x,rfl⟩
    have hl1:[x].length=1:=rfl
    obtain ⟨q1,q2,q3,q4⟩:=kX (fun h=>!dA (P++(A++([x]++R))) m h) (m - a) a m (Nat.le_refl _) (by omega)
    generalize fY (fun h=>!dA (P++(A++([x]++R))) m h) a m=i at q1 q2 q3 q4
    obtain ⟨A1,A2,rfl,hA1⟩:=nP A (i - a) (by omega)
    rw [List.length_append] at hem heb
    have gx:(P++(A1++A2++([x]++R)))[m]?=some x:=by rw [mR (k:=A1.length+A2.length) (by omega),mR (k:=0) (by simp)];rfl
    have gA:∀ k,k < A1.length+A2.length->(P++(A1++A2++([x]++R)))[a+k]?=(A1++A2)[k]?:=fun k hk=>by
     rw [mR (k:=k) (by omega),List.getElem?_append_left (by simp;omega)]
    obtain ⟨s1,s2,s3⟩:=gV.1 sA
    have w1:∀ z∈A1,fM z x:=Bt s1 fun A0 y hy=>by
     have hpos:0 < A1.length:=by rw [hy];simp
     rcases q3 with q3|q3
     ·omega
     ·have g1:=gA (A1.length - 1) (by omega)
      rw [List.getElem?_append_left (l₁:=A1) (by omega),wa hy,show a+(A1.length - 1)=i - 1 by omega] at g1
      have q3:(!dA (P++(A1++A2++([x]++R))) m (i - 1))=true:=q3
      rw [gm gx g1,Bool.not_eq_true'] at q3
      exact qk.1 q3
    have w2:∀ z∈A2,gP x z=true:=Dv s2 fun y B0 hy=>by
     have hpos:0 < A2.length:=by rw [hy];simp
     rcases q4 with q4|q4
     ·omega
     ·have g1:=gA A1.length (by omega)
      have g2:A2[0]?=some y:=by rw [hy];rfl
      rw [List.getElem?_append_right (l₁:=A1) (Nat.le_refl _),Nat.sub_self,g2,show a+A1.length=i by omega] at g1
      have q4:(!dA (P++(A1++A2++([x]++R))) m i)=false:=q4
      rw [gm gx g1,Bool.not_eq_false'] at q4
      exact q4
    obtain ⟨t1,t2⟩:=Bo sA w1 w2
    refine ⟨A1++x::A2,?_,t1,t2⟩
    have h2:=yQ P x R A2.length A1 A2 rfl
    rw [show (P++A1++A2).length=m by simp;omega] at h2
    rw [show m - i=A2.length by omega,show P++(A1++A2++([x]++R))=P++A1++A2++x::R by simp,h2]
    simp
   ·
    rename_i h0 h1
    obtain ⟨mid,hmid⟩:∃ mid,mid=(a+b) / 2:=⟨_,rfl⟩
    have hs:∃ s,er (P++(A++(B++R))) a m b=s/\a<=s/\s<=m/\s<=mid/\mid+m - s<=b/\
      (s=m\/s=mid\/dA (P++(A++(B++R))) (mid+m - 1 - s) s=true)/\(s=a\/mid+m - s=b\/dA (P++(A++(B++R))) (mid+m - s) (s - 1)=false):=by
     refine ⟨_,rfl,?_⟩
     unfold er
     rw [<-hmid]
     split
     ·obtain ⟨q1,q2,q3,q4⟩:=kX (fun c=>!dA (P++(A++(B++R))) (mid+m - 1 - c) c) (mid - (mid+m - b)) (mid+m - b) mid (Nat.le_refl _) (by omega)
      generalize fY (fun c=>!dA (P++(A++(B++R))) (mid+m - 1 - c) c) (mid+m - b) mid=s at q1 q2 q3 q4
      refine ⟨by omega,by omega,by omega,by omega,?_,?_⟩
      ·rcases q4 with q4|q4
       ·exact .inr (.inl q4)
       ·right;right;simpa using q4
      ·rcases q3 with q3|q3
       ·right;left;omega
       ·by_cases hs0:s=a
        ·exact .inl hs0
        ·right;right
         have q3:(!dA (P++(A++(B++R))) (mid+m - 1 - (s - 1)) (s - 1))=true:=q3
         rw [show mid+m - 1 - (s - 1)=mid+m - s by omega] at q3;simpa using q3
     ·obtain ⟨q1,q2,q3,q4⟩:=kX (fun c=>!dA (P++(A++(B++R))) (mid+m - 1 - c) c) (m - a) a m (Nat.le_refl _) (by omega)
      generalize fY (fun c=>!dA (P++(A++(B++R))) (mid+m - 1 - c) c) a m=s at q1 q2 q3 q4
      refine ⟨by omega,by omega,by omega,by omega,?_,?_⟩
      ·rcases q4 with q4|q4
       ·exact .inl q4
       ·right;right;simpa using q4
      ·rcases q3 with q3|q3
       ·exact .inl q3
       ·by_cases hs0:s=a
        ·exact .inl hs0
        ·right;right
         have q3:(!dA (P++(A++(B++R))) (mid+m - 1 - (s - 1)) (s - 1))=true:=q3
         rw [show mid+m - 1 - (s - 1)=mid+m - s by omega] at q3;simpa using q3
    obtain ⟨s,hs0,hs1,hs2,hs3,hs4,hs5,hs6⟩:=hs
    dsimp only
    rw [hs0,<-hmid]
    obtain ⟨A1,U,rfl,hA1⟩:=nP A (s - a) (by omega)
    rw [List.length_append] at hem heb ha hf
    obtain ⟨V,B2,rfl,hV⟩:=nP B (mid+m - s - m) (by omega)
    rw [List.length_append] at heb hb hf
    have gA:∀ k,k < A1.length+U.length->(P++(A1++U++(V++B2++R)))[a+k]?=(A1++U)[k]?:=fun k hk=>by
     rw [mR (k:=k) (by omega),List.getElem?_append_left (by simp;omega)]
    have gB:∀ k,k < V.length+B2.length->(P++(A1++U++(V++B2++R)))[m+k]?=(V++B2)[k]?:=fun k hk=>by
     rw [mR (k:=A1.length+U.length+k) (by omega),mR (k:=k) (by simp),List.getElem?_append_left (by simp;omega)]
    obtain ⟨a1,a2,a3⟩:=gV.1 sA
    obtain ⟨b1,b2,b3⟩:=gV.1 sB
    have w1:∀ x∈U,∀ y∈V,gP y x=true:=by
     intro x hx y hy
     have hU:0 < U.length:=List.length_pos_of_mem hx
     have hVp:0 < V.length:=List.length_pos_of_mem hy
     rcases hs5 with h5|h5|h5
     ·omega
     ·omega
     ·obtain ⟨v,hv⟩:=get_some (V:=V) (k:=V.length - 1) (by omega)
      obtain ⟨u,hu⟩:=get_some (V:=U) (k:=0) hU
      have g1:=gB (V.length - 1) (by omega)
      rw [List.getElem?_append_left (l₁:=V) (by omega),hv,show m+(V.length - 1)=mid+m - 1 - s by omega] at g1
      have g2:=gA A1.length (by omega)
      rw [List.getElem?_append_right (l₁:=A1) (Nat.le_refl _),Nat.sub_self,hu,show a+A1.length=s by omega] at g2
      rw [gm g1 g2] at h5
      exact wF (Bs (wI b1 hv y hy) h5) (vb a2 hu x hx)
    have w2:∀ x∈A1,∀ y∈B2,fM x y:=by
     intro x hx y hy
     have hAp:0 < A1.length:=List.length_pos_of_mem hx
     have hBp:0 < B2.length:=List.length_pos_of_mem hy
     rcases hs6 with h6|h6|h6
     ·omega
     ·omega
     ·obtain ⟨v,hv⟩:=get_some (V:=A1) (k:=A1.length - 1) (by omega)
      obtain ⟨u,hu⟩:=get_some (V:=B2) (k:=0) hBp
      have g1:=gB V.length (by omega)
      rw [List.getElem?_append_right (l₁:=V) (Nat.le_refl _),Nat.sub_self,hu,show m+V.length=mid+m - s by omega] at g1
      have g2:=gA (A1.length - 1) (by omega)
      rw [List.getElem?_append_left (l₁:=A1) (by omega),hv,show a+(A1.length - 1)=s - 1 by omega] at g2
      rw [gm g1 g2] at h6
      exact kb (wI a1 hv x hx) (kb (qk.1 h6) (vb b2 hu y hy))
    have hr:fj s m (mid+m - s) (P++(A1++U++(V++B2++R)))=P++(A1++(V++(U++(B2++R)))):=by
     unfold fj
     have e0:P++(A1++U++(V++B2++R))=P++A1++(U++(V++(B2++R))):=by simp
     split
     ·have:=tK (U.length+V.length) (P++A1) U V (B2++R) m (Nat.le_refl _) (by omega) (by omega) (by simp;omega)
      rw [show m - s=U.length by omega,show mid+m - s - m=V.length by omega,e0,this];simp
     ·rcases (by omega:U.length=0\/V.length=0) with hz|hz
      ·obtain rfl:=List.eq_nil_of_length_eq_zero hz;simp
      ·obtain rfl:=List.eq_nil_of_length_eq_zero hz;simp
    rw [hr]
    have hL:∃ C1,(if a < s/\s < mid then dK f a s mid (P++(A1++(V++(U++(B2++R))))) else P++(A1++(V++(U++(B2++R)))))=P++(C1++(U++(B2++R)))/\eW C1/\Same (A1++V) C1:=by
     split
     ·obtain ⟨C1,c1,c2,c3⟩:=rn f P A1 V (U++(B2++R)) (by omega) (by omega) (by omega) a1 b1
      rw [<-hea,show a+A1.length=s by omega,show s+V.length=mid by omega] at c1
      exact ⟨C1,c1,c2,c3⟩
     ·rcases (by omega:A1.length=0\/V.length=0) with hz|hz
      ·obtain rfl:=List.eq_nil_of_length_eq_zero hz;exact ⟨V,by simp,b1,Same.refl _⟩
      ·obtain rfl:=List.eq_nil_of_length_eq_zero hz;exact ⟨A1,by simp,a1,by rw [List.append_nil];exact Same.refl _⟩
    obtain ⟨C1,c1,c2,c3⟩:=hL
    rw [c1]
    have hc1:C1.length=A1.length+V.length:=by rw [<-c3.len,List.length_append]
    have hR:∃ C2,(if mid < mid+m - s/\mid+m - s < b then dK f mid (mid+m - s) b (P++(C1++(U++(B2++R)))) else P++(C1++(U++(B2++R))))=P++(C1++(C2++R))/\eW C2/\Same (U++B2) C2:=by
     split
     ·obtain ⟨C2,d1,d2,d3⟩:=rn f (P++C1) U B2 R (by omega) (by omega) (by omega) a2 b2
      rw [List.length_append,show P.length+C1.length=mid by omega,show mid+U.length=mid+m - s by omega,show mid+m - s+B2.length=b by omega] at d1
      exact ⟨C2,by simpa using d1,d2,d3⟩
     ·rcases (by omega:U.length=0\/B2.length=0) with hz|hz
      ·obtain rfl:=List.eq_nil_of_length_eq_zero hz;exact ⟨B2,by simp,b2,Same.refl _⟩
      ·obtain rfl:=List.eq_nil_of_length_eq_zero hz;exact ⟨U,by simp,a2,by rw [List.append_nil];exact Same.refl _⟩
    obtain ⟨C2,d1,d2,d3⟩:=hR
    refine ⟨C1++C2,by rw [d1];simp,gV.2 ⟨c2,d2,?_⟩,?_⟩
    ·intro x hx y hy
     rcases List.mem_append.1 (c3.mem.2 hx) with hx|hx
     ·rcases List.mem_append.1 (d3.mem.2 hy) with hy|hy
      ·exact a3 x hx y hy
      ·exact w2 x hx y hy
     ·rcases List.mem_append.1 (d3.mem.2 hy) with hy|hy
      ·exact lx (w1 y hy x hx)
      ·exact b3 x hx y hy
    ·have e1:Same (A1++U++(V++B2)) (A1++(V++(U++B2))):=by
      have:=(Same.refl A1).app ((Same.comm w1).app (Same.refl B2))
      simpa using this
     have e2:=c3.app d3
     rw [List.append_assoc] at e2
     exact e1.trans e2
theorem AE {f:Nat} {d:List aj} {a m b:Nat} (h1:a < m) (h2:m < b) (h3:b<=d.length) (hf:b - a<=f) (sA:eW ((d.drop a).take (m - a))) (sB:eW ((d.drop m).take (b - m))):Part d (dK f a m b d) a b:=by
 have e1:=parts (d:=d) (a:=a) (b:=b) (by omega) h3
 have e2:(d.drop a).take (b - a)=(d.drop a).take (m - a)++(d.drop m).take (b - m):=by
  rw [show b - a=(m - a)+(b - m) by omega,List.take_add,List.drop_drop,show a+(m - a)=m by omega]
 have l1:(d.take a).length=a:=by rw [List.length_take];omega
 have l2:((d.drop a).take (m - a)).length=m - a:=by rw [List.length_take,List.length_drop];omega
 have l3:((d.drop m).take (b - m)).length=b - m:=by rw [List.length_take,List.length_drop];omega
 obtain ⟨C,c1,c2,c3⟩:=rn f (d.take a) ((d.drop a).take (m - a)) ((d.drop m).take (b - m)) (d.drop b) (by omega) (by omega) (by omega) sA sB
 rw [l1,l2,l3,show a+(m - a)=m by omega,show m+(b - m)=b by omega] at c1
 rw [<-e2] at c3
 rw [e2] at e1
 have e3:d.take a++((d.drop a).take (m - a)++((d.drop m).take (b - m)++d.drop b))=d:=by rw [<-List.append_assoc,<-List.append_assoc,List.append_assoc (d.take a)];exact e1.symm
 rw [e3] at c1
 have:=Part.of (P:=d.take a) (X:=(d.drop a).take (b - a)) (C:=C) (R:=d.drop b) (a:=a) (b:=b) l1 (by rw [List.length_take,List.length_drop];omega) c2 c3
 rwa [e2,<-e1,List.append_assoc,<-c1] at this
theorem tb {p:Nat->Bool} {i j h R:Nat} (hb:fY p i j=R) (hij:i < j) (hh:h=(i+j) / 2) (hp:p h=true):fY p (h+1) j=R:=by
 subst hh;rw [<-hb,EH hij hp]
theorem tc {p:Nat->Bool} {i j h R:Nat} (hb:fY p i j=R) (hij:i < j) (hh:h=(i+j) / 2) (hp:p h=false):fY p i h=R:=by
 subst hh;rw [<-hb,EI hij hp]
theorem ea {f a m b mid s e:Nat} {d d1 d2 d3:List aj} (h0:¬m - a=1) (h1:¬b - m=1) (hm:mid=(a+b) / 2) (hs:er d a m b=s) (he:mid+m - s=e) (hd1:fj s m e d=d1)
  (hd2:(if a < s/\s < mid then dK f a s mid d1 else d1)=d2) (hd3:(if mid < e/\e < b then dK f mid e b d2 else d2)=d3):dK (f+1) a m b d=d3:=by
 subst hm he hd1 hd2 hd3 hs
 rw [dK.eq_2,if_neg h0,if_neg h1]
def lG:List aj->aj->List aj
 |[],r=>[r]
 |x::l,r=>if gP r x=true then r::x::l else x::lG l r
def dJ (l:List aj):List aj:=l.foldl lG []
theorem wN {r z:aj}:∀ {l:List aj},z∈lG l r↔z=r\/z∈l
 |[]=>by simp [lG]
 |x::l=>by
  unfold lG
  split
  ·simp
  ·rw [List.mem_cons,wN,List.mem_cons]
   constructor
   ·rintro (h|h|h)
    ·exact .inr (.inl h)
    ·exact .inl h
    ·exact .inr (.inr h)
   ·rintro (h|h|h)
    ·exact .inr (.inl h)
    ·exact .inl h
    ·exact .inr (.inr h)
theorem wM {r:aj}:∀ {l:List aj},eW l->eW (lG l r)
 |[],_=>List.pairwise_singleton _ _
 |x::l,h=>by
  obtain ⟨h1,h2⟩:=List.pairwise_cons.1 h
  unfold lG
  split
  ·rename_i hc
   exact List.pairwise_cons.2 ⟨fun z hz=>by
    rcases List.mem_cons.1 hz with rfl|hz
    ·exact lx hc
    ·exact kb (lx hc) (h1 z hz),h⟩
  ·rename_i hc
   have hc:fM x r:=qk.1 (by simpa using hc)
   exact List.pairwise_cons.2 ⟨fun z hz=>by
    rcases wN.1 hz with rfl|hz
    ·exact hc
    ·exact h1 z hz,wM h2⟩
theorem uV {r:aj}:∀ {l:List aj},eW l->Same (l++[r]) (lG l r)
 |[],_=>Same.refl _
 |x::l,h=>by
  obtain ⟨h1,h2⟩:=List.pairwise_cons.1 h
  unfold lG
  split
  ·rename_i hc
   exact (Same.comm (u:=x::l) (v:=[r]) fun y hy z hz=>by
    rw [List.mem_singleton.1 hz]
    rcases List.mem_cons.1 hy with rfl|hy
    ·exact hc
    ·exact wF hc (h1 y hy))
  ·exact (Same.refl [x]).app (uV h2)
theorem rG:∀ (l acc:List aj),eW acc->eW (l.foldl lG acc)/\Same (acc++l) (l.foldl lG acc)
 |[],acc,h=>⟨h,by rw [List.append_nil];exact Same.refl _⟩
 |x::l,acc,h=>by
  obtain ⟨h1,h2⟩:=rG l (lG acc x) (wM h)
  refine ⟨h1,?_⟩
  have h3:=((uV (r:=x) h).app (Same.refl l)).trans h2
  simpa using h3
theorem oY (l:List aj):eW (dJ l):=(rG l [] List.Pairwise.nil).1
theorem ju (l:List aj):Same l (dJ l):=(rG l [] List.Pairwise.nil).2
theorem sj {l d:List aj} (h:eW d) (h':Same l d):dJ l=d:=eW.uniq (oY l) h ((ju l).symm.trans h')
theorem jV (l:List aj):(dJ l).length=l.length:=(ju l).len.symm
theorem AM {l:List aj} (h:l.length=0):dJ l=l:=by obtain rfl:=List.eq_nil_of_length_eq_zero h;rfl
theorem vZ {l:List aj} (h:eW l):dJ l=l:=sj h (Same.refl l)
def jY (d:List aj) (a s:Nat):List aj:=(d.drop a).take s
def uj (s a:Nat) (d:List aj):Prop:=(∃ q,a=q * s)/\∀ k,(k+1) * s<=a->eW (jY d (k * s) s)
def ui (s:Nat) (d:List aj):Prop:=∀ k,eW (jY d (k * s) s)
def nr (s a:Nat) (d:List aj):Prop:=uj (2 * s) a d/\∀ k,a<=k * s->eW (jY d (k * s) s)
theorem Part.FQ {d y:List aj} {a b:Nat} (h:Part d y a b) {c s:Nat} (hc:c+s<=a):jY y c s=jY d c s:=by
 have e:∀ z:List aj,jY z c s=((z.take a).drop c).take s:=fun z=>by
  unfold jY;rw [List.drop_take,List.take_take,Nat.min_eq_left (by omega)]
 rw [e y,e d,h.l]
theorem Part.IC {d y:List aj} {a b:Nat} (h:Part d y a b) {c s:Nat} (hc:b<=c):jY y c s=jY d c s:=by
 have e:∀ z:List aj,jY z c s=((z.drop b).drop (c - b)).take s:=fun z=>by
  unfold jY;rw [List.drop_drop,show b+(c - b)=c by omega]
 rw [e y,e d,h.r]
theorem yw {d:List aj} {a s:Nat} (h:d.length<=a):jY d a s=[]:=by unfold jY;rw [List.drop_of_length_le h];simp
theorem tH {d:List aj} {a s t:Nat} (hs:d.length<=a+s) (ht:d.length<=a+t):jY d a s=jY d a t:=by
 unfold jY;rw [List.take_of_length_le (by rw [List.length_drop];omega),List.take_of_length_le (by rw [List.length_drop];omega)]
theorem tD:eW []:=List.Pairwise.nil
theorem EX {k q s:Nat} (h:(k+1) * s<=q * s+s) (hs:0 < s):k<=q:=by
 rw [<-Nat.succ_mul] at h
 have:=Nat.le_of_mul_le_mul_right h hs
 omega
theorem sV {s:Nat} (hs:0 < s) {d:List aj}:uj s 0 d:=⟨⟨0,by simp⟩,fun k h=>by rw [Nat.succ_mul] at h;omega⟩
theorem vf {s a:Nat} {d y:List aj} (hs:0 < s) (h:uj s a d) (p:Part d y a (a+s)):uj s (a+s) y:=by
 obtain ⟨⟨q,hq⟩,h2⟩:=h
 refine ⟨⟨q+1,by rw [Nat.succ_mul,hq]⟩,fun k hk=>?_⟩
 subst hq
 have hkq:=EX hk hs
 by_cases e:k=q
 ·subst e
  have:=p.s
  rw [Nat.add_sub_cancel_left] at this
  exact this
 ·have h3:(k+1) * s<=q * s:=Nat.mul_le_mul_right s (by omega)
  rw [p.FQ (by rw [Nat.succ_mul] at h3;exact h3)]
  exact h2 k h3
theorem xi {s a:Nat} {d y:List aj} (hs:0 < s) (h:uj s a d) (ha:a<=y.length) (p:Part d y a y.length) (hn:y.length<=a+s):ui s y:=by
 obtain ⟨⟨q,rfl⟩,h2⟩:=h
 intro k
 rcases Nat.lt_trichotomy k q with e|e|e
 ·have h3:(k+1) * s<=q * s:=Nat.mul_le_mul_right s (by omega)
  rw [p.FQ (by rw [Nat.succ_mul] at h3;exact h3)]
  exact h2 k h3
 ·subst e
  have h3:=p.s
  rw [tH (t:=y.length - k * s) hn (by omega)]
  exact h3
 ·have h3:(q+1) * s<=k * s:=Nat.mul_le_mul_right s (by omega)
  rw [Nat.succ_mul] at h3
  rw [yw (by omega)];exact tD
theorem CJ {s:Nat} {d:List aj} (h:ui s d) (hs:d.length<=s):eW d:=by
 have:=h 0
 unfold jY at this
 rw [Nat.zero_mul,List.drop_zero,List.take_of_length_le hs] at this
 exact this
theorem zN {s:Nat} (hs:0 < s) {d:List aj} (h:ui s d):nr s 0 d:=⟨sV (by omega),fun k _=>h k⟩
theorem nr.mul {s a:Nat} {d:List aj} (h:nr s a d):∃ k,a=k * s:=by
 obtain ⟨q,hq⟩:=h.1.1
 exact ⟨q * 2,by rw [hq,Nat.mul_assoc]⟩
theorem Dh {s a:Nat} {d:List aj} (h:nr s a d):eW (jY d a s)/\eW (jY d (a+s) s):=by
 obtain ⟨k,hk⟩:=h.mul
 refine ⟨?_,?_⟩
 ·have:=h.2 k (by omega);rwa [<-hk] at this
 ·have:=h.2 (k+1) (by rw [Nat.succ_mul];omega);rwa [Nat.succ_mul,<-hk] at this
theorem BE {s a:Nat} {d y:List aj} (hs:0 < s) (h:nr s a d) (p:Part d y a (a+2 * s)):nr s (a+2 * s) y:=
 ⟨vf (by omega) h.1 p,fun k hk=>by rw [p.IC hk];exact h.2 k (by omega)⟩
theorem Di {s a:Nat} {d y:List aj} (hs:0 < s) (h:nr s a d) (ha:a<=y.length) (p:Part d y a y.length) (hn:y.length<=a+2 * s):ui (s * 2) y:=by
 rw [Nat.mul_comm];exact xi (by omega) h.1 ha p hn
theorem BF {s a:Nat} {d:List aj} (hs:0 < s) (h:nr s a d) (hn:d.length<=a+s):ui (s * 2) d:=by
 rw [Nat.mul_comm]
 obtain ⟨⟨⟨q,rfl⟩,h2⟩,h3⟩:=h
 intro k
 rcases Nat.lt_trichotomy k q with e|e|e
 ·exact h2 k (Nat.mul_le_mul_right _ (by omega))
 ·subst e
  rw [tH (t:=s) (by omega) hn]
  have:=h3 (k * 2) (by rw [Nat.mul_assoc];omega)
  rwa [Nat.mul_assoc] at this
 ·have h4:(q+1) * (2 * s)<=k * (2 * s):=Nat.mul_le_mul_right _ (by omega)
  rw [Nat.succ_mul] at h4
  rw [yw (by omega)];exact tD
theorem vU {s a b:Nat} {d:List aj} (hs:0 < s) (h:nr s a d) (h1:a+s < b) (h2:b<=d.length) (h3:b=a+2 * s\/(b=d.length/\b<=a+2 * s)):Part d (dK (b - a) a (a+s) b d) a b:=by
 obtain ⟨s1,s2⟩:=Dh h
 refine AE (by omega) h1 h2 (Nat.le_refl _) ?_ ?_
 ·rw [Nat.add_sub_cancel_left];exact s1
 ·rcases h3 with h3|⟨h3,h4⟩
  ·rw [show b - (a+s)=s by omega];exact s2
  ·have:=tH (d:=d) (a:=a+s) (s:=s) (t:=b - (a+s)) (by omega) (by omega)
   show eW (jY d (a+s) (b - (a+s)))
   rw [<-this];exact s2
def lJ (r:aj):Prop:=r.kind < 1\/r.kind > 8
def mA (r:aj):Prop:=r.aD < 0\/r.aD > 7\/r.bc < 0\/r.bc > 29\/r.sum < 1\/r.sum > 1000000
instance (r:aj):Decidable (lJ r):=by unfold lJ;infer_instance
instance (r:aj):Decidable (mA r):=by unfold mA;infer_instance
def nk:List aj->Int->dc
 |[],_=>⟨0,0⟩
 |r::l,i=>if lJ r then ⟨1,i⟩ else if mA r then ⟨3,i⟩ else nk l (i+1)
def eO (l:List aj):dc:=if l.length > 100 then ⟨5,0⟩ else nk l 0
theorem pn {l:List aj} {q:Nat} {x:aj} (h:l[q]?=some x):nk (l.drop q) q=if lJ x then ⟨1,q⟩ else if mA x then ⟨3,q⟩ else nk (l.drop (q+1)) ((q+1:Nat):Int):=by
 obtain ⟨hq,rfl⟩:=List.getElem?_eq_some_iff.1 h
 rw [List.drop_eq_getElem_cons hq];rfl
theorem AZ {l:List aj} {q:Nat} {i:Int} (h:l.length<=q):nk (l.drop q) i=⟨0,0⟩:=by rw [List.drop_of_length_le h];rfl
def nA (r:aj):Prop:=¬lJ r/\¬mA r
theorem yD:∀ {l:List aj} {i:Int},(nk l i).err=0↔∀ x∈l,nA x
 |[],i=>by simp [nk]
 |r::l,i=>by
  unfold nk
  split
  ·rename_i h
   simp only [List.mem_cons,forall_eq_or_imp]
   exact ⟨fun e=>absurd e (by decide),fun e=>absurd h e.1.1⟩
  ·split
   ·rename_i h
    simp only [List.mem_cons,forall_eq_or_imp]
    exact ⟨fun e=>absurd e (by decide),fun e=>absurd h e.1.2⟩
   ·rename_i h1 h2
    rw [yD]
    simp only [List.mem_cons,forall_eq_or_imp]
    exact ⟨fun e=>⟨⟨h1,h2⟩,e⟩,fun e=>e.2⟩
theorem jg {l:List aj}:(eO l).err=0↔l.length<=100/\∀ x∈l,nA x:=by
 unfold eO
 split
 ·exact ⟨fun e=>absurd e (by decide),fun e=>by omega⟩
 ·rw [yD];exact ⟨fun e=>⟨by omega,e⟩,fun e=>e.2⟩
theorem vI {x:aj} (h:nA x):0<=x.aD/\x.aD<=7/\0<=x.bc/\x.bc<=29/\1<=x.kind/\x.kind<=8/\1<=x.sum/\x.sum<=1000000:=by
 unfold nA lJ mA at h;omega
theorem qz {l:List aj}:(eO (dJ l)).err=0↔(eO l).err=0:=by
 rw [jg,jg,jV]
 exact and_congr_right fun _=>forall_congr' fun x=>by rw [(ju l).mem]
def lD (x:aj) (s:Int):Int:=if x.aD=s then (if x.kind=2\/x.kind=3 then x.sum else if x.kind=5\/x.kind=7 then - x.sum else 0) else 0
def fH:List aj->Int->Int
 |[],_=>0
 |x::l,s=>lD x s+fH l s
theorem mn (u v:List aj) (s:Int):fH (u++v) s=fH u s+fH v s:=by
 induction u with
 |nil=>simp [fH]
 |cons x u ih=>simp only [List.cons_append,fH,ih];omega
theorem nN {l:List aj} {q:Nat} {x:aj} (h:l[q]?=some x):l.take (q+1)=l.take q++[x]:=by
 rw [List.take_add_one,h];rfl
theorem ka {l:List aj} {q:Nat} {x:aj} {s:Int} (h:l[q]?=some x):fH (l.take (q+1)) s=fH (l.take q) s+lD x s:=by
 rw [nN h,mn];simp [fH]
theorem CY {l:List aj} {q:Nat} {s:Int} (h:l.length<=q):fH (l.take q) s=fH l s:=by rw [List.take_of_length_le h]
def iu (n:Int):Nat->List Int
 |0=>[]
 |k+1=>n / 256 ^ k % 256::iu n k
theorem me (n:Int):∀ k,(iu n k).length=k
 |0=>rfl
 |k+1=>by unfold iu;rw [List.length_cons,me n k]
theorem Ec {n:Int} {k:Nat} (h:1<=k):iu n k=n / 256 ^ (k - 1) % 256::iu n (k - 1):=by
 obtain ⟨j,rfl⟩:∃ j,k=j+1:=⟨k - 1,by omega⟩
 rfl
theorem Hk (n:Int):iu n 3=[n / 65536 % 256,n / 256 % 256,n % 256]:=by simp [iu]
theorem Jz (n:Int):iu n 4=[n / 16777216 % 256,n / 65536 % 256,n / 256 % 256,n % 256]:=by simp [iu]
theorem EU (k:Nat):(2:Int) ^ (8 * k)=256 ^ k:=by rw [Int.pow_mul];rfl
theorem Iz {k:Nat} {b n:Int} (h1:1<=k) (hb:b=8 * ((k:Int) - 1)):n / 2 ^ b.toNat=n / 256 ^ (k - 1):=by
 subst hb
 rw [show (8 * ((k:Int) - 1)).toNat=8 * (k - 1) by omega,EU]
def jG (x:aj):List Int:=[x.aD % 256,x.bc % 256,x.kind % 256]++iu x.sum 3
def eK:List aj->Int
 |[]=>0
 |x::l=>x.sum+eK l
theorem vV (u v:List aj):eK (u++v)=eK u+eK v:=by
 induction u with
 |nil=>simp [eK]
 |cons x u ih=>simp only [List.cons_append,eK,ih];omega
theorem AH {l:List aj} {q:Nat} {x:aj} (h:l[q]?=some x):eK (l.take (q+1))=eK (l.take q)+x.sum:=by
 rw [nN h,vV];simp [eK]
def gT (l r:List aj):List Int:=((l.length:Int) % 256)::r.flatMap jG
theorem zM {l r:List aj} {q:Nat} {x:aj} (h:r[q]?=some x):gT l (r.take (q+1))=gT l (r.take q)++jG x:=by
 unfold gT;rw [nN h,List.flatMap_append];simp
theorem CS (x:aj):(jG x).length=6:=by unfold jG;rw [List.length_append,me];rfl
theorem ke (l r:List aj):(gT l r).length=1+6 * r.length:=by
 unfold gT
 rw [List.length_cons]
 induction r with
 |nil=>rfl
 |cons x r ih=>rw [List.flatMap_cons,List.length_append,CS,List.length_cons];omega
def ei (l:List aj):List Int×dc:=if (eO l).err=0 then (gT l (dJ l)++iu (eK (dJ l)) 4,⟨0,0⟩) else ([],eO l)
def gq (l:List Int):Int:=l.foldl (fun n c=>n * 256+c) 0
theorem Bf {l:List Int} {q:Nat} {x:Int} (h:l[q]?=some x):gq (l.take (q+1))=gq (l.take q) * 256+x:=by
 unfold gq;rw [List.take_add_one,h,Option.toList_some,List.foldl_append];rfl
def fR:List Int->List aj
 |s::a::k::x::y::z::t=>⟨s,a,k,65536 * x+256 * y+z⟩::fR t
 |_=>[]
def gz (b:List Int):List aj×Int:=
 match b[0]? with
 |none=>([],2)
 |some c=>
  if b.length=5+6 * c.toNat then
   (fun l=>if (eO l).err=0 then (if eK l=gq (b.drop (b.length - 4))/\dJ l=l then (l,0) else ([],8)) else ([],(eO l).err)) (fR ((b.drop 1).take (6 * c.toNat)))
  else ([],2)
def oX (l:List aj):Bool:=decide (dJ l=l)
theorem yu:∀ {l:List aj},(∀ i,1<=i->∀ x y,l[i]?=some x->l[i - 1]?=some y->fM y x)->eW l
 |[],_=>tD
 |[x],_=>List.pairwise_singleton _ _
 |x::y::l,h=>by
  have h1:eW (y::l):=yu fun i hi a b ha hb=>h (i+1) (by omega) a b (by simpa using ha) (by
   obtain ⟨j,rfl⟩:∃ j,i=j+1:=⟨i - 1,by omega⟩
   simpa using hb)
  have h2:fM x y:=h 1 (by omega) y x rfl rfl
  refine List.pairwise_cons.2 ⟨fun z hz=>?_,h1⟩
  rcases List.mem_cons.1 hz with rfl|hz
  ·exact h2
  ·exact kb h2 ((List.pairwise_cons.1 h1).1 z hz)
theorem CF {l:List aj} {q:Nat} (hq:q<=1) (h:∀ i,q<=i->1<=i->∀ x y,l[i]?=some x->l[i - 1]?=some y->fM y x):oX l=true:=
 decide_eq_true (vZ (yu fun i hi=>h i (by omega) hi))
theorem EL {l:List aj} {q:Nat} {x y:aj} (hq:1<=q) (hx:l[q]?=some x) (hy:l[q - 1]?=some y) (h:gP x y=true):oX l=false:=by
 refine decide_eq_false fun e=>?_
 have hs:=oY l
 rw [e] at hs
 obtain ⟨h1,rfl⟩:=List.getElem?_eq_some_iff.1 hx
 obtain ⟨h2,rfl⟩:=List.getElem?_eq_some_iff.1 hy
 have:=List.pairwise_iff_getElem.1 hs (q - 1) q h2 h1 (by omega)
 rw [qj] at h;unfold fM at this;omega
theorem uE:∀ (k:Nat) (u v:List Int),u.length=6 * k->fR (u++v)=fR u++fR v
 |0,u,v,h=>by obtain rfl:=List.eq_nil_of_length_eq_zero h;rfl
 |k+1,u,v,h=>by
  match u,h with
  |s::a::k'::x::y::z::t,h=>
   have ht:t.length=6 * k:=by simp at h;omega
   show _::fR (t++v)=_::fR t++fR v
   rw [uE k t v ht,List.cons_append]
theorem qL {b:List Int} {c:Int} (h:b[0]?=some c) (hl:¬b.length=5+6 * c.toNat):gz b=([],2):=by
 unfold gz;rw [h];dsimp only;rw [if_neg hl]
theorem lu {b:List Int} {c:Int} {l:List aj} (h:b[0]?=some c) (hl:b.length=5+6 * c.toNat) (hr:l=fR ((b.drop 1).take (6 * c.toNat))):
  gz b=if (eO l).err=0 then (if eK l=gq (b.drop (b.length - 4))/\dJ l=l then (l,0) else ([],8)) else ([],(eO l).err):=by
 subst hr;unfold gz;rw [h];dsimp only;rw [if_pos hl]
theorem ES {x:aj} (h:nA x):jG x=[x.aD,x.bc,x.kind,x.sum / 65536,x.sum / 256 % 256,x.sum % 256]:=by
 have hb:=vI h
 unfold jG
 rw [Hk,Int.emod_eq_of_lt (by omega) (by omega),Int.emod_eq_of_lt (by omega) (by omega),Int.emod_eq_of_lt (by omega) (by omega),Int.emod_eq_of_lt (a:=x.sum / 65536) (by omega) (by omega)]
 rfl
theorem sE:∀ {l:List aj},(∀ x∈l,nA x)->fR (l.flatMap jG)=l
 |[],_=>rfl
 |x::l,h=>by
  rw [List.flatMap_cons,ES (h x List.mem_cons_self)]
  show _::fR (l.flatMap jG)=_
  rw [sE fun y hy=>h y (List.mem_cons_of_mem _ hy)]
  congr 1
  obtain ⟨s,a,k,n⟩:=x
  simp only [aj.mk.injEq,true_and]
  omega
theorem xb (l:List aj):(l.flatMap jG).length=6 * l.length:=by
 have:=ke l l;unfold gT at this;rw [List.length_cons] at this;omega
theorem FK {l:List aj} (h:∀ x∈l,nA x):0<=eK l/\eK l<=1000000 * (l.length:Int):=by
 induction l with
 |nil=>simp [eK]
 |cons x l ih=>
  have:=vI (h x List.mem_cons_self)
  have:=ih fun y hy=>h y (List.mem_cons_of_mem _ hy)
  simp only [eK,List.length_cons];omega
theorem EV {n:Int} (h:0<=n) (h':n < 4294967296):gq (iu n 4)=n:=by
 rw [Jz];simp [gq];omega
theorem uZ:∀ (k:Nat) {d:List Int},d.length=6 * k->(∀ x∈d,0<=x/\x<=255)->(fR d).flatMap jG=d/\(fR d).length=k
 |0,d,h,_=>by obtain rfl:=List.eq_nil_of_length_eq_zero h;exact ⟨rfl,rfl⟩
 |k+1,d,h,hb=>by
  match d,h,hb with
  |s::a::q::x::y::z::t,h,hb=>
   have ht:t.length=6 * k:=by simp at h;omega
   obtain ⟨h1,h2⟩:=uZ k ht fun c hc=>hb c (by simp [hc])
   have b1:=hb s (by simp);have b2:=hb a (by simp);have b3:=hb q (by simp);have b4:=hb x (by simp);have b5:=hb y (by simp);have b6:=hb z (by simp)
   refine ⟨?_,by show (fR t).length+1=_;rw [h2]⟩
   show (jG _++(fR t).flatMap jG)=_
   rw [h1]
   unfold jG
   rw [Hk]
   simp only [List.cons_append,List.nil_append,List.cons.injEq,and_true]
   omega
theorem pV {l:List aj} (h:(ei l).2.err=0):(eO l).err=0/\(ei l).1=gT l (dJ l)++iu (eK (dJ l)) 4:=by
 unfold ei at h ⊢
 split at h
 ·rename_i hw;rw [if_pos hw];exact ⟨hw,rfl⟩
 ·rename_i hw;exact absurd h hw
theorem xT {l:List aj} (h:(ei l).2.err=0):gz (ei l).1=(dJ l,0):=by
 obtain ⟨hw,hx⟩:=pV h
 obtain ⟨hl,hok⟩:=jg.1 hw
 have hs:∀ x∈dJ l,nA x:=fun x hx=>hok x ((ju l).mem.2 hx)
 have hsl:=jV l
 rw [hx]
 have hc:((l.length:Int) % 256)=l.length:=Int.emod_eq_of_lt (by omega) (by omega)
 have hlen:(gT l (dJ l)++iu (eK (dJ l)) 4).length=5+6 * l.length:=by rw [List.length_append,ke,me,hsl];omega
 have h0:(gT l (dJ l)++iu (eK (dJ l)) 4)[0]?=some (l.length:Int):=by unfold gT;rw [hc];rfl
 have hd:((gT l (dJ l)++iu (eK (dJ l)) 4).drop 1).take (6 * ((l.length:Int)).toNat)=(dJ l).flatMap jG:=by
  unfold gT
  rw [List.cons_append,List.drop_succ_cons,List.drop_zero,List.take_append_of_le_length (by rw [xb,hsl];simp),List.take_of_length_le (by rw [xb,hsl];simp)]
 have hsum:=FK hs
 have hd4:(gT l (dJ l)++iu (eK (dJ l)) 4).drop ((gT l (dJ l)++iu (eK (dJ l)) 4).length - 4)=iu (eK (dJ l)) 4:=by
  rw [hlen,List.drop_append_of_le_length (by rw [ke,hsl];omega),List.drop_of_length_le (by rw [ke,hsl];omega)];rfl
 rw [lu h0 (by rw [hlen];simp) (l:=dJ l) (by rw [hd,sE hs]),if_pos (qz.2 hw),if_pos]
 rw [hd4,EV hsum.1 (by rw [hsl] at hsum;omega)]
 exact ⟨rfl,vZ (oY l)⟩
theorem Bm {u v:List aj} (h:u.Perm v) (s:Int):fH u s=fH v s:=by
 induction h with
 |nil=>rfl
 |cons x _ ih=>simp only [fH,ih]
 |swap x y l=>simp only [fH];omega
 |trans _ _ h1 h2=>exact h1.trans h2
theorem uL (l:List aj) (s:Int):fH (dJ l) s=fH l s:=(Bm (ju l).perm s).symm
def dD (e err:Int):Int:=if e=0 then err else e
def dY (l:List Entry) (e src dst n:Int):List Entry×Int:=
 if dD e (jw l src dst n).2=0 then ((jw l src dst n).1,0) else (l,dD e (jw l src dst n).2)
def cG (l:List bE) (e k held bx:Int):List bE×Int:=
 match l[k.toNat]? with
 |none=>(l,e)
 |some c=>if dD e (ec c held bx).2=0 then (l.set k.toNat (ec c held bx).1,0) else (l,dD e (ec c held bx).2)
def eM (s:bX) (e:Int) (t:aT):bX×Int:=if dD e (fL s t).2=0 then ((fL s t).1,0) else (s,dD e (fL s t).2)
def iO (l:List aj) (e:Int) (r:aj):List aj×Int:=if l.length=100 then (l,dD e 5) else (l++[r],e)
theorem pb {l:List bE} {e k held bx:Int} {c:bE} (h:l[k.toNat]?=some c):cG l e k held bx=if dD e (ec c held bx).2=0 then (l.set k.toNat (ec c held bx).1,0) else (l,dD e (ec c held bx).2):=by
 unfold cG;rw [h]
def ef (ax:List bF) (due:List Int) (aw:List bE) (book:List Entry) (e:Int) (t:aT):List Int×List bE×List Entry×Int:=
 match ax[t.bc.toNat]? with
 |none=>(due,aw,book,e)
 |some a=>
  if t.kind=1 then (due.set a.aD.toNat (IntKind.i64.wrap (due.getD a.aD.toNat 0+t.sum)),aw,dY book e 1 (50+a.aD) t.sum)
  else if t.kind=2 then (due,(cG aw e a.aO 0 t.sum).1,dY book (cG aw e a.aO 0 t.sum).2 1 (10+a.aO) t.sum)
  else if t.kind=3 then (due.set a.aD.toNat (IntKind.i64.wrap (due.getD a.aD.toNat 0 - t.sum)),aw,dY book e (50+a.aD) 2 t.sum)
  else (due,aw,book,e)
structure Bk where (time:Int) (down:Bool) (aw:List bE) (due:List Int) (ax:List bF) (s0 s1:bX) (n0 n1:Int) (w0 w1:List cf) (bP:cF) (aR:List aj) (book:List Entry)
 deriving DecidableEq
def dL (b c:Bk) (e:Int):Bk×Answer:=if e=0 then (c,⟨0,0⟩) else (b,⟨e,0⟩)
def fT (b:Bk) (d:aW):Bk×Answer:=
 if d.n < 0\/d.n>=b.aw.length then (b,⟨6,0⟩)
 else if d.sum < 1\/d.sum > 1000000 then (b,⟨3,0⟩)
 else dL b {b with aw:=(cG b.aw 0 d.n 0 d.sum).1,book:=(dY b.book (cG b.aw 0 d.n 0 d.sum).2 0 (10+d.n) d.sum).1} (dY b.book (cG b.aw 0 d.n 0 d.sum).2 0 (10+d.n) d.sum).2
def iD (b:Bk) (d:aW):Bk×Answer:=
 if d.n < 0\/d.n>=b.due.length then (b,⟨6,0⟩)
 else if b.due.getD d.n.toNat 0<=0 then (b,⟨10,0⟩)
 else dL b {b with due:=b.due.set d.n.toNat 0,book:=(dY b.book 0 (50+d.n) 0 (b.due.getD d.n.toNat 0)).1} (dY b.book 0 (50+d.n) 0 (b.due.getD d.n.toNat 0)).2
def gb (time:Int):List bF->Nat->List bE->List bF->Int->List bE×List bF×Int
 |[],_,aw,ax,e=>(aw,ax,e)
 |a::l,i,aw,ax,e=>gb time l (i+1) (cG aw e a.aO (bB (ew a time) - bB a) 0).1 (ax.set i (ew a time)) (cG aw e a.aO (bB (ew a time) - bB a) 0).2
def iw (b:Bk):Bk:=if (gb b.time b.ax 0 b.aw b.ax 0).2.2=0 then {b with aw:=(gb b.time b.ax 0 b.aw b.ax 0).1,ax:=(gb b.time b.ax 0 b.aw b.ax 0).2.1} else b
def fF (b:Bk) (d:aW):Bk×Answer:=
 if d.sum < 0\/d.sum > 1000000 - b.time then (b,⟨3,0⟩)
 else (if b.down=true then {b with time:=b.time+d.sum} else iw {b with time:=b.time+d.sum},⟨0,0⟩)
def gY (l:List cf) (ks:List aT) (n:Int):List cf:=l++ks.map (fun t=>⟨t,-1⟩)++[⟨⟨0,0,0,0⟩,n⟩]
def iI (w:List cf) (ks:List aT) (n:Int):List cf×Answer:=if (gY w ks n).length > 60 then (w,⟨5,0⟩) else (gY w ks n,⟨0,0⟩)
def eL (s0 s1:bX) (n0 n1:Int) (w0 w1:List cf) (d:aW):List cf×List cf×Answer:=
 if d.n=0 then (w0,iI w1 s0.kept n0) else if d.n=1 then ((iI w0 s1.kept n1).1,w1,(iI w0 s1.kept n1).2) else (w0,w1,⟨6,0⟩)
def iM (aR:List aj) (days:List (List Int)):List aj×List (List Int)×Answer:=
 if (ei aR).2.err≠0 then (aR,days,⟨(ei aR).2.err,0⟩) else ([],days++[(ei aR).1],⟨0,0⟩)
def gZ (e:Int):Int:=if e=10 then 12 else e
def dN (b:Bk) (d:aW):Bk×Answer:=
 if d.n < 0\/d.n>=b.aw.length\/d.aD < 0\/d.aD>=b.due.length then (b,⟨6,0⟩)
 else if b.down=true then
  (if gZ (cu b.bP ⟨d.n,d.aD,d.sum,b.time⟩).2=0/\(b.ax.length:Int)+(cu b.bP ⟨d.n,d.aD,d.sum,b.time⟩).1.bg.length > 30 then (b,⟨5,0⟩)
  else if gZ (cu b.bP ⟨d.n,d.aD,d.sum,b.time⟩).2≠0 then (b,⟨gZ (cu b.bP ⟨d.n,d.aD,d.sum,b.time⟩).2,0⟩)
  else ({b with bP:=(cu b.bP ⟨d.n,d.aD,d.sum,b.time⟩).1},⟨0,(b.ax.length:Int)+(cu b.bP ⟨d.n,d.aD,d.sum,b.time⟩).1.bg.length - 1⟩))
 else if (di d.n d.aD d.sum b.time).2=0/\b.ax.length=30 then (b,⟨5,0⟩)
 else if (di d.n d.aD d.sum b.time).2≠0 then (b,⟨(di d.n d.aD d.sum b.time).2,0⟩)
 else match b.aw[d.n.toNat]? with
  |none=>(b,⟨0,0⟩)
  |some c=>
   if (dO c d.sum b.time).2≠0 then (b,⟨(dO c d.sum b.time).2,0⟩)
   else ({b with aw:=b.aw.set d.n.toNat (dO c d.sum b.time).1,ax:=b.ax++[(di d.n d.aD d.sum b.time).1]},⟨0,b.ax.length⟩)
theorem vw (s:cF) (a:cm):(cu s a).1.bg.length<=s.bg.length+1:=by
 unfold cu;(repeat' split)<;>simp [fV]
def lz (aw:List bE) (k:Int):Int:=
 match aw[k.toNat]? with
 |none=>0
 |some c=>c.bx - c.held
def dS (b:Bk) (a cC:bF) (d:aW):List bE×List Int×List Entry×bX×bX×Int:=
 if d.move=1\/d.move=4 then ((cG b.aw 0 a.aO (bB a - bB cC) 0).1,b.due,b.book,b.s0,b.s1,(cG b.aw 0 a.aO (bB a - bB cC) 0).2)
 else if d.move=2\/d.move=3 then
  ((cG b.aw 0 a.aO (bB a - bB cC) (0 - d.sum)).1,b.due,(dY b.book (cG b.aw 0 a.aO (bB a - bB cC) (0 - d.sum)).2 (10+a.aO) 1 d.sum).1,
   (eM b.s0 (dY b.book (cG b.aw 0 a.aO (bB a - bB cC) (0 - d.sum)).2 (10+a.aO) 1 d.sum).2 ⟨0,1,d.n,d.sum⟩).1,b.s1,
   (eM b.s0 (dY b.book (cG b.aw 0 a.aO (bB a - bB cC) (0 - d.sum)).2 (10+a.aO) 1 d.sum).2 ⟨0,1,d.n,d.sum⟩).2)
 else if d.move=5 then
  (b.aw,b.due.set a.aD.toNat (IntKind.i64.wrap (b.due.getD a.aD.toNat 0 - d.sum)),(dY b.book 0 (50+a.aD) 1 d.sum).1,b.s0,(eM b.s1 (dY b.book 0 (50+a.aD) 1 d.sum).2 ⟨0,2,d.n,d.sum⟩).1,(eM b.s1 (dY b.book 0 (50+a.aD) 1 d.sum).2 ⟨0,2,d.n,d.sum⟩).2)
 else if d.move=6 then ((cG b.aw 0 a.aO 0 d.sum).1,b.due,(dY b.book (cG b.aw 0 a.aO 0 d.sum).2 2 (10+a.aO) d.sum).1,b.s0,b.s1,(dY b.book (cG b.aw 0 a.aO 0 d.sum).2 2 (10+a.aO) d.sum).2)
 else if d.move=7 then (b.aw,b.due,b.book,(eM b.s0 0 ⟨0,3,d.n,d.sum⟩).1,b.s1,(eM b.s0 0 ⟨0,3,d.n,d.sum⟩).2)
 else if d.move=8 then ((cG b.aw 0 a.aO 0 (0 - d.sum)).1,b.due,(dY b.book (cG b.aw 0 a.aO 0 (0 - d.sum)).2 (10+a.aO) 2 d.sum).1,b.s0,b.s1,(dY b.book (cG b.aw 0 a.aO 0 (0 - d.sum)).2 (10+a.aO) 2 d.sum).2)
 else (b.aw,b.due,b.book,b.s0,b.s1,0)
def mT (b:Bk) (a:bF) (d:aW) (r:List bE×List Int×List Entry×bX×bX×Int):Bk×Answer:=
 dL b { b with aw := r.1, due := r.2.1, book := r.2.2.1, s0 := r.2.2.2.1, s1 := r.2.2.2.2.1, aR := (iO b.aR r.2.2.2.2.2 ⟨a.aD, d.n, d.move, d.sum⟩).1, ax := b.ax.set d.n.toNat a } (iO b.aR r.2.2.2.2.2 ⟨a.aD, d.n, d.move, d.sum⟩).2
def dx (b:Bk) (d:aW):Bk×Answer:=
 if b.down=true then (b,⟨12,0⟩)
 else if d.n < 0\/d.n>=b.ax.length then (b,⟨6,0⟩)
 else match b.ax[d.n.toNat]? with
  |none=>(b,⟨0,0⟩)
  |some cC=>
   if (bV cC d.move d.sum).2≠0 then (b,⟨(bV cC d.move d.sum).2,0⟩)
   else if d.move=1/\d.sum > lz b.aw (bV cC d.move d.sum).1.aO then (b,⟨10,0⟩)
   else mT b (bV cC d.move d.sum).1 d (dS b (bV cC d.move d.sum).1 cC d)
theorem jf {a:bF} (h:0<=a.sum/\a.sum<=1000000/\0<=a.captured/\a.captured<=a.sum/\0<=a.bD/\0<=a.bq/\a.bD+a.bq<=a.captured/\0<=a.aO/\a.aO<=7/\0<=a.aD/\a.aD<=7/\0<=a.cY/\a.cY<=1000100):bG a=0:=by
 unfold bG;rw [if_neg (by omega),if_neg (by omega)]
theorem fo {α:Type} {x b:α} {e:Int} (h:(x,e)=(b,(0:Int))):x=b/\e=0:=Prod.mk.inj h
theorem xW {a b:bF} {k n:Int} (hw:bG a=0) (h1:1<=n) (h2:n<=1000000) (h:de a k n=(b,0)):bG b=0/\b.aO=a.aO/\b.aD=a.aD:=by
 have hr:=fc hw
 unfold de at h
 by_cases c1:a.shut=true
 ·rw [if_pos c1] at h;have:=(fo h).2;omega
 rw [if_neg c1] at h
 by_cases c2:k=1
 ·rw [if_pos c2] at h
  by_cases c3:n > 1000000 - a.sum
  ·rw [if_pos c3] at h;have:=(fo h).2;omega
  ·rw [if_neg c3] at h;obtain ⟨rfl,_⟩:=fo h
   exact ⟨jf (by dsimp only;omega),rfl,rfl⟩
 rw [if_neg c2] at h
 by_cases c3:n > a.sum - a.captured
 ·rw [if_pos c3] at h;have:=(fo h).2;omega
 rw [if_neg c3] at h
 by_cases c4:k=4
 ·rw [if_pos c4] at h;obtain ⟨rfl,_⟩:=fo h
  exact ⟨jf (by dsimp only;omega),rfl,rfl⟩
 ·rw [if_neg c4] at h;obtain ⟨rfl,_⟩:=fo h
  exact ⟨jf (by dsimp only;omega),rfl,rfl⟩
theorem nm {a b:bF} {k n:Int} (h:bV a k n=(b,0)):bG a=0/\bG b=0/\b.aO=a.aO/\b.aD=a.aD/\1<=k/\k<=8/\1<=n/\n<=1000000:=by
 unfold bV at h
 by_cases c0:bG a≠0
 ·rw [if_pos c0] at h;exact absurd (fo h).2 c0
 rw [if_neg c0] at h
 have hw:bG a=0:=by omega
 have hr:=fc hw
 by_cases c1:k < 1\/k > 8
 ·rw [if_pos c1] at h;have:=(fo h).2;omega
 rw [if_neg c1] at h
 by_cases c2:n < 1\/n > 1000000
 ·rw [if_pos c2] at h;have:=(fo h).2;omega
 rw [if_neg c2] at h
 have hb:bG b=0/\b.aO=a.aO/\b.aD=a.aD:=by
  by_cases k5:k=5
  ·rw [if_pos k5] at h
   by_cases c:n > a.captured - a.bD - a.bq
   ·rw [if_pos c] at h;have:=(fo h).2;omega
   ·rw [if_neg c] at h;obtain ⟨rfl,_⟩:=fo h;exact ⟨jf (by dsimp only;omega),rfl,rfl⟩
  rw [if_neg k5] at h
  by_cases k6:k=6
  ·rw [if_pos k6] at h
   by_cases c:n > a.captured - a.bD - a.bq
   ·rw [if_pos c] at h;have:=(fo h).2;omega
   ·rw [if_neg c] at h;obtain ⟨rfl,_⟩:=fo h;exact ⟨jf (by dsimp only;omega),rfl,rfl⟩
  rw [if_neg k6] at h
  by_cases k7:k=7
  ·rw [if_pos k7] at h
   by_cases c:n > a.bq
   ·rw [if_pos c] at h;have:=(fo h).2;omega
   ·rw [if_neg c] at h;obtain ⟨rfl,_⟩:=fo h;exact ⟨jf (by dsimp only;omega),rfl,rfl⟩
  rw [if_neg k7] at h
  by_cases k8:k=8
  ·rw [if_pos k8] at h
   by_cases c:n > a.bq
   ·rw [if_pos c] at h;have:=(fo h).2;omega
   ·rw [if_neg c] at h;obtain ⟨rfl,_⟩:=fo h;exact ⟨jf (by dsimp only;omega),rfl,rfl⟩
  rw [if_neg k8] at h
  by_cases c:(de a k n).2≠0
  ·rw [if_pos c] at h;exact absurd (fo h).2 c
  ·rw [if_neg c] at h;exact xW hw (by omega) (by omega) h
 exact ⟨hw,hb.1,hb.2.1,hb.2.2,by omega,by omega,by omega,by omega⟩
theorem Cz {c:bE} (h:cA c=0):-9223372036854775808<=c.bx - c.held/\c.bx - c.held<=9223372036854775807:=by
 have:=gO h;omega
def gJ:List cm->List bE->List bF->List bE×List bF×Int
 |[],cs,xs=>(cs,xs,0)
 |x::l,cs,xs=>
  if (di x.aO x.aD x.sum x.time).2≠0 then (cs,xs,(di x.aO x.aD x.sum x.time).2)
  else match cs[x.aO.toNat]? with
   |none=>(cs,xs,0)
   |some c=>if (fe c x.sum).2≠0 then (cs,xs,(fe c x.sum).2) else gJ l (cs.set x.aO.toNat (fe c x.sum).1) (xs++[(di x.aO x.aD x.sum x.time).1])
theorem rl {l:List cm} {q:Nat} {x:cm} {cs:List bE} {xs:List bF} (h:l[q]?=some x):gJ (l.drop q) cs xs=
  if (di x.aO x.aD x.sum x.time).2≠0 then (cs,xs,(di x.aO x.aD x.sum x.time).2)
  else match cs[x.aO.toNat]? with
   |none=>(cs,xs,0)
   |some c=>if (fe c x.sum).2≠0 then (cs,xs,(fe c x.sum).2) else gJ (l.drop (q+1)) (cs.set x.aO.toNat (fe c x.sum).1) (xs++[(di x.aO x.aD x.sum x.time).1]):=by
 obtain ⟨hq,rfl⟩:=List.getElem?_eq_some_iff.1 h
 rw [List.drop_eq_getElem_cons hq];rfl
def jI (b:Bk):Bk×Answer:=
 if b.down=false then (b,⟨8,0⟩)
 else if (da b.bP).2.2≠0 then (b,⟨(da b.bP).2.2,0⟩)
 else if (gJ (da b.bP).2.1 b.aw b.ax).2.2≠0 then (b,⟨(gJ (da b.bP).2.1 b.aw b.ax).2.2,0⟩)
 else (iw {b with aw:=(gJ (da b.bP).2.1 b.aw b.ax).1,ax:=(gJ (da b.bP).2.1 b.aw b.ax).2.1,bP:=(da b.bP).1,down:=false},⟨0,0⟩)
def ft (b:Bk) (d:aW):Bk×Answer:=
 match b.w0[0]? with
 |none=>(b,⟨6,0⟩)
 |some p=>
  if d.kind=7 then ({b with w0:=b.w0.drop 1},⟨0,0⟩)
  else if p.seen>=0 then (if (dT b.s0 p.seen).2=0 then ({b with w0:=b.w0.drop 1,s0:=(dT b.s0 p.seen).1},⟨0,0⟩) else (b,⟨(dT b.s0 p.seen).2,0⟩))
  else if (fJ b.n0 p.cD).2=true then
   dL b { b with w0 := b.w0.drop 1, n0 := (fJ b.n0 p.cD).1, due := (ef b.ax b.due b.aw b.book 0 p.cD).1, aw := (ef b.ax b.due b.aw b.book 0 p.cD).2.1, book := (ef b.ax b.due b.aw b.book 0 p.cD).2.2.1 } (ef b.ax b.due b.aw b.book 0 p.cD).2.2.2
  else ({b with w0:=b.w0.drop 1,n0:=(fJ b.n0 p.cD).1},⟨0,0⟩)
def fr (b:Bk) (d:aW):Bk×Answer:=
 match b.w1[0]? with
 |none=>(b,⟨6,0⟩)
 |some p=>
  if d.kind=7 then ({b with w1:=b.w1.drop 1},⟨0,0⟩)
  else if p.seen>=0 then (if (dT b.s1 p.seen).2=0 then ({b with w1:=b.w1.drop 1,s1:=(dT b.s1 p.seen).1},⟨0,0⟩) else (b,⟨(dT b.s1 p.seen).2,0⟩))
  else if (fJ b.n1 p.cD).2=true then
   dL b { b with w1 := b.w1.drop 1, n1 := (fJ b.n1 p.cD).1, due := (ef b.ax b.due b.aw b.book 0 p.cD).1, aw := (ef b.ax b.due b.aw b.book 0 p.cD).2.1, book := (ef b.ax b.due b.aw b.book 0 p.cD).2.2.1 } (ef b.ax b.due b.aw b.book 0 p.cD).2.2.2
  else ({b with w1:=b.w1.drop 1,n1:=(fJ b.n1 p.cD).1},⟨0,0⟩)
def bZ (b:Bk) (d:aW):Bk×Answer:=if d.n=0 then ft b d else if d.n=1 then fr b d else (b,⟨6,0⟩)
def df (b:Bk) (days:List (List Int)) (d:aW):Bk×List (List Int)×Answer:=
 if d.kind=1 then ((fT b d).1,days,(fT b d).2)
 else if d.kind=2 then ((dN b d).1,days,(dN b d).2)
 else if d.kind=3 then ((dx b d).1,days,(dx b d).2)
 else if d.kind=4 then ((fF b d).1,days,(fF b d).2)
 else if d.kind=5 then ({b with w0:=(eL b.s0 b.s1 b.n0 b.n1 b.w0 b.w1 d).1,w1:=(eL b.s0 b.s1 b.n0 b.n1 b.w0 b.w1 d).2.1},days,(eL b.s0 b.s1 b.n0 b.n1 b.w0 b.w1 d).2.2)
 else if d.kind=6\/d.kind=7 then ((bZ b d).1,days,(bZ b d).2)
 else if d.kind=8 then (if b.down=true then (b,days,⟨8,0⟩) else ({b with down:=true},days,⟨0,0⟩))
 else if d.kind=9 then ((jI b).1,days,(jI b).2)
 else if d.kind=10 then ({b with aR:=(iM b.aR days).1},(iM b.aR days).2.1,(iM b.aR days).2.2)
 else if d.kind=11 then ((iD b d).1,days,(iD b d).2)
 else (b,days,⟨1,0⟩)
def fZ (b:Bk) (days:List (List Int)) (told:List (Int×Answer)) (cl:Nat) (d:aW):Bk×List (List Int)×List (Int×Answer)×Nat×Answer:=
 if (jj told d.id).isSome=true/\d.id≠0 then (b,days,told,cl,(jj told d.id).getD ⟨0,0⟩)
 else ((df b days d).1,(df b days d).2.1,oV told d.id (df b days d).2.2,if (jj told d.id).isSome then cl else cl+1,(df b days d).2.2)
structure Setup where (dh:List dw) (ja cap:Int)
 deriving DecidableEq
def pt:List dw->Int->dc
 |[],_=>⟨0,0⟩
 |p::l,i=>if fA p≠0 then ⟨fA p,i⟩ else pt l (i+1)
theorem uI {l:List dw} {q:Nat} {p:dw} (h:l[q]?=some p):pt (l.drop q) q=if fA p≠0 then ⟨fA p,q⟩ else pt (l.drop (q+1)) ((q+1:Nat):Int):=by
 obtain ⟨hq,rfl⟩:=List.getElem?_eq_some_iff.1 h
 rw [List.drop_eq_getElem_cons hq];rfl
def eJ (s:Setup):dc:=
 if s.dh.length > 8\/s.ja < 0\/s.ja > 8 then ⟨5,0⟩ else if s.cap < 0\/s.cap > 1000000 then ⟨3,0⟩ else pt s.dh 0
def FV:Bk:=⟨0,false,[],[],[],⟨0,[]⟩,⟨0,[]⟩,0,0,[],[],⟨0,[],[]⟩,[],[]⟩
def qq (p:dw):bE:=⟨0,0,p,[]⟩
def iR (s:Setup):Bk:=⟨0,false,s.dh.map qq,List.replicate s.ja.toNat 0,[],⟨0,[]⟩,⟨0,[]⟩,0,0,[],[],(dH s.cap s.dh.length).1,[],[]⟩
def ld:List aW->Bk->List (List Int)->List (Int×Answer)->Nat->List Answer->Bk×List (List Int)×List Answer
 |[],b,days,_,_,out=>(b,days,out)
 |d::l,b,days,told,cl,out=>ld l (fZ b days told cl d).1 (fZ b days told cl d).2.1 (fZ b days told cl d).2.2.1 (fZ b days told cl d).2.2.2.1 (out++[(fZ b days told cl d).2.2.2.2])
theorem zB {l:List aW} {q:Nat} {d:aW} {b:Bk} {days:List (List Int)} {told:List (Int×Answer)} {cl:Nat} {out:List Answer} (h:l[q]?=some d):
  ld (l.drop q) b days told cl out=ld (l.drop (q+1)) (fZ b days told cl d).1 (fZ b days told cl d).2.1 (fZ b days told cl d).2.2.1 (fZ b days told cl d).2.2.2.1 (out++[(fZ b days told cl d).2.2.2.2]):=by
 obtain ⟨hq,rfl⟩:=List.getElem?_eq_some_iff.1 h
 rw [List.drop_eq_getElem_cons hq];rfl
def iL (s:Setup) (l:List aW):Bk×List (List Int)×List Answer×dc:=
 if (eJ s).err≠0 then (FV,[],[],eJ s) else if l.length > 150 then (FV,[],[],⟨5,0⟩)
 else ((ld l (iR s) [] [] 0 []).1,(ld l (iR s) [] [] 0 []).2.1,(ld l (iR s) [] [] 0 []).2.2,⟨0,0⟩)
theorem zK {time:Int} {l:List bF} {q:Nat} {a:bF} {aw:List bE} {ax:List bF} {e:Int} (h:l[q]?=some a):gb time (l.drop q) q aw ax e=
  gb time (l.drop (q+1)) (q+1) (cG aw e a.aO (bB (ew a time) - bB a) 0).1 (ax.set q (ew a time)) (cG aw e a.aO (bB (ew a time) - bB a) 0).2:=by
 obtain ⟨hq,rfl⟩:=List.getElem?_eq_some_iff.1 h
 rw [List.drop_eq_getElem_cons hq];rfl
theorem fy (l:List bE) (e k held bx:Int):(cG l e k held bx).1.length=l.length:=by
 unfold cG
 split
 ·rfl
 ·split<;>simp
theorem yR {a:bF} {t:Int} (h:bG a=0):bG (ew a t)=0:=by
 unfold bG at h ⊢;unfold ew;exact h
theorem pG {a:bF} (h:bG a=0):0<=bB a/\bB a<=1000000:=by
 have:=fc h
 unfold bB;split<;>omega
structure cv (b:Bk):Prop where
 time:0<=b.time/\b.time<=1000000
 aw:b.aw.length<=8
 due:b.due.length<=8
 ax:b.ax.length+b.bP.bg.length<=30
 aR:b.aR.length<=100
 w0:b.w0.length<=60
 w1:b.w1.length<=60
 perm:∀ a∈b.ax,bG a=0/\0<=a.aO/\a.aO < b.aw.length/\0<=a.aD/\a.aD < b.due.length
 kg:∀ a∈b.bP.bg,0<=a.aO/\a.aO < b.aw.length/\0<=a.aD/\a.aD < b.due.length
 k0:∀ t∈b.s0.kept,gi t.number/\0<=t.bc/\t.bc < b.ax.length
 k1:∀ t∈b.s1.kept,gi t.number/\0<=t.bc/\t.bc < b.ax.length
 right:∀ c∈b.aw,cA c=0
 l0:b.s0.kept.length<=40
 l1:b.s1.kept.length<=40
 p0:∀ p∈b.w0,p.seen < 0->gi p.cD.number/\0<=p.cD.bc/\p.cD.bc < b.ax.length
 p1:∀ p∈b.w1,p.seen < 0->gi p.cD.number/\0<=p.cD.bc/\p.cD.bc < b.ax.length
 n0:0<=b.n0
 n1:0<=b.n1
 calm:b.down=false->b.bP.bg=[]
theorem cv.tick {b:Bk} (h:cv b) {t:Int} (h0:0<=t) (h1:t<=1000000):cv {b with time:=t}:=
 ⟨⟨h0,h1⟩,h.aw,h.due,h.ax,h.aR,h.w0,h.w1,h.perm,h.kg,h.k0,h.k1,h.right,h.l0,h.l1,h.p0,h.p1,h.n0,h.n1,h.calm⟩

def aY (b:Bk) (i j k m:Nat) (u v:CV):List CV:=[(cI b.time),(cB b.down),(.s i 0 6 b.aw.length),(.s j 0 1 b.due.length),(.s k 0 8 b.ax.length),(cI b.s0.bL),(dn b.s0.kept),(cI b.s1.bL),(dn b.s1.kept),(cI b.n0),(cI b.n1),(eD b.w0),(eD b.w1),(cI b.bP.cap),(fB b.bP.used),(iz b.bP.bg),(.s m 0 4 b.aR.length),u,(eb b.book),v]
def bf (x:Nat->Value):List CV:=[.d (.v (x 0)),.d (.v (x 1)),.d (.v (x 2)),.d (.v (x 3)),.d (.v (x 4)),.d (.v (x 5)),.d (.v (x 6)),.d (.v (x 7)),.d (.v (x 8)),.d (.v (x 9)),.d (.v (x 10)),.d (.v (x 11)),.d (.v (x 12)),.d (.v (x 13)),.d (.v (x 14)),.d (.v (x 15)),.d (.v (x 16)),.d (.v (x 17)),.d (.v (x 18)),.d (.v (x 19))]
def dG:List (Option CV):=[none,none,none,none,none,none,none,none,none,none,none,none,none,none,none,none,none,none,none,none]
def jC (b:Bk) (i j k m:Nat) (u v:Option CV):List (Option CV):=[some (cI b.time),some (cB b.down),some (.s i 0 6 b.aw.length),some (.s j 0 1 b.due.length),some (.s k 0 8 b.ax.length),some (cI b.s0.bL),some (dn b.s0.kept),some (cI b.s1.bL),some (dn b.s1.kept),some (cI b.n0),some (cI b.n1),some (eD b.w0),some (eD b.w1),some (cI b.bP.cap),some (fB b.bP.used),some (iz b.bP.bg),some (.s m 0 4 b.aR.length),u,some (eb b.book),v]


theorem xo (a b c:Int):Fn Try.prog 44 [(.g [(cI a),(cI b),(cI c)])] (aI (lj a b c)) []:=by
 refine Fn.mk' 31 [(0,(aG [(cI a),(cI b),(cI c)]))] Try.func44 rfl rfl rfl rfl ?_
 intro W0 T0
 refine ae aa 2 rfl ?_
 refine ag ?_
 refine cx 30 ((((((decide (a < 1))||(decide (a > 1000000)))||(decide (b < 0)))||(decide (b > 30)))||(decide (c < 0)))||(decide (c > 1000000000000))) ?_ ?_
 ·
  refine au ?_
  refine ad aa 4 rfl ?_
  refine bI (t:=6) rfl (fun hb1=>?_) (fun hb1=>?_)
  ·
   have hb1':=of_decide_eq_true hb1
   refine ad aa 24 rfl ?_
   refine af ?_
   exact aF.bH 29 rfl rfl (by first|(simp [hb1];done)|(simp_all;done)|(exfalso;simp_all;done)|(simp_all;omega)) rfl
  have hb1':=of_decide_eq_false hb1
  refine ad aa 5 rfl ?_
  refine bI (t:=11) rfl (fun hb2=>?_) (fun hb2=>?_)
  ·
   have hb2':=of_decide_eq_true hb2
   refine ad aa 19 rfl ?_
   refine af ?_
   exact aF.bH 30 rfl rfl (by first|(simp [hb1,hb2];done)|(simp_all;done)|(exfalso;simp_all;done)|(simp_all;omega)) rfl
  have hb2':=of_decide_eq_false hb2
  refine ad aa 5 rfl ?_
  refine bI (t:=16) rfl (fun hb3=>?_) (fun hb3=>?_)
  ·
   have hb3':=of_decide_eq_true hb3
   refine ad aa 14 rfl ?_
   refine af ?_
   exact aF.bH 31 rfl rfl (by first|(simp [hb1,hb2,hb3];done)|(simp_all;done)|(exfalso;simp_all;done)|(simp_all;omega)) rfl
  have hb3':=of_decide_eq_false hb3
  refine ad aa 5 rfl ?_
  refine bI (t:=21) rfl (fun hb4=>?_) (fun hb4=>?_)
  ·
   have hb4':=of_decide_eq_true hb4
   refine ad aa 9 rfl ?_
   refine af ?_
   exact aF.bH 32 rfl rfl (by first|(simp [hb1,hb2,hb3,hb4];done)|(simp_all;done)|(exfalso;simp_all;done)|(simp_all;omega)) rfl
  have hb4':=of_decide_eq_false hb4
  refine ad aa 5 rfl ?_
  refine bI (t:=26) rfl (fun hb5=>?_) (fun hb5=>?_)
  ·
   have hb5':=of_decide_eq_true hb5
   refine ad aa 4 rfl ?_
   refine af ?_
   exact aF.bH 33 rfl rfl (by first|(simp [hb1,hb2,hb3,hb4,hb5];done)|(simp_all;done)|(exfalso;simp_all;done)|(simp_all;omega)) rfl
  have hb5':=of_decide_eq_false hb5
  refine ad aa 4 rfl ?_
  refine af ?_
  exact aF.bH 33 rfl rfl (by first|(simp [hb1,hb2,hb3,hb4,hb5];done)|(simp_all;done)|(exfalso;simp_all;done)|(simp_all;omega)) rfl
 refine ah rfl (fun hc6=>?_) (fun hc6=>?_)
 ·
  have hc6':=hc6;try simp only [bu,bU] at hc6'
  refine ae aa 1 rfl ?_
  refine az ?_
  refine aq ?_
  refine an aa [] 0 rfl rfl rfl rfl rfl rfl ?_ ?_
  ·(show aI _=aI _;unfold lj;rw [if_pos (by omega)])
  ·rfl
 have hc6':=hc6;try simp only [bu,bU] at hc6'
 refine aQ ?_
 refine ae aa 1 rfl ?_
 refine az ?_
 refine an aa [] 0 rfl rfl rfl rfl rfl rfl ?_ ?_
 ·(show aI _=aI _;unfold lj;rw [if_neg (by omega)])
 ·rfl

theorem yg (l:List db):Fn Try.prog 45 [(.c (fI l))] (aG [cI (cO l).1,cI (cO l).2]) []:=by
 refine Fn.mk' 53 [(0,(aC (fI l)))] Try.func45 rfl rfl rfl rfl ?_
 intro W0 T0
 refine dr 0 rfl (fun hlen0=>?_)
 refine ae aa 1 rfl ?_
 refine ag ?_
 refine aH aa 1 rfl ?_
 refine aA (cM rfl rfl rfl rfl rfl Try.underlying59) rfl ?_
 refine ad aa 1 rfl ?_
 refine af ?_
 refine ah rfl (fun hc1=>?_) (fun hc1=>?_)
 ·
  have hc1':=of_decide_eq_true hc1
  refine ae aa 2 rfl ?_
  refine az ?_
  refine aq ?_
  refine an aa [0] 0 rfl rfl rfl rfl rfl rfl ?_ ?_
  ·(have h:cO l=(5,0):=by (unfold cO;rw [if_pos (by omega)]));rw [h];rfl
  ·rfl
 have hc1':=of_decide_eq_false hc1
 refine aQ ?_
 refine ag ?_
 refine aH aa 1 rfl ?_
 refine aA (cM rfl rfl rfl rfl rfl Try.underlying59) rfl ?_
 refine ad aa 1 rfl ?_
 refine af ?_
 refine aX ?_
 refine cw (β:=Nat) (fun (q:Nat)=>⟨[(0,(aC (fI l))),(2,(aC (.p 0 0 0 0))),(9,(aC (fI l))),(10,(aI (↑l.length:Int))),(11,(aI (↑q:Int)))],[(0,(.box 50 [(cI 0),(cI 0)]))],1⟩) (fun (q:Nat)=>q<=l.length/\scan (jD l) 0 l.length=scan (jD l) q (l.length - q)) (fun (q:Nat)=>l.length - q) 0 ?_ ?_ ?_
 ·exact ⟨by omega,rfl⟩
 ·exact aF.bW id (by refine ⟨?_,?_,?_,?_,?_,trivial⟩<;>first|rfl|(simp only [bm];done)|(congr 3;omega)|(congr 4;omega)|(simp only [bn];rfl)) (⟨by first|rfl|(simp only [bm];done)|(congr 3;omega)|(congr 4;omega)|(simp only [bn];rfl),trivial⟩) rfl
 rintro q ⟨hi0_0,hi0_1⟩
 refine ae aa 1 rfl ?_
 refine ag ?_
 refine ah rfl (fun hc2=>?_) (fun hc2=>?_)
 ·
  have hc2':=of_decide_eq_true hc2
  refine aQ ?_
  refine ag ?_
  refine aX ?_
  refine aH aa 1 rfl ?_
  obtain ⟨x1,hx1⟩:=ck (xs:=l) (i:=q) (by first|omega|(simp;done)|(simp;omega))
  refine aA (cH (i:=q) rfl rfl rfl Try.underlying59 iZ (by first|omega|(simp;done)|(simp;omega)) (bw hx1)) rfl ?_
  refine ad aa 4 rfl ?_
  refine af ?_
  refine ag ?_
  refine cx 33 ((((decide (x1.time < 0))||(decide (x1.time > 1000000)))||(decide (x1.sum < 0)))||(decide (x1.sum > 1000000))) ?_ ?_
  ·
   refine au ?_
   refine ad aa 4 rfl ?_
   refine bI (t:=19) rfl (fun hb3=>?_) (fun hb3=>?_)
   ·
    have hb3':=of_decide_eq_true hb3
    refine ad aa 14 rfl ?_
    refine af ?_
    exact aF.bH 19 rfl rfl (by first|(simp [hb3];done)|(simp_all;done)|(exfalso;simp_all;done)|(simp_all;omega)) rfl
   have hb3':=of_decide_eq_false hb3
   refine ad aa 5 rfl ?_
   refine bI (t:=24) rfl (fun hb4=>?_) (fun hb4=>?_)
   ·
    have hb4':=of_decide_eq_true hb4
    refine ad aa 9 rfl ?_
    refine af ?_
    exact aF.bH 20 rfl rfl (by first|(simp [hb3,hb4];done)|(simp_all;done)|(exfalso;simp_all;done)|(simp_all;omega)) rfl
   have hb4':=of_decide_eq_false hb4
   refine ad aa 5 rfl ?_
   refine bI (t:=29) rfl (fun hb5=>?_) (fun hb5=>?_)
   ·
    have hb5':=of_decide_eq_true hb5
    refine ad aa 4 rfl ?_
    refine af ?_
    exact aF.bH 21 rfl rfl (by first|(simp [hb3,hb4,hb5];done)|(simp_all;done)|(exfalso;simp_all;done)|(simp_all;omega)) rfl
   have hb5':=of_decide_eq_false hb5
   refine ad aa 4 rfl ?_
   refine af ?_
   exact aF.bH 21 rfl rfl (by first|(simp [hb3,hb4,hb5];done)|(simp_all;done)|(exfalso;simp_all;done)|(simp_all;omega)) rfl
  refine ah rfl (fun hc6=>?_) (fun hc6=>?_)
  ·
   have hc6':=hc6;try simp only [bu,bU] at hc6'
   refine ae aa 3 rfl ?_
   refine az ?_
   refine aq ?_
   refine bp ?_
   refine aq ?_
   refine aq ?_
   refine bp ?_
   refine aq ?_
   refine an aa [0] 0 rfl rfl rfl rfl rfl rfl ?_ ?_
   ·(have h:cO l=(3,(q:Int)):=by (unfold cO;rw [if_neg (by omega),hi0_1];exact iJ (by omega) (show jD l q=3 by (unfold jD;simp only [hx1];rw [if_pos (by omega)])) (by decide)));rw [h];rfl
   ·rfl
  have hc6':=hc6;try simp only [bu,bU] at hc6'
  refine aQ ?_
  refine ag ?_
  rcases Bool.eq_false_or_eq_true (decide ((↑q:Int) > 0)) with hb7|hb7
  ·
   have hb7':=of_decide_eq_true hb7
   obtain ⟨x2,hx2⟩:=ck (xs:=l) (i:=(q) - 1) (by first|omega|(simp;done)|(simp;omega))
   refine ba [0,2,9,10,11,4,3] [1,0] mixed rfl rfl ?_
   refine aE (kn:=[(37,true)]) aa 5 rfl ⟨hb7,trivial⟩ ?_
   refine aU (n':=2) [40,38] [] rfl rfl (.inl ⟨(ak.yes rfl rfl rfl),aM.cast (aL rfl rfl rfl (aJ (by first|omega|(simp;done)|(simp;omega)))) rfl⟩) rfl ?_
   refine aU (n':=2) [39,41,38] [] rfl rfl (.inl ⟨(ak.yes rfl rfl rfl),aM.cast (cH (i:=(q) - 1) rfl rfl rfl Try.underlying59 iZ (by first|omega|(simp;done)|(simp;omega)) (bw hx2)) rfl⟩) rfl ?_
   refine aE (kn:=[]) aa 6 rfl trivial ?_
   refine bC [1,0] rfl rfl rfl rfl (by kernel_rfl) ?_
   refine af ?_
   refine ah rfl (fun hc8=>?_) (fun hc8=>?_)
   ·
    have hc8':=of_decide_eq_true hc8
    refine ae aa 3 rfl ?_
    refine az ?_
    refine bp ?_
    refine aq ?_
    refine aq ?_
    refine bp ?_
    refine aq ?_
    refine an aa [0] 0 rfl rfl rfl rfl rfl rfl ?_ ?_
    ·(have h:cO l=(2,(q:Int)):=by (unfold cO;rw [if_neg (by omega),hi0_1];exact iJ (by omega) (show jD l q=2 by (unfold jD;simp only [hx1];rw [if_neg (by omega),if_pos (by refine ⟨by omega,?_⟩;rw [List.getD_eq_getElem?_getD,hx2];simp only [Option.getD_some];omega)])) (by decide)));rw [h];rfl
    ·rfl
   have hc8':=of_decide_eq_false hc8
   refine cZ ?_
   refine bh ?_
   refine then_ok ?_
   refine au ?_
   refine aA (aL rfl rfl rfl (aJ (by first|omega|(simp;done)|(simp;omega)))) rfl ?_
   refine ad aa 1 rfl ?_
   refine af ?_
   refine ⟨q+1,⟨by omega,by rw [hi0_1];exact nw (by omega) (by unfold jD;simp only [hx1];rw [if_neg (by omega),if_neg (by first|omega|(rw [List.getD_eq_getElem?_getD,hx2];simp only [Option.getD_some];omega))])⟩,by first|omega|(simp;done)|(simp;omega),aF.bW id (by refine ⟨?_,?_,?_,?_,?_,trivial⟩<;>first|rfl|(simp only [bm];done)|(congr 3;omega)|(congr 4;omega)|(simp only [bn];rfl)) (⟨by first|rfl|(simp only [bm];done)|(congr 3;omega)|(congr 4;omega)|(simp only [bn];rfl),trivial⟩) rfl⟩
  have hb7':=of_decide_eq_false hb7
  refine ba [0,2,9,10,11,4,3] [1,0] mixed rfl rfl ?_
  refine aE (kn:=[(37,false)]) aa 13 rfl ⟨hb7,trivial⟩ ?_
  refine bC [1,0] rfl rfl rfl rfl (by kernel_rfl) ?_
  refine af ?_
  refine ah rfl (fun hno=>by cases hno) (fun _=>?_)
  refine cZ ?_
  refine bh ?_
  refine then_ok ?_
  refine au ?_
  refine aA (aL rfl rfl rfl (aJ (by first|omega|(simp;done)|(simp;omega)))) rfl ?_
  refine ad aa 1 rfl ?_
  refine af ?_
  refine ⟨q+1,⟨by omega,by rw [hi0_1];exact nw (by omega) (by unfold jD;simp only [hx1];rw [if_neg (by omega),if_neg (by first|omega|(rw [List.getD_eq_getElem?_getD,hx2];simp only [Option.getD_some];omega))])⟩,by first|omega|(simp;done)|(simp;omega),aF.bW id (by refine ⟨?_,?_,?_,?_,?_,trivial⟩<;>first|rfl|(simp only [bm];done)|(congr 3;omega)|(congr 4;omega)|(simp only [bn];rfl)) (⟨by first|rfl|(simp only [bm];done)|(congr 3;omega)|(congr 4;omega)|(simp only [bn];rfl),trivial⟩) rfl⟩
 have hc2':=of_decide_eq_false hc2
 refine cj ?_
 refine aP ?_
 refine aP ?_
 refine bK ?_
 refine then_ok ?_
 refine ae aa 2 rfl ?_
 refine az ?_
 refine an aa [0] 0 rfl rfl rfl rfl rfl rfl ?_ ?_
 ·(have h:cO l=(0,0):=by (unfold cO;rw [if_neg (by omega),hi0_1,nU (by omega)]));rw [h];rfl
 ·rfl
end Go.Proofs.Ytegepioggeggaaa.Dev
