/- A part of the proof: PlSort, PlSort2, PlSort3, PlDay, PlBank, OpsB, Bank0, Pace1, Pace2, Del1, Pace3. No condition. -/
import Derived.Test.YtegepioggeggaaaD06
set_option linter.unusedVariables false
set_option linter.unusedSimpArgs false
set_option maxHeartbeats 1000000
set_option maxRecDepth 100000
namespace Go.Proofs.Ytegepioggeggaaa.Dev
open Go.RowKit
open Go.ChangeShapes Go.WideShapes Go.Deep Go.Joins
theorem jR {α:Type}:∀ l:List α,l=[]\/∃ A y,l=A++[y]
 |[]=>.inl rfl
 |x::l=>.inr (by
  rcases jR l with rfl|⟨A,y,rfl⟩
  ·exact ⟨[],x,rfl⟩
  ·exact ⟨x::A,y,rfl⟩)
def hO (a b:au):Bool:=decide (a.az < b.az)||(decide (a.az=b.az) && decide (a.ba < b.ba))
def gE (a b:au):Prop:=a.az < b.az\/(a.az=b.az/\a.ba<=b.ba)
def ke (a b:au):Bool:=decide (a.az=b.az) && decide (a.ba=b.ba)
def fz (l:List au):Prop:=l.Pairwise gE
def Same (u v:List au):Prop:=∀ k:au,u.filter (ke k)=v.filter (ke k)
theorem tb {a b:au}:hO a b=true↔(a.az < b.az\/(a.az=b.az/\a.ba < b.ba)):=by unfold hO;simp
theorem tc {a b:au}:hO a b=false↔gE b a:=by
 unfold hO gE
 rw [Bool.or_eq_false_iff,decide_eq_false_iff_not,Bool.and_eq_false_iff,decide_eq_false_iff_not,decide_eq_false_iff_not]
 omega
theorem lz {a b:au} (h:hO a b=true):gE a b:=by rw [tb] at h;unfold gE;omega
theorem oC (a:au):gE a a:=by unfold gE;omega
theorem ly {a b c:au} (h:gE a b) (h':gE b c):gE a c:=by unfold gE at *;omega
theorem wM {a b c:au} (h:hO a b=true) (h':gE b c):hO a c=true:=by rw [tb] at *;unfold gE at *;omega
theorem Cf {a b c:au} (h:gE a b) (h':hO b c=true):hO a c=true:=by rw [tb] at *;unfold gE at *;omega
theorem qq {a b:au}:ke a b=true↔(a.az=b.az/\a.ba=b.ba):=by unfold ke;simp
theorem lU (a:au):ke a a=true:=by rw [qq];exact ⟨rfl,rfl⟩
theorem Same.refl (u:List au):Same u u:=fun _=>rfl
theorem Same.symm {u v:List au} (h:Same u v):Same v u:=fun k=>(h k).symm
theorem Same.trans {u v z:List au} (h:Same u v) (h':Same v z):Same u z:=fun k=>(h k).trans (h' k)
theorem Same.app {u v u' v':List au} (h:Same u u') (h':Same v v'):Same (u++v) (u'++v'):=fun k=>by rw [List.filter_append,List.filter_append,h k,h' k]
theorem Same.mem {u v:List au} (h:Same u v) {x:au}:x∈u↔x∈v:=by
 have h1:∀ l:List au,x∈l.filter (ke x)↔x∈l:=fun l=>by simp [lU]
 rw [<-h1 u,<-h1 v,h x]
theorem Same.perm {u v:List au} (h:Same u v):u.Perm v:=by
 rw [List.perm_iff_count]
 intro x
 rw [<-List.count_filter (p:=ke x) (l:=u) (lU x),<-List.count_filter (p:=ke x) (l:=v) (lU x),h x]
theorem Same.len {u v:List au} (h:Same u v):u.length=v.length:=h.perm.length_eq
theorem Same.comm {u v:List au} (h:∀ x∈u,∀ y∈v,hO y x=true):Same (u++v) (v++u):=fun k=>by
 rw [List.filter_append,List.filter_append]
 by_cases hu:u.filter (ke k)=[]
 ·rw [hu];simp
 ·by_cases hv:v.filter (ke k)=[]
  ·rw [hv];simp
  ·exfalso
   obtain ⟨x,hx⟩:=List.exists_mem_of_ne_nil _ hu
   obtain ⟨y,hy⟩:=List.exists_mem_of_ne_nil _ hv
   rw [List.mem_filter] at hx hy
   have h1:=h x hx.1 y hy.1
   have h2:=qq.1 hx.2
   have h3:=qq.1 hy.2
   rw [tb] at h1
   omega
theorem fz.uniq:∀ {u v:List au},fz u->fz v->Same u v->u=v
 |[],v,_,_,h=>by have:=h.len;exact (List.eq_nil_of_length_eq_zero this.symm).symm
 |x::u,[],_,_,h=>by have:=h.len;cases this
 |x::u,y::v,hu,hv,h=>by
  obtain ⟨hu1,hu2⟩:=List.pairwise_cons.1 hu
  obtain ⟨hv1,hv2⟩:=List.pairwise_cons.1 hv
  have h1:gE x y:=by
   rcases List.mem_cons.1 (h.mem.2 (List.mem_cons_self (a:=y) (l:=v))) with rfl|hm
   ·exact oC _
   ·exact hu1 y hm
  have h2:gE y x:=by
   rcases List.mem_cons.1 (h.mem.1 (List.mem_cons_self (a:=x) (l:=u))) with rfl|hm
   ·exact oC _
   ·exact hv1 x hm
  have h3:ke x y=true:=by rw [qq];unfold gE at h1 h2;omega
  have h4:=h x
  rw [List.filter_cons,List.filter_cons,if_pos (lU x),if_pos h3] at h4
  obtain ⟨rfl,_⟩:=List.cons.inj h4
  have h5:Same u v:=fun k=>by
   have:=h k
   rw [List.filter_cons,List.filter_cons] at this
   split at this
   ·exact (List.cons.inj this).2
   ·exact this
  rw [fz.uniq hu2 hv2 h5]

def iv (d:List au) (i j:Nat):List au:=
 match d[i]?,d[j]? with
 |some x,some y=>(d.set i y).set j x
 |_,_=>d
theorem mr {d:List au} {i j:Nat} {x y:au} (hx:d[i]?=some x) (hy:d[j]?=some y):iv d i j=(d.set i y).set j x:=by unfold iv;rw [hx,hy]
theorem mM (d:List au) (i j:Nat):(iv d i j).length=d.length:=by
 unfold iv;split<;>simp
theorem px (s t u:List au) (x y:au) {i j:Nat} (hi:i=s.length) (hj:j=s.length+1+t.length):iv (s++x::(t++y::u)) i j=s++y::(t++x::u):=by
 subst hi hj
 have h1:(s++x::(t++y::u))[s.length]?=some x:=by simp
 have h2:(s++x::(t++y::u))[s.length+1+t.length]?=some y:=by
  rw [List.getElem?_append_right (by omega),show s.length+1+t.length - s.length=t.length+1 by omega,List.getElem?_cons_succ];simp
 rw [mr h1 h2,List.set_append_right _ _ (Nat.le_refl _),Nat.sub_self,List.set_cons_zero,List.set_append_right _ _ (by omega),show s.length+1+t.length - s.length=t.length+1 by omega,
  List.set_cons_succ,List.set_append_right _ _ (Nat.le_refl _),Nat.sub_self,List.set_cons_zero]
theorem zE (d:List au) (i j:Nat):iv d i j=iv d j i:=by
 by_cases hij:i=j
 ·subst hij;rfl
 ·unfold iv
  cases hx:d[i]? with
  |none=>cases hy:d[j]?<;>rfl
  |some x=>
   cases hy:d[j]? with
   |none=>rfl
   |some y=>exact List.set_comm _ _ hij
theorem sN (s t u:List au) (x y:au) {i j:Nat} (hi:i=s.length) (hj:j=s.length+1+t.length):iv (s++x::(t++y::u)) j i=s++y::(t++x::u):=by rw [zE];exact px s t u x y hi hj

structure Part (d y:List au) (a b:Nat):Prop where
 len:y.length=d.length
 l:y.take a=d.take a
 r:y.drop b=d.drop b
 s:fz ((y.drop a).take (b - a))
 m:Same d y
theorem Part.of {P X C R:List au} {a b:Nat} (ha:P.length=a) (hb:b=a+X.length) (hs:fz C) (hm:Same X C):Part (P++X++R) (P++C++R) a b:=by
 subst ha hb
 have hl:=hm.len
 refine ⟨by simp [hl],by simp,?_,?_,((Same.refl P).app hm).app (Same.refl R)⟩
 ·have h1:∀ Z:List au,Z.length=X.length->(P++Z++R).drop (P.length+X.length)=R:=fun Z hz=>by
   rw [<-hz,<-List.length_append,List.drop_left]
  rw [h1 C hl.symm,h1 X rfl]
 ·rw [List.append_assoc,List.drop_left,show P.length+X.length - P.length=C.length by omega,List.take_left];exact hs
theorem parts {d:List au} {a b:Nat} (h:a<=b) (hb:b<=d.length):d=d.take a++(d.drop a).take (b - a)++d.drop b:=by
 have h1:d.drop b=(d.drop a).drop (b - a):=by rw [List.drop_drop];congr 1;omega
 rw [h1,List.append_assoc,List.take_append_drop,List.take_append_drop]

def jN (a:Nat):Nat->List au->List au
 |0,d=>d
 |j+1,d=>
  if a < j+1 then
   match d[j+1]?,d[j]? with
   |some x,some y=>if hO x y=true then jN a j (iv d (j+1) j) else d
   |_,_=>d
  else d
theorem rV {a j:Nat} {d:List au} (h:¬a < j):jN a j d=d:=by
 cases j with
 |zero=>rfl
 |succ j=>unfold jN;rw [if_neg h]
theorem pT {a j:Nat} {d:List au} {x y:au} (hx:d[j]?=some x) (hy:d[j - 1]?=some y) (h:hO x y=false):jN a j d=d:=by
 cases j with
 |zero=>rfl
 |succ j=>
  unfold jN
  split
  ·rw [hx,show d[j]?=some y from hy];simp [h]
  ·rfl
theorem zd {a j:Nat} {d:List au} {x y:au} (ha:a < j) (hx:d[j]?=some x) (hy:d[j - 1]?=some y) (h:hO x y=true):jN a j d=jN a (j - 1) (iv d j (j - 1)):=by
 cases j with
 |zero=>omega
 |succ j=>
  conv=>lhs;unfold jN
  rw [if_pos ha,hx,show d[j]?=some y from hy]
  simp only [h,if_true]
  rfl
theorem wT (a:Nat):∀ (j:Nat) (d:List au),(jN a j d).length=d.length
 |0,d=>rfl
 |j+1,d=>by
  unfold jN
  split
  ·split
   ·split
    ·rw [wT a j,mM]
    ·rfl
   ·rfl
  ·rfl
theorem wU (P:List au) (x:au):∀ (n:Nat) (A R:List au),A.length=n->∃ A1 A2,A=A1++A2/\jN P.length (P.length+n) (P++A++x::R)=P++(A1++x::A2)++R/\(∀ y∈A2,hO x y=true)/\(∀ A0 y,A1=A0++[y]->gE y x)
 |0,A,R,hA=>by
  obtain rfl:=List.eq_nil_of_length_eq_zero hA
  refine ⟨[],[],rfl,?_,by simp,by simp⟩
  rw [rV (by omega)];simp
 |n+1,A,R,hA=>by
  obtain ⟨A',y,rfl⟩:∃ A' y,A=A'++[y]:=by
   rcases jR A with rfl|h
   ·cases hA
   ·exact h
  have hn:A'.length=n:=by simpa using hA
  have e1:P++(A'++[y])++x::R=(P++A')++y::([]++x::R):=by simp
  have h1:(P++(A'++[y])++x::R)[P.length+(n+1)]?=some x:=by
   rw [List.getElem?_append_right (by simp;omega),show P.length+(n+1) - (P++(A'++[y])).length=0 by simp;omega];rfl
  have h2:(P++(A'++[y])++x::R)[P.length+(n+1) - 1]?=some y:=by
   rw [e1,List.getElem?_append_right (by simp;omega),show P.length+(n+1) - 1 - (P++A').length=0 by simp;omega];rfl
  cases hc:hO x y with
  |true=>
   rw [zd (by omega) h1 h2 hc,show P.length+(n+1) - 1=P.length+n by omega,e1,sN (P++A') [] R y x (by simp;omega) (by simp;omega)]
   obtain ⟨A1,A2,rfl,h3,h4,h5⟩:=wU P x n A' (y::R) hn
   refine ⟨A1,A2++[y],by simp,?_,?_,h5⟩
   ·rw [List.nil_append,h3];simp
   ·intro z hz
    rcases List.mem_append.1 hz with hz|hz
    ·exact h4 z hz
    ·rw [List.mem_singleton.1 hz];exact hc
  |false=>
   rw [pT h1 h2 hc]
   refine ⟨A'++[y],[],by simp,by simp,by simp,fun A0 z hz=>?_⟩
   obtain ⟨_,h⟩:=List.append_inj' hz rfl
   rw [<-List.cons.inj h|>.1]
   exact tc.1 hc
theorem hY {u v:List au}:fz (u++v)↔fz u/\fz v/\∀ x∈u,∀ y∈v,gE x y:=List.pairwise_append
theorem wg {u:List au} {y x:au} (h:fz (u++[y])) (hx:gE y x):∀ z∈u++[y],gE z x:=fun z hz=>by
 rcases List.mem_append.1 hz with hz|hz
 ·exact ly ((hY.1 h).2.2 z hz y (List.mem_singleton.2 rfl)) hx
 ·rw [List.mem_singleton.1 hz];exact hx
theorem Cg {u:List au} {x:au} (h:fz u) (hl:∀ A0 y,u=A0++[y]->gE y x):∀ z∈u,gE z x:=by
 rcases jR u with rfl|⟨A',y,h'⟩
 ·simp
 ·rw [h'] at h ⊢;exact wg h (hl A' y h')
theorem BZ {A1 A2:List au} {x:au} (h:fz (A1++A2)) (h1:∀ z∈A1,gE z x) (h2:∀ z∈A2,hO x z=true):fz (A1++x::A2)/\Same (A1++A2++[x]) (A1++x::A2):=by
 obtain ⟨s1,s2,s3⟩:=hY.1 h
 refine ⟨hY.2 ⟨s1,List.pairwise_cons.2 ⟨fun y hy=>lz (h2 y hy),s2⟩,fun z hz y hy=>?_⟩,?_⟩
 ·rcases List.mem_cons.1 hy with rfl|hy
  ·exact h1 z hz
  ·exact s3 z hz y hy
 ·have:=(Same.refl A1).app (Same.comm (u:=A2) (v:=[x]) fun y hy z hz=>by rw [List.mem_singleton.1 hz];exact h2 y hy)
  simpa using this
theorem FR {B1 B2:List au} {x:au} (h:fz (B1++B2)) (h1:∀ z∈B1,hO z x=true) (h2:∀ z∈B2,gE x z):fz (B1++x::B2)/\Same (x::(B1++B2)) (B1++x::B2):=by
 obtain ⟨s1,s2,s3⟩:=hY.1 h
 refine ⟨hY.2 ⟨s1,List.pairwise_cons.2 ⟨h2,s2⟩,fun z hz y hy=>?_⟩,?_⟩
 ·rcases List.mem_cons.1 hy with rfl|hy
  ·exact lz (h1 z hz)
  ·exact s3 z hz y hy
 ·have:=(Same.comm (u:=[x]) (v:=B1) fun y hy z hz=>by rw [List.mem_singleton.1 hy];exact h1 z hz).app (Same.refl B2)
  simpa using this
def jy (a:Nat):Nat->List au->List au
 |0,d=>d
 |n+1,d=>jN a (a+1+n) (jy a n d)
theorem rU (a:Nat):∀ (n:Nat) (d:List au),(jy a n d).length=d.length
 |0,_=>rfl
 |n+1,d=>by unfold jy;rw [wT,rU a n]
theorem wQ (P X R:List au):∀ n,n < X.length->∃ C,jy P.length n (P++X++R)=P++C++X.drop (n+1)++R/\fz C/\Same (X.take (n+1)) C
 |0,h=>by
  refine ⟨X.take 1,?_,?_,Same.refl _⟩
  ·unfold jy;rw [List.append_assoc P (X.take 1),List.take_append_drop]
  ·cases X with
   |nil=>cases h
   |cons x X=>exact List.pairwise_singleton _ _
 |n+1,h=>by
  obtain ⟨C,h1,h2,h3⟩:=wQ P X R n (by omega)
  have hl:C.length=n+1:=by rw [<-h3.len,List.length_take];omega
  have e1:X.drop (n+1)=X[n+1]::X.drop (n+2):=List.drop_eq_getElem_cons h
  obtain ⟨A1,A2,rfl,h4,h5,h6⟩:=wU P X[n+1] (n+1) C (X.drop (n+2)++R) hl
  have h7:fz A1:=(hY.1 h2).1
  obtain ⟨h8,h9⟩:=BZ h2 (Cg h7 h6) h5
  refine ⟨A1++X[n+1]::A2,?_,h8,?_⟩
  ·unfold jy
   rw [h1,show P.length+1+n=P.length+(n+1) by omega,show P++(A1++A2)++X.drop (n+1)++R=P++(A1++A2)++X[n+1]::(X.drop (n+2)++R) by rw [List.append_assoc _ _ R,e1,List.cons_append],h4]
   simp
  ·rw [List.take_add_one,List.getElem?_eq_getElem h]
   exact (h3.app (Same.refl _)).trans h9
theorem vc {d:List au} {a b:Nat} (h:a<=b) (hb:b<=d.length):Part d (jy a (b - (a+1)) d) a b:=by
 by_cases hab:a=b
 ·subst hab
  rw [show a - (a+1)=0 by omega]
  exact ⟨rfl,rfl,rfl,by rw [Nat.sub_self];exact List.Pairwise.nil,Same.refl _⟩
 ·have e:=parts h hb
  have h1:(d.take a).length=a:=by rw [List.length_take];omega
  have h2:((d.drop a).take (b - a)).length=b - a:=by rw [List.length_take,List.length_drop];omega
  obtain ⟨C,h3,h4,h5⟩:=wQ (d.take a) ((d.drop a).take (b - a)) (d.drop b) (b - (a+1)) (by omega)
  rw [h1] at h3
  rw [<-e,List.drop_of_length_le (l:=(d.drop a).take (b - a)) (by omega),List.append_nil] at h3
  rw [List.take_of_length_le (l:=(d.drop a).take (b - a)) (by omega)] at h5
  have:=Part.of (P:=d.take a) (R:=d.drop b) (a:=a) (b:=b) h1 (by omega) h4 h5
  rwa [<-e,<-h3] at this

def dM (d:List au) (i j:Nat):Bool:=
 match d[i]?,d[j]? with
 |some x,some y=>hO x y
 |_,_=>false
theorem gD {d:List au} {i j:Nat} {x y:au} (hx:d[i]?=some x) (hy:d[j]?=some y):dM d i j=hO x y:=by unfold dM;rw [hx,hy]
def gp (p:Nat->Bool) (i j:Nat):Nat:=
 if _h:i < j then if p ((i+j) / 2)=true then gp p ((i+j) / 2+1) j else gp p i ((i+j) / 2) else i
termination_by j - i
theorem ff {p:Nat->Bool} {i j:Nat} (h:¬i < j):gp p i j=i:=by rw [gp,dif_neg h]
theorem Fy {p:Nat->Bool} {i j:Nat} (h:i < j) (hp:p ((i+j) / 2)=true):gp p i j=gp p ((i+j) / 2+1) j:=by rw [gp,dif_pos h,if_pos hp]
theorem Fz {p:Nat->Bool} {i j:Nat} (h:i < j) (hp:p ((i+j) / 2)=false):gp p i j=gp p i ((i+j) / 2):=by rw [gp,dif_pos h,if_neg (by rw [hp];exact Bool.false_ne_true)]
theorem kX (p:Nat->Bool):∀ (n i j:Nat),j - i<=n->i<=j->i<=gp p i j/\gp p i j<=j/\(gp p i j=i\/p (gp p i j - 1)=true)/\(gp p i j=j\/p (gp p i j)=false)
 |0,i,j,hn,h=>by rw [ff (by omega)];exact ⟨Nat.le_refl _,h,.inl rfl,.inl (by omega)⟩
 |n+1,i,j,hn,h=>by
  by_cases hij:i < j
  ·cases hp:p ((i+j) / 2) with
   |true=>
    rw [Fy hij hp]
    obtain ⟨h1,h2,h3,h4⟩:=kX p n ((i+j) / 2+1) j (by omega) (by omega)
    refine ⟨by omega,h2,?_,h4⟩
    rcases h3 with h3|h3
    ·right;rw [h3,Nat.add_sub_cancel];exact hp
    ·exact .inr h3
   |false=>
    rw [Fz hij hp]
    obtain ⟨h1,h2,h3,h4⟩:=kX p n i ((i+j) / 2) (by omega) (by omega)
    refine ⟨h1,by omega,h3,?_⟩
    rcases h4 with h4|h4
    ·right;rw [h4];exact hp
    ·exact .inr h4
  ·rw [ff hij];exact ⟨Nat.le_refl _,h,.inl rfl,.inl (by omega)⟩
def pd (a:Nat):Nat->List au->List au
 |0,d=>d
 |n+1,d=>iv (pd a n d) (a+n) (a+n+1)
def pe (m:Nat):Nat->List au->List au
 |0,d=>d
 |n+1,d=>iv (pe m n d) (m - n) (m - n - 1)
theorem yW (a:Nat):∀ (n:Nat) (d:List au),(pd a n d).length=d.length
 |0,_=>rfl
 |n+1,d=>by unfold pd;rw [mM,yW a n]
theorem yY (m:Nat):∀ (n:Nat) (d:List au),(pe m n d).length=d.length
 |0,_=>rfl
 |n+1,d=>by unfold pe;rw [mM,yY m n]
theorem yX (P:List au) (x:au):∀ (n:Nat) (V R:List au),V.length=n->pd P.length n (P++x::(V++R))=P++V++x::R
 |0,V,R,h=>by obtain rfl:=List.eq_nil_of_length_eq_zero h;simp [pd]
 |n+1,V,R,h=>by
  rcases jR V with rfl|⟨V',y,rfl⟩
  ·cases h
  ·have hn:V'.length=n:=by simpa using h
   unfold pd
   rw [show P++x::(V'++[y]++R)=P++x::(V'++(y::R)) by simp,yX P x n V' (y::R) hn]
   have:=px (P++V') [] R x y (i:=P.length+n) (j:=P.length+n+1) (by simp;omega) (by simp;omega)
   rw [List.nil_append,List.nil_append] at this
   rw [this];simp
theorem yZ (P:List au) (x:au) (R:List au):∀ (n:Nat) (U1 U2:List au),U2.length=n->pe (P++U1++U2).length n (P++U1++U2++x::R)=P++U1++x::(U2++R)
 |0,U1,U2,h=>by obtain rfl:=List.eq_nil_of_length_eq_zero h;simp [pe]
 |n+1,U1,U2,h=>by
  cases U2 with
  |nil=>cases h
  |cons y U=>
   have hn:U.length=n:=by simpa using h
   unfold pe
   have e1:P++U1++y::U=P++(U1++[y])++U:=by simp
   rw [e1,yZ P x R n (U1++[y]) U hn]
   have:=sN (P++U1) [] (U++R) y x (i:=(P++(U1++[y])++U).length - n - 1) (j:=(P++(U1++[y])++U).length - n) (by simp;omega) (by simp;omega)
   rw [List.nil_append,List.nil_append] at this
   rw [show P++(U1++[y])++x::(U++R)=P++U1++y::x::(U++R) by simp,this]
   simp
def gN (a b:Nat):Nat->List au->List au
 |0,d=>d
 |n+1,d=>iv (gN a b n d) (a+n) (b+n)
theorem jb (a b:Nat):∀ (n:Nat) (d:List au),(gN a b n d).length=d.length
 |0,_=>rfl
 |n+1,d=>by unfold gN;rw [mM,jb a b n]
theorem mL (p:List au):∀ (n:Nat) (x q y r:List au) {b:Nat},x.length=n->y.length=n->b=p.length+n+q.length->gN p.length b n (p++(x++(q++(y++r))))=p++(y++(q++(x++r)))
 |0,x,q,y,r,b,hx,hy,_=>by obtain rfl:=List.eq_nil_of_length_eq_zero hx;obtain rfl:=List.eq_nil_of_length_eq_zero hy;rfl
 |n+1,x,q,y,r,b,hx,hy,hb=>by
  rcases jR x with rfl|⟨x',x1,rfl⟩
  ·cases hx
  rcases jR y with rfl|⟨y',y1,rfl⟩
  ·cases hy
  have h1:x'.length=n:=by simpa using hx
  have h2:y'.length=n:=by simpa using hy
  unfold gN
  have:=mL p n x' (x1::q) y' (y1::r) (b:=b) h1 h2 (by simp;omega)
  rw [show p++(x'++[x1]++(q++(y'++[y1]++r)))=p++(x'++(x1::q++(y'++y1::r))) by simp,this]
  have:=px (p++y') (q++x') r x1 y1 (i:=p.length+n) (j:=b+n) (by simp;omega) (by simp;omega)
  rw [show p++(y'++(x1::q++(x'++y1::r)))=p++y'++x1::(q++x'++y1::r) by simp,this]
  simp
def ju (m:Nat) (i j:Nat) (d:List au):List au:=
 if _h:0 < i/\0 < j then
  if i=j then gN (m - i) m i d
  else if i > j then ju m (i - j) j (gN (m - i) m j d)
  else ju m i (j - i) (gN (m - i) (m+j - i) i d)
 else d
termination_by i+j
theorem BF {m i:Nat} {d:List au} (hi:0 < i):ju m i i d=gN (m - i) m i d:=by rw [ju,dif_pos ⟨hi,hi⟩,if_pos rfl]
theorem BE {m i j:Nat} {d:List au} (hj:0 < j) (h:i > j):ju m i j d=ju m (i - j) j (gN (m - i) m j d):=by rw [ju,dif_pos ⟨by omega,hj⟩,if_neg (by omega),if_pos h]
theorem BD {m i j:Nat} {d:List au} (hi:0 < i) (h:i < j):ju m i j d=ju m i (j - i) (gN (m - i) (m+j - i) i d):=by rw [ju,dif_pos ⟨hi,by omega⟩,if_neg (by omega),if_neg (by omega)]
theorem tR:∀ (n:Nat) (P u v R:List au) (m:Nat),u.length+v.length<=n->0 < u.length->0 < v.length->m=P.length+u.length->ju m u.length v.length (P++(u++(v++R)))=P++(v++(u++R))
 |0,P,u,v,R,m,hn,hu,hv,hm=>by omega
 |n+1,P,u,v,R,m,hn,hu,hv,hm=>by
  rcases Nat.lt_trichotomy u.length v.length with h|h|h
  ·rw [BD hu h]
   have e:v=v.take (v.length - u.length)++v.drop (v.length - u.length):=(List.take_append_drop _ _).symm
   have l1:(v.take (v.length - u.length)).length=v.length - u.length:=by rw [List.length_take];omega
   have l2:(v.drop (v.length - u.length)).length=u.length:=by rw [List.length_drop];omega
   generalize hv1:v.take (v.length - u.length)=v1 at e l1
   generalize hv2:v.drop (v.length - u.length)=v2 at e l2
   have h1:=mL P u.length u v1 v2 R (b:=m+v.length - u.length) rfl l2 (by omega)
   rw [show m - u.length=P.length by omega,show P++(u++(v++R))=P++(u++(v1++(v2++R))) by rw [e];simp,h1,<-l1]
   have h2:=tR n P v2 v1 (u++R) m (by omega) (by omega) (by omega) (by omega)
   rw [l2] at h2
   rw [h2,e];simp
  ·rw [<-h,BF hu,show m - u.length=P.length by omega]
   have h1:=mL P u.length u [] v R (b:=m) rfl h.symm (by simp;omega)
   simpa using h1
  ·rw [BE hv h]
   have e:u=u.take v.length++u.drop v.length:=(List.take_append_drop _ _).symm
   have l1:(u.take v.length).length=v.length:=by rw [List.length_take];omega
   have l2:(u.drop v.length).length=u.length - v.length:=by rw [List.length_drop]
   generalize hv1:u.take v.length=u1 at e l1
   generalize hv2:u.drop v.length=u2 at e l2
   have h1:=mL P v.length u1 u2 v R (b:=m) l1 rfl (by omega)
   rw [show m - u.length=P.length by omega,show P++(u++(v++R))=P++(u1++(u2++(v++R))) by rw [e];simp,h1,<-l2]
   have h2:=tR n (P++v) u2 u1 R m (by omega) (by omega) (by omega) (by simp;omega)
   rw [l1] at h2
   rw [show P++(v++(u2++(u1++R)))=P++v++(u2++(u1++R)) by simp,h2,e];simp
theorem nG:∀ (n m i j:Nat) (d:List au),i+j<=n->(ju m i j d).length=d.length
 |0,m,i,j,d,h=>by rw [ju,dif_neg (by omega)]
 |n+1,m,i,j,d,h=>by
  rw [ju]
  split
  ·split
   ·rw [jb]
   ·split
    ·rw [nG n _ _ _ _ (by omega),jb]
    ·rw [nG n _ _ _ _ (by omega),jb]
  ·rfl
def eG (d:List au) (a m b:Nat):Nat:=
 if m > (a+b) / 2 then gp (fun c=>!dM d ((a+b) / 2+m - 1 - c) c) ((a+b) / 2+m - b) ((a+b) / 2)
 else gp (fun c=>!dM d ((a+b) / 2+m - 1 - c) c) a m
def fw (s m e:Nat) (d:List au):List au:=if s < m/\m < e then ju m (m - s) (e - m) d else d
def dT:Nat->Nat->Nat->Nat->List au->List au
 |0,_,_,_,d=>d
 |f+1,a,m,b,d=>
  if m - a=1 then pd a (gp (fun h=>dM d h a) m b - 1 - a) d
  else if b - m=1 then pe m (m - gp (fun h=>!dM d m h) a m) d
  else
   (fun s=>(fun e=>(fun d1=>(fun d2=>if (a+b) / 2 < e/\e < b then dT f ((a+b) / 2) e b d2 else d2)
    (if a < s/\s < (a+b) / 2 then dT f a s ((a+b) / 2) d1 else d1)) (fw s m e d)) ((a+b) / 2+m - s)) (eG d a m b)
theorem lT (s m e:Nat) (d:List au):(fw s m e d).length=d.length:=by unfold fw;split;exact nG _ _ _ _ _ (Nat.le_refl _);rfl
theorem fk:∀ (f a m b:Nat) (d:List au),(dT f a m b d).length=d.length
 |0,_,_,_,_=>rfl
 |f+1,a,m,b,d=>by
  unfold dT
  split
  ·rw [yW]
  ·split
   ·rw [yY]
   ·dsimp only
    split
    ·rw [fk f]
     split
     ·rw [fk f,lT]
     ·rw [lT]
    ·split
     ·rw [fk f,lT]
     ·rw [lT]
theorem vb {a i:Nat} {d:List au} (h:a+1<=i):jy a (i+1 - (a+1)) d=jN a i (jy a (i - (a+1)) d):=by
 rw [show i+1 - (a+1)=(i - (a+1))+1 by omega]
 conv=>lhs;unfold jy
 rw [show a+1+(i - (a+1))=i by omega]
theorem DT {a k:Nat} {d:List au} (h:a<=k):pd a (k+1 - a) d=iv (pd a (k - a) d) k (k+1):=by
 rw [show k+1 - a=(k - a)+1 by omega]
 conv=>lhs;unfold pd
 rw [show a+(k - a)=k by omega]
theorem DU {m k:Nat} {d:List au} (h:k<=m) (h0:0 < k):pe m (m - (k - 1)) d=iv (pe m (m - k) d) k (k - 1):=by
 rw [show m - (k - 1)=(m - k)+1 by omega]
 conv=>lhs;unfold pe
 rw [show m - (m - k)=k by omega]
theorem na {P X:List au} {k n:Nat} (hn:n=P.length+k):(P++X)[n]?=X[k]?:=by
 subst hn;rw [List.getElem?_append_right (by omega),Nat.add_sub_cancel_left]
theorem le_last {B:List au} {x:au} (h:fz B) (hl:∀ A0 y,B=A0++[y]->hO y x=true):∀ z∈B,hO z x=true:=by
 rcases jR B with rfl|⟨A',y,h'⟩
 ·simp
 ·intro z hz
  have h1:=hl A' y h'
  rw [h'] at h hz
  rcases List.mem_append.1 hz with hz|hz
  ·exact Cf ((hY.1 h).2.2 z hz y (List.mem_singleton.2 rfl)) h1
  ·rw [List.mem_singleton.1 hz];exact h1
theorem Er {B:List au} {x:au} (h:fz B) (hl:∀ y B0,B=y::B0->hO x y=true):∀ z∈B,hO x z=true:=by
 cases B with
 |nil=>simp
 |cons y B0=>
  intro z hz
  have h1:=hl y B0 rfl
  rcases List.mem_cons.1 hz with rfl|hz
  ·exact h1
  ·exact wM h1 ((List.pairwise_cons.1 h).1 z hz)
theorem Es {B:List au} {x:au} (h:fz B) (hl:∀ y B0,B=y::B0->gE x y):∀ z∈B,gE x z:=by
 cases B with
 |nil=>simp
 |cons y B0=>
  intro z hz
  have h1:=hl y B0 rfl
  rcases List.mem_cons.1 hz with rfl|hz
  ·exact h1
  ·exact ly h1 ((List.pairwise_cons.1 h).1 z hz)
theorem wh {A:List au} {y:au} {A0:List au} (h:A=A0++[y]):A[A.length - 1]?=some y:=by subst h;simp
theorem oe (l:List au) (k:Nat) (h:k<=l.length):∃ u v,l=u++v/\u.length=k:=⟨l.take k,l.drop k,(List.take_append_drop k l).symm,by rw [List.length_take];omega⟩
theorem vj {U:List au} {u:au} (h:fz U) (hu:U[0]?=some u):∀ x∈U,gE u x:=by
 cases U with
 |nil=>simp
 |cons y U=>
  simp at hu;subst hu
  intro x hx
  rcases List.mem_cons.1 hx with rfl|hx
  ·exact oC _
  ·exact (List.pairwise_cons.1 h).1 x hx
theorem wP {V:List au} {v:au} (h:fz V) (hv:V[V.length - 1]?=some v):∀ y∈V,gE y v:=by
 rcases jR V with rfl|⟨A,z,rfl⟩
 ·simp
 ·simp at hv;subst hv
  exact wg h (oC _)
theorem get_some {V:List au} {k:Nat} (h:k < V.length):∃ v,V[k]?=some v:=⟨V[k],List.getElem?_eq_getElem h⟩
theorem rH:∀ (f:Nat) (P A B R:List au),A.length+B.length<=f->0 < A.length->0 < B.length->fz A->fz B->
  ∃ C,dT f P.length (P.length+A.length) (P.length+A.length+B.length) (P++(A++(B++R)))=P++(C++R)/\fz C/\Same (A++B) C
 |0,P,A,B,R,hf,ha,hb,_,_=>by omega
 |f+1,P,A,B,R,hf,ha,hb,sA,sB=>by
  obtain ⟨a,hea⟩:∃ a,a=P.length:=⟨_,rfl⟩
  obtain ⟨m,hem⟩:∃ m,m=P.length+A.length:=⟨_,rfl⟩
  obtain ⟨b,heb⟩:∃ b,b=P.length+A.length+B.length:=⟨_,rfl⟩
  rw [<-hea,show a+A.length=m by omega,show m+B.length=b by omega]
  unfold dT
  split
  ·
   rename_i h1
   obtain ⟨x,rfl⟩:∃ x,A=[x]:=by
    match A,ha,(by omega:A.length=1) with
    |[x],_,_=>exact ⟨x,rfl⟩
   have hl1:[x].length=1:=rfl
   obtain ⟨q1,q2,q3,q4⟩:=kX (fun h=>dM (P++([x]++(B++R))) h a) (b - m) m b (Nat.le_refl _) (by omega)
   generalize gp (fun h=>dM (P++([x]++(B++R))) h a) m b=i at q1 q2 q3 q4
   obtain ⟨B1,B2,rfl,hB1⟩:=oe B (i - m) (by omega)
   rw [List.length_append] at heb
   have gx:(P++([x]++(B1++B2++R)))[a]?=some x:=by rw [na (k:=0) (by omega)];rfl
   have gB:∀ k,k < B1.length+B2.length->(P++([x]++(B1++B2++R)))[m+k]?=(B1++B2)[k]?:=fun k hk=>by
    rw [na (k:=k+1) (by omega),List.cons_append,List.getElem?_cons_succ,List.nil_append,List.getElem?_append_left (by simp;omega)]
   obtain ⟨s1,s2,s3⟩:=hY.1 sB
   have w1:∀ z∈B1,hO z x=true:=le_last s1 fun A0 y hy=>by
    have hpos:0 < B1.length:=by rw [hy];simp
    rcases q3 with q3|q3
    ·omega
    ·have g1:=gB (B1.length - 1) (by omega)
     rw [List.getElem?_append_left (l₁:=B1) (by omega),wh hy,show m+(B1.length - 1)=i - 1 by omega] at g1
     have q3:dM (P++([x]++(B1++B2++R))) (i - 1) a=true:=q3
     rwa [gD g1 gx] at q3
   have w2:∀ z∈B2,gE x z:=Es s2 fun y B0 hy=>by
    have hpos:0 < B2.length:=by rw [hy];simp
    rcases q4 with q4|q4
    ·omega
    ·have g1:=gB B1.length (by omega)
     have g2:B2[0]?=some y:=by rw [hy];rfl
     rw [List.getElem?_append_right (l₁:=B1) (Nat.le_refl _),Nat.sub_self,g2,show m+B1.length=i by omega] at g1
     have q4:dM (P++([x]++(B1++B2++R))) i a=false:=q4
     rw [gD g1 gx] at q4
     exact tc.1 q4
   obtain ⟨t1,t2⟩:=FR sB w1 w2
   refine ⟨B1++x::B2,?_,t1,t2⟩
   have h2:=yX P x B1.length B1 (B2++R) rfl
   rw [show i - 1 - a=B1.length by omega,hea,show P++([x]++(B1++B2++R))=P++x::(B1++(B2++R)) by simp,h2]
   simp
  ·split
   ·
    rename_i h0 h1
    obtain ⟨x,rfl⟩:∃ x,B=[x]:=by
     match B,hb,(by omega:B.length=1) with
     |[x],_,_=>exact ⟨x,rfl⟩
    have hl1:[x].length=1:=rfl
    obtain ⟨q1,q2,q3,q4⟩:=kX (fun h=>!dM (P++(A++([x]++R))) m h) (m - a) a m (Nat.le_refl _) (by omega)
    generalize gp (fun h=>!dM (P++(A++([x]++R))) m h) a m=i at q1 q2 q3 q4
    obtain ⟨A1,A2,rfl,hA1⟩:=oe A (i - a) (by omega)
    rw [List.length_append] at hem heb
    have gx:(P++(A1++A2++([x]++R)))[m]?=some x:=by rw [na (k:=A1.length+A2.length) (by omega),na (k:=0) (by simp)];rfl
    have gA:∀ k,k < A1.length+A2.length->(P++(A1++A2++([x]++R)))[a+k]?=(A1++A2)[k]?:=fun k hk=>by
     rw [na (k:=k) (by omega),List.getElem?_append_left (by simp;omega)]
    obtain ⟨s1,s2,s3⟩:=hY.1 sA
    have w1:∀ z∈A1,gE z x:=Cg s1 fun A0 y hy=>by
     have hpos:0 < A1.length:=by rw [hy];simp
     rcases q3 with q3|q3
     ·omega
     ·have g1:=gA (A1.length - 1) (by omega)
      rw [List.getElem?_append_left (l₁:=A1) (by omega),wh hy,show a+(A1.length - 1)=i - 1 by omega] at g1
      have q3:(!dM (P++(A1++A2++([x]++R))) m (i - 1))=true:=q3
      rw [gD gx g1,Bool.not_eq_true'] at q3
      exact tc.1 q3
    have w2:∀ z∈A2,hO x z=true:=Er s2 fun y B0 hy=>by
     have hpos:0 < A2.length:=by rw [hy];simp
     rcases q4 with q4|q4
     ·omega
     ·have g1:=gA A1.length (by omega)
      have g2:A2[0]?=some y:=by rw [hy];rfl
      rw [List.getElem?_append_right (l₁:=A1) (Nat.le_refl _),Nat.sub_self,g2,show a+A1.length=i by omega] at g1
      have q4:(!dM (P++(A1++A2++([x]++R))) m i)=false:=q4
      rw [gD gx g1,Bool.not_eq_false'] at q4
      exact q4
    obtain ⟨t1,t2⟩:=BZ sA w1 w2
    refine ⟨A1++x::A2,?_,t1,t2⟩
    have h2:=yZ P x R A2.length A1 A2 rfl
    rw [show (P++A1++A2).length=m by simp;omega] at h2
    rw [show m - i=A2.length by omega,show P++(A1++A2++([x]++R))=P++A1++A2++x::R by simp,h2]
    simp
   ·
    rename_i h0 h1
    obtain ⟨mid,hmid⟩:∃ mid,mid=(a+b) / 2:=⟨_,rfl⟩
    have hs:∃ s,eG (P++(A++(B++R))) a m b=s/\a<=s/\s<=m/\s<=mid/\mid+m - s<=b/\
      (s=m\/s=mid\/dM (P++(A++(B++R))) (mid+m - 1 - s) s=true)/\(s=a\/mid+m - s=b\/dM (P++(A++(B++R))) (mid+m - s) (s - 1)=false):=by
     refine ⟨_,rfl,?_⟩
     unfold eG
     rw [<-hmid]
     split
     ·obtain ⟨q1,q2,q3,q4⟩:=kX (fun c=>!dM (P++(A++(B++R))) (mid+m - 1 - c) c) (mid - (mid+m - b)) (mid+m - b) mid (Nat.le_refl _) (by omega)
      generalize gp (fun c=>!dM (P++(A++(B++R))) (mid+m - 1 - c) c) (mid+m - b) mid=s at q1 q2 q3 q4
      refine ⟨by omega,by omega,by omega,by omega,?_,?_⟩
      ·rcases q4 with q4|q4
       ·exact .inr (.inl q4)
       ·right;right;simpa using q4
      ·rcases q3 with q3|q3
       ·right;left;omega
       ·by_cases hs0:s=a
        ·exact .inl hs0
        ·right;right
         have q3:(!dM (P++(A++(B++R))) (mid+m - 1 - (s - 1)) (s - 1))=true:=q3
         rw [show mid+m - 1 - (s - 1)=mid+m - s by omega] at q3;simpa using q3
     ·obtain ⟨q1,q2,q3,q4⟩:=kX (fun c=>!dM (P++(A++(B++R))) (mid+m - 1 - c) c) (m - a) a m (Nat.le_refl _) (by omega)
      generalize gp (fun c=>!dM (P++(A++(B++R))) (mid+m - 1 - c) c) a m=s at q1 q2 q3 q4
      refine ⟨by omega,by omega,by omega,by omega,?_,?_⟩
      ·rcases q4 with q4|q4
       ·exact .inl q4
       ·right;right;simpa using q4
      ·rcases q3 with q3|q3
       ·exact .inl q3
       ·by_cases hs0:s=a
        ·exact .inl hs0
        ·right;right
         have q3:(!dM (P++(A++(B++R))) (mid+m - 1 - (s - 1)) (s - 1))=true:=q3
         rw [show mid+m - 1 - (s - 1)=mid+m - s by omega] at q3;simpa using q3
    obtain ⟨s,hs0,hs1,hs2,hs3,hs4,hs5,hs6⟩:=hs
    dsimp only
    rw [hs0,<-hmid]
    obtain ⟨A1,U,rfl,hA1⟩:=oe A (s - a) (by omega)
    rw [List.length_append] at hem heb ha hf
    obtain ⟨V,B2,rfl,hV⟩:=oe B (mid+m - s - m) (by omega)
    rw [List.length_append] at heb hb hf
    have gA:∀ k,k < A1.length+U.length->(P++(A1++U++(V++B2++R)))[a+k]?=(A1++U)[k]?:=fun k hk=>by
     rw [na (k:=k) (by omega),List.getElem?_append_left (by simp;omega)]
    have gB:∀ k,k < V.length+B2.length->(P++(A1++U++(V++B2++R)))[m+k]?=(V++B2)[k]?:=fun k hk=>by
     rw [na (k:=A1.length+U.length+k) (by omega),na (k:=k) (by simp),List.getElem?_append_left (by simp;omega)]
    obtain ⟨a1,a2,a3⟩:=hY.1 sA
    obtain ⟨b1,b2,b3⟩:=hY.1 sB
    have w1:∀ x∈U,∀ y∈V,hO y x=true:=by
     intro x hx y hy
     have hU:0 < U.length:=List.length_pos_of_mem hx
     have hVp:0 < V.length:=List.length_pos_of_mem hy
     rcases hs5 with h5|h5|h5
     ·omega
     ·omega
     ·obtain ⟨v,hv⟩:=get_some (V:=V) (k:=V.length - 1) (by omega)
      obtain ⟨u,hu⟩:=get_some (V:=U) (k:=0) hU
      have g1:=gB (V.length - 1) (by omega)
      rw [List.getElem?_append_left (l₁:=V) (by omega),hv,show m+(V.length - 1)=mid+m - 1 - s by omega] at g1
      have g2:=gA A1.length (by omega)
      rw [List.getElem?_append_right (l₁:=A1) (Nat.le_refl _),Nat.sub_self,hu,show a+A1.length=s by omega] at g2
      rw [gD g1 g2] at h5
      exact wM (Cf (wP b1 hv y hy) h5) (vj a2 hu x hx)
    have w2:∀ x∈A1,∀ y∈B2,gE x y:=by
     intro x hx y hy
     have hAp:0 < A1.length:=List.length_pos_of_mem hx
     have hBp:0 < B2.length:=List.length_pos_of_mem hy
     rcases hs6 with h6|h6|h6
     ·omega
     ·omega
     ·obtain ⟨v,hv⟩:=get_some (V:=A1) (k:=A1.length - 1) (by omega)
      obtain ⟨u,hu⟩:=get_some (V:=B2) (k:=0) hBp
      have g1:=gB V.length (by omega)
      rw [List.getElem?_append_right (l₁:=V) (Nat.le_refl _),Nat.sub_self,hu,show m+V.length=mid+m - s by omega] at g1
      have g2:=gA (A1.length - 1) (by omega)
      rw [List.getElem?_append_left (l₁:=A1) (by omega),hv,show a+(A1.length - 1)=s - 1 by omega] at g2
      rw [gD g1 g2] at h6
      exact ly (wP a1 hv x hx) (ly (tc.1 h6) (vj b2 hu y hy))
    have hr:fw s m (mid+m - s) (P++(A1++U++(V++B2++R)))=P++(A1++(V++(U++(B2++R)))):=by
     unfold fw
     have e0:P++(A1++U++(V++B2++R))=P++A1++(U++(V++(B2++R))):=by simp
     split
     ·have:=tR (U.length+V.length) (P++A1) U V (B2++R) m (Nat.le_refl _) (by omega) (by omega) (by simp;omega)
      rw [show m - s=U.length by omega,show mid+m - s - m=V.length by omega,e0,this];simp
     ·rcases (by omega:U.length=0\/V.length=0) with hz|hz
      ·obtain rfl:=List.eq_nil_of_length_eq_zero hz;simp
      ·obtain rfl:=List.eq_nil_of_length_eq_zero hz;simp
    rw [hr]
    have hL:∃ C1,(if a < s/\s < mid then dT f a s mid (P++(A1++(V++(U++(B2++R))))) else P++(A1++(V++(U++(B2++R)))))=P++(C1++(U++(B2++R)))/\fz C1/\Same (A1++V) C1:=by
     split
     ·obtain ⟨C1,c1,c2,c3⟩:=rH f P A1 V (U++(B2++R)) (by omega) (by omega) (by omega) a1 b1
      rw [<-hea,show a+A1.length=s by omega,show s+V.length=mid by omega] at c1
      exact ⟨C1,c1,c2,c3⟩
     ·rcases (by omega:A1.length=0\/V.length=0) with hz|hz
      ·obtain rfl:=List.eq_nil_of_length_eq_zero hz;exact ⟨V,by simp,b1,Same.refl _⟩
      ·obtain rfl:=List.eq_nil_of_length_eq_zero hz;exact ⟨A1,by simp,a1,by rw [List.append_nil];exact Same.refl _⟩
    obtain ⟨C1,c1,c2,c3⟩:=hL
    rw [c1]
    have hc1:C1.length=A1.length+V.length:=by rw [<-c3.len,List.length_append]
    have hR:∃ C2,(if mid < mid+m - s/\mid+m - s < b then dT f mid (mid+m - s) b (P++(C1++(U++(B2++R)))) else P++(C1++(U++(B2++R))))=P++(C1++(C2++R))/\fz C2/\Same (U++B2) C2:=by
     split
     ·obtain ⟨C2,d1,d2,d3⟩:=rH f (P++C1) U B2 R (by omega) (by omega) (by omega) a2 b2
      rw [List.length_append,show P.length+C1.length=mid by omega,show mid+U.length=mid+m - s by omega,show mid+m - s+B2.length=b by omega] at d1
      exact ⟨C2,by simpa using d1,d2,d3⟩
     ·rcases (by omega:U.length=0\/B2.length=0) with hz|hz
      ·obtain rfl:=List.eq_nil_of_length_eq_zero hz;exact ⟨B2,by simp,b2,Same.refl _⟩
      ·obtain rfl:=List.eq_nil_of_length_eq_zero hz;exact ⟨U,by simp,a2,by rw [List.append_nil];exact Same.refl _⟩
    obtain ⟨C2,d1,d2,d3⟩:=hR
    refine ⟨C1++C2,by rw [d1];simp,hY.2 ⟨c2,d2,?_⟩,?_⟩
    ·intro x hx y hy
     rcases List.mem_append.1 (c3.mem.2 hx) with hx|hx
     ·rcases List.mem_append.1 (d3.mem.2 hy) with hy|hy
      ·exact a3 x hx y hy
      ·exact w2 x hx y hy
     ·rcases List.mem_append.1 (d3.mem.2 hy) with hy|hy
      ·exact lz (w1 y hy x hx)
      ·exact b3 x hx y hy
    ·have e1:Same (A1++U++(V++B2)) (A1++(V++(U++B2))):=by
      have:=(Same.refl A1).app ((Same.comm w1).app (Same.refl B2))
      simpa using this
     have e2:=c3.app d3
     rw [List.append_assoc] at e2
     exact e1.trans e2
theorem Bn {f:Nat} {d:List au} {a m b:Nat} (h1:a < m) (h2:m < b) (h3:b<=d.length) (hf:b - a<=f) (sA:fz ((d.drop a).take (m - a))) (sB:fz ((d.drop m).take (b - m))):Part d (dT f a m b d) a b:=by
 have e1:=parts (d:=d) (a:=a) (b:=b) (by omega) h3
 have e2:(d.drop a).take (b - a)=(d.drop a).take (m - a)++(d.drop m).take (b - m):=by
  rw [show b - a=(m - a)+(b - m) by omega,List.take_add,List.drop_drop,show a+(m - a)=m by omega]
 have l1:(d.take a).length=a:=by rw [List.length_take];omega
 have l2:((d.drop a).take (m - a)).length=m - a:=by rw [List.length_take,List.length_drop];omega
 have l3:((d.drop m).take (b - m)).length=b - m:=by rw [List.length_take,List.length_drop];omega
 obtain ⟨C,c1,c2,c3⟩:=rH f (d.take a) ((d.drop a).take (m - a)) ((d.drop m).take (b - m)) (d.drop b) (by omega) (by omega) (by omega) sA sB
 rw [l1,l2,l3,show a+(m - a)=m by omega,show m+(b - m)=b by omega] at c1
 rw [<-e2] at c3
 rw [e2] at e1
 have e3:d.take a++((d.drop a).take (m - a)++((d.drop m).take (b - m)++d.drop b))=d:=by rw [<-List.append_assoc,<-List.append_assoc,List.append_assoc (d.take a)];exact e1.symm
 rw [e3] at c1
 have:=Part.of (P:=d.take a) (X:=(d.drop a).take (b - a)) (C:=C) (R:=d.drop b) (a:=a) (b:=b) l1 (by rw [List.length_take,List.length_drop];omega) c2 c3
 rwa [e2,<-e1,List.append_assoc,<-c1] at this
theorem tC {p:Nat->Bool} {i j h R:Nat} (hb:gp p i j=R) (hij:i < j) (hh:h=(i+j) / 2) (hp:p h=true):gp p (h+1) j=R:=by
 subst hh;rw [<-hb,Fy hij hp]
theorem tD {p:Nat->Bool} {i j h R:Nat} (hb:gp p i j=R) (hij:i < j) (hh:h=(i+j) / 2) (hp:p h=false):gp p i h=R:=by
 subst hh;rw [<-hb,Fz hij hp]
theorem en {f a m b mid s e:Nat} {d d1 d2 d3:List au} (h0:¬m - a=1) (h1:¬b - m=1) (hm:mid=(a+b) / 2) (hs:eG d a m b=s) (he:mid+m - s=e) (hd1:fw s m e d=d1)
  (hd2:(if a < s/\s < mid then dT f a s mid d1 else d1)=d2) (hd3:(if mid < e/\e < b then dT f mid e b d2 else d2)=d3):dT (f+1) a m b d=d3:=by
 subst hm he hd1 hd2 hd3 hs
 rw [dT.eq_2,if_neg h0,if_neg h1]
def lJ:List au->au->List au
 |[],r=>[r]
 |x::l,r=>if hO r x=true then r::x::l else x::lJ l r
def gY (l:List au):List au:=l.foldl lJ []
theorem wS {r z:au}:∀ {l:List au},z∈lJ l r↔z=r\/z∈l
 |[]=>by simp [lJ]
 |x::l=>by
  unfold lJ
  split
  ·simp
  ·rw [List.mem_cons,wS,List.mem_cons]
   constructor
   ·rintro (h|h|h)
    ·exact .inr (.inl h)
    ·exact .inl h
    ·exact .inr (.inr h)
   ·rintro (h|h|h)
    ·exact .inr (.inl h)
    ·exact .inl h
    ·exact .inr (.inr h)
theorem wR {r:au}:∀ {l:List au},fz l->fz (lJ l r)
 |[],_=>List.pairwise_singleton _ _
 |x::l,h=>by
  obtain ⟨h1,h2⟩:=List.pairwise_cons.1 h
  unfold lJ
  split
  ·rename_i hc
   exact List.pairwise_cons.2 ⟨fun z hz=>by
    rcases List.mem_cons.1 hz with rfl|hz
    ·exact lz hc
    ·exact ly (lz hc) (h1 z hz),h⟩
  ·rename_i hc
   have hc:gE x r:=tc.1 (by simpa using hc)
   exact List.pairwise_cons.2 ⟨fun z hz=>by
    rcases wS.1 hz with rfl|hz
    ·exact hc
    ·exact h1 z hz,wR h2⟩
theorem vd {r:au}:∀ {l:List au},fz l->Same (l++[r]) (lJ l r)
 |[],_=>Same.refl _
 |x::l,h=>by
  obtain ⟨h1,h2⟩:=List.pairwise_cons.1 h
  unfold lJ
  split
  ·rename_i hc
   exact (Same.comm (u:=x::l) (v:=[r]) fun y hy z hz=>by
    rw [List.mem_singleton.1 hz]
    rcases List.mem_cons.1 hy with rfl|hy
    ·exact hc
    ·exact wM hc (h1 y hy))
  ·exact (Same.refl [x]).app (vd h2)
theorem sb:∀ (l acc:List au),fz acc->fz (l.foldl lJ acc)/\Same (acc++l) (l.foldl lJ acc)
 |[],acc,h=>⟨h,by rw [List.append_nil];exact Same.refl _⟩
 |x::l,acc,h=>by
  obtain ⟨h1,h2⟩:=sb l (lJ acc x) (wR h)
  refine ⟨h1,?_⟩
  have h3:=((vd (r:=x) h).app (Same.refl l)).trans h2
  simpa using h3
theorem Bv (l:List au):fz (gY l):=(sb l [] List.Pairwise.nil).1
theorem oh (l:List au):Same l (gY l):=(sb l [] List.Pairwise.nil).2
theorem zI {l d:List au} (h:fz d) (h':Same l d):gY l=d:=fz.uniq (Bv l) h ((oh l).symm.trans h')
theorem uH (l:List au):(gY l).length=l.length:=(oh l).len.symm
theorem Bw {l:List au} (h:l.length=0):gY l=l:=by obtain rfl:=List.eq_nil_of_length_eq_zero h;rfl
def jT (d:List au) (a s:Nat):List au:=(d.drop a).take s
def uu (s a:Nat) (d:List au):Prop:=(∃ q,a=q * s)/\∀ k,(k+1) * s<=a->fz (jT d (k * s) s)
def uo (s:Nat) (d:List au):Prop:=∀ k,fz (jT d (k * s) s)
def nB (s a:Nat) (d:List au):Prop:=uu (2 * s) a d/\∀ k,a<=k * s->fz (jT d (k * s) s)
theorem Part.GD {d y:List au} {a b:Nat} (h:Part d y a b) {c s:Nat} (hc:c+s<=a):jT y c s=jT d c s:=by
 have e:∀ z:List au,jT z c s=((z.take a).drop c).take s:=fun z=>by
  unfold jT;rw [List.drop_take,List.take_take,Nat.min_eq_left (by omega)]
 rw [e y,e d,h.l]
theorem Part.Js {d y:List au} {a b:Nat} (h:Part d y a b) {c s:Nat} (hc:b<=c):jT y c s=jT d c s:=by
 have e:∀ z:List au,jT z c s=((z.drop b).drop (c - b)).take s:=fun z=>by
  unfold jT;rw [List.drop_drop,show b+(c - b)=c by omega]
 rw [e y,e d,h.r]
theorem yA {d:List au} {a s:Nat} (h:d.length<=a):jT d a s=[]:=by unfold jT;rw [List.drop_of_length_le h];simp
theorem tP {d:List au} {a s t:Nat} (hs:d.length<=a+s) (ht:d.length<=a+t):jT d a s=jT d a t:=by
 unfold jT;rw [List.take_of_length_le (by rw [List.length_drop];omega),List.take_of_length_le (by rw [List.length_drop];omega)]
theorem yy:fz []:=List.Pairwise.nil
theorem FQ {k q s:Nat} (h:(k+1) * s<=q * s+s) (hs:0 < s):k<=q:=by
 rw [<-Nat.succ_mul] at h
 have:=Nat.le_of_mul_le_mul_right h hs
 omega
theorem tv {s:Nat} (hs:0 < s) {d:List au}:uu s 0 d:=⟨⟨0,by simp⟩,fun k h=>by rw [Nat.succ_mul] at h;omega⟩
theorem vo {s a:Nat} {d y:List au} (hs:0 < s) (h:uu s a d) (p:Part d y a (a+s)):uu s (a+s) y:=by
 obtain ⟨⟨q,hq⟩,h2⟩:=h
 refine ⟨⟨q+1,by rw [Nat.succ_mul,hq]⟩,fun k hk=>?_⟩
 subst hq
 have hkq:=FQ hk hs
 by_cases e:k=q
 ·subst e
  have:=p.s
  rw [Nat.add_sub_cancel_left] at this
  exact this
 ·have h3:(k+1) * s<=q * s:=Nat.mul_le_mul_right s (by omega)
  rw [p.GD (by rw [Nat.succ_mul] at h3;exact h3)]
  exact h2 k h3
theorem xn {s a:Nat} {d y:List au} (hs:0 < s) (h:uu s a d) (ha:a<=y.length) (p:Part d y a y.length) (hn:y.length<=a+s):uo s y:=by
 obtain ⟨⟨q,rfl⟩,h2⟩:=h
 intro k
 rcases Nat.lt_trichotomy k q with e|e|e
 ·have h3:(k+1) * s<=q * s:=Nat.mul_le_mul_right s (by omega)
  rw [p.GD (by rw [Nat.succ_mul] at h3;exact h3)]
  exact h2 k h3
 ·subst e
  have h3:=p.s
  rw [tP (t:=y.length - k * s) hn (by omega)]
  exact h3
 ·have h3:(q+1) * s<=k * s:=Nat.mul_le_mul_right s (by omega)
  rw [Nat.succ_mul] at h3
  rw [yA (by omega)];exact yy
theorem DC {s:Nat} {d:List au} (h:uo s d) (hs:d.length<=s):fz d:=by
 have:=h 0
 unfold jT at this
 rw [Nat.zero_mul,List.drop_zero,List.take_of_length_le hs] at this
 exact this
theorem Ai {s:Nat} (hs:0 < s) {d:List au} (h:uo s d):nB s 0 d:=⟨tv (by omega),fun k _=>h k⟩
theorem nB.mul {s a:Nat} {d:List au} (h:nB s a d):∃ k,a=k * s:=by
 obtain ⟨q,hq⟩:=h.1.1
 exact ⟨q * 2,by rw [hq,Nat.mul_assoc]⟩
theorem Ed {s a:Nat} {d:List au} (h:nB s a d):fz (jT d a s)/\fz (jT d (a+s) s):=by
 obtain ⟨k,hk⟩:=h.mul
 refine ⟨?_,?_⟩
 ·have:=h.2 k (by omega);rwa [<-hk] at this
 ·have:=h.2 (k+1) (by rw [Nat.succ_mul];omega);rwa [Nat.succ_mul,<-hk] at this
theorem Cq {s a:Nat} {d y:List au} (hs:0 < s) (h:nB s a d) (p:Part d y a (a+2 * s)):nB s (a+2 * s) y:=
 ⟨vo (by omega) h.1 p,fun k hk=>by rw [p.Js hk];exact h.2 k (by omega)⟩
theorem Ee {s a:Nat} {d y:List au} (hs:0 < s) (h:nB s a d) (ha:a<=y.length) (p:Part d y a y.length) (hn:y.length<=a+2 * s):uo (s * 2) y:=by
 rw [Nat.mul_comm];exact xn (by omega) h.1 ha p hn
theorem Cs {s a:Nat} {d:List au} (hs:0 < s) (h:nB s a d) (hn:d.length<=a+s):uo (s * 2) d:=by
 rw [Nat.mul_comm]
 obtain ⟨⟨⟨q,rfl⟩,h2⟩,h3⟩:=h
 intro k
 rcases Nat.lt_trichotomy k q with e|e|e
 ·exact h2 k (Nat.mul_le_mul_right _ (by omega))
 ·subst e
  rw [tP (t:=s) (by omega) hn]
  have:=h3 (k * 2) (by rw [Nat.mul_assoc];omega)
  rwa [Nat.mul_assoc] at this
 ·have h4:(q+1) * (2 * s)<=k * (2 * s):=Nat.mul_le_mul_right _ (by omega)
  rw [Nat.succ_mul] at h4
  rw [yA (by omega)];exact yy
theorem wa {s a b:Nat} {d:List au} (hs:0 < s) (h:nB s a d) (h1:a+s < b) (h2:b<=d.length) (h3:b=a+2 * s\/(b=d.length/\b<=a+2 * s)):Part d (dT (b - a) a (a+s) b d) a b:=by
 obtain ⟨s1,s2⟩:=Ed h
 refine Bn (by omega) h1 h2 (Nat.le_refl _) ?_ ?_
 ·rw [Nat.add_sub_cancel_left];exact s1
 ·rcases h3 with h3|⟨h3,h4⟩
  ·rw [show b - (a+s)=s by omega];exact s2
  ·have:=tP (d:=d) (a:=a+s) (s:=s) (t:=b - (a+s)) (by omega) (by omega)
   show fz (jT d (a+s) (b - (a+s)))
   rw [<-this];exact s2
def nA (r:au):Prop:=r.kind < 1\/r.kind > 8
def oT (r:au):Prop:=r.az < 0\/r.az > 7\/r.ba < 0\/r.ba > 29\/r.sum < 1\/r.sum > 1000000
instance (r:au):Decidable (nA r):=by unfold nA;infer_instance
instance (r:au):Decidable (oT r):=by unfold oT;infer_instance
def nw:List au->Int->cV
 |[],_=>⟨0,0⟩
 |r::l,i=>if nA r then ⟨1,i⟩ else if oT r then ⟨3,i⟩ else nw l (i+1)
def gV (l:List au):cV:=if l.length > 100 then ⟨5,0⟩ else nw l 0
theorem pI {l:List au} {q:Nat} {x:au} (h:l[q]?=some x):nw (l.drop q) q=if nA x then ⟨1,q⟩ else if oT x then ⟨3,q⟩ else nw (l.drop (q+1)) ((q+1:Nat):Int):=by
 obtain ⟨hq,rfl⟩:=List.getElem?_eq_some_iff.1 h
 rw [List.drop_eq_getElem_cons hq];rfl
theorem BG {l:List au} {q:Nat} {i:Int} (h:l.length<=q):nw (l.drop q) i=⟨0,0⟩:=by rw [List.drop_of_length_le h];rfl
def yO (r:au):Prop:=¬nA r/\¬oT r
theorem yI:∀ {l:List au} {i:Int},(nw l i).err=0↔∀ x∈l,yO x
 |[],i=>by simp [nw]
 |r::l,i=>by
  unfold nw
  split
  ·rename_i h
   simp only [List.mem_cons,forall_eq_or_imp]
   exact ⟨fun e=>absurd e (by decide),fun e=>absurd h e.1.1⟩
  ·split
   ·rename_i h
    simp only [List.mem_cons,forall_eq_or_imp]
    exact ⟨fun e=>absurd e (by decide),fun e=>absurd h e.1.2⟩
   ·rename_i h1 h2
    rw [yI]
    simp only [List.mem_cons,forall_eq_or_imp]
    exact ⟨fun e=>⟨⟨h1,h2⟩,e⟩,fun e=>e.2⟩
theorem Bb {l:List au}:(gV l).err=0↔l.length<=100/\∀ x∈l,yO x:=by
 unfold gV
 split
 ·exact ⟨fun e=>absurd e (by decide),fun e=>by omega⟩
 ·rw [yI];exact ⟨fun e=>⟨by omega,e⟩,fun e=>e.2⟩
theorem Ip {x:au} (h:yO x):0<=x.az/\x.az<=7/\0<=x.ba/\x.ba<=29/\1<=x.kind/\x.kind<=8/\1<=x.sum/\x.sum<=1000000:=by
 unfold yO nA oT at h;omega
theorem sK {l:List au} {q:Nat} {x:au} (h:l[q]?=some x):l.take (q+1)=l.take q++[x]:=by
 rw [List.take_add_one,h];rfl
def nf (n:Int):Nat->List Int
 |0=>[]
 |k+1=>n / 256 ^ k % 256::nf n k
theorem qF (n:Int):∀ k,(nf n k).length=k
 |0=>rfl
 |k+1=>by unfold nf;rw [List.length_cons,qF n k]
theorem EO {n:Int} {k:Nat} (h:1<=k):nf n k=n / 256 ^ (k - 1) % 256::nf n (k - 1):=by
 obtain ⟨j,rfl⟩:∃ j,k=j+1:=⟨k - 1,by omega⟩
 rfl
theorem FL (k:Nat):(2:Int) ^ (8 * k)=256 ^ k:=by rw [Int.pow_mul];rfl
theorem Jr {k:Nat} {b n:Int} (h1:1<=k) (hb:b=8 * ((k:Int) - 1)):n / 2 ^ b.toNat=n / 256 ^ (k - 1):=by
 subst hb
 rw [show (8 * ((k:Int) - 1)).toNat=8 * (k - 1) by omega,FL]
def wz (x:au):List Int:=[x.az % 256,x.ba % 256,x.kind % 256]++nf x.sum 3
def mu:List au->Int
 |[]=>0
 |x::l=>x.sum+mu l
theorem Du (u v:List au):mu (u++v)=mu u+mu v:=by
 induction u with
 |nil=>simp [mu]
 |cons x u ih=>simp only [List.cons_append,mu,ih];omega
theorem Bq {l:List au} {q:Nat} {x:au} (h:l[q]?=some x):mu (l.take (q+1))=mu (l.take q)+x.sum:=by
 rw [sK h,Du];simp [mu]
def mX (l r:List au):List Int:=((l.length:Int) % 256)::r.flatMap wz
theorem Ah {l r:List au} {q:Nat} {x:au} (h:r[q]?=some x):mX l (r.take (q+1))=mX l (r.take q)++wz x:=by
 unfold mX;rw [sK h,List.flatMap_append];simp
theorem DO (x:au):(wz x).length=6:=by unfold wz;rw [List.length_append,qF];rfl
theorem Cp (l r:List au):(mX l r).length=1+6 * r.length:=by
 unfold mX
 rw [List.length_cons]
 induction r with
 |nil=>rfl
 |cons x r ih=>rw [List.flatMap_cons,List.length_append,DO,List.length_cons];omega
def jh (l:List au):List Int×cV:=if (gV l).err=0 then (mX l (gY l)++nf (mu (gY l)) 4,⟨0,0⟩) else ([],gV l)
def dN (e err:Int):Int:=if e=0 then err else e
def dL (l:List Entry) (e src dst n:Int):List Entry×Int:=
 if dN e (iK l src dst n).2=0 then ((iK l src dst n).1,0) else (l,dN e (iK l src dst n).2)
def cE (l:List bD) (e k held bB:Int):List bD×Int:=
 match l[k.toNat]? with
 |none=>(l,e)
 |some c=>if dN e (eo c held bB).2=0 then (l.set k.toNat (eo c held bB).1,0) else (l,dN e (eo c held bB).2)
def fb (s:bO) (e:Int) (t:aS):bO×Int:=if dN e (gX s t).2=0 then ((gX s t).1,0) else (s,dN e (gX s t).2)
def jn (l:List au) (e:Int) (r:au):List au×Int:=if l.length=100 then (l,dN e 5) else (l++[r],e)
theorem pz {l:List bD} {e k held bB:Int} {c:bD} (h:l[k.toNat]?=some c):cE l e k held bB=if dN e (eo c held bB).2=0 then (l.set k.toNat (eo c held bB).1,0) else (l,dN e (eo c held bB).2):=by
 unfold cE;rw [h]
def dv (aj:List bl) (due:List Int) (ag:List bD) (book:List Entry) (e:Int) (t:aS):List Int×List bD×List Entry×Int:=
 match aj[t.ba.toNat]? with
 |none=>(due,ag,book,e)
 |some a=>
  if t.kind=1 then (due.set a.az.toNat (IntKind.i64.wrap (due.getD a.az.toNat 0+t.sum)),ag,dL book e 1 (50+a.az) t.sum)
  else if t.kind=2 then (due,(cE ag e a.aO 0 t.sum).1,dL book (cE ag e a.aO 0 t.sum).2 1 (10+a.aO) t.sum)
  else if t.kind=3 then (due.set a.az.toNat (IntKind.i64.wrap (due.getD a.az.toNat 0 - t.sum)),ag,dL book e (50+a.az) 2 t.sum)
  else (due,ag,book,e)
structure Bk where (time:Int) (down:Bool) (ag:List bD) (due:List Int) (aj:List bl) (s0 s1:bO) (n0 n1:Int) (w0 w1:List bS) (bx:cG) (aQ:List au) (book:List Entry)
 deriving DecidableEq
def cQ (b c:Bk) (e:Int):Bk×Answer:=if e=0 then (c,⟨0,0⟩) else (b,⟨e,0⟩)
def ey (b:Bk) (d:aV):Bk×Answer:=
 if d.n < 0\/d.n>=b.ag.length then (b,⟨6,0⟩)
 else if d.sum < 1\/d.sum > 1000000 then (b,⟨3,0⟩)
 else cQ b {b with ag:=(cE b.ag 0 d.n 0 d.sum).1,book:=(dL b.book (cE b.ag 0 d.n 0 d.sum).2 0 (10+d.n) d.sum).1} (dL b.book (cE b.ag 0 d.n 0 d.sum).2 0 (10+d.n) d.sum).2
def eH (b:Bk) (d:aV):Bk×Answer:=
 if d.n < 0\/d.n>=b.due.length then (b,⟨6,0⟩)
 else if b.due.getD d.n.toNat 0<=0 then (b,⟨10,0⟩)
 else cQ b {b with due:=b.due.set d.n.toNat 0,book:=(dL b.book 0 (50+d.n) 0 (b.due.getD d.n.toNat 0)).1} (dL b.book 0 (50+d.n) 0 (b.due.getD d.n.toNat 0)).2
def eL (time:Int):List bl->Nat->List bD->List bl->Int->List bD×List bl×Int
 |[],_,ag,aj,e=>(ag,aj,e)
 |a::l,i,ag,aj,e=>eL time l (i+1) (cE ag e a.aO (bQ (ei a time) - bQ a) 0).1 (aj.set i (ei a time)) (cE ag e a.aO (bQ (ei a time) - bQ a) 0).2
def fj (b:Bk):Bk:=if (eL b.time b.aj 0 b.ag b.aj 0).2.2=0 then {b with ag:=(eL b.time b.aj 0 b.ag b.aj 0).1,aj:=(eL b.time b.aj 0 b.ag b.aj 0).2.1} else b
def ea (b:Bk) (d:aV):Bk×Answer:=
 if d.sum < 0\/d.sum > 1000000 - b.time then (b,⟨3,0⟩)
 else (if b.down=true then {b with time:=b.time+d.sum} else fj {b with time:=b.time+d.sum},⟨0,0⟩)
def gr (l:List bS) (ks:List aS) (n:Int):List bS:=l++ks.map (fun t=>⟨t,-1⟩)++[⟨⟨0,0,0,0⟩,n⟩]
def gZ (w:List bS) (ks:List aS) (n:Int):List bS×Answer:=if (gr w ks n).length > 60 then (w,⟨5,0⟩) else (gr w ks n,⟨0,0⟩)
def dQ (s0 s1:bO) (n0 n1:Int) (w0 w1:List bS) (d:aV):List bS×List bS×Answer:=
 if d.n=0 then (w0,gZ w1 s0.kept n0) else if d.n=1 then ((gZ w0 s1.kept n1).1,w1,(gZ w0 s1.kept n1).2) else (w0,w1,⟨6,0⟩)
def fS (aQ:List au) (days:List (List Int)):List au×List (List Int)×Answer:=
 if (jh aQ).2.err≠0 then (aQ,days,⟨(jh aQ).2.err,0⟩) else ([],days++[(jh aQ).1],⟨0,0⟩)
def ib (e:Int):Int:=if e=10 then 12 else e
def du (b:Bk) (d:aV):Bk×Answer:=
 if d.n < 0\/d.n>=b.ag.length\/d.az < 0\/d.az>=b.due.length then (b,⟨6,0⟩)
 else if b.down=true then
  (if ib (cx b.bx ⟨d.n,d.az,d.sum,b.time⟩).2=0/\(b.aj.length:Int)+(cx b.bx ⟨d.n,d.az,d.sum,b.time⟩).1.bb.length > 30 then (b,⟨5,0⟩)
  else if ib (cx b.bx ⟨d.n,d.az,d.sum,b.time⟩).2≠0 then (b,⟨ib (cx b.bx ⟨d.n,d.az,d.sum,b.time⟩).2,0⟩)
  else ({b with bx:=(cx b.bx ⟨d.n,d.az,d.sum,b.time⟩).1},⟨0,(b.aj.length:Int)+(cx b.bx ⟨d.n,d.az,d.sum,b.time⟩).1.bb.length - 1⟩))
 else if (dp d.n d.az d.sum b.time).2=0/\b.aj.length=30 then (b,⟨5,0⟩)
 else if (dp d.n d.az d.sum b.time).2≠0 then (b,⟨(dp d.n d.az d.sum b.time).2,0⟩)
 else match b.ag[d.n.toNat]? with
  |none=>(b,⟨0,0⟩)
  |some c=>
   if (dE c d.sum b.time).2≠0 then (b,⟨(dE c d.sum b.time).2,0⟩)
   else ({b with ag:=b.ag.set d.n.toNat (dE c d.sum b.time).1,aj:=b.aj++[(dp d.n d.az d.sum b.time).1]},⟨0,b.aj.length⟩)
theorem vE (s:cG) (a:cg):(cx s a).1.bb.length<=s.bb.length+1:=by
 unfold cx;(repeat' split)<;>simp [gl]
def lB (ag:List bD) (k:Int):Int:=
 match ag[k.toNat]? with
 |none=>0
 |some c=>c.bB - c.held
def dn (b:Bk) (a cj:bl) (d:aV):List bD×List Int×List Entry×bO×bO×Int:=
 if d.move=1\/d.move=4 then ((cE b.ag 0 a.aO (bQ a - bQ cj) 0).1,b.due,b.book,b.s0,b.s1,(cE b.ag 0 a.aO (bQ a - bQ cj) 0).2)
 else if d.move=2\/d.move=3 then
  ((cE b.ag 0 a.aO (bQ a - bQ cj) (0 - d.sum)).1,b.due,(dL b.book (cE b.ag 0 a.aO (bQ a - bQ cj) (0 - d.sum)).2 (10+a.aO) 1 d.sum).1,
   (fb b.s0 (dL b.book (cE b.ag 0 a.aO (bQ a - bQ cj) (0 - d.sum)).2 (10+a.aO) 1 d.sum).2 ⟨0,1,d.n,d.sum⟩).1,b.s1,
   (fb b.s0 (dL b.book (cE b.ag 0 a.aO (bQ a - bQ cj) (0 - d.sum)).2 (10+a.aO) 1 d.sum).2 ⟨0,1,d.n,d.sum⟩).2)
 else if d.move=5 then
  (b.ag,b.due.set a.az.toNat (IntKind.i64.wrap (b.due.getD a.az.toNat 0 - d.sum)),(dL b.book 0 (50+a.az) 1 d.sum).1,b.s0,(fb b.s1 (dL b.book 0 (50+a.az) 1 d.sum).2 ⟨0,2,d.n,d.sum⟩).1,(fb b.s1 (dL b.book 0 (50+a.az) 1 d.sum).2 ⟨0,2,d.n,d.sum⟩).2)
 else if d.move=6 then ((cE b.ag 0 a.aO 0 d.sum).1,b.due,(dL b.book (cE b.ag 0 a.aO 0 d.sum).2 2 (10+a.aO) d.sum).1,b.s0,b.s1,(dL b.book (cE b.ag 0 a.aO 0 d.sum).2 2 (10+a.aO) d.sum).2)
 else if d.move=7 then (b.ag,b.due,b.book,(fb b.s0 0 ⟨0,3,d.n,d.sum⟩).1,b.s1,(fb b.s0 0 ⟨0,3,d.n,d.sum⟩).2)
 else if d.move=8 then ((cE b.ag 0 a.aO 0 (0 - d.sum)).1,b.due,(dL b.book (cE b.ag 0 a.aO 0 (0 - d.sum)).2 (10+a.aO) 2 d.sum).1,b.s0,b.s1,(dL b.book (cE b.ag 0 a.aO 0 (0 - d.sum)).2 (10+a.aO) 2 d.sum).2)
 else (b.ag,b.due,b.book,b.s0,b.s1,0)
def kx (b:Bk) (a:bl) (d:aV) (r:List bD×List Int×List Entry×bO×bO×Int):Bk×Answer:=
 cQ b { b with ag := r.1, due := r.2.1, book := r.2.2.1, s0 := r.2.2.2.1, s1 := r.2.2.2.2.1, aQ := (jn b.aQ r.2.2.2.2.2 ⟨a.az, d.n, d.move, d.sum⟩).1, aj := b.aj.set d.n.toNat a } (jn b.aQ r.2.2.2.2.2 ⟨a.az, d.n, d.move, d.sum⟩).2
def cT (b:Bk) (d:aV):Bk×Answer:=
 if b.down=true then (b,⟨12,0⟩)
 else if d.n < 0\/d.n>=b.aj.length then (b,⟨6,0⟩)
 else match b.aj[d.n.toNat]? with
  |none=>(b,⟨0,0⟩)
  |some cj=>
   if (bX cj d.move d.sum).2≠0 then (b,⟨(bX cj d.move d.sum).2,0⟩)
   else if d.move=1/\d.sum > lB b.ag (bX cj d.move d.sum).1.aO then (b,⟨10,0⟩)
   else kx b (bX cj d.move d.sum).1 d (dn b (bX cj d.move d.sum).1 cj d)
theorem jL {a:bl} (h:0<=a.sum/\a.sum<=1000000/\0<=a.captured/\a.captured<=a.sum/\0<=a.bC/\0<=a.bj/\a.bC+a.bj<=a.captured/\0<=a.aO/\a.aO<=7/\0<=a.az/\a.az<=7/\0<=a.dq/\a.dq<=1000100):bL a=0:=by
 unfold bL;rw [if_neg (by omega),if_neg (by omega)]
theorem fE {α:Type} {x b:α} {e:Int} (h:(x,e)=(b,(0:Int))):x=b/\e=0:=Prod.mk.inj h
theorem xY {a b:bl} {k n:Int} (hw:bL a=0) (h1:1<=n) (h2:n<=1000000) (h:eh a k n=(b,0)):bL b=0/\b.aO=a.aO/\b.az=a.az:=by
 have hr:=eE hw
 unfold eh at h
 by_cases c1:a.shut=true
 ·rw [if_pos c1] at h;have:=(fE h).2;omega
 rw [if_neg c1] at h
 by_cases c2:k=1
 ·rw [if_pos c2] at h
  by_cases c3:n > 1000000 - a.sum
  ·rw [if_pos c3] at h;have:=(fE h).2;omega
  ·rw [if_neg c3] at h;obtain ⟨rfl,_⟩:=fE h
   exact ⟨jL (by dsimp only;omega),rfl,rfl⟩
 rw [if_neg c2] at h
 by_cases c3:n > a.sum - a.captured
 ·rw [if_pos c3] at h;have:=(fE h).2;omega
 rw [if_neg c3] at h
 by_cases c4:k=4
 ·rw [if_pos c4] at h;obtain ⟨rfl,_⟩:=fE h
  exact ⟨jL (by dsimp only;omega),rfl,rfl⟩
 ·rw [if_neg c4] at h;obtain ⟨rfl,_⟩:=fE h
  exact ⟨jL (by dsimp only;omega),rfl,rfl⟩
theorem ik {a b:bl} {k n:Int} (h:bX a k n=(b,0)):bL a=0/\bL b=0/\b.aO=a.aO/\b.az=a.az/\1<=k/\k<=8/\1<=n/\n<=1000000:=by
 unfold bX at h
 by_cases c0:bL a≠0
 ·rw [if_pos c0] at h;exact absurd (fE h).2 c0
 rw [if_neg c0] at h
 have hw:bL a=0:=by omega
 have hr:=eE hw
 by_cases c1:k < 1\/k > 8
 ·rw [if_pos c1] at h;have:=(fE h).2;omega
 rw [if_neg c1] at h
 by_cases c2:n < 1\/n > 1000000
 ·rw [if_pos c2] at h;have:=(fE h).2;omega
 rw [if_neg c2] at h
 have hb:bL b=0/\b.aO=a.aO/\b.az=a.az:=by
  by_cases k5:k=5
  ·rw [if_pos k5] at h
   by_cases c:n > a.captured - a.bC - a.bj
   ·rw [if_pos c] at h;have:=(fE h).2;omega
   ·rw [if_neg c] at h;obtain ⟨rfl,_⟩:=fE h;exact ⟨jL (by dsimp only;omega),rfl,rfl⟩
  rw [if_neg k5] at h
  by_cases k6:k=6
  ·rw [if_pos k6] at h
   by_cases c:n > a.captured - a.bC - a.bj
   ·rw [if_pos c] at h;have:=(fE h).2;omega
   ·rw [if_neg c] at h;obtain ⟨rfl,_⟩:=fE h;exact ⟨jL (by dsimp only;omega),rfl,rfl⟩
  rw [if_neg k6] at h
  by_cases k7:k=7
  ·rw [if_pos k7] at h
   by_cases c:n > a.bj
   ·rw [if_pos c] at h;have:=(fE h).2;omega
   ·rw [if_neg c] at h;obtain ⟨rfl,_⟩:=fE h;exact ⟨jL (by dsimp only;omega),rfl,rfl⟩
  rw [if_neg k7] at h
  by_cases k8:k=8
  ·rw [if_pos k8] at h
   by_cases c:n > a.bj
   ·rw [if_pos c] at h;have:=(fE h).2;omega
   ·rw [if_neg c] at h;obtain ⟨rfl,_⟩:=fE h;exact ⟨jL (by dsimp only;omega),rfl,rfl⟩
  rw [if_neg k8] at h
  by_cases c:(eh a k n).2≠0
  ·rw [if_pos c] at h;exact absurd (fE h).2 c
  ·rw [if_neg c] at h;exact xY hw (by omega) (by omega) h
 exact ⟨hw,hb.1,hb.2.1,hb.2.2,by omega,by omega,by omega,by omega⟩
theorem Dm {c:bD} (h:cH c=0):-9223372036854775808<=c.bB - c.held/\c.bB - c.held<=9223372036854775807:=by
 have:=iy h;omega
def fe:List cg->List bD->List bl->List bD×List bl×Int
 |[],cs,xs=>(cs,xs,0)
 |x::l,cs,xs=>
  if (dp x.aO x.az x.sum x.time).2≠0 then (cs,xs,(dp x.aO x.az x.sum x.time).2)
  else match cs[x.aO.toNat]? with
   |none=>(cs,xs,0)
   |some c=>if (eW c x.sum).2≠0 then (cs,xs,(eW c x.sum).2) else fe l (cs.set x.aO.toNat (eW c x.sum).1) (xs++[(dp x.aO x.az x.sum x.time).1])
theorem rF {l:List cg} {q:Nat} {x:cg} {cs:List bD} {xs:List bl} (h:l[q]?=some x):fe (l.drop q) cs xs=
  if (dp x.aO x.az x.sum x.time).2≠0 then (cs,xs,(dp x.aO x.az x.sum x.time).2)
  else match cs[x.aO.toNat]? with
   |none=>(cs,xs,0)
   |some c=>if (eW c x.sum).2≠0 then (cs,xs,(eW c x.sum).2) else fe (l.drop (q+1)) (cs.set x.aO.toNat (eW c x.sum).1) (xs++[(dp x.aO x.az x.sum x.time).1]):=by
 obtain ⟨hq,rfl⟩:=List.getElem?_eq_some_iff.1 h
 rw [List.drop_eq_getElem_cons hq];rfl
def gn (b:Bk):Bk×Answer:=
 if b.down=false then (b,⟨8,0⟩)
 else if (cC b.bx).2.2≠0 then (b,⟨(cC b.bx).2.2,0⟩)
 else if (fe (cC b.bx).2.1 b.ag b.aj).2.2≠0 then (b,⟨(fe (cC b.bx).2.1 b.ag b.aj).2.2,0⟩)
 else (fj {b with ag:=(fe (cC b.bx).2.1 b.ag b.aj).1,aj:=(fe (cC b.bx).2.1 b.ag b.aj).2.1,bx:=(cC b.bx).1,down:=false},⟨0,0⟩)
def ew (b:Bk) (d:aV):Bk×Answer:=
 match b.w0[0]? with
 |none=>(b,⟨6,0⟩)
 |some p=>
  if d.kind=7 then ({b with w0:=b.w0.drop 1},⟨0,0⟩)
  else if p.seen>=0 then (if (eg b.s0 p.seen).2=0 then ({b with w0:=b.w0.drop 1,s0:=(eg b.s0 p.seen).1},⟨0,0⟩) else (b,⟨(eg b.s0 p.seen).2,0⟩))
  else if (fg b.n0 p.bY).2=true then
   cQ b { b with w0 := b.w0.drop 1, n0 := (fg b.n0 p.bY).1, due := (dv b.aj b.due b.ag b.book 0 p.bY).1, ag := (dv b.aj b.due b.ag b.book 0 p.bY).2.1, book := (dv b.aj b.due b.ag b.book 0 p.bY).2.2.1 } (dv b.aj b.due b.ag b.book 0 p.bY).2.2.2
  else ({b with w0:=b.w0.drop 1,n0:=(fg b.n0 p.bY).1},⟨0,0⟩)
def eu (b:Bk) (d:aV):Bk×Answer:=
 match b.w1[0]? with
 |none=>(b,⟨6,0⟩)
 |some p=>
  if d.kind=7 then ({b with w1:=b.w1.drop 1},⟨0,0⟩)
  else if p.seen>=0 then (if (eg b.s1 p.seen).2=0 then ({b with w1:=b.w1.drop 1,s1:=(eg b.s1 p.seen).1},⟨0,0⟩) else (b,⟨(eg b.s1 p.seen).2,0⟩))
  else if (fg b.n1 p.bY).2=true then
   cQ b { b with w1 := b.w1.drop 1, n1 := (fg b.n1 p.bY).1, due := (dv b.aj b.due b.ag b.book 0 p.bY).1, ag := (dv b.aj b.due b.ag b.book 0 p.bY).2.1, book := (dv b.aj b.due b.ag b.book 0 p.bY).2.2.1 } (dv b.aj b.due b.ag b.book 0 p.bY).2.2.2
  else ({b with w1:=b.w1.drop 1,n1:=(fg b.n1 p.bY).1},⟨0,0⟩)
def bE (b:Bk) (d:aV):Bk×Answer:=if d.n=0 then ew b d else if d.n=1 then eu b d else (b,⟨6,0⟩)
def cq (b:Bk) (days:List (List Int)) (d:aV):Bk×List (List Int)×Answer:=
 if d.kind=1 then ((ey b d).1,days,(ey b d).2)
 else if d.kind=2 then ((du b d).1,days,(du b d).2)
 else if d.kind=3 then ((cT b d).1,days,(cT b d).2)
 else if d.kind=4 then ((ea b d).1,days,(ea b d).2)
 else if d.kind=5 then ({b with w0:=(dQ b.s0 b.s1 b.n0 b.n1 b.w0 b.w1 d).1,w1:=(dQ b.s0 b.s1 b.n0 b.n1 b.w0 b.w1 d).2.1},days,(dQ b.s0 b.s1 b.n0 b.n1 b.w0 b.w1 d).2.2)
 else if d.kind=6\/d.kind=7 then ((bE b d).1,days,(bE b d).2)
 else if d.kind=8 then (if b.down=true then (b,days,⟨8,0⟩) else ({b with down:=true},days,⟨0,0⟩))
 else if d.kind=9 then ((gn b).1,days,(gn b).2)
 else if d.kind=10 then ({b with aQ:=(fS b.aQ days).1},(fS b.aQ days).2.1,(fS b.aQ days).2.2)
 else if d.kind=11 then ((eH b d).1,days,(eH b d).2)
 else (b,days,⟨1,0⟩)
def da (b:Bk) (days:List (List Int)) (told:List (Int×Answer)) (cl:Nat) (d:aV):Bk×List (List Int)×List (Int×Answer)×Nat×Answer:=
 if (fB told d.id).isSome=true/\d.id≠0 then (b,days,told,cl,(fB told d.id).getD ⟨0,0⟩)
 else ((cq b days d).1,(cq b days d).2.1,lG told d.id (cq b days d).2.2,if (fB told d.id).isSome then cl else cl+1,(cq b days d).2.2)
structure Setup where (cK:List eP) (eY cap:Int)
 deriving DecidableEq
def pL:List eP->Int->cV
 |[],_=>⟨0,0⟩
 |p::l,i=>if fI p≠0 then ⟨fI p,i⟩ else pL l (i+1)
theorem uQ {l:List eP} {q:Nat} {p:eP} (h:l[q]?=some p):pL (l.drop q) q=if fI p≠0 then ⟨fI p,q⟩ else pL (l.drop (q+1)) ((q+1:Nat):Int):=by
 obtain ⟨hq,rfl⟩:=List.getElem?_eq_some_iff.1 h
 rw [List.drop_eq_getElem_cons hq];rfl
def dZ (s:Setup):cV:=
 if s.cK.length > 8\/s.eY < 0\/s.eY > 8 then ⟨5,0⟩ else if s.cap < 0\/s.cap > 1000000 then ⟨3,0⟩ else pL s.cK 0
def GI:Bk:=⟨0,false,[],[],[],⟨0,[]⟩,⟨0,[]⟩,0,0,[],[],⟨0,[],[]⟩,[],[]⟩
def nd (p:eP):bD:=⟨0,0,p,[]⟩
def dk (s:Setup):Bk:=⟨0,false,s.cK.map nd,List.replicate s.eY.toNat 0,[],⟨0,[]⟩,⟨0,[]⟩,0,0,[],[],(dV s.cap s.cK.length).1,[],[]⟩
def iX:List aV->Bk->List (List Int)->List (Int×Answer)->Nat->List Answer->Bk×List (List Int)×List Answer
 |[],b,days,_,_,out=>(b,days,out)
 |d::l,b,days,told,cl,out=>iX l (da b days told cl d).1 (da b days told cl d).2.1 (da b days told cl d).2.2.1 (da b days told cl d).2.2.2.1 (out++[(da b days told cl d).2.2.2.2])
theorem zS {l:List aV} {q:Nat} {d:aV} {b:Bk} {days:List (List Int)} {told:List (Int×Answer)} {cl:Nat} {out:List Answer} (h:l[q]?=some d):
  iX (l.drop q) b days told cl out=iX (l.drop (q+1)) (da b days told cl d).1 (da b days told cl d).2.1 (da b days told cl d).2.2.1 (da b days told cl d).2.2.2.1 (out++[(da b days told cl d).2.2.2.2]):=by
 obtain ⟨hq,rfl⟩:=List.getElem?_eq_some_iff.1 h
 rw [List.drop_eq_getElem_cons hq];rfl
def fi (s:Setup) (l:List aV):Bk×List (List Int)×List Answer×cV:=
 if (dZ s).err≠0 then (GI,[],[],dZ s) else if l.length > 150 then (GI,[],[],⟨5,0⟩)
 else ((iX l (dk s) [] [] 0 []).1,(iX l (dk s) [] [] 0 []).2.1,(iX l (dk s) [] [] 0 []).2.2,⟨0,0⟩)
theorem Af {time:Int} {l:List bl} {q:Nat} {a:bl} {ag:List bD} {aj:List bl} {e:Int} (h:l[q]?=some a):eL time (l.drop q) q ag aj e=
  eL time (l.drop (q+1)) (q+1) (cE ag e a.aO (bQ (ei a time) - bQ a) 0).1 (aj.set q (ei a time)) (cE ag e a.aO (bQ (ei a time) - bQ a) 0).2:=by
 obtain ⟨hq,rfl⟩:=List.getElem?_eq_some_iff.1 h
 rw [List.drop_eq_getElem_cons hq];rfl
theorem fq (l:List bD) (e k held bB:Int):(cE l e k held bB).1.length=l.length:=by
 unfold cE
 split
 ·rfl
 ·split<;>simp
theorem zc {a:bl} {t:Int} (h:bL a=0):bL (ei a t)=0:=by
 unfold bL at h ⊢;unfold ei;exact h
theorem pU {a:bl} (h:bL a=0):0<=bQ a/\bQ a<=1000000:=by
 have:=eE h
 unfold bQ;split<;>omega
structure ct (b:Bk):Prop where
 time:0<=b.time/\b.time<=1000000
 ag:b.ag.length<=8
 due:b.due.length<=8
 aj:b.aj.length+b.bx.bb.length<=30
 aQ:b.aQ.length<=100
 w0:b.w0.length<=60
 w1:b.w1.length<=60
 perm:∀ a∈b.aj,bL a=0/\0<=a.aO/\a.aO < b.ag.length/\0<=a.az/\a.az < b.due.length
 jI:∀ a∈b.bx.bb,0<=a.aO/\a.aO < b.ag.length/\0<=a.az/\a.az < b.due.length
 k0:∀ t∈b.s0.kept,fA t.number/\0<=t.ba/\t.ba < b.aj.length
 k1:∀ t∈b.s1.kept,fA t.number/\0<=t.ba/\t.ba < b.aj.length
 right:∀ c∈b.ag,cH c=0
 l0:b.s0.kept.length<=40
 l1:b.s1.kept.length<=40
 p0:∀ p∈b.w0,p.seen < 0->fA p.bY.number/\0<=p.bY.ba/\p.bY.ba < b.aj.length
 p1:∀ p∈b.w1,p.seen < 0->fA p.bY.number/\0<=p.bY.ba/\p.bY.ba < b.aj.length
 n0:0<=b.n0
 n1:0<=b.n1
 calm:b.down=false->b.bx.bb=[]
theorem ct.tick {b:Bk} (h:ct b) {t:Int} (h0:0<=t) (h1:t<=1000000):ct {b with time:=t}:=
 ⟨⟨h0,h1⟩,h.ag,h.due,h.aj,h.aQ,h.w0,h.w1,h.perm,h.jI,h.k0,h.k1,h.right,h.l0,h.l1,h.p0,h.p1,h.n0,h.n1,h.calm⟩
def BN (x:eP):Prop:=fA x.cM/\fA x.count/\fA x.sum
theorem zT:kB Try.prog 58 3 fr BN:=⟨fun _=>rfl,fun H enc w base spare held n cs y h=>by
  obtain ⟨hl,m,hF⟩:=qa Try.underlying58 h
  obtain ⟨⟨a0,q0,r0⟩,hF⟩:=fm (o:=0) (o':=1) hF (gw Try.underlying3) rfl (by kernel_rfl) rfl
  obtain ⟨⟨a1,q1,r1⟩,hF⟩:=fm (o:=1) (o':=2) hF (gw Try.underlying3) rfl (by kernel_rfl) rfl
  obtain ⟨⟨a2,q2,r2⟩,hF⟩:=fm (o:=2) (o':=3) hF (gw Try.underlying3) rfl (by kernel_rfl) rfl
  exact ⟨⟨a0,a1,a2⟩,r0 _ (r1 _ (r2 _ (oJ (hl.trans (by kernel_rfl))))),q0,q1,q2⟩⟩
def BO (x:aV):Prop:=fA x.id/\fA x.kind/\fA x.n/\fA x.az/\fA x.move/\fA x.sum
theorem zU:kB Try.prog 27 6 cX BO:=⟨fun _=>rfl,fun H enc w base spare held n cs y h=>by
  obtain ⟨hl,m,hF⟩:=qa Try.underlying27 h
  obtain ⟨⟨a0,q0,r0⟩,hF⟩:=fm (o:=0) (o':=1) hF (gw Try.underlying3) rfl (by kernel_rfl) rfl
  obtain ⟨⟨a1,q1,r1⟩,hF⟩:=fm (o:=1) (o':=2) hF (gw Try.underlying3) rfl (by kernel_rfl) rfl
  obtain ⟨⟨a2,q2,r2⟩,hF⟩:=fm (o:=2) (o':=3) hF (gw Try.underlying3) rfl (by kernel_rfl) rfl
  obtain ⟨⟨a3,q3,r3⟩,hF⟩:=fm (o:=3) (o':=4) hF (gw Try.underlying3) rfl (by kernel_rfl) rfl
  obtain ⟨⟨a4,q4,r4⟩,hF⟩:=fm (o:=4) (o':=5) hF (gw Try.underlying3) rfl (by kernel_rfl) rfl
  obtain ⟨⟨a5,q5,r5⟩,hF⟩:=fm (o:=5) (o':=6) hF (gw Try.underlying3) rfl (by kernel_rfl) rfl
  exact ⟨⟨a0,a1,a2,a3,a4,a5⟩,r0 _ (r1 _ (r2 _ (r3 _ (r4 _ (r5 _ (oJ (hl.trans (by kernel_rfl)))))))),q0,q1,q2,q3,q4,q5⟩⟩
def HT (x:Setup):List D:=[.r 3 (x.cK.map fr),dI x.eY,dI x.cap]
def FP (x:Setup):Prop:=((∀ y∈x.cK,BN y)/\x.cK.length<=9223372036854775807)/\fA x.eY/\fA x.cap
theorem xX:kB Try.prog 55 3 HT FP:=⟨fun _=>rfl,fun H enc w base spare held n cs y h=>by
  obtain ⟨hl,m,hF⟩:=qa Try.underlying55 h
  obtain ⟨⟨a0,q0,r0⟩,hF⟩:=fm (o:=0) (o':=1) hF (qW Try.underlying53 (by kernel_rfl) (by decide) zT) rfl (by kernel_rfl) rfl
  obtain ⟨⟨a1,q1,r1⟩,hF⟩:=fm (o:=1) (o':=2) hF (gw Try.underlying3) rfl (by kernel_rfl) rfl
  obtain ⟨⟨a2,q2,r2⟩,hF⟩:=fm (o:=2) (o':=3) hF (gw Try.underlying3) rfl (by kernel_rfl) rfl
  exact ⟨⟨a0,a1,a2⟩,r0 _ (r1 _ (r2 _ (oJ (hl.trans (by kernel_rfl))))),q0,q1,q2⟩⟩
theorem DS:kB Try.prog 27 6 cX BO:=zU

def aZ (b:Bk) (i j k m:Nat) (u v:CV):List CV:=[(cI b.time),(cB b.down),(.s i 0 6 b.ag.length),(.s j 0 1 b.due.length),(.s k 0 8 b.aj.length),(cI b.s0.bG),(dh b.s0.kept),(cI b.s1.bG),(dh b.s1.kept),(cI b.n0),(cI b.n1),(ed b.w0),(ed b.w1),(cI b.bx.cap),(fN b.bx.used),(gK b.bx.bb),(.s m 0 4 b.aQ.length),u,(dR b.book),v]
def bg (x:Nat->Value):List CV:=[.d (.v (x 0)),.d (.v (x 1)),.d (.v (x 2)),.d (.v (x 3)),.d (.v (x 4)),.d (.v (x 5)),.d (.v (x 6)),.d (.v (x 7)),.d (.v (x 8)),.d (.v (x 9)),.d (.v (x 10)),.d (.v (x 11)),.d (.v (x 12)),.d (.v (x 13)),.d (.v (x 14)),.d (.v (x 15)),.d (.v (x 16)),.d (.v (x 17)),.d (.v (x 18)),.d (.v (x 19))]
def dO:List (Option CV):=[none,none,none,none,none,none,none,none,none,none,none,none,none,none,none,none,none,none,none,none]
def jw (b:Bk) (i j k m:Nat) (u v:Option CV):List (Option CV):=[some (cI b.time),some (cB b.down),some (.s i 0 6 b.ag.length),some (.s j 0 1 b.due.length),some (.s k 0 8 b.aj.length),some (cI b.s0.bG),some (dh b.s0.kept),some (cI b.s1.bG),some (dh b.s1.kept),some (cI b.n0),some (cI b.n1),some (ed b.w0),some (ed b.w1),some (cI b.bx.cap),some (fN b.bx.used),some (gK b.bx.bb),some (.s m 0 4 b.aQ.length),u,some (dR b.book),v]


theorem xr (a b c:Int):Fn Try.prog 44 [(.g [(cI a),(cI b),(cI c)])] (aI (jP a b c)) []:=by
 refine Fn.mk' 31 [(0,(aG [(cI a),(cI b),(cI c)]))] Try.func44 rfl rfl rfl rfl ?_
 intro W0 T0
 refine ae aa 2 rfl ?_
 refine ah ?_
 refine cA 30 ((((((decide (a < 1))||(decide (a > 1000000)))||(decide (b < 0)))||(decide (b > 30)))||(decide (c < 0)))||(decide (c > 1000000000000))) ?_ ?_
 ·
  refine ay ?_
  refine ad aa 4 rfl ?_
  refine bH (t:=6) rfl (fun hb1=>?_) (fun hb1=>?_)
  ·
   have hb1':=of_decide_eq_true hb1
   refine ad aa 24 rfl ?_
   refine af ?_
   exact aJ.bK 29 rfl rfl (by first|(simp [hb1];done)|(simp_all;done)|(exfalso;simp_all;done)|(simp_all;omega)) rfl
  have hb1':=of_decide_eq_false hb1
  refine ad aa 5 rfl ?_
  refine bH (t:=11) rfl (fun hb2=>?_) (fun hb2=>?_)
  ·
   have hb2':=of_decide_eq_true hb2
   refine ad aa 19 rfl ?_
   refine af ?_
   exact aJ.bK 30 rfl rfl (by first|(simp [hb1,hb2];done)|(simp_all;done)|(exfalso;simp_all;done)|(simp_all;omega)) rfl
  have hb2':=of_decide_eq_false hb2
  refine ad aa 5 rfl ?_
  refine bH (t:=16) rfl (fun hb3=>?_) (fun hb3=>?_)
  ·
   have hb3':=of_decide_eq_true hb3
   refine ad aa 14 rfl ?_
   refine af ?_
   exact aJ.bK 31 rfl rfl (by first|(simp [hb1,hb2,hb3];done)|(simp_all;done)|(exfalso;simp_all;done)|(simp_all;omega)) rfl
  have hb3':=of_decide_eq_false hb3
  refine ad aa 5 rfl ?_
  refine bH (t:=21) rfl (fun hb4=>?_) (fun hb4=>?_)
  ·
   have hb4':=of_decide_eq_true hb4
   refine ad aa 9 rfl ?_
   refine af ?_
   exact aJ.bK 32 rfl rfl (by first|(simp [hb1,hb2,hb3,hb4];done)|(simp_all;done)|(exfalso;simp_all;done)|(simp_all;omega)) rfl
  have hb4':=of_decide_eq_false hb4
  refine ad aa 5 rfl ?_
  refine bH (t:=26) rfl (fun hb5=>?_) (fun hb5=>?_)
  ·
   have hb5':=of_decide_eq_true hb5
   refine ad aa 4 rfl ?_
   refine af ?_
   exact aJ.bK 33 rfl rfl (by first|(simp [hb1,hb2,hb3,hb4,hb5];done)|(simp_all;done)|(exfalso;simp_all;done)|(simp_all;omega)) rfl
  have hb5':=of_decide_eq_false hb5
  refine ad aa 4 rfl ?_
  refine af ?_
  exact aJ.bK 33 rfl rfl (by first|(simp [hb1,hb2,hb3,hb4,hb5];done)|(simp_all;done)|(exfalso;simp_all;done)|(simp_all;omega)) rfl
 refine an rfl (fun hc6=>?_) (fun hc6=>?_)
 ·
  have hc6':=hc6;try simp only [bA,bW] at hc6'
  refine ae aa 1 rfl ?_
  refine aA ?_
  refine ax ?_
  refine aw aa [] 0 rfl rfl rfl rfl rfl rfl ?_ ?_
  ·(show aI _=aI _;unfold jP;rw [if_pos (by omega)])
  ·rfl
 have hc6':=hc6;try simp only [bA,bW] at hc6'
 refine aU ?_
 refine ae aa 1 rfl ?_
 refine aA ?_
 refine aw aa [] 0 rfl rfl rfl rfl rfl rfl ?_ ?_
 ·(show aI _=aI _;unfold jP;rw [if_neg (by omega)])
 ·rfl

theorem yj (l:List di):Fn Try.prog 45 [(.c (fU l))] (aG [cI (de l).1,cI (de l).2]) []:=by
 refine Fn.mk' 53 [(0,(aC (fU l)))] Try.func45 rfl rfl rfl rfl ?_
 intro W0 T0
 refine dU 0 rfl (fun hlen0=>?_)
 refine ae aa 1 rfl ?_
 refine ah ?_
 refine aH aa 1 rfl ?_
 refine aE (cJ rfl rfl rfl rfl rfl Try.underlying59) rfl ?_
 refine ad aa 1 rfl ?_
 refine af ?_
 refine an rfl (fun hc1=>?_) (fun hc1=>?_)
 ·
  have hc1':=of_decide_eq_true hc1
  refine ae aa 2 rfl ?_
  refine aA ?_
  refine ax ?_
  refine aw aa [0] 0 rfl rfl rfl rfl rfl rfl ?_ ?_
  ·(have h:de l=(5,0):=by (unfold de;rw [if_pos (by omega)]));rw [h];rfl
  ·rfl
 have hc1':=of_decide_eq_false hc1
 refine aU ?_
 refine ah ?_
 refine aH aa 1 rfl ?_
 refine aE (cJ rfl rfl rfl rfl rfl Try.underlying59) rfl ?_
 refine ad aa 1 rfl ?_
 refine af ?_
 refine aY ?_
 refine cz (β:=Nat) (fun (q:Nat)=>⟨[(0,(aC (fU l))),(2,(aC (.p 0 0 0 0))),(9,(aC (fU l))),(10,(aI (↑l.length:Int))),(11,(aI (↑q:Int)))],[(0,(.box 50 [(cI 0),(cI 0)]))],1⟩) (fun (q:Nat)=>q<=l.length/\scan (kF l) 0 l.length=scan (kF l) q (l.length - q)) (fun (q:Nat)=>l.length - q) 0 ?_ ?_ ?_
 ·exact ⟨by omega,rfl⟩
 ·exact aJ.cc id (by refine ⟨?_,?_,?_,?_,?_,trivial⟩<;>first|rfl|(simp only [bn];done)|(congr 3;omega)|(congr 4;omega)|(simp only [bo];rfl)) (⟨by first|rfl|(simp only [bn];done)|(congr 3;omega)|(congr 4;omega)|(simp only [bo];rfl),trivial⟩) rfl
 rintro q ⟨hi0_0,hi0_1⟩
 refine ae aa 1 rfl ?_
 refine ah ?_
 refine an rfl (fun hc2=>?_) (fun hc2=>?_)
 ·
  have hc2':=of_decide_eq_true hc2
  refine aU ?_
  refine ah ?_
  refine aY ?_
  refine aH aa 1 rfl ?_
  obtain ⟨x1,hx1⟩:=cr (xs:=l) (i:=q) (by first|omega|(simp;done)|(simp;omega))
  refine aE (db (i:=q) rfl rfl rfl Try.underlying59 iW (by first|omega|(simp;done)|(simp;omega)) (bz hx1)) rfl ?_
  refine ad aa 4 rfl ?_
  refine af ?_
  refine ah ?_
  refine cA 33 ((((decide (x1.time < 0))||(decide (x1.time > 1000000)))||(decide (x1.sum < 0)))||(decide (x1.sum > 1000000))) ?_ ?_
  ·
   refine ay ?_
   refine ad aa 4 rfl ?_
   refine bH (t:=19) rfl (fun hb3=>?_) (fun hb3=>?_)
   ·
    have hb3':=of_decide_eq_true hb3
    refine ad aa 14 rfl ?_
    refine af ?_
    exact aJ.bK 19 rfl rfl (by first|(simp [hb3];done)|(simp_all;done)|(exfalso;simp_all;done)|(simp_all;omega)) rfl
   have hb3':=of_decide_eq_false hb3
   refine ad aa 5 rfl ?_
   refine bH (t:=24) rfl (fun hb4=>?_) (fun hb4=>?_)
   ·
    have hb4':=of_decide_eq_true hb4
    refine ad aa 9 rfl ?_
    refine af ?_
    exact aJ.bK 20 rfl rfl (by first|(simp [hb3,hb4];done)|(simp_all;done)|(exfalso;simp_all;done)|(simp_all;omega)) rfl
   have hb4':=of_decide_eq_false hb4
   refine ad aa 5 rfl ?_
   refine bH (t:=29) rfl (fun hb5=>?_) (fun hb5=>?_)
   ·
    have hb5':=of_decide_eq_true hb5
    refine ad aa 4 rfl ?_
    refine af ?_
    exact aJ.bK 21 rfl rfl (by first|(simp [hb3,hb4,hb5];done)|(simp_all;done)|(exfalso;simp_all;done)|(simp_all;omega)) rfl
   have hb5':=of_decide_eq_false hb5
   refine ad aa 4 rfl ?_
   refine af ?_
   exact aJ.bK 21 rfl rfl (by first|(simp [hb3,hb4,hb5];done)|(simp_all;done)|(exfalso;simp_all;done)|(simp_all;omega)) rfl
  refine an rfl (fun hc6=>?_) (fun hc6=>?_)
  ·
   have hc6':=hc6;try simp only [bA,bW] at hc6'
   refine ae aa 3 rfl ?_
   refine aA ?_
   refine ax ?_
   refine bm ?_
   refine ax ?_
   refine ax ?_
   refine bm ?_
   refine ax ?_
   refine aw aa [0] 0 rfl rfl rfl rfl rfl rfl ?_ ?_
   ·(have h:de l=(3,(q:Int)):=by (unfold de;rw [if_neg (by omega),hi0_1];exact iI (by omega) (show kF l q=3 by (unfold kF;simp only [hx1];rw [if_pos (by omega)])) (by decide)));rw [h];rfl
   ·rfl
  have hc6':=hc6;try simp only [bA,bW] at hc6'
  refine aU ?_
  refine ah ?_
  rcases Bool.eq_false_or_eq_true (decide ((↑q:Int) > 0)) with hb7|hb7
  ·
   have hb7':=of_decide_eq_true hb7
   obtain ⟨x2,hx2⟩:=cr (xs:=l) (i:=(q) - 1) (by first|omega|(simp;done)|(simp;omega))
   refine bd [0,2,9,10,11,4,3] [1,0] mixed rfl rfl ?_
   refine aF (kn:=[(37,true)]) aa 5 rfl ⟨hb7,trivial⟩ ?_
   refine aX (n':=2) [40,38] [] rfl rfl (.inl ⟨(aq.yes rfl rfl rfl),aM.cast (aN rfl rfl rfl (aK (by first|omega|(simp;done)|(simp;omega)))) rfl⟩) rfl ?_
   refine aX (n':=2) [39,41,38] [] rfl rfl (.inl ⟨(aq.yes rfl rfl rfl),aM.cast (db (i:=(q) - 1) rfl rfl rfl Try.underlying59 iW (by first|omega|(simp;done)|(simp;omega)) (bz hx2)) rfl⟩) rfl ?_
   refine aF (kn:=[]) aa 6 rfl trivial ?_
   refine bF [1,0] rfl rfl rfl rfl (by kernel_rfl) ?_
   refine af ?_
   refine an rfl (fun hc8=>?_) (fun hc8=>?_)
   ·
    have hc8':=of_decide_eq_true hc8
    refine ae aa 3 rfl ?_
    refine aA ?_
    refine bm ?_
    refine ax ?_
    refine ax ?_
    refine bm ?_
    refine ax ?_
    refine aw aa [0] 0 rfl rfl rfl rfl rfl rfl ?_ ?_
    ·(have h:de l=(2,(q:Int)):=by (unfold de;rw [if_neg (by omega),hi0_1];exact iI (by omega) (show kF l q=2 by (unfold kF;simp only [hx1];rw [if_neg (by omega),if_pos (by refine ⟨by omega,?_⟩;rw [List.getD_eq_getElem?_getD,hx2];simp only [Option.getD_some];omega)])) (by decide)));rw [h];rfl
    ·rfl
   have hc8':=of_decide_eq_false hc8
   refine dg ?_
   refine bq ?_
   refine then_ok ?_
   refine ay ?_
   refine aE (aN rfl rfl rfl (aK (by first|omega|(simp;done)|(simp;omega)))) rfl ?_
   refine ad aa 1 rfl ?_
   refine af ?_
   refine ⟨q+1,⟨by omega,by rw [hi0_1];exact nF (by omega) (by unfold kF;simp only [hx1];rw [if_neg (by omega),if_neg (by first|omega|(rw [List.getD_eq_getElem?_getD,hx2];simp only [Option.getD_some];omega))])⟩,by first|omega|(simp;done)|(simp;omega),aJ.cc id (by refine ⟨?_,?_,?_,?_,?_,trivial⟩<;>first|rfl|(simp only [bn];done)|(congr 3;omega)|(congr 4;omega)|(simp only [bo];rfl)) (⟨by first|rfl|(simp only [bn];done)|(congr 3;omega)|(congr 4;omega)|(simp only [bo];rfl),trivial⟩) rfl⟩
  have hb7':=of_decide_eq_false hb7
  refine bd [0,2,9,10,11,4,3] [1,0] mixed rfl rfl ?_
  refine aF (kn:=[(37,false)]) aa 13 rfl ⟨hb7,trivial⟩ ?_
  refine bF [1,0] rfl rfl rfl rfl (by kernel_rfl) ?_
  refine af ?_
  refine an rfl (fun hno=>by cases hno) (fun _=>?_)
  refine dg ?_
  refine bq ?_
  refine then_ok ?_
  refine ay ?_
  refine aE (aN rfl rfl rfl (aK (by first|omega|(simp;done)|(simp;omega)))) rfl ?_
  refine ad aa 1 rfl ?_
  refine af ?_
  refine ⟨q+1,⟨by omega,by rw [hi0_1];exact nF (by omega) (by unfold kF;simp only [hx1];rw [if_neg (by omega),if_neg (by first|omega|(rw [List.getD_eq_getElem?_getD,hx2];simp only [Option.getD_some];omega))])⟩,by first|omega|(simp;done)|(simp;omega),aJ.cc id (by refine ⟨?_,?_,?_,?_,?_,trivial⟩<;>first|rfl|(simp only [bn];done)|(congr 3;omega)|(congr 4;omega)|(simp only [bo];rfl)) (⟨by first|rfl|(simp only [bn];done)|(congr 3;omega)|(congr 4;omega)|(simp only [bo];rfl),trivial⟩) rfl⟩
 have hc2':=of_decide_eq_false hc2
 refine cp ?_
 refine aR ?_
 refine aR ?_
 refine bM ?_
 refine then_ok ?_
 refine ae aa 2 rfl ?_
 refine aA ?_
 refine aw aa [0] 0 rfl rfl rfl rfl rfl rfl ?_ ?_
 ·(have h:de l=(0,0):=by (unfold de;rw [if_neg (by omega),hi0_1,ot (by omega)]));rw [h];rfl
 ·rfl

theorem yu (l:List di) (fn:FuncId) (bh:List (List D)) (pr:di->Bool) (hp:∀ x:di,Fn Try.prog fn ([.g [cI x.time,cI x.sum]]++bh.map fun r=>GV.c (.q r 0)) (aB (pr x)) []) (hen:bp Try.prog fn) (r:Int) (hr:iq pr l=r):Fn Try.prog 123 [(.c (fU l)),(.c (.d (.f fn bh)))] (.v (.c (cI r))) []:=by
 refine Fn.mk' 19 [(0,(aC (fU l))),(1,(aC (.d (.f fn bh))))] Try.func123 rfl rfl rfl rfl ?_
 intro W0 T0
 refine dU 0 rfl (fun hlen0=>?_)
 refine ae aa 1 rfl ?_
 refine ah ?_
 refine aH aa 1 rfl ?_
 refine aE (cJ rfl rfl rfl rfl rfl Try.underlying59) rfl ?_
 refine ad aa 1 rfl ?_
 refine af ?_
 refine aY ?_
 refine cz (β:=Nat) (fun (q:Nat)=>⟨[(0,(aC (fU l))),(1,(aC (.d (.f fn bh)))),(7,(aI (↑l.length:Int))),(8,(aI (↑q:Int)))],[],0⟩) (fun (q:Nat)=>q<=l.length/\(l.take q).all (fun y=>!pr y)=true) (fun (q:Nat)=>l.length - q) 0 ?_ ?_ ?_
 ·exact ⟨by omega,by simp⟩
 ·exact aJ.cc id (by refine ⟨?_,?_,?_,?_,trivial⟩<;>first|rfl|(simp only [bn];done)|(congr 3;omega)|(congr 4;omega)|(simp only [bo];rfl)) (trivial) rfl
 rintro q ⟨hi0_0,hi0_1⟩
 refine ae aa 1 rfl ?_
 refine ah ?_
 refine an rfl (fun hc1=>?_) (fun hc1=>?_)
 ·
  have hc1':=of_decide_eq_true hc1
  refine aU ?_
  refine ah ?_
  refine aY ?_
  refine ae aa 2 rfl ?_
  refine aH aa 3 rfl ?_
  obtain ⟨x1,hx1⟩:=cr (xs:=l) (i:=q) (by first|omega|(simp;done)|(simp;omega))
  refine aE (db (i:=q) rfl rfl rfl Try.underlying59 iW (by first|omega|(simp;done)|(simp;omega)) (bz hx1)) rfl ?_
  refine ad aa 1 rfl ?_
  refine aE (iD 0 (hp x1) hen rfl rfl rfl ⟨⟨_,rfl,.g ⟨.d _,.d _,trivial⟩⟩,trivial⟩ trivial trivial rfl rfl rfl rfl) rfl ?_
  refine af ?_
  refine an rfl (fun hc2=>?_) (fun hc2=>?_)
  ·
   have hc2':=hc2;try simp only [bA,bW] at hc2'
   refine ae aa 2 rfl ?_
   refine aA ?_
   refine bm ?_
   refine ax ?_
   refine ax ?_
   refine bm ?_
   refine ax ?_
   have hX:iq pr l=(↑q:Int):=by
     exact ve hi0_1 hx1 hc2
   rw [hX] at hr;clear hX
   subst hr
   refine aw aa [] 0 rfl rfl rfl rfl rfl rfl ?_ ?_
   all_goals first|rfl|(simp [aD];done)|(simp [aD];omega)
  have hc2':=hc2;try simp only [bA,bW] at hc2'
  refine dg ?_
  refine bq ?_
  refine then_ok ?_
  refine ay ?_
  refine aE (aN rfl rfl rfl (aK (by first|omega|(simp;done)|(simp;omega)))) rfl ?_
  refine ad aa 1 rfl ?_
  refine af ?_
  refine ⟨q+1,⟨by omega,xM hi0_1 hx1 hc2⟩,by first|omega|(simp;done)|(simp;omega),aJ.cc id (by refine ⟨?_,?_,?_,?_,trivial⟩<;>first|rfl|(simp only [bn];done)|(congr 3;omega)|(congr 4;omega)|(simp only [bo];rfl)) (trivial) rfl⟩
 have hc1':=of_decide_eq_false hc1
 refine cp ?_
 refine aR ?_
 refine aR ?_
 refine bM ?_
 refine then_ok ?_
 refine ae aa 1 rfl ?_
 refine aA ?_
 have hX:iq pr l=(-1):=by
   exact wV (by rw [<-List.take_of_length_le (l:=l) (i:=q) (by omega)];exact hi0_1)
 rw [hX] at hr;clear hX
 subst hr
 refine aw aa [] 0 rfl rfl rfl rfl rfl rfl ?_ ?_
 all_goals first|rfl|(simp [aD];done)|(simp [aD];omega)
theorem xC (l:List di) (fn:FuncId) (bh:List (List D)) (pr:di->Bool) (hp:∀ x:di,Fn Try.prog fn ([.g [cI x.time,cI x.sum]]++bh.map fun r=>GV.c (.q r 0)) (aB (pr x)) []) (hen:bp Try.prog fn) (r:List di) (hr:dj pr l=r):cL Try.prog 117 [(.c (.s 0 0 2 l.length)),(.c (.d (.f fn bh)))] [(0,(ql l))] [] (.v (.c (.s 0 0 2 r.length))) [(0,(ql r))]:=by
 refine cL.mk 42 [(0,(aC (.s 0 0 2 l.length))),(1,(aC (.d (.f fn bh))))] 1 Try.func117 rfl rfl rfl rfl rfl rfl rfl rfl rfl ?_
 intro W0 F0 T0 pg
 refine gU 0 rfl (fun hlen0=>?_)
 have hic:=vf pr l
 have hib:iq pr l<=l.length/\-1<=iq pr l:=by rcases hic with ⟨h,_⟩|⟨i,h,h1,_⟩<;>omega
 refine ae aa 1 rfl ?_
 refine aH aa 2 rfl ?_
 obtain ⟨r0,hr0⟩:∃ (r0:Int),iq pr l=r0:=⟨_,rfl⟩
 refine aP 1 [0] (gF 1 [0] (yu l fn bh pr hp hen r0 hr0) IB rfl rfl ⟨⟨_,rfl,.c (.s rfl (by decide) (by first|omega|(simp;done)|(simp;omega)))⟩,⟨_,rfl,.c (.d _)⟩,trivial⟩ rfl trivial rfl rfl rfl rfl) rfl ?_
 refine ad aa 1 rfl ?_
 refine af ?_
 refine ah ?_
 refine ae aa 2 rfl ?_
 refine an rfl (fun hc1=>?_) (fun hc1=>?_)
 ·
  have hc1':=of_decide_eq_true hc1
  refine ae aa 2 rfl ?_
  refine aA ?_
  refine ax ?_
  have hX:dj pr l=l:=by
    rcases hic with ⟨_,h⟩|⟨i0,h,_⟩
    ·exact h
    ·exfalso;omega
  rw [hX] at hr;clear hX
  subst hr
  refine aw aa [0] 1 rfl rfl rfl rfl rfl rfl ?_ ?_
  all_goals first|rfl|(simp [aD];done)|(simp [aD];omega)
 have hc1':=of_decide_eq_false hc1
 refine aU ?_
 refine ah ?_
 refine aH aa 1 rfl ?_
 refine aE (aN rfl rfl rfl (aK (by first|omega|(simp;done)|(simp;omega)))) rfl ?_
 refine ad aa 1 rfl ?_
 refine af ?_
 refine aY ?_
 obtain ⟨i0,hi0,hil,x0,hx0,hp0,hk0⟩:∃ i:Nat,iq pr l=i/\i < l.length/\∃ x,l[i]?=some x/\pr x=true/\dj pr (l.take i)=l.take i:=by
     rcases hic with ⟨h,_⟩|h
     ·exfalso;omega
     ·exact h
 obtain rfl:r0=(i0:Int):=by omega
 refine cz (β:=Nat×Nat×List di) (fun (p:Nat×Nat×List di)=>match p with|(j,i,c)=>⟨[(0,(aC (.s 0 0 2 l.length))),(1,(aC (.d (.f fn bh)))),(4,(aC cN)),(5,(aI (↑i:Int))),(6,(aI (↑j:Int)))],[(0,(ql c))],1⟩) (fun (p:Nat×Nat×List di)=>match p with|(j,i,c)=>lR pr l c i j) (fun (p:Nat×Nat×List di)=>match p with|(j,i,c)=>l.length - j) (i0+1,i0,l) ?_ ?_ ?_
 ·exact lR.start hx0 hp0 hk0
 ·exact aJ.cc id (by refine ⟨?_,?_,?_,?_,?_,trivial⟩<;>first|rfl|(simp only [bn];done)|(congr 3;omega)|(congr 4;omega)|(simp only [bo];rfl)) (⟨by first|rfl|(simp only [bn];done)|(congr 3;omega)|(congr 4;omega)|(simp only [bo];rfl),trivial⟩) rfl
 rintro ⟨j,i,c⟩ hd
 have hdl:=hd.len;have hdi:=hd.ij;have hdj:=hd.jl
 refine ah ?_
 refine aH aa 2 rfl ?_
 refine aE (dH rfl rfl rfl rfl rfl Try.underlying59) rfl ?_
 refine ad aa 1 rfl ?_
 refine af ?_
 refine an rfl (fun hc2=>?_) (fun hc2=>?_)
 ·
  have hc2':=of_decide_eq_true hc2
  refine aU ?_
  refine ah ?_
  refine aY ?_
  refine aH aa 2 rfl ?_
  refine aE (br (i:=j) rfl rfl rfl Try.underlying59 iW (by first|omega|(simp;done)|(simp;omega)) (by first|omega|(simp;done)|(simp;omega))) rfl ?_
  obtain ⟨x1,hx1⟩:=cr (xs:=c) (i:=j) (by first|omega|(simp;done)|(simp;omega))
  refine aE (dy rfl rfl rfl Try.underlying125 rfl iW (bz hx1) rfl) rfl ?_
  refine ad aa 2 rfl ?_
  refine af ?_
  refine aH aa 2 rfl ?_
  refine aE (iD 2 (hp x1) hen rfl rfl rfl ⟨⟨_,rfl,.g ⟨.d _,.d _,trivial⟩⟩,trivial⟩ trivial trivial rfl rfl rfl rfl) rfl ?_
  refine ad aa 1 rfl ?_
  refine af ?_
  refine an rfl (fun hc3=>?_) (fun hc3=>?_)
  ·
   have hc3':=hc3;try simp only [bA,bW] at hc3'
   refine aH aa 3 rfl ?_
   refine aE (br (i:=i) rfl rfl rfl Try.underlying59 iW (by first|omega|(simp;done)|(simp;omega)) (by first|omega|(simp;done)|(simp;omega))) rfl ?_
   obtain ⟨x2,hx2⟩:=cr (xs:=c) (i:=i) (by first|omega|(simp;done)|(simp;omega))
   refine gj [1,0] (dW (ds:=[(dI x1.time),(dI x1.sum)]) rfl rfl rfl rfl rfl iW rfl (Nat.le_of_ble_eq_true rfl) (bz hx2) rfl (eU (x':=x1) rfl)) rfl ?_
   refine af ?_
   refine ay ?_
   refine ad aa 1 rfl ?_
   refine aE (aN rfl rfl rfl (aK (by first|omega|(simp;done)|(simp;omega)))) rfl ?_
   refine ad aa 1 rfl ?_
   refine cf ?_
   refine bq ?_
   refine then_ok ?_
   refine ay ?_
   refine ad aa 1 rfl ?_
   refine aE (aN rfl rfl rfl (aK (by first|omega|(simp;done)|(simp;omega)))) rfl ?_
   refine ad aa 1 rfl ?_
   refine af ?_
   refine ⟨(j+1,(i)+1,(c).set i x1),hd.cS hx1 (by simpa using hc3),by first|omega|(simp;done)|(simp;omega),aJ.cc id (by refine ⟨?_,?_,?_,?_,?_,trivial⟩<;>first|rfl|(simp only [bn];done)|(congr 3;omega)|(congr 4;omega)|(simp only [bo];rfl)) (⟨by first|rfl|(simp only [bn];done)|(congr 3;omega)|(congr 4;omega)|(simp only [bo];rfl),trivial⟩) rfl⟩
  have hc3':=hc3;try simp only [bA,bW] at hc3'
  refine dg ?_
  refine bq ?_
  refine then_ok ?_
  refine ay ?_
  refine ad aa 1 rfl ?_
  refine aE (aN rfl rfl rfl (aK (by first|omega|(simp;done)|(simp;omega)))) rfl ?_
  refine ad aa 1 rfl ?_
  refine af ?_
  refine ⟨(j+1,i,c),hd.skip hx1 (by simpa using hc3),by first|omega|(simp;done)|(simp;omega),aJ.cc id (by refine ⟨?_,?_,?_,?_,?_,trivial⟩<;>first|rfl|(simp only [bn];done)|(congr 3;omega)|(congr 4;omega)|(simp only [bo];rfl)) (⟨by first|rfl|(simp only [bn];done)|(congr 3;omega)|(congr 4;omega)|(simp only [bo];rfl),trivial⟩) rfl⟩
 have hc2':=of_decide_eq_false hc2
 refine cp ?_
 refine aR ?_
 refine aR ?_
 refine bM ?_
 refine then_ok ?_
 refine aH aa 2 rfl ?_
 refine aE (oH (l:=i) (h:=l.length) rfl Try.underlying59 iW rfl (.inr ⟨_,rfl,rfl⟩) (.inl ⟨rfl,rfl⟩) (by first|omega|(simp;done)|(simp;omega)) (by first|omega|(simp;done)|(simp;omega)) (by first|omega|(simp;done)|(simp;omega)) rfl) rfl ?_
 refine gj [0] (ud (rows':=(c.take i).map iz) py Ii rfl rfl rfl rfl rfl rfl rfl rfl rfl (by simp [List.map_take])) rfl ?_
 refine af ?_
 refine aH aa 2 rfl ?_
 refine aE (oH (l:=0) (h:=i) rfl Try.underlying59 iW rfl (.inl ⟨rfl,rfl⟩) (.inr ⟨_,rfl,rfl⟩) (by first|omega|(simp;done)|(simp;omega)) (by first|omega|(simp;done)|(simp;omega)) (by first|omega|(simp;done)|(simp;omega)) rfl) rfl ?_
 refine ad aa 1 rfl ?_
 refine af ?_
 refine aA ?_
 have hX:dj pr l=(c.take i):=by
   have hdone:=hd.done (by omega)
   rw [<-hdone]
 rw [hX] at hr;clear hX
 subst hr
 refine aw aa [0] 1 rfl rfl rfl rfl rfl rfl ?_ ?_
 all_goals first|rfl|(simp [aD];done)|(simp [aD];omega)

theorem lL (p:eP) (e:Int) (hr:fI p=e):Fn Try.prog 44 [(.g [cI p.cM,cI p.count,cI p.sum])] (.v (.c (cI e))) []:=hr▸xr p.cM p.count p.sum
theorem qf (l:List di) (f:cV) (hr:fo l=f):Fn Try.prog 45 [.c (cR 2 (l.map iz))] (.v (.g [cI f.err,cI f.at_])) []:=hr▸yj l

theorem CU (x:di) (t:Int) (p:eP) (hb:-9223372036854775808<=t - p.cM/\t - p.cM<=9223372036854775807):Fn Try.prog 118 [(.g [(cI x.time),(cI x.sum)]),(.c (.q ([dI t]) 0)),(.c (.q ([dI p.cM,dI p.count,dI p.sum]) 0))] (aB (cj p t x)) []:=by
 refine Fn.mk' 12 [(0,(aG [(cI x.time),(cI x.sum)])),(1,(aC (.q ([dI t]) 0))),(2,(aC (.q ([dI p.cM,dI p.count,dI p.sum]) 0)))] Try.func118 rfl rfl rfl rfl ?_
 intro W0 T0
 refine ae aa 2 rfl ?_
 refine aH aa 5 rfl ?_
 refine aE (aN rfl rfl rfl (aK (by first|omega|(simp;done)|(simp;omega)))) rfl ?_
 refine ad aa 2 rfl ?_
 refine af ?_
 refine aA ?_
 refine aw aa [] 0 rfl rfl rfl rfl rfl rfl ?_ ?_
 all_goals first|rfl|(simp [aD];done)|(simp [aD];omega)
theorem pj (p:eP) (l:List di) (t:Int) (hb:-9223372036854775808<=t - p.cM/\t - p.cM<=9223372036854775807) (hl:l.length * 16<=140737488355328) (r:List di) (hr:dY p l t=r):Fn Try.prog 112 [(.g [(cI p.cM),(cI p.count),(cI p.sum)]),(.c (fU l)),(.c (cI t))] (.v (.c (.s 0 0 2 r.length))) [(0,(ql r))]:=by
 refine Fn.mk' 11 [(0,(aG [(cI p.cM),(cI p.count),(cI p.sum)])),(1,(aC (fU l))),(2,(aI t))] Try.func112 rfl rfl rfl rfl ?_
 intro W0 T0
 refine dU 1 rfl (fun hlen1=>?_)
 refine ae aa 3 rfl ?_
 refine aH aa 1 rfl ?_
 refine aP 3 [2,1,0] (ch 2 (rp l (by first|omega|(simp;done)|(simp;omega))) Fp rfl rfl ⟨⟨_,rfl,.c (.d _)⟩,trivial⟩ trivial ⟨(fun _ _ _ _=>trivial),trivial⟩ rfl rfl rfl rfl) rfl ?_
 refine aE (CA (ks:=[1,0]) rfl ⟨rfl,rfl,trivial⟩) rfl ?_
 obtain ⟨r0,hr0⟩:∃ (r0:List di),dj (cj p t) l=r0:=⟨_,rfl⟩
 refine aP 4 [3,1,0] (xc (bc [2]) (bc [3]) [0,1] (xC l 118 ([[(dI t)],[(dI p.cM),(dI p.count),(dI p.sum)]]) (cj p t) (fun x=>CU x t p hb) IF r0 hr0) IG rfl rfl ⟨⟨_,rfl,.inl ⟨rfl,rfl⟩⟩,⟨_,rfl,.inr (.c (.fn ⟨⟨by decide,_,rfl⟩,⟨by decide,_,rfl⟩,trivial⟩))⟩,trivial⟩ ⟨rfl,trivial⟩ rfl rfl rfl rfl rfl rfl rfl rfl trivial ⟨(Ea _),trivial⟩ rfl rfl rfl rfl) rfl ?_
 refine ad aa 1 rfl ?_
 refine af ?_
 refine aA ?_
 have hX:dY p l t=r0:=by
   assumption
 rw [hX] at hr;clear hX
 subst hr
 refine aw aa [3] 1 rfl rfl rfl rfl rfl rfl ?_ ?_
 all_goals first|rfl|(simp [aD];done)|(simp [aD];omega)
end Go.Proofs.Ytegepioggeggaaa.Dev
