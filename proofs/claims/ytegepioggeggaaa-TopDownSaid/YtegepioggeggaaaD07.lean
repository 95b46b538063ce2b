/- A part of the proof: PlSort, PlSort2, PlSort3, PlDay, PlBank, Bank0, Pace1, Pace2, Del1, Pace3. No condition. -/
import Derived.Test.YtegepioggeggaaaD06
set_option linter.unusedVariables false
set_option linter.unusedSimpArgs false
set_option maxHeartbeats 1000000
set_option maxRecDepth 100000
namespace Go.Proofs.Ytegepioggeggaaa.Dev
open Go.RowKit
theorem jb {α:Type}:∀ l:List α,l=[]\/∃ A y,l=A++[y]
 |[]=>.inl rfl
 |x::l=>.inr (by
  rcases jb l with rfl|⟨A,y,rfl⟩
  ·exact ⟨[],x,rfl⟩
  ·exact ⟨x::A,y,rfl⟩)
def gp (a b:al):Bool:=decide (a.ay < b.ay)||(decide (a.ay=b.ay) && decide (a.ba < b.ba))
def fJ (a b:al):Prop:=a.ay < b.ay\/(a.ay=b.ay/\a.ba<=b.ba)
def jq (a b:al):Bool:=decide (a.ay=b.ay) && decide (a.ba=b.ba)
def eO (l:List al):Prop:=l.Pairwise fJ
def Same (u v:List al):Prop:=∀ k:al,u.filter (jq k)=v.filter (jq k)
theorem qU {a b:al}:gp a b=true↔(a.ay < b.ay\/(a.ay=b.ay/\a.ba < b.ba)):=by unfold gp;simp
theorem qV {a b:al}:gp a b=false↔fJ b a:=by
 unfold gp fJ
 rw [Bool.or_eq_false_iff,decide_eq_false_iff_not,Bool.and_eq_false_iff,decide_eq_false_iff_not,decide_eq_false_iff_not]
 omega
theorem ko {a b:al} (h:gp a b=true):fJ a b:=by rw [qU] at h;unfold fJ;omega
theorem nk (a:al):fJ a a:=by unfold fJ;omega
theorem km {a b c:al} (h:fJ a b) (h':fJ b c):fJ a c:=by unfold fJ at *;omega
theorem uG {a b c:al} (h:gp a b=true) (h':fJ b c):gp a c=true:=by rw [qU] at *;unfold fJ at *;omega
theorem yU {a b c:al} (h:fJ a b) (h':gp b c=true):gp a c=true:=by rw [qU] at *;unfold fJ at *;omega
theorem oV {a b:al}:jq a b=true↔(a.ay=b.ay/\a.ba=b.ba):=by unfold jq;simp
theorem kM (a:al):jq a a=true:=by rw [oV];exact ⟨rfl,rfl⟩
theorem Same.refl (u:List al):Same u u:=fun _=>rfl
theorem Same.symm {u v:List al} (h:Same u v):Same v u:=fun k=>(h k).symm
theorem Same.trans {u v z:List al} (h:Same u v) (h':Same v z):Same u z:=fun k=>(h k).trans (h' k)
theorem Same.app {u v u' v':List al} (h:Same u u') (h':Same v v'):Same (u++v) (u'++v'):=fun k=>by rw [List.filter_append,List.filter_append,h k,h' k]
theorem Same.mem {u v:List al} (h:Same u v) {x:al}:x∈u↔x∈v:=by
 have h1:∀ l:List al,x∈l.filter (jq x)↔x∈l:=fun l=>by simp [kM]
 rw [<-h1 u,<-h1 v,h x]
theorem Same.perm {u v:List al} (h:Same u v):u.Perm v:=by
 rw [List.perm_iff_count]
 intro x
 rw [<-List.count_filter (p:=jq x) (l:=u) (kM x),<-List.count_filter (p:=jq x) (l:=v) (kM x),h x]
theorem Same.len {u v:List al} (h:Same u v):u.length=v.length:=h.perm.length_eq
theorem Same.comm {u v:List al} (h:∀ x∈u,∀ y∈v,gp y x=true):Same (u++v) (v++u):=fun k=>by
 rw [List.filter_append,List.filter_append]
 by_cases hu:u.filter (jq k)=[]
 ·rw [hu];simp
 ·by_cases hv:v.filter (jq k)=[]
  ·rw [hv];simp
  ·exfalso
   obtain ⟨x,hx⟩:=List.exists_mem_of_ne_nil _ hu
   obtain ⟨y,hy⟩:=List.exists_mem_of_ne_nil _ hv
   rw [List.mem_filter] at hx hy
   have h1:=h x hx.1 y hy.1
   have h2:=oV.1 hx.2
   have h3:=oV.1 hy.2
   rw [qU] at h1
   omega
theorem eO.uniq:∀ {u v:List al},eO u->eO v->Same u v->u=v
 |[],v,_,_,h=>by have:=h.len;exact (List.eq_nil_of_length_eq_zero this.symm).symm
 |x::u,[],_,_,h=>by have:=h.len;cases this
 |x::u,y::v,hu,hv,h=>by
  obtain ⟨hu1,hu2⟩:=List.pairwise_cons.1 hu
  obtain ⟨hv1,hv2⟩:=List.pairwise_cons.1 hv
  have h1:fJ x y:=by
   rcases List.mem_cons.1 (h.mem.2 (List.mem_cons_self (a:=y) (l:=v))) with rfl|hm
   ·exact nk _
   ·exact hu1 y hm
  have h2:fJ y x:=by
   rcases List.mem_cons.1 (h.mem.1 (List.mem_cons_self (a:=x) (l:=u))) with rfl|hm
   ·exact nk _
   ·exact hv1 x hm
  have h3:jq x y=true:=by rw [oV];unfold fJ at h1 h2;omega
  have h4:=h x
  rw [List.filter_cons,List.filter_cons,if_pos (kM x),if_pos h3] at h4
  obtain ⟨rfl,_⟩:=List.cons.inj h4
  have h5:Same u v:=fun k=>by
   have:=h k
   rw [List.filter_cons,List.filter_cons] at this
   split at this
   ·exact (List.cons.inj this).2
   ·exact this
  rw [eO.uniq hu2 hv2 h5]

def gG (d:List al) (i j:Nat):List al:=
 match d[i]?,d[j]? with
 |some x,some y=>(d.set i y).set j x
 |_,_=>d
theorem kZ {d:List al} {i j:Nat} {x y:al} (hx:d[i]?=some x) (hy:d[j]?=some y):gG d i j=(d.set i y).set j x:=by unfold gG;rw [hx,hy]
theorem lC (d:List al) (i j:Nat):(gG d i j).length=d.length:=by
 unfold gG;split<;>simp
theorem nY (s t u:List al) (x y:al) {i j:Nat} (hi:i=s.length) (hj:j=s.length+1+t.length):gG (s++x::(t++y::u)) i j=s++y::(t++x::u):=by
 subst hi hj
 have h1:(s++x::(t++y::u))[s.length]?=some x:=by simp
 have h2:(s++x::(t++y::u))[s.length+1+t.length]?=some y:=by
  rw [List.getElem?_append_right (by omega),show s.length+1+t.length - s.length=t.length+1 by omega,List.getElem?_cons_succ];simp
 rw [kZ h1 h2,List.set_append_right _ _ (Nat.le_refl _),Nat.sub_self,List.set_cons_zero,List.set_append_right _ _ (by omega),show s.length+1+t.length - s.length=t.length+1 by omega,
  List.set_cons_succ,List.set_append_right _ _ (Nat.le_refl _),Nat.sub_self,List.set_cons_zero]
theorem xi (d:List al) (i j:Nat):gG d i j=gG d j i:=by
 by_cases hij:i=j
 ·subst hij;rfl
 ·unfold gG
  cases hx:d[i]? with
  |none=>cases hy:d[j]?<;>rfl
  |some x=>
   cases hy:d[j]? with
   |none=>rfl
   |some y=>exact List.set_comm _ _ hij
theorem qH (s t u:List al) (x y:al) {i j:Nat} (hi:i=s.length) (hj:j=s.length+1+t.length):gG (s++x::(t++y::u)) j i=s++y::(t++x::u):=by rw [xi];exact nY s t u x y hi hj

structure Part (d y:List al) (a b:Nat):Prop where
 len:y.length=d.length
 l:y.take a=d.take a
 r:y.drop b=d.drop b
 s:eO ((y.drop a).take (b - a))
 m:Same d y
theorem Part.of {P X C R:List al} {a b:Nat} (ha:P.length=a) (hb:b=a+X.length) (hs:eO C) (hm:Same X C):Part (P++X++R) (P++C++R) a b:=by
 subst ha hb
 have hl:=hm.len
 refine ⟨by simp [hl],by simp,?_,?_,((Same.refl P).app hm).app (Same.refl R)⟩
 ·have h1:∀ Z:List al,Z.length=X.length->(P++Z++R).drop (P.length+X.length)=R:=fun Z hz=>by
   rw [<-hz,<-List.length_append,List.drop_left]
  rw [h1 C hl.symm,h1 X rfl]
 ·rw [List.append_assoc,List.drop_left,show P.length+X.length - P.length=C.length by omega,List.take_left];exact hs
theorem parts {d:List al} {a b:Nat} (h:a<=b) (hb:b<=d.length):d=d.take a++(d.drop a).take (b - a)++d.drop b:=by
 have h1:d.drop b=(d.drop a).drop (b - a):=by rw [List.drop_drop];congr 1;omega
 rw [h1,List.append_assoc,List.take_append_drop,List.take_append_drop]

def iY (a:Nat):Nat->List al->List al
 |0,d=>d
 |j+1,d=>
  if a < j+1 then
   match d[j+1]?,d[j]? with
   |some x,some y=>if gp x y=true then iY a j (gG d (j+1) j) else d
   |_,_=>d
  else d
theorem qf {a j:Nat} {d:List al} (h:¬a < j):iY a j d=d:=by
 cases j with
 |zero=>rfl
 |succ j=>unfold iY;rw [if_neg h]
theorem oB {a j:Nat} {d:List al} {x y:al} (hx:d[j]?=some x) (hy:d[j - 1]?=some y) (h:gp x y=false):iY a j d=d:=by
 cases j with
 |zero=>rfl
 |succ j=>
  unfold iY
  split
  ·rw [hx,show d[j]?=some y from hy];simp [h]
  ·rfl
theorem wL {a j:Nat} {d:List al} {x y:al} (ha:a < j) (hx:d[j]?=some x) (hy:d[j - 1]?=some y) (h:gp x y=true):iY a j d=iY a (j - 1) (gG d j (j - 1)):=by
 cases j with
 |zero=>omega
 |succ j=>
  conv=>lhs;unfold iY
  rw [if_pos ha,hx,show d[j]?=some y from hy]
  simp only [h,if_true]
  rfl
theorem uN (a:Nat):∀ (j:Nat) (d:List al),(iY a j d).length=d.length
 |0,d=>rfl
 |j+1,d=>by
  unfold iY
  split
  ·split
   ·split
    ·rw [uN a j,lC]
    ·rfl
   ·rfl
  ·rfl
theorem uO (P:List al) (x:al):∀ (n:Nat) (A R:List al),A.length=n->∃ A1 A2,A=A1++A2/\iY P.length (P.length+n) (P++A++x::R)=P++(A1++x::A2)++R/\(∀ y∈A2,gp x y=true)/\(∀ A0 y,A1=A0++[y]->fJ y x)
 |0,A,R,hA=>by
  obtain rfl:=List.eq_nil_of_length_eq_zero hA
  refine ⟨[],[],rfl,?_,by simp,by simp⟩
  rw [qf (by omega)];simp
 |n+1,A,R,hA=>by
  obtain ⟨A',y,rfl⟩:∃ A' y,A=A'++[y]:=by
   rcases jb A with rfl|h
   ·cases hA
   ·exact h
  have hn:A'.length=n:=by simpa using hA
  have e1:P++(A'++[y])++x::R=(P++A')++y::([]++x::R):=by simp
  have h1:(P++(A'++[y])++x::R)[P.length+(n+1)]?=some x:=by
   rw [List.getElem?_append_right (by simp;omega),show P.length+(n+1) - (P++(A'++[y])).length=0 by simp;omega];rfl
  have h2:(P++(A'++[y])++x::R)[P.length+(n+1) - 1]?=some y:=by
   rw [e1,List.getElem?_append_right (by simp;omega),show P.length+(n+1) - 1 - (P++A').length=0 by simp;omega];rfl
  cases hc:gp x y with
  |true=>
   rw [wL (by omega) h1 h2 hc,show P.length+(n+1) - 1=P.length+n by omega,e1,qH (P++A') [] R y x (by simp;omega) (by simp;omega)]
   obtain ⟨A1,A2,rfl,h3,h4,h5⟩:=uO P x n A' (y::R) hn
   refine ⟨A1,A2++[y],by simp,?_,?_,h5⟩
   ·rw [List.nil_append,h3];simp
   ·intro z hz
    rcases List.mem_append.1 hz with hz|hz
    ·exact h4 z hz
    ·rw [List.mem_singleton.1 hz];exact hc
  |false=>
   rw [oB h1 h2 hc]
   refine ⟨A'++[y],[],by simp,by simp,by simp,fun A0 z hz=>?_⟩
   obtain ⟨_,h⟩:=List.append_inj' hz rfl
   rw [<-List.cons.inj h|>.1]
   exact qV.1 hc
theorem gq {u v:List al}:eO (u++v)↔eO u/\eO v/\∀ x∈u,∀ y∈v,fJ x y:=List.pairwise_append
theorem uf {u:List al} {y x:al} (h:eO (u++[y])) (hx:fJ y x):∀ z∈u++[y],fJ z x:=fun z hz=>by
 rcases List.mem_append.1 hz with hz|hz
 ·exact km ((gq.1 h).2.2 z hz y (List.mem_singleton.2 rfl)) hx
 ·rw [List.mem_singleton.1 hz];exact hx
theorem yV {u:List al} {x:al} (h:eO u) (hl:∀ A0 y,u=A0++[y]->fJ y x):∀ z∈u,fJ z x:=by
 rcases jb u with rfl|⟨A',y,h'⟩
 ·simp
 ·rw [h'] at h ⊢;exact uf h (hl A' y h')
theorem yR {A1 A2:List al} {x:al} (h:eO (A1++A2)) (h1:∀ z∈A1,fJ z x) (h2:∀ z∈A2,gp x z=true):eO (A1++x::A2)/\Same (A1++A2++[x]) (A1++x::A2):=by
 obtain ⟨s1,s2,s3⟩:=gq.1 h
 refine ⟨gq.2 ⟨s1,List.pairwise_cons.2 ⟨fun y hy=>ko (h2 y hy),s2⟩,fun z hz y hy=>?_⟩,?_⟩
 ·rcases List.mem_cons.1 hy with rfl|hy
  ·exact h1 z hz
  ·exact s3 z hz y hy
 ·have:=(Same.refl A1).app (Same.comm (u:=A2) (v:=[x]) fun y hy z hz=>by rw [List.mem_singleton.1 hz];exact h2 y hy)
  simpa using this
theorem Ck {B1 B2:List al} {x:al} (h:eO (B1++B2)) (h1:∀ z∈B1,gp z x=true) (h2:∀ z∈B2,fJ x z):eO (B1++x::B2)/\Same (x::(B1++B2)) (B1++x::B2):=by
 obtain ⟨s1,s2,s3⟩:=gq.1 h
 refine ⟨gq.2 ⟨s1,List.pairwise_cons.2 ⟨h2,s2⟩,fun z hz y hy=>?_⟩,?_⟩
 ·rcases List.mem_cons.1 hy with rfl|hy
  ·exact ko (h1 z hz)
  ·exact s3 z hz y hy
 ·have:=(Same.comm (u:=[x]) (v:=B1) fun y hy z hz=>by rw [List.mem_singleton.1 hy];exact h1 z hz).app (Same.refl B2)
  simpa using this
def iL (a:Nat):Nat->List al->List al
 |0,d=>d
 |n+1,d=>iY a (a+1+n) (iL a n d)
theorem qe (a:Nat):∀ (n:Nat) (d:List al),(iL a n d).length=d.length
 |0,_=>rfl
 |n+1,d=>by unfold iL;rw [uN,qe a n]
theorem uK (P X R:List al):∀ n,n < X.length->∃ C,iL P.length n (P++X++R)=P++C++X.drop (n+1)++R/\eO C/\Same (X.take (n+1)) C
 |0,h=>by
  refine ⟨X.take 1,?_,?_,Same.refl _⟩
  ·unfold iL;rw [List.append_assoc P (X.take 1),List.take_append_drop]
  ·cases X with
   |nil=>cases h
   |cons x X=>exact List.pairwise_singleton _ _
 |n+1,h=>by
  obtain ⟨C,h1,h2,h3⟩:=uK P X R n (by omega)
  have hl:C.length=n+1:=by rw [<-h3.len,List.length_take];omega
  have e1:X.drop (n+1)=X[n+1]::X.drop (n+2):=List.drop_eq_getElem_cons h
  obtain ⟨A1,A2,rfl,h4,h5,h6⟩:=uO P X[n+1] (n+1) C (X.drop (n+2)++R) hl
  have h7:eO A1:=(gq.1 h2).1
  obtain ⟨h8,h9⟩:=yR h2 (yV h7 h6) h5
  refine ⟨A1++X[n+1]::A2,?_,h8,?_⟩
  ·unfold iL
   rw [h1,show P.length+1+n=P.length+(n+1) by omega,show P++(A1++A2)++X.drop (n+1)++R=P++(A1++A2)++X[n+1]::(X.drop (n+2)++R) by rw [List.append_assoc _ _ R,e1,List.cons_append],h4]
   simp
  ·rw [List.take_add_one,List.getElem?_eq_getElem h]
   exact (h3.app (Same.refl _)).trans h9
theorem ta {d:List al} {a b:Nat} (h:a<=b) (hb:b<=d.length):Part d (iL a (b - (a+1)) d) a b:=by
 by_cases hab:a=b
 ·subst hab
  rw [show a - (a+1)=0 by omega]
  exact ⟨rfl,rfl,rfl,by rw [Nat.sub_self];exact List.Pairwise.nil,Same.refl _⟩
 ·have e:=parts h hb
  have h1:(d.take a).length=a:=by rw [List.length_take];omega
  have h2:((d.drop a).take (b - a)).length=b - a:=by rw [List.length_take,List.length_drop];omega
  obtain ⟨C,h3,h4,h5⟩:=uK (d.take a) ((d.drop a).take (b - a)) (d.drop b) (b - (a+1)) (by omega)
  rw [h1] at h3
  rw [<-e,List.drop_of_length_le (l:=(d.drop a).take (b - a)) (by omega),List.append_nil] at h3
  rw [List.take_of_length_le (l:=(d.drop a).take (b - a)) (by omega)] at h5
  have:=Part.of (P:=d.take a) (R:=d.drop b) (a:=a) (b:=b) h1 (by omega) h4 h5
  rwa [<-e,<-h3] at this

def dm (d:List al) (i j:Nat):Bool:=
 match d[i]?,d[j]? with
 |some x,some y=>gp x y
 |_,_=>false
theorem fI {d:List al} {i j:Nat} {x y:al} (hx:d[i]?=some x) (hy:d[j]?=some y):dm d i j=gp x y:=by unfold dm;rw [hx,hy]
def fB (p:Nat->Bool) (i j:Nat):Nat:=
 if _h:i < j then if p ((i+j) / 2)=true then fB p ((i+j) / 2+1) j else fB p i ((i+j) / 2) else i
termination_by j - i
theorem eE {p:Nat->Bool} {i j:Nat} (h:¬i < j):fB p i j=i:=by rw [fB,dif_neg h]
theorem BU {p:Nat->Bool} {i j:Nat} (h:i < j) (hp:p ((i+j) / 2)=true):fB p i j=fB p ((i+j) / 2+1) j:=by rw [fB,dif_pos h,if_pos hp]
theorem BV {p:Nat->Bool} {i j:Nat} (h:i < j) (hp:p ((i+j) / 2)=false):fB p i j=fB p i ((i+j) / 2):=by rw [fB,dif_pos h,if_neg (by rw [hp];exact Bool.false_ne_true)]
theorem jV (p:Nat->Bool):∀ (n i j:Nat),j - i<=n->i<=j->i<=fB p i j/\fB p i j<=j/\(fB p i j=i\/p (fB p i j - 1)=true)/\(fB p i j=j\/p (fB p i j)=false)
 |0,i,j,hn,h=>by rw [eE (by omega)];exact ⟨Nat.le_refl _,h,.inl rfl,.inl (by omega)⟩
 |n+1,i,j,hn,h=>by
  by_cases hij:i < j
  ·cases hp:p ((i+j) / 2) with
   |true=>
    rw [BU hij hp]
    obtain ⟨h1,h2,h3,h4⟩:=jV p n ((i+j) / 2+1) j (by omega) (by omega)
    refine ⟨by omega,h2,?_,h4⟩
    rcases h3 with h3|h3
    ·right;rw [h3,Nat.add_sub_cancel];exact hp
    ·exact .inr h3
   |false=>
    rw [BV hij hp]
    obtain ⟨h1,h2,h3,h4⟩:=jV p n i ((i+j) / 2) (by omega) (by omega)
    refine ⟨h1,by omega,h3,?_⟩
    rcases h4 with h4|h4
    ·right;rw [h4];exact hp
    ·exact .inr h4
  ·rw [eE hij];exact ⟨Nat.le_refl _,h,.inl rfl,.inl (by omega)⟩
def nK (a:Nat):Nat->List al->List al
 |0,d=>d
 |n+1,d=>gG (nK a n d) (a+n) (a+n+1)
def nL (m:Nat):Nat->List al->List al
 |0,d=>d
 |n+1,d=>gG (nL m n d) (m - n) (m - n - 1)
theorem wG (a:Nat):∀ (n:Nat) (d:List al),(nK a n d).length=d.length
 |0,_=>rfl
 |n+1,d=>by unfold nK;rw [lC,wG a n]
theorem wI (m:Nat):∀ (n:Nat) (d:List al),(nL m n d).length=d.length
 |0,_=>rfl
 |n+1,d=>by unfold nL;rw [lC,wI m n]
theorem wH (P:List al) (x:al):∀ (n:Nat) (V R:List al),V.length=n->nK P.length n (P++x::(V++R))=P++V++x::R
 |0,V,R,h=>by obtain rfl:=List.eq_nil_of_length_eq_zero h;simp [nK]
 |n+1,V,R,h=>by
  rcases jb V with rfl|⟨V',y,rfl⟩
  ·cases h
  ·have hn:V'.length=n:=by simpa using h
   unfold nK
   rw [show P++x::(V'++[y]++R)=P++x::(V'++(y::R)) by simp,wH P x n V' (y::R) hn]
   have:=nY (P++V') [] R x y (i:=P.length+n) (j:=P.length+n+1) (by simp;omega) (by simp;omega)
   rw [List.nil_append,List.nil_append] at this
   rw [this];simp
theorem wJ (P:List al) (x:al) (R:List al):∀ (n:Nat) (U1 U2:List al),U2.length=n->nL (P++U1++U2).length n (P++U1++U2++x::R)=P++U1++x::(U2++R)
 |0,U1,U2,h=>by obtain rfl:=List.eq_nil_of_length_eq_zero h;simp [nL]
 |n+1,U1,U2,h=>by
  cases U2 with
  |nil=>cases h
  |cons y U=>
   have hn:U.length=n:=by simpa using h
   unfold nL
   have e1:P++U1++y::U=P++(U1++[y])++U:=by simp
   rw [e1,wJ P x R n (U1++[y]) U hn]
   have:=qH (P++U1) [] (U++R) y x (i:=(P++(U1++[y])++U).length - n - 1) (j:=(P++(U1++[y])++U).length - n) (by simp;omega) (by simp;omega)
   rw [List.nil_append,List.nil_append] at this
   rw [show P++(U1++[y])++x::(U++R)=P++U1++y::x::(U++R) by simp,this]
   simp
def fV (a b:Nat):Nat->List al->List al
 |0,d=>d
 |n+1,d=>gG (fV a b n d) (a+n) (b+n)
theorem iq (a b:Nat):∀ (n:Nat) (d:List al),(fV a b n d).length=d.length
 |0,_=>rfl
 |n+1,d=>by unfold fV;rw [lC,iq a b n]
theorem lz (p:List al):∀ (n:Nat) (x q y r:List al) {b:Nat},x.length=n->y.length=n->b=p.length+n+q.length->fV p.length b n (p++(x++(q++(y++r))))=p++(y++(q++(x++r)))
 |0,x,q,y,r,b,hx,hy,_=>by obtain rfl:=List.eq_nil_of_length_eq_zero hx;obtain rfl:=List.eq_nil_of_length_eq_zero hy;rfl
 |n+1,x,q,y,r,b,hx,hy,hb=>by
  rcases jb x with rfl|⟨x',x1,rfl⟩
  ·cases hx
  rcases jb y with rfl|⟨y',y1,rfl⟩
  ·cases hy
  have h1:x'.length=n:=by simpa using hx
  have h2:y'.length=n:=by simpa using hy
  unfold fV
  have:=lz p n x' (x1::q) y' (y1::r) (b:=b) h1 h2 (by simp;omega)
  rw [show p++(x'++[x1]++(q++(y'++[y1]++r)))=p++(x'++(x1::q++(y'++y1::r))) by simp,this]
  have:=nY (p++y') (q++x') r x1 y1 (i:=p.length+n) (j:=b+n) (by simp;omega) (by simp;omega)
  rw [show p++(y'++(x1::q++(x'++y1::r)))=p++y'++x1::(q++x'++y1::r) by simp,this]
  simp
def iI (m:Nat) (i j:Nat) (d:List al):List al:=
 if _h:0 < i/\0 < j then
  if i=j then fV (m - i) m i d
  else if i > j then iI m (i - j) j (fV (m - i) m j d)
  else iI m i (j - i) (fV (m - i) (m+j - i) i d)
 else d
termination_by i+j
theorem yI {m i:Nat} {d:List al} (hi:0 < i):iI m i i d=fV (m - i) m i d:=by rw [iI,dif_pos ⟨hi,hi⟩,if_pos rfl]
theorem yH {m i j:Nat} {d:List al} (hj:0 < j) (h:i > j):iI m i j d=iI m (i - j) j (fV (m - i) m j d):=by rw [iI,dif_pos ⟨by omega,hj⟩,if_neg (by omega),if_pos h]
theorem yG {m i j:Nat} {d:List al} (hi:0 < i) (h:i < j):iI m i j d=iI m i (j - i) (fV (m - i) (m+j - i) i d):=by rw [iI,dif_pos ⟨hi,by omega⟩,if_neg (by omega),if_neg (by omega)]
theorem rQ:∀ (n:Nat) (P u v R:List al) (m:Nat),u.length+v.length<=n->0 < u.length->0 < v.length->m=P.length+u.length->iI m u.length v.length (P++(u++(v++R)))=P++(v++(u++R))
 |0,P,u,v,R,m,hn,hu,hv,hm=>by omega
 |n+1,P,u,v,R,m,hn,hu,hv,hm=>by
  rcases Nat.lt_trichotomy u.length v.length with h|h|h
  ·rw [yG hu h]
   have e:v=v.take (v.length - u.length)++v.drop (v.length - u.length):=(List.take_append_drop _ _).symm
   have l1:(v.take (v.length - u.length)).length=v.length - u.length:=by rw [List.length_take];omega
   have l2:(v.drop (v.length - u.length)).length=u.length:=by rw [List.length_drop];omega
   generalize hv1:v.take (v.length - u.length)=v1 at e l1
   generalize hv2:v.drop (v.length - u.length)=v2 at e l2
   have h1:=lz P u.length u v1 v2 R (b:=m+v.length - u.length) rfl l2 (by omega)
   rw [show m - u.length=P.length by omega,show P++(u++(v++R))=P++(u++(v1++(v2++R))) by rw [e];simp,h1,<-l1]
   have h2:=rQ n P v2 v1 (u++R) m (by omega) (by omega) (by omega) (by omega)
   rw [l2] at h2
   rw [h2,e];simp
  ·rw [<-h,yI hu,show m - u.length=P.length by omega]
   have h1:=lz P u.length u [] v R (b:=m) rfl h.symm (by simp;omega)
   simpa using h1
  ·rw [yH hv h]
   have e:u=u.take v.length++u.drop v.length:=(List.take_append_drop _ _).symm
   have l1:(u.take v.length).length=v.length:=by rw [List.length_take];omega
   have l2:(u.drop v.length).length=u.length - v.length:=by rw [List.length_drop]
   generalize hv1:u.take v.length=u1 at e l1
   generalize hv2:u.drop v.length=u2 at e l2
   have h1:=lz P v.length u1 u2 v R (b:=m) l1 rfl (by omega)
   rw [show m - u.length=P.length by omega,show P++(u++(v++R))=P++(u1++(u2++(v++R))) by rw [e];simp,h1,<-l2]
   have h2:=rQ n (P++v) u2 u1 R m (by omega) (by omega) (by omega) (by simp;omega)
   rw [l1] at h2
   rw [show P++(v++(u2++(u1++R)))=P++v++(u2++(u1++R)) by simp,h2,e];simp
theorem mB:∀ (n m i j:Nat) (d:List al),i+j<=n->(iI m i j d).length=d.length
 |0,m,i,j,d,h=>by rw [iI,dif_neg (by omega)]
 |n+1,m,i,j,d,h=>by
  rw [iI]
  split
  ·split
   ·rw [iq]
   ·split
    ·rw [mB n _ _ _ _ (by omega),iq]
    ·rw [mB n _ _ _ _ (by omega),iq]
  ·rfl
def ea (d:List al) (a m b:Nat):Nat:=
 if m > (a+b) / 2 then fB (fun c=>!dm d ((a+b) / 2+m - 1 - c) c) ((a+b) / 2+m - b) ((a+b) / 2)
 else fB (fun c=>!dm d ((a+b) / 2+m - 1 - c) c) a m
def eN (s m e:Nat) (d:List al):List al:=if s < m/\m < e then iI m (m - s) (e - m) d else d
def dr:Nat->Nat->Nat->Nat->List al->List al
 |0,_,_,_,d=>d
 |f+1,a,m,b,d=>
  if m - a=1 then nK a (fB (fun h=>dm d h a) m b - 1 - a) d
  else if b - m=1 then nL m (m - fB (fun h=>!dm d m h) a m) d
  else
   (fun s=>(fun e=>(fun d1=>(fun d2=>if (a+b) / 2 < e/\e < b then dr f ((a+b) / 2) e b d2 else d2)
    (if a < s/\s < (a+b) / 2 then dr f a s ((a+b) / 2) d1 else d1)) (eN s m e d)) ((a+b) / 2+m - s)) (ea d a m b)
theorem kL (s m e:Nat) (d:List al):(eN s m e d).length=d.length:=by unfold eN;split;exact mB _ _ _ _ _ (Nat.le_refl _);rfl
theorem eF:∀ (f a m b:Nat) (d:List al),(dr f a m b d).length=d.length
 |0,_,_,_,_=>rfl
 |f+1,a,m,b,d=>by
  unfold dr
  split
  ·rw [wG]
  ·split
   ·rw [wI]
   ·dsimp only
    split
    ·rw [eF f]
     split
     ·rw [eF f,kL]
     ·rw [kL]
    ·split
     ·rw [eF f,kL]
     ·rw [kL]
theorem sZ {a i:Nat} {d:List al} (h:a+1<=i):iL a (i+1 - (a+1)) d=iY a i (iL a (i - (a+1)) d):=by
 rw [show i+1 - (a+1)=(i - (a+1))+1 by omega]
 conv=>lhs;unfold iL
 rw [show a+1+(i - (a+1))=i by omega]
theorem Aq {a k:Nat} {d:List al} (h:a<=k):nK a (k+1 - a) d=gG (nK a (k - a) d) k (k+1):=by
 rw [show k+1 - a=(k - a)+1 by omega]
 conv=>lhs;unfold nK
 rw [show a+(k - a)=k by omega]
theorem Ar {m k:Nat} {d:List al} (h:k<=m) (h0:0 < k):nL m (m - (k - 1)) d=gG (nL m (m - k) d) k (k - 1):=by
 rw [show m - (k - 1)=(m - k)+1 by omega]
 conv=>lhs;unfold nL
 rw [show m - (m - k)=k by omega]
theorem lN {P X:List al} {k n:Nat} (hn:n=P.length+k):(P++X)[n]?=X[k]?:=by
 subst hn;rw [List.getElem?_append_right (by omega),Nat.add_sub_cancel_left]
theorem le_last {B:List al} {x:al} (h:eO B) (hl:∀ A0 y,B=A0++[y]->gp y x=true):∀ z∈B,gp z x=true:=by
 rcases jb B with rfl|⟨A',y,h'⟩
 ·simp
 ·intro z hz
  have h1:=hl A' y h'
  rw [h'] at h hz
  rcases List.mem_append.1 hz with hz|hz
  ·exact yU ((gq.1 h).2.2 z hz y (List.mem_singleton.2 rfl)) h1
  ·rw [List.mem_singleton.1 hz];exact h1
theorem AO {B:List al} {x:al} (h:eO B) (hl:∀ y B0,B=y::B0->gp x y=true):∀ z∈B,gp x z=true:=by
 cases B with
 |nil=>simp
 |cons y B0=>
  intro z hz
  have h1:=hl y B0 rfl
  rcases List.mem_cons.1 hz with rfl|hz
  ·exact h1
  ·exact uG h1 ((List.pairwise_cons.1 h).1 z hz)
theorem AP {B:List al} {x:al} (h:eO B) (hl:∀ y B0,B=y::B0->fJ x y):∀ z∈B,fJ x z:=by
 cases B with
 |nil=>simp
 |cons y B0=>
  intro z hz
  have h1:=hl y B0 rfl
  rcases List.mem_cons.1 hz with rfl|hz
  ·exact h1
  ·exact km h1 ((List.pairwise_cons.1 h).1 z hz)
theorem ug {A:List al} {y:al} {A0:List al} (h:A=A0++[y]):A[A.length - 1]?=some y:=by subst h;simp
theorem mS (l:List al) (k:Nat) (h:k<=l.length):∃ u v,l=u++v/\u.length=k:=⟨l.take k,l.drop k,(List.take_append_drop k l).symm,by rw [List.length_take];omega⟩
theorem tf {U:List al} {u:al} (h:eO U) (hu:U[0]?=some u):∀ x∈U,fJ u x:=by
 cases U with
 |nil=>simp
 |cons y U=>
  simp at hu;subst hu
  intro x hx
  rcases List.mem_cons.1 hx with rfl|hx
  ·exact nk _
  ·exact (List.pairwise_cons.1 h).1 x hx
theorem uJ {V:List al} {v:al} (h:eO V) (hv:V[V.length - 1]?=some v):∀ y∈V,fJ y v:=by
 rcases jb V with rfl|⟨A,z,rfl⟩
 ·simp
 ·simp at hv;subst hv
  exact uf h (nk _)
theorem get_some {V:List al} {k:Nat} (h:k < V.length):∃ v,V[k]?=some v:=⟨V[k],List.getElem?_eq_getElem h⟩
theorem pV:∀ (f:Nat) (P A B R:List al),A.length+B.length<=f->0 < A.length->0 < B.length->eO A->eO B->
  ∃ C,dr f P.length (P.length+A.length) (P.length+A.length+B.length) (P++(A++(B++R)))=P++(C++R)/\eO C/\Same (A++B) C
 |0,P,A,B,R,hf,ha,hb,_,_=>by omega
 |f+1,P,A,B,R,hf,ha,hb,sA,sB=>by
  obtain ⟨a,hea⟩:∃ a,a=P.length:=⟨_,rfl⟩
  obtain ⟨m,hem⟩:∃ m,m=P.length+A.length:=⟨_,rfl⟩
  obtain ⟨b,heb⟩:∃ b,b=P.length+A.length+B.length:=⟨_,rfl⟩
  rw [<-hea,show a+A.length=m by omega,show m+B.length=b by omega]
  unfold dr
  split
  ·
   rename_i h1
   obtain ⟨x,rfl⟩:∃ x,A=[x]:=by
    match A,ha,(by omega:A.length=1) with
    |[x],_,_=>exact ⟨x,rfl⟩
   have hl1:[x].length=1:=rfl
   obtain ⟨q1,q2,q3,q4⟩:=jV (fun h=>dm (P++([x]++(B++R))) h a) (b - m) m b (Nat.le_refl _) (by omega)
   generalize fB (fun h=>dm (P++([x]++(B++R))) h a) m b=i at q1 q2 q3 q4
   obtain ⟨B1,B2,rfl,hB1⟩:=mS B (i - m) (by omega)
   rw [List.length_append] at heb
   have gx:(P++([x]++(B1++B2++R)))[a]?=some x:=by rw [lN (k:=0) (by omega)];rfl
   have gB:∀ k,k < B1.length+B2.length->(P++([x]++(B1++B2++R)))[m+k]?=(B1++B2)[k]?:=fun k hk=>by
    rw [lN (k:=k+1) (by omega),List.cons_append,List.getElem?_cons_succ,List.nil_append,List.getElem?_append_left (by simp;omega)]
   obtain ⟨s1,s2,s3⟩:=gq.1 sB
   have w1:∀ z∈B1,gp z x=true:=le_last s1 fun A0 y hy=>by
    have hpos:0 < B1.length:=by rw [hy];simp
    rcases q3 with q3|q3
    ·omega
    ·have g1:=gB (B1.length - 1) (by omega)
     rw [List.getElem?_append_left (l₁:=B1) (by omega),ug hy,show m+(B1.length - 1)=i - 1 by omega] at g1
     have q3:dm (P++([x]++(B1++B2++R))) (i - 1) a=true:=q3
     rwa [fI g1 gx] at q3
   have w2:∀ z∈B2,fJ x z:=AP s2 fun y B0 hy=>by
    have hpos:0 < B2.length:=by rw [hy];simp
    rcases q4 with q4|q4
    ·omega
    ·have g1:=gB B1.length (by omega)
     have g2:B2[0]?=some y:=by rw [hy];rfl
     rw [List.getElem?_append_right (l₁:=B1) (Nat.le_refl _),Nat.sub_self,g2,show m+B1.length=i by omega] at g1
     have q4:dm (P++([x]++(B1++B2++R))) i a=false:=q4
     rw [fI g1 gx] at q4
     exact qV.1 q4
   obtain ⟨t1,t2⟩:=Ck sB w1 w2
   refine ⟨B1++x::B2,?_,t1,t2⟩
   have h2:=wH P x B1.length B1 (B2++R) rfl
   rw [show i - 1 - a=B1.length by omega,hea,show P++([x]++(B1++B2++R))=P++x::(B1++(B2++R)) by simp,h2]
   simp
  ·split
   ·
    rename_i h0 h1
    obtain ⟨x,rfl⟩:∃ x,B=[x]:=by
     match B,hb,(by omega:B.length=1) with
     |[x],_,_=>exact ⟨x,rfl⟩
    have hl1:[x].length=1:=rfl
    obtain ⟨q1,q2,q3,q4⟩:=jV (fun h=>!dm (P++(A++([x]++R))) m h) (m - a) a m (Nat.le_refl _) (by omega)
    generalize fB (fun h=>!dm (P++(A++([x]++R))) m h) a m=i at q1 q2 q3 q4
    obtain ⟨A1,A2,rfl,hA1⟩:=mS A (i - a) (by omega)
    rw [List.length_append] at hem heb
    have gx:(P++(A1++A2++([x]++R)))[m]?=some x:=by rw [lN (k:=A1.length+A2.length) (by omega),lN (k:=0) (by simp)];rfl
    have gA:∀ k,k < A1.length+A2.length->(P++(A1++A2++([x]++R)))[a+k]?=(A1++A2)[k]?:=fun k hk=>by
     rw [lN (k:=k) (by omega),List.getElem?_append_left (by simp;omega)]
    obtain ⟨s1,s2,s3⟩:=gq.1 sA
    have w1:∀ z∈A1,fJ z x:=yV s1 fun A0 y hy=>by
     have hpos:0 < A1.length:=by rw [hy];simp
     rcases q3 with q3|q3
     ·omega
     ·have g1:=gA (A1.length - 1) (by omega)
      rw [List.getElem?_append_left (l₁:=A1) (by omega),ug hy,show a+(A1.length - 1)=i - 1 by omega] at g1
      have q3:(!dm (P++(A1++A2++([x]++R))) m (i - 1))=true:=q3
      rw [fI gx g1,Bool.not_eq_true'] at q3
      exact qV.1 q3
    have w2:∀ z∈A2,gp x z=true:=AO s2 fun y B0 hy=>by
     have hpos:0 < A2.length:=by rw [hy];simp
     rcases q4 with q4|q4
     ·omega
     ·have g1:=gA A1.length (by omega)
      have g2:A2[0]?=some y:=by rw [hy];rfl
      rw [List.getElem?_append_right (l₁:=A1) (Nat.le_refl _),Nat.sub_self,g2,show a+A1.length=i by omega] at g1
      have q4:(!dm (P++(A1++A2++([x]++R))) m i)=false:=q4
      rw [fI gx g1,Bool.not_eq_false'] at q4
      exact q4
    obtain ⟨t1,t2⟩:=yR sA w1 w2
    refine ⟨A1++x::A2,?_,t1,t2⟩
    have h2:=wJ P x R A2.length A1 A2 rfl
    rw [show (P++A1++A2).length=m by simp;omega] at h2
    rw [show m - i=A2.length by omega,show P++(A1++A2++([x]++R))=P++A1++A2++x::R by simp,h2]
    simp
   ·
    rename_i h0 h1
    obtain ⟨mid,hmid⟩:∃ mid,mid=(a+b) / 2:=⟨_,rfl⟩
    have hs:∃ s,ea (P++(A++(B++R))) a m b=s/\a<=s/\s<=m/\s<=mid/\mid+m - s<=b/\
      (s=m\/s=mid\/dm (P++(A++(B++R))) (mid+m - 1 - s) s=true)/\(s=a\/mid+m - s=b\/dm (P++(A++(B++R))) (mid+m - s) (s - 1)=false):=by
     refine ⟨_,rfl,?_⟩
     unfold ea
     rw [<-hmid]
     split
     ·obtain ⟨q1,q2,q3,q4⟩:=jV (fun c=>!dm (P++(A++(B++R))) (mid+m - 1 - c) c) (mid - (mid+m - b)) (mid+m - b) mid (Nat.le_refl _) (by omega)
      generalize fB (fun c=>!dm (P++(A++(B++R))) (mid+m - 1 - c) c) (mid+m - b) mid=s at q1 q2 q3 q4
      refine ⟨by omega,by omega,by omega,by omega,?_,?_⟩
      ·rcases q4 with q4|q4
       ·exact .inr (.inl q4)
       ·right;right;simpa using q4
      ·rcases q3 with q3|q3
       ·right;left;omega
       ·by_cases hs0:s=a
        ·exact .inl hs0
        ·right;right
         have q3:(!dm (P++(A++(B++R))) (mid+m - 1 - (s - 1)) (s - 1))=true:=q3
         rw [show mid+m - 1 - (s - 1)=mid+m - s by omega] at q3;simpa using q3
     ·obtain ⟨q1,q2,q3,q4⟩:=jV (fun c=>!dm (P++(A++(B++R))) (mid+m - 1 - c) c) (m - a) a m (Nat.le_refl _) (by omega)
      generalize fB (fun c=>!dm (P++(A++(B++R))) (mid+m - 1 - c) c) a m=s at q1 q2 q3 q4
      refine ⟨by omega,by omega,by omega,by omega,?_,?_⟩
      ·rcases q4 with q4|q4
       ·exact .inl q4
       ·right;right;simpa using q4
      ·rcases q3 with q3|q3
       ·exact .inl q3
       ·by_cases hs0:s=a
        ·exact .inl hs0
        ·right;right
         have q3:(!dm (P++(A++(B++R))) (mid+m - 1 - (s - 1)) (s - 1))=true:=q3
         rw [show mid+m - 1 - (s - 1)=mid+m - s by omega] at q3;simpa using q3
    obtain ⟨s,hs0,hs1,hs2,hs3,hs4,hs5,hs6⟩:=hs
    dsimp only
    rw [hs0,<-hmid]
    obtain ⟨A1,U,rfl,hA1⟩:=mS A (s - a) (by omega)
    rw [List.length_append] at hem heb ha hf
    obtain ⟨V,B2,rfl,hV⟩:=mS B (mid+m - s - m) (by omega)
    rw [List.length_append] at heb hb hf
    have gA:∀ k,k < A1.length+U.length->(P++(A1++U++(V++B2++R)))[a+k]?=(A1++U)[k]?:=fun k hk=>by
     rw [lN (k:=k) (by omega),List.getElem?_append_left (by simp;omega)]
    have gB:∀ k,k < V.length+B2.length->(P++(A1++U++(V++B2++R)))[m+k]?=(V++B2)[k]?:=fun k hk=>by
     rw [lN (k:=A1.length+U.length+k) (by omega),lN (k:=k) (by simp),List.getElem?_append_left (by simp;omega)]
    obtain ⟨a1,a2,a3⟩:=gq.1 sA
    obtain ⟨b1,b2,b3⟩:=gq.1 sB
    have w1:∀ x∈U,∀ y∈V,gp y x=true:=by
     intro x hx y hy
     have hU:0 < U.length:=List.length_pos_of_mem hx
     have hVp:0 < V.length:=List.length_pos_of_mem hy
     rcases hs5 with h5|h5|h5
     ·omega
     ·omega
     ·obtain ⟨v,hv⟩:=get_some (V:=V) (k:=V.length - 1) (by omega)
      obtain ⟨u,hu⟩:=get_some (V:=U) (k:=0) hU
      have g1:=gB (V.length - 1) (by omega)
      rw [List.getElem?_append_left (l₁:=V) (by omega),hv,show m+(V.length - 1)=mid+m - 1 - s by omega] at g1
      have g2:=gA A1.length (by omega)
      rw [List.getElem?_append_right (l₁:=A1) (Nat.le_refl _),Nat.sub_self,hu,show a+A1.length=s by omega] at g2
      rw [fI g1 g2] at h5
      exact uG (yU (uJ b1 hv y hy) h5) (tf a2 hu x hx)
    have w2:∀ x∈A1,∀ y∈B2,fJ x y:=by
     intro x hx y hy
     have hAp:0 < A1.length:=List.length_pos_of_mem hx
     have hBp:0 < B2.length:=List.length_pos_of_mem hy
     rcases hs6 with h6|h6|h6
     ·omega
     ·omega
     ·obtain ⟨v,hv⟩:=get_some (V:=A1) (k:=A1.length - 1) (by omega)
      obtain ⟨u,hu⟩:=get_some (V:=B2) (k:=0) hBp
      have g1:=gB V.length (by omega)
      rw [List.getElem?_append_right (l₁:=V) (Nat.le_refl _),Nat.sub_self,hu,show m+V.length=mid+m - s by omega] at g1
      have g2:=gA (A1.length - 1) (by omega)
      rw [List.getElem?_append_left (l₁:=A1) (by omega),hv,show a+(A1.length - 1)=s - 1 by omega] at g2
      rw [fI g1 g2] at h6
      exact km (uJ a1 hv x hx) (km (qV.1 h6) (tf b2 hu y hy))
    have hr:eN s m (mid+m - s) (P++(A1++U++(V++B2++R)))=P++(A1++(V++(U++(B2++R)))):=by
     unfold eN
     have e0:P++(A1++U++(V++B2++R))=P++A1++(U++(V++(B2++R))):=by simp
     split
     ·have:=rQ (U.length+V.length) (P++A1) U V (B2++R) m (Nat.le_refl _) (by omega) (by omega) (by simp;omega)
      rw [show m - s=U.length by omega,show mid+m - s - m=V.length by omega,e0,this];simp
     ·rcases (by omega:U.length=0\/V.length=0) with hz|hz
      ·obtain rfl:=List.eq_nil_of_length_eq_zero hz;simp
      ·obtain rfl:=List.eq_nil_of_length_eq_zero hz;simp
    rw [hr]
    have hL:∃ C1,(if a < s/\s < mid then dr f a s mid (P++(A1++(V++(U++(B2++R))))) else P++(A1++(V++(U++(B2++R)))))=P++(C1++(U++(B2++R)))/\eO C1/\Same (A1++V) C1:=by
     split
     ·obtain ⟨C1,c1,c2,c3⟩:=pV f P A1 V (U++(B2++R)) (by omega) (by omega) (by omega) a1 b1
      rw [<-hea,show a+A1.length=s by omega,show s+V.length=mid by omega] at c1
      exact ⟨C1,c1,c2,c3⟩
     ·rcases (by omega:A1.length=0\/V.length=0) with hz|hz
      ·obtain rfl:=List.eq_nil_of_length_eq_zero hz;exact ⟨V,by simp,b1,Same.refl _⟩
      ·obtain rfl:=List.eq_nil_of_length_eq_zero hz;exact ⟨A1,by simp,a1,by rw [List.append_nil];exact Same.refl _⟩
    obtain ⟨C1,c1,c2,c3⟩:=hL
    rw [c1]
    have hc1:C1.length=A1.length+V.length:=by rw [<-c3.len,List.length_append]
    have hR:∃ C2,(if mid < mid+m - s/\mid+m - s < b then dr f mid (mid+m - s) b (P++(C1++(U++(B2++R)))) else P++(C1++(U++(B2++R))))=P++(C1++(C2++R))/\eO C2/\Same (U++B2) C2:=by
     split
     ·obtain ⟨C2,d1,d2,d3⟩:=pV f (P++C1) U B2 R (by omega) (by omega) (by omega) a2 b2
      rw [List.length_append,show P.length+C1.length=mid by omega,show mid+U.length=mid+m - s by omega,show mid+m - s+B2.length=b by omega] at d1
      exact ⟨C2,by simpa using d1,d2,d3⟩
     ·rcases (by omega:U.length=0\/B2.length=0) with hz|hz
      ·obtain rfl:=List.eq_nil_of_length_eq_zero hz;exact ⟨B2,by simp,b2,Same.refl _⟩
      ·obtain rfl:=List.eq_nil_of_length_eq_zero hz;exact ⟨U,by simp,a2,by rw [List.append_nil];exact Same.refl _⟩
    obtain ⟨C2,d1,d2,d3⟩:=hR
    refine ⟨C1++C2,by rw [d1];simp,gq.2 ⟨c2,d2,?_⟩,?_⟩
    ·intro x hx y hy
     rcases List.mem_append.1 (c3.mem.2 hx) with hx|hx
     ·rcases List.mem_append.1 (d3.mem.2 hy) with hy|hy
      ·exact a3 x hx y hy
      ·exact w2 x hx y hy
     ·rcases List.mem_append.1 (d3.mem.2 hy) with hy|hy
      ·exact ko (w1 y hy x hx)
      ·exact b3 x hx y hy
    ·have e1:Same (A1++U++(V++B2)) (A1++(V++(U++B2))):=by
      have:=(Same.refl A1).app ((Same.comm w1).app (Same.refl B2))
      simpa using this
     have e2:=c3.app d3
     rw [List.append_assoc] at e2
     exact e1.trans e2
theorem yp {f:Nat} {d:List al} {a m b:Nat} (h1:a < m) (h2:m < b) (h3:b<=d.length) (hf:b - a<=f) (sA:eO ((d.drop a).take (m - a))) (sB:eO ((d.drop m).take (b - m))):Part d (dr f a m b d) a b:=by
 have e1:=parts (d:=d) (a:=a) (b:=b) (by omega) h3
 have e2:(d.drop a).take (b - a)=(d.drop a).take (m - a)++(d.drop m).take (b - m):=by
  rw [show b - a=(m - a)+(b - m) by omega,List.take_add,List.drop_drop,show a+(m - a)=m by omega]
 have l1:(d.take a).length=a:=by rw [List.length_take];omega
 have l2:((d.drop a).take (m - a)).length=m - a:=by rw [List.length_take,List.length_drop];omega
 have l3:((d.drop m).take (b - m)).length=b - m:=by rw [List.length_take,List.length_drop];omega
 obtain ⟨C,c1,c2,c3⟩:=pV f (d.take a) ((d.drop a).take (m - a)) ((d.drop m).take (b - m)) (d.drop b) (by omega) (by omega) (by omega) sA sB
 rw [l1,l2,l3,show a+(m - a)=m by omega,show m+(b - m)=b by omega] at c1
 rw [<-e2] at c3
 rw [e2] at e1
 have e3:d.take a++((d.drop a).take (m - a)++((d.drop m).take (b - m)++d.drop b))=d:=by rw [<-List.append_assoc,<-List.append_assoc,List.append_assoc (d.take a)];exact e1.symm
 rw [e3] at c1
 have:=Part.of (P:=d.take a) (X:=(d.drop a).take (b - a)) (C:=C) (R:=d.drop b) (a:=a) (b:=b) l1 (by rw [List.length_take,List.length_drop];omega) c2 c3
 rwa [e2,<-e1,List.append_assoc,<-c1] at this
theorem ry {p:Nat->Bool} {i j h R:Nat} (hb:fB p i j=R) (hij:i < j) (hh:h=(i+j) / 2) (hp:p h=true):fB p (h+1) j=R:=by
 subst hh;rw [<-hb,BU hij hp]
theorem rz {p:Nat->Bool} {i j h R:Nat} (hb:fB p i j=R) (hij:i < j) (hh:h=(i+j) / 2) (hp:p h=false):fB p i h=R:=by
 subst hh;rw [<-hb,BV hij hp]
theorem dN {f a m b mid s e:Nat} {d d1 d2 d3:List al} (h0:¬m - a=1) (h1:¬b - m=1) (hm:mid=(a+b) / 2) (hs:ea d a m b=s) (he:mid+m - s=e) (hd1:eN s m e d=d1)
  (hd2:(if a < s/\s < mid then dr f a s mid d1 else d1)=d2) (hd3:(if mid < e/\e < b then dr f mid e b d2 else d2)=d3):dr (f+1) a m b d=d3:=by
 subst hm he hd1 hd2 hd3 hs
 rw [dr.eq_2,if_neg h0,if_neg h1]
def kC:List al->al->List al
 |[],r=>[r]
 |x::l,r=>if gp r x=true then r::x::l else x::kC l r
def gm (l:List al):List al:=l.foldl kC []
theorem uM {r z:al}:∀ {l:List al},z∈kC l r↔z=r\/z∈l
 |[]=>by simp [kC]
 |x::l=>by
  unfold kC
  split
  ·simp
  ·rw [List.mem_cons,uM,List.mem_cons]
   constructor
   ·rintro (h|h|h)
    ·exact .inr (.inl h)
    ·exact .inl h
    ·exact .inr (.inr h)
   ·rintro (h|h|h)
    ·exact .inr (.inl h)
    ·exact .inl h
    ·exact .inr (.inr h)
theorem uL {r:al}:∀ {l:List al},eO l->eO (kC l r)
 |[],_=>List.pairwise_singleton _ _
 |x::l,h=>by
  obtain ⟨h1,h2⟩:=List.pairwise_cons.1 h
  unfold kC
  split
  ·rename_i hc
   exact List.pairwise_cons.2 ⟨fun z hz=>by
    rcases List.mem_cons.1 hz with rfl|hz
    ·exact ko hc
    ·exact km (ko hc) (h1 z hz),h⟩
  ·rename_i hc
   have hc:fJ x r:=qV.1 (by simpa using hc)
   exact List.pairwise_cons.2 ⟨fun z hz=>by
    rcases uM.1 hz with rfl|hz
    ·exact hc
    ·exact h1 z hz,uL h2⟩
theorem tb {r:al}:∀ {l:List al},eO l->Same (l++[r]) (kC l r)
 |[],_=>Same.refl _
 |x::l,h=>by
  obtain ⟨h1,h2⟩:=List.pairwise_cons.1 h
  unfold kC
  split
  ·rename_i hc
   exact (Same.comm (u:=x::l) (v:=[r]) fun y hy z hz=>by
    rw [List.mem_singleton.1 hz]
    rcases List.mem_cons.1 hy with rfl|hy
    ·exact hc
    ·exact uG hc (h1 y hy))
  ·exact (Same.refl [x]).app (tb h2)
theorem qj:∀ (l acc:List al),eO acc->eO (l.foldl kC acc)/\Same (acc++l) (l.foldl kC acc)
 |[],acc,h=>⟨h,by rw [List.append_nil];exact Same.refl _⟩
 |x::l,acc,h=>by
  obtain ⟨h1,h2⟩:=qj l (kC acc x) (uL h)
  refine ⟨h1,?_⟩
  have h3:=((tb (r:=x) h).app (Same.refl l)).trans h2
  simpa using h3
theorem yx (l:List al):eO (gm l):=(qj l [] List.Pairwise.nil).1
theorem mT (l:List al):Same l (gm l):=(qj l [] List.Pairwise.nil).2
theorem xk {l d:List al} (h:eO d) (h':Same l d):gm l=d:=eO.uniq (yx l) h ((mT l).symm.trans h')
theorem sH (l:List al):(gm l).length=l.length:=(mT l).len.symm
theorem yy {l:List al} (h:l.length=0):gm l=l:=by obtain rfl:=List.eq_nil_of_length_eq_zero h;rfl
def jd (d:List al) (a s:Nat):List al:=(d.drop a).take s
def ss (s a:Nat) (d:List al):Prop:=(∃ q,a=q * s)/\∀ k,(k+1) * s<=a->eO (jd d (k * s) s)
def sq (s:Nat) (d:List al):Prop:=∀ k,eO (jd d (k * s) s)
def mu (s a:Nat) (d:List al):Prop:=ss (2 * s) a d/\∀ k,a<=k * s->eO (jd d (k * s) s)
theorem Part.CU {d y:List al} {a b:Nat} (h:Part d y a b) {c s:Nat} (hc:c+s<=a):jd y c s=jd d c s:=by
 have e:∀ z:List al,jd z c s=((z.take a).drop c).take s:=fun z=>by
  unfold jd;rw [List.drop_take,List.take_take,Nat.min_eq_left (by omega)]
 rw [e y,e d,h.l]
theorem Part.FA {d y:List al} {a b:Nat} (h:Part d y a b) {c s:Nat} (hc:b<=c):jd y c s=jd d c s:=by
 have e:∀ z:List al,jd z c s=((z.drop b).drop (c - b)).take s:=fun z=>by
  unfold jd;rw [List.drop_drop,show b+(c - b)=c by omega]
 rw [e y,e d,h.r]
theorem wh {d:List al} {a s:Nat} (h:d.length<=a):jd d a s=[]:=by unfold jd;rw [List.drop_of_length_le h];simp
theorem rO {d:List al} {a s t:Nat} (hs:d.length<=a+s) (ht:d.length<=a+t):jd d a s=jd d a t:=by
 unfold jd;rw [List.take_of_length_le (by rw [List.length_drop];omega),List.take_of_length_le (by rw [List.length_drop];omega)]
theorem we:eO []:=List.Pairwise.nil
theorem Cj {k q s:Nat} (h:(k+1) * s<=q * s+s) (hs:0 < s):k<=q:=by
 rw [<-Nat.succ_mul] at h
 have:=Nat.le_of_mul_le_mul_right h hs
 omega
theorem rp {s:Nat} (hs:0 < s) {d:List al}:ss s 0 d:=⟨⟨0,by simp⟩,fun k h=>by rw [Nat.succ_mul] at h;omega⟩
theorem tk {s a:Nat} {d y:List al} (hs:0 < s) (h:ss s a d) (p:Part d y a (a+s)):ss s (a+s) y:=by
 obtain ⟨⟨q,hq⟩,h2⟩:=h
 refine ⟨⟨q+1,by rw [Nat.succ_mul,hq]⟩,fun k hk=>?_⟩
 subst hq
 have hkq:=Cj hk hs
 by_cases e:k=q
 ·subst e
  have:=p.s
  rw [Nat.add_sub_cancel_left] at this
  exact this
 ·have h3:(k+1) * s<=q * s:=Nat.mul_le_mul_right s (by omega)
  rw [p.CU (by rw [Nat.succ_mul] at h3;exact h3)]
  exact h2 k h3
theorem vg {s a:Nat} {d y:List al} (hs:0 < s) (h:ss s a d) (ha:a<=y.length) (p:Part d y a y.length) (hn:y.length<=a+s):sq s y:=by
 obtain ⟨⟨q,rfl⟩,h2⟩:=h
 intro k
 rcases Nat.lt_trichotomy k q with e|e|e
 ·have h3:(k+1) * s<=q * s:=Nat.mul_le_mul_right s (by omega)
  rw [p.CU (by rw [Nat.succ_mul] at h3;exact h3)]
  exact h2 k h3
 ·subst e
  have h3:=p.s
  rw [rO (t:=y.length - k * s) hn (by omega)]
  exact h3
 ·have h3:(q+1) * s<=k * s:=Nat.mul_le_mul_right s (by omega)
  rw [Nat.succ_mul] at h3
  rw [wh (by omega)];exact we
theorem Ae {s:Nat} {d:List al} (h:sq s d) (hs:d.length<=s):eO d:=by
 have:=h 0
 unfold jd at this
 rw [Nat.zero_mul,List.drop_zero,List.take_of_length_le hs] at this
 exact this
theorem xG {s:Nat} (hs:0 < s) {d:List al} (h:sq s d):mu s 0 d:=⟨rp (by omega),fun k _=>h k⟩
theorem mu.mul {s a:Nat} {d:List al} (h:mu s a d):∃ k,a=k * s:=by
 obtain ⟨q,hq⟩:=h.1.1
 exact ⟨q * 2,by rw [hq,Nat.mul_assoc]⟩
theorem Ax {s a:Nat} {d:List al} (h:mu s a d):eO (jd d a s)/\eO (jd d (a+s) s):=by
 obtain ⟨k,hk⟩:=h.mul
 refine ⟨?_,?_⟩
 ·have:=h.2 k (by omega);rwa [<-hk] at this
 ·have:=h.2 (k+1) (by rw [Nat.succ_mul];omega);rwa [Nat.succ_mul,<-hk] at this
theorem zg {s a:Nat} {d y:List al} (hs:0 < s) (h:mu s a d) (p:Part d y a (a+2 * s)):mu s (a+2 * s) y:=
 ⟨tk (by omega) h.1 p,fun k hk=>by rw [p.FA hk];exact h.2 k (by omega)⟩
theorem Ay {s a:Nat} {d y:List al} (hs:0 < s) (h:mu s a d) (ha:a<=y.length) (p:Part d y a y.length) (hn:y.length<=a+2 * s):sq (s * 2) y:=by
 rw [Nat.mul_comm];exact vg (by omega) h.1 ha p hn
theorem zh {s a:Nat} {d:List al} (hs:0 < s) (h:mu s a d) (hn:d.length<=a+s):sq (s * 2) d:=by
 rw [Nat.mul_comm]
 obtain ⟨⟨⟨q,rfl⟩,h2⟩,h3⟩:=h
 intro k
 rcases Nat.lt_trichotomy k q with e|e|e
 ·exact h2 k (Nat.mul_le_mul_right _ (by omega))
 ·subst e
  rw [rO (t:=s) (by omega) hn]
  have:=h3 (k * 2) (by rw [Nat.mul_assoc];omega)
  rwa [Nat.mul_assoc] at this
 ·have h4:(q+1) * (2 * s)<=k * (2 * s):=Nat.mul_le_mul_right _ (by omega)
  rw [Nat.succ_mul] at h4
  rw [wh (by omega)];exact we
theorem uc {s a b:Nat} {d:List al} (hs:0 < s) (h:mu s a d) (h1:a+s < b) (h2:b<=d.length) (h3:b=a+2 * s\/(b=d.length/\b<=a+2 * s)):Part d (dr (b - a) a (a+s) b d) a b:=by
 obtain ⟨s1,s2⟩:=Ax h
 refine yp (by omega) h1 h2 (Nat.le_refl _) ?_ ?_
 ·rw [Nat.add_sub_cancel_left];exact s1
 ·rcases h3 with h3|⟨h3,h4⟩
  ·rw [show b - (a+s)=s by omega];exact s2
  ·have:=rO (d:=d) (a:=a+s) (s:=s) (t:=b - (a+s)) (by omega) (by omega)
   show eO (jd d (a+s) (b - (a+s)))
   rw [<-this];exact s2
def mq (r:al):Prop:=r.kind < 1\/r.kind > 8
def nC (r:al):Prop:=r.ay < 0\/r.ay > 7\/r.ba < 0\/r.ba > 29\/r.sum < 1\/r.sum > 1000000
instance (r:al):Decidable (mq r):=by unfold mq;infer_instance
instance (r:al):Decidable (nC r):=by unfold nC;infer_instance
def ml:List al->Int->cV
 |[],_=>⟨0,0⟩
 |r::l,i=>if mq r then ⟨1,i⟩ else if nC r then ⟨3,i⟩ else ml l (i+1)
def gj (l:List al):cV:=if l.length > 100 then ⟨5,0⟩ else ml l 0
theorem oq {l:List al} {q:Nat} {x:al} (h:l[q]?=some x):ml (l.drop q) q=if mq x then ⟨1,q⟩ else if nC x then ⟨3,q⟩ else ml (l.drop (q+1)) ((q+1:Nat):Int):=by
 obtain ⟨hq,rfl⟩:=List.getElem?_eq_some_iff.1 h
 rw [List.drop_eq_getElem_cons hq];rfl
theorem yJ {l:List al} {q:Nat} {i:Int} (h:l.length<=q):ml (l.drop q) i=⟨0,0⟩:=by rw [List.drop_of_length_le h];rfl
def wz (r:al):Prop:=¬mq r/\¬nC r
theorem wu:∀ {l:List al} {i:Int},(ml l i).err=0↔∀ x∈l,wz x
 |[],i=>by simp [ml]
 |r::l,i=>by
  unfold ml
  split
  ·rename_i h
   simp only [List.mem_cons,forall_eq_or_imp]
   exact ⟨fun e=>absurd e (by decide),fun e=>absurd h e.1.1⟩
  ·split
   ·rename_i h
    simp only [List.mem_cons,forall_eq_or_imp]
    exact ⟨fun e=>absurd e (by decide),fun e=>absurd h e.1.2⟩
   ·rename_i h1 h2
    rw [wu]
    simp only [List.mem_cons,forall_eq_or_imp]
    exact ⟨fun e=>⟨⟨h1,h2⟩,e⟩,fun e=>e.2⟩
theorem yh {l:List al}:(gj l).err=0↔l.length<=100/\∀ x∈l,wz x:=by
 unfold gj
 split
 ·exact ⟨fun e=>absurd e (by decide),fun e=>by omega⟩
 ·rw [wu];exact ⟨fun e=>⟨by omega,e⟩,fun e=>e.2⟩
theorem Ez {x:al} (h:wz x):0<=x.ay/\x.ay<=7/\0<=x.ba/\x.ba<=29/\1<=x.kind/\x.kind<=8/\1<=x.sum/\x.sum<=1000000:=by
 unfold wz mq nC at h;omega
theorem qE {l:List al} {q:Nat} {x:al} (h:l[q]?=some x):l.take (q+1)=l.take q++[x]:=by
 rw [List.take_add_one,h];rfl
def lR (n:Int):Nat->List Int
 |0=>[]
 |k+1=>n / 256 ^ k % 256::lR n k
theorem pj (n:Int):∀ k,(lR n k).length=k
 |0=>rfl
 |k+1=>by unfold lR;rw [List.length_cons,pj n k]
theorem Bs {n:Int} {k:Nat} (h:1<=k):lR n k=n / 256 ^ (k - 1) % 256::lR n (k - 1):=by
 obtain ⟨j,rfl⟩:∃ j,k=j+1:=⟨k - 1,by omega⟩
 rfl
theorem Ci (k:Nat):(2:Int) ^ (8 * k)=256 ^ k:=by rw [Int.pow_mul];rfl
theorem Fy {k:Nat} {b n:Int} (h1:1<=k) (hb:b=8 * ((k:Int) - 1)):n / 2 ^ b.toNat=n / 256 ^ (k - 1):=by
 subst hb
 rw [show (8 * ((k:Int) - 1)).toNat=8 * (k - 1) by omega,Ci]
def ux (x:al):List Int:=[x.ay % 256,x.ba % 256,x.kind % 256]++lR x.sum 3
def la:List al->Int
 |[]=>0
 |x::l=>x.sum+la l
theorem Ac (u v:List al):la (u++v)=la u+la v:=by
 induction u with
 |nil=>simp [la]
 |cons x u ih=>simp only [List.cons_append,la,ih];omega
theorem yu {l:List al} {q:Nat} {x:al} (h:l[q]?=some x):la (l.take (q+1))=la (l.take q)+x.sum:=by
 rw [qE h,Ac];simp [la]
def lK (l r:List al):List Int:=((l.length:Int) % 256)::r.flatMap ux
theorem xF {l r:List al} {q:Nat} {x:al} (h:r[q]?=some x):lK l (r.take (q+1))=lK l (r.take q)++ux x:=by
 unfold lK;rw [qE h,List.flatMap_append];simp
theorem An (x:al):(ux x).length=6:=by unfold ux;rw [List.length_append,pj];rfl
theorem zf (l r:List al):(lK l r).length=1+6 * r.length:=by
 unfold lK
 rw [List.length_cons]
 induction r with
 |nil=>rfl
 |cons x r ih=>rw [List.flatMap_cons,List.length_append,An,List.length_cons];omega
def jD (l:List al):List Int×cV:=if (gj l).err=0 then (lK l (gm l)++lR (la (gm l)) 4,⟨0,0⟩) else ([],gj l)
def dv (e err:Int):Int:=if e=0 then err else e
def dL (l:List Entry) (e src dst n:Int):List Entry×Int:=
 if dv e (iD l src dst n).2=0 then ((iD l src dst n).1,0) else (l,dv e (iD l src dst n).2)
def cw (l:List bC) (e k held bu:Int):List bC×Int:=
 match l[k.toNat]? with
 |none=>(l,e)
 |some c=>if dv e (dP c held bu).2=0 then (l.set k.toNat (dP c held bu).1,0) else (l,dv e (dP c held bu).2)
def eC (s:bU) (e:Int) (t:bl):bU×Int:=if dv e (gl s t).2=0 then ((gl s t).1,0) else (s,dv e (gl s t).2)
def iC (l:List al) (e:Int) (r:al):List al×Int:=if l.length=100 then (l,dv e 5) else (l++[r],e)
theorem oa {l:List bC} {e k held bu:Int} {c:bC} (h:l[k.toNat]?=some c):cw l e k held bu=if dv e (dP c held bu).2=0 then (l.set k.toNat (dP c held bu).1,0) else (l,dv e (dP c held bu).2):=by
 unfold cw;rw [h]
def eB (au:List bz) (due:List Int) (ao:List bC) (book:List Entry) (e:Int) (t:bl):List Int×List bC×List Entry×Int:=
 match au[t.ba.toNat]? with
 |none=>(due,ao,book,e)
 |some a=>
  if t.kind=1 then (due.set a.ay.toNat (IntKind.i64.wrap (due.getD a.ay.toNat 0+t.sum)),ao,dL book e 1 (50+a.ay) t.sum)
  else if t.kind=2 then (due,(cw ao e a.aK 0 t.sum).1,dL book (cw ao e a.aK 0 t.sum).2 1 (10+a.aK) t.sum)
  else if t.kind=3 then (due.set a.ay.toNat (IntKind.i64.wrap (due.getD a.ay.toNat 0 - t.sum)),ao,dL book e (50+a.ay) 2 t.sum)
  else (due,ao,book,e)
structure Bk where (time:Int) (down:Bool) (ao:List bC) (due:List Int) (au:List bz) (s0 s1:bU) (n0 n1:Int) (w0 w1:List cc) (bE:cr) (aQ:List al) (book:List Entry)
 deriving DecidableEq
def dt (b c:Bk) (e:Int):Bk×Answer:=if e=0 then (c,⟨0,0⟩) else (b,⟨e,0⟩)
def fx (b:Bk) (d:aZ):Bk×Answer:=
 if d.n < 0\/d.n>=b.ao.length then (b,⟨6,0⟩)
 else if d.sum < 1\/d.sum > 1000000 then (b,⟨3,0⟩)
 else dt b {b with ao:=(cw b.ao 0 d.n 0 d.sum).1,book:=(dL b.book (cw b.ao 0 d.n 0 d.sum).2 0 (10+d.n) d.sum).1} (dL b.book (cw b.ao 0 d.n 0 d.sum).2 0 (10+d.n) d.sum).2
def gL (b:Bk) (d:aZ):Bk×Answer:=
 if d.n < 0\/d.n>=b.due.length then (b,⟨6,0⟩)
 else if b.due.getD d.n.toNat 0<=0 then (b,⟨10,0⟩)
 else dt b {b with due:=b.due.set d.n.toNat 0,book:=(dL b.book 0 (50+d.n) 0 (b.due.getD d.n.toNat 0)).1} (dL b.book 0 (50+d.n) 0 (b.due.getD d.n.toNat 0)).2
def fm (time:Int):List bz->Nat->List bC->List bz->Int->List bC×List bz×Int
 |[],_,ao,au,e=>(ao,au,e)
 |a::l,i,ao,au,e=>fm time l (i+1) (cw ao e a.aK (bJ (dT a time) - bJ a) 0).1 (au.set i (dT a time)) (cw ao e a.aK (bJ (dT a time) - bJ a) 0).2
def gn (b:Bk):Bk:=if (fm b.time b.au 0 b.ao b.au 0).2.2=0 then {b with ao:=(fm b.time b.au 0 b.ao b.au 0).1,au:=(fm b.time b.au 0 b.ao b.au 0).2.1} else b
def fe (b:Bk) (d:aZ):Bk×Answer:=
 if d.sum < 0\/d.sum > 1000000 - b.time then (b,⟨3,0⟩)
 else (if b.down=true then {b with time:=b.time+d.sum} else gn {b with time:=b.time+d.sum},⟨0,0⟩)
def lH (l:List cc) (ks:List bl) (n:Int):List cc:=l++ks.map (fun t=>⟨t,-1⟩)++[⟨⟨0,0,0,0⟩,n⟩]
def jo (w:List cc) (ks:List bl) (n:Int):List cc×Answer:=if (lH w ks n).length > 60 then (w,⟨5,0⟩) else (lH w ks n,⟨0,0⟩)
def eJ (s0 s1:bU) (n0 n1:Int) (w0 w1:List cc) (d:aZ):List cc×List cc×Answer:=
 if d.n=0 then (w0,jo w1 s0.kept n0) else if d.n=1 then ((jo w0 s1.kept n1).1,w1,(jo w0 s1.kept n1).2) else (w0,w1,⟨6,0⟩)
def iB (aQ:List al) (days:List (List Int)):List al×List (List Int)×Answer:=
 if (jD aQ).2.err≠0 then (aQ,days,⟨(jD aQ).2.err,0⟩) else ([],days++[(jD aQ).1],⟨0,0⟩)
def fL (e:Int):Int:=if e=10 then 12 else e
def du (b:Bk) (d:aZ):Bk×Answer:=
 if d.n < 0\/d.n>=b.ao.length\/d.ay < 0\/d.ay>=b.due.length then (b,⟨6,0⟩)
 else if b.down=true then
  (if fL (bW b.bE ⟨d.n,d.ay,d.sum,b.time⟩).2=0/\(b.au.length:Int)+(bW b.bE ⟨d.n,d.ay,d.sum,b.time⟩).1.aU.length > 30 then (b,⟨5,0⟩)
  else if fL (bW b.bE ⟨d.n,d.ay,d.sum,b.time⟩).2≠0 then (b,⟨fL (bW b.bE ⟨d.n,d.ay,d.sum,b.time⟩).2,0⟩)
  else ({b with bE:=(bW b.bE ⟨d.n,d.ay,d.sum,b.time⟩).1},⟨0,(b.au.length:Int)+(bW b.bE ⟨d.n,d.ay,d.sum,b.time⟩).1.aU.length - 1⟩))
 else if (cZ d.n d.ay d.sum b.time).2=0/\b.au.length=30 then (b,⟨5,0⟩)
 else if (cZ d.n d.ay d.sum b.time).2≠0 then (b,⟨(cZ d.n d.ay d.sum b.time).2,0⟩)
 else match b.ao[d.n.toNat]? with
  |none=>(b,⟨0,0⟩)
  |some c=>
   if (dQ c d.sum b.time).2≠0 then (b,⟨(dQ c d.sum b.time).2,0⟩)
   else ({b with ao:=b.ao.set d.n.toNat (dQ c d.sum b.time).1,au:=b.au++[(cZ d.n d.ay d.sum b.time).1]},⟨0,b.au.length⟩)
theorem tF (s:cr) (a:bS):(bW s a).1.aU.length<=s.aU.length+1:=by
 unfold bW;(repeat' split)<;>simp [eZ]
def ku (ao:List bC) (k:Int):Int:=
 match ao[k.toNat]? with
 |none=>0
 |some c=>c.bu - c.held
def dS (b:Bk) (a cx:bz) (d:aZ):List bC×List Int×List Entry×bU×bU×Int:=
 if d.move=1\/d.move=4 then ((cw b.ao 0 a.aK (bJ a - bJ cx) 0).1,b.due,b.book,b.s0,b.s1,(cw b.ao 0 a.aK (bJ a - bJ cx) 0).2)
 else if d.move=2\/d.move=3 then
  ((cw b.ao 0 a.aK (bJ a - bJ cx) (0 - d.sum)).1,b.due,(dL b.book (cw b.ao 0 a.aK (bJ a - bJ cx) (0 - d.sum)).2 (10+a.aK) 1 d.sum).1,
   (eC b.s0 (dL b.book (cw b.ao 0 a.aK (bJ a - bJ cx) (0 - d.sum)).2 (10+a.aK) 1 d.sum).2 ⟨0,1,d.n,d.sum⟩).1,b.s1,
   (eC b.s0 (dL b.book (cw b.ao 0 a.aK (bJ a - bJ cx) (0 - d.sum)).2 (10+a.aK) 1 d.sum).2 ⟨0,1,d.n,d.sum⟩).2)
 else if d.move=5 then
  (b.ao,b.due.set a.ay.toNat (IntKind.i64.wrap (b.due.getD a.ay.toNat 0 - d.sum)),(dL b.book 0 (50+a.ay) 1 d.sum).1,b.s0,(eC b.s1 (dL b.book 0 (50+a.ay) 1 d.sum).2 ⟨0,2,d.n,d.sum⟩).1,(eC b.s1 (dL b.book 0 (50+a.ay) 1 d.sum).2 ⟨0,2,d.n,d.sum⟩).2)
 else if d.move=6 then ((cw b.ao 0 a.aK 0 d.sum).1,b.due,(dL b.book (cw b.ao 0 a.aK 0 d.sum).2 2 (10+a.aK) d.sum).1,b.s0,b.s1,(dL b.book (cw b.ao 0 a.aK 0 d.sum).2 2 (10+a.aK) d.sum).2)
 else if d.move=7 then (b.ao,b.due,b.book,(eC b.s0 0 ⟨0,3,d.n,d.sum⟩).1,b.s1,(eC b.s0 0 ⟨0,3,d.n,d.sum⟩).2)
 else if d.move=8 then ((cw b.ao 0 a.aK 0 (0 - d.sum)).1,b.due,(dL b.book (cw b.ao 0 a.aK 0 (0 - d.sum)).2 (10+a.aK) 2 d.sum).1,b.s0,b.s1,(dL b.book (cw b.ao 0 a.aK 0 (0 - d.sum)).2 (10+a.aK) 2 d.sum).2)
 else (b.ao,b.due,b.book,b.s0,b.s1,0)
def pf (b:Bk) (a:bz) (d:aZ) (r:List bC×List Int×List Entry×bU×bU×Int):Bk×Answer:=
 dt b { b with ao := r.1, due := r.2.1, book := r.2.2.1, s0 := r.2.2.2.1, s1 := r.2.2.2.2.1, aQ := (iC b.aQ r.2.2.2.2.2 ⟨a.ay, d.n, d.move, d.sum⟩).1, au := b.au.set d.n.toNat a } (iC b.aQ r.2.2.2.2.2 ⟨a.ay, d.n, d.move, d.sum⟩).2
def dM (b:Bk) (d:aZ):Bk×Answer:=
 if b.down=true then (b,⟨12,0⟩)
 else if d.n < 0\/d.n>=b.au.length then (b,⟨6,0⟩)
 else match b.au[d.n.toNat]? with
  |none=>(b,⟨0,0⟩)
  |some cx=>
   if (ck cx d.move d.sum).2≠0 then (b,⟨(ck cx d.move d.sum).2,0⟩)
   else if d.move=1/\d.sum > ku b.ao (ck cx d.move d.sum).1.aK then (b,⟨10,0⟩)
   else pf b (ck cx d.move d.sum).1 d (dS b (ck cx d.move d.sum).1 cx d)
theorem iW {a:bz} (h:0<=a.sum/\a.sum<=1000000/\0<=a.captured/\a.captured<=a.sum/\0<=a.bw/\0<=a.bm/\a.bw+a.bm<=a.captured/\0<=a.aK/\a.aK<=7/\0<=a.ay/\a.ay<=7/\0<=a.cP/\a.cP<=1000100):bG a=0:=by
 unfold bG;rw [if_neg (by omega),if_neg (by omega)]
theorem eR {α:Type} {x b:α} {e:Int} (h:(x,e)=(b,(0:Int))):x=b/\e=0:=Prod.mk.inj h
theorem vI {a b:bz} {k n:Int} (hw:bG a=0) (h1:1<=n) (h2:n<=1000000) (h:dF a k n=(b,0)):bG b=0/\b.aK=a.aK/\b.ay=a.ay:=by
 have hr:=eI hw
 unfold dF at h
 by_cases c1:a.shut=true
 ·rw [if_pos c1] at h;have:=(eR h).2;omega
 rw [if_neg c1] at h
 by_cases c2:k=1
 ·rw [if_pos c2] at h
  by_cases c3:n > 1000000 - a.sum
  ·rw [if_pos c3] at h;have:=(eR h).2;omega
  ·rw [if_neg c3] at h;obtain ⟨rfl,_⟩:=eR h
   exact ⟨iW (by dsimp only;omega),rfl,rfl⟩
 rw [if_neg c2] at h
 by_cases c3:n > a.sum - a.captured
 ·rw [if_pos c3] at h;have:=(eR h).2;omega
 rw [if_neg c3] at h
 by_cases c4:k=4
 ·rw [if_pos c4] at h;obtain ⟨rfl,_⟩:=eR h
  exact ⟨iW (by dsimp only;omega),rfl,rfl⟩
 ·rw [if_neg c4] at h;obtain ⟨rfl,_⟩:=eR h
  exact ⟨iW (by dsimp only;omega),rfl,rfl⟩
theorem mm {a b:bz} {k n:Int} (h:ck a k n=(b,0)):bG a=0/\bG b=0/\b.aK=a.aK/\b.ay=a.ay/\1<=k/\k<=8/\1<=n/\n<=1000000:=by
 unfold ck at h
 by_cases c0:bG a≠0
 ·rw [if_pos c0] at h;exact absurd (eR h).2 c0
 rw [if_neg c0] at h
 have hw:bG a=0:=by omega
 have hr:=eI hw
 by_cases c1:k < 1\/k > 8
 ·rw [if_pos c1] at h;have:=(eR h).2;omega
 rw [if_neg c1] at h
 by_cases c2:n < 1\/n > 1000000
 ·rw [if_pos c2] at h;have:=(eR h).2;omega
 rw [if_neg c2] at h
 have hb:bG b=0/\b.aK=a.aK/\b.ay=a.ay:=by
  by_cases k5:k=5
  ·rw [if_pos k5] at h
   by_cases c:n > a.captured - a.bw - a.bm
   ·rw [if_pos c] at h;have:=(eR h).2;omega
   ·rw [if_neg c] at h;obtain ⟨rfl,_⟩:=eR h;exact ⟨iW (by dsimp only;omega),rfl,rfl⟩
  rw [if_neg k5] at h
  by_cases k6:k=6
  ·rw [if_pos k6] at h
   by_cases c:n > a.captured - a.bw - a.bm
   ·rw [if_pos c] at h;have:=(eR h).2;omega
   ·rw [if_neg c] at h;obtain ⟨rfl,_⟩:=eR h;exact ⟨iW (by dsimp only;omega),rfl,rfl⟩
  rw [if_neg k6] at h
  by_cases k7:k=7
  ·rw [if_pos k7] at h
   by_cases c:n > a.bm
   ·rw [if_pos c] at h;have:=(eR h).2;omega
   ·rw [if_neg c] at h;obtain ⟨rfl,_⟩:=eR h;exact ⟨iW (by dsimp only;omega),rfl,rfl⟩
  rw [if_neg k7] at h
  by_cases k8:k=8
  ·rw [if_pos k8] at h
   by_cases c:n > a.bm
   ·rw [if_pos c] at h;have:=(eR h).2;omega
   ·rw [if_neg c] at h;obtain ⟨rfl,_⟩:=eR h;exact ⟨iW (by dsimp only;omega),rfl,rfl⟩
  rw [if_neg k8] at h
  by_cases c:(dF a k n).2≠0
  ·rw [if_pos c] at h;exact absurd (eR h).2 c
  ·rw [if_neg c] at h;exact vI hw (by omega) (by omega) h
 exact ⟨hw,hb.1,hb.2.1,hb.2.2,by omega,by omega,by omega,by omega⟩
theorem zW {c:bC} (h:cv c=0):-9223372036854775808<=c.bu - c.held/\c.bu - c.held<=9223372036854775807:=by
 have:=eU h;omega
def fA:List bS->List bC->List bz->List bC×List bz×Int
 |[],cs,xs=>(cs,xs,0)
 |x::l,cs,xs=>
  if (cZ x.aK x.ay x.sum x.time).2≠0 then (cs,xs,(cZ x.aK x.ay x.sum x.time).2)
  else match cs[x.aK.toNat]? with
   |none=>(cs,xs,0)
   |some c=>if (eu c x.sum).2≠0 then (cs,xs,(eu c x.sum).2) else fA l (cs.set x.aK.toNat (eu c x.sum).1) (xs++[(cZ x.aK x.ay x.sum x.time).1])
theorem pT {l:List bS} {q:Nat} {x:bS} {cs:List bC} {xs:List bz} (h:l[q]?=some x):fA (l.drop q) cs xs=
  if (cZ x.aK x.ay x.sum x.time).2≠0 then (cs,xs,(cZ x.aK x.ay x.sum x.time).2)
  else match cs[x.aK.toNat]? with
   |none=>(cs,xs,0)
   |some c=>if (eu c x.sum).2≠0 then (cs,xs,(eu c x.sum).2) else fA (l.drop (q+1)) (cs.set x.aK.toNat (eu c x.sum).1) (xs++[(cZ x.aK x.ay x.sum x.time).1]):=by
 obtain ⟨hq,rfl⟩:=List.getElem?_eq_some_iff.1 h
 rw [List.drop_eq_getElem_cons hq];rfl
def ig (b:Bk):Bk×Answer:=
 if b.down=false then (b,⟨8,0⟩)
 else if (cM b.bE).2.2≠0 then (b,⟨(cM b.bE).2.2,0⟩)
 else if (fA (cM b.bE).2.1 b.ao b.au).2.2≠0 then (b,⟨(fA (cM b.bE).2.1 b.ao b.au).2.2,0⟩)
 else (gn {b with ao:=(fA (cM b.bE).2.1 b.ao b.au).1,au:=(fA (cM b.bE).2.1 b.ao b.au).2.1,bE:=(cM b.bE).1,down:=false},⟨0,0⟩)
def fN (b:Bk) (d:aZ):Bk×Answer:=
 match b.w0[0]? with
 |none=>(b,⟨6,0⟩)
 |some p=>
  if d.kind=7 then ({b with w0:=b.w0.drop 1},⟨0,0⟩)
  else if p.seen>=0 then (if (dX b.s0 p.seen).2=0 then ({b with w0:=b.w0.drop 1,s0:=(dX b.s0 p.seen).1},⟨0,0⟩) else (b,⟨(dX b.s0 p.seen).2,0⟩))
  else if (gT b.n0 p.ct).2=true then
   dt b { b with w0 := b.w0.drop 1, n0 := (gT b.n0 p.ct).1, due := (eB b.au b.due b.ao b.book 0 p.ct).1, ao := (eB b.au b.due b.ao b.book 0 p.ct).2.1, book := (eB b.au b.due b.ao b.book 0 p.ct).2.2.1 } (eB b.au b.due b.ao b.book 0 p.ct).2.2.2
  else ({b with w0:=b.w0.drop 1,n0:=(gT b.n0 p.ct).1},⟨0,0⟩)
def fM (b:Bk) (d:aZ):Bk×Answer:=
 match b.w1[0]? with
 |none=>(b,⟨6,0⟩)
 |some p=>
  if d.kind=7 then ({b with w1:=b.w1.drop 1},⟨0,0⟩)
  else if p.seen>=0 then (if (dX b.s1 p.seen).2=0 then ({b with w1:=b.w1.drop 1,s1:=(dX b.s1 p.seen).1},⟨0,0⟩) else (b,⟨(dX b.s1 p.seen).2,0⟩))
  else if (gT b.n1 p.ct).2=true then
   dt b { b with w1 := b.w1.drop 1, n1 := (gT b.n1 p.ct).1, due := (eB b.au b.due b.ao b.book 0 p.ct).1, ao := (eB b.au b.due b.ao b.book 0 p.ct).2.1, book := (eB b.au b.due b.ao b.book 0 p.ct).2.2.1 } (eB b.au b.due b.ao b.book 0 p.ct).2.2.2
  else ({b with w1:=b.w1.drop 1,n1:=(gT b.n1 p.ct).1},⟨0,0⟩)
def cq (b:Bk) (d:aZ):Bk×Answer:=if d.n=0 then fN b d else if d.n=1 then fM b d else (b,⟨6,0⟩)
def dU (b:Bk) (days:List (List Int)) (d:aZ):Bk×List (List Int)×Answer:=
 if d.kind=1 then ((fx b d).1,days,(fx b d).2)
 else if d.kind=2 then ((du b d).1,days,(du b d).2)
 else if d.kind=3 then ((dM b d).1,days,(dM b d).2)
 else if d.kind=4 then ((fe b d).1,days,(fe b d).2)
 else if d.kind=5 then ({b with w0:=(eJ b.s0 b.s1 b.n0 b.n1 b.w0 b.w1 d).1,w1:=(eJ b.s0 b.s1 b.n0 b.n1 b.w0 b.w1 d).2.1},days,(eJ b.s0 b.s1 b.n0 b.n1 b.w0 b.w1 d).2.2)
 else if d.kind=6\/d.kind=7 then ((cq b d).1,days,(cq b d).2)
 else if d.kind=8 then (if b.down=true then (b,days,⟨8,0⟩) else ({b with down:=true},days,⟨0,0⟩))
 else if d.kind=9 then ((ig b).1,days,(ig b).2)
 else if d.kind=10 then ({b with aQ:=(iB b.aQ days).1},(iB b.aQ days).2.1,(iB b.aQ days).2.2)
 else if d.kind=11 then ((gL b d).1,days,(gL b d).2)
 else (b,days,⟨1,0⟩)
def fC (b:Bk) (days:List (List Int)) (told:List (Int×Answer)) (cl:Nat) (d:aZ):Bk×List (List Int)×List (Int×Answer)×Nat×Answer:=
 if (il told d.id).isSome=true/\d.id≠0 then (b,days,told,cl,(il told d.id).getD ⟨0,0⟩)
 else ((dU b days d).1,(dU b days d).2.1,nW told d.id (dU b days d).2.2,if (il told d.id).isSome then cl else cl+1,(dU b days d).2.2)
structure Setup where (cY:List di) (ib cap:Int)
 deriving DecidableEq
def ou:List di->Int->cV
 |[],_=>⟨0,0⟩
 |p::l,i=>if fl p≠0 then ⟨fl p,i⟩ else ou l (i+1)
theorem sR {l:List di} {q:Nat} {p:di} (h:l[q]?=some p):ou (l.drop q) q=if fl p≠0 then ⟨fl p,q⟩ else ou (l.drop (q+1)) ((q+1:Nat):Int):=by
 obtain ⟨hq,rfl⟩:=List.getElem?_eq_some_iff.1 h
 rw [List.drop_eq_getElem_cons hq];rfl
def eo (s:Setup):cV:=
 if s.cY.length > 8\/s.ib < 0\/s.ib > 8 then ⟨5,0⟩ else if s.cap < 0\/s.cap > 1000000 then ⟨3,0⟩ else ou s.cY 0
def CZ:Bk:=⟨0,false,[],[],[],⟨0,[]⟩,⟨0,[]⟩,0,0,[],[],⟨0,[],[]⟩,[],[]⟩
def ph (p:di):bC:=⟨0,0,p,[]⟩
def hJ (s:Setup):Bk:=⟨0,false,s.cY.map ph,List.replicate s.ib.toNat 0,[],⟨0,[]⟩,⟨0,[]⟩,0,0,[],[],(dq s.cap s.cY.length).1,[],[]⟩
def jY:List aZ->Bk->List (List Int)->List (Int×Answer)->Nat->List Answer->Bk×List (List Int)×List Answer
 |[],b,days,_,_,out=>(b,days,out)
 |d::l,b,days,told,cl,out=>jY l (fC b days told cl d).1 (fC b days told cl d).2.1 (fC b days told cl d).2.2.1 (fC b days told cl d).2.2.2.1 (out++[(fC b days told cl d).2.2.2.2])
theorem xw {l:List aZ} {q:Nat} {d:aZ} {b:Bk} {days:List (List Int)} {told:List (Int×Answer)} {cl:Nat} {out:List Answer} (h:l[q]?=some d):
  jY (l.drop q) b days told cl out=jY (l.drop (q+1)) (fC b days told cl d).1 (fC b days told cl d).2.1 (fC b days told cl d).2.2.1 (fC b days told cl d).2.2.2.1 (out++[(fC b days told cl d).2.2.2.2]):=by
 obtain ⟨hq,rfl⟩:=List.getElem?_eq_some_iff.1 h
 rw [List.drop_eq_getElem_cons hq];rfl
def gW (s:Setup) (l:List aZ):Bk×List (List Int)×List Answer×cV:=
 if (eo s).err≠0 then (CZ,[],[],eo s) else if l.length > 150 then (CZ,[],[],⟨5,0⟩)
 else ((jY l (hJ s) [] [] 0 []).1,(jY l (hJ s) [] [] 0 []).2.1,(jY l (hJ s) [] [] 0 []).2.2,⟨0,0⟩)
theorem xC {time:Int} {l:List bz} {q:Nat} {a:bz} {ao:List bC} {au:List bz} {e:Int} (h:l[q]?=some a):fm time (l.drop q) q ao au e=
  fm time (l.drop (q+1)) (q+1) (cw ao e a.aK (bJ (dT a time) - bJ a) 0).1 (au.set q (dT a time)) (cw ao e a.aK (bJ (dT a time) - bJ a) 0).2:=by
 obtain ⟨hq,rfl⟩:=List.getElem?_eq_some_iff.1 h
 rw [List.drop_eq_getElem_cons hq];rfl
theorem eW (l:List bC) (e k held bu:Int):(cw l e k held bu).1.length=l.length:=by
 unfold cw
 split
 ·rfl
 ·split<;>simp
theorem wK {a:bz} {t:Int} (h:bG a=0):bG (dT a t)=0:=by
 unfold bG at h ⊢;unfold dT;exact h
theorem oC {a:bz} (h:bG a=0):0<=bJ a/\bJ a<=1000000:=by
 have:=eI h
 unfold bJ;split<;>omega
structure cj (b:Bk):Prop where
 time:0<=b.time/\b.time<=1000000
 ao:b.ao.length<=8
 due:b.due.length<=8
 au:b.au.length+b.bE.aU.length<=30
 aQ:b.aQ.length<=100
 w0:b.w0.length<=60
 w1:b.w1.length<=60
 perm:∀ a∈b.au,bG a=0/\0<=a.aK/\a.aK < b.ao.length/\0<=a.ay/\a.ay < b.due.length
 jh:∀ a∈b.bE.aU,0<=a.aK/\a.aK < b.ao.length/\0<=a.ay/\a.ay < b.due.length
 k0:∀ t∈b.s0.kept,fy t.number/\0<=t.ba/\t.ba < b.au.length
 k1:∀ t∈b.s1.kept,fy t.number/\0<=t.ba/\t.ba < b.au.length
 right:∀ c∈b.ao,cv c=0
 l0:b.s0.kept.length<=40
 l1:b.s1.kept.length<=40
 p0:∀ p∈b.w0,p.seen < 0->fy p.ct.number/\0<=p.ct.ba/\p.ct.ba < b.au.length
 p1:∀ p∈b.w1,p.seen < 0->fy p.ct.number/\0<=p.ct.ba/\p.ct.ba < b.au.length
 n0:0<=b.n0
 n1:0<=b.n1
 calm:b.down=false->b.bE.aU=[]
theorem cj.tick {b:Bk} (h:cj b) {t:Int} (h0:0<=t) (h1:t<=1000000):cj {b with time:=t}:=
 ⟨⟨h0,h1⟩,h.ao,h.due,h.au,h.aQ,h.w0,h.w1,h.perm,h.jh,h.k0,h.k1,h.right,h.l0,h.l1,h.p0,h.p1,h.n0,h.n1,h.calm⟩

def aR (b:Bk) (i j k m:Nat) (u v:CV):List CV:=[(cI b.time),(cB b.down),(.s i 0 6 b.ao.length),(.s j 0 1 b.due.length),(.s k 0 8 b.au.length),(cI b.s0.bV),(dd b.s0.kept),(cI b.s1.bV),(dd b.s1.kept),(cI b.n0),(cI b.n1),(eh b.w0),(eh b.w1),(cI b.bE.cap),(fF b.bE.used),(gH b.bE.aU),(.s m 0 4 b.aQ.length),u,(dO b.book),v]
def aX (x:Nat->Value):List CV:=[.d (.v (x 0)),.d (.v (x 1)),.d (.v (x 2)),.d (.v (x 3)),.d (.v (x 4)),.d (.v (x 5)),.d (.v (x 6)),.d (.v (x 7)),.d (.v (x 8)),.d (.v (x 9)),.d (.v (x 10)),.d (.v (x 11)),.d (.v (x 12)),.d (.v (x 13)),.d (.v (x 14)),.d (.v (x 15)),.d (.v (x 16)),.d (.v (x 17)),.d (.v (x 18)),.d (.v (x 19))]
def dp:List (Option CV):=[none,none,none,none,none,none,none,none,none,none,none,none,none,none,none,none,none,none,none,none]
def iK (b:Bk) (i j k m:Nat) (u v:Option CV):List (Option CV):=[some (cI b.time),some (cB b.down),some (.s i 0 6 b.ao.length),some (.s j 0 1 b.due.length),some (.s k 0 8 b.au.length),some (cI b.s0.bV),some (dd b.s0.kept),some (cI b.s1.bV),some (dd b.s1.kept),some (cI b.n0),some (cI b.n1),some (eh b.w0),some (eh b.w1),some (cI b.bE.cap),some (fF b.bE.used),some (gH b.bE.aU),some (.s m 0 4 b.aQ.length),u,some (dO b.book),v]


theorem vm (a b c:Int):Fn Try.prog 44 [(.g [(cI a),(cI b),(cI c)])] (aI (kd a b c)) []:=by
 refine Fn.mk' 31 [(0,(aG [(cI a),(cI b),(cI c)]))] Try.func44 rfl rfl rfl rfl ?_
 intro W0 T0
 refine ad aa 2 rfl ?_
 refine af ?_
 refine cm 30 ((((((decide (a < 1))||(decide (a > 1000000)))||(decide (b < 0)))||(decide (b > 30)))||(decide (c < 0)))||(decide (c > 1000000000000))) ?_ ?_
 ·
  refine aw ?_
  refine ab aa 4 rfl ?_
  refine bj (t:=6) rfl (fun hb1=>?_) (fun hb1=>?_)
  ·
   have hb1':=of_decide_eq_true hb1
   refine ab aa 24 rfl ?_
   refine ae ?_
   exact aD.bB 29 rfl rfl (by first|(simp [hb1];done)|(simp_all;done)|(exfalso;simp_all;done)|(simp_all;omega)) rfl
  have hb1':=of_decide_eq_false hb1
  refine ab aa 5 rfl ?_
  refine bj (t:=11) rfl (fun hb2=>?_) (fun hb2=>?_)
  ·
   have hb2':=of_decide_eq_true hb2
   refine ab aa 19 rfl ?_
   refine ae ?_
   exact aD.bB 30 rfl rfl (by first|(simp [hb1,hb2];done)|(simp_all;done)|(exfalso;simp_all;done)|(simp_all;omega)) rfl
  have hb2':=of_decide_eq_false hb2
  refine ab aa 5 rfl ?_
  refine bj (t:=16) rfl (fun hb3=>?_) (fun hb3=>?_)
  ·
   have hb3':=of_decide_eq_true hb3
   refine ab aa 14 rfl ?_
   refine ae ?_
   exact aD.bB 31 rfl rfl (by first|(simp [hb1,hb2,hb3];done)|(simp_all;done)|(exfalso;simp_all;done)|(simp_all;omega)) rfl
  have hb3':=of_decide_eq_false hb3
  refine ab aa 5 rfl ?_
  refine bj (t:=21) rfl (fun hb4=>?_) (fun hb4=>?_)
  ·
   have hb4':=of_decide_eq_true hb4
   refine ab aa 9 rfl ?_
   refine ae ?_
   exact aD.bB 32 rfl rfl (by first|(simp [hb1,hb2,hb3,hb4];done)|(simp_all;done)|(exfalso;simp_all;done)|(simp_all;omega)) rfl
  have hb4':=of_decide_eq_false hb4
  refine ab aa 5 rfl ?_
  refine bj (t:=26) rfl (fun hb5=>?_) (fun hb5=>?_)
  ·
   have hb5':=of_decide_eq_true hb5
   refine ab aa 4 rfl ?_
   refine ae ?_
   exact aD.bB 33 rfl rfl (by first|(simp [hb1,hb2,hb3,hb4,hb5];done)|(simp_all;done)|(exfalso;simp_all;done)|(simp_all;omega)) rfl
  have hb5':=of_decide_eq_false hb5
  refine ab aa 4 rfl ?_
  refine ae ?_
  exact aD.bB 33 rfl rfl (by first|(simp [hb1,hb2,hb3,hb4,hb5];done)|(simp_all;done)|(exfalso;simp_all;done)|(simp_all;omega)) rfl
 refine ag rfl (fun hc6=>?_) (fun hc6=>?_)
 ·
  have hc6':=hc6;try simp only [bd,bF] at hc6'
  refine ad aa 1 rfl ?_
  refine aq ?_
  refine an ?_
  refine aj aa [] 0 rfl rfl rfl rfl rfl rfl ?_ ?_
  ·(show aI _=aI _;unfold kd;rw [if_pos (by omega)])
  ·rfl
 have hc6':=hc6;try simp only [bd,bF] at hc6'
 refine aN ?_
 refine ad aa 1 rfl ?_
 refine aq ?_
 refine aj aa [] 0 rfl rfl rfl rfl rfl rfl ?_ ?_
 ·(show aI _=aI _;unfold kd;rw [if_neg (by omega)])
 ·rfl

theorem vS (l:List cU):Fn Try.prog 45 [(.c (fj l))] (aG [cI (cL l).1,cI (cL l).2]) []:=by
 refine Fn.mk' 53 [(0,(aC (fj l)))] Try.func45 rfl rfl rfl rfl ?_
 intro W0 T0
 refine dz 0 rfl (fun hlen0=>?_)
 refine ad aa 1 rfl ?_
 refine af ?_
 refine az aa 1 rfl ?_
 refine ax (cT rfl rfl rfl rfl rfl Try.underlying59) rfl ?_
 refine ab aa 1 rfl ?_
 refine ae ?_
 refine ag rfl (fun hc1=>?_) (fun hc1=>?_)
 ·
  have hc1':=of_decide_eq_true hc1
  refine ad aa 2 rfl ?_
  refine aq ?_
  refine an ?_
  refine aj aa [0] 0 rfl rfl rfl rfl rfl rfl ?_ ?_
  ·(have h:cL l=(5,0):=by (unfold cL;rw [if_pos (by omega)]));rw [h];rfl
  ·rfl
 have hc1':=of_decide_eq_false hc1
 refine aN ?_
 refine af ?_
 refine az aa 1 rfl ?_
 refine ax (cT rfl rfl rfl rfl rfl Try.underlying59) rfl ?_
 refine ab aa 1 rfl ?_
 refine ae ?_
 refine aV ?_
 refine cu (β:=Nat) (fun (q:Nat)=>⟨[(0,(aC (fj l))),(2,(aC (.p 0 0 0 0))),(9,(aC (fj l))),(10,(aI (↑l.length:Int))),(11,(aI (↑q:Int)))],[(0,(.box 50 [(cI 0),(cI 0)]))],1⟩) (fun (q:Nat)=>q<=l.length/\scan (kz l) 0 l.length=scan (kz l) q (l.length - q)) (fun (q:Nat)=>l.length - q) 0 ?_ ?_ ?_
 ·exact ⟨by omega,rfl⟩
 ·exact aD.bZ id (by refine ⟨?_,?_,?_,?_,?_,trivial⟩<;>first|rfl|(simp only [bq];done)|(congr 3;omega)|(congr 4;omega)|(simp only [br];rfl)) (⟨by first|rfl|(simp only [bq];done)|(congr 3;omega)|(congr 4;omega)|(simp only [br];rfl),trivial⟩) rfl
 rintro q ⟨hi0_0,hi0_1⟩
 refine ad aa 1 rfl ?_
 refine af ?_
 refine ag rfl (fun hc2=>?_) (fun hc2=>?_)
 ·
  have hc2':=of_decide_eq_true hc2
  refine aN ?_
  refine af ?_
  refine aV ?_
  refine az aa 1 rfl ?_
  obtain ⟨x1,hx1⟩:=bY (xs:=l) (i:=q) (by first|omega|(simp;done)|(simp;omega))
  refine ax (cf (i:=q) rfl rfl rfl Try.underlying59 ia (by first|omega|(simp;done)|(simp;omega)) (bf hx1)) rfl ?_
  refine ab aa 4 rfl ?_
  refine ae ?_
  refine af ?_
  refine cm 33 ((((decide (x1.time < 0))||(decide (x1.time > 1000000)))||(decide (x1.sum < 0)))||(decide (x1.sum > 1000000))) ?_ ?_
  ·
   refine aw ?_
   refine ab aa 4 rfl ?_
   refine bj (t:=19) rfl (fun hb3=>?_) (fun hb3=>?_)
   ·
    have hb3':=of_decide_eq_true hb3
    refine ab aa 14 rfl ?_
    refine ae ?_
    exact aD.bB 19 rfl rfl (by first|(simp [hb3];done)|(simp_all;done)|(exfalso;simp_all;done)|(simp_all;omega)) rfl
   have hb3':=of_decide_eq_false hb3
   refine ab aa 5 rfl ?_
   refine bj (t:=24) rfl (fun hb4=>?_) (fun hb4=>?_)
   ·
    have hb4':=of_decide_eq_true hb4
    refine ab aa 9 rfl ?_
    refine ae ?_
    exact aD.bB 20 rfl rfl (by first|(simp [hb3,hb4];done)|(simp_all;done)|(exfalso;simp_all;done)|(simp_all;omega)) rfl
   have hb4':=of_decide_eq_false hb4
   refine ab aa 5 rfl ?_
   refine bj (t:=29) rfl (fun hb5=>?_) (fun hb5=>?_)
   ·
    have hb5':=of_decide_eq_true hb5
    refine ab aa 4 rfl ?_
    refine ae ?_
    exact aD.bB 21 rfl rfl (by first|(simp [hb3,hb4,hb5];done)|(simp_all;done)|(exfalso;simp_all;done)|(simp_all;omega)) rfl
   have hb5':=of_decide_eq_false hb5
   refine ab aa 4 rfl ?_
   refine ae ?_
   exact aD.bB 21 rfl rfl (by first|(simp [hb3,hb4,hb5];done)|(simp_all;done)|(exfalso;simp_all;done)|(simp_all;omega)) rfl
  refine ag rfl (fun hc6=>?_) (fun hc6=>?_)
  ·
   have hc6':=hc6;try simp only [bd,bF] at hc6'
   refine ad aa 3 rfl ?_
   refine aq ?_
   refine an ?_
   refine bg ?_
   refine an ?_
   refine an ?_
   refine bg ?_
   refine an ?_
   refine aj aa [0] 0 rfl rfl rfl rfl rfl rfl ?_ ?_
   ·(have h:cL l=(3,(q:Int)):=by (unfold cL;rw [if_neg (by omega),hi0_1];exact gU (by omega) (show kz l q=3 by (unfold kz;simp only [hx1];rw [if_pos (by omega)])) (by decide)));rw [h];rfl
   ·rfl
  have hc6':=hc6;try simp only [bd,bF] at hc6'
  refine aN ?_
  refine af ?_
  rcases Bool.eq_false_or_eq_true (decide ((↑q:Int) > 0)) with hb7|hb7
  ·
   have hb7':=of_decide_eq_true hb7
   obtain ⟨x2,hx2⟩:=bY (xs:=l) (i:=(q) - 1) (by first|omega|(simp;done)|(simp;omega))
   refine bb [0,2,9,10,11,4,3] [1,0] mixed rfl rfl ?_
   refine aA (kn:=[(37,true)]) aa 5 rfl ⟨hb7,trivial⟩ ?_
   refine aS (n':=2) [40,38] [] rfl rfl (.inl ⟨(ah.yes rfl rfl rfl),aH.cast (aJ rfl rfl rfl (aE (by first|omega|(simp;done)|(simp;omega)))) rfl⟩) rfl ?_
   refine aS (n':=2) [39,41,38] [] rfl rfl (.inl ⟨(ah.yes rfl rfl rfl),aH.cast (cf (i:=(q) - 1) rfl rfl rfl Try.underlying59 ia (by first|omega|(simp;done)|(simp;omega)) (bf hx2)) rfl⟩) rfl ?_
   refine aA (kn:=[]) aa 6 rfl trivial ?_
   refine bx [1,0] rfl rfl rfl rfl (by kernel_rfl) ?_
   refine ae ?_
   refine ag rfl (fun hc8=>?_) (fun hc8=>?_)
   ·
    have hc8':=of_decide_eq_true hc8
    refine ad aa 3 rfl ?_
    refine aq ?_
    refine bg ?_
    refine an ?_
    refine an ?_
    refine bg ?_
    refine an ?_
    refine aj aa [0] 0 rfl rfl rfl rfl rfl rfl ?_ ?_
    ·(have h:cL l=(2,(q:Int)):=by (unfold cL;rw [if_neg (by omega),hi0_1];exact gU (by omega) (show kz l q=2 by (unfold kz;simp only [hx1];rw [if_neg (by omega),if_pos (by refine ⟨by omega,?_⟩;rw [List.getD_eq_getElem?_getD,hx2];simp only [Option.getD_some];omega)])) (by decide)));rw [h];rfl
    ·rfl
   have hc8':=of_decide_eq_false hc8
   refine cW ?_
   refine bn ?_
   refine then_ok ?_
   refine aw ?_
   refine ax (aJ rfl rfl rfl (aE (by first|omega|(simp;done)|(simp;omega)))) rfl ?_
   refine ab aa 1 rfl ?_
   refine ae ?_
   refine ⟨q+1,⟨by omega,by rw [hi0_1];exact mA (by omega) (by unfold kz;simp only [hx1];rw [if_neg (by omega),if_neg (by first|omega|(rw [List.getD_eq_getElem?_getD,hx2];simp only [Option.getD_some];omega))])⟩,by first|omega|(simp;done)|(simp;omega),aD.bZ id (by refine ⟨?_,?_,?_,?_,?_,trivial⟩<;>first|rfl|(simp only [bq];done)|(congr 3;omega)|(congr 4;omega)|(simp only [br];rfl)) (⟨by first|rfl|(simp only [bq];done)|(congr 3;omega)|(congr 4;omega)|(simp only [br];rfl),trivial⟩) rfl⟩
  have hb7':=of_decide_eq_false hb7
  refine bb [0,2,9,10,11,4,3] [1,0] mixed rfl rfl ?_
  refine aA (kn:=[(37,false)]) aa 13 rfl ⟨hb7,trivial⟩ ?_
  refine bx [1,0] rfl rfl rfl rfl (by kernel_rfl) ?_
  refine ae ?_
  refine ag rfl (fun hno=>by cases hno) (fun _=>?_)
  refine cW ?_
  refine bn ?_
  refine then_ok ?_
  refine aw ?_
  refine ax (aJ rfl rfl rfl (aE (by first|omega|(simp;done)|(simp;omega)))) rfl ?_
  refine ab aa 1 rfl ?_
  refine ae ?_
  refine ⟨q+1,⟨by omega,by rw [hi0_1];exact mA (by omega) (by unfold kz;simp only [hx1];rw [if_neg (by omega),if_neg (by first|omega|(rw [List.getD_eq_getElem?_getD,hx2];simp only [Option.getD_some];omega))])⟩,by first|omega|(simp;done)|(simp;omega),aD.bZ id (by refine ⟨?_,?_,?_,?_,?_,trivial⟩<;>first|rfl|(simp only [bq];done)|(congr 3;omega)|(congr 4;omega)|(simp only [br];rfl)) (⟨by first|rfl|(simp only [bq];done)|(congr 3;omega)|(congr 4;omega)|(simp only [br];rfl),trivial⟩) rfl⟩
 have hc2':=of_decide_eq_false hc2
 refine cp ?_
 refine aP ?_
 refine aP ?_
 refine bP ?_
 refine then_ok ?_
 refine ad aa 2 rfl ?_
 refine aq ?_
 refine aj aa [0] 0 rfl rfl rfl rfl rfl rfl ?_ ?_
 ·(have h:cL l=(0,0):=by (unfold cL;rw [if_neg (by omega),hi0_1,mY (by omega)]));rw [h];rfl
 ·rfl

theorem wb (l:List cU) (fn:FuncId) (aT:List (List D)) (pr:cU->Bool) (hp:∀ x:cU,Fn Try.prog fn ([.g [cI x.time,cI x.sum]]++aT.map fun r=>GV.c (.q r 0)) (aB (pr x)) []) (hen:bc Try.prog fn) (r:Int) (hr:gE pr l=r):Fn Try.prog 123 [(.c (fj l)),(.c (.d (.f fn aT)))] (.v (.c (cI r))) []:=by
 refine Fn.mk' 19 [(0,(aC (fj l))),(1,(aC (.d (.f fn aT))))] Try.func123 rfl rfl rfl rfl ?_
 intro W0 T0
 refine dz 0 rfl (fun hlen0=>?_)
 refine ad aa 1 rfl ?_
 refine af ?_
 refine az aa 1 rfl ?_
 refine ax (cT rfl rfl rfl rfl rfl Try.underlying59) rfl ?_
 refine ab aa 1 rfl ?_
 refine ae ?_
 refine aV ?_
 refine cu (β:=Nat) (fun (q:Nat)=>⟨[(0,(aC (fj l))),(1,(aC (.d (.f fn aT)))),(7,(aI (↑l.length:Int))),(8,(aI (↑q:Int)))],[],0⟩) (fun (q:Nat)=>q<=l.length/\(l.take q).all (fun y=>!pr y)=true) (fun (q:Nat)=>l.length - q) 0 ?_ ?_ ?_
 ·exact ⟨by omega,by simp⟩
 ·exact aD.bZ id (by refine ⟨?_,?_,?_,?_,trivial⟩<;>first|rfl|(simp only [bq];done)|(congr 3;omega)|(congr 4;omega)|(simp only [br];rfl)) (trivial) rfl
 rintro q ⟨hi0_0,hi0_1⟩
 refine ad aa 1 rfl ?_
 refine af ?_
 refine ag rfl (fun hc1=>?_) (fun hc1=>?_)
 ·
  have hc1':=of_decide_eq_true hc1
  refine aN ?_
  refine af ?_
  refine aV ?_
  refine ad aa 2 rfl ?_
  refine az aa 3 rfl ?_
  obtain ⟨x1,hx1⟩:=bY (xs:=l) (i:=q) (by first|omega|(simp;done)|(simp;omega))
  refine ax (cf (i:=q) rfl rfl rfl Try.underlying59 ia (by first|omega|(simp;done)|(simp;omega)) (bf hx1)) rfl ?_
  refine ab aa 1 rfl ?_
  refine ax (gO 0 (hp x1) hen rfl rfl rfl ⟨⟨_,rfl,.g ⟨.d _,.d _,trivial⟩⟩,trivial⟩ trivial trivial rfl rfl rfl rfl) rfl ?_
  refine ae ?_
  refine ag rfl (fun hc2=>?_) (fun hc2=>?_)
  ·
   have hc2':=hc2;try simp only [bd,bF] at hc2'
   refine ad aa 2 rfl ?_
   refine aq ?_
   refine bg ?_
   refine an ?_
   refine an ?_
   refine bg ?_
   refine an ?_
   have hX:gE pr l=(↑q:Int):=by
     exact tc hi0_1 hx1 hc2
   rw [hX] at hr;clear hX
   subst hr
   refine aj aa [] 0 rfl rfl rfl rfl rfl rfl ?_ ?_
   all_goals first|rfl|(simp [ar];done)|(simp [ar];omega)
  have hc2':=hc2;try simp only [bd,bF] at hc2'
  refine cW ?_
  refine bn ?_
  refine then_ok ?_
  refine aw ?_
  refine ax (aJ rfl rfl rfl (aE (by first|omega|(simp;done)|(simp;omega)))) rfl ?_
  refine ab aa 1 rfl ?_
  refine ae ?_
  refine ⟨q+1,⟨by omega,vB hi0_1 hx1 hc2⟩,by first|omega|(simp;done)|(simp;omega),aD.bZ id (by refine ⟨?_,?_,?_,?_,trivial⟩<;>first|rfl|(simp only [bq];done)|(congr 3;omega)|(congr 4;omega)|(simp only [br];rfl)) (trivial) rfl⟩
 have hc1':=of_decide_eq_false hc1
 refine cp ?_
 refine aP ?_
 refine aP ?_
 refine bP ?_
 refine then_ok ?_
 refine ad aa 1 rfl ?_
 refine aq ?_
 have hX:gE pr l=(-1):=by
   exact uP (by rw [<-List.take_of_length_le (l:=l) (i:=q) (by omega)];exact hi0_1)
 rw [hX] at hr;clear hX
 subst hr
 refine aj aa [] 0 rfl rfl rfl rfl rfl rfl ?_ ?_
 all_goals first|rfl|(simp [ar];done)|(simp [ar];omega)
theorem vw (l:List cU) (fn:FuncId) (aT:List (List D)) (pr:cU->Bool) (hp:∀ x:cU,Fn Try.prog fn ([.g [cI x.time,cI x.sum]]++aT.map fun r=>GV.c (.q r 0)) (aB (pr x)) []) (hen:bc Try.prog fn) (r:List cU) (hr:dE pr l=r):cz Try.prog 117 [(.c (.s 0 0 2 l.length)),(.c (.d (.f fn aT)))] [(0,(oR l))] [] (.v (.c (.s 0 0 2 r.length))) [(0,(oR r))]:=by
 refine cz.mk 42 [(0,(aC (.s 0 0 2 l.length))),(1,(aC (.d (.f fn aT))))] 1 Try.func117 rfl rfl rfl rfl rfl rfl rfl rfl rfl ?_
 intro W0 F0 T0 pg
 refine fO 0 rfl (fun hlen0=>?_)
 have hic:=td pr l
 have hib:gE pr l<=l.length/\-1<=gE pr l:=by rcases hic with ⟨h,_⟩|⟨i,h,h1,_⟩<;>omega
 refine ad aa 1 rfl ?_
 refine az aa 2 rfl ?_
 obtain ⟨r0,hr0⟩:∃ (r0:Int),gE pr l=r0:=⟨_,rfl⟩
 refine aL 1 [0] (fK 1 [0] (wb l fn aT pr hp hen r0 hr0) EK rfl rfl ⟨⟨_,rfl,.c (.s rfl (by decide) (by first|omega|(simp;done)|(simp;omega)))⟩,⟨_,rfl,.c (.d _)⟩,trivial⟩ rfl trivial rfl rfl rfl rfl) rfl ?_
 refine ab aa 1 rfl ?_
 refine ae ?_
 refine af ?_
 refine ad aa 2 rfl ?_
 refine ag rfl (fun hc1=>?_) (fun hc1=>?_)
 ·
  have hc1':=of_decide_eq_true hc1
  refine ad aa 2 rfl ?_
  refine aq ?_
  refine an ?_
  have hX:dE pr l=l:=by
    rcases hic with ⟨_,h⟩|⟨i0,h,_⟩
    ·exact h
    ·exfalso;omega
  rw [hX] at hr;clear hX
  subst hr
  refine aj aa [0] 1 rfl rfl rfl rfl rfl rfl ?_ ?_
  all_goals first|rfl|(simp [ar];done)|(simp [ar];omega)
 have hc1':=of_decide_eq_false hc1
 refine aN ?_
 refine af ?_
 refine az aa 1 rfl ?_
 refine ax (aJ rfl rfl rfl (aE (by first|omega|(simp;done)|(simp;omega)))) rfl ?_
 refine ab aa 1 rfl ?_
 refine ae ?_
 refine aV ?_
 obtain ⟨i0,hi0,hil,x0,hx0,hp0,hk0⟩:∃ i:Nat,gE pr l=i/\i < l.length/\∃ x,l[i]?=some x/\pr x=true/\dE pr (l.take i)=l.take i:=by
     rcases hic with ⟨h,_⟩|h
     ·exfalso;omega
     ·exact h
 obtain rfl:r0=(i0:Int):=by omega
 refine cu (β:=Nat×Nat×List cU) (fun (p:Nat×Nat×List cU)=>match p with|(j,i,c)=>⟨[(0,(aC (.s 0 0 2 l.length))),(1,(aC (.d (.f fn aT)))),(4,(aC cN)),(5,(aI (↑i:Int))),(6,(aI (↑j:Int)))],[(0,(oR c))],1⟩) (fun (p:Nat×Nat×List cU)=>match p with|(j,i,c)=>kI pr l c i j) (fun (p:Nat×Nat×List cU)=>match p with|(j,i,c)=>l.length - j) (i0+1,i0,l) ?_ ?_ ?_
 ·exact kI.start hx0 hp0 hk0
 ·exact aD.bZ id (by refine ⟨?_,?_,?_,?_,?_,trivial⟩<;>first|rfl|(simp only [bq];done)|(congr 3;omega)|(congr 4;omega)|(simp only [br];rfl)) (⟨by first|rfl|(simp only [bq];done)|(congr 3;omega)|(congr 4;omega)|(simp only [br];rfl),trivial⟩) rfl
 rintro ⟨j,i,c⟩ hd
 have hdl:=hd.len;have hdi:=hd.ij;have hdj:=hd.jl
 refine af ?_
 refine az aa 2 rfl ?_
 refine ax (dk rfl rfl rfl rfl rfl Try.underlying59) rfl ?_
 refine ab aa 1 rfl ?_
 refine ae ?_
 refine ag rfl (fun hc2=>?_) (fun hc2=>?_)
 ·
  have hc2':=of_decide_eq_true hc2
  refine aN ?_
  refine af ?_
  refine aV ?_
  refine az aa 2 rfl ?_
  refine ax (bo (i:=j) rfl rfl rfl Try.underlying59 ia (by first|omega|(simp;done)|(simp;omega)) (by first|omega|(simp;done)|(simp;omega))) rfl ?_
  obtain ⟨x1,hx1⟩:=bY (xs:=c) (i:=j) (by first|omega|(simp;done)|(simp;omega))
  refine ax (db rfl rfl rfl Try.underlying125 rfl ia (bf hx1) rfl) rfl ?_
  refine ab aa 2 rfl ?_
  refine ae ?_
  refine az aa 2 rfl ?_
  refine ax (gO 2 (hp x1) hen rfl rfl rfl ⟨⟨_,rfl,.g ⟨.d _,.d _,trivial⟩⟩,trivial⟩ trivial trivial rfl rfl rfl rfl) rfl ?_
  refine ab aa 1 rfl ?_
  refine ae ?_
  refine ag rfl (fun hc3=>?_) (fun hc3=>?_)
  ·
   have hc3':=hc3;try simp only [bd,bF] at hc3'
   refine az aa 3 rfl ?_
   refine ax (bo (i:=i) rfl rfl rfl Try.underlying59 ia (by first|omega|(simp;done)|(simp;omega)) (by first|omega|(simp;done)|(simp;omega))) rfl ?_
   obtain ⟨x2,hx2⟩:=bY (xs:=c) (i:=i) (by first|omega|(simp;done)|(simp;omega))
   refine gb [1,0] (dG (ds:=[(dI x1.time),(dI x1.sum)]) rfl rfl rfl rfl rfl ia rfl (Nat.le_of_ble_eq_true rfl) (bf hx2) rfl (eG (x':=x1) rfl)) rfl ?_
   refine ae ?_
   refine aw ?_
   refine ab aa 1 rfl ?_
   refine ax (aJ rfl rfl rfl (aE (by first|omega|(simp;done)|(simp;omega)))) rfl ?_
   refine ab aa 1 rfl ?_
   refine bX ?_
   refine bn ?_
   refine then_ok ?_
   refine aw ?_
   refine ab aa 1 rfl ?_
   refine ax (aJ rfl rfl rfl (aE (by first|omega|(simp;done)|(simp;omega)))) rfl ?_
   refine ab aa 1 rfl ?_
   refine ae ?_
   refine ⟨(j+1,(i)+1,(c).set i x1),hd.cD hx1 (by simpa using hc3),by first|omega|(simp;done)|(simp;omega),aD.bZ id (by refine ⟨?_,?_,?_,?_,?_,trivial⟩<;>first|rfl|(simp only [bq];done)|(congr 3;omega)|(congr 4;omega)|(simp only [br];rfl)) (⟨by first|rfl|(simp only [bq];done)|(congr 3;omega)|(congr 4;omega)|(simp only [br];rfl),trivial⟩) rfl⟩
  have hc3':=hc3;try simp only [bd,bF] at hc3'
  refine cW ?_
  refine bn ?_
  refine then_ok ?_
  refine aw ?_
  refine ab aa 1 rfl ?_
  refine ax (aJ rfl rfl rfl (aE (by first|omega|(simp;done)|(simp;omega)))) rfl ?_
  refine ab aa 1 rfl ?_
  refine ae ?_
  refine ⟨(j+1,i,c),hd.skip hx1 (by simpa using hc3),by first|omega|(simp;done)|(simp;omega),aD.bZ id (by refine ⟨?_,?_,?_,?_,?_,trivial⟩<;>first|rfl|(simp only [bq];done)|(congr 3;omega)|(congr 4;omega)|(simp only [br];rfl)) (⟨by first|rfl|(simp only [bq];done)|(congr 3;omega)|(congr 4;omega)|(simp only [br];rfl),trivial⟩) rfl⟩
 have hc2':=of_decide_eq_false hc2
 refine cp ?_
 refine aP ?_
 refine aP ?_
 refine bP ?_
 refine then_ok ?_
 refine az aa 2 rfl ?_
 refine ax (ns (l:=i) (h:=l.length) rfl Try.underlying59 ia rfl (.inr ⟨_,rfl,rfl⟩) (.inl ⟨rfl,rfl⟩) (by first|omega|(simp;done)|(simp;omega)) (by first|omega|(simp;done)|(simp;omega)) (by first|omega|(simp;done)|(simp;omega)) rfl) rfl ?_
 refine gb [0] (rZ (rows':=(c.take i).map gJ) nZ Es rfl rfl rfl rfl rfl rfl rfl rfl rfl (by simp [List.map_take])) rfl ?_
 refine ae ?_
 refine az aa 2 rfl ?_
 refine ax (ns (l:=0) (h:=i) rfl Try.underlying59 ia rfl (.inl ⟨rfl,rfl⟩) (.inr ⟨_,rfl,rfl⟩) (by first|omega|(simp;done)|(simp;omega)) (by first|omega|(simp;done)|(simp;omega)) (by first|omega|(simp;done)|(simp;omega)) rfl) rfl ?_
 refine ab aa 1 rfl ?_
 refine ae ?_
 refine aq ?_
 have hX:dE pr l=(c.take i):=by
   have hdone:=hd.done (by omega)
   rw [<-hdone]
 rw [hX] at hr;clear hX
 subst hr
 refine aj aa [0] 1 rfl rfl rfl rfl rfl rfl ?_ ?_
 all_goals first|rfl|(simp [ar];done)|(simp [ar];omega)

theorem kE (p:di) (e:Int) (hr:fl p=e):Fn Try.prog 44 [(.g [cI p.cH,cI p.count,cI p.sum])] (.v (.c (cI e))) []:=hr▸vm p.cH p.count p.sum
theorem oM (l:List cU) (f:cV) (hr:fw l=f):Fn Try.prog 45 [.c (cR 2 (l.map gJ))] (.v (.g [cI f.err,cI f.at_])) []:=hr▸vS l

theorem zK (x:cU) (t:Int) (p:di) (hb:-9223372036854775808<=t - p.cH/\t - p.cH<=9223372036854775807):Fn Try.prog 118 [(.g [(cI x.time),(cI x.sum)]),(.c (.q ([dI t]) 0)),(.c (.q ([dI p.cH,dI p.count,dI p.sum]) 0))] (aB (cx p t x)) []:=by
 refine Fn.mk' 12 [(0,(aG [(cI x.time),(cI x.sum)])),(1,(aC (.q ([dI t]) 0))),(2,(aC (.q ([dI p.cH,dI p.count,dI p.sum]) 0)))] Try.func118 rfl rfl rfl rfl ?_
 intro W0 T0
 refine ad aa 2 rfl ?_
 refine az aa 5 rfl ?_
 refine ax (aJ rfl rfl rfl (aE (by first|omega|(simp;done)|(simp;omega)))) rfl ?_
 refine ab aa 2 rfl ?_
 refine ae ?_
 refine aq ?_
 refine aj aa [] 0 rfl rfl rfl rfl rfl rfl ?_ ?_
 all_goals first|rfl|(simp [ar];done)|(simp [ar];omega)
theorem nP (p:di) (l:List cU) (t:Int) (hb:-9223372036854775808<=t - p.cH/\t - p.cH<=9223372036854775807) (hl:l.length * 16<=140737488355328) (r:List cU) (hr:dy p l t=r):Fn Try.prog 112 [(.g [(cI p.cH),(cI p.count),(cI p.sum)]),(.c (fj l)),(.c (cI t))] (.v (.c (.s 0 0 2 r.length))) [(0,(oR r))]:=by
 refine Fn.mk' 11 [(0,(aG [(cI p.cH),(cI p.count),(cI p.sum)])),(1,(aC (fj l))),(2,(aI t))] Try.func112 rfl rfl rfl rfl ?_
 intro W0 T0
 refine dz 1 rfl (fun hlen1=>?_)
 refine ad aa 3 rfl ?_
 refine az aa 1 rfl ?_
 refine aL 3 [2,1,0] (bI 2 (pM l (by first|omega|(simp;done)|(simp;omega))) BL rfl rfl ⟨⟨_,rfl,.c (.d _)⟩,trivial⟩ trivial ⟨(fun _ _ _ _=>trivial),trivial⟩ rfl rfl rfl rfl) rfl ?_
 refine ax (zo (ks:=[1,0]) rfl ⟨rfl,rfl,trivial⟩) rfl ?_
 obtain ⟨r0,hr0⟩:∃ (r0:List cU),dE (cx p t) l=r0:=⟨_,rfl⟩
 refine aL 4 [3,1,0] (uX (aY [2]) (aY [3]) [0,1] (vw l 118 ([[(dI t)],[(dI p.cH),(dI p.count),(dI p.sum)]]) (cx p t) (fun x=>zK x t p hb) EO r0 hr0) EP rfl rfl ⟨⟨_,rfl,.inl ⟨rfl,rfl⟩⟩,⟨_,rfl,.inr (.c (.fn ⟨⟨by decide,_,rfl⟩,⟨by decide,_,rfl⟩,trivial⟩))⟩,trivial⟩ ⟨rfl,trivial⟩ rfl rfl rfl rfl rfl rfl rfl rfl trivial ⟨(Au _),trivial⟩ rfl rfl rfl rfl) rfl ?_
 refine ab aa 1 rfl ?_
 refine ae ?_
 refine aq ?_
 have hX:dy p l t=r0:=by
   assumption
 rw [hX] at hr;clear hX
 subst hr
 refine aj aa [3] 1 rfl rfl rfl rfl rfl rfl ?_ ?_
 all_goals first|rfl|(simp [ar];done)|(simp [ar];omega)
end Go.Proofs.Ytegepioggeggaaa.Dev
