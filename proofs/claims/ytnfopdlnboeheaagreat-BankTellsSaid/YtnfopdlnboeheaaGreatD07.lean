/- A part of the proof: Book9, PlSort, PlSort2, PlSort3, PlDay, PlBank, OpsB, Bank0, SqB, Pace1, Pace2, Del1. No condition. -/
import Derived.Test.YtnfopdlnboeheaaGreatD06
set_option linter.unusedVariables false
set_option linter.unusedSimpArgs false
set_option maxHeartbeats 1000000
set_option maxRecDepth 100000
namespace Go.Proofs.YtnfopdlnboeheaaGreat.Dev
open Go.RowKit
open Go.ChangeShapes Go.WideShapes Go.Deep Go.Joins


def jQ (l:List Entry) (src dst n:Int):List Entry×Int:=if n < 0\/n > 1000000000000 then ([],3) else fZ l [⟨src,0 - n⟩,⟨dst,n⟩]
theorem Au (l:List Entry) (src dst n:Int) (r:List Entry) (e:Int) (hr:jQ l src dst n=(r,e)):Fn Tryz.prog 88 [(.c (cE l)),(.c (cI src)),(.c (cI dst)),(.c (cI n))] (.t [(.c (.s 0 0 2 r.length)),(.c (cI e))]) [(0,(mZ r))]:=by
 refine Fn.mk' 28 [(0,(aC (cE l))),(1,(aI src)),(2,(aI dst)),(3,(aI n))] Tryz.func88 rfl rfl rfl rfl ?_
 intro W0 T0
 refine dE 0 rfl (fun hlen0=>?_)
 refine ag 2 rfl (af (bQ 15 ((decide (n < 0))||(decide (n > 1000000000000))) ?_ ?_))
 ·
  refine ah (ad 3 rfl (bz 12 rfl (fun hb1'=>?_) (fun hb1'=>?_)))
  ·
   exact ad 3 rfl (ae (aq.pz 7 rfl))
  exact ad 3 rfl (ae (aq.pz 7 rfl))
 refine ax rfl (fun hc2=>?_) (fun hc2=>?_)
 ·
  have hc2':=hc2;try simp only [aT,bx] at hc2'
  refine ag 2 rfl (al (aj (cW (aq.nil 8 105 2 cm rfl) ?_)))
  have hX:jQ l src dst n=(([]:List Entry),3):=by
    unfold jQ;rw [if_pos aa]
  cases hX.symm.trans hr;clear hX
  exact aS [0] 1 rfl
 have hc2':=hc2;try simp only [aT,bx] at hc2'
 refine aD (aw 3 rfl (az (nN rfl rfl (bH aa)) rfl (ad 4 rfl (ay 1 [0] (dM (ys:=[(0,(.g [(cI src),(cI (0 - n))])),(1,(.g [(cI dst),(cI n)]))]) (rows:=([(⟨src,0 - n⟩:Entry),(⟨dst,n⟩:Entry)]).map fy) 0 lE rfl) rfl ?_))))
 obtain ⟨r0,e0,hr0⟩:∃ (r0:List Entry) (e0:Int),fZ l ([(⟨src,0 - n⟩:Entry),(⟨dst,n⟩:Entry)])=(r0,e0):=⟨_,_,rfl⟩
 refine ay 2 [1,0] (kH 1 [0] (At l ([(⟨src,0 - n⟩:Entry),(⟨dst,n⟩:Entry)]) r0 e0 hr0) Kd ⟨trivial,rfl,trivial⟩ ⟨(va _),trivial⟩ rfl) rfl (ad 4 rfl (ae (al ?_)))
 have hX:jQ l src dst n=(r0,e0):=by
   unfold jQ;rw [if_neg aa];assumption
 cases hX.symm.trans hr;clear hX
 exact aS [1] 1 rfl
theorem CD (l:List Entry) (src dst n:Int) (r:List Entry) (e:Int) (hr:jQ l src dst n=(r,e)):Fn Tryz.prog 42 [(.c (cE l)),(.c (cI src)),(.c (cI dst)),(.c (cI n))] (.t [(.c (.s 0 0 2 r.length)),(.c (cI e))]) [(0,(mZ r))]:=by
 refine Fn.mk' 28 [(0,(aC (cE l))),(1,(aI src)),(2,(aI dst)),(3,(aI n))] Tryz.func42 rfl rfl rfl rfl ?_
 intro W0 T0
 refine dE 0 rfl (fun hlen0=>?_)
 refine ag 2 rfl (af (bQ 15 ((decide (n < 0))||(decide (n > 1000000000000))) ?_ ?_))
 ·
  refine ah (ad 3 rfl (bz 12 rfl (fun hb1'=>?_) (fun hb1'=>?_)))
  ·
   exact ad 3 rfl (ae (aq.pz 7 rfl))
  exact ad 3 rfl (ae (aq.pz 7 rfl))
 refine ax rfl (fun hc2=>?_) (fun hc2=>?_)
 ·
  have hc2':=hc2;try simp only [aT,bx] at hc2'
  refine ag 2 rfl (al (aj (cW (aq.nil 8 105 2 cm rfl) ?_)))
  have hX:jQ l src dst n=(([]:List Entry),3):=by
    unfold jQ;rw [if_pos aa]
  cases hX.symm.trans hr;clear hX
  exact aS [0] 1 rfl
 have hc2':=hc2;try simp only [aT,bx] at hc2'
 refine aD (aw 3 rfl (az (nN rfl rfl (bH aa)) rfl (ad 4 rfl (ay 1 [0] (dM (ys:=[(0,(.g [(cI src),(cI (0 - n))])),(1,(.g [(cI dst),(cI n)]))]) (rows:=([(⟨src,0 - n⟩:Entry),(⟨dst,n⟩:Entry)]).map fy) 0 lE rfl) rfl ?_))))
 obtain ⟨r0,e0,hr0⟩:∃ (r0:List Entry) (e0:Int),fZ l ([(⟨src,0 - n⟩:Entry),(⟨dst,n⟩:Entry)])=(r0,e0):=⟨_,_,rfl⟩
 refine ay 2 [1,0] (kH 1 [0] (CC l ([(⟨src,0 - n⟩:Entry),(⟨dst,n⟩:Entry)]) r0 e0 hr0) Lg ⟨trivial,rfl,trivial⟩ ⟨(va _),trivial⟩ rfl) rfl (ad 4 rfl (ae (al ?_)))
 have hX:jQ l src dst n=(r0,e0):=by
   unfold jQ;rw [if_neg aa];assumption
 cases hX.symm.trans hr;clear hX
 exact aS [1] 1 rfl
theorem mv {α:Type}:∀ l:List α,l=[]\/∃ A y,l=A++[y]
 |[]=>.inl rfl
 |x::l=>.inr (by
  rcases mv l with rfl|⟨A,y,rfl⟩
  ·exact ⟨[],x,rfl⟩
  ·exact ⟨x::A,y,rfl⟩)
def ju (a b:ar):Bool:=decide (a.au < b.au)||(decide (a.au=b.au) && decide (a.ba < b.ba))
def gP (a b:ar):Prop:=a.au < b.au\/(a.au=b.au/\a.ba<=b.ba)
def mJ (a b:ar):Bool:=decide (a.au=b.au) && decide (a.ba=b.ba)
def fN (l:List ar):Prop:=l.Pairwise gP
def Same (u v:List ar):Prop:=∀ k:ar,u.filter (mJ k)=v.filter (mJ k)
theorem qR {a b:ar}:ju a b=true↔(a.au < b.au\/(a.au=b.au/\a.ba < b.ba)):=by unfold ju;simp
theorem sS {a b:ar}:ju a b=false↔gP b a:=by
 unfold ju gP
 rw [Bool.or_eq_false_iff,decide_eq_false_iff_not,Bool.and_eq_false_iff,decide_eq_false_iff_not,decide_eq_false_iff_not]
 omega
theorem nM {a b:ar} (h:ju a b=true):gP a b:=by rw [qR] at h;unfold gP;omega
theorem qS (a:ar):gP a a:=by unfold gP;omega
theorem mD {a b c:ar} (h:gP a b) (h':gP b c):gP a c:=by unfold gP at *;omega
theorem yE {a b c:ar} (h:ju a b=true) (h':gP b c):ju a c=true:=by rw [qR] at *;unfold gP at *;omega
theorem DC {a b c:ar} (h:gP a b) (h':ju b c=true):ju a c=true:=by rw [qR] at *;unfold gP at *;omega
theorem sN {a b:ar}:mJ a b=true↔(a.au=b.au/\a.ba=b.ba):=by unfold mJ;simp
theorem ov (a:ar):mJ a a=true:=by rw [sN];exact ⟨rfl,rfl⟩
theorem Same.refl (u:List ar):Same u u:=fun _=>rfl
theorem Same.symm {u v:List ar} (h:Same u v):Same v u:=fun k=>(h k).symm
theorem Same.trans {u v z:List ar} (h:Same u v) (h':Same v z):Same u z:=fun k=>(h k).trans (h' k)
theorem Same.app {u v u' v':List ar} (h:Same u u') (h':Same v v'):Same (u++v) (u'++v'):=fun k=>by rw [List.filter_append,List.filter_append,h k,h' k]
theorem Same.mem {u v:List ar} (h:Same u v) {x:ar}:x∈u↔x∈v:=by
 have h1:∀ l:List ar,x∈l.filter (mJ x)↔x∈l:=fun l=>by simp [ov]
 rw [<-h1 u,<-h1 v,h x]
theorem Same.perm {u v:List ar} (h:Same u v):u.Perm v:=by
 rw [List.perm_iff_count]
 intro x
 rw [<-List.count_filter (p:=mJ x) (l:=u) (ov x),<-List.count_filter (p:=mJ x) (l:=v) (ov x),h x]
theorem Same.len {u v:List ar} (h:Same u v):u.length=v.length:=h.perm.length_eq
theorem Same.comm {u v:List ar} (h:∀ x∈u,∀ y∈v,ju y x=true):Same (u++v) (v++u):=fun k=>by
 rw [List.filter_append,List.filter_append]
 by_cases hu:u.filter (mJ k)=[]
 ·rw [hu];simp
 ·by_cases hv:v.filter (mJ k)=[]
  ·rw [hv];simp
  ·exfalso
   obtain ⟨x,hx⟩:=List.exists_mem_of_ne_nil _ hu
   obtain ⟨y,hy⟩:=List.exists_mem_of_ne_nil _ hv
   rw [List.mem_filter] at hx hy
   have h1:=h x hx.1 y hy.1
   have h2:=sN.1 hx.2
   have h3:=sN.1 hy.2
   rw [qR] at h1
   omega
theorem fN.uniq:∀ {u v:List ar},fN u->fN v->Same u v->u=v
 |[],v,_,_,h=>by have:=h.len;exact (List.eq_nil_of_length_eq_zero this.symm).symm
 |x::u,[],_,_,h=>by have:=h.len;cases this
 |x::u,y::v,hu,hv,h=>by
  obtain ⟨hu1,hu2⟩:=List.pairwise_cons.1 hu
  obtain ⟨hv1,hv2⟩:=List.pairwise_cons.1 hv
  have h1:gP x y:=by
   rcases List.mem_cons.1 (h.mem.2 (List.mem_cons_self (a:=y) (l:=v))) with rfl|hm
   ·exact qS _
   ·exact hu1 y hm
  have h2:gP y x:=by
   rcases List.mem_cons.1 (h.mem.1 (List.mem_cons_self (a:=x) (l:=u))) with rfl|hm
   ·exact qS _
   ·exact hv1 x hm
  have h3:mJ x y=true:=by rw [sN];unfold gP at h1 h2;omega
  have h4:=h x
  rw [List.filter_cons,List.filter_cons,if_pos (ov x),if_pos h3] at h4
  obtain ⟨rfl,_⟩:=List.cons.inj h4
  have h5:Same u v:=fun k=>by
   have:=h k
   rw [List.filter_cons,List.filter_cons] at this
   split at this
   ·exact (List.cons.inj this).2
   ·exact this
  rw [fN.uniq hu2 hv2 h5]

def jZ (d:List ar) (i j:Nat):List ar:=
 match d[i]?,d[j]? with
 |some x,some y=>(d.set i y).set j x
 |_,_=>d
theorem oT {d:List ar} {i j:Nat} {x y:ar} (hx:d[i]?=some x) (hy:d[j]?=some y):jZ d i j=(d.set i y).set j x:=by unfold jZ;rw [hx,hy]
theorem pv (d:List ar) (i j:Nat):(jZ d i j).length=d.length:=by
 unfold jZ;split<;>simp
theorem rE (s t u:List ar) (x y:ar) {i j:Nat} (hi:i=s.length) (hj:j=s.length+1+t.length):jZ (s++x::(t++y::u)) i j=s++y::(t++x::u):=by
 subst hi hj
 have h1:(s++x::(t++y::u))[s.length]?=some x:=by simp
 have h2:(s++x::(t++y::u))[s.length+1+t.length]?=some y:=by
  rw [List.getElem?_append_right aa,show s.length+1+t.length - s.length=t.length+1 by omega,List.getElem?_cons_succ];simp
 rw [oT h1 h2,List.set_append_right _ _ (Nat.le_refl _),Nat.sub_self,List.set_cons_zero,List.set_append_right _ _ aa,show s.length+1+t.length - s.length=t.length+1 by omega,
  List.set_cons_succ,List.set_append_right _ _ (Nat.le_refl _),Nat.sub_self,List.set_cons_zero]
theorem BK (d:List ar) (i j:Nat):jZ d i j=jZ d j i:=by
 by_cases hij:i=j
 ·subst hij;rfl
 ·unfold jZ
  cases hx:d[i]? with
  |none=>cases hy:d[j]?<;>rfl
  |some x=>
   cases hy:d[j]? with
   |none=>rfl
   |some y=>exact List.set_comm _ _ hij
theorem uJ (s t u:List ar) (x y:ar) {i j:Nat} (hi:i=s.length) (hj:j=s.length+1+t.length):jZ (s++x::(t++y::u)) j i=s++y::(t++x::u):=by rw [BK];exact rE s t u x y hi hj

structure Part (d y:List ar) (a b:Nat):Prop where
 len:y.length=d.length
 l:y.take a=d.take a
 r:y.drop b=d.drop b
 s:fN ((y.drop a).take (b - a))
 m:Same d y
theorem Part.of {P X C R:List ar} {a b:Nat} (ha:P.length=a) (hb:b=a+X.length) (hs:fN C) (hm:Same X C):Part (P++X++R) (P++C++R) a b:=by
 subst ha hb
 have hl:=hm.len
 refine ⟨by simp [hl],ca,?_,?_,((Same.refl P).app hm).app (Same.refl R)⟩
 ·have h1:∀ Z:List ar,Z.length=X.length->(P++Z++R).drop (P.length+X.length)=R:=fun Z hz=>by
   rw [<-hz,<-List.length_append,List.drop_left]
  rw [h1 C hl.symm,h1 X rfl]
 ·rw [List.append_assoc,List.drop_left,show P.length+X.length - P.length=C.length by omega,List.take_left];exact hs
theorem parts {d:List ar} {a b:Nat} (h:a<=b) (hb:b<=d.length):d=d.take a++(d.drop a).take (b - a)++d.drop b:=by
 have h1:d.drop b=(d.drop a).drop (b - a):=by rw [List.drop_drop];congr 1;omega
 rw [h1,List.append_assoc,List.take_append_drop,List.take_append_drop]

def mm (a:Nat):Nat->List ar->List ar
 |0,d=>d
 |j+1,d=>
  if a < j+1 then
   match d[j+1]?,d[j]? with
   |some x,some y=>if ju x y=true then mm a j (jZ d (j+1) j) else d
   |_,_=>d
  else d
theorem ua {a j:Nat} {d:List ar} (h:¬a < j):mm a j d=d:=by
 cases j with
 |zero=>rfl
 |succ j=>unfold mm;rw [if_neg h]
theorem sb {a j:Nat} {d:List ar} {x y:ar} (hx:d[j]?=some x) (hy:d[j - 1]?=some y) (h:ju x y=false):mm a j d=d:=by
 cases j with
 |zero=>rfl
 |succ j=>
  unfold mm
  split
  ·rw [hx,show d[j]?=some y from hy];simp [h]
  ·rfl
theorem Bn {a j:Nat} {d:List ar} {x y:ar} (ha:a < j) (hx:d[j]?=some x) (hy:d[j - 1]?=some y) (h:ju x y=true):mm a j d=mm a (j - 1) (jZ d j (j - 1)):=by
 cases j with
 |zero=>omega
 |succ j=>
  conv=>lhs;unfold mm
  rw [if_pos ha,hx,show d[j]?=some y from hy]
  simp only [h,if_true]
  rfl
theorem yL (a:Nat):∀ (j:Nat) (d:List ar),(mm a j d).length=d.length
 |0,d=>rfl
 |j+1,d=>by
  unfold mm
  split
  ·split
   ·split
    ·rw [yL a j,pv]
    ·rfl
   ·rfl
  ·rfl
theorem yM (P:List ar) (x:ar):∀ (n:Nat) (A R:List ar),A.length=n->∃ A1 A2,A=A1++A2/\mm P.length (P.length+n) (P++A++x::R)=P++(A1++x::A2)++R/\(∀ y∈A2,ju x y=true)/\(∀ A0 y,A1=A0++[y]->gP y x)
 |0,A,R,hA=>by
  obtain rfl:=List.eq_nil_of_length_eq_zero hA
  refine ⟨[],[],rfl,?_,ca,ca⟩
  rw [ua aa];simp
 |n+1,A,R,hA=>by
  obtain ⟨A',y,rfl⟩:∃ A' y,A=A'++[y]:=by
   rcases mv A with rfl|h
   ·cases hA
   ·exact h
  have hn:A'.length=n:=by simpa using hA
  have e1:P++(A'++[y])++x::R=(P++A')++y::([]++x::R):=by simp
  have h1:(P++(A'++[y])++x::R)[P.length+(n+1)]?=some x:=by
   rw [List.getElem?_append_right fa,show P.length+(n+1) - (P++(A'++[y])).length=0 by simp;omega];rfl
  have h2:(P++(A'++[y])++x::R)[P.length+(n+1) - 1]?=some y:=by
   rw [e1,List.getElem?_append_right fa,show P.length+(n+1) - 1 - (P++A').length=0 by simp;omega];rfl
  cases hc:ju x y with
  |true=>
   rw [Bn aa h1 h2 hc,show P.length+(n+1) - 1=P.length+n by omega,e1,uJ (P++A') [] R y x fa fa]
   obtain ⟨A1,A2,rfl,h3,h4,h5⟩:=yM P x n A' (y::R) hn
   refine ⟨A1,A2++[y],ca,?_,?_,h5⟩
   ·rw [List.nil_append,h3];simp
   ·intro z hz
    rcases List.mem_append.1 hz with hz|hz
    ·exact h4 z hz
    ·rw [List.mem_singleton.1 hz];exact hc
  |false=>
   rw [sb h1 h2 hc]
   refine ⟨A'++[y],[],ca,ca,ca,fun A0 z hz=>?_⟩
   obtain ⟨_,h⟩:=List.append_inj' hz rfl
   rw [<-List.cons.inj h|>.1]
   exact sS.1 hc
theorem jJ {u v:List ar}:fN (u++v)↔fN u/\fN v/\∀ x∈u,∀ y∈v,gP x y:=List.pairwise_append
theorem ye {u:List ar} {y x:ar} (h:fN (u++[y])) (hx:gP y x):∀ z∈u++[y],gP z x:=fun z hz=>by
 rcases List.mem_append.1 hz with hz|hz
 ·exact mD ((jJ.1 h).2.2 z hz y (List.mem_singleton.2 rfl)) hx
 ·rw [List.mem_singleton.1 hz];exact hx
theorem DE {u:List ar} {x:ar} (h:fN u) (hl:∀ A0 y,u=A0++[y]->gP y x):∀ z∈u,gP z x:=by
 rcases mv u with rfl|⟨A',y,h'⟩
 ·simp
 ·rw [h'] at h ⊢;exact ye h (hl A' y h')
theorem Dy {A1 A2:List ar} {x:ar} (h:fN (A1++A2)) (h1:∀ z∈A1,gP z x) (h2:∀ z∈A2,ju x z=true):fN (A1++x::A2)/\Same (A1++A2++[x]) (A1++x::A2):=by
 obtain ⟨s1,s2,s3⟩:=jJ.1 h
 refine ⟨jJ.2 ⟨s1,List.pairwise_cons.2 ⟨fun y hy=>nM (h2 y hy),s2⟩,fun z hz y hy=>?_⟩,?_⟩
 ·rcases List.mem_cons.1 hy with rfl|hy
  ·exact h1 z hz
  ·exact s3 z hz y hy
 ·have:=(Same.refl A1).app (Same.comm (u:=A2) (v:=[x]) fun y hy z hz=>by rw [List.mem_singleton.1 hz];exact h2 y hy)
  simpa using this
theorem GZ {B1 B2:List ar} {x:ar} (h:fN (B1++B2)) (h1:∀ z∈B1,ju z x=true) (h2:∀ z∈B2,gP x z):fN (B1++x::B2)/\Same (x::(B1++B2)) (B1++x::B2):=by
 obtain ⟨s1,s2,s3⟩:=jJ.1 h
 refine ⟨jJ.2 ⟨s1,List.pairwise_cons.2 ⟨h2,s2⟩,fun z hz y hy=>?_⟩,?_⟩
 ·rcases List.mem_cons.1 hy with rfl|hy
  ·exact nM (h1 z hz)
  ·exact s3 z hz y hy
 ·have:=(Same.comm (u:=[x]) (v:=B1) fun y hy z hz=>by rw [List.mem_singleton.1 hy];exact h1 z hz).app (Same.refl B2)
  simpa using this
def lG (a:Nat):Nat->List ar->List ar
 |0,d=>d
 |n+1,d=>mm a (a+1+n) (lG a n d)
theorem tZ (a:Nat):∀ (n:Nat) (d:List ar),(lG a n d).length=d.length
 |0,_=>rfl
 |n+1,d=>by unfold lG;rw [yL,tZ a n]
theorem yH (P X R:List ar):∀ n,n < X.length->∃ C,lG P.length n (P++X++R)=P++C++X.drop (n+1)++R/\fN C/\Same (X.take (n+1)) C
 |0,h=>by
  refine ⟨X.take 1,?_,?_,Same.refl _⟩
  ·unfold lG;rw [List.append_assoc P (X.take 1),List.take_append_drop]
  ·cases X with
   |nil=>cases h
   |cons x X=>exact List.pairwise_singleton _ _
 |n+1,h=>by
  obtain ⟨C,h1,h2,h3⟩:=yH P X R n aa
  have hl:C.length=n+1:=by rw [<-h3.len,List.length_take];omega
  have e1:X.drop (n+1)=X[n+1]::X.drop (n+2):=List.drop_eq_getElem_cons h
  obtain ⟨A1,A2,rfl,h4,h5,h6⟩:=yM P X[n+1] (n+1) C (X.drop (n+2)++R) hl
  have h7:fN A1:=(jJ.1 h2).1
  obtain ⟨h8,h9⟩:=Dy h2 (DE h7 h6) h5
  refine ⟨A1++X[n+1]::A2,?_,h8,?_⟩
  ·unfold lG
   rw [h1,show P.length+1+n=P.length+(n+1) by omega,show P++(A1++A2)++X.drop (n+1)++R=P++(A1++A2)++X[n+1]::(X.drop (n+2)++R) by rw [List.append_assoc _ _ R,e1,List.cons_append],h4]
   simp
  ·rw [List.take_add_one,List.getElem?_eq_getElem h]
   exact (h3.app (Same.refl _)).trans h9
theorem wW {d:List ar} {a b:Nat} (h:a<=b) (hb:b<=d.length):Part d (lG a (b - (a+1)) d) a b:=by
 by_cases hab:a=b
 ·subst hab
  rw [show a - (a+1)=0 by omega]
  exact ⟨rfl,rfl,rfl,by rw [Nat.sub_self];exact List.Pairwise.nil,Same.refl _⟩
 ·have e:=parts h hb
  have h1:(d.take a).length=a:=by rw [List.length_take];omega
  have h2:((d.drop a).take (b - a)).length=b - a:=by rw [List.length_take,List.length_drop];omega
  obtain ⟨C,h3,h4,h5⟩:=yH (d.take a) ((d.drop a).take (b - a)) (d.drop b) (b - (a+1)) aa
  rw [h1] at h3
  rw [<-e,List.drop_of_length_le (l:=(d.drop a).take (b - a)) aa,List.append_nil] at h3
  rw [List.take_of_length_le (l:=(d.drop a).take (b - a)) aa] at h5
  have:=Part.of (P:=d.take a) (R:=d.drop b) (a:=a) (b:=b) h1 aa h4 h5
  rwa [<-e,<-h3] at this

def eI (d:List ar) (i j:Nat):Bool:=
 match d[i]?,d[j]? with
 |some x,some y=>ju x y
 |_,_=>false
theorem iT {d:List ar} {i j:Nat} {x y:ar} (hx:d[i]?=some x) (hy:d[j]?=some y):eI d i j=ju x y:=by unfold eI;rw [hx,hy]
def iH (p:Nat->Bool) (i j:Nat):Nat:=
 if _h:i < j then if p ((i+j) / 2)=true then iH p ((i+j) / 2+1) j else iH p i ((i+j) / 2) else i
termination_by j - i
theorem fW {p:Nat->Bool} {i j:Nat} (h:¬i < j):iH p i j=i:=by rw [iH,dif_neg h]
theorem GG {p:Nat->Bool} {i j:Nat} (h:i < j) (hp:p ((i+j) / 2)=true):iH p i j=iH p ((i+j) / 2+1) j:=by rw [iH,dif_pos h,if_pos hp]
theorem GH {p:Nat->Bool} {i j:Nat} (h:i < j) (hp:p ((i+j) / 2)=false):iH p i j=iH p i ((i+j) / 2):=by rw [iH,dif_pos h,if_neg (by rw [hp];exact Bool.false_ne_true)]
theorem nv (p:Nat->Bool):∀ (n i j:Nat),j - i<=n->i<=j->i<=iH p i j/\iH p i j<=j/\(iH p i j=i\/p (iH p i j - 1)=true)/\(iH p i j=j\/p (iH p i j)=false)
 |0,i,j,hn,h=>by rw [fW aa];exact ⟨Nat.le_refl _,h,.inl rfl,.inl aa⟩
 |n+1,i,j,hn,h=>by
  by_cases hij:i < j
  ·cases hp:p ((i+j) / 2) with
   |true=>
    rw [GG hij hp]
    obtain ⟨h1,h2,h3,h4⟩:=nv p n ((i+j) / 2+1) j aa aa
    refine ⟨aa,h2,?_,h4⟩
    rcases h3 with h3|h3
    ·right;rw [h3,Nat.add_sub_cancel];exact hp
    ·exact .inr h3
   |false=>
    rw [GH hij hp]
    obtain ⟨h1,h2,h3,h4⟩:=nv p n i ((i+j) / 2) aa aa
    refine ⟨h1,aa,h3,?_⟩
    rcases h4 with h4|h4
    ·right;rw [h4];exact hp
    ·exact .inr h4
  ·rw [fW hij];exact ⟨Nat.le_refl _,h,.inl rfl,.inl aa⟩
def rl (a:Nat):Nat->List ar->List ar
 |0,d=>d
 |n+1,d=>jZ (rl a n d) (a+n) (a+n+1)
def rn (m:Nat):Nat->List ar->List ar
 |0,d=>d
 |n+1,d=>jZ (rn m n d) (m - n) (m - n - 1)
theorem Bf (a:Nat):∀ (n:Nat) (d:List ar),(rl a n d).length=d.length
 |0,_=>rfl
 |n+1,d=>by unfold rl;rw [pv,Bf a n]
theorem Bh (m:Nat):∀ (n:Nat) (d:List ar),(rn m n d).length=d.length
 |0,_=>rfl
 |n+1,d=>by unfold rn;rw [pv,Bh m n]
theorem Bg (P:List ar) (x:ar):∀ (n:Nat) (V R:List ar),V.length=n->rl P.length n (P++x::(V++R))=P++V++x::R
 |0,V,R,h=>by obtain rfl:=List.eq_nil_of_length_eq_zero h;simp [rl]
 |n+1,V,R,h=>by
  rcases mv V with rfl|⟨V',y,rfl⟩
  ·cases h
  ·have hn:V'.length=n:=by simpa using h
   unfold rl
   rw [show P++x::(V'++[y]++R)=P++x::(V'++(y::R)) by simp,Bg P x n V' (y::R) hn]
   have:=rE (P++V') [] R x y (i:=P.length+n) (j:=P.length+n+1) fa fa
   rw [List.nil_append,List.nil_append] at this
   rw [this];simp
theorem Bi (P:List ar) (x:ar) (R:List ar):∀ (n:Nat) (U1 U2:List ar),U2.length=n->rn (P++U1++U2).length n (P++U1++U2++x::R)=P++U1++x::(U2++R)
 |0,U1,U2,h=>by obtain rfl:=List.eq_nil_of_length_eq_zero h;simp [rn]
 |n+1,U1,U2,h=>by
  cases U2 with
  |nil=>cases h
  |cons y U=>
   have hn:U.length=n:=by simpa using h
   unfold rn
   have e1:P++U1++y::U=P++(U1++[y])++U:=by simp
   rw [e1,Bi P x R n (U1++[y]) U hn]
   have:=uJ (P++U1) [] (U++R) y x (i:=(P++(U1++[y])++U).length - n - 1) (j:=(P++(U1++[y])++U).length - n) fa fa
   rw [List.nil_append,List.nil_append] at this
   rw [show P++(U1++[y])++x::(U++R)=P++U1++y::x::(U++R) by simp,this]
   simp
def jk (a b:Nat):Nat->List ar->List ar
 |0,d=>d
 |n+1,d=>jZ (jk a b n d) (a+n) (b+n)
theorem kT (a b:Nat):∀ (n:Nat) (d:List ar),(jk a b n d).length=d.length
 |0,_=>rfl
 |n+1,d=>by unfold jk;rw [pv,kT a b n]
theorem pt (p:List ar):∀ (n:Nat) (x q y r:List ar) {b:Nat},x.length=n->y.length=n->b=p.length+n+q.length->jk p.length b n (p++(x++(q++(y++r))))=p++(y++(q++(x++r)))
 |0,x,q,y,r,b,hx,hy,_=>by obtain rfl:=List.eq_nil_of_length_eq_zero hx;obtain rfl:=List.eq_nil_of_length_eq_zero hy;rfl
 |n+1,x,q,y,r,b,hx,hy,hb=>by
  rcases mv x with rfl|⟨x',x1,rfl⟩
  ·cases hx
  rcases mv y with rfl|⟨y',y1,rfl⟩
  ·cases hy
  have h1:x'.length=n:=by simpa using hx
  have h2:y'.length=n:=by simpa using hy
  unfold jk
  have:=pt p n x' (x1::q) y' (y1::r) (b:=b) h1 h2 fa
  rw [show p++(x'++[x1]++(q++(y'++[y1]++r)))=p++(x'++(x1::q++(y'++y1::r))) by simp,this]
  have:=rE (p++y') (q++x') r x1 y1 (i:=p.length+n) (j:=b+n) fa fa
  rw [show p++(y'++(x1::q++(x'++y1::r)))=p++y'++x1::(q++x'++y1::r) by simp,this]
  simp
def lA (m:Nat) (i j:Nat) (d:List ar):List ar:=
 if _h:0 < i/\0 < j then
  if i=j then jk (m - i) m i d
  else if i > j then lA m (i - j) j (jk (m - i) m j d)
  else lA m i (j - i) (jk (m - i) (m+j - i) i d)
 else d
termination_by i+j
theorem Dm {m i:Nat} {d:List ar} (hi:0 < i):lA m i i d=jk (m - i) m i d:=by rw [lA,dif_pos ⟨hi,hi⟩,if_pos rfl]
theorem Dl {m i j:Nat} {d:List ar} (hj:0 < j) (h:i > j):lA m i j d=lA m (i - j) j (jk (m - i) m j d):=by rw [lA,dif_pos ⟨aa,hj⟩,if_neg aa,if_pos h]
theorem Dk {m i j:Nat} {d:List ar} (hi:0 < i) (h:i < j):lA m i j d=lA m i (j - i) (jk (m - i) (m+j - i) i d):=by rw [lA,dif_pos ⟨hi,aa⟩,if_neg aa,if_neg aa]
theorem vN:∀ (n:Nat) (P u v R:List ar) (m:Nat),u.length+v.length<=n->0 < u.length->0 < v.length->m=P.length+u.length->lA m u.length v.length (P++(u++(v++R)))=P++(v++(u++R))
 |0,P,u,v,R,m,hn,hu,hv,hm=>by omega
 |n+1,P,u,v,R,m,hn,hu,hv,hm=>by
  rcases Nat.lt_trichotomy u.length v.length with h|h|h
  ·rw [Dk hu h]
   have e:v=v.take (v.length - u.length)++v.drop (v.length - u.length):=(List.take_append_drop _ _).symm
   have l1:(v.take (v.length - u.length)).length=v.length - u.length:=by rw [List.length_take];omega
   have l2:(v.drop (v.length - u.length)).length=u.length:=by rw [List.length_drop];omega
   generalize hv1:v.take (v.length - u.length)=v1 at e l1
   generalize hv2:v.drop (v.length - u.length)=v2 at e l2
   have h1:=pt P u.length u v1 v2 R (b:=m+v.length - u.length) rfl l2 aa
   rw [show m - u.length=P.length by omega,show P++(u++(v++R))=P++(u++(v1++(v2++R))) by rw [e];simp,h1,<-l1]
   have h2:=vN n P v2 v1 (u++R) m aa aa aa aa
   rw [l2] at h2
   rw [h2,e];simp
  ·rw [<-h,Dm hu,show m - u.length=P.length by omega]
   have h1:=pt P u.length u [] v R (b:=m) rfl h.symm fa
   simpa using h1
  ·rw [Dl hv h]
   have e:u=u.take v.length++u.drop v.length:=(List.take_append_drop _ _).symm
   have l1:(u.take v.length).length=v.length:=by rw [List.length_take];omega
   have l2:(u.drop v.length).length=u.length - v.length:=by rw [List.length_drop]
   generalize hv1:u.take v.length=u1 at e l1
   generalize hv2:u.drop v.length=u2 at e l2
   have h1:=pt P v.length u1 u2 v R (b:=m) l1 rfl aa
   rw [show m - u.length=P.length by omega,show P++(u++(v++R))=P++(u1++(u2++(v++R))) by rw [e];simp,h1,<-l2]
   have h2:=vN n (P++v) u2 u1 R m aa aa aa fa
   rw [l1] at h2
   rw [show P++(v++(u2++(u1++R)))=P++v++(u2++(u1++R)) by simp,h2,e];simp
theorem qc:∀ (n m i j:Nat) (d:List ar),i+j<=n->(lA m i j d).length=d.length
 |0,m,i,j,d,h=>by rw [lA,dif_neg aa]
 |n+1,m,i,j,d,h=>by
  rw [lA]
  split
  ·split
   ·rw [kT]
   ·split
    ·rw [qc n _ _ _ _ aa,kT]
    ·rw [qc n _ _ _ _ aa,kT]
  ·rfl
def fB (d:List ar) (a m b:Nat):Nat:=
 if m > (a+b) / 2 then iH (fun c=>!eI d ((a+b) / 2+m - 1 - c) c) ((a+b) / 2+m - b) ((a+b) / 2)
 else iH (fun c=>!eI d ((a+b) / 2+m - 1 - c) c) a m
def gw (s m e:Nat) (d:List ar):List ar:=if s < m/\m < e then lA m (m - s) (e - m) d else d
def eM:Nat->Nat->Nat->Nat->List ar->List ar
 |0,_,_,_,d=>d
 |f+1,a,m,b,d=>
  if m - a=1 then rl a (iH (fun h=>eI d h a) m b - 1 - a) d
  else if b - m=1 then rn m (m - iH (fun h=>!eI d m h) a m) d
  else
   (fun s=>(fun e=>(fun d1=>(fun d2=>if (a+b) / 2 < e/\e < b then eM f ((a+b) / 2) e b d2 else d2)
    (if a < s/\s < (a+b) / 2 then eM f a s ((a+b) / 2) d1 else d1)) (gw s m e d)) ((a+b) / 2+m - s)) (fB d a m b)
theorem ot (s m e:Nat) (d:List ar):(gw s m e d).length=d.length:=by unfold gw;split;exact qc _ _ _ _ _ (Nat.le_refl _);rfl
theorem gi:∀ (f a m b:Nat) (d:List ar),(eM f a m b d).length=d.length
 |0,_,_,_,_=>rfl
 |f+1,a,m,b,d=>by
  unfold eM
  split
  ·rw [Bf]
  ·split
   ·rw [Bh]
   ·dsimp only
    split
    ·rw [gi f]
     split
     ·rw [gi f,ot]
     ·rw [ot]
    ·split
     ·rw [gi f,ot]
     ·rw [ot]
theorem wV {a i:Nat} {d:List ar} (h:a+1<=i):lG a (i+1 - (a+1)) d=mm a i (lG a (i - (a+1)) d):=by
 rw [show i+1 - (a+1)=(i - (a+1))+1 by omega]
 conv=>lhs;unfold lG
 rw [show a+1+(i - (a+1))=i by omega]
theorem EX {a k:Nat} {d:List ar} (h:a<=k):rl a (k+1 - a) d=jZ (rl a (k - a) d) k (k+1):=by
 rw [show k+1 - a=(k - a)+1 by omega]
 conv=>lhs;unfold rl
 rw [show a+(k - a)=k by omega]
theorem EY {m k:Nat} {d:List ar} (h:k<=m) (h0:0 < k):rn m (m - (k - 1)) d=jZ (rn m (m - k) d) k (k - 1):=by
 rw [show m - (k - 1)=(m - k)+1 by omega]
 conv=>lhs;unfold rn
 rw [show m - (m - k)=k by omega]
theorem pG {P X:List ar} {k n:Nat} (hn:n=P.length+k):(P++X)[n]?=X[k]?:=by
 subst hn;rw [List.getElem?_append_right aa,Nat.add_sub_cancel_left]
theorem le_last {B:List ar} {x:ar} (h:fN B) (hl:∀ A0 y,B=A0++[y]->ju y x=true):∀ z∈B,ju z x=true:=by
 rcases mv B with rfl|⟨A',y,h'⟩
 ·simp
 ·intro z hz
  have h1:=hl A' y h'
  rw [h'] at h hz
  rcases List.mem_append.1 hz with hz|hz
  ·exact DC ((jJ.1 h).2.2 z hz y (List.mem_singleton.2 rfl)) h1
  ·rw [List.mem_singleton.1 hz];exact h1
theorem Fx {B:List ar} {x:ar} (h:fN B) (hl:∀ y B0,B=y::B0->ju x y=true):∀ z∈B,ju x z=true:=by
 cases B with
 |nil=>simp
 |cons y B0=>
  intro z hz
  have h1:=hl y B0 rfl
  rcases List.mem_cons.1 hz with rfl|hz
  ·exact h1
  ·exact yE h1 ((List.pairwise_cons.1 h).1 z hz)
theorem Fy {B:List ar} {x:ar} (h:fN B) (hl:∀ y B0,B=y::B0->gP x y):∀ z∈B,gP x z:=by
 cases B with
 |nil=>simp
 |cons y B0=>
  intro z hz
  have h1:=hl y B0 rfl
  rcases List.mem_cons.1 hz with rfl|hz
  ·exact h1
  ·exact mD h1 ((List.pairwise_cons.1 h).1 z hz)
theorem yf {A:List ar} {y:ar} {A0:List ar} (h:A=A0++[y]):A[A.length - 1]?=some y:=by subst h;simp
theorem qC (l:List ar) (k:Nat) (h:k<=l.length):∃ u v,l=u++v/\u.length=k:=⟨l.take k,l.drop k,(List.take_append_drop k l).symm,by rw [List.length_take];omega⟩
theorem xd {U:List ar} {u:ar} (h:fN U) (hu:U[0]?=some u):∀ x∈U,gP u x:=by
 cases U with
 |nil=>simp
 |cons y U=>
  simp at hu;subst hu
  intro x hx
  rcases List.mem_cons.1 hx with rfl|hx
  ·exact qS _
  ·exact (List.pairwise_cons.1 h).1 x hx
theorem yG {V:List ar} {v:ar} (h:fN V) (hv:V[V.length - 1]?=some v):∀ y∈V,gP y v:=by
 rcases mv V with rfl|⟨A,z,rfl⟩
 ·simp
 ·simp at hv;subst hv
  exact ye h (qS _)
theorem get_some {V:List ar} {k:Nat} (h:k < V.length):∃ v,V[k]?=some v:=⟨V[k],List.getElem?_eq_getElem h⟩
theorem tM:∀ (f:Nat) (P A B R:List ar),A.length+B.length<=f->0 < A.length->0 < B.length->fN A->fN B->
  ∃ C,eM f P.length (P.length+A.length) (P.length+A.length+B.length) (P++(A++(B++R)))=P++(C++R)/\fN C/\Same (A++B) C
 |0,P,A,B,R,hf,ha,hb,_,_=>by omega
 |f+1,P,A,B,R,hf,ha,hb,sA,sB=>by
  obtain ⟨a,hea⟩:∃ a,a=P.length:=⟨_,rfl⟩
  obtain ⟨m,hem⟩:∃ m,m=P.length+A.length:=⟨_,rfl⟩
  obtain ⟨b,heb⟩:∃ b,b=P.length+A.length+B.length:=⟨_,rfl⟩
  rw [<-hea,show a+A.length=m by omega,show m+B.length=b by omega]
  unfold eM
  split
  ·
   rename_i h1
   obtain ⟨x,rfl⟩:∃ x,A=[x]:=by
    match A,ha,(by omega:A.length=1) with
    |[x],_,_=>exact ⟨x,rfl⟩
   have hl1:[x].length=1:=rfl
   obtain ⟨q1,q2,q3,q4⟩:=nv (fun h=>eI (P++([x]++(B++R))) h a) (b - m) m b (Nat.le_refl _) aa
   generalize iH (fun h=>eI (P++([x]++(B++R))) h a) m b=i at q1 q2 q3 q4
   obtain ⟨B1,B2,rfl,hB1⟩:=qC B (i - m) aa
   rw [List.length_append] at heb
   have gx:(P++([x]++(B1++B2++R)))[a]?=some x:=by rw [pG (k:=0) aa];rfl
   have gB:∀ k,k < B1.length+B2.length->(P++([x]++(B1++B2++R)))[m+k]?=(B1++B2)[k]?:=fun k hk=>by
    rw [pG (k:=k+1) aa,List.cons_append,List.getElem?_cons_succ,List.nil_append,List.getElem?_append_left fa]
   obtain ⟨s1,s2,s3⟩:=jJ.1 sB
   have w1:∀ z∈B1,ju z x=true:=le_last s1 fun A0 y hy=>by
    have hpos:0 < B1.length:=by rw [hy];simp
    rcases q3 with q3|q3
    ·omega
    ·have g1:=gB (B1.length - 1) aa
     rw [List.getElem?_append_left (l₁:=B1) aa,yf hy,show m+(B1.length - 1)=i - 1 by omega] at g1
     have q3:eI (P++([x]++(B1++B2++R))) (i - 1) a=true:=q3
     rwa [iT g1 gx] at q3
   have w2:∀ z∈B2,gP x z:=Fy s2 fun y B0 hy=>by
    have hpos:0 < B2.length:=by rw [hy];simp
    rcases q4 with q4|q4
    ·omega
    ·have g1:=gB B1.length aa
     have g2:B2[0]?=some y:=by rw [hy];rfl
     rw [List.getElem?_append_right (l₁:=B1) (Nat.le_refl _),Nat.sub_self,g2,show m+B1.length=i by omega] at g1
     have q4:eI (P++([x]++(B1++B2++R))) i a=false:=q4
     rw [iT g1 gx] at q4
     exact sS.1 q4
   obtain ⟨t1,t2⟩:=GZ sB w1 w2
   refine ⟨B1++x::B2,?_,t1,t2⟩
   have h2:=Bg P x B1.length B1 (B2++R) rfl
   rw [show i - 1 - a=B1.length by omega,hea,show P++([x]++(B1++B2++R))=P++x::(B1++(B2++R)) by simp,h2]
   simp
  ·split
   ·
    rename_i h0 h1
    obtain ⟨x,rfl⟩:∃ x,B=[x]:=by
     match B,hb,(by omega:B.length=1) with
     |[x],_,_=>exact ⟨x,rfl⟩
    have hl1:[x].length=1:=rfl
    obtain ⟨q1,q2,q3,q4⟩:=nv (fun h=>!eI (P++(A++([x]++R))) m h) (m - a) a m (Nat.le_refl _) aa
    generalize iH (fun h=>!eI (P++(A++([x]++R))) m h) a m=i at q1 q2 q3 q4
    obtain ⟨A1,A2,rfl,hA1⟩:=qC A (i - a) aa
    rw [List.length_append] at hem heb
    have gx:(P++(A1++A2++([x]++R)))[m]?=some x:=by rw [pG (k:=A1.length+A2.length) aa,pG (k:=0) ca];rfl
    have gA:∀ k,k < A1.length+A2.length->(P++(A1++A2++([x]++R)))[a+k]?=(A1++A2)[k]?:=fun k hk=>by
     rw [pG (k:=k) aa,List.getElem?_append_left fa]
    obtain ⟨s1,s2,s3⟩:=jJ.1 sA
    have w1:∀ z∈A1,gP z x:=DE s1 fun A0 y hy=>by
     have hpos:0 < A1.length:=by rw [hy];simp
     rcases q3 with q3|q3
     ·omega
     ·have g1:=gA (A1.length - 1) aa
      rw [List.getElem?_append_left (l₁:=A1) aa,yf hy,show a+(A1.length - 1)=i - 1 by omega] at g1
      have q3:(!eI (P++(A1++A2++([x]++R))) m (i - 1))=true:=q3
      rw [iT gx g1,Bool.not_eq_true'] at q3
      exact sS.1 q3
    have w2:∀ z∈A2,ju x z=true:=Fx s2 fun y B0 hy=>by
     have hpos:0 < A2.length:=by rw [hy];simp
     rcases q4 with q4|q4
     ·omega
     ·have g1:=gA A1.length aa
      have g2:A2[0]?=some y:=by rw [hy];rfl
      rw [List.getElem?_append_right (l₁:=A1) (Nat.le_refl _),Nat.sub_self,g2,show a+A1.length=i by omega] at g1
      have q4:(!eI (P++(A1++A2++([x]++R))) m i)=false:=q4
      rw [iT gx g1,Bool.not_eq_false'] at q4
      exact q4
    obtain ⟨t1,t2⟩:=Dy sA w1 w2
    refine ⟨A1++x::A2,?_,t1,t2⟩
    have h2:=Bi P x R A2.length A1 A2 rfl
    rw [show (P++A1++A2).length=m by simp;omega] at h2
    rw [show m - i=A2.length by omega,show P++(A1++A2++([x]++R))=P++A1++A2++x::R by simp,h2]
    simp
   ·
    rename_i h0 h1
    obtain ⟨mid,hmid⟩:∃ mid,mid=(a+b) / 2:=⟨_,rfl⟩
    have hs:∃ s,fB (P++(A++(B++R))) a m b=s/\a<=s/\s<=m/\s<=mid/\mid+m - s<=b/\
      (s=m\/s=mid\/eI (P++(A++(B++R))) (mid+m - 1 - s) s=true)/\(s=a\/mid+m - s=b\/eI (P++(A++(B++R))) (mid+m - s) (s - 1)=false):=by
     refine ⟨_,rfl,?_⟩
     unfold fB
     rw [<-hmid]
     split
     ·obtain ⟨q1,q2,q3,q4⟩:=nv (fun c=>!eI (P++(A++(B++R))) (mid+m - 1 - c) c) (mid - (mid+m - b)) (mid+m - b) mid (Nat.le_refl _) aa
      generalize iH (fun c=>!eI (P++(A++(B++R))) (mid+m - 1 - c) c) (mid+m - b) mid=s at q1 q2 q3 q4
      refine ⟨aa,aa,aa,aa,?_,?_⟩
      ·rcases q4 with q4|q4
       ·exact .inr (.inl q4)
       ·right;right;simpa using q4
      ·rcases q3 with q3|q3
       ·right;left;omega
       ·by_cases hs0:s=a
        ·exact .inl hs0
        ·right;right
         have q3:(!eI (P++(A++(B++R))) (mid+m - 1 - (s - 1)) (s - 1))=true:=q3
         rw [show mid+m - 1 - (s - 1)=mid+m - s by omega] at q3;simpa using q3
     ·obtain ⟨q1,q2,q3,q4⟩:=nv (fun c=>!eI (P++(A++(B++R))) (mid+m - 1 - c) c) (m - a) a m (Nat.le_refl _) aa
      generalize iH (fun c=>!eI (P++(A++(B++R))) (mid+m - 1 - c) c) a m=s at q1 q2 q3 q4
      refine ⟨aa,aa,aa,aa,?_,?_⟩
      ·rcases q4 with q4|q4
       ·exact .inl q4
       ·right;right;simpa using q4
      ·rcases q3 with q3|q3
       ·exact .inl q3
       ·by_cases hs0:s=a
        ·exact .inl hs0
        ·right;right
         have q3:(!eI (P++(A++(B++R))) (mid+m - 1 - (s - 1)) (s - 1))=true:=q3
         rw [show mid+m - 1 - (s - 1)=mid+m - s by omega] at q3;simpa using q3
    obtain ⟨s,hs0,hs1,hs2,hs3,hs4,hs5,hs6⟩:=hs
    dsimp only
    rw [hs0,<-hmid]
    obtain ⟨A1,U,rfl,hA1⟩:=qC A (s - a) aa
    rw [List.length_append] at hem heb ha hf
    obtain ⟨V,B2,rfl,hV⟩:=qC B (mid+m - s - m) aa
    rw [List.length_append] at heb hb hf
    have gA:∀ k,k < A1.length+U.length->(P++(A1++U++(V++B2++R)))[a+k]?=(A1++U)[k]?:=fun k hk=>by
     rw [pG (k:=k) aa,List.getElem?_append_left fa]
    have gB:∀ k,k < V.length+B2.length->(P++(A1++U++(V++B2++R)))[m+k]?=(V++B2)[k]?:=fun k hk=>by
     rw [pG (k:=A1.length+U.length+k) aa,pG (k:=k) ca,List.getElem?_append_left fa]
    obtain ⟨a1,a2,a3⟩:=jJ.1 sA
    obtain ⟨b1,b2,b3⟩:=jJ.1 sB
    have w1:∀ x∈U,∀ y∈V,ju y x=true:=by
     intro x hx y hy
     have hU:0 < U.length:=List.length_pos_of_mem hx
     have hVp:0 < V.length:=List.length_pos_of_mem hy
     rcases hs5 with h5|h5|h5
     ·omega
     ·omega
     ·obtain ⟨v,hv⟩:=get_some (V:=V) (k:=V.length - 1) aa
      obtain ⟨u,hu⟩:=get_some (V:=U) (k:=0) hU
      have g1:=gB (V.length - 1) aa
      rw [List.getElem?_append_left (l₁:=V) aa,hv,show m+(V.length - 1)=mid+m - 1 - s by omega] at g1
      have g2:=gA A1.length aa
      rw [List.getElem?_append_right (l₁:=A1) (Nat.le_refl _),Nat.sub_self,hu,show a+A1.length=s by omega] at g2
      rw [iT g1 g2] at h5
      exact yE (DC (yG b1 hv y hy) h5) (xd a2 hu x hx)
    have w2:∀ x∈A1,∀ y∈B2,gP x y:=by
     intro x hx y hy
     have hAp:0 < A1.length:=List.length_pos_of_mem hx
     have hBp:0 < B2.length:=List.length_pos_of_mem hy
     rcases hs6 with h6|h6|h6
     ·omega
     ·omega
     ·obtain ⟨v,hv⟩:=get_some (V:=A1) (k:=A1.length - 1) aa
      obtain ⟨u,hu⟩:=get_some (V:=B2) (k:=0) hBp
      have g1:=gB V.length aa
      rw [List.getElem?_append_right (l₁:=V) (Nat.le_refl _),Nat.sub_self,hu,show m+V.length=mid+m - s by omega] at g1
      have g2:=gA (A1.length - 1) aa
      rw [List.getElem?_append_left (l₁:=A1) aa,hv,show a+(A1.length - 1)=s - 1 by omega] at g2
      rw [iT g1 g2] at h6
      exact mD (yG a1 hv x hx) (mD (sS.1 h6) (xd b2 hu y hy))
    have hr:gw s m (mid+m - s) (P++(A1++U++(V++B2++R)))=P++(A1++(V++(U++(B2++R)))):=by
     unfold gw
     have e0:P++(A1++U++(V++B2++R))=P++A1++(U++(V++(B2++R))):=by simp
     split
     ·have:=vN (U.length+V.length) (P++A1) U V (B2++R) m (Nat.le_refl _) aa aa fa
      rw [show m - s=U.length by omega,show mid+m - s - m=V.length by omega,e0,this];simp
     ·rcases (by omega:U.length=0\/V.length=0) with hz|hz
      ·obtain rfl:=List.eq_nil_of_length_eq_zero hz;simp
      ·obtain rfl:=List.eq_nil_of_length_eq_zero hz;simp
    rw [hr]
    have hL:∃ C1,(if a < s/\s < mid then eM f a s mid (P++(A1++(V++(U++(B2++R))))) else P++(A1++(V++(U++(B2++R)))))=P++(C1++(U++(B2++R)))/\fN C1/\Same (A1++V) C1:=by
     split
     ·obtain ⟨C1,c1,c2,c3⟩:=tM f P A1 V (U++(B2++R)) aa aa aa a1 b1
      rw [<-hea,show a+A1.length=s by omega,show s+V.length=mid by omega] at c1
      exact ⟨C1,c1,c2,c3⟩
     ·rcases (by omega:A1.length=0\/V.length=0) with hz|hz
      ·obtain rfl:=List.eq_nil_of_length_eq_zero hz;exact ⟨V,ca,b1,Same.refl _⟩
      ·obtain rfl:=List.eq_nil_of_length_eq_zero hz;exact ⟨A1,ca,a1,by rw [List.append_nil];exact Same.refl _⟩
    obtain ⟨C1,c1,c2,c3⟩:=hL
    rw [c1]
    have hc1:C1.length=A1.length+V.length:=by rw [<-c3.len,List.length_append]
    have hR:∃ C2,(if mid < mid+m - s/\mid+m - s < b then eM f mid (mid+m - s) b (P++(C1++(U++(B2++R)))) else P++(C1++(U++(B2++R))))=P++(C1++(C2++R))/\fN C2/\Same (U++B2) C2:=by
     split
     ·obtain ⟨C2,d1,d2,d3⟩:=tM f (P++C1) U B2 R aa aa aa a2 b2
      rw [List.length_append,show P.length+C1.length=mid by omega,show mid+U.length=mid+m - s by omega,show mid+m - s+B2.length=b by omega] at d1
      exact ⟨C2,by simpa using d1,d2,d3⟩
     ·rcases (by omega:U.length=0\/B2.length=0) with hz|hz
      ·obtain rfl:=List.eq_nil_of_length_eq_zero hz;exact ⟨B2,ca,b2,Same.refl _⟩
      ·obtain rfl:=List.eq_nil_of_length_eq_zero hz;exact ⟨U,ca,a2,by rw [List.append_nil];exact Same.refl _⟩
    obtain ⟨C2,d1,d2,d3⟩:=hR
    refine ⟨C1++C2,by rw [d1];simp,jJ.2 ⟨c2,d2,?_⟩,?_⟩
    ·intro x hx y hy
     rcases List.mem_append.1 (c3.mem.2 hx) with hx|hx
     ·rcases List.mem_append.1 (d3.mem.2 hy) with hy|hy
      ·exact a3 x hx y hy
      ·exact w2 x hx y hy
     ·rcases List.mem_append.1 (d3.mem.2 hy) with hy|hy
      ·exact nM (w1 y hy x hx)
      ·exact b3 x hx y hy
    ·have e1:Same (A1++U++(V++B2)) (A1++(V++(U++B2))):=by
      have:=(Same.refl A1).app ((Same.comm w1).app (Same.refl B2))
      simpa using this
     have e2:=c3.app d3
     rw [List.append_assoc] at e2
     exact e1.trans e2
theorem CZ {f:Nat} {d:List ar} {a m b:Nat} (h1:a < m) (h2:m < b) (h3:b<=d.length) (hf:b - a<=f) (sA:fN ((d.drop a).take (m - a))) (sB:fN ((d.drop m).take (b - m))):Part d (eM f a m b d) a b:=by
 have e1:=parts (d:=d) (a:=a) (b:=b) aa h3
 have e2:(d.drop a).take (b - a)=(d.drop a).take (m - a)++(d.drop m).take (b - m):=by
  rw [show b - a=(m - a)+(b - m) by omega,List.take_add,List.drop_drop,show a+(m - a)=m by omega]
 have l1:(d.take a).length=a:=by rw [List.length_take];omega
 have l2:((d.drop a).take (m - a)).length=m - a:=by rw [List.length_take,List.length_drop];omega
 have l3:((d.drop m).take (b - m)).length=b - m:=by rw [List.length_take,List.length_drop];omega
 obtain ⟨C,c1,c2,c3⟩:=tM f (d.take a) ((d.drop a).take (m - a)) ((d.drop m).take (b - m)) (d.drop b) aa aa aa sA sB
 rw [l1,l2,l3,show a+(m - a)=m by omega,show m+(b - m)=b by omega] at c1
 rw [<-e2] at c3
 rw [e2] at e1
 have e3:d.take a++((d.drop a).take (m - a)++((d.drop m).take (b - m)++d.drop b))=d:=by rw [<-List.append_assoc,<-List.append_assoc,List.append_assoc (d.take a)];exact e1.symm
 rw [e3] at c1
 have:=Part.of (P:=d.take a) (X:=(d.drop a).take (b - a)) (C:=C) (R:=d.drop b) (a:=a) (b:=b) l1 (by rw [List.length_take,List.length_drop];omega) c2 c3
 rwa [e2,<-e1,List.append_assoc,<-c1] at this
theorem vx {p:Nat->Bool} {i j h R:Nat} (hb:iH p i j=R) (hij:i < j) (hh:h=(i+j) / 2) (hp:p h=true):iH p (h+1) j=R:=by
 subst hh;rw [<-hb,GG hij hp]
theorem vy {p:Nat->Bool} {i j h R:Nat} (hb:iH p i j=R) (hij:i < j) (hh:h=(i+j) / 2) (hp:p h=false):iH p i h=R:=by
 subst hh;rw [<-hb,GH hij hp]
theorem fg {f a m b mid s e:Nat} {d d1 d2 d3:List ar} (h0:¬m - a=1) (h1:¬b - m=1) (hm:mid=(a+b) / 2) (hs:fB d a m b=s) (he:mid+m - s=e) (hd1:gw s m e d=d1)
  (hd2:(if a < s/\s < mid then eM f a s mid d1 else d1)=d2) (hd3:(if mid < e/\e < b then eM f mid e b d2 else d2)=d3):eM (f+1) a m b d=d3:=by
 subst hm he hd1 hd2 hd3 hs
 rw [eM.eq_2,if_neg h0,if_neg h1]
def kZ:List ar->ar->List ar
 |[],r=>[r]
 |x::l,r=>if ju r x=true then r::x::l else x::kZ l r
def iI (l:List ar):List ar:=l.foldl kZ []
theorem yJ {r z:ar}:∀ {l:List ar},z∈kZ l r↔z=r\/z∈l
 |[]=>by simp [kZ]
 |x::l=>by
  unfold kZ
  split
  ·simp
  ·rw [List.mem_cons,yJ,List.mem_cons]
   constructor
   ·rintro (h|h|h)
    ·exact .inr (.inl h)
    ·exact .inl h
    ·exact .inr (.inr h)
   ·rintro (h|h|h)
    ·exact .inr (.inl h)
    ·exact .inl h
    ·exact .inr (.inr h)
theorem yI {r:ar}:∀ {l:List ar},fN l->fN (kZ l r)
 |[],_=>List.pairwise_singleton _ _
 |x::l,h=>by
  obtain ⟨h1,h2⟩:=List.pairwise_cons.1 h
  unfold kZ
  split
  ·rename_i hc
   exact List.pairwise_cons.2 ⟨fun z hz=>by
    rcases List.mem_cons.1 hz with rfl|hz
    ·exact nM hc
    ·exact mD (nM hc) (h1 z hz),h⟩
  ·rename_i hc
   have hc:gP x r:=sS.1 (by simpa using hc)
   exact List.pairwise_cons.2 ⟨fun z hz=>by
    rcases yJ.1 hz with rfl|hz
    ·exact hc
    ·exact h1 z hz,yI h2⟩
theorem wX {r:ar}:∀ {l:List ar},fN l->Same (l++[r]) (kZ l r)
 |[],_=>Same.refl _
 |x::l,h=>by
  obtain ⟨h1,h2⟩:=List.pairwise_cons.1 h
  unfold kZ
  split
  ·rename_i hc
   exact (Same.comm (u:=x::l) (v:=[r]) fun y hy z hz=>by
    rw [List.mem_singleton.1 hz]
    rcases List.mem_cons.1 hy with rfl|hy
    ·exact hc
    ·exact yE hc (h1 y hy))
  ·exact (Same.refl [x]).app (wX h2)
theorem ug:∀ (l acc:List ar),fN acc->fN (l.foldl kZ acc)/\Same (acc++l) (l.foldl kZ acc)
 |[],acc,h=>⟨h,by rw [List.append_nil];exact Same.refl _⟩
 |x::l,acc,h=>by
  obtain ⟨h1,h2⟩:=ug l (kZ acc x) (yI h)
  refine ⟨h1,?_⟩
  have h3:=((wX (r:=x) h).app (Same.refl l)).trans h2
  simpa using h3
theorem wC (l:List ar):fN (iI l):=(ug l [] List.Pairwise.nil).1
theorem ou (l:List ar):Same l (iI l):=(ug l [] List.Pairwise.nil).2
theorem BM {l d:List ar} (h:fN d) (h':Same l d):iI l=d:=fN.uniq (wC l) h ((ou l).symm.trans h')
theorem rH (l:List ar):(iI l).length=l.length:=(ou l).len.symm
theorem Dd {l:List ar} (h:l.length=0):iI l=l:=by obtain rfl:=List.eq_nil_of_length_eq_zero h;rfl
def mA (d:List ar) (a s:Nat):List ar:=(d.drop a).take s
def wj (s a:Nat) (d:List ar):Prop:=(∃ q,a=q * s)/\∀ k,(k+1) * s<=a->fN (mA d (k * s) s)
def wi (s:Nat) (d:List ar):Prop:=∀ k,fN (mA d (k * s) s)
def qa (s a:Nat) (d:List ar):Prop:=wj (2 * s) a d/\∀ k,a<=k * s->fN (mA d (k * s) s)
theorem Part.HN {d y:List ar} {a b:Nat} (h:Part d y a b) {c s:Nat} (hc:c+s<=a):mA y c s=mA d c s:=by
 have e:∀ z:List ar,mA z c s=((z.take a).drop c).take s:=fun z=>by
  unfold mA;rw [List.drop_take,List.take_take,Nat.min_eq_left aa]
 rw [e y,e d,h.l]
theorem Part.KP {d y:List ar} {a b:Nat} (h:Part d y a b) {c s:Nat} (hc:b<=c):mA y c s=mA d c s:=by
 have e:∀ z:List ar,mA z c s=((z.drop b).drop (c - b)).take s:=fun z=>by
  unfold mA;rw [List.drop_drop,show b+(c - b)=c by omega]
 rw [e y,e d,h.r]
theorem AH {d:List ar} {a s:Nat} (h:d.length<=a):mA d a s=[]:=by unfold mA;rw [List.drop_of_length_le h];simp
theorem vL {d:List ar} {a s t:Nat} (hs:d.length<=a+s) (ht:d.length<=a+t):mA d a s=mA d a t:=by
 unfold mA;rw [List.take_of_length_le (by rw [List.length_drop];omega),List.take_of_length_le (by rw [List.length_drop];omega)]
theorem AE:fN []:=List.Pairwise.nil
theorem GY {k q s:Nat} (h:(k+1) * s<=q * s+s) (hs:0 < s):k<=q:=by
 rw [<-Nat.succ_mul] at h
 have:=Nat.le_of_mul_le_mul_right h hs
 omega
theorem vp {s:Nat} (hs:0 < s) {d:List ar}:wj s 0 d:=⟨⟨0,ca⟩,fun k h=>by rw [Nat.succ_mul] at h;omega⟩
theorem xh {s a:Nat} {d y:List ar} (hs:0 < s) (h:wj s a d) (p:Part d y a (a+s)):wj s (a+s) y:=by
 obtain ⟨⟨q,hq⟩,h2⟩:=h
 refine ⟨⟨q+1,by rw [Nat.succ_mul,hq]⟩,fun k hk=>?_⟩
 subst hq
 have hkq:=GY hk hs
 by_cases e:k=q
 ·subst e
  have:=p.s
  rw [Nat.add_sub_cancel_left] at this
  exact this
 ·have h3:(k+1) * s<=q * s:=Nat.mul_le_mul_right s aa
  rw [p.HN (by rw [Nat.succ_mul] at h3;exact h3)]
  exact h2 k h3
theorem zm {s a:Nat} {d y:List ar} (hs:0 < s) (h:wj s a d) (ha:a<=y.length) (p:Part d y a y.length) (hn:y.length<=a+s):wi s y:=by
 obtain ⟨⟨q,rfl⟩,h2⟩:=h
 intro k
 rcases Nat.lt_trichotomy k q with e|e|e
 ·have h3:(k+1) * s<=q * s:=Nat.mul_le_mul_right s aa
  rw [p.HN (by rw [Nat.succ_mul] at h3;exact h3)]
  exact h2 k h3
 ·subst e
  have h3:=p.s
  rw [vL (t:=y.length - k * s) hn aa]
  exact h3
 ·have h3:(q+1) * s<=k * s:=Nat.mul_le_mul_right s aa
  rw [Nat.succ_mul] at h3
  rw [AH aa];exact AE
theorem EJ {s:Nat} {d:List ar} (h:wi s d) (hs:d.length<=s):fN d:=by
 have:=h 0
 unfold mA at this
 rw [Nat.zero_mul,List.drop_zero,List.take_of_length_le hs] at this
 exact this
theorem Cf {s:Nat} (hs:0 < s) {d:List ar} (h:wi s d):qa s 0 d:=⟨vp aa,fun k _=>h k⟩
theorem qa.mul {s a:Nat} {d:List ar} (h:qa s a d):∃ k,a=k * s:=by
 obtain ⟨q,hq⟩:=h.1.1
 exact ⟨q * 2,by rw [hq,Nat.mul_assoc]⟩
theorem Fe {s a:Nat} {d:List ar} (h:qa s a d):fN (mA d a s)/\fN (mA d (a+s) s):=by
 obtain ⟨k,hk⟩:=h.mul
 refine ⟨?_,?_⟩
 ·have:=h.2 k aa;rwa [<-hk] at this
 ·have:=h.2 (k+1) (by rw [Nat.succ_mul];omega);rwa [Nat.succ_mul,<-hk] at this
theorem DO {s a:Nat} {d y:List ar} (hs:0 < s) (h:qa s a d) (p:Part d y a (a+2 * s)):qa s (a+2 * s) y:=
 ⟨xh aa h.1 p,fun k hk=>by rw [p.KP hk];exact h.2 k aa⟩
theorem Ff {s a:Nat} {d y:List ar} (hs:0 < s) (h:qa s a d) (ha:a<=y.length) (p:Part d y a y.length) (hn:y.length<=a+2 * s):wi (s * 2) y:=by
 rw [Nat.mul_comm];exact zm aa h.1 ha p hn
theorem DP {s a:Nat} {d:List ar} (hs:0 < s) (h:qa s a d) (hn:d.length<=a+s):wi (s * 2) d:=by
 rw [Nat.mul_comm]
 obtain ⟨⟨⟨q,rfl⟩,h2⟩,h3⟩:=h
 intro k
 rcases Nat.lt_trichotomy k q with e|e|e
 ·exact h2 k (Nat.mul_le_mul_right _ aa)
 ·subst e
  rw [vL (t:=s) aa hn]
  have:=h3 (k * 2) (by rw [Nat.mul_assoc];omega)
  rwa [Nat.mul_assoc] at this
 ·have h4:(q+1) * (2 * s)<=k * (2 * s):=Nat.mul_le_mul_right _ aa
  rw [Nat.succ_mul] at h4
  rw [AH aa];exact AE
theorem yc {s a b:Nat} {d:List ar} (hs:0 < s) (h:qa s a d) (h1:a+s < b) (h2:b<=d.length) (h3:b=a+2 * s\/(b=d.length/\b<=a+2 * s)):Part d (eM (b - a) a (a+s) b d) a b:=by
 obtain ⟨s1,s2⟩:=Fe h
 refine CZ aa h1 h2 (Nat.le_refl _) ?_ ?_
 ·rw [Nat.add_sub_cancel_left];exact s1
 ·rcases h3 with h3|⟨h3,h4⟩
  ·rw [show b - (a+s)=s by omega];exact s2
  ·have:=vL (d:=d) (a:=a+s) (s:=s) (t:=b - (a+s)) aa aa
   show fN (mA d (a+s) (b - (a+s)))
   rw [<-this];exact s2
def ny (r:ar):Prop:=r.kind < 1\/r.kind > 8
def pj (r:ar):Prop:=r.au < 0\/r.au > 7\/r.ba < 0\/r.ba > 29\/r.sum < 1\/r.sum > 1000000
instance (r:ar):Decidable (ny r):=by unfold ny;infer_instance
instance (r:ar):Decidable (pj r):=by unfold pj;infer_instance
def oa:List ar->Int->cM
 |[],_=>⟨0,0⟩
 |r::l,i=>if ny r then ⟨1,i⟩ else if pj r then ⟨3,i⟩ else oa l (i+1)
def fL (l:List ar):cM:=if l.length > 100 then ⟨5,0⟩ else oa l 0
theorem mC {l:List ar} {q:Nat} {x:ar} (h:l[q]?=some x):oa (l.drop q) q=if ny x then ⟨1,q⟩ else if pj x then ⟨3,q⟩ else oa (l.drop (q+1)) ((q+1:Nat):Int):=by
 obtain ⟨hq,rfl⟩:=List.getElem?_eq_some_iff.1 h
 rw [List.drop_eq_getElem_cons hq];rfl
theorem wI {l:List ar} {q:Nat} {i:Int} (h:l.length<=q):oa (l.drop q) i=⟨0,0⟩:=by rw [List.drop_of_length_le h];rfl
def yx (r:ar):Prop:=¬ny r/\¬pj r
theorem AS:∀ {l:List ar} {i:Int},(oa l i).err=0↔∀ x∈l,yx x
 |[],i=>by simp [oa]
 |r::l,i=>by
  unfold oa
  split
  ·rename_i h
   simp only [List.mem_cons,forall_eq_or_imp]
   exact ⟨fun e=>absurd e cm,fun e=>absurd h e.1.1⟩
  ·split
   ·rename_i h
    simp only [List.mem_cons,forall_eq_or_imp]
    exact ⟨fun e=>absurd e cm,fun e=>absurd h e.1.2⟩
   ·rename_i h1 h2
    rw [AS]
    simp only [List.mem_cons,forall_eq_or_imp]
    exact ⟨fun e=>⟨⟨h1,h2⟩,e⟩,fun e=>e.2⟩
theorem wo {l:List ar}:(fL l).err=0↔l.length<=100/\∀ x∈l,yx x:=by
 unfold fL
 split
 ·exact ⟨fun e=>absurd e cm,fun e=>by omega⟩
 ·rw [AS];exact ⟨fun e=>⟨aa,e⟩,fun e=>e.2⟩
theorem Gp {x:ar} (h:yx x):0<=x.au/\x.au<=7/\0<=x.ba/\x.ba<=29/\1<=x.kind/\x.kind<=8/\1<=x.sum/\x.sum<=1000000:=by
 unfold yx ny pj at h;omega
theorem qA {l:List ar} {q:Nat} {x:ar} (h:l[q]?=some x):l.take (q+1)=l.take q++[x]:=by
 rw [List.take_add_one,h];rfl
def mX (n:Int):Nat->List Int
 |0=>[]
 |k+1=>n / 256 ^ k % 256::mX n k
theorem sY (n:Int):∀ k,(mX n k).length=k
 |0=>rfl
 |k+1=>by unfold mX;rw [List.length_cons,sY n k]
theorem FV {n:Int} {k:Nat} (h:1<=k):mX n k=n / 256 ^ (k - 1) % 256::mX n (k - 1):=by
 obtain ⟨j,rfl⟩:∃ j,k=j+1:=⟨k - 1,aa⟩
 rfl
theorem LW (n:Int):mX n 3=[n / 65536 % 256,n / 256 % 256,n % 256]:=by simp [mX]
theorem LV (n:Int):mX n 4=[n / 16777216 % 256,n / 65536 % 256,n / 256 % 256,n % 256]:=by simp [mX]
theorem GU (k:Nat):(2:Int) ^ (8 * k)=256 ^ k:=by rw [Int.pow_mul];rfl
theorem KO {k:Nat} {b n:Int} (h1:1<=k) (hb:b=8 * ((k:Int) - 1)):n / 2 ^ b.toNat=n / 256 ^ (k - 1):=by
 subst hb
 rw [show (8 * ((k:Int) - 1)).toNat=8 * (k - 1) by omega,GU]
def vO (x:ar):List Int:=[x.au % 256,x.ba % 256,x.kind % 256]++mX x.sum 3
def nW:List ar->Int
 |[]=>0
 |x::l=>x.sum+nW l
theorem EI (u v:List ar):nW (u++v)=nW u+nW v:=by
 induction u with
 |nil=>simp [nW]
 |cons x u ih=>simp only [List.cons_append,nW,ih];omega
theorem wy {l:List ar} {q:Nat} {x:ar} (h:l[q]?=some x):nW (l.take (q+1))=nW (l.take q)+x.sum:=by
 rw [qA h,EI];simp [nW]
def nE (l r:List ar):List Int:=((l.length:Int) % 256)::r.flatMap vO
theorem ve {l r:List ar} {q:Nat} {x:ar} (h:r[q]?=some x):nE l (r.take (q+1))=nE l (r.take q)++vO x:=by
 unfold nE;rw [qA h,List.flatMap_append];simp
theorem ER (x:ar):(vO x).length=6:=by unfold vO;rw [List.length_append,sY];rfl
theorem xb (l r:List ar):(nE l r).length=1+6 * r.length:=by
 unfold nE
 rw [List.length_cons]
 induction r with
 |nil=>rfl
 |cons x r ih=>rw [List.flatMap_cons,List.length_append,ER,List.length_cons];omega
def iy (l:List ar):List Int×cM:=if (fL l).err=0 then (nE l (iI l)++mX (nW (iI l)) 4,⟨0,0⟩) else ([],fL l)
def yK (l:List ar):List ar:=l.foldl kZ []
theorem mE {l:List ar} {q:Nat} {x:ar} (h:l[q]?=some x):yK (l.take (q+1))=kZ (yK (l.take q)) x:=by
 unfold yK;rw [qA h,List.foldl_append];rfl
theorem nn (l:List ar):fN (yK l):=wC l
theorem nm : ∀ {m : List ar} {a : Nat} {x : ar}, a ≤ m.length → fN m → (∀ i y, a ≤ i → m[i]? = some y → ju x y = true) → (∀ y, 0 < a → m[a - 1]? = some y → gP y x) → kZ m x = m.take a ++ [x] ++ m.drop a
  | [], a, x, ha, _, _, _ => by have : a = 0 := by simpa using ha
                                subst this; rfl
  | y :: m, 0, x, _, _, h, _ => by
    have := h 0 y (Nat.le_refl _) rfl
    unfold kZ; rw [if_pos this]; rfl
  | y :: m, a + 1, x, ha, hs, h, h' => by
    obtain ⟨s1, s2⟩ := List.pairwise_cons.1 hs
    have hy : gP y x := by
      by_cases h0 : a = 0
      · subst h0; exact h' y aa rfl
      · have hlt : a - 1 < m.length := by simp at ha; omega
        have h2 : (y :: m)[a + 1 - 1]? = some m[a - 1] := by
          rw [show a + 1 - 1 = (a - 1) + 1 by omega, List.getElem?_cons_succ, List.getElem?_eq_getElem hlt]
        exact mD (s1 _ (List.getElem_mem hlt)) (h' _ aa h2)
    unfold kZ
    rw [if_neg (by rw [sS.2 hy]; exact Bool.false_ne_true), nm (a := a) (by simpa using ha) s2 (fun i z hi hz => h (i + 1) z aa (by simpa using hz)) (fun z h0 hz => h' z aa (by
      rw [show a + 1 - 1 = (a - 1) + 1 by omega, List.getElem?_cons_succ]; exact hz))]
    rfl
def cp (e err:Int):Int:=if e=0 then err else e
def dp (l:List Entry) (e src dst n:Int):List Entry×Int:=
 if cp e (jQ l src dst n).2=0 then ((jQ l src dst n).1,0) else (l,cp e (jQ l src dst n).2)
def cP (l:List bF) (e k held bB:Int):List bF×Int:=
 match l[k.toNat]? with
 |none=>(l,e)
 |some c=>if cp e (eg c held bB).2=0 then (l.set k.toNat (eg c held bB).1,0) else (l,cp e (eg c held bB).2)
def ej (s:bK) (e:Int) (t:aZ):bK×Int:=if cp e (gL s t).2=0 then ((gL s t).1,0) else (s,cp e (gL s t).2)
def kP (l:List ar) (e:Int) (r:ar):List ar×Int:=if l.length=100 then (l,cp e 5) else (l++[r],e)
theorem my {l:List bF} {e k held bB:Int} {c:bF} (h:l[k.toNat]?=some c):cP l e k held bB=if cp e (eg c held bB).2=0 then (l.set k.toNat (eg c held bB).1,0) else (l,cp e (eg c held bB).2):=by
 unfold cP;rw [h]
def eD (an:List bG) (due:List Int) (ak:List bF) (book:List Entry) (e:Int) (t:aZ):List Int×List bF×List Entry×Int:=
 match an[t.ba.toNat]? with
 |none=>(due,ak,book,e)
 |some a=>
  if t.kind=1 then (due.set a.au.toNat (IntKind.i64.wrap (due.getD a.au.toNat 0+t.sum)),ak,dp book e 1 (50+a.au) t.sum)
  else if t.kind=2 then (due,(cP ak e a.aA 0 t.sum).1,dp book (cP ak e a.aA 0 t.sum).2 1 (10+a.aA) t.sum)
  else if t.kind=3 then (due.set a.au.toNat (IntKind.i64.wrap (due.getD a.au.toNat 0 - t.sum)),ak,dp book e (50+a.au) 2 t.sum)
  else (due,ak,book,e)
structure Bk where (time:Int) (down:Bool) (ak:List bF) (due:List Int) (an:List bG) (s0 s1:bK) (n0 n1:Int) (w0 w1:List bL) (aQ:cT) (aM:List ar) (book:List Entry)
 deriving DecidableEq
def eH (b c:Bk) (e:Int):Bk×Answer:=if e=0 then (c,⟨0,0⟩) else (b,⟨e,0⟩)
def iK (b:Bk) (d:bW):Bk×Answer:=
 if d.n < 0\/d.n>=b.ak.length then (b,⟨6,0⟩)
 else if d.sum < 1\/d.sum > 1000000 then (b,⟨3,0⟩)
 else eH b {b with ak:=(cP b.ak 0 d.n 0 d.sum).1,book:=(dp b.book (cP b.ak 0 d.n 0 d.sum).2 0 (10+d.n) d.sum).1} (dp b.book (cP b.ak 0 d.n 0 d.sum).2 0 (10+d.n) d.sum).2
def jT (b:Bk) (d:bW):Bk×Answer:=
 if d.n < 0\/d.n>=b.due.length then (b,⟨6,0⟩)
 else if b.due.getD d.n.toNat 0<=0 then (b,⟨10,0⟩)
 else eH b {b with due:=b.due.set d.n.toNat 0,book:=(dp b.book 0 (50+d.n) 0 (b.due.getD d.n.toNat 0)).1} (dp b.book 0 (50+d.n) 0 (b.due.getD d.n.toNat 0)).2
def fU (time:Int):List bG->Nat->List bF->List bG->Int->List bF×List bG×Int
 |[],_,ak,an,e=>(ak,an,e)
 |a::l,i,ak,an,e=>fU time l (i+1) (cP ak e a.aA (bE (dF a time) - bE a) 0).1 (an.set i (dF a time)) (cP ak e a.aA (bE (dF a time) - bE a) 0).2
def jG (b:Bk):Bk:=if (fU b.time b.an 0 b.ak b.an 0).2.2=0 then {b with ak:=(fU b.time b.an 0 b.ak b.an 0).1,an:=(fU b.time b.an 0 b.ak b.an 0).2.1} else b
def gN (b:Bk) (d:bW):Bk×Answer:=
 if d.sum < 0\/d.sum > 1000000 - b.time then (b,⟨3,0⟩)
 else (if b.down=true then {b with time:=b.time+d.sum} else jG {b with time:=b.time+d.sum},⟨0,0⟩)
def ka (l:List bL) (ks:List aZ) (n:Int):List bL:=l++ks.map (fun t=>⟨t,-1⟩)++[⟨⟨0,0,0,0⟩,n⟩]
def lW (w:List bL) (ks:List aZ) (n:Int):List bL×Answer:=if (ka w ks n).length > 60 then (w,⟨5,0⟩) else (ka w ks n,⟨0,0⟩)
def fY (s0 s1:bK) (n0 n1:Int) (w0 w1:List bL) (d:bW):List bL×List bL×Answer:=
 if d.n=0 then (w0,lW w1 s0.kept n0) else if d.n=1 then ((lW w0 s1.kept n1).1,w1,(lW w0 s1.kept n1).2) else (w0,w1,⟨6,0⟩)
def kO (aM:List ar) (days:List (List Int)):List ar×List (List Int)×Answer:=
 if (iy aM).2.err≠0 then (aM,days,⟨(iy aM).2.err,0⟩) else ([],days++[(iy aM).1],⟨0,0⟩)
def gO (e:Int):Int:=if e=10 then 12 else e
def dw (b:Bk) (d:bW):Bk×Answer:=
 if d.n < 0\/d.n>=b.ak.length\/d.au < 0\/d.au>=b.due.length then (b,⟨6,0⟩)
 else if b.down=true then
  (if gO (cC b.aQ ⟨d.n,d.au,d.sum,b.time⟩).2=0/\(b.an.length:Int)+(cC b.aQ ⟨d.n,d.au,d.sum,b.time⟩).1.aH.length > 30 then (b,⟨5,0⟩)
  else if gO (cC b.aQ ⟨d.n,d.au,d.sum,b.time⟩).2≠0 then (b,⟨gO (cC b.aQ ⟨d.n,d.au,d.sum,b.time⟩).2,0⟩)
  else ({b with aQ:=(cC b.aQ ⟨d.n,d.au,d.sum,b.time⟩).1},⟨0,(b.an.length:Int)+(cC b.aQ ⟨d.n,d.au,d.sum,b.time⟩).1.aH.length - 1⟩))
 else if (dm d.n d.au d.sum b.time).2=0/\b.an.length=30 then (b,⟨5,0⟩)
 else if (dm d.n d.au d.sum b.time).2≠0 then (b,⟨(dm d.n d.au d.sum b.time).2,0⟩)
 else match b.ak[d.n.toNat]? with
  |none=>(b,⟨0,0⟩)
  |some c=>
   if (eh c d.sum b.time).2≠0 then (b,⟨(eh c d.sum b.time).2,0⟩)
   else ({b with ak:=b.ak.set d.n.toNat (eh c d.sum b.time).1,an:=b.an++[(dm d.n d.au d.sum b.time).1]},⟨0,b.an.length⟩)
theorem xA (s:cT) (a:ch):(cC s a).1.aH.length<=s.aH.length+1:=by
 unfold cC;(repeat' split)<;>simp [iB]
def jE (ak:List bF) (k:Int):Int:=
 match ak[k.toNat]? with
 |none=>0
 |some c=>c.bB - c.held
def eS (b:Bk) (a cu:bG) (d:bW):List bF×List Int×List Entry×bK×bK×Int:=
 if d.move=1\/d.move=4 then ((cP b.ak 0 a.aA (bE a - bE cu) 0).1,b.due,b.book,b.s0,b.s1,(cP b.ak 0 a.aA (bE a - bE cu) 0).2)
 else if d.move=2\/d.move=3 then
  ((cP b.ak 0 a.aA (bE a - bE cu) (0 - d.sum)).1,b.due,(dp b.book (cP b.ak 0 a.aA (bE a - bE cu) (0 - d.sum)).2 (10+a.aA) 1 d.sum).1,
   (ej b.s0 (dp b.book (cP b.ak 0 a.aA (bE a - bE cu) (0 - d.sum)).2 (10+a.aA) 1 d.sum).2 ⟨0,1,d.n,d.sum⟩).1,b.s1,
   (ej b.s0 (dp b.book (cP b.ak 0 a.aA (bE a - bE cu) (0 - d.sum)).2 (10+a.aA) 1 d.sum).2 ⟨0,1,d.n,d.sum⟩).2)
 else if d.move=5 then
  (b.ak,b.due.set a.au.toNat (IntKind.i64.wrap (b.due.getD a.au.toNat 0 - d.sum)),(dp b.book 0 (50+a.au) 1 d.sum).1,b.s0,(ej b.s1 (dp b.book 0 (50+a.au) 1 d.sum).2 ⟨0,2,d.n,d.sum⟩).1,(ej b.s1 (dp b.book 0 (50+a.au) 1 d.sum).2 ⟨0,2,d.n,d.sum⟩).2)
 else if d.move=6 then ((cP b.ak 0 a.aA 0 d.sum).1,b.due,(dp b.book (cP b.ak 0 a.aA 0 d.sum).2 2 (10+a.aA) d.sum).1,b.s0,b.s1,(dp b.book (cP b.ak 0 a.aA 0 d.sum).2 2 (10+a.aA) d.sum).2)
 else if d.move=7 then (b.ak,b.due,b.book,(ej b.s0 0 ⟨0,3,d.n,d.sum⟩).1,b.s1,(ej b.s0 0 ⟨0,3,d.n,d.sum⟩).2)
 else if d.move=8 then ((cP b.ak 0 a.aA 0 (0 - d.sum)).1,b.due,(dp b.book (cP b.ak 0 a.aA 0 (0 - d.sum)).2 (10+a.aA) 2 d.sum).1,b.s0,b.s1,(dp b.book (cP b.ak 0 a.aA 0 (0 - d.sum)).2 (10+a.aA) 2 d.sum).2)
 else (b.ak,b.due,b.book,b.s0,b.s1,0)
def pI (b:Bk) (a:bG) (d:bW) (r:List bF×List Int×List Entry×bK×bK×Int):Bk×Answer:=
 eH b { b with ak := r.1, due := r.2.1, book := r.2.2.1, s0 := r.2.2.2.1, s1 := r.2.2.2.2.1, aM := (kP b.aM r.2.2.2.2.2 ⟨a.au, d.n, d.move, d.sum⟩).1, an := b.an.set d.n.toNat a } (kP b.aM r.2.2.2.2.2 ⟨a.au, d.n, d.move, d.sum⟩).2
def eX (b:Bk) (d:bW):Bk×Answer:=
 if b.down=true then (b,⟨12,0⟩)
 else if d.n < 0\/d.n>=b.an.length then (b,⟨6,0⟩)
 else match b.an[d.n.toNat]? with
  |none=>(b,⟨0,0⟩)
  |some cu=>
   if (bV cu d.move d.sum).2≠0 then (b,⟨(bV cu d.move d.sum).2,0⟩)
   else if d.move=1/\d.sum > jE b.ak (bV cu d.move d.sum).1.aA then (b,⟨10,0⟩)
   else pI b (bV cu d.move d.sum).1 d (eS b (bV cu d.move d.sum).1 cu d)
theorem mb {a:bG} (h:0<=a.sum/\a.sum<=1000000/\0<=a.captured/\a.captured<=a.sum/\0<=a.bd/\0<=a.aX/\a.bd+a.aX<=a.captured/\0<=a.aA/\a.aA<=7/\0<=a.au/\a.au<=7/\0<=a.da/\a.da<=1000100):bI a=0:=by
 unfold bI;rw [if_neg aa,if_neg aa]
theorem gH {α:Type} {x b:α} {e:Int} (h:(x,e)=(b,(0:Int))):x=b/\e=0:=Prod.mk.inj h
theorem Ab {a b:bG} {k n:Int} (hw:bI a=0) (h1:1<=n) (h2:n<=1000000) (h:eK a k n=(b,0)):bI b=0/\b.aA=a.aA/\b.au=a.au:=by
 have hr:=dA hw
 unfold eK at h
 by_cases c1:a.shut=true
 ·rw [if_pos c1] at h;have:=(gH h).2;omega
 rw [if_neg c1] at h
 by_cases c2:k=1
 ·rw [if_pos c2] at h
  by_cases c3:n > 1000000 - a.sum
  ·rw [if_pos c3] at h;have:=(gH h).2;omega
  ·rw [if_neg c3] at h;obtain ⟨rfl,_⟩:=gH h
   exact ⟨mb (by dsimp only;omega),rfl,rfl⟩
 rw [if_neg c2] at h
 by_cases c3:n > a.sum - a.captured
 ·rw [if_pos c3] at h;have:=(gH h).2;omega
 rw [if_neg c3] at h
 by_cases c4:k=4
 ·rw [if_pos c4] at h;obtain ⟨rfl,_⟩:=gH h
  exact ⟨mb (by dsimp only;omega),rfl,rfl⟩
 ·rw [if_neg c4] at h;obtain ⟨rfl,_⟩:=gH h
  exact ⟨mb (by dsimp only;omega),rfl,rfl⟩
theorem lQ {a b:bG} {k n:Int} (h:bV a k n=(b,0)):bI a=0/\bI b=0/\b.aA=a.aA/\b.au=a.au/\1<=k/\k<=8/\1<=n/\n<=1000000:=by
 unfold bV at h
 by_cases c0:bI a≠0
 ·rw [if_pos c0] at h;exact absurd (gH h).2 c0
 rw [if_neg c0] at h
 have hw:bI a=0:=aa
 have hr:=dA hw
 by_cases c1:k < 1\/k > 8
 ·rw [if_pos c1] at h;have:=(gH h).2;omega
 rw [if_neg c1] at h
 by_cases c2:n < 1\/n > 1000000
 ·rw [if_pos c2] at h;have:=(gH h).2;omega
 rw [if_neg c2] at h
 have hb:bI b=0/\b.aA=a.aA/\b.au=a.au:=by
  by_cases k5:k=5
  ·rw [if_pos k5] at h
   by_cases c:n > a.captured - a.bd - a.aX
   ·rw [if_pos c] at h;have:=(gH h).2;omega
   ·rw [if_neg c] at h;obtain ⟨rfl,_⟩:=gH h;exact ⟨mb (by dsimp only;omega),rfl,rfl⟩
  rw [if_neg k5] at h
  by_cases k6:k=6
  ·rw [if_pos k6] at h
   by_cases c:n > a.captured - a.bd - a.aX
   ·rw [if_pos c] at h;have:=(gH h).2;omega
   ·rw [if_neg c] at h;obtain ⟨rfl,_⟩:=gH h;exact ⟨mb (by dsimp only;omega),rfl,rfl⟩
  rw [if_neg k6] at h
  by_cases k7:k=7
  ·rw [if_pos k7] at h
   by_cases c:n > a.aX
   ·rw [if_pos c] at h;have:=(gH h).2;omega
   ·rw [if_neg c] at h;obtain ⟨rfl,_⟩:=gH h;exact ⟨mb (by dsimp only;omega),rfl,rfl⟩
  rw [if_neg k7] at h
  by_cases k8:k=8
  ·rw [if_pos k8] at h
   by_cases c:n > a.aX
   ·rw [if_pos c] at h;have:=(gH h).2;omega
   ·rw [if_neg c] at h;obtain ⟨rfl,_⟩:=gH h;exact ⟨mb (by dsimp only;omega),rfl,rfl⟩
  rw [if_neg k8] at h
  by_cases c:(eK a k n).2≠0
  ·rw [if_pos c] at h;exact absurd (gH h).2 c
  ·rw [if_neg c] at h;exact Ab hw aa aa h
 exact ⟨hw,hb.1,hb.2.1,hb.2.2,aa,aa,aa,aa⟩
theorem xU {c:bF} (h:df c=0):-9223372036854775808<=c.bB - c.held/\c.bB - c.held<=9223372036854775807:=by
 have:=jB h;omega
def gS:List ch->List bF->List bG->List bF×List bG×Int
 |[],cs,xs=>(cs,xs,0)
 |x::l,cs,xs=>
  if (dm x.aA x.au x.sum x.time).2≠0 then (cs,xs,(dm x.aA x.au x.sum x.time).2)
  else match cs[x.aA.toNat]? with
   |none=>(cs,xs,0)
   |some c=>if (eB c x.sum).2≠0 then (cs,xs,(eB c x.sum).2) else gS l (cs.set x.aA.toNat (eB c x.sum).1) (xs++[(dm x.aA x.au x.sum x.time).1])
theorem tH {l:List ch} {q:Nat} {x:ch} {cs:List bF} {xs:List bG} (h:l[q]?=some x):gS (l.drop q) cs xs=
  if (dm x.aA x.au x.sum x.time).2≠0 then (cs,xs,(dm x.aA x.au x.sum x.time).2)
  else match cs[x.aA.toNat]? with
   |none=>(cs,xs,0)
   |some c=>if (eB c x.sum).2≠0 then (cs,xs,(eB c x.sum).2) else gS (l.drop (q+1)) (cs.set x.aA.toNat (eB c x.sum).1) (xs++[(dm x.aA x.au x.sum x.time).1]):=by
 obtain ⟨hq,rfl⟩:=List.getElem?_eq_some_iff.1 h
 rw [List.drop_eq_getElem_cons hq];rfl
def kK (b:Bk):Bk×Answer:=
 if b.down=false then (b,⟨8,0⟩)
 else if (dN b.aQ).2.2≠0 then (b,⟨(dN b.aQ).2.2,0⟩)
 else if (gS (dN b.aQ).2.1 b.ak b.an).2.2≠0 then (b,⟨(gS (dN b.aQ).2.1 b.ak b.an).2.2,0⟩)
 else (jG {b with ak:=(gS (dN b.aQ).2.1 b.ak b.an).1,an:=(gS (dN b.aQ).2.1 b.ak b.an).2.1,aQ:=(dN b.aQ).1,down:=false},⟨0,0⟩)
def iG (b:Bk) (d:bW):Bk×Answer:=
 match b.w0[0]? with
 |none=>(b,⟨6,0⟩)
 |some p=>
  if d.kind=7 then ({b with w0:=b.w0.drop 1},⟨0,0⟩)
  else if p.seen>=0 then (if (en b.s0 p.seen).2=0 then ({b with w0:=b.w0.drop 1,s0:=(en b.s0 p.seen).1},⟨0,0⟩) else (b,⟨(en b.s0 p.seen).2,0⟩))
  else if (jK b.n0 p.bD).2=true then
   eH b { b with w0 := b.w0.drop 1, n0 := (jK b.n0 p.bD).1, due := (eD b.an b.due b.ak b.book 0 p.bD).1, ak := (eD b.an b.due b.ak b.book 0 p.bD).2.1, book := (eD b.an b.due b.ak b.book 0 p.bD).2.2.1 } (eD b.an b.due b.ak b.book 0 p.bD).2.2.2
  else ({b with w0:=b.w0.drop 1,n0:=(jK b.n0 p.bD).1},⟨0,0⟩)
def iF (b:Bk) (d:bW):Bk×Answer:=
 match b.w1[0]? with
 |none=>(b,⟨6,0⟩)
 |some p=>
  if d.kind=7 then ({b with w1:=b.w1.drop 1},⟨0,0⟩)
  else if p.seen>=0 then (if (en b.s1 p.seen).2=0 then ({b with w1:=b.w1.drop 1,s1:=(en b.s1 p.seen).1},⟨0,0⟩) else (b,⟨(en b.s1 p.seen).2,0⟩))
  else if (jK b.n1 p.bD).2=true then
   eH b { b with w1 := b.w1.drop 1, n1 := (jK b.n1 p.bD).1, due := (eD b.an b.due b.ak b.book 0 p.bD).1, ak := (eD b.an b.due b.ak b.book 0 p.bD).2.1, book := (eD b.an b.due b.ak b.book 0 p.bD).2.2.1 } (eD b.an b.due b.ak b.book 0 p.bD).2.2.2
  else ({b with w1:=b.w1.drop 1,n1:=(jK b.n1 p.bD).1},⟨0,0⟩)
def db (b:Bk) (d:bW):Bk×Answer:=if d.n=0 then iG b d else if d.n=1 then iF b d else (b,⟨6,0⟩)
def fV (b:Bk) (days:List (List Int)) (d:bW):Bk×List (List Int)×Answer:=
 if d.kind=1 then ((iK b d).1,days,(iK b d).2)
 else if d.kind=2 then ((dw b d).1,days,(dw b d).2)
 else if d.kind=3 then ((eX b d).1,days,(eX b d).2)
 else if d.kind=4 then ((gN b d).1,days,(gN b d).2)
 else if d.kind=5 then ({b with w0:=(fY b.s0 b.s1 b.n0 b.n1 b.w0 b.w1 d).1,w1:=(fY b.s0 b.s1 b.n0 b.n1 b.w0 b.w1 d).2.1},days,(fY b.s0 b.s1 b.n0 b.n1 b.w0 b.w1 d).2.2)
 else if d.kind=6\/d.kind=7 then ((db b d).1,days,(db b d).2)
 else if d.kind=8 then (if b.down=true then (b,days,⟨8,0⟩) else ({b with down:=true},days,⟨0,0⟩))
 else if d.kind=9 then ((kK b).1,days,(kK b).2)
 else if d.kind=10 then ({b with aM:=(kO b.aM days).1},(kO b.aM days).2.1,(kO b.aM days).2.2)
 else if d.kind=11 then ((jT b d).1,days,(jT b d).2)
 else (b,days,⟨1,0⟩)
def hO (b:Bk) (days:List (List Int)) (told:List (Int×Answer)) (cl:Nat) (d:bW):Bk×List (List Int)×List (Int×Answer)×Nat×Answer:=
 if (gf told d.id).isSome=true/\d.id≠0 then (b,days,told,cl,(gf told d.id).getD ⟨0,0⟩)
 else ((fV b days d).1,(fV b days d).2.1,lC told d.id (fV b days d).2.2,if (gf told d.id).isSome then cl else cl+1,(fV b days d).2.2)
structure Setup where (cF:List ff) (gp cap:Int)
 deriving DecidableEq
def pU:List ff->Int->cM
 |[],_=>⟨0,0⟩
 |p::l,i=>if gd p≠0 then ⟨gd p,i⟩ else pU l (i+1)
theorem py {l:List ff} {q:Nat} {p:ff} (h:l[q]?=some p):pU (l.drop q) q=if gd p≠0 then ⟨gd p,q⟩ else pU (l.drop (q+1)) ((q+1:Nat):Int):=by
 obtain ⟨hq,rfl⟩:=List.getElem?_eq_some_iff.1 h
 rw [List.drop_eq_getElem_cons hq];rfl
def eC (s:Setup):cM:=
 if s.cF.length > 8\/s.gp < 0\/s.gp > 8 then ⟨5,0⟩ else if s.cap < 0\/s.cap > 1000000 then ⟨3,0⟩ else pU s.cF 0
def HS:Bk:=⟨0,false,[],[],[],⟨0,[]⟩,⟨0,[]⟩,0,0,[],[],⟨0,[],[]⟩,[],[]⟩
def pJ (p:ff):bF:=⟨0,0,p,[]⟩
def ke (s:Setup):Bk:=⟨0,false,s.cF.map pJ,List.replicate s.gp.toNat 0,[],⟨0,[]⟩,⟨0,[]⟩,0,0,[],[],(eL s.cap s.cF.length).1,[],[]⟩
def lY:List bW->Bk->List (List Int)->List (Int×Answer)->Nat->List Answer->Bk×List (List Int)×List Answer
 |[],b,days,_,_,out=>(b,days,out)
 |d::l,b,days,told,cl,out=>lY l (hO b days told cl d).1 (hO b days told cl d).2.1 (hO b days told cl d).2.2.1 (hO b days told cl d).2.2.2.1 (out++[(hO b days told cl d).2.2.2.2])
theorem ln {l:List bW} {q:Nat} {d:bW} {b:Bk} {days:List (List Int)} {told:List (Int×Answer)} {cl:Nat} {out:List Answer} (h:l[q]?=some d):
  lY (l.drop q) b days told cl out=lY (l.drop (q+1)) (hO b days told cl d).1 (hO b days told cl d).2.1 (hO b days told cl d).2.2.1 (hO b days told cl d).2.2.2.1 (out++[(hO b days told cl d).2.2.2.2]):=by
 obtain ⟨hq,rfl⟩:=List.getElem?_eq_some_iff.1 h
 rw [List.drop_eq_getElem_cons hq];rfl
def jO (s:Setup) (l:List bW):Bk×List (List Int)×List Answer×cM:=
 if (eC s).err≠0 then (HS,[],[],eC s) else if l.length > 150 then (HS,[],[],⟨5,0⟩)
 else ((lY l (ke s) [] [] 0 []).1,(lY l (ke s) [] [] 0 []).2.1,(lY l (ke s) [] [] 0 []).2.2,⟨0,0⟩)
theorem uY {time:Int} {l:List bG} {q:Nat} {a:bG} {ak:List bF} {an:List bG} {e:Int} (h:l[q]?=some a):fU time (l.drop q) q ak an e=
  fU time (l.drop (q+1)) (q+1) (cP ak e a.aA (bE (dF a time) - bE a) 0).1 (an.set q (dF a time)) (cP ak e a.aA (bE (dF a time) - bE a) 0).2:=by
 obtain ⟨hq,rfl⟩:=List.getElem?_eq_some_iff.1 h
 rw [List.drop_eq_getElem_cons hq];rfl
theorem fT (l:List bF) (e k held bB:Int):(cP l e k held bB).1.length=l.length:=by
 unfold cP
 split
 ·rfl
 ·split<;>simp
theorem qg {a:bG} {t:Int} (h:bI a=0):bI (dF a t)=0:=by
 unfold bI at h ⊢;unfold dF;exact h
theorem kB {a:bG} (h:bI a=0):0<=bE a/\bE a<=1000000:=by
 have:=dA h
 unfold bE;split<;>omega
structure cH (b:Bk):Prop where
 time:0<=b.time/\b.time<=1000000
 ak:b.ak.length<=8
 due:b.due.length<=8
 an:b.an.length+b.aQ.aH.length<=30
 aM:b.aM.length<=100
 w0:b.w0.length<=60
 w1:b.w1.length<=60
 perm:∀ a∈b.an,bI a=0/\0<=a.aA/\a.aA < b.ak.length/\0<=a.au/\a.au < b.due.length
 ku:∀ a∈b.aQ.aH,0<=a.aA/\a.aA < b.ak.length/\0<=a.au/\a.au < b.due.length
 k0:∀ t∈b.s0.kept,fb t.number/\0<=t.ba/\t.ba < b.an.length
 k1:∀ t∈b.s1.kept,fb t.number/\0<=t.ba/\t.ba < b.an.length
 right:∀ c∈b.ak,df c=0
 l0:b.s0.kept.length<=40
 l1:b.s1.kept.length<=40
 p0:∀ p∈b.w0,p.seen < 0->fb p.bD.number/\0<=p.bD.ba/\p.bD.ba < b.an.length
 p1:∀ p∈b.w1,p.seen < 0->fb p.bD.number/\0<=p.bD.ba/\p.bD.ba < b.an.length
 n0:0<=b.n0
 n1:0<=b.n1
 calm:b.down=false->b.aQ.aH=[]
theorem cH.tick {b:Bk} (h:cH b) {t:Int} (h0:0<=t) (h1:t<=1000000):cH {b with time:=t}:=
 ⟨⟨h0,h1⟩,h.ak,h.due,h.an,h.aM,h.w0,h.w1,h.perm,h.ku,h.k0,h.k1,h.right,h.l0,h.l1,h.p0,h.p1,h.n0,h.n1,h.calm⟩
def Dq (x:ff):Prop:=fb x.cw/\fb x.count/\fb x.sum
theorem BX:mS Tryz.prog 60 3 gE Dq:=⟨fun _=>rfl,fun H enc w base spare held n cs y h=>by
  obtain ⟨hl,m,hF⟩:=sq Tryz.underlying60 h
  obtain ⟨⟨a0,q0,r0⟩,hF⟩:=gm (o:=0) (o':=1) hF (iP eA) rfl aJ rfl
  obtain ⟨⟨a1,q1,r1⟩,hF⟩:=gm (o:=1) (o':=2) hF (iP eA) rfl aJ rfl
  obtain ⟨⟨a2,q2,r2⟩,hF⟩:=gm (o:=2) (o':=3) hF (iP eA) rfl aJ rfl
  exact ⟨⟨a0,a1,a2⟩,r0 _ (r1 _ (r2 _ (qW (hl.trans aJ)))),q0,q1,q2⟩⟩
def Dr (x:bW):Prop:=fb x.id/\fb x.kind/\fb x.n/\fb x.au/\fb x.move/\fb x.sum
theorem BZ:mS Tryz.prog 69 6 ek Dr:=⟨fun _=>rfl,fun H enc w base spare held n cs y h=>by
  obtain ⟨hl,m,hF⟩:=sq Tryz.underlying69 h
  obtain ⟨⟨a0,q0,r0⟩,hF⟩:=gm (o:=0) (o':=1) hF (iP eA) rfl aJ rfl
  obtain ⟨⟨a1,q1,r1⟩,hF⟩:=gm (o:=1) (o':=2) hF (iP eA) rfl aJ rfl
  obtain ⟨⟨a2,q2,r2⟩,hF⟩:=gm (o:=2) (o':=3) hF (iP eA) rfl aJ rfl
  obtain ⟨⟨a3,q3,r3⟩,hF⟩:=gm (o:=3) (o':=4) hF (iP eA) rfl aJ rfl
  obtain ⟨⟨a4,q4,r4⟩,hF⟩:=gm (o:=4) (o':=5) hF (iP eA) rfl aJ rfl
  obtain ⟨⟨a5,q5,r5⟩,hF⟩:=gm (o:=5) (o':=6) hF (iP eA) rfl aJ rfl
  exact ⟨⟨a0,a1,a2,a3,a4,a5⟩,r0 _ (r1 _ (r2 _ (r3 _ (r4 _ (r5 _ (qW (hl.trans aJ))))))),q0,q1,q2,q3,q4,q5⟩⟩
def Jr (x:Setup):List D:=[.r 3 (x.cF.map gE),dI x.gp,dI x.cap]
def GX (x:Setup):Prop:=((∀ y∈x.cF,Dq y)/\x.cF.length<=9223372036854775807)/\fb x.gp/\fb x.cap
theorem Aa:mS Tryz.prog 24 3 Jr GX:=⟨fun _=>rfl,fun H enc w base spare held n cs y h=>by
  obtain ⟨hl,m,hF⟩:=sq Tryz.underlying24 h
  obtain ⟨⟨a0,q0,r0⟩,hF⟩:=gm (o:=0) (o':=1) hF (tk nd aJ cm BX) rfl aJ rfl
  obtain ⟨⟨a1,q1,r1⟩,hF⟩:=gm (o:=1) (o':=2) hF (iP eA) rfl aJ rfl
  obtain ⟨⟨a2,q2,r2⟩,hF⟩:=gm (o:=2) (o':=3) hF (iP eA) rfl aJ rfl
  exact ⟨⟨a0,a1,a2⟩,r0 _ (r1 _ (r2 _ (qW (hl.trans aJ)))),q0,q1,q2⟩⟩
theorem EU:mS Tryz.prog 69 6 ek Dr:=BZ

def cf (b:Bk) (i j k m:Nat) (u v:CV):List CV:=[(cI b.time),(cB b.down),(.s i 0 6 b.ak.length),(.s j 0 1 b.due.length),(.s k 0 8 b.an.length),(cI b.s0.bj),(bX b.s0.kept),(cI b.s1.bj),(bX b.s1.kept),(cI b.n0),(cI b.n1),(dj b.w0),(dj b.w1),(cI b.aQ.cap),(dt b.aQ.used),(eo b.aQ.aH),(.s m 0 4 b.aM.length),u,(cE b.book),v]
def cL (x:Nat->Value):List CV:=[.d (.v (x 0)),.d (.v (x 1)),.d (.v (x 2)),.d (.v (x 3)),.d (.v (x 4)),.d (.v (x 5)),.d (.v (x 6)),.d (.v (x 7)),.d (.v (x 8)),.d (.v (x 9)),.d (.v (x 10)),.d (.v (x 11)),.d (.v (x 12)),.d (.v (x 13)),.d (.v (x 14)),.d (.v (x 15)),.d (.v (x 16)),.d (.v (x 17)),.d (.v (x 18)),.d (.v (x 19))]
def bY:List (Option CV):=[none,none,none,none,none,none,none,none,none,none,none,none,none,none,none,none,none,none,none,none]
def iW (b:Bk) (i j k m:Nat) (u v:Option CV):List (Option CV):=[some (cI b.time),some (cB b.down),some (.s i 0 6 b.ak.length),some (.s j 0 1 b.due.length),some (.s k 0 8 b.an.length),some (cI b.s0.bj),some (bX b.s0.kept),some (cI b.s1.bj),some (bX b.s1.kept),some (cI b.n0),some (cI b.n1),some (dj b.w0),some (dj b.w1),some (cI b.aQ.cap),some (dt b.aQ.used),some (eo b.aQ.aH),some (.s m 0 4 b.aM.length),u,some (cE b.book),v]
section
variable {fn:Func} {pin:List (Nat×cg)} {av:AV} {nb:List (Nat×AB)} {rs:List ResultVar} {gs:List GV} {s s':List (Nat×AV)} {h h' nb':List (Nat×AB)} {n:Nat}
theorem bb (ids:List Nat) (m:Nat) (hx:(fn.results.toList,rS s ids rs,rT h ids 0 ids,pS tt s' h' rs,pq m h',(aK.mk s' h' ids.length).uS (bp ids) pin)=(rs,some s',some h',some gs,some nb',true))
  (hav:ix gs=av:=by first|rfl|(simp [cq,cf,cL];done)|(simp [cq,cf,cL];omega)) (hnb:nb'=nb:=by first|rfl|(simp [cq,cf,cL];done)|(simp [cq,cf,cL];omega)):mj Tryz.prog fn pin av nb .ret ⟨s,h,n⟩:=aS ids m hx hav hnb
end


theorem zx (a b c:Int):Fn Tryz.prog 13 [(.g [(cI a),(cI b),(cI c)])] (aI (kp a b c)) []:=by
 refine Fn.mk' 31 [(0,(aG [(cI a),(cI b),(cI c)]))] Tryz.func13 rfl rfl rfl rfl ?_
 intro W0 T0
 refine ag 2 rfl (af (bQ 30 ((((((decide (a < 1))||(decide (a > 1000000)))||(decide (b < 0)))||(decide (b > 30)))||(decide (c < 0)))||(decide (c > 1000000000000))) ?_ ?_))
 ·
  refine ah (ad 4 rfl (bz 6 rfl (fun hb1'=>?_) (fun hb1'=>?_)))
  ·
   exact ad 24 rfl (ae (aq.pz 29 rfl))
  refine ad 5 rfl (bz 11 rfl (fun hb2'=>?_) (fun hb2'=>?_))
  ·
   exact ad 19 rfl (ae (aq.pz 30 rfl))
  refine ad 5 rfl (bz 16 rfl (fun hb3'=>?_) (fun hb3'=>?_))
  ·
   exact ad 14 rfl (ae (aq.pz 31 rfl))
  refine ad 5 rfl (bz 21 rfl (fun hb4'=>?_) (fun hb4'=>?_))
  ·
   exact ad 9 rfl (ae (aq.pz 32 rfl))
  refine ad 5 rfl (bz 26 rfl (fun hb5'=>?_) (fun hb5'=>?_))
  ·
   exact ad 4 rfl (ae (aq.pz 33 rfl))
  exact ad 4 rfl (ae (aq.pz 33 rfl))
 refine ax rfl (fun hc6=>?_) (fun hc6=>?_)
 ·
  have hc6':=hc6;try simp only [aT,bx] at hc6'
  refine ag 1 rfl (al (aj (ct bn [] 0 rfl rfl rfl rfl rfl rfl ?_ ?_)))
  ·(show aI _=aI _;unfold kp;rw [if_pos aa])
  ·rfl
 have hc6':=hc6;try simp only [aT,bx] at hc6'
 refine aD (ag 1 rfl (al (ct bn [] 0 rfl rfl rfl rfl rfl rfl ?_ ?_)))
 ·(show aI _=aI _;unfold kp;rw [if_neg aa])
 ·rfl
theorem vr (a b c:Int):Fn Tryz.prog 14 [(.g [(cI a),(cI b),(cI c)])] (aI (kp a b c)) []:=by
 refine Fn.mk' 31 [(0,(aG [(cI a),(cI b),(cI c)]))] Tryz.func14 rfl rfl rfl rfl ?_
 intro W0 T0
 refine ag 2 rfl (af (bQ 30 ((((((decide (a < 1))||(decide (a > 1000000)))||(decide (b < 0)))||(decide (b > 30)))||(decide (c < 0)))||(decide (c > 1000000000000))) ?_ ?_))
 ·
  refine ah (ad 4 rfl (bz 6 rfl (fun hb1'=>?_) (fun hb1'=>?_)))
  ·
   exact ad 24 rfl (ae (aq.pz 29 rfl))
  refine ad 5 rfl (bz 11 rfl (fun hb2'=>?_) (fun hb2'=>?_))
  ·
   exact ad 19 rfl (ae (aq.pz 30 rfl))
  refine ad 5 rfl (bz 16 rfl (fun hb3'=>?_) (fun hb3'=>?_))
  ·
   exact ad 14 rfl (ae (aq.pz 31 rfl))
  refine ad 5 rfl (bz 21 rfl (fun hb4'=>?_) (fun hb4'=>?_))
  ·
   exact ad 9 rfl (ae (aq.pz 32 rfl))
  refine ad 5 rfl (bz 26 rfl (fun hb5'=>?_) (fun hb5'=>?_))
  ·
   exact ad 4 rfl (ae (aq.pz 33 rfl))
  exact ad 4 rfl (ae (aq.pz 33 rfl))
 refine ax rfl (fun hc6=>?_) (fun hc6=>?_)
 ·
  have hc6':=hc6;try simp only [aT,bx] at hc6'
  refine ag 1 rfl (al (aj (ct bn [] 0 rfl rfl rfl rfl rfl rfl ?_ ?_)))
  ·(show aI _=aI _;unfold kp;rw [if_pos aa])
  ·rfl
 have hc6':=hc6;try simp only [aT,bx] at hc6'
 refine aD (ag 1 rfl (al (ct bn [] 0 rfl rfl rfl rfl rfl rfl ?_ ?_)))
 ·(show aI _=aI _;unfold kp;rw [if_neg aa])
 ·rfl

theorem Ap (l:List dh):Fn Tryz.prog 110 [(.c (eF l))] (aG [cI (cO l).1,cI (cO l).2]) []:=by
 refine Fn.mk' 53 [(0,(aC (eF l)))] Tryz.func110 rfl rfl rfl rfl ?_
 intro W0 T0
 refine dE 0 rfl (fun hlen0=>?_)
 refine ag 1 rfl (af (aw 1 rfl (az (cD rfl rfl fu) rfl (ad 1 rfl (ae (aO rfl (fun hc1'=>?_) (fun hc1'=>?_)))))))
 ·
  refine ag 2 rfl (al (aj (ct bn [0] 0 rfl rfl rfl rfl rfl rfl ?_ ?_)))
  ·(have h:cO l=(5,0):=by (unfold cO;rw [if_pos aa]));rw [h];rfl
  ·rfl
 refine aD (af (aw 1 rfl (az (cD rfl rfl fu) rfl (ad 1 rfl (ae (aL (cb (β:=Nat) (fun (q:Nat)=>⟨[(0,(aC (eF l))),(2,(aC (.p 0 0 0 0))),(9,(aC (eF l))),(10,(aI (↑l.length:Int))),(11,(aI (↑q:Int)))],[(0,(.box 47 [(cI 0),(cI 0)]))],1⟩) (fun (q:Nat)=>q<=l.length/\scan (kd l) 0 l.length=scan (kd l) q (l.length - q)) (fun (q:Nat)=>l.length - q) 0 ?_ ?_ ?_)))))))
 ·exact ⟨aa,rfl⟩
 ·exact aq.rz id
 rintro q ⟨hi0_0,hi0_1⟩
 refine ag 1 rfl (af (aO rfl (fun hc2'=>?_) (fun hc2'=>?_)))
 ·
  refine aD (af (aL (aw 1 rfl ?_)))
  obtain ⟨x1,hx1⟩:=bO (xs:=l) (i:=q) aa
  refine az (dO (i:=q) rfl rfl rfl fu gW (aV hx1)) rfl (ad 4 rfl (ae (af (bQ 33 ((((decide (x1.time < 0))||(decide (x1.time > 1000000)))||(decide (x1.sum < 0)))||(decide (x1.sum > 1000000))) ?_ ?_))))
  ·
   refine ah (ad 4 rfl (bz 19 rfl (fun hb3'=>?_) (fun hb3'=>?_)))
   ·
    exact ad 14 rfl (ae (aq.pz 19 rfl))
   refine ad 5 rfl (bz 24 rfl (fun hb4'=>?_) (fun hb4'=>?_))
   ·
    exact ad 9 rfl (ae (aq.pz 20 rfl))
   refine ad 5 rfl (bz 29 rfl (fun hb5'=>?_) (fun hb5'=>?_))
   ·
    exact ad 4 rfl (ae (aq.pz 21 rfl))
   exact ad 4 rfl (ae (aq.pz 21 rfl))
  refine ax rfl (fun hc6=>?_) (fun hc6=>?_)
  ·
   have hc6':=hc6;try simp only [aT,bx] at hc6'
   refine ag 3 rfl (al (aj (aY (aj (aj (aY (aj (ct bn [0] 0 rfl rfl rfl rfl rfl rfl ?_ ?_))))))))
   ·(have h:cO l=(3,(q:Int)):=by (unfold cO;rw [if_neg aa,hi0_1];exact gk aa (show kd l q=3 by (unfold kd;simp only [hx1];rw [if_pos aa])) cm));rw [h];rfl
   ·rfl
  have hc6':=hc6;try simp only [aT,bx] at hc6'
  refine aD (af ?_)
  rcases Bool.eq_false_or_eq_true (decide ((↑q:Int) > 0)) with hb7|hb7
  ·
   have hb7':=of_decide_eq_true hb7
   obtain ⟨x2,hx2⟩:=bO (xs:=l) (i:=(q) - 1) aa
   refine bg [0,2,9,10,11,4,3] [1,0] rfl (bC (kn:=[(37,true)]) bn 5 rfl ⟨hb7,trivial⟩ (cG (n':=2) [40,38] [] rfl rfl (.inl ⟨(aR.yes rfl rfl rfl),bm rfl rfl rfl (bH aa)⟩) rfl (cG (n':=2) [39,41,38] [] rfl rfl (.inl ⟨(aR.yes rfl rfl rfl),dO (i:=(q) - 1) rfl rfl rfl fu gW (aV hx2)⟩) rfl (aF 6 rfl (bf [1,0] rfl (ae (aO rfl (fun hc8'=>?_) (fun hc8'=>?_))))))))
   ·
    refine ag 3 rfl (al (aY (aj (aj (aY (aj (ct bn [0] 0 rfl rfl rfl rfl rfl rfl ?_ ?_)))))))
    ·(have h:cO l=(2,(q:Int)):=by (unfold cO;rw [if_neg aa,hi0_1];exact gk aa (show kd l q=2 by (unfold kd;simp only [hx1];rw [if_neg aa,if_pos (by refine ⟨aa,?_⟩;rw [List.getD_eq_getElem?_getD,hx2];simp only [Option.getD_some];omega)])) cm));rw [h];rfl
    ·rfl
   refine cv (aN (then_ok (ah (bl rfl rfl rfl rfl aa (ad 1 rfl (ae (⟨q+1,⟨aa,by rw [hi0_1];exact kD aa (by unfold kd;simp only [hx1];rw [if_neg aa,if_neg (by first|omega|(rw [List.getD_eq_getElem?_getD,hx2];simp only [Option.getD_some];omega))])⟩,bT,aq.rz id⟩)))))))
  have hb7':=of_decide_eq_false hb7
  refine bg [0,2,9,10,11,4,3] [1,0] rfl (bC (kn:=[(37,false)]) bn 13 rfl ⟨hb7,trivial⟩ (bf [1,0] rfl (ae (ax rfl (fun hno=>by cases hno) (fun _=>?_)))))
  refine cv (aN (then_ok (ah (bl rfl rfl rfl rfl aa (ad 1 rfl (ae (⟨q+1,⟨aa,by rw [hi0_1];exact kD aa (by unfold kd;simp only [hx1];rw [if_neg aa,if_neg (by first|omega|(rw [List.getD_eq_getElem?_getD,hx2];simp only [Option.getD_some];omega))])⟩,bT,aq.rz id⟩)))))))
 refine bR (aE (aE (bw (then_ok (ag 2 rfl (al (ct bn [0] 0 rfl rfl rfl rfl rfl rfl ?_ ?_)))))))
 ·(have h:cO l=(0,0):=by (unfold cO;rw [if_neg aa,hi0_1,kW aa]));rw [h];rfl
 ·rfl
theorem vq (l:List dh):Fn Tryz.prog 82 [(.c (eF l))] (aG [cI (cO l).1,cI (cO l).2]) []:=by
 refine Fn.mk' 49 [(0,(aC (eF l)))] Tryz.func82 rfl rfl rfl rfl ?_
 intro W0 T0
 refine dE 0 rfl (fun hlen0=>?_)
 refine ag 1 rfl (af (aw 1 rfl (az (cD rfl rfl fu) rfl (ad 1 rfl (ae (aO rfl (fun hc1'=>?_) (fun hc1'=>?_)))))))
 ·
  refine ag 2 rfl (al (aj (ct bn [0] 0 rfl rfl rfl rfl rfl rfl ?_ ?_)))
  ·(have h:cO l=(5,0):=by (unfold cO;rw [if_pos aa]));rw [h];rfl
  ·rfl
 refine aD (af (aw 1 rfl (az (cD rfl rfl fu) rfl (ad 1 rfl (ae (aL (cb (β:=Nat) (fun (q:Nat)=>⟨[(0,(aC (eF l))),(2,(aC (.p 0 0 0 0))),(9,(aC (eF l))),(10,(aI (↑l.length:Int))),(11,(aI (↑q:Int)))],[(0,(.box 47 [(cI 0),(cI 0)]))],1⟩) (fun (q:Nat)=>q<=l.length/\scan (kd l) 0 l.length=scan (kd l) q (l.length - q)) (fun (q:Nat)=>l.length - q) 0 ?_ ?_ ?_)))))))
 ·exact ⟨aa,rfl⟩
 ·exact aq.rz id
 rintro q ⟨hi0_0,hi0_1⟩
 refine ag 1 rfl (af (aO rfl (fun hc2'=>?_) (fun hc2'=>?_)))
 ·
  refine aD (af (aL (aw 1 rfl ?_)))
  obtain ⟨x1,hx1⟩:=bO (xs:=l) (i:=q) aa
  refine az (dO (i:=q) rfl rfl rfl fu gW (aV hx1)) rfl (ad 4 rfl (ae (af (bQ 29 (((decide (x1.time < 0))||(decide (x1.time > 1000000)))||(!(aT x1.sum))) ?_ ?_))))
  ·
   refine ah (ad 4 rfl (bz 19 rfl (fun hb3'=>?_) (fun hb3'=>?_)))
   ·
    exact ad 10 rfl (ae (aq.pz 15 rfl))
   refine ad 5 rfl (bz 24 rfl (fun hb4'=>?_) (fun hb4'=>?_))
   ·
    exact ad 5 rfl (ae (aq.pz 16 rfl))
   exact ad 2 rfl (kb 2 [1,0] (aR.yes rfl rfl rfl) (cA 2 (oC x1.sum) qX rfl) rfl (ad 2 rfl (ae (aq.pz 16 rfl))))
  refine ax rfl (fun hc5=>?_) (fun hc5=>?_)
  ·
   have hc5':=hc5;try simp only [aT,bx] at hc5'
   refine ag 3 rfl (al (aj (aY (aj (aj (aY (aj (ct bn [0] 0 rfl rfl rfl rfl rfl rfl ?_ ?_))))))))
   ·(have h:cO l=(3,(q:Int)):=by (unfold cO;rw [if_neg aa,hi0_1];exact gk aa (show kd l q=3 by (unfold kd;simp only [hx1];rw [if_pos aa])) cm));rw [h];rfl
   ·rfl
  have hc5':=hc5;try simp only [aT,bx] at hc5'
  refine aD (af ?_)
  rcases Bool.eq_false_or_eq_true (decide ((↑q:Int) > 0)) with hb6|hb6
  ·
   have hb6':=of_decide_eq_true hb6
   obtain ⟨x2,hx2⟩:=bO (xs:=l) (i:=(q) - 1) aa
   refine bg [0,2,9,10,11,4,3] [1,0] rfl (bC (kn:=[(33,true)]) bn 7 rfl ⟨hb6,trivial⟩ (cG (n':=2) [38,34] [] rfl rfl (.inl ⟨(aR.yes rfl rfl rfl),bm rfl rfl rfl (bH aa)⟩) rfl (cG (n':=2) [37,39,34] [] rfl rfl (.inl ⟨(aR.yes rfl rfl rfl),dO (i:=(q) - 1) rfl rfl rfl fu gW (aV hx2)⟩) rfl (aF 4 rfl (bf [1,0] rfl (ae (aO rfl (fun hc7'=>?_) (fun hc7'=>?_))))))))
   ·
    refine ag 3 rfl (al (aY (aj (aj (aY (aj (ct bn [0] 0 rfl rfl rfl rfl rfl rfl ?_ ?_)))))))
    ·(have h:cO l=(2,(q:Int)):=by (unfold cO;rw [if_neg aa,hi0_1];exact gk aa (show kd l q=2 by (unfold kd;simp only [hx1];rw [if_neg aa,if_pos (by refine ⟨aa,?_⟩;rw [List.getD_eq_getElem?_getD,hx2];simp only [Option.getD_some];omega)])) cm));rw [h];rfl
    ·rfl
   refine cv (aN (then_ok (ah (bl rfl rfl rfl rfl aa (ad 1 rfl (ae (⟨q+1,⟨aa,by rw [hi0_1];exact kD aa (by unfold kd;simp only [hx1];rw [if_neg aa,if_neg (by first|omega|(rw [List.getD_eq_getElem?_getD,hx2];simp only [Option.getD_some];omega))])⟩,bT,aq.rz id⟩)))))))
  have hb6':=of_decide_eq_false hb6
  refine bg [0,2,9,10,11,4,3] [1,0] rfl (bC (kn:=[(33,false)]) bn 13 rfl ⟨hb6,trivial⟩ (bf [1,0] rfl (ae (ax rfl (fun hno=>by cases hno) (fun _=>?_)))))
  refine cv (aN (then_ok (ah (bl rfl rfl rfl rfl aa (ad 1 rfl (ae (⟨q+1,⟨aa,by rw [hi0_1];exact kD aa (by unfold kd;simp only [hx1];rw [if_neg aa,if_neg (by first|omega|(rw [List.getD_eq_getElem?_getD,hx2];simp only [Option.getD_some];omega))])⟩,bT,aq.rz id⟩)))))))
 refine bR (aE (aE (bw (then_ok (ag 2 rfl (al (ct bn [0] 0 rfl rfl rfl rfl rfl rfl ?_ ?_)))))))
 ·(have h:cO l=(0,0):=by (unfold cO;rw [if_neg aa,hi0_1,kW aa]));rw [h];rfl
 ·rfl

theorem Az (l:List dh) (fn:FuncId) (bu:List (List D)) (pr:dh->Bool) (hp:∀ x:dh,Fn Tryz.prog fn ([.g [cI x.time,cI x.sum]]++bu.map fun r=>GV.c (.q r 0)) (aB (pr x)) []) (hen:bc Tryz.prog fn) (r:Int) (hr:jU pr l=r):Fn Tryz.prog 128 [(.c (eF l)),(.c (.d (.f fn bu)))] (.v (.c (cI r))) []:=by
 refine Fn.mk' 19 [(0,(aC (eF l))),(1,(aC (.d (.f fn bu))))] Tryz.func128 rfl rfl rfl rfl ?_
 intro W0 T0
 refine dE 0 rfl (fun hlen0=>?_)
 refine ag 1 rfl (af (aw 1 rfl (az (cD rfl rfl fu) rfl (ad 1 rfl (ae (aL (cb (β:=Nat) (fun (q:Nat)=>⟨[(0,(aC (eF l))),(1,(aC (.d (.f fn bu)))),(7,(aI (↑l.length:Int))),(8,(aI (↑q:Int)))],[],0⟩) (fun (q:Nat)=>q<=l.length/\(l.take q).all (fun y=>!pr y)=true) (fun (q:Nat)=>l.length - q) 0 ?_ ?_ ?_)))))))
 ·exact ⟨aa,ca⟩
 ·exact aq.rz id
 rintro q ⟨hi0_0,hi0_1⟩
 refine ag 1 rfl (af (aO rfl (fun hc1'=>?_) (fun hc1'=>?_)))
 ·
  refine aD (af (aL (ag 2 rfl (aw 3 rfl ?_))))
  obtain ⟨x1,hx1⟩:=bO (xs:=l) (i:=q) aa
  refine az (dO (i:=q) rfl rfl rfl fu gW (aV hx1)) rfl (ad 1 rfl (az (kl 0 (hp x1) hen rfl rfl rfl ⟨⟨_,rfl,.g ⟨.d _,.d _,trivial⟩⟩,trivial⟩ trivial trivial rfl rfl rfl rfl) rfl (ae (ax rfl (fun hc2=>?_) (fun hc2=>?_)))))
  ·
   have hc2':=hc2;try simp only [aT,bx] at hc2'
   refine ag 2 rfl (al (aY (aj (aj (aY (aj ?_))))))
   have hX:jU pr l=(↑q:Int):=by
     exact wY hi0_1 hx1 hc2
   rw [hX] at hr;clear hX
   subst hr
   exact aS [] 0 rfl
  have hc2':=hc2;try simp only [aT,bx] at hc2'
  refine cv (aN (then_ok (ah (bl rfl rfl rfl rfl aa (ad 1 rfl (ae (⟨q+1,⟨aa,zQ hi0_1 hx1 hc2⟩,bT,aq.rz id⟩)))))))
 refine bR (aE (aE (bw (then_ok (ag 1 rfl (al ?_))))))
 have hX:jU pr l=(-1):=by
   exact yN (by rw [<-List.take_of_length_le (l:=l) (i:=q) aa];exact hi0_1)
 rw [hX] at hr;clear hX
 subst hr
 exact aS [] 0 rfl
theorem zG (l:List dh) (fn:FuncId) (bu:List (List D)) (pr:dh->Bool) (hp:∀ x:dh,Fn Tryz.prog fn ([.g [cI x.time,cI x.sum]]++bu.map fun r=>GV.c (.q r 0)) (aB (pr x)) []) (hen:bc Tryz.prog fn) (r:List dh) (hr:ez pr l=r):cS Tryz.prog 119 [(.c (.s 0 0 2 l.length)),(.c (.d (.f fn bu)))] [(0,(nP l))] [] (.v (.c (.s 0 0 2 r.length))) [(0,(nP r))]:=by
 refine cS.mk 42 [(0,(aC (.s 0 0 2 l.length))),(1,(aC (.d (.f fn bu))))] 1 Tryz.func119 rfl rfl rfl rfl rfl rfl rfl rfl rfl ?_
 intro W0 F0 T0 pg
 refine jx 0 rfl (fun hlen0=>?_)
 have hic:=wZ pr l
 have hib:jU pr l<=l.length/\-1<=jU pr l:=by rcases hic with ⟨h,_⟩|⟨i,h,h1,_⟩<;>omega
 refine ag 1 rfl (aw 2 rfl ?_)
 obtain ⟨r0,hr0⟩:∃ (r0:Int),jU pr l=r0:=⟨_,rfl⟩
 refine ay 1 [0] (kH 1 [0] (Az l fn bu pr hp hen r0 hr0) JS rfl trivial rfl) rfl (ad 1 rfl (ae (af (ag 2 rfl (aO rfl (fun hc1'=>?_) (fun hc1'=>?_))))))
 ·
  refine ag 2 rfl (al (aj ?_))
  have hX:ez pr l=l:=by
    rcases hic with ⟨_,h⟩|⟨i0,h,_⟩
    ·exact h
    ·exfalso;omega
  rw [hX] at hr;clear hX
  subst hr
  exact aS [0] 1 rfl
 refine aD (af (aw 1 rfl (bl rfl rfl rfl rfl aa (ad 1 rfl (ae (aL ?_))))))
 obtain ⟨i0,hi0,hil,x0,hx0,hp0,hk0⟩:∃ i:Nat,jU pr l=i/\i < l.length/\∃ x,l[i]?=some x/\pr x=true/\ez pr (l.take i)=l.take i:=by
     rcases hic with ⟨h,_⟩|h
     ·exfalso;omega
     ·exact h
 obtain rfl:r0=(i0:Int):=aa
 refine cb (β:=Nat×Nat×List dh) (fun (p:Nat×Nat×List dh)=>match p with|(j,i,c)=>⟨[(0,(aC (.s 0 0 2 l.length))),(1,(aC (.d (.f fn bu)))),(4,(aC cN)),(5,(aI (↑i:Int))),(6,(aI (↑j:Int)))],[(0,(nP c))],1⟩) (fun (p:Nat×Nat×List dh)=>match p with|(j,i,c)=>om pr l c i j) (fun (p:Nat×Nat×List dh)=>match p with|(j,i,c)=>l.length - j) (i0+1,i0,l) ?_ ?_ ?_
 ·exact om.start hx0 hp0 hk0
 ·exact aq.rz id
 rintro ⟨j,i,c⟩ hd
 have hdl:=hd.len;have hdi:=hd.ij;have hdj:=hd.jl
 refine af (aw 2 rfl (az (dn rfl rfl rfl rfl rfl fu) rfl (ad 1 rfl (ae (aO rfl (fun hc2'=>?_) (fun hc2'=>?_))))))
 ·
  refine aD (af (aL (aw 2 rfl (az (cU (i:=j) rfl rfl rfl fu gW) rfl ?_))))
  obtain ⟨x1,hx1⟩:=bO (xs:=c) (i:=j) aa
  refine az (dk rfl rfl rfl uG rfl gW (aV hx1) rfl) rfl (ad 2 rfl (ae (aw 2 rfl (az (kl 2 (hp x1) hen rfl rfl rfl ⟨⟨_,rfl,.g ⟨.d _,.d _,trivial⟩⟩,trivial⟩ trivial trivial rfl rfl rfl rfl) rfl (ad 1 rfl (ae (ax rfl (fun hc3=>?_) (fun hc3=>?_))))))))
  ·
   have hc3':=hc3;try simp only [aT,bx] at hc3'
   refine aw 3 rfl (az (cU (i:=i) rfl rfl rfl fu gW) rfl ?_)
   obtain ⟨x2,hx2⟩:=bO (xs:=c) (i:=i) aa
   refine eP [1,0] (dK (ds:=[(dI x1.time),(dI x1.sum)]) rfl rfl rfl rfl rfl gW rfl (Nat.le_of_ble_eq_true rfl) (aV hx2) rfl (eE (x':=x1) rfl)) rfl (ae (ah (ad 1 rfl (bl rfl rfl rfl rfl aa (ad 1 rfl (bq (aN (then_ok (ah (ad 1 rfl (bl rfl rfl rfl rfl aa (ad 1 rfl (ae (⟨(j+1,(i)+1,(c).set i x1),hd.di hx1 (by simpa using hc3),bT,aq.rz id⟩))))))))))))))
  have hc3':=hc3;try simp only [aT,bx] at hc3'
  refine cv (aN (then_ok (ah (ad 1 rfl (bl rfl rfl rfl rfl aa (ad 1 rfl (ae (⟨(j+1,i,c),hd.skip hx1 (by simpa using hc3),bT,aq.rz id⟩))))))))
 refine bR (aE (aE (bw (then_ok (aw 2 rfl (az (iC (l:=i) (h:=l.length) rfl fu gW rfl (.inr ⟨_,rfl,rfl⟩) (.inl ⟨rfl,rfl⟩) aa aa aa rfl) rfl (eP [0] (vT (rows':=(c.take i).map iv) mh JB rfl rfl rfl rfl rfl rfl rfl rfl rfl (by simp [List.map_take])) rfl (ae (aw 2 rfl (az (iC (l:=0) (h:=i) rfl fu gW rfl (.inl ⟨rfl,rfl⟩) (.inr ⟨_,rfl,rfl⟩) aa aa aa rfl) rfl (ad 1 rfl (ae (al ?_)))))))))))))
 have hX:ez pr l=(c.take i):=by
   have hdone:=hd.done aa
   rw [<-hdone]
 rw [hX] at hr;clear hX
 subst hr
 exact aS [0] 1 rfl
end Go.Proofs.YtnfopdlnboeheaaGreat.Dev
