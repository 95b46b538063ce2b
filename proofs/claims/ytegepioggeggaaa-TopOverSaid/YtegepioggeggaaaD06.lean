/- A part of the proof: PlSort, PlSort2, PlSort3, PlDay, PlDay2, PlBank, OpsB, Bank0, Pace1, Pace2, Del1, Pace3, Pace4. No condition. -/
import Derived.Test.YtegepioggeggaaaD02
import Derived.Test.YtegepioggeggaaaD03
import Derived.Test.YtegepioggeggaaaD01
import Derived.Test.YtegepioggeggaaaD05
import Derived.Test.YtegepioggeggaaaD04
set_option linter.unusedVariables false
set_option linter.unusedSimpArgs false
namespace Go.Proofs.Ytegepioggeggaaa.Dev
theorem snoc_or {α:Type}:∀ l:List α,l=[]\/∃ A y,l=A++[y]
 |[]=>.inl rfl
 |x::l=>.inr (by
  rcases snoc_or l with rfl|⟨A,y,rfl⟩
  ·exact ⟨[],x,rfl⟩
  ·exact ⟨x::A,y,rfl⟩)
def ltR (a b:Record):Bool:=decide (a.shop < b.shop)||(decide (a.shop=b.shop) && decide (a.auth < b.auth))
def leR (a b:Record):Prop:=a.shop < b.shop\/(a.shop=b.shop/\a.auth<=b.auth)
def sameK (a b:Record):Bool:=decide (a.shop=b.shop) && decide (a.auth=b.auth)
def Srt (l:List Record):Prop:=l.Pairwise leR
def Same (u v:List Record):Prop:=∀ k:Record,u.filter (sameK k)=v.filter (sameK k)
theorem ltR_t {a b:Record}:ltR a b=true↔(a.shop < b.shop\/(a.shop=b.shop/\a.auth < b.auth)):=by unfold ltR;simp
theorem ltR_f {a b:Record}:ltR a b=false↔leR b a:=by
 unfold ltR leR
 rw [Bool.or_eq_false_iff,decide_eq_false_iff_not,Bool.and_eq_false_iff,decide_eq_false_iff_not,decide_eq_false_iff_not]
 omega
theorem leR_of_lt {a b:Record} (h:ltR a b=true):leR a b:=by rw [ltR_t] at h;unfold leR;omega
theorem leR_refl (a:Record):leR a a:=by unfold leR;omega
theorem leR_trans {a b c:Record} (h:leR a b) (h':leR b c):leR a c:=by unfold leR at *;omega
theorem ltR_le {a b c:Record} (h:ltR a b=true) (h':leR b c):ltR a c=true:=by rw [ltR_t] at *;unfold leR at *;omega
theorem le_ltR {a b c:Record} (h:leR a b) (h':ltR b c=true):ltR a c=true:=by rw [ltR_t] at *;unfold leR at *;omega
theorem sameK_t {a b:Record}:sameK a b=true↔(a.shop=b.shop/\a.auth=b.auth):=by unfold sameK;simp
theorem sameK_refl (a:Record):sameK a a=true:=by rw [sameK_t];exact ⟨rfl,rfl⟩
theorem Same.refl (u:List Record):Same u u:=fun _=>rfl
theorem Same.symm {u v:List Record} (h:Same u v):Same v u:=fun k=>(h k).symm
theorem Same.trans {u v z:List Record} (h:Same u v) (h':Same v z):Same u z:=fun k=>(h k).trans (h' k)
theorem Same.app {u v u' v':List Record} (h:Same u u') (h':Same v v'):Same (u++v) (u'++v'):=fun k=>by rw [List.filter_append,List.filter_append,h k,h' k]
theorem Same.mem {u v:List Record} (h:Same u v) {x:Record}:x∈u↔x∈v:=by
 have h1:∀ l:List Record,x∈l.filter (sameK x)↔x∈l:=fun l=>by simp [sameK_refl]
 rw [<-h1 u,<-h1 v,h x]
theorem Same.perm {u v:List Record} (h:Same u v):u.Perm v:=by
 rw [List.perm_iff_count]
 intro x
 rw [<-List.count_filter (p:=sameK x) (l:=u) (sameK_refl x),<-List.count_filter (p:=sameK x) (l:=v) (sameK_refl x),h x]
theorem Same.len {u v:List Record} (h:Same u v):u.length=v.length:=h.perm.length_eq
theorem Same.comm {u v:List Record} (h:∀ x∈u,∀ y∈v,ltR y x=true):Same (u++v) (v++u):=fun k=>by
 rw [List.filter_append,List.filter_append]
 by_cases hu:u.filter (sameK k)=[]
 ·rw [hu];simp
 ·by_cases hv:v.filter (sameK k)=[]
  ·rw [hv];simp
  ·exfalso
   obtain ⟨x,hx⟩:=List.exists_mem_of_ne_nil _ hu
   obtain ⟨y,hy⟩:=List.exists_mem_of_ne_nil _ hv
   rw [List.mem_filter] at hx hy
   have h1:=h x hx.1 y hy.1
   have h2:=sameK_t.1 hx.2
   have h3:=sameK_t.1 hy.2
   rw [ltR_t] at h1
   omega
theorem Srt.uniq:∀ {u v:List Record},Srt u->Srt v->Same u v->u=v
 |[],v,_,_,h=>by have:=h.len;exact (List.eq_nil_of_length_eq_zero this.symm).symm
 |x::u,[],_,_,h=>by have:=h.len;cases this
 |x::u,y::v,hu,hv,h=>by
  obtain ⟨hu1,hu2⟩:=List.pairwise_cons.1 hu
  obtain ⟨hv1,hv2⟩:=List.pairwise_cons.1 hv
  have h1:leR x y:=by
   rcases List.mem_cons.1 (h.mem.2 (List.mem_cons_self (a:=y) (l:=v))) with rfl|hm
   ·exact leR_refl _
   ·exact hu1 y hm
  have h2:leR y x:=by
   rcases List.mem_cons.1 (h.mem.1 (List.mem_cons_self (a:=x) (l:=u))) with rfl|hm
   ·exact leR_refl _
   ·exact hv1 x hm
  have h3:sameK x y=true:=by rw [sameK_t];unfold leR at h1 h2;omega
  have h4:=h x
  rw [List.filter_cons,List.filter_cons,if_pos (sameK_refl x),if_pos h3] at h4
  obtain ⟨rfl,_⟩:=List.cons.inj h4
  have h5:Same u v:=fun k=>by
   have:=h k
   rw [List.filter_cons,List.filter_cons] at this
   split at this
   ·exact (List.cons.inj this).2
   ·exact this
  rw [Srt.uniq hu2 hv2 h5]

def swap2 (d:List Record) (i j:Nat):List Record:=
 match d[i]?,d[j]? with
 |some x,some y=>(d.set i y).set j x
 |_,_=>d
theorem swap2_eq {d:List Record} {i j:Nat} {x y:Record} (hx:d[i]?=some x) (hy:d[j]?=some y):swap2 d i j=(d.set i y).set j x:=by unfold swap2;rw [hx,hy]
theorem swap2_len (d:List Record) (i j:Nat):(swap2 d i j).length=d.length:=by
 unfold swap2;split<;>simp
theorem swap2_app (s t u:List Record) (x y:Record) {i j:Nat} (hi:i=s.length) (hj:j=s.length+1+t.length):swap2 (s++x::(t++y::u)) i j=s++y::(t++x::u):=by
 subst hi hj
 have h1:(s++x::(t++y::u))[s.length]?=some x:=by simp
 have h2:(s++x::(t++y::u))[s.length+1+t.length]?=some y:=by
  rw [List.getElem?_append_right (by omega),show s.length+1+t.length - s.length=t.length+1 by omega,List.getElem?_cons_succ];simp
 rw [swap2_eq h1 h2,List.set_append_right _ _ (Nat.le_refl _),Nat.sub_self,List.set_cons_zero,List.set_append_right _ _ (by omega),show s.length+1+t.length - s.length=t.length+1 by omega,
  List.set_cons_succ,List.set_append_right _ _ (Nat.le_refl _),Nat.sub_self,List.set_cons_zero]
theorem swap2_comm (d:List Record) (i j:Nat):swap2 d i j=swap2 d j i:=by
 by_cases hij:i=j
 ·subst hij;rfl
 ·unfold swap2
  cases hx:d[i]? with
  |none=>cases hy:d[j]?<;>rfl
  |some x=>
   cases hy:d[j]? with
   |none=>rfl
   |some y=>exact List.set_comm _ _ hij
theorem swap2_app' (s t u:List Record) (x y:Record) {i j:Nat} (hi:i=s.length) (hj:j=s.length+1+t.length):swap2 (s++x::(t++y::u)) j i=s++y::(t++x::u):=by rw [swap2_comm];exact swap2_app s t u x y hi hj

structure Part (d y:List Record) (a b:Nat):Prop where
 len:y.length=d.length
 l:y.take a=d.take a
 r:y.drop b=d.drop b
 s:Srt ((y.drop a).take (b - a))
 m:Same d y
theorem Part.of {P X C R:List Record} {a b:Nat} (ha:P.length=a) (hb:b=a+X.length) (hs:Srt C) (hm:Same X C):Part (P++X++R) (P++C++R) a b:=by
 subst ha hb
 have hl:=hm.len
 refine ⟨by simp [hl],by simp,?_,?_,((Same.refl P).app hm).app (Same.refl R)⟩
 ·have h1:∀ Z:List Record,Z.length=X.length->(P++Z++R).drop (P.length+X.length)=R:=fun Z hz=>by
   rw [<-hz,<-List.length_append,List.drop_left]
  rw [h1 C hl.symm,h1 X rfl]
 ·rw [List.append_assoc,List.drop_left,show P.length+X.length - P.length=C.length by omega,List.take_left];exact hs
theorem parts {d:List Record} {a b:Nat} (h:a<=b) (hb:b<=d.length):d=d.take a++(d.drop a).take (b - a)++d.drop b:=by
 have h1:d.drop b=(d.drop a).drop (b - a):=by rw [List.drop_drop];congr 1;omega
 rw [h1,List.append_assoc,List.take_append_drop,List.take_append_drop]

def insJ (a:Nat):Nat->List Record->List Record
 |0,d=>d
 |j+1,d=>
  if a < j+1 then
   match d[j+1]?,d[j]? with
   |some x,some y=>if ltR x y=true then insJ a j (swap2 d (j+1) j) else d
   |_,_=>d
  else d
theorem insJ_end {a j:Nat} {d:List Record} (h:¬a < j):insJ a j d=d:=by
 cases j with
 |zero=>rfl
 |succ j=>unfold insJ;rw [if_neg h]
theorem insJ_stop {a j:Nat} {d:List Record} {x y:Record} (hx:d[j]?=some x) (hy:d[j - 1]?=some y) (h:ltR x y=false):insJ a j d=d:=by
 cases j with
 |zero=>rfl
 |succ j=>
  unfold insJ
  split
  ·rw [hx,show d[j]?=some y from hy];simp [h]
  ·rfl
theorem insJ_go {a j:Nat} {d:List Record} {x y:Record} (ha:a < j) (hx:d[j]?=some x) (hy:d[j - 1]?=some y) (h:ltR x y=true):insJ a j d=insJ a (j - 1) (swap2 d j (j - 1)):=by
 cases j with
 |zero=>omega
 |succ j=>
  conv=>lhs;unfold insJ
  rw [if_pos ha,hx,show d[j]?=some y from hy]
  simp only [h,if_true]
  rfl
theorem insJ_len (a:Nat):∀ (j:Nat) (d:List Record),(insJ a j d).length=d.length
 |0,d=>rfl
 |j+1,d=>by
  unfold insJ
  split
  ·split
   ·split
    ·rw [insJ_len a j,swap2_len]
    ·rfl
   ·rfl
  ·rfl
theorem insJ_app (P:List Record) (x:Record):∀ (n:Nat) (A R:List Record),A.length=n->∃ A1 A2,A=A1++A2/\insJ P.length (P.length+n) (P++A++x::R)=P++(A1++x::A2)++R/\(∀ y∈A2,ltR x y=true)/\(∀ A0 y,A1=A0++[y]->leR y x)
 |0,A,R,hA=>by
  obtain rfl:=List.eq_nil_of_length_eq_zero hA
  refine ⟨[],[],rfl,?_,by simp,by simp⟩
  rw [insJ_end (by omega)];simp
 |n+1,A,R,hA=>by
  obtain ⟨A',y,rfl⟩:∃ A' y,A=A'++[y]:=by
   rcases snoc_or A with rfl|h
   ·cases hA
   ·exact h
  have hn:A'.length=n:=by simpa using hA
  have e1:P++(A'++[y])++x::R=(P++A')++y::([]++x::R):=by simp
  have h1:(P++(A'++[y])++x::R)[P.length+(n+1)]?=some x:=by
   rw [List.getElem?_append_right (by simp;omega),show P.length+(n+1) - (P++(A'++[y])).length=0 by simp;omega];rfl
  have h2:(P++(A'++[y])++x::R)[P.length+(n+1) - 1]?=some y:=by
   rw [e1,List.getElem?_append_right (by simp;omega),show P.length+(n+1) - 1 - (P++A').length=0 by simp;omega];rfl
  cases hc:ltR x y with
  |true=>
   rw [insJ_go (by omega) h1 h2 hc,show P.length+(n+1) - 1=P.length+n by omega,e1,swap2_app' (P++A') [] R y x (by simp;omega) (by simp;omega)]
   obtain ⟨A1,A2,rfl,h3,h4,h5⟩:=insJ_app P x n A' (y::R) hn
   refine ⟨A1,A2++[y],by simp,?_,?_,h5⟩
   ·rw [List.nil_append,h3];simp
   ·intro z hz
    rcases List.mem_append.1 hz with hz|hz
    ·exact h4 z hz
    ·rw [List.mem_singleton.1 hz];exact hc
  |false=>
   rw [insJ_stop h1 h2 hc]
   refine ⟨A'++[y],[],by simp,by simp,by simp,fun A0 z hz=>?_⟩
   obtain ⟨_,h⟩:=List.append_inj' hz rfl
   rw [<-List.cons.inj h|>.1]
   exact ltR_f.1 hc
theorem srt_app {u v:List Record}:Srt (u++v)↔Srt u/\Srt v/\∀ x∈u,∀ y∈v,leR x y:=List.pairwise_append
theorem srt_last {u:List Record} {y x:Record} (h:Srt (u++[y])) (hx:leR y x):∀ z∈u++[y],leR z x:=fun z hz=>by
 rcases List.mem_append.1 hz with hz|hz
 ·exact leR_trans ((srt_app.1 h).2.2 z hz y (List.mem_singleton.2 rfl)) hx
 ·rw [List.mem_singleton.1 hz];exact hx
theorem le_all {u:List Record} {x:Record} (h:Srt u) (hl:∀ A0 y,u=A0++[y]->leR y x):∀ z∈u,leR z x:=by
 rcases snoc_or u with rfl|⟨A',y,h'⟩
 ·simp
 ·rw [h'] at h ⊢;exact srt_last h (hl A' y h')
theorem mid_ok {A1 A2:List Record} {x:Record} (h:Srt (A1++A2)) (h1:∀ z∈A1,leR z x) (h2:∀ z∈A2,ltR x z=true):Srt (A1++x::A2)/\Same (A1++A2++[x]) (A1++x::A2):=by
 obtain ⟨s1,s2,s3⟩:=srt_app.1 h
 refine ⟨srt_app.2 ⟨s1,List.pairwise_cons.2 ⟨fun y hy=>leR_of_lt (h2 y hy),s2⟩,fun z hz y hy=>?_⟩,?_⟩
 ·rcases List.mem_cons.1 hy with rfl|hy
  ·exact h1 z hz
  ·exact s3 z hz y hy
 ·have:=(Same.refl A1).app (Same.comm (u:=A2) (v:=[x]) fun y hy z hz=>by rw [List.mem_singleton.1 hz];exact h2 y hy)
  simpa using this
theorem mid_ok' {B1 B2:List Record} {x:Record} (h:Srt (B1++B2)) (h1:∀ z∈B1,ltR z x=true) (h2:∀ z∈B2,leR x z):Srt (B1++x::B2)/\Same (x::(B1++B2)) (B1++x::B2):=by
 obtain ⟨s1,s2,s3⟩:=srt_app.1 h
 refine ⟨srt_app.2 ⟨s1,List.pairwise_cons.2 ⟨h2,s2⟩,fun z hz y hy=>?_⟩,?_⟩
 ·rcases List.mem_cons.1 hy with rfl|hy
  ·exact leR_of_lt (h1 z hz)
  ·exact s3 z hz y hy
 ·have:=(Same.comm (u:=[x]) (v:=B1) fun y hy z hz=>by rw [List.mem_singleton.1 hy];exact h1 z hz).app (Same.refl B2)
  simpa using this
def insS (a:Nat):Nat->List Record->List Record
 |0,d=>d
 |n+1,d=>insJ a (a+1+n) (insS a n d)
theorem insS_len (a:Nat):∀ (n:Nat) (d:List Record),(insS a n d).length=d.length
 |0,_=>rfl
 |n+1,d=>by unfold insS;rw [insJ_len,insS_len a n]
theorem insS_app (P X R:List Record):∀ n,n < X.length->∃ C,insS P.length n (P++X++R)=P++C++X.drop (n+1)++R/\Srt C/\Same (X.take (n+1)) C
 |0,h=>by
  refine ⟨X.take 1,?_,?_,Same.refl _⟩
  ·unfold insS;rw [List.append_assoc P (X.take 1),List.take_append_drop]
  ·cases X with
   |nil=>cases h
   |cons x X=>exact List.pairwise_singleton _ _
 |n+1,h=>by
  obtain ⟨C,h1,h2,h3⟩:=insS_app P X R n (by omega)
  have hl:C.length=n+1:=by rw [<-h3.len,List.length_take];omega
  have e1:X.drop (n+1)=X[n+1]::X.drop (n+2):=List.drop_eq_getElem_cons h
  obtain ⟨A1,A2,rfl,h4,h5,h6⟩:=insJ_app P X[n+1] (n+1) C (X.drop (n+2)++R) hl
  have h7:Srt A1:=(srt_app.1 h2).1
  obtain ⟨h8,h9⟩:=mid_ok h2 (le_all h7 h6) h5
  refine ⟨A1++X[n+1]::A2,?_,h8,?_⟩
  ·unfold insS
   rw [h1,show P.length+1+n=P.length+(n+1) by omega,show P++(A1++A2)++X.drop (n+1)++R=P++(A1++A2)++X[n+1]::(X.drop (n+2)++R) by rw [List.append_assoc _ _ R,e1,List.cons_append],h4]
   simp
  ·rw [List.take_add_one,List.getElem?_eq_getElem h]
   exact (h3.app (Same.refl _)).trans h9
theorem insS_part {d:List Record} {a b:Nat} (h:a<=b) (hb:b<=d.length):Part d (insS a (b - (a+1)) d) a b:=by
 by_cases hab:a=b
 ·subst hab
  rw [show a - (a+1)=0 by omega]
  exact ⟨rfl,rfl,rfl,by rw [Nat.sub_self];exact List.Pairwise.nil,Same.refl _⟩
 ·have e:=parts h hb
  have h1:(d.take a).length=a:=by rw [List.length_take];omega
  have h2:((d.drop a).take (b - a)).length=b - a:=by rw [List.length_take,List.length_drop];omega
  obtain ⟨C,h3,h4,h5⟩:=insS_app (d.take a) ((d.drop a).take (b - a)) (d.drop b) (b - (a+1)) (by omega)
  rw [h1] at h3
  rw [<-e,List.drop_of_length_le (l:=(d.drop a).take (b - a)) (by omega),List.append_nil] at h3
  rw [List.take_of_length_le (l:=(d.drop a).take (b - a)) (by omega)] at h5
  have:=Part.of (P:=d.take a) (R:=d.drop b) (a:=a) (b:=b) h1 (by omega) h4 h5
  rwa [<-e,<-h3] at this

def ltAt (d:List Record) (i j:Nat):Bool:=
 match d[i]?,d[j]? with
 |some x,some y=>ltR x y
 |_,_=>false
theorem ltAt_eq {d:List Record} {i j:Nat} {x y:Record} (hx:d[i]?=some x) (hy:d[j]?=some y):ltAt d i j=ltR x y:=by unfold ltAt;rw [hx,hy]
def bsr (p:Nat->Bool) (i j:Nat):Nat:=
 if _h:i < j then if p ((i+j) / 2)=true then bsr p ((i+j) / 2+1) j else bsr p i ((i+j) / 2) else i
termination_by j - i
theorem bsr_end {p:Nat->Bool} {i j:Nat} (h:¬i < j):bsr p i j=i:=by rw [bsr,dif_neg h]
theorem bsr_t {p:Nat->Bool} {i j:Nat} (h:i < j) (hp:p ((i+j) / 2)=true):bsr p i j=bsr p ((i+j) / 2+1) j:=by rw [bsr,dif_pos h,if_pos hp]
theorem bsr_f {p:Nat->Bool} {i j:Nat} (h:i < j) (hp:p ((i+j) / 2)=false):bsr p i j=bsr p i ((i+j) / 2):=by rw [bsr,dif_pos h,if_neg (by rw [hp];exact Bool.false_ne_true)]
theorem bsr_spec (p:Nat->Bool):∀ (n i j:Nat),j - i<=n->i<=j->i<=bsr p i j/\bsr p i j<=j/\(bsr p i j=i\/p (bsr p i j - 1)=true)/\(bsr p i j=j\/p (bsr p i j)=false)
 |0,i,j,hn,h=>by rw [bsr_end (by omega)];exact ⟨Nat.le_refl _,h,.inl rfl,.inl (by omega)⟩
 |n+1,i,j,hn,h=>by
  by_cases hij:i < j
  ·cases hp:p ((i+j) / 2) with
   |true=>
    rw [bsr_t hij hp]
    obtain ⟨h1,h2,h3,h4⟩:=bsr_spec p n ((i+j) / 2+1) j (by omega) (by omega)
    refine ⟨by omega,h2,?_,h4⟩
    rcases h3 with h3|h3
    ·right;rw [h3,Nat.add_sub_cancel];exact hp
    ·exact .inr h3
   |false=>
    rw [bsr_f hij hp]
    obtain ⟨h1,h2,h3,h4⟩:=bsr_spec p n i ((i+j) / 2) (by omega) (by omega)
    refine ⟨h1,by omega,h3,?_⟩
    rcases h4 with h4|h4
    ·right;rw [h4];exact hp
    ·exact .inr h4
  ·rw [bsr_end hij];exact ⟨Nat.le_refl _,h,.inl rfl,.inl (by omega)⟩
def mvR (a:Nat):Nat->List Record->List Record
 |0,d=>d
 |n+1,d=>swap2 (mvR a n d) (a+n) (a+n+1)
def mvL (m:Nat):Nat->List Record->List Record
 |0,d=>d
 |n+1,d=>swap2 (mvL m n d) (m - n) (m - n - 1)
theorem mvR_len (a:Nat):∀ (n:Nat) (d:List Record),(mvR a n d).length=d.length
 |0,_=>rfl
 |n+1,d=>by unfold mvR;rw [swap2_len,mvR_len a n]
theorem mvL_len (m:Nat):∀ (n:Nat) (d:List Record),(mvL m n d).length=d.length
 |0,_=>rfl
 |n+1,d=>by unfold mvL;rw [swap2_len,mvL_len m n]
theorem mvR_app (P:List Record) (x:Record):∀ (n:Nat) (V R:List Record),V.length=n->mvR P.length n (P++x::(V++R))=P++V++x::R
 |0,V,R,h=>by obtain rfl:=List.eq_nil_of_length_eq_zero h;simp [mvR]
 |n+1,V,R,h=>by
  rcases snoc_or V with rfl|⟨V',y,rfl⟩
  ·cases h
  ·have hn:V'.length=n:=by simpa using h
   unfold mvR
   rw [show P++x::(V'++[y]++R)=P++x::(V'++(y::R)) by simp,mvR_app P x n V' (y::R) hn]
   have:=swap2_app (P++V') [] R x y (i:=P.length+n) (j:=P.length+n+1) (by simp;omega) (by simp;omega)
   rw [List.nil_append,List.nil_append] at this
   rw [this];simp
theorem mvL_app (P:List Record) (x:Record) (R:List Record):∀ (n:Nat) (U1 U2:List Record),U2.length=n->mvL (P++U1++U2).length n (P++U1++U2++x::R)=P++U1++x::(U2++R)
 |0,U1,U2,h=>by obtain rfl:=List.eq_nil_of_length_eq_zero h;simp [mvL]
 |n+1,U1,U2,h=>by
  cases U2 with
  |nil=>cases h
  |cons y U=>
   have hn:U.length=n:=by simpa using h
   unfold mvL
   have e1:P++U1++y::U=P++(U1++[y])++U:=by simp
   rw [e1,mvL_app P x R n (U1++[y]) U hn]
   have:=swap2_app' (P++U1) [] (U++R) y x (i:=(P++(U1++[y])++U).length - n - 1) (j:=(P++(U1++[y])++U).length - n) (by simp;omega) (by simp;omega)
   rw [List.nil_append,List.nil_append] at this
   rw [show P++(U1++[y])++x::(U++R)=P++U1++y::x::(U++R) by simp,this]
   simp
def swapR (a b:Nat):Nat->List Record->List Record
 |0,d=>d
 |n+1,d=>swap2 (swapR a b n d) (a+n) (b+n)
theorem swapR_len (a b:Nat):∀ (n:Nat) (d:List Record),(swapR a b n d).length=d.length
 |0,_=>rfl
 |n+1,d=>by unfold swapR;rw [swap2_len,swapR_len a b n]
theorem swapR_app (p:List Record):∀ (n:Nat) (x q y r:List Record) {b:Nat},x.length=n->y.length=n->b=p.length+n+q.length->swapR p.length b n (p++(x++(q++(y++r))))=p++(y++(q++(x++r)))
 |0,x,q,y,r,b,hx,hy,_=>by obtain rfl:=List.eq_nil_of_length_eq_zero hx;obtain rfl:=List.eq_nil_of_length_eq_zero hy;rfl
 |n+1,x,q,y,r,b,hx,hy,hb=>by
  rcases snoc_or x with rfl|⟨x',x1,rfl⟩
  ·cases hx
  rcases snoc_or y with rfl|⟨y',y1,rfl⟩
  ·cases hy
  have h1:x'.length=n:=by simpa using hx
  have h2:y'.length=n:=by simpa using hy
  unfold swapR
  have:=swapR_app p n x' (x1::q) y' (y1::r) (b:=b) h1 h2 (by simp;omega)
  rw [show p++(x'++[x1]++(q++(y'++[y1]++r)))=p++(x'++(x1::q++(y'++y1::r))) by simp,this]
  have:=swap2_app (p++y') (q++x') r x1 y1 (i:=p.length+n) (j:=b+n) (by simp;omega) (by simp;omega)
  rw [show p++(y'++(x1::q++(x'++y1::r)))=p++y'++x1::(q++x'++y1::r) by simp,this]
  simp
def rot (m:Nat) (i j:Nat) (d:List Record):List Record:=
 if _h:0 < i/\0 < j then
  if i=j then swapR (m - i) m i d
  else if i > j then rot m (i - j) j (swapR (m - i) m j d)
  else rot m i (j - i) (swapR (m - i) (m+j - i) i d)
 else d
termination_by i+j
theorem rot_eq {m i:Nat} {d:List Record} (hi:0 < i):rot m i i d=swapR (m - i) m i d:=by rw [rot,dif_pos ⟨hi,hi⟩,if_pos rfl]
theorem rot_gt {m i j:Nat} {d:List Record} (hj:0 < j) (h:i > j):rot m i j d=rot m (i - j) j (swapR (m - i) m j d):=by rw [rot,dif_pos ⟨by omega,hj⟩,if_neg (by omega),if_pos h]
theorem rot_lt {m i j:Nat} {d:List Record} (hi:0 < i) (h:i < j):rot m i j d=rot m i (j - i) (swapR (m - i) (m+j - i) i d):=by rw [rot,dif_pos ⟨hi,by omega⟩,if_neg (by omega),if_neg (by omega)]
theorem rot_app:∀ (n:Nat) (P u v R:List Record) (m:Nat),u.length+v.length<=n->0 < u.length->0 < v.length->m=P.length+u.length->rot m u.length v.length (P++(u++(v++R)))=P++(v++(u++R))
 |0,P,u,v,R,m,hn,hu,hv,hm=>by omega
 |n+1,P,u,v,R,m,hn,hu,hv,hm=>by
  rcases Nat.lt_trichotomy u.length v.length with h|h|h
  ·rw [rot_lt hu h]
   have e:v=v.take (v.length - u.length)++v.drop (v.length - u.length):=(List.take_append_drop _ _).symm
   have l1:(v.take (v.length - u.length)).length=v.length - u.length:=by rw [List.length_take];omega
   have l2:(v.drop (v.length - u.length)).length=u.length:=by rw [List.length_drop];omega
   generalize hv1:v.take (v.length - u.length)=v1 at e l1
   generalize hv2:v.drop (v.length - u.length)=v2 at e l2
   have h1:=swapR_app P u.length u v1 v2 R (b:=m+v.length - u.length) rfl l2 (by omega)
   rw [show m - u.length=P.length by omega,show P++(u++(v++R))=P++(u++(v1++(v2++R))) by rw [e];simp,h1,<-l1]
   have h2:=rot_app n P v2 v1 (u++R) m (by omega) (by omega) (by omega) (by omega)
   rw [l2] at h2
   rw [h2,e];simp
  ·rw [<-h,rot_eq hu,show m - u.length=P.length by omega]
   have h1:=swapR_app P u.length u [] v R (b:=m) rfl h.symm (by simp;omega)
   simpa using h1
  ·rw [rot_gt hv h]
   have e:u=u.take v.length++u.drop v.length:=(List.take_append_drop _ _).symm
   have l1:(u.take v.length).length=v.length:=by rw [List.length_take];omega
   have l2:(u.drop v.length).length=u.length - v.length:=by rw [List.length_drop]
   generalize hv1:u.take v.length=u1 at e l1
   generalize hv2:u.drop v.length=u2 at e l2
   have h1:=swapR_app P v.length u1 u2 v R (b:=m) l1 rfl (by omega)
   rw [show m - u.length=P.length by omega,show P++(u++(v++R))=P++(u1++(u2++(v++R))) by rw [e];simp,h1,<-l2]
   have h2:=rot_app n (P++v) u2 u1 R m (by omega) (by omega) (by omega) (by simp;omega)
   rw [l1] at h2
   rw [show P++(v++(u2++(u1++R)))=P++v++(u2++(u1++R)) by simp,h2,e];simp
theorem rot_len:∀ (n m i j:Nat) (d:List Record),i+j<=n->(rot m i j d).length=d.length
 |0,m,i,j,d,h=>by rw [rot,dif_neg (by omega)]
 |n+1,m,i,j,d,h=>by
  rw [rot]
  split
  ·split
   ·rw [swapR_len]
   ·split
    ·rw [rot_len n _ _ _ _ (by omega),swapR_len]
    ·rw [rot_len n _ _ _ _ (by omega),swapR_len]
  ·rfl
def symStart (d:List Record) (a m b:Nat):Nat:=
 if m > (a+b) / 2 then bsr (fun c=>!ltAt d ((a+b) / 2+m - 1 - c) c) ((a+b) / 2+m - b) ((a+b) / 2)
 else bsr (fun c=>!ltAt d ((a+b) / 2+m - 1 - c) c) a m
def symRot (s m e:Nat) (d:List Record):List Record:=if s < m/\m < e then rot m (m - s) (e - m) d else d
def symM:Nat->Nat->Nat->Nat->List Record->List Record
 |0,_,_,_,d=>d
 |f+1,a,m,b,d=>
  if m - a=1 then mvR a (bsr (fun h=>ltAt d h a) m b - 1 - a) d
  else if b - m=1 then mvL m (m - bsr (fun h=>!ltAt d m h) a m) d
  else
   (fun s=>(fun e=>(fun d1=>(fun d2=>if (a+b) / 2 < e/\e < b then symM f ((a+b) / 2) e b d2 else d2)
    (if a < s/\s < (a+b) / 2 then symM f a s ((a+b) / 2) d1 else d1)) (symRot s m e d)) ((a+b) / 2+m - s)) (symStart d a m b)
theorem symRot_len (s m e:Nat) (d:List Record):(symRot s m e d).length=d.length:=by unfold symRot;split;exact rot_len _ _ _ _ _ (Nat.le_refl _);rfl
theorem symM_len:∀ (f a m b:Nat) (d:List Record),(symM f a m b d).length=d.length
 |0,_,_,_,_=>rfl
 |f+1,a,m,b,d=>by
  unfold symM
  split
  ·rw [mvR_len]
  ·split
   ·rw [mvL_len]
   ·dsimp only
    split
    ·rw [symM_len f]
     split
     ·rw [symM_len f,symRot_len]
     ·rw [symRot_len]
    ·split
     ·rw [symM_len f,symRot_len]
     ·rw [symRot_len]
end Go.Proofs.Ytegepioggeggaaa.Dev
namespace Go.Proofs.Ytegepioggeggaaa.Dev
theorem insS_step {a i:Nat} {d:List Record} (h:a+1<=i):insS a (i+1 - (a+1)) d=insJ a i (insS a (i - (a+1)) d):=by
 rw [show i+1 - (a+1)=(i - (a+1))+1 by omega]
 conv=>lhs;unfold insS
 rw [show a+1+(i - (a+1))=i by omega]
theorem mvR_step {a k:Nat} {d:List Record} (h:a<=k):mvR a (k+1 - a) d=swap2 (mvR a (k - a) d) k (k+1):=by
 rw [show k+1 - a=(k - a)+1 by omega]
 conv=>lhs;unfold mvR
 rw [show a+(k - a)=k by omega]
theorem mvL_step {m k:Nat} {d:List Record} (h:k<=m) (h0:0 < k):mvL m (m - (k - 1)) d=swap2 (mvL m (m - k) d) k (k - 1):=by
 rw [show m - (k - 1)=(m - k)+1 by omega]
 conv=>lhs;unfold mvL
 rw [show m - (m - k)=k by omega]
theorem get_l {P X:List Record} {k n:Nat} (hn:n=P.length+k):(P++X)[n]?=X[k]?:=by
 subst hn;rw [List.getElem?_append_right (by omega),Nat.add_sub_cancel_left]
theorem le_last {B:List Record} {x:Record} (h:Srt B) (hl:∀ A0 y,B=A0++[y]->ltR y x=true):∀ z∈B,ltR z x=true:=by
 rcases snoc_or B with rfl|⟨A',y,h'⟩
 ·simp
 ·intro z hz
  have h1:=hl A' y h'
  rw [h'] at h hz
  rcases List.mem_append.1 hz with hz|hz
  ·exact le_ltR ((srt_app.1 h).2.2 z hz y (List.mem_singleton.2 rfl)) h1
  ·rw [List.mem_singleton.1 hz];exact h1
theorem first_lt {B:List Record} {x:Record} (h:Srt B) (hl:∀ y B0,B=y::B0->ltR x y=true):∀ z∈B,ltR x z=true:=by
 cases B with
 |nil=>simp
 |cons y B0=>
  intro z hz
  have h1:=hl y B0 rfl
  rcases List.mem_cons.1 hz with rfl|hz
  ·exact h1
  ·exact ltR_le h1 ((List.pairwise_cons.1 h).1 z hz)
theorem first_le {B:List Record} {x:Record} (h:Srt B) (hl:∀ y B0,B=y::B0->leR x y):∀ z∈B,leR x z:=by
 cases B with
 |nil=>simp
 |cons y B0=>
  intro z hz
  have h1:=hl y B0 rfl
  rcases List.mem_cons.1 hz with rfl|hz
  ·exact h1
  ·exact leR_trans h1 ((List.pairwise_cons.1 h).1 z hz)
theorem snoc_get {A:List Record} {y:Record} {A0:List Record} (h:A=A0++[y]):A[A.length - 1]?=some y:=by subst h;simp
theorem split_at (l:List Record) (k:Nat) (h:k<=l.length):∃ u v,l=u++v/\u.length=k:=⟨l.take k,l.drop k,(List.take_append_drop k l).symm,by rw [List.length_take];omega⟩
theorem first_min {U:List Record} {u:Record} (h:Srt U) (hu:U[0]?=some u):∀ x∈U,leR u x:=by
 cases U with
 |nil=>simp
 |cons y U=>
  simp at hu;subst hu
  intro x hx
  rcases List.mem_cons.1 hx with rfl|hx
  ·exact leR_refl _
  ·exact (List.pairwise_cons.1 h).1 x hx
theorem last_max {V:List Record} {v:Record} (h:Srt V) (hv:V[V.length - 1]?=some v):∀ y∈V,leR y v:=by
 rcases snoc_or V with rfl|⟨A,z,rfl⟩
 ·simp
 ·simp at hv;subst hv
  exact srt_last h (leR_refl _)
theorem get_some {V:List Record} {k:Nat} (h:k < V.length):∃ v,V[k]?=some v:=⟨V[k],List.getElem?_eq_getElem h⟩
theorem symM_app:∀ (f:Nat) (P A B R:List Record),A.length+B.length<=f->0 < A.length->0 < B.length->Srt A->Srt B->
  ∃ C,symM f P.length (P.length+A.length) (P.length+A.length+B.length) (P++(A++(B++R)))=P++(C++R)/\Srt C/\Same (A++B) C
 |0,P,A,B,R,hf,ha,hb,_,_=>by omega
 |f+1,P,A,B,R,hf,ha,hb,sA,sB=>by
  obtain ⟨a,hea⟩:∃ a,a=P.length:=⟨_,rfl⟩
  obtain ⟨m,hem⟩:∃ m,m=P.length+A.length:=⟨_,rfl⟩
  obtain ⟨b,heb⟩:∃ b,b=P.length+A.length+B.length:=⟨_,rfl⟩
  rw [<-hea,show a+A.length=m by omega,show m+B.length=b by omega]
  unfold symM
  split
  ·
   rename_i h1
   obtain ⟨x,rfl⟩:∃ x,A=[x]:=by
    match A,ha,(by omega:A.length=1) with
    |[x],_,_=>exact ⟨x,rfl⟩
   have hl1:[x].length=1:=rfl
   obtain ⟨q1,q2,q3,q4⟩:=bsr_spec (fun h=>ltAt (P++([x]++(B++R))) h a) (b - m) m b (Nat.le_refl _) (by omega)
   generalize bsr (fun h=>ltAt (P++([x]++(B++R))) h a) m b=i at q1 q2 q3 q4
   obtain ⟨B1,B2,rfl,hB1⟩:=split_at B (i - m) (by omega)
   rw [List.length_append] at heb
   have gx:(P++([x]++(B1++B2++R)))[a]?=some x:=by rw [get_l (k:=0) (by omega)];rfl
   have gB:∀ k,k < B1.length+B2.length->(P++([x]++(B1++B2++R)))[m+k]?=(B1++B2)[k]?:=fun k hk=>by
    rw [get_l (k:=k+1) (by omega),List.cons_append,List.getElem?_cons_succ,List.nil_append,List.getElem?_append_left (by simp;omega)]
   obtain ⟨s1,s2,s3⟩:=srt_app.1 sB
   have w1:∀ z∈B1,ltR z x=true:=le_last s1 fun A0 y hy=>by
    have hpos:0 < B1.length:=by rw [hy];simp
    rcases q3 with q3|q3
    ·omega
    ·have g1:=gB (B1.length - 1) (by omega)
     rw [List.getElem?_append_left (l₁:=B1) (by omega),snoc_get hy,show m+(B1.length - 1)=i - 1 by omega] at g1
     have q3:ltAt (P++([x]++(B1++B2++R))) (i - 1) a=true:=q3
     rwa [ltAt_eq g1 gx] at q3
   have w2:∀ z∈B2,leR x z:=first_le s2 fun y B0 hy=>by
    have hpos:0 < B2.length:=by rw [hy];simp
    rcases q4 with q4|q4
    ·omega
    ·have g1:=gB B1.length (by omega)
     have g2:B2[0]?=some y:=by rw [hy];rfl
     rw [List.getElem?_append_right (l₁:=B1) (Nat.le_refl _),Nat.sub_self,g2,show m+B1.length=i by omega] at g1
     have q4:ltAt (P++([x]++(B1++B2++R))) i a=false:=q4
     rw [ltAt_eq g1 gx] at q4
     exact ltR_f.1 q4
   obtain ⟨t1,t2⟩:=mid_ok' sB w1 w2
   refine ⟨B1++x::B2,?_,t1,t2⟩
   have h2:=mvR_app P x B1.length B1 (B2++R) rfl
   rw [show i - 1 - a=B1.length by omega,hea,show P++([x]++(B1++B2++R))=P++x::(B1++(B2++R)) by simp,h2]
   simp
  ·split
   ·
    rename_i h0 h1
    obtain ⟨x,rfl⟩:∃ x,B=[x]:=by
     match B,hb,(by omega:B.length=1) with
     |[x],_,_=>exact ⟨x,rfl⟩
    have hl1:[x].length=1:=rfl
    obtain ⟨q1,q2,q3,q4⟩:=bsr_spec (fun h=>!ltAt (P++(A++([x]++R))) m h) (m - a) a m (Nat.le_refl _) (by omega)
    generalize bsr (fun h=>!ltAt (P++(A++([x]++R))) m h) a m=i at q1 q2 q3 q4
    obtain ⟨A1,A2,rfl,hA1⟩:=split_at A (i - a) (by omega)
    rw [List.length_append] at hem heb
    have gx:(P++(A1++A2++([x]++R)))[m]?=some x:=by rw [get_l (k:=A1.length+A2.length) (by omega),get_l (k:=0) (by simp)];rfl
    have gA:∀ k,k < A1.length+A2.length->(P++(A1++A2++([x]++R)))[a+k]?=(A1++A2)[k]?:=fun k hk=>by
     rw [get_l (k:=k) (by omega),List.getElem?_append_left (by simp;omega)]
    obtain ⟨s1,s2,s3⟩:=srt_app.1 sA
    have w1:∀ z∈A1,leR z x:=le_all s1 fun A0 y hy=>by
     have hpos:0 < A1.length:=by rw [hy];simp
     rcases q3 with q3|q3
     ·omega
     ·have g1:=gA (A1.length - 1) (by omega)
      rw [List.getElem?_append_left (l₁:=A1) (by omega),snoc_get hy,show a+(A1.length - 1)=i - 1 by omega] at g1
      have q3:(!ltAt (P++(A1++A2++([x]++R))) m (i - 1))=true:=q3
      rw [ltAt_eq gx g1,Bool.not_eq_true'] at q3
      exact ltR_f.1 q3
    have w2:∀ z∈A2,ltR x z=true:=first_lt s2 fun y B0 hy=>by
     have hpos:0 < A2.length:=by rw [hy];simp
     rcases q4 with q4|q4
     ·omega
     ·have g1:=gA A1.length (by omega)
      have g2:A2[0]?=some y:=by rw [hy];rfl
      rw [List.getElem?_append_right (l₁:=A1) (Nat.le_refl _),Nat.sub_self,g2,show a+A1.length=i by omega] at g1
      have q4:(!ltAt (P++(A1++A2++([x]++R))) m i)=false:=q4
      rw [ltAt_eq gx g1,Bool.not_eq_false'] at q4
      exact q4
    obtain ⟨t1,t2⟩:=mid_ok sA w1 w2
    refine ⟨A1++x::A2,?_,t1,t2⟩
    have h2:=mvL_app P x R A2.length A1 A2 rfl
    rw [show (P++A1++A2).length=m by simp;omega] at h2
    rw [show m - i=A2.length by omega,show P++(A1++A2++([x]++R))=P++A1++A2++x::R by simp,h2]
    simp
   ·
    rename_i h0 h1
    obtain ⟨mid,hmid⟩:∃ mid,mid=(a+b) / 2:=⟨_,rfl⟩
    have hs:∃ s,symStart (P++(A++(B++R))) a m b=s/\a<=s/\s<=m/\s<=mid/\mid+m - s<=b/\
      (s=m\/s=mid\/ltAt (P++(A++(B++R))) (mid+m - 1 - s) s=true)/\(s=a\/mid+m - s=b\/ltAt (P++(A++(B++R))) (mid+m - s) (s - 1)=false):=by
     refine ⟨_,rfl,?_⟩
     unfold symStart
     rw [<-hmid]
     split
     ·obtain ⟨q1,q2,q3,q4⟩:=bsr_spec (fun c=>!ltAt (P++(A++(B++R))) (mid+m - 1 - c) c) (mid - (mid+m - b)) (mid+m - b) mid (Nat.le_refl _) (by omega)
      generalize bsr (fun c=>!ltAt (P++(A++(B++R))) (mid+m - 1 - c) c) (mid+m - b) mid=s at q1 q2 q3 q4
      refine ⟨by omega,by omega,by omega,by omega,?_,?_⟩
      ·rcases q4 with q4|q4
       ·exact .inr (.inl q4)
       ·right;right;simpa using q4
      ·rcases q3 with q3|q3
       ·right;left;omega
       ·by_cases hs0:s=a
        ·exact .inl hs0
        ·right;right
         have q3:(!ltAt (P++(A++(B++R))) (mid+m - 1 - (s - 1)) (s - 1))=true:=q3
         rw [show mid+m - 1 - (s - 1)=mid+m - s by omega] at q3;simpa using q3
     ·obtain ⟨q1,q2,q3,q4⟩:=bsr_spec (fun c=>!ltAt (P++(A++(B++R))) (mid+m - 1 - c) c) (m - a) a m (Nat.le_refl _) (by omega)
      generalize bsr (fun c=>!ltAt (P++(A++(B++R))) (mid+m - 1 - c) c) a m=s at q1 q2 q3 q4
      refine ⟨by omega,by omega,by omega,by omega,?_,?_⟩
      ·rcases q4 with q4|q4
       ·exact .inl q4
       ·right;right;simpa using q4
      ·rcases q3 with q3|q3
       ·exact .inl q3
       ·by_cases hs0:s=a
        ·exact .inl hs0
        ·right;right
         have q3:(!ltAt (P++(A++(B++R))) (mid+m - 1 - (s - 1)) (s - 1))=true:=q3
         rw [show mid+m - 1 - (s - 1)=mid+m - s by omega] at q3;simpa using q3
    obtain ⟨s,hs0,hs1,hs2,hs3,hs4,hs5,hs6⟩:=hs
    dsimp only
    rw [hs0,<-hmid]
    obtain ⟨A1,U,rfl,hA1⟩:=split_at A (s - a) (by omega)
    rw [List.length_append] at hem heb ha hf
    obtain ⟨V,B2,rfl,hV⟩:=split_at B (mid+m - s - m) (by omega)
    rw [List.length_append] at heb hb hf
    have gA:∀ k,k < A1.length+U.length->(P++(A1++U++(V++B2++R)))[a+k]?=(A1++U)[k]?:=fun k hk=>by
     rw [get_l (k:=k) (by omega),List.getElem?_append_left (by simp;omega)]
    have gB:∀ k,k < V.length+B2.length->(P++(A1++U++(V++B2++R)))[m+k]?=(V++B2)[k]?:=fun k hk=>by
     rw [get_l (k:=A1.length+U.length+k) (by omega),get_l (k:=k) (by simp),List.getElem?_append_left (by simp;omega)]
    obtain ⟨a1,a2,a3⟩:=srt_app.1 sA
    obtain ⟨b1,b2,b3⟩:=srt_app.1 sB
    have w1:∀ x∈U,∀ y∈V,ltR y x=true:=by
     intro x hx y hy
     have hU:0 < U.length:=List.length_pos_of_mem hx
     have hVp:0 < V.length:=List.length_pos_of_mem hy
     rcases hs5 with h5|h5|h5
     ·omega
     ·omega
     ·obtain ⟨v,hv⟩:=get_some (V:=V) (k:=V.length - 1) (by omega)
      obtain ⟨u,hu⟩:=get_some (V:=U) (k:=0) hU
      have g1:=gB (V.length - 1) (by omega)
      rw [List.getElem?_append_left (l₁:=V) (by omega),hv,show m+(V.length - 1)=mid+m - 1 - s by omega] at g1
      have g2:=gA A1.length (by omega)
      rw [List.getElem?_append_right (l₁:=A1) (Nat.le_refl _),Nat.sub_self,hu,show a+A1.length=s by omega] at g2
      rw [ltAt_eq g1 g2] at h5
      exact ltR_le (le_ltR (last_max b1 hv y hy) h5) (first_min a2 hu x hx)
    have w2:∀ x∈A1,∀ y∈B2,leR x y:=by
     intro x hx y hy
     have hAp:0 < A1.length:=List.length_pos_of_mem hx
     have hBp:0 < B2.length:=List.length_pos_of_mem hy
     rcases hs6 with h6|h6|h6
     ·omega
     ·omega
     ·obtain ⟨v,hv⟩:=get_some (V:=A1) (k:=A1.length - 1) (by omega)
      obtain ⟨u,hu⟩:=get_some (V:=B2) (k:=0) hBp
      have g1:=gB V.length (by omega)
      rw [List.getElem?_append_right (l₁:=V) (Nat.le_refl _),Nat.sub_self,hu,show m+V.length=mid+m - s by omega] at g1
      have g2:=gA (A1.length - 1) (by omega)
      rw [List.getElem?_append_left (l₁:=A1) (by omega),hv,show a+(A1.length - 1)=s - 1 by omega] at g2
      rw [ltAt_eq g1 g2] at h6
      exact leR_trans (last_max a1 hv x hx) (leR_trans (ltR_f.1 h6) (first_min b2 hu y hy))
    have hr:symRot s m (mid+m - s) (P++(A1++U++(V++B2++R)))=P++(A1++(V++(U++(B2++R)))):=by
     unfold symRot
     have e0:P++(A1++U++(V++B2++R))=P++A1++(U++(V++(B2++R))):=by simp
     split
     ·have:=rot_app (U.length+V.length) (P++A1) U V (B2++R) m (Nat.le_refl _) (by omega) (by omega) (by simp;omega)
      rw [show m - s=U.length by omega,show mid+m - s - m=V.length by omega,e0,this];simp
     ·rcases (by omega:U.length=0\/V.length=0) with hz|hz
      ·obtain rfl:=List.eq_nil_of_length_eq_zero hz;simp
      ·obtain rfl:=List.eq_nil_of_length_eq_zero hz;simp
    rw [hr]
    have hL:∃ C1,(if a < s/\s < mid then symM f a s mid (P++(A1++(V++(U++(B2++R))))) else P++(A1++(V++(U++(B2++R)))))=P++(C1++(U++(B2++R)))/\Srt C1/\Same (A1++V) C1:=by
     split
     ·obtain ⟨C1,c1,c2,c3⟩:=symM_app f P A1 V (U++(B2++R)) (by omega) (by omega) (by omega) a1 b1
      rw [<-hea,show a+A1.length=s by omega,show s+V.length=mid by omega] at c1
      exact ⟨C1,c1,c2,c3⟩
     ·rcases (by omega:A1.length=0\/V.length=0) with hz|hz
      ·obtain rfl:=List.eq_nil_of_length_eq_zero hz;exact ⟨V,by simp,b1,Same.refl _⟩
      ·obtain rfl:=List.eq_nil_of_length_eq_zero hz;exact ⟨A1,by simp,a1,by rw [List.append_nil];exact Same.refl _⟩
    obtain ⟨C1,c1,c2,c3⟩:=hL
    rw [c1]
    have hc1:C1.length=A1.length+V.length:=by rw [<-c3.len,List.length_append]
    have hR:∃ C2,(if mid < mid+m - s/\mid+m - s < b then symM f mid (mid+m - s) b (P++(C1++(U++(B2++R)))) else P++(C1++(U++(B2++R))))=P++(C1++(C2++R))/\Srt C2/\Same (U++B2) C2:=by
     split
     ·obtain ⟨C2,d1,d2,d3⟩:=symM_app f (P++C1) U B2 R (by omega) (by omega) (by omega) a2 b2
      rw [List.length_append,show P.length+C1.length=mid by omega,show mid+U.length=mid+m - s by omega,show mid+m - s+B2.length=b by omega] at d1
      exact ⟨C2,by simpa using d1,d2,d3⟩
     ·rcases (by omega:U.length=0\/B2.length=0) with hz|hz
      ·obtain rfl:=List.eq_nil_of_length_eq_zero hz;exact ⟨B2,by simp,b2,Same.refl _⟩
      ·obtain rfl:=List.eq_nil_of_length_eq_zero hz;exact ⟨U,by simp,a2,by rw [List.append_nil];exact Same.refl _⟩
    obtain ⟨C2,d1,d2,d3⟩:=hR
    refine ⟨C1++C2,by rw [d1];simp,srt_app.2 ⟨c2,d2,?_⟩,?_⟩
    ·intro x hx y hy
     rcases List.mem_append.1 (c3.mem.2 hx) with hx|hx
     ·rcases List.mem_append.1 (d3.mem.2 hy) with hy|hy
      ·exact a3 x hx y hy
      ·exact w2 x hx y hy
     ·rcases List.mem_append.1 (d3.mem.2 hy) with hy|hy
      ·exact leR_of_lt (w1 y hy x hx)
      ·exact b3 x hx y hy
    ·have e1:Same (A1++U++(V++B2)) (A1++(V++(U++B2))):=by
      have:=(Same.refl A1).app ((Same.comm w1).app (Same.refl B2))
      simpa using this
     have e2:=c3.app d3
     rw [List.append_assoc] at e2
     exact e1.trans e2
theorem symM_part {f:Nat} {d:List Record} {a m b:Nat} (h1:a < m) (h2:m < b) (h3:b<=d.length) (hf:b - a<=f) (sA:Srt ((d.drop a).take (m - a))) (sB:Srt ((d.drop m).take (b - m))):Part d (symM f a m b d) a b:=by
 have e1:=parts (d:=d) (a:=a) (b:=b) (by omega) h3
 have e2:(d.drop a).take (b - a)=(d.drop a).take (m - a)++(d.drop m).take (b - m):=by
  rw [show b - a=(m - a)+(b - m) by omega,List.take_add,List.drop_drop,show a+(m - a)=m by omega]
 have l1:(d.take a).length=a:=by rw [List.length_take];omega
 have l2:((d.drop a).take (m - a)).length=m - a:=by rw [List.length_take,List.length_drop];omega
 have l3:((d.drop m).take (b - m)).length=b - m:=by rw [List.length_take,List.length_drop];omega
 obtain ⟨C,c1,c2,c3⟩:=symM_app f (d.take a) ((d.drop a).take (m - a)) ((d.drop m).take (b - m)) (d.drop b) (by omega) (by omega) (by omega) sA sB
 rw [l1,l2,l3,show a+(m - a)=m by omega,show m+(b - m)=b by omega] at c1
 rw [<-e2] at c3
 rw [e2] at e1
 have e3:d.take a++((d.drop a).take (m - a)++((d.drop m).take (b - m)++d.drop b))=d:=by rw [<-List.append_assoc,<-List.append_assoc,List.append_assoc (d.take a)];exact e1.symm
 rw [e3] at c1
 have:=Part.of (P:=d.take a) (X:=(d.drop a).take (b - a)) (C:=C) (R:=d.drop b) (a:=a) (b:=b) l1 (by rw [List.length_take,List.length_drop];omega) c2 c3
 rwa [e2,<-e1,List.append_assoc,<-c1] at this
theorem bsr_st {p:Nat->Bool} {i j h R:Nat} (hb:bsr p i j=R) (hij:i < j) (hh:h=(i+j) / 2) (hp:p h=true):bsr p (h+1) j=R:=by
 subst hh;rw [<-hb,bsr_t hij hp]
theorem bsr_sf {p:Nat->Bool} {i j h R:Nat} (hb:bsr p i j=R) (hij:i < j) (hh:h=(i+j) / 2) (hp:p h=false):bsr p i h=R:=by
 subst hh;rw [<-hb,bsr_f hij hp]
theorem symM_halves {f a m b mid s e:Nat} {d d1 d2 d3:List Record} (h0:¬m - a=1) (h1:¬b - m=1) (hm:mid=(a+b) / 2) (hs:symStart d a m b=s) (he:mid+m - s=e) (hd1:symRot s m e d=d1)
  (hd2:(if a < s/\s < mid then symM f a s mid d1 else d1)=d2) (hd3:(if mid < e/\e < b then symM f mid e b d2 else d2)=d3):symM (f+1) a m b d=d3:=by
 subst hm he hd1 hd2 hd3 hs
 rw [symM.eq_2,if_neg h0,if_neg h1]
end Go.Proofs.Ytegepioggeggaaa.Dev
namespace Go.Proofs.Ytegepioggeggaaa.Dev
def insR:List Record->Record->List Record
 |[],r=>[r]
 |x::l,r=>if ltR r x=true then r::x::l else x::insR l r
def sortR (l:List Record):List Record:=l.foldl insR []
theorem insR_mem {r z:Record}:∀ {l:List Record},z∈insR l r↔z=r\/z∈l
 |[]=>by simp [insR]
 |x::l=>by
  unfold insR
  split
  ·simp
  ·rw [List.mem_cons,insR_mem,List.mem_cons]
   constructor
   ·rintro (h|h|h)
    ·exact .inr (.inl h)
    ·exact .inl h
    ·exact .inr (.inr h)
   ·rintro (h|h|h)
    ·exact .inr (.inl h)
    ·exact .inl h
    ·exact .inr (.inr h)
theorem insR_srt {r:Record}:∀ {l:List Record},Srt l->Srt (insR l r)
 |[],_=>List.pairwise_singleton _ _
 |x::l,h=>by
  obtain ⟨h1,h2⟩:=List.pairwise_cons.1 h
  unfold insR
  split
  ·rename_i hc
   exact List.pairwise_cons.2 ⟨fun z hz=>by
    rcases List.mem_cons.1 hz with rfl|hz
    ·exact leR_of_lt hc
    ·exact leR_trans (leR_of_lt hc) (h1 z hz),h⟩
  ·rename_i hc
   have hc:leR x r:=ltR_f.1 (by simpa using hc)
   exact List.pairwise_cons.2 ⟨fun z hz=>by
    rcases insR_mem.1 hz with rfl|hz
    ·exact hc
    ·exact h1 z hz,insR_srt h2⟩
theorem insR_same {r:Record}:∀ {l:List Record},Srt l->Same (l++[r]) (insR l r)
 |[],_=>Same.refl _
 |x::l,h=>by
  obtain ⟨h1,h2⟩:=List.pairwise_cons.1 h
  unfold insR
  split
  ·rename_i hc
   exact (Same.comm (u:=x::l) (v:=[r]) fun y hy z hz=>by
    rw [List.mem_singleton.1 hz]
    rcases List.mem_cons.1 hy with rfl|hy
    ·exact hc
    ·exact ltR_le hc (h1 y hy))
  ·exact (Same.refl [x]).app (insR_same h2)
theorem foldl_ok:∀ (l acc:List Record),Srt acc->Srt (l.foldl insR acc)/\Same (acc++l) (l.foldl insR acc)
 |[],acc,h=>⟨h,by rw [List.append_nil];exact Same.refl _⟩
 |x::l,acc,h=>by
  obtain ⟨h1,h2⟩:=foldl_ok l (insR acc x) (insR_srt h)
  refine ⟨h1,?_⟩
  have h3:=((insR_same (r:=x) h).app (Same.refl l)).trans h2
  simpa using h3
theorem sortR_srt (l:List Record):Srt (sortR l):=(foldl_ok l [] List.Pairwise.nil).1
theorem sortR_same (l:List Record):Same l (sortR l):=(foldl_ok l [] List.Pairwise.nil).2
theorem sortR_uniq {l d:List Record} (h:Srt d) (h':Same l d):sortR l=d:=Srt.uniq (sortR_srt l) h ((sortR_same l).symm.trans h')
theorem sortR_len (l:List Record):(sortR l).length=l.length:=(sortR_same l).len.symm
theorem sortR_nil {l:List Record} (h:l.length=0):sortR l=l:=by obtain rfl:=List.eq_nil_of_length_eq_zero h;rfl
def seg (d:List Record) (a s:Nat):List Record:=(d.drop a).take s
def Done (s a:Nat) (d:List Record):Prop:=(∃ q,a=q * s)/\∀ k,(k+1) * s<=a->Srt (seg d (k * s) s)
def Runs (s:Nat) (d:List Record):Prop:=∀ k,Srt (seg d (k * s) s)
def Half (s a:Nat) (d:List Record):Prop:=Done (2 * s) a d/\∀ k,a<=k * s->Srt (seg d (k * s) s)
theorem Part.segl {d y:List Record} {a b:Nat} (h:Part d y a b) {c s:Nat} (hc:c+s<=a):seg y c s=seg d c s:=by
 have e:∀ z:List Record,seg z c s=((z.take a).drop c).take s:=fun z=>by
  unfold seg;rw [List.drop_take,List.take_take,Nat.min_eq_left (by omega)]
 rw [e y,e d,h.l]
theorem Part.segr {d y:List Record} {a b:Nat} (h:Part d y a b) {c s:Nat} (hc:b<=c):seg y c s=seg d c s:=by
 have e:∀ z:List Record,seg z c s=((z.drop b).drop (c - b)).take s:=fun z=>by
  unfold seg;rw [List.drop_drop,show b+(c - b)=c by omega]
 rw [e y,e d,h.r]
theorem seg_far {d:List Record} {a s:Nat} (h:d.length<=a):seg d a s=[]:=by unfold seg;rw [List.drop_of_length_le h];simp
theorem seg_end {d:List Record} {a s t:Nat} (hs:d.length<=a+s) (ht:d.length<=a+t):seg d a s=seg d a t:=by
 unfold seg;rw [List.take_of_length_le (by rw [List.length_drop];omega),List.take_of_length_le (by rw [List.length_drop];omega)]
theorem srt_nil:Srt []:=List.Pairwise.nil
theorem mul_lt' {k q s:Nat} (h:(k+1) * s<=q * s+s) (hs:0 < s):k<=q:=by
 rw [<-Nat.succ_mul] at h
 have:=Nat.le_of_mul_le_mul_right h hs
 omega
theorem done_start {s:Nat} (hs:0 < s) {d:List Record}:Done s 0 d:=⟨⟨0,by simp⟩,fun k h=>by rw [Nat.succ_mul] at h;omega⟩
theorem done_next {s a:Nat} {d y:List Record} (hs:0 < s) (h:Done s a d) (p:Part d y a (a+s)):Done s (a+s) y:=by
 obtain ⟨⟨q,hq⟩,h2⟩:=h
 refine ⟨⟨q+1,by rw [Nat.succ_mul,hq]⟩,fun k hk=>?_⟩
 subst hq
 have hkq:=mul_lt' hk hs
 by_cases e:k=q
 ·subst e
  have:=p.s
  rw [Nat.add_sub_cancel_left] at this
  exact this
 ·have h3:(k+1) * s<=q * s:=Nat.mul_le_mul_right s (by omega)
  rw [p.segl (by rw [Nat.succ_mul] at h3;exact h3)]
  exact h2 k h3
theorem done_end {s a:Nat} {d y:List Record} (hs:0 < s) (h:Done s a d) (ha:a<=y.length) (p:Part d y a y.length) (hn:y.length<=a+s):Runs s y:=by
 obtain ⟨⟨q,rfl⟩,h2⟩:=h
 intro k
 rcases Nat.lt_trichotomy k q with e|e|e
 ·have h3:(k+1) * s<=q * s:=Nat.mul_le_mul_right s (by omega)
  rw [p.segl (by rw [Nat.succ_mul] at h3;exact h3)]
  exact h2 k h3
 ·subst e
  have h3:=p.s
  rw [seg_end (t:=y.length - k * s) hn (by omega)]
  exact h3
 ·have h3:(q+1) * s<=k * s:=Nat.mul_le_mul_right s (by omega)
  rw [Nat.succ_mul] at h3
  rw [seg_far (by omega)];exact srt_nil
theorem runs_all {s:Nat} {d:List Record} (h:Runs s d) (hs:d.length<=s):Srt d:=by
 have:=h 0
 unfold seg at this
 rw [Nat.zero_mul,List.drop_zero,List.take_of_length_le hs] at this
 exact this
theorem half_start {s:Nat} (hs:0 < s) {d:List Record} (h:Runs s d):Half s 0 d:=⟨done_start (by omega),fun k _=>h k⟩
theorem Half.mul {s a:Nat} {d:List Record} (h:Half s a d):∃ k,a=k * s:=by
 obtain ⟨q,hq⟩:=h.1.1
 exact ⟨q * 2,by rw [hq,Nat.mul_assoc]⟩
theorem half_srt {s a:Nat} {d:List Record} (h:Half s a d):Srt (seg d a s)/\Srt (seg d (a+s) s):=by
 obtain ⟨k,hk⟩:=h.mul
 refine ⟨?_,?_⟩
 ·have:=h.2 k (by omega);rwa [<-hk] at this
 ·have:=h.2 (k+1) (by rw [Nat.succ_mul];omega);rwa [Nat.succ_mul,<-hk] at this
theorem half_next {s a:Nat} {d y:List Record} (hs:0 < s) (h:Half s a d) (p:Part d y a (a+2 * s)):Half s (a+2 * s) y:=
 ⟨done_next (by omega) h.1 p,fun k hk=>by rw [p.segr hk];exact h.2 k (by omega)⟩
theorem half_end {s a:Nat} {d y:List Record} (hs:0 < s) (h:Half s a d) (ha:a<=y.length) (p:Part d y a y.length) (hn:y.length<=a+2 * s):Runs (s * 2) y:=by
 rw [Nat.mul_comm];exact done_end (by omega) h.1 ha p hn
theorem half_end' {s a:Nat} {d:List Record} (hs:0 < s) (h:Half s a d) (hn:d.length<=a+s):Runs (s * 2) d:=by
 rw [Nat.mul_comm]
 obtain ⟨⟨⟨q,rfl⟩,h2⟩,h3⟩:=h
 intro k
 rcases Nat.lt_trichotomy k q with e|e|e
 ·exact h2 k (Nat.mul_le_mul_right _ (by omega))
 ·subst e
  rw [seg_end (t:=s) (by omega) hn]
  have:=h3 (k * 2) (by rw [Nat.mul_assoc];omega)
  rwa [Nat.mul_assoc] at this
 ·have h4:(q+1) * (2 * s)<=k * (2 * s):=Nat.mul_le_mul_right _ (by omega)
  rw [Nat.succ_mul] at h4
  rw [seg_far (by omega)];exact srt_nil
theorem sym_half {s a b:Nat} {d:List Record} (hs:0 < s) (h:Half s a d) (h1:a+s < b) (h2:b<=d.length) (h3:b=a+2 * s\/(b=d.length/\b<=a+2 * s)):Part d (symM (b - a) a (a+s) b d) a b:=by
 obtain ⟨s1,s2⟩:=half_srt h
 refine symM_part (by omega) h1 h2 (Nat.le_refl _) ?_ ?_
 ·rw [Nat.add_sub_cancel_left];exact s1
 ·rcases h3 with h3|⟨h3,h4⟩
  ·rw [show b - (a+s)=s by omega];exact s2
  ·have:=seg_end (d:=d) (a:=a+s) (s:=s) (t:=b - (a+s)) (by omega) (by omega)
   show Srt (seg d (a+s) (b - (a+s)))
   rw [<-this];exact s2
end Go.Proofs.Ytegepioggeggaaa.Dev
namespace Go.Proofs.Ytegepioggeggaaa.Dev
def badK (r:Record):Prop:=r.kind < 1\/r.kind > 8
def badR (r:Record):Prop:=r.shop < 0\/r.shop > 7\/r.auth < 0\/r.auth > 29\/r.sum < 1\/r.sum > 1000000
instance (r:Record):Decidable (badK r):=by unfold badK;infer_instance
instance (r:Record):Decidable (badR r):=by unfold badR;infer_instance
def rErr:List Record->Int->Fault
 |[],_=>⟨0,0⟩
 |r::l,i=>if badK r then ⟨1,i⟩ else if badR r then ⟨3,i⟩ else rErr l (i+1)
def wrongR (l:List Record):Fault:=if l.length > 100 then ⟨5,0⟩ else rErr l 0
theorem rErr_drop {l:List Record} {q:Nat} {x:Record} (h:l[q]?=some x):rErr (l.drop q) q=if badK x then ⟨1,q⟩ else if badR x then ⟨3,q⟩ else rErr (l.drop (q+1)) ((q+1:Nat):Int):=by
 obtain ⟨hq,rfl⟩:=List.getElem?_eq_some_iff.1 h
 rw [List.drop_eq_getElem_cons hq];rfl
theorem rErr_over {l:List Record} {q:Nat} {i:Int} (h:l.length<=q):rErr (l.drop q) i=⟨0,0⟩:=by rw [List.drop_of_length_le h];rfl
def okR (r:Record):Prop:=¬badK r/\¬badR r
theorem rErr_ok:∀ {l:List Record} {i:Int},(rErr l i).err=0↔∀ x∈l,okR x
 |[],i=>by simp [rErr]
 |r::l,i=>by
  unfold rErr
  split
  ·rename_i h
   simp only [List.mem_cons,forall_eq_or_imp]
   exact ⟨fun e=>absurd e (by decide),fun e=>absurd h e.1.1⟩
  ·split
   ·rename_i h
    simp only [List.mem_cons,forall_eq_or_imp]
    exact ⟨fun e=>absurd e (by decide),fun e=>absurd h e.1.2⟩
   ·rename_i h1 h2
    rw [rErr_ok]
    simp only [List.mem_cons,forall_eq_or_imp]
    exact ⟨fun e=>⟨⟨h1,h2⟩,e⟩,fun e=>e.2⟩
theorem wrongR_ok {l:List Record}:(wrongR l).err=0↔l.length<=100/\∀ x∈l,okR x:=by
 unfold wrongR
 split
 ·exact ⟨fun e=>absurd e (by decide),fun e=>by omega⟩
 ·rw [rErr_ok];exact ⟨fun e=>⟨by omega,e⟩,fun e=>e.2⟩
theorem okR_b {x:Record} (h:okR x):0<=x.shop/\x.shop<=7/\0<=x.auth/\x.auth<=29/\1<=x.kind/\x.kind<=8/\1<=x.sum/\x.sum<=1000000:=by
 unfold okR badK badR at h;omega
theorem take_snocR {l:List Record} {q:Nat} {x:Record} (h:l[q]?=some x):l.take (q+1)=l.take q++[x]:=by
 rw [List.take_add_one,h];rfl
def beR (n:Int):Nat->List Int
 |0=>[]
 |k+1=>n / 256 ^ k % 256::beR n k
theorem beR_len (n:Int):∀ k,(beR n k).length=k
 |0=>rfl
 |k+1=>by unfold beR;rw [List.length_cons,beR_len n k]
theorem beR_step {n:Int} {k:Nat} (h:1<=k):beR n k=n / 256 ^ (k - 1) % 256::beR n (k - 1):=by
 obtain ⟨j,rfl⟩:∃ j,k=j+1:=⟨k - 1,by omega⟩
 rfl
theorem pow_256 (k:Nat):(2:Int) ^ (8 * k)=256 ^ k:=by rw [Int.pow_mul];rfl
theorem shr8 {k:Nat} {b n:Int} (h1:1<=k) (hb:b=8 * ((k:Int) - 1)):n / 2 ^ b.toNat=n / 256 ^ (k - 1):=by
 subst hb
 rw [show (8 * ((k:Int) - 1)).toNat=8 * (k - 1) by omega,pow_256]
def recB (x:Record):List Int:=[x.shop % 256,x.auth % 256,x.kind % 256]++beR x.sum 3
def sumR:List Record->Int
 |[]=>0
 |x::l=>x.sum+sumR l
theorem sumR_app (u v:List Record):sumR (u++v)=sumR u+sumR v:=by
 induction u with
 |nil=>simp [sumR]
 |cons x u ih=>simp only [List.cons_append,sumR,ih];omega
theorem sumR_take {l:List Record} {q:Nat} {x:Record} (h:l[q]?=some x):sumR (l.take (q+1))=sumR (l.take q)+x.sum:=by
 rw [take_snocR h,sumR_app];simp [sumR]
def headB (l r:List Record):List Int:=((l.length:Int) % 256)::r.flatMap recB
theorem headB_take {l r:List Record} {q:Nat} {x:Record} (h:r[q]?=some x):headB l (r.take (q+1))=headB l (r.take q)++recB x:=by
 unfold headB;rw [take_snocR h,List.flatMap_append];simp
theorem recB_len (x:Record):(recB x).length=6:=by unfold recB;rw [List.length_append,beR_len];rfl
theorem headB_len (l r:List Record):(headB l r).length=1+6 * r.length:=by
 unfold headB
 rw [List.length_cons]
 induction r with
 |nil=>rfl
 |cons x r ih=>rw [List.flatMap_cons,List.length_append,recB_len,List.length_cons];omega
def bytesR (l:List Record):List Int×Fault:=if (wrongR l).err=0 then (headB l (sortR l)++beR (sumR (sortR l)) 4,⟨0,0⟩) else ([],wrongR l)
end Go.Proofs.Ytegepioggeggaaa.Dev
namespace Go.Proofs.Ytegepioggeggaaa.Dev
end Go.Proofs.Ytegepioggeggaaa.Dev
namespace Go.Proofs.Ytegepioggeggaaa.Dev
def failK (e err:Int):Int:=if e=0 then err else e
def moveK (l:List Entry) (e src dst n:Int):List Entry×Int:=
 if failK e (moveB l src dst n).2=0 then ((moveB l src dst n).1,0) else (l,failK e (moveB l src dst n).2)
def shiftK (l:List Card) (e k held money:Int):List Card×Int:=
 match l[k.toNat]? with
 |none=>(l,e)
 |some c=>if failK e (shiftC c held money).2=0 then (l.set k.toNat (shiftC c held money).1,0) else (l,failK e (shiftC c held money).2)
def sendK (s:Sender) (e:Int) (t:Transfer):Sender×Int:=if failK e (putS s t).2=0 then ((putS s t).1,0) else (s,failK e (putS s t).2)
def noteK (l:List Record) (e:Int) (r:Record):List Record×Int:=if l.length=100 then (l,failK e 5) else (l++[r],e)
theorem shiftK_at {l:List Card} {e k held money:Int} {c:Card} (h:l[k.toNat]?=some c):shiftK l e k held money=if failK e (shiftC c held money).2=0 then (l.set k.toNat (shiftC c held money).1,0) else (l,failK e (shiftC c held money).2):=by
 unfold shiftK;rw [h]
def takeK (auths:List Auth) (due:List Int) (cards:List Card) (book:List Entry) (e:Int) (t:Transfer):List Int×List Card×List Entry×Int:=
 match auths[t.auth.toNat]? with
 |none=>(due,cards,book,e)
 |some a=>
  if t.kind=1 then (due.set a.shop.toNat (IntKind.i64.wrap (due.getD a.shop.toNat 0+t.sum)),cards,moveK book e 1 (50+a.shop) t.sum)
  else if t.kind=2 then (due,(shiftK cards e a.card 0 t.sum).1,moveK book (shiftK cards e a.card 0 t.sum).2 1 (10+a.card) t.sum)
  else if t.kind=3 then (due.set a.shop.toNat (IntKind.i64.wrap (due.getD a.shop.toNat 0 - t.sum)),cards,moveK book e (50+a.shop) 2 t.sum)
  else (due,cards,book,e)
structure Bk where (time:Int) (down:Bool) (cards:List Card) (due:List Int) (auths:List Auth) (s0 s1:Sender) (n0 n1:Int) (w0 w1:List Packet) (stand:Stand) (today:List Record) (book:List Entry)
 deriving DecidableEq
def endB (b c:Bk) (e:Int):Bk×Answer:=if e=0 then (c,⟨0,0⟩) else (b,⟨e,0⟩)
def loadB (b:Bk) (d:Deed):Bk×Answer:=
 if d.n < 0\/d.n>=b.cards.length then (b,⟨6,0⟩)
 else if d.sum < 1\/d.sum > 1000000 then (b,⟨3,0⟩)
 else endB b {b with cards:=(shiftK b.cards 0 d.n 0 d.sum).1,book:=(moveK b.book (shiftK b.cards 0 d.n 0 d.sum).2 0 (10+d.n) d.sum).1} (moveK b.book (shiftK b.cards 0 d.n 0 d.sum).2 0 (10+d.n) d.sum).2
def payB (b:Bk) (d:Deed):Bk×Answer:=
 if d.n < 0\/d.n>=b.due.length then (b,⟨6,0⟩)
 else if b.due.getD d.n.toNat 0<=0 then (b,⟨10,0⟩)
 else endB b {b with due:=b.due.set d.n.toNat 0,book:=(moveK b.book 0 (50+d.n) 0 (b.due.getD d.n.toNat 0)).1} (moveK b.book 0 (50+d.n) 0 (b.due.getD d.n.toNat 0)).2
def lateL (time:Int):List Auth->Nat->List Card->List Auth->Int->List Card×List Auth×Int
 |[],_,cards,auths,e=>(cards,auths,e)
 |a::l,i,cards,auths,e=>lateL time l (i+1) (shiftK cards e a.card (holdAuth (lateAuth a time) - holdAuth a) 0).1 (auths.set i (lateAuth a time)) (shiftK cards e a.card (holdAuth (lateAuth a time) - holdAuth a) 0).2
def lateB (b:Bk):Bk:=if (lateL b.time b.auths 0 b.cards b.auths 0).2.2=0 then {b with cards:=(lateL b.time b.auths 0 b.cards b.auths 0).1,auths:=(lateL b.time b.auths 0 b.cards b.auths 0).2.1} else b
def tickB (b:Bk) (d:Deed):Bk×Answer:=
 if d.sum < 0\/d.sum > 1000000 - b.time then (b,⟨3,0⟩)
 else (if b.down=true then {b with time:=b.time+d.sum} else lateB {b with time:=b.time+d.sum},⟨0,0⟩)
def packs (l:List Packet) (ks:List Transfer) (n:Int):List Packet:=l++ks.map (fun t=>⟨t,-1⟩)++[⟨⟨0,0,0,0⟩,n⟩]
def sendQ (w:List Packet) (ks:List Transfer) (n:Int):List Packet×Answer:=if (packs w ks n).length > 60 then (w,⟨5,0⟩) else (packs w ks n,⟨0,0⟩)
def sendW (s0 s1:Sender) (n0 n1:Int) (w0 w1:List Packet) (d:Deed):List Packet×List Packet×Answer:=
 if d.n=0 then (w0,sendQ w1 s0.kept n0) else if d.n=1 then ((sendQ w0 s1.kept n1).1,w1,(sendQ w0 s1.kept n1).2) else (w0,w1,⟨6,0⟩)
def overK (today:List Record) (days:List (List Int)):List Record×List (List Int)×Answer:=
 if (bytesR today).2.err≠0 then (today,days,⟨(bytesR today).2.err,0⟩) else ([],days++[(bytesR today).1],⟨0,0⟩)
def downE (e:Int):Int:=if e=10 then 12 else e
def askB (b:Bk) (d:Deed):Bk×Answer:=
 if d.n < 0\/d.n>=b.cards.length\/d.shop < 0\/d.shop>=b.due.length then (b,⟨6,0⟩)
 else if b.down=true then
  (if downE (giveStand b.stand ⟨d.n,d.shop,d.sum,b.time⟩).2=0/\(b.auths.length:Int)+(giveStand b.stand ⟨d.n,d.shop,d.sum,b.time⟩).1.advices.length > 30 then (b,⟨5,0⟩)
  else if downE (giveStand b.stand ⟨d.n,d.shop,d.sum,b.time⟩).2≠0 then (b,⟨downE (giveStand b.stand ⟨d.n,d.shop,d.sum,b.time⟩).2,0⟩)
  else ({b with stand:=(giveStand b.stand ⟨d.n,d.shop,d.sum,b.time⟩).1},⟨0,(b.auths.length:Int)+(giveStand b.stand ⟨d.n,d.shop,d.sum,b.time⟩).1.advices.length - 1⟩))
 else if (newAuth d.n d.shop d.sum b.time).2=0/\b.auths.length=30 then (b,⟨5,0⟩)
 else if (newAuth d.n d.shop d.sum b.time).2≠0 then (b,⟨(newAuth d.n d.shop d.sum b.time).2,0⟩)
 else match b.cards[d.n.toNat]? with
  |none=>(b,⟨0,0⟩)
  |some c=>
   if (allowC c d.sum b.time).2≠0 then (b,⟨(allowC c d.sum b.time).2,0⟩)
   else ({b with cards:=b.cards.set d.n.toNat (allowC c d.sum b.time).1,auths:=b.auths++[(newAuth d.n d.shop d.sum b.time).1]},⟨0,b.auths.length⟩)
theorem giveStand_len (s:Stand) (a:Advice):(giveStand s a).1.advices.length<=s.advices.length+1:=by
 unfold giveStand;(repeat' split)<;>simp [noStand]
def freeAt (cards:List Card) (k:Int):Int:=
 match cards[k.toNat]? with
 |none=>0
 |some c=>c.money - c.held
def deedK (b:Bk) (a old:Auth) (d:Deed):List Card×List Int×List Entry×Sender×Sender×Int:=
 if d.move=1\/d.move=4 then ((shiftK b.cards 0 a.card (holdAuth a - holdAuth old) 0).1,b.due,b.book,b.s0,b.s1,(shiftK b.cards 0 a.card (holdAuth a - holdAuth old) 0).2)
 else if d.move=2\/d.move=3 then
  ((shiftK b.cards 0 a.card (holdAuth a - holdAuth old) (0 - d.sum)).1,b.due,(moveK b.book (shiftK b.cards 0 a.card (holdAuth a - holdAuth old) (0 - d.sum)).2 (10+a.card) 1 d.sum).1,
   (sendK b.s0 (moveK b.book (shiftK b.cards 0 a.card (holdAuth a - holdAuth old) (0 - d.sum)).2 (10+a.card) 1 d.sum).2 ⟨0,1,d.n,d.sum⟩).1,b.s1,
   (sendK b.s0 (moveK b.book (shiftK b.cards 0 a.card (holdAuth a - holdAuth old) (0 - d.sum)).2 (10+a.card) 1 d.sum).2 ⟨0,1,d.n,d.sum⟩).2)
 else if d.move=5 then
  (b.cards,b.due.set a.shop.toNat (IntKind.i64.wrap (b.due.getD a.shop.toNat 0 - d.sum)),(moveK b.book 0 (50+a.shop) 1 d.sum).1,b.s0,(sendK b.s1 (moveK b.book 0 (50+a.shop) 1 d.sum).2 ⟨0,2,d.n,d.sum⟩).1,(sendK b.s1 (moveK b.book 0 (50+a.shop) 1 d.sum).2 ⟨0,2,d.n,d.sum⟩).2)
 else if d.move=6 then ((shiftK b.cards 0 a.card 0 d.sum).1,b.due,(moveK b.book (shiftK b.cards 0 a.card 0 d.sum).2 2 (10+a.card) d.sum).1,b.s0,b.s1,(moveK b.book (shiftK b.cards 0 a.card 0 d.sum).2 2 (10+a.card) d.sum).2)
 else if d.move=7 then (b.cards,b.due,b.book,(sendK b.s0 0 ⟨0,3,d.n,d.sum⟩).1,b.s1,(sendK b.s0 0 ⟨0,3,d.n,d.sum⟩).2)
 else if d.move=8 then ((shiftK b.cards 0 a.card 0 (0 - d.sum)).1,b.due,(moveK b.book (shiftK b.cards 0 a.card 0 (0 - d.sum)).2 (10+a.card) 2 d.sum).1,b.s0,b.s1,(moveK b.book (shiftK b.cards 0 a.card 0 (0 - d.sum)).2 (10+a.card) 2 d.sum).2)
 else (b.cards,b.due,b.book,b.s0,b.s1,0)
def doneB (b:Bk) (a:Auth) (d:Deed) (r:List Card×List Int×List Entry×Sender×Sender×Int):Bk×Answer:=
 endB b { b with cards := r.1, due := r.2.1, book := r.2.2.1, s0 := r.2.2.2.1, s1 := r.2.2.2.2.1, today := (noteK b.today r.2.2.2.2.2 ⟨a.shop, d.n, d.move, d.sum⟩).1, auths := b.auths.set d.n.toNat a } (noteK b.today r.2.2.2.2.2 ⟨a.shop, d.n, d.move, d.sum⟩).2
def becomeB (b:Bk) (d:Deed):Bk×Answer:=
 if b.down=true then (b,⟨12,0⟩)
 else if d.n < 0\/d.n>=b.auths.length then (b,⟨6,0⟩)
 else match b.auths[d.n.toNat]? with
  |none=>(b,⟨0,0⟩)
  |some old=>
   if (moveAuth old d.move d.sum).2≠0 then (b,⟨(moveAuth old d.move d.sum).2,0⟩)
   else if d.move=1/\d.sum > freeAt b.cards (moveAuth old d.move d.sum).1.card then (b,⟨10,0⟩)
   else doneB b (moveAuth old d.move d.sum).1 d (deedK b (moveAuth old d.move d.sum).1 old d)
theorem wrong_of {a:Auth} (h:0<=a.sum/\a.sum<=1000000/\0<=a.captured/\a.captured<=a.sum/\0<=a.refunded/\0<=a.disputed/\a.refunded+a.disputed<=a.captured/\0<=a.card/\a.card<=7/\0<=a.shop/\a.shop<=7/\0<=a.till/\a.till<=1000100):wrongAuth a=0:=by
 unfold wrongAuth;rw [if_neg (by omega),if_neg (by omega)]
theorem pair_eq {α:Type} {x b:α} {e:Int} (h:(x,e)=(b,(0:Int))):x=b/\e=0:=Prod.mk.inj h
theorem openAuth_ok {a b:Auth} {k n:Int} (hw:wrongAuth a=0) (h1:1<=n) (h2:n<=1000000) (h:openAuth a k n=(b,0)):wrongAuth b=0/\b.card=a.card/\b.shop=a.shop:=by
 have hr:=rightAuth hw
 unfold openAuth at h
 by_cases c1:a.shut=true
 ·rw [if_pos c1] at h;have:=(pair_eq h).2;omega
 rw [if_neg c1] at h
 by_cases c2:k=1
 ·rw [if_pos c2] at h
  by_cases c3:n > 1000000 - a.sum
  ·rw [if_pos c3] at h;have:=(pair_eq h).2;omega
  ·rw [if_neg c3] at h;obtain ⟨rfl,_⟩:=pair_eq h
   exact ⟨wrong_of (by dsimp only;omega),rfl,rfl⟩
 rw [if_neg c2] at h
 by_cases c3:n > a.sum - a.captured
 ·rw [if_pos c3] at h;have:=(pair_eq h).2;omega
 rw [if_neg c3] at h
 by_cases c4:k=4
 ·rw [if_pos c4] at h;obtain ⟨rfl,_⟩:=pair_eq h
  exact ⟨wrong_of (by dsimp only;omega),rfl,rfl⟩
 ·rw [if_neg c4] at h;obtain ⟨rfl,_⟩:=pair_eq h
  exact ⟨wrong_of (by dsimp only;omega),rfl,rfl⟩
theorem moveAuth_ok {a b:Auth} {k n:Int} (h:moveAuth a k n=(b,0)):wrongAuth a=0/\wrongAuth b=0/\b.card=a.card/\b.shop=a.shop/\1<=k/\k<=8/\1<=n/\n<=1000000:=by
 unfold moveAuth at h
 by_cases c0:wrongAuth a≠0
 ·rw [if_pos c0] at h;exact absurd (pair_eq h).2 c0
 rw [if_neg c0] at h
 have hw:wrongAuth a=0:=by omega
 have hr:=rightAuth hw
 by_cases c1:k < 1\/k > 8
 ·rw [if_pos c1] at h;have:=(pair_eq h).2;omega
 rw [if_neg c1] at h
 by_cases c2:n < 1\/n > 1000000
 ·rw [if_pos c2] at h;have:=(pair_eq h).2;omega
 rw [if_neg c2] at h
 have hb:wrongAuth b=0/\b.card=a.card/\b.shop=a.shop:=by
  by_cases k5:k=5
  ·rw [if_pos k5] at h
   by_cases c:n > a.captured - a.refunded - a.disputed
   ·rw [if_pos c] at h;have:=(pair_eq h).2;omega
   ·rw [if_neg c] at h;obtain ⟨rfl,_⟩:=pair_eq h;exact ⟨wrong_of (by dsimp only;omega),rfl,rfl⟩
  rw [if_neg k5] at h
  by_cases k6:k=6
  ·rw [if_pos k6] at h
   by_cases c:n > a.captured - a.refunded - a.disputed
   ·rw [if_pos c] at h;have:=(pair_eq h).2;omega
   ·rw [if_neg c] at h;obtain ⟨rfl,_⟩:=pair_eq h;exact ⟨wrong_of (by dsimp only;omega),rfl,rfl⟩
  rw [if_neg k6] at h
  by_cases k7:k=7
  ·rw [if_pos k7] at h
   by_cases c:n > a.disputed
   ·rw [if_pos c] at h;have:=(pair_eq h).2;omega
   ·rw [if_neg c] at h;obtain ⟨rfl,_⟩:=pair_eq h;exact ⟨wrong_of (by dsimp only;omega),rfl,rfl⟩
  rw [if_neg k7] at h
  by_cases k8:k=8
  ·rw [if_pos k8] at h
   by_cases c:n > a.disputed
   ·rw [if_pos c] at h;have:=(pair_eq h).2;omega
   ·rw [if_neg c] at h;obtain ⟨rfl,_⟩:=pair_eq h;exact ⟨wrong_of (by dsimp only;omega),rfl,rfl⟩
  rw [if_neg k8] at h
  by_cases c:(openAuth a k n).2≠0
  ·rw [if_pos c] at h;exact absurd (pair_eq h).2 c
  ·rw [if_neg c] at h;exact openAuth_ok hw (by omega) (by omega) h
 exact ⟨hw,hb.1,hb.2.1,hb.2.2,by omega,by omega,by omega,by omega⟩
theorem wrongC_b {c:Card} (h:wrongC c=0):-9223372036854775808<=c.money - c.held/\c.money - c.held<=9223372036854775807:=by
 have:=rightC h;omega
def upL:List Advice->List Card->List Auth->List Card×List Auth×Int
 |[],cs,xs=>(cs,xs,0)
 |x::l,cs,xs=>
  if (newAuth x.card x.shop x.sum x.time).2≠0 then (cs,xs,(newAuth x.card x.shop x.sum x.time).2)
  else match cs[x.card.toNat]? with
   |none=>(cs,xs,0)
   |some c=>if (forceC c x.sum).2≠0 then (cs,xs,(forceC c x.sum).2) else upL l (cs.set x.card.toNat (forceC c x.sum).1) (xs++[(newAuth x.card x.shop x.sum x.time).1])
theorem upL_drop {l:List Advice} {q:Nat} {x:Advice} {cs:List Card} {xs:List Auth} (h:l[q]?=some x):upL (l.drop q) cs xs=
  if (newAuth x.card x.shop x.sum x.time).2≠0 then (cs,xs,(newAuth x.card x.shop x.sum x.time).2)
  else match cs[x.card.toNat]? with
   |none=>(cs,xs,0)
   |some c=>if (forceC c x.sum).2≠0 then (cs,xs,(forceC c x.sum).2) else upL (l.drop (q+1)) (cs.set x.card.toNat (forceC c x.sum).1) (xs++[(newAuth x.card x.shop x.sum x.time).1]):=by
 obtain ⟨hq,rfl⟩:=List.getElem?_eq_some_iff.1 h
 rw [List.drop_eq_getElem_cons hq];rfl
def upB (b:Bk):Bk×Answer:=
 if b.down=false then (b,⟨8,0⟩)
 else if (clearStand b.stand).2.2≠0 then (b,⟨(clearStand b.stand).2.2,0⟩)
 else if (upL (clearStand b.stand).2.1 b.cards b.auths).2.2≠0 then (b,⟨(upL (clearStand b.stand).2.1 b.cards b.auths).2.2,0⟩)
 else (lateB {b with cards:=(upL (clearStand b.stand).2.1 b.cards b.auths).1,auths:=(upL (clearStand b.stand).2.1 b.cards b.auths).2.1,stand:=(clearStand b.stand).1,down:=false},⟨0,0⟩)
def arrive0 (b:Bk) (d:Deed):Bk×Answer:=
 match b.w0[0]? with
 |none=>(b,⟨6,0⟩)
 |some p=>
  if d.kind=7 then ({b with w0:=b.w0.drop 1},⟨0,0⟩)
  else if p.seen>=0 then (if (backS b.s0 p.seen).2=0 then ({b with w0:=b.w0.drop 1,s0:=(backS b.s0 p.seen).1},⟨0,0⟩) else (b,⟨(backS b.s0 p.seen).2,0⟩))
  else if (takeS b.n0 p.transfer).2=true then
   endB b { b with w0 := b.w0.drop 1, n0 := (takeS b.n0 p.transfer).1, due := (takeK b.auths b.due b.cards b.book 0 p.transfer).1, cards := (takeK b.auths b.due b.cards b.book 0 p.transfer).2.1, book := (takeK b.auths b.due b.cards b.book 0 p.transfer).2.2.1 } (takeK b.auths b.due b.cards b.book 0 p.transfer).2.2.2
  else ({b with w0:=b.w0.drop 1,n0:=(takeS b.n0 p.transfer).1},⟨0,0⟩)
def arrive1 (b:Bk) (d:Deed):Bk×Answer:=
 match b.w1[0]? with
 |none=>(b,⟨6,0⟩)
 |some p=>
  if d.kind=7 then ({b with w1:=b.w1.drop 1},⟨0,0⟩)
  else if p.seen>=0 then (if (backS b.s1 p.seen).2=0 then ({b with w1:=b.w1.drop 1,s1:=(backS b.s1 p.seen).1},⟨0,0⟩) else (b,⟨(backS b.s1 p.seen).2,0⟩))
  else if (takeS b.n1 p.transfer).2=true then
   endB b { b with w1 := b.w1.drop 1, n1 := (takeS b.n1 p.transfer).1, due := (takeK b.auths b.due b.cards b.book 0 p.transfer).1, cards := (takeK b.auths b.due b.cards b.book 0 p.transfer).2.1, book := (takeK b.auths b.due b.cards b.book 0 p.transfer).2.2.1 } (takeK b.auths b.due b.cards b.book 0 p.transfer).2.2.2
  else ({b with w1:=b.w1.drop 1,n1:=(takeS b.n1 p.transfer).1},⟨0,0⟩)
def arriveB (b:Bk) (d:Deed):Bk×Answer:=if d.n=0 then arrive0 b d else if d.n=1 then arrive1 b d else (b,⟨6,0⟩)
def doB (b:Bk) (days:List (List Int)) (d:Deed):Bk×List (List Int)×Answer:=
 if d.kind=1 then ((loadB b d).1,days,(loadB b d).2)
 else if d.kind=2 then ((askB b d).1,days,(askB b d).2)
 else if d.kind=3 then ((becomeB b d).1,days,(becomeB b d).2)
 else if d.kind=4 then ((tickB b d).1,days,(tickB b d).2)
 else if d.kind=5 then ({b with w0:=(sendW b.s0 b.s1 b.n0 b.n1 b.w0 b.w1 d).1,w1:=(sendW b.s0 b.s1 b.n0 b.n1 b.w0 b.w1 d).2.1},days,(sendW b.s0 b.s1 b.n0 b.n1 b.w0 b.w1 d).2.2)
 else if d.kind=6\/d.kind=7 then ((arriveB b d).1,days,(arriveB b d).2)
 else if d.kind=8 then (if b.down=true then (b,days,⟨8,0⟩) else ({b with down:=true},days,⟨0,0⟩))
 else if d.kind=9 then ((upB b).1,days,(upB b).2)
 else if d.kind=10 then ({b with today:=(overK b.today days).1},(overK b.today days).2.1,(overK b.today days).2.2)
 else if d.kind=11 then ((payB b d).1,days,(payB b d).2)
 else (b,days,⟨1,0⟩)
def onceB (b:Bk) (days:List (List Int)) (told:List (Int×Answer)) (cl:Nat) (d:Deed):Bk×List (List Int)×List (Int×Answer)×Nat×Answer:=
 if (tget told d.id).isSome=true/\d.id≠0 then (b,days,told,cl,(tget told d.id).getD ⟨0,0⟩)
 else ((doB b days d).1,(doB b days d).2.1,tput told d.id (doB b days d).2.2,if (tget told d.id).isSome then cl else cl+1,(doB b days d).2.2)
structure Setup where (paces:List Pace) (shops cap:Int)
 deriving DecidableEq
def pErr:List Pace->Int->Fault
 |[],_=>⟨0,0⟩
 |p::l,i=>if wrongP p≠0 then ⟨wrongP p,i⟩ else pErr l (i+1)
theorem pErr_drop {l:List Pace} {q:Nat} {p:Pace} (h:l[q]?=some p):pErr (l.drop q) q=if wrongP p≠0 then ⟨wrongP p,q⟩ else pErr (l.drop (q+1)) ((q+1:Nat):Int):=by
 obtain ⟨hq,rfl⟩:=List.getElem?_eq_some_iff.1 h
 rw [List.drop_eq_getElem_cons hq];rfl
def wrongSet (s:Setup):Fault:=
 if s.paces.length > 8\/s.shops < 0\/s.shops > 8 then ⟨5,0⟩ else if s.cap < 0\/s.cap > 1000000 then ⟨3,0⟩ else pErr s.paces 0
def noBk:Bk:=⟨0,false,[],[],[],⟨0,[]⟩,⟨0,[]⟩,0,0,[],[],⟨0,[],[]⟩,[],[]⟩
def cardP (p:Pace):Card:=⟨0,0,p,[]⟩
def startB (s:Setup):Bk:=⟨0,false,s.paces.map cardP,List.replicate s.shops.toNat 0,[],⟨0,[]⟩,⟨0,[]⟩,0,0,[],[],(newStand s.cap s.paces.length).1,[],[]⟩
def playL:List Deed->Bk->List (List Int)->List (Int×Answer)->Nat->List Answer->Bk×List (List Int)×List Answer
 |[],b,days,_,_,out=>(b,days,out)
 |d::l,b,days,told,cl,out=>playL l (onceB b days told cl d).1 (onceB b days told cl d).2.1 (onceB b days told cl d).2.2.1 (onceB b days told cl d).2.2.2.1 (out++[(onceB b days told cl d).2.2.2.2])
theorem playL_drop {l:List Deed} {q:Nat} {d:Deed} {b:Bk} {days:List (List Int)} {told:List (Int×Answer)} {cl:Nat} {out:List Answer} (h:l[q]?=some d):
  playL (l.drop q) b days told cl out=playL (l.drop (q+1)) (onceB b days told cl d).1 (onceB b days told cl d).2.1 (onceB b days told cl d).2.2.1 (onceB b days told cl d).2.2.2.1 (out++[(onceB b days told cl d).2.2.2.2]):=by
 obtain ⟨hq,rfl⟩:=List.getElem?_eq_some_iff.1 h
 rw [List.drop_eq_getElem_cons hq];rfl
def playR (s:Setup) (l:List Deed):Bk×List (List Int)×List Answer×Fault:=
 if (wrongSet s).err≠0 then (noBk,[],[],wrongSet s) else if l.length > 150 then (noBk,[],[],⟨5,0⟩)
 else ((playL l (startB s) [] [] 0 []).1,(playL l (startB s) [] [] 0 []).2.1,(playL l (startB s) [] [] 0 []).2.2,⟨0,0⟩)
theorem lateL_drop {time:Int} {l:List Auth} {q:Nat} {a:Auth} {cards:List Card} {auths:List Auth} {e:Int} (h:l[q]?=some a):lateL time (l.drop q) q cards auths e=
  lateL time (l.drop (q+1)) (q+1) (shiftK cards e a.card (holdAuth (lateAuth a time) - holdAuth a) 0).1 (auths.set q (lateAuth a time)) (shiftK cards e a.card (holdAuth (lateAuth a time) - holdAuth a) 0).2:=by
 obtain ⟨hq,rfl⟩:=List.getElem?_eq_some_iff.1 h
 rw [List.drop_eq_getElem_cons hq];rfl
theorem shiftK_len (l:List Card) (e k held money:Int):(shiftK l e k held money).1.length=l.length:=by
 unfold shiftK
 split
 ·rfl
 ·split<;>simp
theorem late_ok {a:Auth} {t:Int} (h:wrongAuth a=0):wrongAuth (lateAuth a t)=0:=by
 unfold wrongAuth at h ⊢;unfold lateAuth;exact h
theorem hold_b {a:Auth} (h:wrongAuth a=0):0<=holdAuth a/\holdAuth a<=1000000:=by
 have:=rightAuth h
 unfold holdAuth;split<;>omega
structure Okb (b:Bk):Prop where
 time:0<=b.time/\b.time<=1000000
 cards:b.cards.length<=8
 due:b.due.length<=8
 auths:b.auths.length+b.stand.advices.length<=30
 today:b.today.length<=100
 w0:b.w0.length<=60
 w1:b.w1.length<=60
 perm:∀ a∈b.auths,wrongAuth a=0/\0<=a.card/\a.card < b.cards.length/\0<=a.shop/\a.shop < b.due.length
 adv:∀ a∈b.stand.advices,0<=a.card/\a.card < b.cards.length/\0<=a.shop/\a.shop < b.due.length
 k0:∀ t∈b.s0.kept,InI t.number/\0<=t.auth/\t.auth < b.auths.length
 k1:∀ t∈b.s1.kept,InI t.number/\0<=t.auth/\t.auth < b.auths.length
 right:∀ c∈b.cards,wrongC c=0
 l0:b.s0.kept.length<=40
 l1:b.s1.kept.length<=40
 p0:∀ p∈b.w0,p.seen < 0->InI p.transfer.number/\0<=p.transfer.auth/\p.transfer.auth < b.auths.length
 p1:∀ p∈b.w1,p.seen < 0->InI p.transfer.number/\0<=p.transfer.auth/\p.transfer.auth < b.auths.length
 n0:0<=b.n0
 n1:0<=b.n1
 calm:b.down=false->b.stand.advices=[]
theorem Okb.tick {b:Bk} (h:Okb b) {t:Int} (h0:0<=t) (h1:t<=1000000):Okb {b with time:=t}:=
 ⟨⟨h0,h1⟩,h.cards,h.due,h.auths,h.today,h.w0,h.w1,h.perm,h.adv,h.k0,h.k1,h.right,h.l0,h.l1,h.p0,h.p1,h.n0,h.n1,h.calm⟩
end Go.Proofs.Ytegepioggeggaaa.Dev
namespace Go.Proofs.Ytegepioggeggaaa.Dev
open Go.RowKit
open Go.ChangeShapes Go.WideShapes Go.Deep Go.Joins
end Go.Proofs.Ytegepioggeggaaa.Dev
namespace Go.Proofs.Ytegepioggeggaaa.Dev
open Go.RowKit

def bkL (b:Bk) (i j k m:Nat) (u v:CV):List CV:=[(cI b.time),(cB b.down),(.s i 0 6 b.cards.length),(.s j 0 1 b.due.length),(.s k 0 8 b.auths.length),(cI b.s0.sent),(vlT b.s0.kept),(cI b.s1.sent),(vlT b.s1.kept),(cI b.n0),(cI b.n1),(vlK b.w0),(vlK b.w1),(cI b.stand.cap),(vlI b.stand.used),(vlA b.stand.advices),(.s m 0 4 b.today.length),u,(vlE b.book),v]
def rwL (x:Nat->Value):List CV:=[.d (.v (x 0)),.d (.v (x 1)),.d (.v (x 2)),.d (.v (x 3)),.d (.v (x 4)),.d (.v (x 5)),.d (.v (x 6)),.d (.v (x 7)),.d (.v (x 8)),.d (.v (x 9)),.d (.v (x 10)),.d (.v (x 11)),.d (.v (x 12)),.d (.v (x 13)),.d (.v (x 14)),.d (.v (x 15)),.d (.v (x 16)),.d (.v (x 17)),.d (.v (x 18)),.d (.v (x 19))]
def nmL:List (Option CV):=[none,none,none,none,none,none,none,none,none,none,none,none,none,none,none,none,none,none,none,none]
def bkM (b:Bk) (i j k m:Nat) (u v:Option CV):List (Option CV):=[some (cI b.time),some (cB b.down),some (.s i 0 6 b.cards.length),some (.s j 0 1 b.due.length),some (.s k 0 8 b.auths.length),some (cI b.s0.sent),some (vlT b.s0.kept),some (cI b.s1.sent),some (vlT b.s1.kept),some (cI b.n0),some (cI b.n1),some (vlK b.w0),some (vlK b.w1),some (cI b.stand.cap),some (vlI b.stand.used),some (vlA b.stand.advices),some (.s m 0 4 b.today.length),u,some (vlE b.book),v]
end Go.Proofs.Ytegepioggeggaaa.Dev
namespace Go.Proofs.Ytegepioggeggaaa.Dev
open Go.RowKit


set_option maxRecDepth 100000 in
set_option maxHeartbeats 1000000 in
theorem c_pace_Wrong (a b c:Int):Fn Try.prog 44 [(.g [(cI a),(cI b),(cI c)])] (aI (wrongPace a b c)) []:=by
 refine Fn.mk' 31 [(0,(aG [(cI a),(cI b),(cI c)]))] Try.func44 rfl rfl rfl rfl ?_
 intro W0 T0
 refine AC.goes ttk 2 rfl ?_
 refine AC.seq ?_
 refine AC.cutB 30 ((((((decide (a < 1))||(decide (a > 1000000)))||(decide (b < 0)))||(decide (b > 30)))||(decide (c < 0)))||(decide (c > 1000000000000))) ?_ ?_
 ·
  refine AC.region ?_
  refine AL.runs ttk 4 rfl ?_
  refine AL.dec (t:=6) rfl (fun hb1=>?_) (fun hb1=>?_)
  ·
   have hb1':=of_decide_eq_true hb1
   refine AL.runs ttk 24 rfl ?_
   refine AL.nx ?_
   exact Weak.popB 29 rfl rfl (by first|(simp [hb1];done)|(simp_all;done)|(exfalso;simp_all;done)|(simp_all;omega)) rfl
  have hb1':=of_decide_eq_false hb1
  refine AL.runs ttk 5 rfl ?_
  refine AL.dec (t:=11) rfl (fun hb2=>?_) (fun hb2=>?_)
  ·
   have hb2':=of_decide_eq_true hb2
   refine AL.runs ttk 19 rfl ?_
   refine AL.nx ?_
   exact Weak.popB 30 rfl rfl (by first|(simp [hb1,hb2];done)|(simp_all;done)|(exfalso;simp_all;done)|(simp_all;omega)) rfl
  have hb2':=of_decide_eq_false hb2
  refine AL.runs ttk 5 rfl ?_
  refine AL.dec (t:=16) rfl (fun hb3=>?_) (fun hb3=>?_)
  ·
   have hb3':=of_decide_eq_true hb3
   refine AL.runs ttk 14 rfl ?_
   refine AL.nx ?_
   exact Weak.popB 31 rfl rfl (by first|(simp [hb1,hb2,hb3];done)|(simp_all;done)|(exfalso;simp_all;done)|(simp_all;omega)) rfl
  have hb3':=of_decide_eq_false hb3
  refine AL.runs ttk 5 rfl ?_
  refine AL.dec (t:=21) rfl (fun hb4=>?_) (fun hb4=>?_)
  ·
   have hb4':=of_decide_eq_true hb4
   refine AL.runs ttk 9 rfl ?_
   refine AL.nx ?_
   exact Weak.popB 32 rfl rfl (by first|(simp [hb1,hb2,hb3,hb4];done)|(simp_all;done)|(exfalso;simp_all;done)|(simp_all;omega)) rfl
  have hb4':=of_decide_eq_false hb4
  refine AL.runs ttk 5 rfl ?_
  refine AL.dec (t:=26) rfl (fun hb5=>?_) (fun hb5=>?_)
  ·
   have hb5':=of_decide_eq_true hb5
   refine AL.runs ttk 4 rfl ?_
   refine AL.nx ?_
   exact Weak.popB 33 rfl rfl (by first|(simp [hb1,hb2,hb3,hb4,hb5];done)|(simp_all;done)|(exfalso;simp_all;done)|(simp_all;omega)) rfl
  have hb5':=of_decide_eq_false hb5
  refine AL.runs ttk 4 rfl ?_
  refine AL.nx ?_
  exact Weak.popB 33 rfl rfl (by first|(simp [hb1,hb2,hb3,hb4,hb5];done)|(simp_all;done)|(exfalso;simp_all;done)|(simp_all;omega)) rfl
 refine AC.cond rfl (fun hc6=>?_) (fun hc6=>?_)
 ·
  have hc6':=hc6;try simp only [sumB,dns] at hc6'
  refine AC.goes ttk 1 rfl ?_
  refine AC.ret ?_
  refine then_ret ?_
  refine retQ_go ttk [] 0 rfl rfl rfl rfl rfl rfl ?_ ?_
  ·(show aI _=aI _;unfold wrongPace;rw [if_pos (by omega)])
  ·rfl
 have hc6':=hc6;try simp only [sumB,dns] at hc6'
 refine AC.sk ?_
 refine AC.goes ttk 1 rfl ?_
 refine AC.ret ?_
 refine retQ_go ttk [] 0 rfl rfl rfl rfl rfl rfl ?_ ?_
 ·(show aI _=aI _;unfold wrongPace;rw [if_neg (by omega)])
 ·rfl
end Go.Proofs.Ytegepioggeggaaa.Dev
namespace Go.Proofs.Ytegepioggeggaaa.Dev
open Go.RowKit

set_option maxRecDepth 100000 in
set_option maxHeartbeats 1000000 in
theorem c_pace_Uses (l:List Use):Fn Try.prog 45 [(.c (vlU l))] (aG [cI (uses l).1,cI (uses l).2]) []:=by
 refine Fn.mk' 53 [(0,(aC (vlU l)))] Try.func45 rfl rfl rfl rfl ?_
 intro W0 T0
 refine AC.len1 0 rfl (fun hlen0=>?_)
 refine AC.goes ttk 1 rfl ?_
 refine AC.seq ?_
 refine AC.go ttk 1 rfl ?_
 refine AL.vl (g_lenM rfl rfl rfl rfl rfl Try.underlying59) rfl ?_
 refine AL.runs ttk 1 rfl ?_
 refine AL.nx ?_
 refine AC.cond rfl (fun hc1=>?_) (fun hc1=>?_)
 ·
  have hc1':=of_decide_eq_true hc1
  refine AC.goes ttk 2 rfl ?_
  refine AC.ret ?_
  refine then_ret ?_
  refine retQ_go ttk [0] 0 rfl rfl rfl rfl rfl rfl ?_ ?_
  ·(have h:uses l=(5,0):=by (unfold uses;rw [if_pos (by omega)]));rw [h];rfl
  ·rfl
 have hc1':=of_decide_eq_false hc1
 refine AC.sk ?_
 refine AC.seq ?_
 refine AC.go ttk 1 rfl ?_
 refine AL.vl (g_lenM rfl rfl rfl rfl rfl Try.underlying59) rfl ?_
 refine AL.runs ttk 1 rfl ?_
 refine AL.nx ?_
 refine AC.block ?_
 refine AC.loop (β:=Nat) (fun (q:Nat)=>⟨[(0,(aC (vlU l))),(2,(aC (.p 0 0 0 0))),(9,(aC (vlU l))),(10,(aI (↑l.length:Int))),(11,(aI (↑q:Int)))],[(0,(.box 50 [(cI 0),(cI 0)]))],1⟩) (fun (q:Nat)=>q<=l.length/\scan (uErr l) 0 l.length=scan (uErr l) q (l.length - q)) (fun (q:Nat)=>l.length - q) 0 ?_ ?_ ?_
 ·exact ⟨by omega,rfl⟩
 ·exact Weak.ren id (by refine ⟨?_,?_,?_,?_,?_,trivial⟩<;>first|rfl|(simp only [mps];done)|(congr 3;omega)|(congr 4;omega)|(simp only [lns];rfl)) (⟨by first|rfl|(simp only [mps];done)|(congr 3;omega)|(congr 4;omega)|(simp only [lns];rfl),trivial⟩) rfl
 rintro q ⟨hi0_0,hi0_1⟩
 refine AC.goes ttk 1 rfl ?_
 refine AC.seq ?_
 refine AC.cond rfl (fun hc2=>?_) (fun hc2=>?_)
 ·
  have hc2':=of_decide_eq_true hc2
  refine AC.sk ?_
  refine AC.seq ?_
  refine AC.block ?_
  refine AC.go ttk 1 rfl ?_
  obtain ⟨x1,hx1⟩:=exget (xs:=l) (i:=q) (by first|omega|(simp;done)|(simp;omega))
  refine AL.vl (g_indexQ (i:=q) rfl rfl rfl Try.underlying59 sz125 (by first|omega|(simp;done)|(simp;omega)) (getmap hx1)) rfl ?_
  refine AL.runs ttk 4 rfl ?_
  refine AL.nx ?_
  refine AC.seq ?_
  refine AC.cutB 33 ((((decide (x1.time < 0))||(decide (x1.time > 1000000)))||(decide (x1.sum < 0)))||(decide (x1.sum > 1000000))) ?_ ?_
  ·
   refine AC.region ?_
   refine AL.runs ttk 4 rfl ?_
   refine AL.dec (t:=19) rfl (fun hb3=>?_) (fun hb3=>?_)
   ·
    have hb3':=of_decide_eq_true hb3
    refine AL.runs ttk 14 rfl ?_
    refine AL.nx ?_
    exact Weak.popB 19 rfl rfl (by first|(simp [hb3];done)|(simp_all;done)|(exfalso;simp_all;done)|(simp_all;omega)) rfl
   have hb3':=of_decide_eq_false hb3
   refine AL.runs ttk 5 rfl ?_
   refine AL.dec (t:=24) rfl (fun hb4=>?_) (fun hb4=>?_)
   ·
    have hb4':=of_decide_eq_true hb4
    refine AL.runs ttk 9 rfl ?_
    refine AL.nx ?_
    exact Weak.popB 20 rfl rfl (by first|(simp [hb3,hb4];done)|(simp_all;done)|(exfalso;simp_all;done)|(simp_all;omega)) rfl
   have hb4':=of_decide_eq_false hb4
   refine AL.runs ttk 5 rfl ?_
   refine AL.dec (t:=29) rfl (fun hb5=>?_) (fun hb5=>?_)
   ·
    have hb5':=of_decide_eq_true hb5
    refine AL.runs ttk 4 rfl ?_
    refine AL.nx ?_
    exact Weak.popB 21 rfl rfl (by first|(simp [hb3,hb4,hb5];done)|(simp_all;done)|(exfalso;simp_all;done)|(simp_all;omega)) rfl
   have hb5':=of_decide_eq_false hb5
   refine AL.runs ttk 4 rfl ?_
   refine AL.nx ?_
   exact Weak.popB 21 rfl rfl (by first|(simp [hb3,hb4,hb5];done)|(simp_all;done)|(exfalso;simp_all;done)|(simp_all;omega)) rfl
  refine AC.cond rfl (fun hc6=>?_) (fun hc6=>?_)
  ·
   have hc6':=hc6;try simp only [sumB,dns] at hc6'
   refine AC.goes ttk 3 rfl ?_
   refine AC.ret ?_
   refine then_ret ?_
   refine block_ret ?_
   refine then_ret ?_
   refine then_ret ?_
   refine block_ret ?_
   refine then_ret ?_
   refine retQ_go ttk [0] 0 rfl rfl rfl rfl rfl rfl ?_ ?_
   ·(have h:uses l=(3,(q:Int)):=by (unfold uses;rw [if_neg (by omega),hi0_1];exact scan_bad (by omega) (show uErr l q=3 by (unfold uErr;simp only [hx1];rw [if_pos (by omega)])) (by decide)));rw [h];rfl
   ·rfl
  have hc6':=hc6;try simp only [sumB,dns] at hc6'
  refine AC.sk ?_
  refine AC.seq ?_
  rcases Bool.eq_false_or_eq_true (decide ((↑q:Int) > 0)) with hb7|hb7
  ·
   have hb7':=of_decide_eq_true hb7
   obtain ⟨x2,hx2⟩:=exget (xs:=l) (i:=(q) - 1) (by first|omega|(simp;done)|(simp;omega))
   refine AC.drawP [0,2,9,10,11,4,3] [1,0] mixed rfl rfl ?_
   refine PD.runs (kn:=[(37,true)]) ttk 5 rfl ⟨hb7,trivial⟩ ?_
   refine PD.op (n':=2) [40,38] [] rfl rfl (.inl ⟨(Wanted.yes rfl rfl rfl),GOp.cast (g_binI rfl rfl rfl (wrap_ok (by first|omega|(simp;done)|(simp;omega)))) rfl⟩) rfl ?_
   refine PD.op (n':=2) [39,41,38] [] rfl rfl (.inl ⟨(Wanted.yes rfl rfl rfl),GOp.cast (g_indexQ (i:=(q) - 1) rfl rfl rfl Try.underlying59 sz125 (by first|omega|(simp;done)|(simp;omega)) (getmap hx2)) rfl⟩) rfl ?_
   refine PD.runs (kn:=[]) ttk 6 rfl trivial ?_
   refine PD.fin [1,0] rfl rfl rfl rfl (by kernel_rfl) ?_
   refine AL.nx ?_
   refine AC.cond rfl (fun hc8=>?_) (fun hc8=>?_)
   ·
    have hc8':=of_decide_eq_true hc8
    refine AC.goes ttk 3 rfl ?_
    refine AC.ret ?_
    refine block_ret ?_
    refine then_ret ?_
    refine then_ret ?_
    refine block_ret ?_
    refine then_ret ?_
    refine retQ_go ttk [0] 0 rfl rfl rfl rfl rfl rfl ?_ ?_
    ·(have h:uses l=(2,(q:Int)):=by (unfold uses;rw [if_neg (by omega),hi0_1];exact scan_bad (by omega) (show uErr l q=2 by (unfold uErr;simp only [hx1];rw [if_neg (by omega),if_pos (by refine ⟨by omega,?_⟩;rw [List.getD_eq_getElem?_getD,hx2];simp only [Option.getD_some];omega)])) (by decide)));rw [h];rfl
    ·rfl
   have hc8':=of_decide_eq_false hc8
   refine AC.skip ?_
   refine block_ok ?_
   refine then_ok ?_
   refine AC.region ?_
   refine AL.vl (g_binI rfl rfl rfl (wrap_ok (by first|omega|(simp;done)|(simp;omega)))) rfl ?_
   refine AL.runs ttk 1 rfl ?_
   refine AL.nx ?_
   refine ⟨q+1,⟨by omega,by rw [hi0_1];exact scan_ok (by omega) (by unfold uErr;simp only [hx1];rw [if_neg (by omega),if_neg (by first|omega|(rw [List.getD_eq_getElem?_getD,hx2];simp only [Option.getD_some];omega))])⟩,by first|omega|(simp;done)|(simp;omega),Weak.ren id (by refine ⟨?_,?_,?_,?_,?_,trivial⟩<;>first|rfl|(simp only [mps];done)|(congr 3;omega)|(congr 4;omega)|(simp only [lns];rfl)) (⟨by first|rfl|(simp only [mps];done)|(congr 3;omega)|(congr 4;omega)|(simp only [lns];rfl),trivial⟩) rfl⟩
  have hb7':=of_decide_eq_false hb7
  refine AC.drawP [0,2,9,10,11,4,3] [1,0] mixed rfl rfl ?_
  refine PD.runs (kn:=[(37,false)]) ttk 13 rfl ⟨hb7,trivial⟩ ?_
  refine PD.fin [1,0] rfl rfl rfl rfl (by kernel_rfl) ?_
  refine AL.nx ?_
  refine AC.cond rfl (fun hno=>by cases hno) (fun _=>?_)
  refine AC.skip ?_
  refine block_ok ?_
  refine then_ok ?_
  refine AC.region ?_
  refine AL.vl (g_binI rfl rfl rfl (wrap_ok (by first|omega|(simp;done)|(simp;omega)))) rfl ?_
  refine AL.runs ttk 1 rfl ?_
  refine AL.nx ?_
  refine ⟨q+1,⟨by omega,by rw [hi0_1];exact scan_ok (by omega) (by unfold uErr;simp only [hx1];rw [if_neg (by omega),if_neg (by first|omega|(rw [List.getD_eq_getElem?_getD,hx2];simp only [Option.getD_some];omega))])⟩,by first|omega|(simp;done)|(simp;omega),Weak.ren id (by refine ⟨?_,?_,?_,?_,?_,trivial⟩<;>first|rfl|(simp only [mps];done)|(congr 3;omega)|(congr 4;omega)|(simp only [lns];rfl)) (⟨by first|rfl|(simp only [mps];done)|(congr 3;omega)|(congr 4;omega)|(simp only [lns];rfl),trivial⟩) rfl⟩
 have hc2':=of_decide_eq_false hc2
 refine AC.exit ?_
 refine then_exit ?_
 refine then_exit ?_
 refine block_hit ?_
 refine then_ok ?_
 refine AC.goes ttk 2 rfl ?_
 refine AC.ret ?_
 refine retQ_go ttk [0] 0 rfl rfl rfl rfl rfl rfl ?_ ?_
 ·(have h:uses l=(0,0):=by (unfold uses;rw [if_neg (by omega),hi0_1,scan_end (by omega)]));rw [h];rfl
 ·rfl
end Go.Proofs.Ytegepioggeggaaa.Dev
namespace Go.Proofs.Ytegepioggeggaaa.Dev
open Go.RowKit

set_option maxRecDepth 100000 in
set_option maxHeartbeats 1000000 in
theorem c_Index_Use (l:List Use) (fn:FuncId) (caps:List (List D)) (pr:Use->Bool) (hp:∀ x:Use,Fn Try.prog fn ([.g [cI x.time,cI x.sum]]++caps.map fun r=>GV.c (.q r 0)) (aB (pr x)) []) (hen:Enters Try.prog fn) (r:Int) (hr:idxF pr l=r):Fn Try.prog 123 [(.c (vlU l)),(.c (.d (.f fn caps)))] (.v (.c (cI r))) []:=by
 refine Fn.mk' 19 [(0,(aC (vlU l))),(1,(aC (.d (.f fn caps))))] Try.func123 rfl rfl rfl rfl ?_
 intro W0 T0
 refine AC.len1 0 rfl (fun hlen0=>?_)
 refine AC.goes ttk 1 rfl ?_
 refine AC.seq ?_
 refine AC.go ttk 1 rfl ?_
 refine AL.vl (g_lenM rfl rfl rfl rfl rfl Try.underlying59) rfl ?_
 refine AL.runs ttk 1 rfl ?_
 refine AL.nx ?_
 refine AC.block ?_
 refine AC.loop (β:=Nat) (fun (q:Nat)=>⟨[(0,(aC (vlU l))),(1,(aC (.d (.f fn caps)))),(7,(aI (↑l.length:Int))),(8,(aI (↑q:Int)))],[],0⟩) (fun (q:Nat)=>q<=l.length/\(l.take q).all (fun y=>!pr y)=true) (fun (q:Nat)=>l.length - q) 0 ?_ ?_ ?_
 ·exact ⟨by omega,by simp⟩
 ·exact Weak.ren id (by refine ⟨?_,?_,?_,?_,trivial⟩<;>first|rfl|(simp only [mps];done)|(congr 3;omega)|(congr 4;omega)|(simp only [lns];rfl)) (trivial) rfl
 rintro q ⟨hi0_0,hi0_1⟩
 refine AC.goes ttk 1 rfl ?_
 refine AC.seq ?_
 refine AC.cond rfl (fun hc1=>?_) (fun hc1=>?_)
 ·
  have hc1':=of_decide_eq_true hc1
  refine AC.sk ?_
  refine AC.seq ?_
  refine AC.block ?_
  refine AC.goes ttk 2 rfl ?_
  refine AC.go ttk 3 rfl ?_
  obtain ⟨x1,hx1⟩:=exget (xs:=l) (i:=q) (by first|omega|(simp;done)|(simp;omega))
  refine AL.vl (g_indexQ (i:=q) rfl rfl rfl Try.underlying59 sz125 (by first|omega|(simp;done)|(simp;omega)) (getmap hx1)) rfl ?_
  refine AL.runs ttk 1 rfl ?_
  refine AL.vl (g_callF 0 (hp x1) hen rfl rfl rfl ⟨⟨_,rfl,.g ⟨.d _,.d _,trivial⟩⟩,trivial⟩ trivial trivial rfl rfl rfl rfl) rfl ?_
  refine AL.nx ?_
  refine AC.cond rfl (fun hc2=>?_) (fun hc2=>?_)
  ·
   have hc2':=hc2;try simp only [sumB,dns] at hc2'
   refine AC.goes ttk 2 rfl ?_
   refine AC.ret ?_
   refine block_ret ?_
   refine then_ret ?_
   refine then_ret ?_
   refine block_ret ?_
   refine then_ret ?_
   have hX:idxF pr l=(↑q:Int):=by
     exact idx_found hi0_1 hx1 hc2
   rw [hX] at hr;clear hX
   subst hr
   refine retQ_go ttk [] 0 rfl rfl rfl rfl rfl rfl ?_ ?_
   all_goals first|rfl|(simp [ufs];done)|(simp [ufs];omega)
  have hc2':=hc2;try simp only [sumB,dns] at hc2'
  refine AC.skip ?_
  refine block_ok ?_
  refine then_ok ?_
  refine AC.region ?_
  refine AL.vl (g_binI rfl rfl rfl (wrap_ok (by first|omega|(simp;done)|(simp;omega)))) rfl ?_
  refine AL.runs ttk 1 rfl ?_
  refine AL.nx ?_
  refine ⟨q+1,⟨by omega,all_keep hi0_1 hx1 hc2⟩,by first|omega|(simp;done)|(simp;omega),Weak.ren id (by refine ⟨?_,?_,?_,?_,trivial⟩<;>first|rfl|(simp only [mps];done)|(congr 3;omega)|(congr 4;omega)|(simp only [lns];rfl)) (trivial) rfl⟩
 have hc1':=of_decide_eq_false hc1
 refine AC.exit ?_
 refine then_exit ?_
 refine then_exit ?_
 refine block_hit ?_
 refine then_ok ?_
 refine AC.goes ttk 1 rfl ?_
 refine AC.ret ?_
 have hX:idxF pr l=(-1):=by
   exact idx_none (by rw [<-List.take_of_length_le (l:=l) (i:=q) (by omega)];exact hi0_1)
 rw [hX] at hr;clear hX
 subst hr
 refine retQ_go ttk [] 0 rfl rfl rfl rfl rfl rfl ?_ ?_
 all_goals first|rfl|(simp [ufs];done)|(simp [ufs];omega)
set_option maxRecDepth 100000 in
set_option maxHeartbeats 1000000 in
theorem c_Delete_Use (l:List Use) (fn:FuncId) (caps:List (List D)) (pr:Use->Bool) (hp:∀ x:Use,Fn Try.prog fn ([.g [cI x.time,cI x.sum]]++caps.map fun r=>GV.c (.q r 0)) (aB (pr x)) []) (hen:Enters Try.prog fn) (r:List Use) (hr:keepL pr l=r):FnE Try.prog 117 [(.c (.s 0 0 2 l.length)),(.c (.d (.f fn caps)))] [(0,(alU l))] [] (.v (.c (.s 0 0 2 r.length))) [(0,(alU r))]:=by
 refine FnE.mk 42 [(0,(aC (.s 0 0 2 l.length))),(1,(aC (.d (.f fn caps))))] 1 Try.func117 rfl rfl rfl rfl rfl rfl rfl rfl rfl ?_
 intro W0 F0 T0 pg
 refine AC.lenS 0 rfl (fun hlen0=>?_)
 have hic:=idx_cases pr l
 have hib:idxF pr l<=l.length/\-1<=idxF pr l:=by rcases hic with ⟨h,_⟩|⟨i,h,h1,_⟩<;>omega
 refine AC.goes ttk 1 rfl ?_
 refine AC.go ttk 2 rfl ?_
 obtain ⟨r0,hr0⟩:∃ (r0:Int),idxF pr l=r0:=⟨_,rfl⟩
 refine AL.cn 1 [0] (g_callE 1 [0] (c_Index_Use l fn caps pr hp hen r0 hr0) en123 rfl rfl ⟨⟨_,rfl,.c (.s rfl (by decide) (by first|omega|(simp;done)|(simp;omega)))⟩,⟨_,rfl,.c (.d _)⟩,trivial⟩ rfl trivial rfl rfl rfl rfl) rfl ?_
 refine AL.runs ttk 1 rfl ?_
 refine AL.nx ?_
 refine AC.seq ?_
 refine AC.goes ttk 2 rfl ?_
 refine AC.cond rfl (fun hc1=>?_) (fun hc1=>?_)
 ·
  have hc1':=of_decide_eq_true hc1
  refine AC.goes ttk 2 rfl ?_
  refine AC.ret ?_
  refine then_ret ?_
  have hX:keepL pr l=l:=by
    rcases hic with ⟨_,h⟩|⟨i0,h,_⟩
    ·exact h
    ·exfalso;omega
  rw [hX] at hr;clear hX
  subst hr
  refine retQ_go ttk [0] 1 rfl rfl rfl rfl rfl rfl ?_ ?_
  all_goals first|rfl|(simp [ufs];done)|(simp [ufs];omega)
 have hc1':=of_decide_eq_false hc1
 refine AC.sk ?_
 refine AC.seq ?_
 refine AC.go ttk 1 rfl ?_
 refine AL.vl (g_binI rfl rfl rfl (wrap_ok (by first|omega|(simp;done)|(simp;omega)))) rfl ?_
 refine AL.runs ttk 1 rfl ?_
 refine AL.nx ?_
 refine AC.block ?_
 obtain ⟨i0,hi0,hil,x0,hx0,hp0,hk0⟩:∃ i:Nat,idxF pr l=i/\i < l.length/\∃ x,l[i]?=some x/\pr x=true/\keepL pr (l.take i)=l.take i:=by
     rcases hic with ⟨h,_⟩|h
     ·exfalso;omega
     ·exact h
 obtain rfl:r0=(i0:Int):=by omega
 refine AC.loop (β:=Nat×Nat×List Use) (fun (p:Nat×Nat×List Use)=>match p with|(j,i,c)=>⟨[(0,(aC (.s 0 0 2 l.length))),(1,(aC (.d (.f fn caps)))),(4,(aC cN)),(5,(aI (↑i:Int))),(6,(aI (↑j:Int)))],[(0,(alU c))],1⟩) (fun (p:Nat×Nat×List Use)=>match p with|(j,i,c)=>Del pr l c i j) (fun (p:Nat×Nat×List Use)=>match p with|(j,i,c)=>l.length - j) (i0+1,i0,l) ?_ ?_ ?_
 ·exact Del.start hx0 hp0 hk0
 ·exact Weak.ren id (by refine ⟨?_,?_,?_,?_,?_,trivial⟩<;>first|rfl|(simp only [mps];done)|(congr 3;omega)|(congr 4;omega)|(simp only [lns];rfl)) (⟨by first|rfl|(simp only [mps];done)|(congr 3;omega)|(congr 4;omega)|(simp only [lns];rfl),trivial⟩) rfl
 rintro ⟨j,i,c⟩ hd
 have hdl:=hd.len;have hdi:=hd.ij;have hdj:=hd.jl
 refine AC.seq ?_
 refine AC.go ttk 2 rfl ?_
 refine AL.vl (g_lenS rfl rfl rfl rfl rfl Try.underlying59) rfl ?_
 refine AL.runs ttk 1 rfl ?_
 refine AL.nx ?_
 refine AC.cond rfl (fun hc2=>?_) (fun hc2=>?_)
 ·
  have hc2':=of_decide_eq_true hc2
  refine AC.sk ?_
  refine AC.seq ?_
  refine AC.block ?_
  refine AC.go ttk 2 rfl ?_
  refine AL.vl (g_indexP0 (i:=j) rfl rfl rfl Try.underlying59 sz125 (by first|omega|(simp;done)|(simp;omega)) (by first|omega|(simp;done)|(simp;omega))) rfl ?_
  obtain ⟨x1,hx1⟩:=exget (xs:=c) (i:=j) (by first|omega|(simp;done)|(simp;omega))
  refine AL.vl (g_loadAs rfl rfl rfl Try.underlying125 rfl sz125 (getmap hx1) rfl) rfl ?_
  refine AL.runs ttk 2 rfl ?_
  refine AL.nx ?_
  refine AC.go ttk 2 rfl ?_
  refine AL.vl (g_callF 2 (hp x1) hen rfl rfl rfl ⟨⟨_,rfl,.g ⟨.d _,.d _,trivial⟩⟩,trivial⟩ trivial trivial rfl rfl rfl rfl) rfl ?_
  refine AL.runs ttk 1 rfl ?_
  refine AL.nx ?_
  refine AC.cond rfl (fun hc3=>?_) (fun hc3=>?_)
  ·
   have hc3':=hc3;try simp only [sumB,dns] at hc3'
   refine AC.go ttk 3 rfl ?_
   refine AL.vl (g_indexP0 (i:=i) rfl rfl rfl Try.underlying59 sz125 (by first|omega|(simp;done)|(simp;omega)) (by first|omega|(simp;done)|(simp;omega))) rfl ?_
   obtain ⟨x2,hx2⟩:=exget (xs:=c) (i:=i) (by first|omega|(simp;done)|(simp;omega))
   refine AL.so [1,0] (g_storeA (ds:=[(dI x1.time),(dI x1.sum)]) rfl rfl rfl rfl rfl sz125 rfl (Nat.le_of_ble_eq_true rfl) (getmap hx2) rfl (setmap (x':=x1) rfl)) rfl ?_
   refine AL.nx ?_
   refine AC.region ?_
   refine AL.runs ttk 1 rfl ?_
   refine AL.vl (g_binI rfl rfl rfl (wrap_ok (by first|omega|(simp;done)|(simp;omega)))) rfl ?_
   refine AL.runs ttk 1 rfl ?_
   refine AL.nil ?_
   refine block_ok ?_
   refine then_ok ?_
   refine AC.region ?_
   refine AL.runs ttk 1 rfl ?_
   refine AL.vl (g_binI rfl rfl rfl (wrap_ok (by first|omega|(simp;done)|(simp;omega)))) rfl ?_
   refine AL.runs ttk 1 rfl ?_
   refine AL.nx ?_
   refine ⟨(j+1,(i)+1,(c).set i x1),hd.keep hx1 (by simpa using hc3),by first|omega|(simp;done)|(simp;omega),Weak.ren id (by refine ⟨?_,?_,?_,?_,?_,trivial⟩<;>first|rfl|(simp only [mps];done)|(congr 3;omega)|(congr 4;omega)|(simp only [lns];rfl)) (⟨by first|rfl|(simp only [mps];done)|(congr 3;omega)|(congr 4;omega)|(simp only [lns];rfl),trivial⟩) rfl⟩
  have hc3':=hc3;try simp only [sumB,dns] at hc3'
  refine AC.skip ?_
  refine block_ok ?_
  refine then_ok ?_
  refine AC.region ?_
  refine AL.runs ttk 1 rfl ?_
  refine AL.vl (g_binI rfl rfl rfl (wrap_ok (by first|omega|(simp;done)|(simp;omega)))) rfl ?_
  refine AL.runs ttk 1 rfl ?_
  refine AL.nx ?_
  refine ⟨(j+1,i,c),hd.skip hx1 (by simpa using hc3),by first|omega|(simp;done)|(simp;omega),Weak.ren id (by refine ⟨?_,?_,?_,?_,?_,trivial⟩<;>first|rfl|(simp only [mps];done)|(congr 3;omega)|(congr 4;omega)|(simp only [lns];rfl)) (⟨by first|rfl|(simp only [mps];done)|(congr 3;omega)|(congr 4;omega)|(simp only [lns];rfl),trivial⟩) rfl⟩
 have hc2':=of_decide_eq_false hc2
 refine AC.exit ?_
 refine then_exit ?_
 refine then_exit ?_
 refine block_hit ?_
 refine then_ok ?_
 refine AC.go ttk 2 rfl ?_
 refine AL.vl (g_sliceP (l:=i) (h:=l.length) rfl Try.underlying59 sz125 rfl (.inr ⟨_,rfl,rfl⟩) (.inl ⟨rfl,rfl⟩) (by first|omega|(simp;done)|(simp;omega)) (by first|omega|(simp;done)|(simp;omega)) (by first|omega|(simp;done)|(simp;omega)) rfl) rfl ?_
 refine AL.so [0] (g_clear (rows':=(c.take i).map rUse) sl59 zv125 rfl rfl rfl rfl rfl rfl rfl rfl rfl (by simp [List.map_take])) rfl ?_
 refine AL.nx ?_
 refine AC.go ttk 2 rfl ?_
 refine AL.vl (g_sliceP (l:=0) (h:=i) rfl Try.underlying59 sz125 rfl (.inl ⟨rfl,rfl⟩) (.inr ⟨_,rfl,rfl⟩) (by first|omega|(simp;done)|(simp;omega)) (by first|omega|(simp;done)|(simp;omega)) (by first|omega|(simp;done)|(simp;omega)) rfl) rfl ?_
 refine AL.runs ttk 1 rfl ?_
 refine AL.nx ?_
 refine AC.ret ?_
 have hX:keepL pr l=(c.take i):=by
   have hdone:=hd.done (by omega)
   rw [<-hdone]
 rw [hX] at hr;clear hX
 subst hr
 refine retQ_go ttk [0] 1 rfl rfl rfl rfl rfl rfl ?_ ?_
 all_goals first|rfl|(simp [ufs];done)|(simp [ufs];omega)
end Go.Proofs.Ytegepioggeggaaa.Dev
namespace Go.Proofs.Ytegepioggeggaaa.Dev
open Go.RowKit

theorem c_pace_WrongN (p:Pace) (e:Int) (hr:wrongP p=e):Fn Try.prog 44 [(.g [cI p.ticks,cI p.count,cI p.sum])] (.v (.c (cI e))) []:=hr▸c_pace_Wrong p.ticks p.count p.sum
theorem c_pace_UsesN (l:List Use) (f:Fault) (hr:usesF l=f):Fn Try.prog 45 [.c (cR 2 (l.map rUse))] (.v (.g [cI f.err,cI f.at_])) []:=hr▸c_pace_Uses l

set_option maxRecDepth 100000 in
set_option maxHeartbeats 1000000 in
theorem c_Recent1 (x:Use) (t:Int) (p:Pace) (hb:-9223372036854775808<=t - p.ticks/\t - p.ticks<=9223372036854775807):Fn Try.prog 118 [(.g [(cI x.time),(cI x.sum)]),(.c (.q ([dI t]) 0)),(.c (.q ([dI p.ticks,dI p.count,dI p.sum]) 0))] (aB (old p t x)) []:=by
 refine Fn.mk' 12 [(0,(aG [(cI x.time),(cI x.sum)])),(1,(aC (.q ([dI t]) 0))),(2,(aC (.q ([dI p.ticks,dI p.count,dI p.sum]) 0)))] Try.func118 rfl rfl rfl rfl ?_
 intro W0 T0
 refine AC.goes ttk 2 rfl ?_
 refine AC.go ttk 5 rfl ?_
 refine AL.vl (g_binI rfl rfl rfl (wrap_ok (by first|omega|(simp;done)|(simp;omega)))) rfl ?_
 refine AL.runs ttk 2 rfl ?_
 refine AL.nx ?_
 refine AC.ret ?_
 refine retQ_go ttk [] 0 rfl rfl rfl rfl rfl rfl ?_ ?_
 all_goals first|rfl|(simp [ufs];done)|(simp [ufs];omega)
set_option maxRecDepth 100000 in
set_option maxHeartbeats 1000000 in
theorem c_pace_Recent (p:Pace) (l:List Use) (t:Int) (hb:-9223372036854775808<=t - p.ticks/\t - p.ticks<=9223372036854775807) (hl:l.length * 16<=140737488355328) (r:List Use) (hr:recentP p l t=r):Fn Try.prog 112 [(.g [(cI p.ticks),(cI p.count),(cI p.sum)]),(.c (vlU l)),(.c (cI t))] (.v (.c (.s 0 0 2 r.length))) [(0,(alU r))]:=by
 refine Fn.mk' 11 [(0,(aG [(cI p.ticks),(cI p.count),(cI p.sum)])),(1,(aC (vlU l))),(2,(aI t))] Try.func112 rfl rfl rfl rfl ?_
 intro W0 T0
 refine AC.len1 1 rfl (fun hlen1=>?_)
 refine AC.goes ttk 3 rfl ?_
 refine AC.go ttk 1 rfl ?_
 refine AL.cn 3 [2,1,0] (g_call 2 (c_Clone_Use l (by first|omega|(simp;done)|(simp;omega))) en114 rfl rfl ⟨⟨_,rfl,.c (.d _)⟩,trivial⟩ trivial ⟨(fun _ _ _ _=>trivial),trivial⟩ rfl rfl rfl rfl) rfl ?_
 refine AL.vl (g_func (ks:=[1,0]) rfl ⟨rfl,rfl,trivial⟩) rfl ?_
 obtain ⟨r0,hr0⟩:∃ (r0:List Use),keepL (old p t) l=r0:=⟨_,rfl⟩
 refine AL.cn 4 [3,1,0] (g_callME (rhoOf [2]) (rhoOf [3]) [0,1] (c_Delete_Use l 118 ([[(dI t)],[(dI p.ticks),(dI p.count),(dI p.sum)]]) (old p t) (fun x=>c_Recent1 x t p hb) en118 r0 hr0) en117 rfl rfl ⟨⟨_,rfl,.inl ⟨rfl,rfl⟩⟩,⟨_,rfl,.inr (.c (.fn ⟨⟨by decide,_,rfl⟩,⟨by decide,_,rfl⟩,trivial⟩))⟩,trivial⟩ ⟨rfl,trivial⟩ rfl rfl rfl rfl rfl rfl rfl rfl trivial ⟨(isv_rUse _),trivial⟩ rfl rfl rfl rfl) rfl ?_
 refine AL.runs ttk 1 rfl ?_
 refine AL.nx ?_
 refine AC.ret ?_
 have hX:recentP p l t=r0:=by
   assumption
 rw [hX] at hr;clear hX
 subst hr
 refine retQ_go ttk [3] 1 rfl rfl rfl rfl rfl rfl ?_ ?_
 all_goals first|rfl|(simp [ufs];done)|(simp [ufs];omega)
end Go.Proofs.Ytegepioggeggaaa.Dev
namespace Go.Proofs.Ytegepioggeggaaa.Dev
open Go.RowKit

end Go.Proofs.Ytegepioggeggaaa.Dev
