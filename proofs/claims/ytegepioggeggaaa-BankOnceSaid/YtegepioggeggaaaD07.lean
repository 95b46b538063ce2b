/- A part of the proof: PlSort2, PlSort3, PlDay, PlBank, OpsB, Bank0, Pace1, Pace2, Del1, Pace3, Pace5. No condition. -/
import Derived.Test.YtegepioggeggaaaD06
set_option linter.unusedVariables false
set_option linter.unusedSimpArgs false
set_option maxHeartbeats 1000000
set_option maxRecDepth 100000
namespace Go.Proofs.Ytegepioggeggaaa.Dev
open Go.RowKit
open Go.ChangeShapes Go.WideShapes Go.Deep Go.Joins
theorem ta {a i:Nat} {d:List al} (h:a+1<=i):iU a (i+1 - (a+1)) d=jh a i (iU a (i - (a+1)) d):=by
 rw [show i+1 - (a+1)=(i - (a+1))+1 by omega]
 conv=>lhs;unfold iU
 rw [show a+1+(i - (a+1))=i by omega]
theorem AZ {a k:Nat} {d:List al} (h:a<=k):nK a (k+1 - a) d=gU (nK a (k - a) d) k (k+1):=by
 rw [show k+1 - a=(k - a)+1 by omega]
 conv=>lhs;unfold nK
 rw [show a+(k - a)=k by omega]
theorem Ba {m k:Nat} {d:List al} (h:k<=m) (h0:0 < k):nL m (m - (k - 1)) d=gU (nL m (m - k) d) k (k - 1):=by
 rw [show m - (k - 1)=(m - k)+1 by omega]
 conv=>lhs;unfold nL
 rw [show m - (m - k)=k by omega]
theorem lZ {P X:List al} {k n:Nat} (hn:n=P.length+k):(P++X)[n]?=X[k]?:=by
 subst hn;rw [List.getElem?_append_right (by omega),Nat.add_sub_cancel_left]
theorem le_last {B:List al} {x:al} (h:eX B) (hl:∀ A0 y,B=A0++[y]->gz y x=true):∀ z∈B,gz z x=true:=by
 rcases jn B with rfl|⟨A',y,h'⟩
 ·simp
 ·intro z hz
  have h1:=hl A' y h'
  rw [h'] at h hz
  rcases List.mem_append.1 hz with hz|hz
  ·exact zx ((gD.1 h).2.2 z hz y (List.mem_singleton.2 rfl)) h1
  ·rw [List.mem_singleton.1 hz];exact h1
theorem Bt {B:List al} {x:al} (h:eX B) (hl:∀ y B0,B=y::B0->gz x y=true):∀ z∈B,gz x z=true:=by
 cases B with
 |nil=>simp
 |cons y B0=>
  intro z hz
  have h1:=hl y B0 rfl
  rcases List.mem_cons.1 hz with rfl|hz
  ·exact h1
  ·exact uQ h1 ((List.pairwise_cons.1 h).1 z hz)
theorem Bu {B:List al} {x:al} (h:eX B) (hl:∀ y B0,B=y::B0->fQ x y):∀ z∈B,fQ x z:=by
 cases B with
 |nil=>simp
 |cons y B0=>
  intro z hz
  have h1:=hl y B0 rfl
  rcases List.mem_cons.1 hz with rfl|hz
  ·exact h1
  ·exact kE h1 ((List.pairwise_cons.1 h).1 z hz)
theorem uk {A:List al} {y:al} {A0:List al} (h:A=A0++[y]):A[A.length - 1]?=some y:=by subst h;simp
theorem mT (l:List al) (k:Nat) (h:k<=l.length):∃ u v,l=u++v/\u.length=k:=⟨l.take k,l.drop k,(List.take_append_drop k l).symm,by rw [List.length_take];omega⟩
theorem tg {U:List al} {u:al} (h:eX U) (hu:U[0]?=some u):∀ x∈U,fQ u x:=by
 cases U with
 |nil=>simp
 |cons y U=>
  simp at hu;subst hu
  intro x hx
  rcases List.mem_cons.1 hx with rfl|hx
  ·exact nr _
  ·exact (List.pairwise_cons.1 h).1 x hx
theorem uT {V:List al} {v:al} (h:eX V) (hv:V[V.length - 1]?=some v):∀ y∈V,fQ y v:=by
 rcases jn V with rfl|⟨A,z,rfl⟩
 ·simp
 ·simp at hv;subst hv
  exact uj h (nr _)
theorem get_some {V:List al} {k:Nat} (h:k < V.length):∃ v,V[k]?=some v:=⟨V[k],List.getElem?_eq_getElem h⟩
theorem pY:∀ (f:Nat) (P A B R:List al),A.length+B.length<=f->0 < A.length->0 < B.length->eX A->eX B->
  ∃ C,dx f P.length (P.length+A.length) (P.length+A.length+B.length) (P++(A++(B++R)))=P++(C++R)/\eX C/\Same (A++B) C
 |0,P,A,B,R,hf,ha,hb,_,_=>by omega
 |f+1,P,A,B,R,hf,ha,hb,sA,sB=>by
  obtain ⟨a,hea⟩:∃ a,a=P.length:=⟨_,rfl⟩
  obtain ⟨m,hem⟩:∃ m,m=P.length+A.length:=⟨_,rfl⟩
  obtain ⟨b,heb⟩:∃ b,b=P.length+A.length+B.length:=⟨_,rfl⟩
  rw [<-hea,show a+A.length=m by omega,show m+B.length=b by omega]
  unfold dx
  split
  ·
   rename_i h1
   obtain ⟨x,rfl⟩:∃ x,A=[x]:=by
    match A,ha,(by omega:A.length=1) with
    |[x],_,_=>exact ⟨x,rfl⟩
   have hl1:[x].length=1:=rfl
   obtain ⟨q1,q2,q3,q4⟩:=kj (fun h=>dv (P++([x]++(B++R))) h a) (b - m) m b (Nat.le_refl _) (by omega)
   generalize fJ (fun h=>dv (P++([x]++(B++R))) h a) m b=i at q1 q2 q3 q4
   obtain ⟨B1,B2,rfl,hB1⟩:=mT B (i - m) (by omega)
   rw [List.length_append] at heb
   have gx:(P++([x]++(B1++B2++R)))[a]?=some x:=by rw [lZ (k:=0) (by omega)];rfl
   have gB:∀ k,k < B1.length+B2.length->(P++([x]++(B1++B2++R)))[m+k]?=(B1++B2)[k]?:=fun k hk=>by
    rw [lZ (k:=k+1) (by omega),List.cons_append,List.getElem?_cons_succ,List.nil_append,List.getElem?_append_left (by simp;omega)]
   obtain ⟨s1,s2,s3⟩:=gD.1 sB
   have w1:∀ z∈B1,gz z x=true:=le_last s1 fun A0 y hy=>by
    have hpos:0 < B1.length:=by rw [hy];simp
    rcases q3 with q3|q3
    ·omega
    ·have g1:=gB (B1.length - 1) (by omega)
     rw [List.getElem?_append_left (l₁:=B1) (by omega),uk hy,show m+(B1.length - 1)=i - 1 by omega] at g1
     have q3:dv (P++([x]++(B1++B2++R))) (i - 1) a=true:=q3
     rwa [fO g1 gx] at q3
   have w2:∀ z∈B2,fQ x z:=Bu s2 fun y B0 hy=>by
    have hpos:0 < B2.length:=by rw [hy];simp
    rcases q4 with q4|q4
    ·omega
    ·have g1:=gB B1.length (by omega)
     have g2:B2[0]?=some y:=by rw [hy];rfl
     rw [List.getElem?_append_right (l₁:=B1) (Nat.le_refl _),Nat.sub_self,g2,show m+B1.length=i by omega] at g1
     have q4:dv (P++([x]++(B1++B2++R))) i a=false:=q4
     rw [fO g1 gx] at q4
     exact qT.1 q4
   obtain ⟨t1,t2⟩:=CK sB w1 w2
   refine ⟨B1++x::B2,?_,t1,t2⟩
   have h2:=wZ P x B1.length B1 (B2++R) rfl
   rw [show i - 1 - a=B1.length by omega,hea,show P++([x]++(B1++B2++R))=P++x::(B1++(B2++R)) by simp,h2]
   simp
  ·split
   ·
    rename_i h0 h1
    obtain ⟨x,rfl⟩:∃ x,B=[x]:=by
     match B,hb,(by omega:B.length=1) with
     |[x],_,_=>exact ⟨x,rfl⟩
    have hl1:[x].length=1:=rfl
    obtain ⟨q1,q2,q3,q4⟩:=kj (fun h=>!dv (P++(A++([x]++R))) m h) (m - a) a m (Nat.le_refl _) (by omega)
    generalize fJ (fun h=>!dv (P++(A++([x]++R))) m h) a m=i at q1 q2 q3 q4
    obtain ⟨A1,A2,rfl,hA1⟩:=mT A (i - a) (by omega)
    rw [List.length_append] at hem heb
    have gx:(P++(A1++A2++([x]++R)))[m]?=some x:=by rw [lZ (k:=A1.length+A2.length) (by omega),lZ (k:=0) (by simp)];rfl
    have gA:∀ k,k < A1.length+A2.length->(P++(A1++A2++([x]++R)))[a+k]?=(A1++A2)[k]?:=fun k hk=>by
     rw [lZ (k:=k) (by omega),List.getElem?_append_left (by simp;omega)]
    obtain ⟨s1,s2,s3⟩:=gD.1 sA
    have w1:∀ z∈A1,fQ z x:=zy s1 fun A0 y hy=>by
     have hpos:0 < A1.length:=by rw [hy];simp
     rcases q3 with q3|q3
     ·omega
     ·have g1:=gA (A1.length - 1) (by omega)
      rw [List.getElem?_append_left (l₁:=A1) (by omega),uk hy,show a+(A1.length - 1)=i - 1 by omega] at g1
      have q3:(!dv (P++(A1++A2++([x]++R))) m (i - 1))=true:=q3
      rw [fO gx g1,Bool.not_eq_true'] at q3
      exact qT.1 q3
    have w2:∀ z∈A2,gz x z=true:=Bt s2 fun y B0 hy=>by
     have hpos:0 < A2.length:=by rw [hy];simp
     rcases q4 with q4|q4
     ·omega
     ·have g1:=gA A1.length (by omega)
      have g2:A2[0]?=some y:=by rw [hy];rfl
      rw [List.getElem?_append_right (l₁:=A1) (Nat.le_refl _),Nat.sub_self,g2,show a+A1.length=i by omega] at g1
      have q4:(!dv (P++(A1++A2++([x]++R))) m i)=false:=q4
      rw [fO gx g1,Bool.not_eq_false'] at q4
      exact q4
    obtain ⟨t1,t2⟩:=zt sA w1 w2
    refine ⟨A1++x::A2,?_,t1,t2⟩
    have h2:=xb P x R A2.length A1 A2 rfl
    rw [show (P++A1++A2).length=m by simp;omega] at h2
    rw [show m - i=A2.length by omega,show P++(A1++A2++([x]++R))=P++A1++A2++x::R by simp,h2]
    simp
   ·
    rename_i h0 h1
    obtain ⟨mid,hmid⟩:∃ mid,mid=(a+b) / 2:=⟨_,rfl⟩
    have hs:∃ s,ef (P++(A++(B++R))) a m b=s/\a<=s/\s<=m/\s<=mid/\mid+m - s<=b/\
      (s=m\/s=mid\/dv (P++(A++(B++R))) (mid+m - 1 - s) s=true)/\(s=a\/mid+m - s=b\/dv (P++(A++(B++R))) (mid+m - s) (s - 1)=false):=by
     refine ⟨_,rfl,?_⟩
     unfold ef
     rw [<-hmid]
     split
     ·obtain ⟨q1,q2,q3,q4⟩:=kj (fun c=>!dv (P++(A++(B++R))) (mid+m - 1 - c) c) (mid - (mid+m - b)) (mid+m - b) mid (Nat.le_refl _) (by omega)
      generalize fJ (fun c=>!dv (P++(A++(B++R))) (mid+m - 1 - c) c) (mid+m - b) mid=s at q1 q2 q3 q4
      refine ⟨by omega,by omega,by omega,by omega,?_,?_⟩
      ·rcases q4 with q4|q4
       ·exact .inr (.inl q4)
       ·right;right;simpa using q4
      ·rcases q3 with q3|q3
       ·right;left;omega
       ·by_cases hs0:s=a
        ·exact .inl hs0
        ·right;right
         have q3:(!dv (P++(A++(B++R))) (mid+m - 1 - (s - 1)) (s - 1))=true:=q3
         rw [show mid+m - 1 - (s - 1)=mid+m - s by omega] at q3;simpa using q3
     ·obtain ⟨q1,q2,q3,q4⟩:=kj (fun c=>!dv (P++(A++(B++R))) (mid+m - 1 - c) c) (m - a) a m (Nat.le_refl _) (by omega)
      generalize fJ (fun c=>!dv (P++(A++(B++R))) (mid+m - 1 - c) c) a m=s at q1 q2 q3 q4
      refine ⟨by omega,by omega,by omega,by omega,?_,?_⟩
      ·rcases q4 with q4|q4
       ·exact .inl q4
       ·right;right;simpa using q4
      ·rcases q3 with q3|q3
       ·exact .inl q3
       ·by_cases hs0:s=a
        ·exact .inl hs0
        ·right;right
         have q3:(!dv (P++(A++(B++R))) (mid+m - 1 - (s - 1)) (s - 1))=true:=q3
         rw [show mid+m - 1 - (s - 1)=mid+m - s by omega] at q3;simpa using q3
    obtain ⟨s,hs0,hs1,hs2,hs3,hs4,hs5,hs6⟩:=hs
    dsimp only
    rw [hs0,<-hmid]
    obtain ⟨A1,U,rfl,hA1⟩:=mT A (s - a) (by omega)
    rw [List.length_append] at hem heb ha hf
    obtain ⟨V,B2,rfl,hV⟩:=mT B (mid+m - s - m) (by omega)
    rw [List.length_append] at heb hb hf
    have gA:∀ k,k < A1.length+U.length->(P++(A1++U++(V++B2++R)))[a+k]?=(A1++U)[k]?:=fun k hk=>by
     rw [lZ (k:=k) (by omega),List.getElem?_append_left (by simp;omega)]
    have gB:∀ k,k < V.length+B2.length->(P++(A1++U++(V++B2++R)))[m+k]?=(V++B2)[k]?:=fun k hk=>by
     rw [lZ (k:=A1.length+U.length+k) (by omega),lZ (k:=k) (by simp),List.getElem?_append_left (by simp;omega)]
    obtain ⟨a1,a2,a3⟩:=gD.1 sA
    obtain ⟨b1,b2,b3⟩:=gD.1 sB
    have w1:∀ x∈U,∀ y∈V,gz y x=true:=by
     intro x hx y hy
     have hU:0 < U.length:=List.length_pos_of_mem hx
     have hVp:0 < V.length:=List.length_pos_of_mem hy
     rcases hs5 with h5|h5|h5
     ·omega
     ·omega
     ·obtain ⟨v,hv⟩:=get_some (V:=V) (k:=V.length - 1) (by omega)
      obtain ⟨u,hu⟩:=get_some (V:=U) (k:=0) hU
      have g1:=gB (V.length - 1) (by omega)
      rw [List.getElem?_append_left (l₁:=V) (by omega),hv,show m+(V.length - 1)=mid+m - 1 - s by omega] at g1
      have g2:=gA A1.length (by omega)
      rw [List.getElem?_append_right (l₁:=A1) (Nat.le_refl _),Nat.sub_self,hu,show a+A1.length=s by omega] at g2
      rw [fO g1 g2] at h5
      exact uQ (zx (uT b1 hv y hy) h5) (tg a2 hu x hx)
    have w2:∀ x∈A1,∀ y∈B2,fQ x y:=by
     intro x hx y hy
     have hAp:0 < A1.length:=List.length_pos_of_mem hx
     have hBp:0 < B2.length:=List.length_pos_of_mem hy
     rcases hs6 with h6|h6|h6
     ·omega
     ·omega
     ·obtain ⟨v,hv⟩:=get_some (V:=A1) (k:=A1.length - 1) (by omega)
      obtain ⟨u,hu⟩:=get_some (V:=B2) (k:=0) hBp
      have g1:=gB V.length (by omega)
      rw [List.getElem?_append_right (l₁:=V) (Nat.le_refl _),Nat.sub_self,hu,show m+V.length=mid+m - s by omega] at g1
      have g2:=gA (A1.length - 1) (by omega)
      rw [List.getElem?_append_left (l₁:=A1) (by omega),hv,show a+(A1.length - 1)=s - 1 by omega] at g2
      rw [fO g1 g2] at h6
      exact kE (uT a1 hv x hx) (kE (qT.1 h6) (tg b2 hu y hy))
    have hr:eW s m (mid+m - s) (P++(A1++U++(V++B2++R)))=P++(A1++(V++(U++(B2++R)))):=by
     unfold eW
     have e0:P++(A1++U++(V++B2++R))=P++A1++(U++(V++(B2++R))):=by simp
     split
     ·have:=rM (U.length+V.length) (P++A1) U V (B2++R) m (Nat.le_refl _) (by omega) (by omega) (by simp;omega)
      rw [show m - s=U.length by omega,show mid+m - s - m=V.length by omega,e0,this];simp
     ·rcases (by omega:U.length=0\/V.length=0) with hz|hz
      ·obtain rfl:=List.eq_nil_of_length_eq_zero hz;simp
      ·obtain rfl:=List.eq_nil_of_length_eq_zero hz;simp
    rw [hr]
    have hL:∃ C1,(if a < s/\s < mid then dx f a s mid (P++(A1++(V++(U++(B2++R))))) else P++(A1++(V++(U++(B2++R)))))=P++(C1++(U++(B2++R)))/\eX C1/\Same (A1++V) C1:=by
     split
     ·obtain ⟨C1,c1,c2,c3⟩:=pY f P A1 V (U++(B2++R)) (by omega) (by omega) (by omega) a1 b1
      rw [<-hea,show a+A1.length=s by omega,show s+V.length=mid by omega] at c1
      exact ⟨C1,c1,c2,c3⟩
     ·rcases (by omega:A1.length=0\/V.length=0) with hz|hz
      ·obtain rfl:=List.eq_nil_of_length_eq_zero hz;exact ⟨V,by simp,b1,Same.refl _⟩
      ·obtain rfl:=List.eq_nil_of_length_eq_zero hz;exact ⟨A1,by simp,a1,by rw [List.append_nil];exact Same.refl _⟩
    obtain ⟨C1,c1,c2,c3⟩:=hL
    rw [c1]
    have hc1:C1.length=A1.length+V.length:=by rw [<-c3.len,List.length_append]
    have hR:∃ C2,(if mid < mid+m - s/\mid+m - s < b then dx f mid (mid+m - s) b (P++(C1++(U++(B2++R)))) else P++(C1++(U++(B2++R))))=P++(C1++(C2++R))/\eX C2/\Same (U++B2) C2:=by
     split
     ·obtain ⟨C2,d1,d2,d3⟩:=pY f (P++C1) U B2 R (by omega) (by omega) (by omega) a2 b2
      rw [List.length_append,show P.length+C1.length=mid by omega,show mid+U.length=mid+m - s by omega,show mid+m - s+B2.length=b by omega] at d1
      exact ⟨C2,by simpa using d1,d2,d3⟩
     ·rcases (by omega:U.length=0\/B2.length=0) with hz|hz
      ·obtain rfl:=List.eq_nil_of_length_eq_zero hz;exact ⟨B2,by simp,b2,Same.refl _⟩
      ·obtain rfl:=List.eq_nil_of_length_eq_zero hz;exact ⟨U,by simp,a2,by rw [List.append_nil];exact Same.refl _⟩
    obtain ⟨C2,d1,d2,d3⟩:=hR
    refine ⟨C1++C2,by rw [d1];simp,gD.2 ⟨c2,d2,?_⟩,?_⟩
    ·intro x hx y hy
     rcases List.mem_append.1 (c3.mem.2 hx) with hx|hx
     ·rcases List.mem_append.1 (d3.mem.2 hy) with hy|hy
      ·exact a3 x hx y hy
      ·exact w2 x hx y hy
     ·rcases List.mem_append.1 (d3.mem.2 hy) with hy|hy
      ·exact kF (w1 y hy x hx)
      ·exact b3 x hx y hy
    ·have e1:Same (A1++U++(V++B2)) (A1++(V++(U++B2))):=by
      have:=(Same.refl A1).app ((Same.comm w1).app (Same.refl B2))
      simpa using this
     have e2:=c3.app d3
     rw [List.append_assoc] at e2
     exact e1.trans e2
theorem yR {f:Nat} {d:List al} {a m b:Nat} (h1:a < m) (h2:m < b) (h3:b<=d.length) (hf:b - a<=f) (sA:eX ((d.drop a).take (m - a))) (sB:eX ((d.drop m).take (b - m))):Part d (dx f a m b d) a b:=by
 have e1:=parts (d:=d) (a:=a) (b:=b) (by omega) h3
 have e2:(d.drop a).take (b - a)=(d.drop a).take (m - a)++(d.drop m).take (b - m):=by
  rw [show b - a=(m - a)+(b - m) by omega,List.take_add,List.drop_drop,show a+(m - a)=m by omega]
 have l1:(d.take a).length=a:=by rw [List.length_take];omega
 have l2:((d.drop a).take (m - a)).length=m - a:=by rw [List.length_take,List.length_drop];omega
 have l3:((d.drop m).take (b - m)).length=b - m:=by rw [List.length_take,List.length_drop];omega
 obtain ⟨C,c1,c2,c3⟩:=pY f (d.take a) ((d.drop a).take (m - a)) ((d.drop m).take (b - m)) (d.drop b) (by omega) (by omega) (by omega) sA sB
 rw [l1,l2,l3,show a+(m - a)=m by omega,show m+(b - m)=b by omega] at c1
 rw [<-e2] at c3
 rw [e2] at e1
 have e3:d.take a++((d.drop a).take (m - a)++((d.drop m).take (b - m)++d.drop b))=d:=by rw [<-List.append_assoc,<-List.append_assoc,List.append_assoc (d.take a)];exact e1.symm
 rw [e3] at c1
 have:=Part.of (P:=d.take a) (X:=(d.drop a).take (b - a)) (C:=C) (R:=d.drop b) (a:=a) (b:=b) l1 (by rw [List.length_take,List.length_drop];omega) c2 c3
 rwa [e2,<-e1,List.append_assoc,<-c1] at this
theorem rr {p:Nat->Bool} {i j h R:Nat} (hb:fJ p i j=R) (hij:i < j) (hh:h=(i+j) / 2) (hp:p h=true):fJ p (h+1) j=R:=by
 subst hh;rw [<-hb,Cw hij hp]
theorem ru {p:Nat->Bool} {i j h R:Nat} (hb:fJ p i j=R) (hij:i < j) (hh:h=(i+j) / 2) (hp:p h=false):fJ p i h=R:=by
 subst hh;rw [<-hb,Cx hij hp]
theorem dQ {f a m b mid s e:Nat} {d d1 d2 d3:List al} (h0:¬m - a=1) (h1:¬b - m=1) (hm:mid=(a+b) / 2) (hs:ef d a m b=s) (he:mid+m - s=e) (hd1:eW s m e d=d1)
  (hd2:(if a < s/\s < mid then dx f a s mid d1 else d1)=d2) (hd3:(if mid < e/\e < b then dx f mid e b d2 else d2)=d3):dx (f+1) a m b d=d3:=by
 subst hm he hd1 hd2 hd3 hs
 rw [dx.eq_2,if_neg h0,if_neg h1]
def kP:List al->al->List al
 |[],r=>[r]
 |x::l,r=>if gz r x=true then r::x::l else x::kP l r
def gu (l:List al):List al:=l.foldl kP []
theorem uW {r z:al}:∀ {l:List al},z∈kP l r↔z=r\/z∈l
 |[]=>by simp [kP]
 |x::l=>by
  unfold kP
  split
  ·simp
  ·rw [List.mem_cons,uW,List.mem_cons]
   constructor
   ·rintro (h|h|h)
    ·exact .inr (.inl h)
    ·exact .inl h
    ·exact .inr (.inr h)
   ·rintro (h|h|h)
    ·exact .inr (.inl h)
    ·exact .inl h
    ·exact .inr (.inr h)
theorem uV {r:al}:∀ {l:List al},eX l->eX (kP l r)
 |[],_=>List.pairwise_singleton _ _
 |x::l,h=>by
  obtain ⟨h1,h2⟩:=List.pairwise_cons.1 h
  unfold kP
  split
  ·rename_i hc
   exact List.pairwise_cons.2 ⟨fun z hz=>by
    rcases List.mem_cons.1 hz with rfl|hz
    ·exact kF hc
    ·exact kE (kF hc) (h1 z hz),h⟩
  ·rename_i hc
   have hc:fQ x r:=qT.1 (by simpa using hc)
   exact List.pairwise_cons.2 ⟨fun z hz=>by
    rcases uW.1 hz with rfl|hz
    ·exact hc
    ·exact h1 z hz,uV h2⟩
theorem tc {r:al}:∀ {l:List al},eX l->Same (l++[r]) (kP l r)
 |[],_=>Same.refl _
 |x::l,h=>by
  obtain ⟨h1,h2⟩:=List.pairwise_cons.1 h
  unfold kP
  split
  ·rename_i hc
   exact (Same.comm (u:=x::l) (v:=[r]) fun y hy z hz=>by
    rw [List.mem_singleton.1 hz]
    rcases List.mem_cons.1 hy with rfl|hy
    ·exact hc
    ·exact uQ hc (h1 y hy))
  ·exact (Same.refl [x]).app (tc h2)
theorem ql:∀ (l acc:List al),eX acc->eX (l.foldl kP acc)/\Same (acc++l) (l.foldl kP acc)
 |[],acc,h=>⟨h,by rw [List.append_nil];exact Same.refl _⟩
 |x::l,acc,h=>by
  obtain ⟨h1,h2⟩:=ql l (kP acc x) (uV h)
  refine ⟨h1,?_⟩
  have h3:=((tc (r:=x) h).app (Same.refl l)).trans h2
  simpa using h3
theorem yW (l:List al):eX (gu l):=(ql l [] List.Pairwise.nil).1
theorem mU (l:List al):Same l (gu l):=(ql l [] List.Pairwise.nil).2
theorem xG {l d:List al} (h:eX d) (h':Same l d):gu l=d:=eX.uniq (yW l) h ((mU l).symm.trans h')
theorem sE (l:List al):(gu l).length=l.length:=(mU l).len.symm
theorem yX {l:List al} (h:l.length=0):gu l=l:=by obtain rfl:=List.eq_nil_of_length_eq_zero h;rfl
def jq (d:List al) (a s:Nat):List al:=(d.drop a).take s
def sl (s a:Nat) (d:List al):Prop:=(∃ q,a=q * s)/\∀ k,(k+1) * s<=a->eX (jq d (k * s) s)
def sj (s:Nat) (d:List al):Prop:=∀ k,eX (jq d (k * s) s)
def mA (s a:Nat) (d:List al):Prop:=sl (2 * s) a d/\∀ k,a<=k * s->eX (jq d (k * s) s)
theorem Part.Dr {d y:List al} {a b:Nat} (h:Part d y a b) {c s:Nat} (hc:c+s<=a):jq y c s=jq d c s:=by
 have e:∀ z:List al,jq z c s=((z.take a).drop c).take s:=fun z=>by
  unfold jq;rw [List.drop_take,List.take_take,Nat.min_eq_left (by omega)]
 rw [e y,e d,h.l]
theorem Part.Gj {d y:List al} {a b:Nat} (h:Part d y a b) {c s:Nat} (hc:b<=c):jq y c s=jq d c s:=by
 have e:∀ z:List al,jq z c s=((z.drop b).drop (c - b)).take s:=fun z=>by
  unfold jq;rw [List.drop_drop,show b+(c - b)=c by omega]
 rw [e y,e d,h.r]
theorem wD {d:List al} {a s:Nat} (h:d.length<=a):jq d a s=[]:=by unfold jq;rw [List.drop_of_length_le h];simp
theorem rK {d:List al} {a s t:Nat} (hs:d.length<=a+s) (ht:d.length<=a+t):jq d a s=jq d a t:=by
 unfold jq;rw [List.take_of_length_le (by rw [List.length_drop];omega),List.take_of_length_le (by rw [List.length_drop];omega)]
theorem wA:eX []:=List.Pairwise.nil
theorem CJ {k q s:Nat} (h:(k+1) * s<=q * s+s) (hs:0 < s):k<=q:=by
 rw [<-Nat.succ_mul] at h
 have:=Nat.le_of_mul_le_mul_right h hs
 omega
theorem rm {s:Nat} (hs:0 < s) {d:List al}:sl s 0 d:=⟨⟨0,by simp⟩,fun k h=>by rw [Nat.succ_mul] at h;omega⟩
theorem tl {s a:Nat} {d y:List al} (hs:0 < s) (h:sl s a d) (p:Part d y a (a+s)):sl s (a+s) y:=by
 obtain ⟨⟨q,hq⟩,h2⟩:=h
 refine ⟨⟨q+1,by rw [Nat.succ_mul,hq]⟩,fun k hk=>?_⟩
 subst hq
 have hkq:=CJ hk hs
 by_cases e:k=q
 ·subst e
  have:=p.s
  rw [Nat.add_sub_cancel_left] at this
  exact this
 ·have h3:(k+1) * s<=q * s:=Nat.mul_le_mul_right s (by omega)
  rw [p.Dr (by rw [Nat.succ_mul] at h3;exact h3)]
  exact h2 k h3
theorem vt {s a:Nat} {d y:List al} (hs:0 < s) (h:sl s a d) (ha:a<=y.length) (p:Part d y a y.length) (hn:y.length<=a+s):sj s y:=by
 obtain ⟨⟨q,rfl⟩,h2⟩:=h
 intro k
 rcases Nat.lt_trichotomy k q with e|e|e
 ·have h3:(k+1) * s<=q * s:=Nat.mul_le_mul_right s (by omega)
  rw [p.Dr (by rw [Nat.succ_mul] at h3;exact h3)]
  exact h2 k h3
 ·subst e
  have h3:=p.s
  rw [rK (t:=y.length - k * s) hn (by omega)]
  exact h3
 ·have h3:(q+1) * s<=k * s:=Nat.mul_le_mul_right s (by omega)
  rw [Nat.succ_mul] at h3
  rw [wD (by omega)];exact wA
theorem AF {s:Nat} {d:List al} (h:sj s d) (hs:d.length<=s):eX d:=by
 have:=h 0
 unfold jq at this
 rw [Nat.zero_mul,List.drop_zero,List.take_of_length_le hs] at this
 exact this
theorem yc {s:Nat} (hs:0 < s) {d:List al} (h:sj s d):mA s 0 d:=⟨rm (by omega),fun k _=>h k⟩
theorem mA.mul {s a:Nat} {d:List al} (h:mA s a d):∃ k,a=k * s:=by
 obtain ⟨q,hq⟩:=h.1.1
 exact ⟨q * 2,by rw [hq,Nat.mul_assoc]⟩
theorem Bf {s a:Nat} {d:List al} (h:mA s a d):eX (jq d a s)/\eX (jq d (a+s) s):=by
 obtain ⟨k,hk⟩:=h.mul
 refine ⟨?_,?_⟩
 ·have:=h.2 k (by omega);rwa [<-hk] at this
 ·have:=h.2 (k+1) (by rw [Nat.succ_mul];omega);rwa [Nat.succ_mul,<-hk] at this
theorem zJ {s a:Nat} {d y:List al} (hs:0 < s) (h:mA s a d) (p:Part d y a (a+2 * s)):mA s (a+2 * s) y:=
 ⟨tl (by omega) h.1 p,fun k hk=>by rw [p.Gj hk];exact h.2 k (by omega)⟩
theorem Bg {s a:Nat} {d y:List al} (hs:0 < s) (h:mA s a d) (ha:a<=y.length) (p:Part d y a y.length) (hn:y.length<=a+2 * s):sj (s * 2) y:=by
 rw [Nat.mul_comm];exact vt (by omega) h.1 ha p hn
theorem zK {s a:Nat} {d:List al} (hs:0 < s) (h:mA s a d) (hn:d.length<=a+s):sj (s * 2) d:=by
 rw [Nat.mul_comm]
 obtain ⟨⟨⟨q,rfl⟩,h2⟩,h3⟩:=h
 intro k
 rcases Nat.lt_trichotomy k q with e|e|e
 ·exact h2 k (Nat.mul_le_mul_right _ (by omega))
 ·subst e
  rw [rK (t:=s) (by omega) hn]
  have:=h3 (k * 2) (by rw [Nat.mul_assoc];omega)
  rwa [Nat.mul_assoc] at this
 ·have h4:(q+1) * (2 * s)<=k * (2 * s):=Nat.mul_le_mul_right _ (by omega)
  rw [Nat.succ_mul] at h4
  rw [wD (by omega)];exact wA
theorem uh {s a b:Nat} {d:List al} (hs:0 < s) (h:mA s a d) (h1:a+s < b) (h2:b<=d.length) (h3:b=a+2 * s\/(b=d.length/\b<=a+2 * s)):Part d (dx (b - a) a (a+s) b d) a b:=by
 obtain ⟨s1,s2⟩:=Bf h
 refine yR (by omega) h1 h2 (Nat.le_refl _) ?_ ?_
 ·rw [Nat.add_sub_cancel_left];exact s1
 ·rcases h3 with h3|⟨h3,h4⟩
  ·rw [show b - (a+s)=s by omega];exact s2
  ·have:=rK (d:=d) (a:=a+s) (s:=s) (t:=b - (a+s)) (by omega) (by omega)
   show eX (jq d (a+s) (b - (a+s)))
   rw [<-this];exact s2
def my (r:al):Prop:=r.kind < 1\/r.kind > 8
def nF (r:al):Prop:=r.aD < 0\/r.aD > 7\/r.ba < 0\/r.ba > 29\/r.sum < 1\/r.sum > 1000000
instance (r:al):Decidable (my r):=by unfold my;infer_instance
instance (r:al):Decidable (nF r):=by unfold nF;infer_instance
def mr:List al->Int->df
 |[],_=>⟨0,0⟩
 |r::l,i=>if my r then ⟨1,i⟩ else if nF r then ⟨3,i⟩ else mr l (i+1)
def gn (l:List al):df:=if l.length > 100 then ⟨5,0⟩ else mr l 0
theorem oe {l:List al} {q:Nat} {x:al} (h:l[q]?=some x):mr (l.drop q) q=if my x then ⟨1,q⟩ else if nF x then ⟨3,q⟩ else mr (l.drop (q+1)) ((q+1:Nat):Int):=by
 obtain ⟨hq,rfl⟩:=List.getElem?_eq_some_iff.1 h
 rw [List.drop_eq_getElem_cons hq];rfl
theorem zg {l:List al} {q:Nat} {i:Int} (h:l.length<=q):mr (l.drop q) i=⟨0,0⟩:=by rw [List.drop_of_length_le h];rfl
def wQ (r:al):Prop:=¬my r/\¬nF r
theorem wL:∀ {l:List al} {i:Int},(mr l i).err=0↔∀ x∈l,wQ x
 |[],i=>by simp [mr]
 |r::l,i=>by
  unfold mr
  split
  ·rename_i h
   simp only [List.mem_cons,forall_eq_or_imp]
   exact ⟨fun e=>absurd e (by decide),fun e=>absurd h e.1.1⟩
  ·split
   ·rename_i h
    simp only [List.mem_cons,forall_eq_or_imp]
    exact ⟨fun e=>absurd e (by decide),fun e=>absurd h e.1.2⟩
   ·rename_i h1 h2
    rw [wL]
    simp only [List.mem_cons,forall_eq_or_imp]
    exact ⟨fun e=>⟨⟨h1,h2⟩,e⟩,fun e=>e.2⟩
theorem yK {l:List al}:(gn l).err=0↔l.length<=100/\∀ x∈l,wQ x:=by
 unfold gn
 split
 ·exact ⟨fun e=>absurd e (by decide),fun e=>by omega⟩
 ·rw [wL];exact ⟨fun e=>⟨by omega,e⟩,fun e=>e.2⟩
theorem Ff {x:al} (h:wQ x):0<=x.aD/\x.aD<=7/\0<=x.ba/\x.ba<=29/\1<=x.kind/\x.kind<=8/\1<=x.sum/\x.sum<=1000000:=by
 unfold wQ my nF at h;omega
theorem qG {l:List al} {q:Nat} {x:al} (h:l[q]?=some x):l.take (q+1)=l.take q++[x]:=by
 rw [List.take_add_one,h];rfl
def mb (n:Int):Nat->List Int
 |0=>[]
 |k+1=>n / 256 ^ k % 256::mb n k
theorem pe (n:Int):∀ k,(mb n k).length=k
 |0=>rfl
 |k+1=>by unfold mb;rw [List.length_cons,pe n k]
theorem BR {n:Int} {k:Nat} (h:1<=k):mb n k=n / 256 ^ (k - 1) % 256::mb n (k - 1):=by
 obtain ⟨j,rfl⟩:∃ j,k=j+1:=⟨k - 1,by omega⟩
 rfl
theorem CH (k:Nat):(2:Int) ^ (8 * k)=256 ^ k:=by rw [Int.pow_mul];rfl
theorem Gi {k:Nat} {b n:Int} (h1:1<=k) (hb:b=8 * ((k:Int) - 1)):n / 2 ^ b.toNat=n / 256 ^ (k - 1):=by
 subst hb
 rw [show (8 * ((k:Int) - 1)).toNat=8 * (k - 1) by omega,CH]
def uE (x:al):List Int:=[x.aD % 256,x.ba % 256,x.kind % 256]++mb x.sum 3
def ly:List al->Int
 |[]=>0
 |x::l=>x.sum+ly l
theorem AD (u v:List al):ly (u++v)=ly u+ly v:=by
 induction u with
 |nil=>simp [ly]
 |cons x u ih=>simp only [List.cons_append,ly,ih];omega
theorem yU {l:List al} {q:Nat} {x:al} (h:l[q]?=some x):ly (l.take (q+1))=ly (l.take q)+x.sum:=by
 rw [qG h,AD];simp [ly]
def lX (l r:List al):List Int:=((l.length:Int) % 256)::r.flatMap uE
theorem yb {l r:List al} {q:Nat} {x:al} (h:r[q]?=some x):lX l (r.take (q+1))=lX l (r.take q)++uE x:=by
 unfold lX;rw [qG h,List.flatMap_append];simp
theorem AS (x:al):(uE x).length=6:=by unfold uE;rw [List.length_append,pe];rfl
theorem zI (l r:List al):(lX l r).length=1+6 * r.length:=by
 unfold lX
 rw [List.length_cons]
 induction r with
 |nil=>rfl
 |cons x r ih=>rw [List.flatMap_cons,List.length_append,AS,List.length_cons];omega
def jN (l:List al):List Int×df:=if (gn l).err=0 then (lX l (gu l)++mb (ly (gu l)) 4,⟨0,0⟩) else ([],gn l)
def dz (e err:Int):Int:=if e=0 then err else e
def dX (l:List Entry) (e src dst n:Int):List Entry×Int:=
 if dz e (jG l src dst n).2=0 then ((jG l src dst n).1,0) else (l,dz e (jG l src dst n).2)
def cH (l:List bI) (e k held bJ:Int):List bI×Int:=
 match l[k.toNat]? with
 |none=>(l,e)
 |some c=>if dz e (ec c held bJ).2=0 then (l.set k.toNat (ec c held bJ).1,0) else (l,dz e (ec c held bJ).2)
def eH (s:ca) (e:Int) (t:bu):ca×Int:=if dz e (gq s t).2=0 then ((gq s t).1,0) else (s,dz e (gq s t).2)
def iM (l:List al) (e:Int) (r:al):List al×Int:=if l.length=100 then (l,dz e 5) else (l++[r],e)
theorem sF {l:List bI} {e k held bJ:Int} {c:bI} (h:l[k.toNat]?=some c):cH l e k held bJ=if dz e (ec c held bJ).2=0 then (l.set k.toNat (ec c held bJ).1,0) else (l,dz e (ec c held bJ).2):=by
 unfold cH;rw [h]
def eG (ax:List bH) (due:List Int) (aq:List bI) (book:List Entry) (e:Int) (t:bu):List Int×List bI×List Entry×Int:=
 match ax[t.ba.toNat]? with
 |none=>(due,aq,book,e)
 |some a=>
  if t.kind=1 then (due.set a.aD.toNat (IntKind.i64.wrap (due.getD a.aD.toNat 0+t.sum)),aq,dX book e 1 (50+a.aD) t.sum)
  else if t.kind=2 then (due,(cH aq e a.aO 0 t.sum).1,dX book (cH aq e a.aO 0 t.sum).2 1 (10+a.aO) t.sum)
  else if t.kind=3 then (due.set a.aD.toNat (IntKind.i64.wrap (due.getD a.aD.toNat 0 - t.sum)),aq,dX book e (50+a.aD) 2 t.sum)
  else (due,aq,book,e)
structure Bk where (time:Int) (down:Bool) (aq:List bI) (due:List Int) (ax:List bH) (s0 s1:ca) (n0 n1:Int) (w0 w1:List cq) (aX:cC) (aS:List al) (book:List Entry)
 deriving DecidableEq
def dy (b c:Bk) (e:Int):Bk×Answer:=if e=0 then (c,⟨0,0⟩) else (b,⟨e,0⟩)
def fP (b:Bk) (d:bh):Bk×Answer:=
 if d.n < 0\/d.n>=b.aq.length then (b,⟨6,0⟩)
 else if d.sum < 1\/d.sum > 1000000 then (b,⟨3,0⟩)
 else dy b {b with aq:=(cH b.aq 0 d.n 0 d.sum).1,book:=(dX b.book (cH b.aq 0 d.n 0 d.sum).2 0 (10+d.n) d.sum).1} (dX b.book (cH b.aq 0 d.n 0 d.sum).2 0 (10+d.n) d.sum).2
def gZ (b:Bk) (d:bh):Bk×Answer:=
 if d.n < 0\/d.n>=b.due.length then (b,⟨6,0⟩)
 else if b.due.getD d.n.toNat 0<=0 then (b,⟨10,0⟩)
 else dy b {b with due:=b.due.set d.n.toNat 0,book:=(dX b.book 0 (50+d.n) 0 (b.due.getD d.n.toNat 0)).1} (dX b.book 0 (50+d.n) 0 (b.due.getD d.n.toNat 0)).2
def fK (time:Int):List bH->Nat->List bI->List bH->Int->List bI×List bH×Int
 |[],_,aq,ax,e=>(aq,ax,e)
 |a::l,i,aq,ax,e=>fK time l (i+1) (cH aq e a.aO (bP (eh a time) - bP a) 0).1 (ax.set i (eh a time)) (cH aq e a.aO (bP (eh a time) - bP a) 0).2
def gV (b:Bk):Bk:=if (fK b.time b.ax 0 b.aq b.ax 0).2.2=0 then {b with aq:=(fK b.time b.ax 0 b.aq b.ax 0).1,ax:=(fK b.time b.ax 0 b.aq b.ax 0).2.1} else b
def fo (b:Bk) (d:bh):Bk×Answer:=
 if d.sum < 0\/d.sum > 1000000 - b.time then (b,⟨3,0⟩)
 else (if b.down=true then {b with time:=b.time+d.sum} else gV {b with time:=b.time+d.sum},⟨0,0⟩)
def lU (l:List cq) (ks:List bu) (n:Int):List cq:=l++ks.map (fun t=>⟨t,-1⟩)++[⟨⟨0,0,0,0⟩,n⟩]
def jy (w:List cq) (ks:List bu) (n:Int):List cq×Answer:=if (lU w ks n).length > 60 then (w,⟨5,0⟩) else (lU w ks n,⟨0,0⟩)
def eR (s0 s1:ca) (n0 n1:Int) (w0 w1:List cq) (d:bh):List cq×List cq×Answer:=
 if d.n=0 then (w0,jy w1 s0.kept n0) else if d.n=1 then ((jy w0 s1.kept n1).1,w1,(jy w0 s1.kept n1).2) else (w0,w1,⟨6,0⟩)
def iL (aS:List al) (days:List (List Int)):List al×List (List Int)×Answer:=
 if (jN aS).2.err≠0 then (aS,days,⟨(jN aS).2.err,0⟩) else ([],days++[(jN aS).1],⟨0,0⟩)
def gF (e:Int):Int:=if e=10 then 12 else e
def dG (b:Bk) (d:bh):Bk×Answer:=
 if d.n < 0\/d.n>=b.aq.length\/d.aD < 0\/d.aD>=b.due.length then (b,⟨6,0⟩)
 else if b.down=true then
  (if gF (ct b.aX ⟨d.n,d.aD,d.sum,b.time⟩).2=0/\(b.ax.length:Int)+(ct b.aX ⟨d.n,d.aD,d.sum,b.time⟩).1.aQ.length > 30 then (b,⟨5,0⟩)
  else if gF (ct b.aX ⟨d.n,d.aD,d.sum,b.time⟩).2≠0 then (b,⟨gF (ct b.aX ⟨d.n,d.aD,d.sum,b.time⟩).2,0⟩)
  else ({b with aX:=(ct b.aX ⟨d.n,d.aD,d.sum,b.time⟩).1},⟨0,(b.ax.length:Int)+(ct b.aX ⟨d.n,d.aD,d.sum,b.time⟩).1.aQ.length - 1⟩))
 else if (dq d.n d.aD d.sum b.time).2=0/\b.ax.length=30 then (b,⟨5,0⟩)
 else if (dq d.n d.aD d.sum b.time).2≠0 then (b,⟨(dq d.n d.aD d.sum b.time).2,0⟩)
 else match b.aq[d.n.toNat]? with
  |none=>(b,⟨0,0⟩)
  |some c=>
   if (dR c d.sum b.time).2≠0 then (b,⟨(dR c d.sum b.time).2,0⟩)
   else ({b with aq:=b.aq.set d.n.toNat (dR c d.sum b.time).1,ax:=b.ax++[(dq d.n d.aD d.sum b.time).1]},⟨0,b.ax.length⟩)
theorem tH (s:cC) (a:cj):(ct s a).1.aQ.length<=s.aQ.length+1:=by
 unfold ct;(repeat' split)<;>simp [fH]
def kH (aq:List bI) (k:Int):Int:=
 match aq[k.toNat]? with
 |none=>0
 |some c=>c.bJ - c.held
def dU (b:Bk) (a cG:bH) (d:bh):List bI×List Int×List Entry×ca×ca×Int:=
 if d.move=1\/d.move=4 then ((cH b.aq 0 a.aO (bP a - bP cG) 0).1,b.due,b.book,b.s0,b.s1,(cH b.aq 0 a.aO (bP a - bP cG) 0).2)
 else if d.move=2\/d.move=3 then
  ((cH b.aq 0 a.aO (bP a - bP cG) (0 - d.sum)).1,b.due,(dX b.book (cH b.aq 0 a.aO (bP a - bP cG) (0 - d.sum)).2 (10+a.aO) 1 d.sum).1,
   (eH b.s0 (dX b.book (cH b.aq 0 a.aO (bP a - bP cG) (0 - d.sum)).2 (10+a.aO) 1 d.sum).2 ⟨0,1,d.n,d.sum⟩).1,b.s1,
   (eH b.s0 (dX b.book (cH b.aq 0 a.aO (bP a - bP cG) (0 - d.sum)).2 (10+a.aO) 1 d.sum).2 ⟨0,1,d.n,d.sum⟩).2)
 else if d.move=5 then
  (b.aq,b.due.set a.aD.toNat (IntKind.i64.wrap (b.due.getD a.aD.toNat 0 - d.sum)),(dX b.book 0 (50+a.aD) 1 d.sum).1,b.s0,(eH b.s1 (dX b.book 0 (50+a.aD) 1 d.sum).2 ⟨0,2,d.n,d.sum⟩).1,(eH b.s1 (dX b.book 0 (50+a.aD) 1 d.sum).2 ⟨0,2,d.n,d.sum⟩).2)
 else if d.move=6 then ((cH b.aq 0 a.aO 0 d.sum).1,b.due,(dX b.book (cH b.aq 0 a.aO 0 d.sum).2 2 (10+a.aO) d.sum).1,b.s0,b.s1,(dX b.book (cH b.aq 0 a.aO 0 d.sum).2 2 (10+a.aO) d.sum).2)
 else if d.move=7 then (b.aq,b.due,b.book,(eH b.s0 0 ⟨0,3,d.n,d.sum⟩).1,b.s1,(eH b.s0 0 ⟨0,3,d.n,d.sum⟩).2)
 else if d.move=8 then ((cH b.aq 0 a.aO 0 (0 - d.sum)).1,b.due,(dX b.book (cH b.aq 0 a.aO 0 (0 - d.sum)).2 (10+a.aO) 2 d.sum).1,b.s0,b.s1,(dX b.book (cH b.aq 0 a.aO 0 (0 - d.sum)).2 (10+a.aO) 2 d.sum).2)
 else (b.aq,b.due,b.book,b.s0,b.s1,0)
def pc (b:Bk) (a:bH) (d:bh) (r:List bI×List Int×List Entry×ca×ca×Int):Bk×Answer:=
 dy b { b with aq := r.1, due := r.2.1, book := r.2.2.1, s0 := r.2.2.2.1, s1 := r.2.2.2.2.1, aS := (iM b.aS r.2.2.2.2.2 ⟨a.aD, d.n, d.move, d.sum⟩).1, ax := b.ax.set d.n.toNat a } (iM b.aS r.2.2.2.2.2 ⟨a.aD, d.n, d.move, d.sum⟩).2
def dP (b:Bk) (d:bh):Bk×Answer:=
 if b.down=true then (b,⟨12,0⟩)
 else if d.n < 0\/d.n>=b.ax.length then (b,⟨6,0⟩)
 else match b.ax[d.n.toNat]? with
  |none=>(b,⟨0,0⟩)
  |some cG=>
   if (cv cG d.move d.sum).2≠0 then (b,⟨(cv cG d.move d.sum).2,0⟩)
   else if d.move=1/\d.sum > kH b.aq (cv cG d.move d.sum).1.aO then (b,⟨10,0⟩)
   else pc b (cv cG d.move d.sum).1 d (dU b (cv cG d.move d.sum).1 cG d)
theorem jf {a:bH} (h:0<=a.sum/\a.sum<=1000000/\0<=a.captured/\a.captured<=a.sum/\0<=a.bA/\0<=a.bp/\a.bA+a.bp<=a.captured/\0<=a.aO/\a.aO<=7/\0<=a.aD/\a.aD<=7/\0<=a.db/\a.db<=1000100):bK a=0:=by
 unfold bK;rw [if_neg (by omega),if_neg (by omega)]
theorem fb {α:Type} {x b:α} {e:Int} (h:(x,e)=(b,(0:Int))):x=b/\e=0:=Prod.mk.inj h
theorem vW {a b:bH} {k n:Int} (hw:bK a=0) (h1:1<=n) (h2:n<=1000000) (h:dK a k n=(b,0)):bK b=0/\b.aO=a.aO/\b.aD=a.aD:=by
 have hr:=eN hw
 unfold dK at h
 by_cases c1:a.shut=true
 ·rw [if_pos c1] at h;have:=(fb h).2;omega
 rw [if_neg c1] at h
 by_cases c2:k=1
 ·rw [if_pos c2] at h
  by_cases c3:n > 1000000 - a.sum
  ·rw [if_pos c3] at h;have:=(fb h).2;omega
  ·rw [if_neg c3] at h;obtain ⟨rfl,_⟩:=fb h
   exact ⟨jf (by dsimp only;omega),rfl,rfl⟩
 rw [if_neg c2] at h
 by_cases c3:n > a.sum - a.captured
 ·rw [if_pos c3] at h;have:=(fb h).2;omega
 rw [if_neg c3] at h
 by_cases c4:k=4
 ·rw [if_pos c4] at h;obtain ⟨rfl,_⟩:=fb h
  exact ⟨jf (by dsimp only;omega),rfl,rfl⟩
 ·rw [if_neg c4] at h;obtain ⟨rfl,_⟩:=fb h
  exact ⟨jf (by dsimp only;omega),rfl,rfl⟩
theorem mv {a b:bH} {k n:Int} (h:cv a k n=(b,0)):bK a=0/\bK b=0/\b.aO=a.aO/\b.aD=a.aD/\1<=k/\k<=8/\1<=n/\n<=1000000:=by
 unfold cv at h
 by_cases c0:bK a≠0
 ·rw [if_pos c0] at h;exact absurd (fb h).2 c0
 rw [if_neg c0] at h
 have hw:bK a=0:=by omega
 have hr:=eN hw
 by_cases c1:k < 1\/k > 8
 ·rw [if_pos c1] at h;have:=(fb h).2;omega
 rw [if_neg c1] at h
 by_cases c2:n < 1\/n > 1000000
 ·rw [if_pos c2] at h;have:=(fb h).2;omega
 rw [if_neg c2] at h
 have hb:bK b=0/\b.aO=a.aO/\b.aD=a.aD:=by
  by_cases k5:k=5
  ·rw [if_pos k5] at h
   by_cases c:n > a.captured - a.bA - a.bp
   ·rw [if_pos c] at h;have:=(fb h).2;omega
   ·rw [if_neg c] at h;obtain ⟨rfl,_⟩:=fb h;exact ⟨jf (by dsimp only;omega),rfl,rfl⟩
  rw [if_neg k5] at h
  by_cases k6:k=6
  ·rw [if_pos k6] at h
   by_cases c:n > a.captured - a.bA - a.bp
   ·rw [if_pos c] at h;have:=(fb h).2;omega
   ·rw [if_neg c] at h;obtain ⟨rfl,_⟩:=fb h;exact ⟨jf (by dsimp only;omega),rfl,rfl⟩
  rw [if_neg k6] at h
  by_cases k7:k=7
  ·rw [if_pos k7] at h
   by_cases c:n > a.bp
   ·rw [if_pos c] at h;have:=(fb h).2;omega
   ·rw [if_neg c] at h;obtain ⟨rfl,_⟩:=fb h;exact ⟨jf (by dsimp only;omega),rfl,rfl⟩
  rw [if_neg k7] at h
  by_cases k8:k=8
  ·rw [if_pos k8] at h
   by_cases c:n > a.bp
   ·rw [if_pos c] at h;have:=(fb h).2;omega
   ·rw [if_neg c] at h;obtain ⟨rfl,_⟩:=fb h;exact ⟨jf (by dsimp only;omega),rfl,rfl⟩
  rw [if_neg k8] at h
  by_cases c:(dK a k n).2≠0
  ·rw [if_pos c] at h;exact absurd (fb h).2 c
  ·rw [if_neg c] at h;exact vW hw (by omega) (by omega) h
 exact ⟨hw,hb.1,hb.2.1,hb.2.2,by omega,by omega,by omega,by omega⟩
theorem Au {c:bI} (h:cZ c=0):-9223372036854775808<=c.bJ - c.held/\c.bJ - c.held<=9223372036854775807:=by
 have:=iY h;omega
def gi:List cj->List bI->List bH->List bI×List bH×Int
 |[],cs,xs=>(cs,xs,0)
 |x::l,cs,xs=>
  if (dq x.aO x.aD x.sum x.time).2≠0 then (cs,xs,(dq x.aO x.aD x.sum x.time).2)
  else match cs[x.aO.toNat]? with
   |none=>(cs,xs,0)
   |some c=>if (eP c x.sum).2≠0 then (cs,xs,(eP c x.sum).2) else gi l (cs.set x.aO.toNat (eP c x.sum).1) (xs++[(dq x.aO x.aD x.sum x.time).1])
theorem pW {l:List cj} {q:Nat} {x:cj} {cs:List bI} {xs:List bH} (h:l[q]?=some x):gi (l.drop q) cs xs=
  if (dq x.aO x.aD x.sum x.time).2≠0 then (cs,xs,(dq x.aO x.aD x.sum x.time).2)
  else match cs[x.aO.toNat]? with
   |none=>(cs,xs,0)
   |some c=>if (eP c x.sum).2≠0 then (cs,xs,(eP c x.sum).2) else gi (l.drop (q+1)) (cs.set x.aO.toNat (eP c x.sum).1) (xs++[(dq x.aO x.aD x.sum x.time).1]):=by
 obtain ⟨hq,rfl⟩:=List.getElem?_eq_some_iff.1 h
 rw [List.drop_eq_getElem_cons hq];rfl
def iV (b:Bk):Bk×Answer:=
 if b.down=false then (b,⟨8,0⟩)
 else if (dd b.aX).2.2≠0 then (b,⟨(dd b.aX).2.2,0⟩)
 else if (gi (dd b.aX).2.1 b.aq b.ax).2.2≠0 then (b,⟨(gi (dd b.aX).2.1 b.aq b.ax).2.2,0⟩)
 else (gV {b with aq:=(gi (dd b.aX).2.1 b.aq b.ax).1,ax:=(gi (dd b.aX).2.1 b.aq b.ax).2.1,aX:=(dd b.aX).1,down:=false},⟨0,0⟩)
def fT (b:Bk) (d:bh):Bk×Answer:=
 match b.w0[0]? with
 |none=>(b,⟨6,0⟩)
 |some p=>
  if d.kind=7 then ({b with w0:=b.w0.drop 1},⟨0,0⟩)
  else if p.seen>=0 then (if (ea b.s0 p.seen).2=0 then ({b with w0:=b.w0.drop 1,s0:=(ea b.s0 p.seen).1},⟨0,0⟩) else (b,⟨(ea b.s0 p.seen).2,0⟩))
  else if (ia b.n0 p.ck).2=true then
   dy b { b with w0 := b.w0.drop 1, n0 := (ia b.n0 p.ck).1, due := (eG b.ax b.due b.aq b.book 0 p.ck).1, aq := (eG b.ax b.due b.aq b.book 0 p.ck).2.1, book := (eG b.ax b.due b.aq b.book 0 p.ck).2.2.1 } (eG b.ax b.due b.aq b.book 0 p.ck).2.2.2
  else ({b with w0:=b.w0.drop 1,n0:=(ia b.n0 p.ck).1},⟨0,0⟩)
def fS (b:Bk) (d:bh):Bk×Answer:=
 match b.w1[0]? with
 |none=>(b,⟨6,0⟩)
 |some p=>
  if d.kind=7 then ({b with w1:=b.w1.drop 1},⟨0,0⟩)
  else if p.seen>=0 then (if (ea b.s1 p.seen).2=0 then ({b with w1:=b.w1.drop 1,s1:=(ea b.s1 p.seen).1},⟨0,0⟩) else (b,⟨(ea b.s1 p.seen).2,0⟩))
  else if (ia b.n1 p.ck).2=true then
   dy b { b with w1 := b.w1.drop 1, n1 := (ia b.n1 p.ck).1, due := (eG b.ax b.due b.aq b.book 0 p.ck).1, aq := (eG b.ax b.due b.aq b.book 0 p.ck).2.1, book := (eG b.ax b.due b.aq b.book 0 p.ck).2.2.1 } (eG b.ax b.due b.aq b.book 0 p.ck).2.2.2
  else ({b with w1:=b.w1.drop 1,n1:=(ia b.n1 p.ck).1},⟨0,0⟩)
def cw (b:Bk) (d:bh):Bk×Answer:=if d.n=0 then fT b d else if d.n=1 then fS b d else (b,⟨6,0⟩)
def fv (b:Bk) (days:List (List Int)) (d:bh):Bk×List (List Int)×Answer:=
 if d.kind=1 then ((fP b d).1,days,(fP b d).2)
 else if d.kind=2 then ((dG b d).1,days,(dG b d).2)
 else if d.kind=3 then ((dP b d).1,days,(dP b d).2)
 else if d.kind=4 then ((fo b d).1,days,(fo b d).2)
 else if d.kind=5 then ({b with w0:=(eR b.s0 b.s1 b.n0 b.n1 b.w0 b.w1 d).1,w1:=(eR b.s0 b.s1 b.n0 b.n1 b.w0 b.w1 d).2.1},days,(eR b.s0 b.s1 b.n0 b.n1 b.w0 b.w1 d).2.2)
 else if d.kind=6\/d.kind=7 then ((cw b d).1,days,(cw b d).2)
 else if d.kind=8 then (if b.down=true then (b,days,⟨8,0⟩) else ({b with down:=true},days,⟨0,0⟩))
 else if d.kind=9 then ((iV b).1,days,(iV b).2)
 else if d.kind=10 then ({b with aS:=(iL b.aS days).1},(iL b.aS days).2.1,(iL b.aS days).2.2)
 else if d.kind=11 then ((gZ b d).1,days,(gZ b d).2)
 else (b,days,⟨1,0⟩)
def eC (b:Bk) (days:List (List Int)) (told:List (Int×Answer)) (cl:Nat) (d:bh):Bk×List (List Int)×List (Int×Answer)×Nat×Answer:=
 if (fF told d.id).isSome=true/\d.id≠0 then (b,days,told,cl,(fF told d.id).getD ⟨0,0⟩)
 else ((fv b days d).1,(fv b days d).2.1,ml told d.id (fv b days d).2.2,if (fF told d.id).isSome then cl else cl+1,(fv b days d).2.2)
structure Setup where (cQ:List eu) (eZ cap:Int)
 deriving DecidableEq
def oh:List eu->Int->df
 |[],_=>⟨0,0⟩
 |p::l,i=>if fu p≠0 then ⟨fu p,i⟩ else oh l (i+1)
theorem sQ {l:List eu} {q:Nat} {p:eu} (h:l[q]?=some p):oh (l.drop q) q=if fu p≠0 then ⟨fu p,q⟩ else oh (l.drop (q+1)) ((q+1:Nat):Int):=by
 obtain ⟨hq,rfl⟩:=List.getElem?_eq_some_iff.1 h
 rw [List.drop_eq_getElem_cons hq];rfl
def eE (s:Setup):df:=
 if s.cQ.length > 8\/s.eZ < 0\/s.eZ > 8 then ⟨5,0⟩ else if s.cap < 0\/s.cap > 1000000 then ⟨3,0⟩ else oh s.cQ 0
def Dx:Bk:=⟨0,false,[],[],[],⟨0,[]⟩,⟨0,[]⟩,0,0,[],[],⟨0,[],[]⟩,[],[]⟩
def pd (p:eu):bI:=⟨0,0,p,[]⟩
def iB (s:Setup):Bk:=⟨0,false,s.cQ.map pd,List.replicate s.eZ.toNat 0,[],⟨0,[]⟩,⟨0,[]⟩,0,0,[],[],(dA s.cap s.cQ.length).1,[],[]⟩
def ko:List bh->Bk->List (List Int)->List (Int×Answer)->Nat->List Answer->Bk×List (List Int)×List Answer
 |[],b,days,_,_,out=>(b,days,out)
 |d::l,b,days,told,cl,out=>ko l (eC b days told cl d).1 (eC b days told cl d).2.1 (eC b days told cl d).2.2.1 (eC b days told cl d).2.2.2.1 (out++[(eC b days told cl d).2.2.2.2])
theorem xQ {l:List bh} {q:Nat} {d:bh} {b:Bk} {days:List (List Int)} {told:List (Int×Answer)} {cl:Nat} {out:List Answer} (h:l[q]?=some d):
  ko (l.drop q) b days told cl out=ko (l.drop (q+1)) (eC b days told cl d).1 (eC b days told cl d).2.1 (eC b days told cl d).2.2.1 (eC b days told cl d).2.2.2.1 (out++[(eC b days told cl d).2.2.2.2]):=by
 obtain ⟨hq,rfl⟩:=List.getElem?_eq_some_iff.1 h
 rw [List.drop_eq_getElem_cons hq];rfl
def iK (s:Setup) (l:List bh):Bk×List (List Int)×List Answer×df:=
 if (eE s).err≠0 then (Dx,[],[],eE s) else if l.length > 150 then (Dx,[],[],⟨5,0⟩)
 else ((ko l (iB s) [] [] 0 []).1,(ko l (iB s) [] [] 0 []).2.1,(ko l (iB s) [] [] 0 []).2.2,⟨0,0⟩)
theorem xZ {time:Int} {l:List bH} {q:Nat} {a:bH} {aq:List bI} {ax:List bH} {e:Int} (h:l[q]?=some a):fK time (l.drop q) q aq ax e=
  fK time (l.drop (q+1)) (q+1) (cH aq e a.aO (bP (eh a time) - bP a) 0).1 (ax.set q (eh a time)) (cH aq e a.aO (bP (eh a time) - bP a) 0).2:=by
 obtain ⟨hq,rfl⟩:=List.getElem?_eq_some_iff.1 h
 rw [List.drop_eq_getElem_cons hq];rfl
theorem fg (l:List bI) (e k held bJ:Int):(cH l e k held bJ).1.length=l.length:=by
 unfold cH
 split
 ·rfl
 ·split<;>simp
theorem xc {a:bH} {t:Int} (h:bK a=0):bK (eh a t)=0:=by
 unfold bK at h ⊢;unfold eh;exact h
theorem ox {a:bH} (h:bK a=0):0<=bP a/\bP a<=1000000:=by
 have:=eN h
 unfold bP;split<;>omega
structure cu (b:Bk):Prop where
 time:0<=b.time/\b.time<=1000000
 aq:b.aq.length<=8
 due:b.due.length<=8
 ax:b.ax.length+b.aX.aQ.length<=30
 aS:b.aS.length<=100
 w0:b.w0.length<=60
 w1:b.w1.length<=60
 perm:∀ a∈b.ax,bK a=0/\0<=a.aO/\a.aO < b.aq.length/\0<=a.aD/\a.aD < b.due.length
 js:∀ a∈b.aX.aQ,0<=a.aO/\a.aO < b.aq.length/\0<=a.aD/\a.aD < b.due.length
 k0:∀ t∈b.s0.kept,eY t.number/\0<=t.ba/\t.ba < b.ax.length
 k1:∀ t∈b.s1.kept,eY t.number/\0<=t.ba/\t.ba < b.ax.length
 right:∀ c∈b.aq,cZ c=0
 l0:b.s0.kept.length<=40
 l1:b.s1.kept.length<=40
 p0:∀ p∈b.w0,p.seen < 0->eY p.ck.number/\0<=p.ck.ba/\p.ck.ba < b.ax.length
 p1:∀ p∈b.w1,p.seen < 0->eY p.ck.number/\0<=p.ck.ba/\p.ck.ba < b.ax.length
 n0:0<=b.n0
 n1:0<=b.n1
 calm:b.down=false->b.aX.aQ=[]
theorem cu.tick {b:Bk} (h:cu b) {t:Int} (h0:0<=t) (h1:t<=1000000):cu {b with time:=t}:=
 ⟨⟨h0,h1⟩,h.aq,h.due,h.ax,h.aS,h.w0,h.w1,h.perm,h.js,h.k0,h.k1,h.right,h.l0,h.l1,h.p0,h.p1,h.n0,h.n1,h.calm⟩
def zl (x:eu):Prop:=eY x.cE/\eY x.count/\eY x.sum
theorem xR:jP Try.prog 58 3 fi zl:=⟨fun _=>rfl,fun H enc w base spare held n cs y h=>by
  obtain ⟨hl,m,hF⟩:=oD Try.underlying58 h
  obtain ⟨⟨a0,q0,r0⟩,hF⟩:=eQ (o:=0) (o':=1) hF (fz Try.underlying3) rfl (by kernel_rfl) rfl
  obtain ⟨⟨a1,q1,r1⟩,hF⟩:=eQ (o:=1) (o':=2) hF (fz Try.underlying3) rfl (by kernel_rfl) rfl
  obtain ⟨⟨a2,q2,r2⟩,hF⟩:=eQ (o:=2) (o':=3) hF (fz Try.underlying3) rfl (by kernel_rfl) rfl
  exact ⟨⟨a0,a1,a2⟩,r0 _ (r1 _ (r2 _ (nz (hl.trans (by kernel_rfl))))),q0,q1,q2⟩⟩
def zm (x:bh):Prop:=eY x.id/\eY x.kind/\eY x.n/\eY x.aD/\eY x.move/\eY x.sum
theorem xS:jP Try.prog 27 6 cY zm:=⟨fun _=>rfl,fun H enc w base spare held n cs y h=>by
  obtain ⟨hl,m,hF⟩:=oD Try.underlying27 h
  obtain ⟨⟨a0,q0,r0⟩,hF⟩:=eQ (o:=0) (o':=1) hF (fz Try.underlying3) rfl (by kernel_rfl) rfl
  obtain ⟨⟨a1,q1,r1⟩,hF⟩:=eQ (o:=1) (o':=2) hF (fz Try.underlying3) rfl (by kernel_rfl) rfl
  obtain ⟨⟨a2,q2,r2⟩,hF⟩:=eQ (o:=2) (o':=3) hF (fz Try.underlying3) rfl (by kernel_rfl) rfl
  obtain ⟨⟨a3,q3,r3⟩,hF⟩:=eQ (o:=3) (o':=4) hF (fz Try.underlying3) rfl (by kernel_rfl) rfl
  obtain ⟨⟨a4,q4,r4⟩,hF⟩:=eQ (o:=4) (o':=5) hF (fz Try.underlying3) rfl (by kernel_rfl) rfl
  obtain ⟨⟨a5,q5,r5⟩,hF⟩:=eQ (o:=5) (o':=6) hF (fz Try.underlying3) rfl (by kernel_rfl) rfl
  exact ⟨⟨a0,a1,a2,a3,a4,a5⟩,r0 _ (r1 _ (r2 _ (r3 _ (r4 _ (r5 _ (nz (hl.trans (by kernel_rfl)))))))),q0,q1,q2,q3,q4,q5⟩⟩
def EM (x:Setup):List D:=[.r 3 (x.cQ.map fi),dI x.eZ,dI x.cap]
def CI (x:Setup):Prop:=((∀ y∈x.cQ,zl y)/\x.cQ.length<=9223372036854775807)/\eY x.eZ/\eY x.cap
theorem vV:jP Try.prog 55 3 EM CI:=⟨fun _=>rfl,fun H enc w base spare held n cs y h=>by
  obtain ⟨hl,m,hF⟩:=oD Try.underlying55 h
  obtain ⟨⟨a0,q0,r0⟩,hF⟩:=eQ (o:=0) (o':=1) hF (mu Try.underlying53 (by kernel_rfl) (by decide) xR) rfl (by kernel_rfl) rfl
  obtain ⟨⟨a1,q1,r1⟩,hF⟩:=eQ (o:=1) (o':=2) hF (fz Try.underlying3) rfl (by kernel_rfl) rfl
  obtain ⟨⟨a2,q2,r2⟩,hF⟩:=eQ (o:=2) (o':=3) hF (fz Try.underlying3) rfl (by kernel_rfl) rfl
  exact ⟨⟨a0,a1,a2⟩,r0 _ (r1 _ (r2 _ (nz (hl.trans (by kernel_rfl))))),q0,q1,q2⟩⟩
theorem AX:jP Try.prog 27 6 cY zm:=xS

def aY (b:Bk) (i j k m:Nat) (u v:CV):List CV:=[(cI b.time),(cB b.down),(.s i 0 6 b.aq.length),(.s j 0 1 b.due.length),(.s k 0 8 b.ax.length),(cI b.s0.bz),(cm b.s0.kept),(cI b.s1.bz),(cm b.s1.kept),(cI b.n0),(cI b.n1),(cT b.w0),(cT b.w1),(cI b.aX.cap),(cX b.aX.used),(dV b.aX.aQ),(.s m 0 4 b.aS.length),u,(da b.book),v]
def bg (x:Nat->Value):List CV:=[.d (.v (x 0)),.d (.v (x 1)),.d (.v (x 2)),.d (.v (x 3)),.d (.v (x 4)),.d (.v (x 5)),.d (.v (x 6)),.d (.v (x 7)),.d (.v (x 8)),.d (.v (x 9)),.d (.v (x 10)),.d (.v (x 11)),.d (.v (x 12)),.d (.v (x 13)),.d (.v (x 14)),.d (.v (x 15)),.d (.v (x 16)),.d (.v (x 17)),.d (.v (x 18)),.d (.v (x 19))]
def dw:List (Option CV):=[none,none,none,none,none,none,none,none,none,none,none,none,none,none,none,none,none,none,none,none]
def iT (b:Bk) (i j k m:Nat) (u v:Option CV):List (Option CV):=[some (cI b.time),some (cB b.down),some (.s i 0 6 b.aq.length),some (.s j 0 1 b.due.length),some (.s k 0 8 b.ax.length),some (cI b.s0.bz),some (cm b.s0.kept),some (cI b.s1.bz),some (cm b.s1.kept),some (cI b.n0),some (cI b.n1),some (cT b.w0),some (cT b.w1),some (cI b.aX.cap),some (cX b.aX.used),some (dV b.aX.aQ),some (.s m 0 4 b.aS.length),u,some (da b.book),v]


theorem vx (a b c:Int):Fn Try.prog 44 [(.g [(cI a),(cI b),(cI c)])] (aI (kx a b c)) []:=by
 refine Fn.mk' 31 [(0,(aG [(cI a),(cI b),(cI c)]))] Try.func44 rfl rfl rfl rfl ?_
 intro W0 T0
 refine ae aa 2 rfl ?_
 refine ag ?_
 refine ch 30 ((((((decide (a < 1))||(decide (a > 1000000)))||(decide (b < 0)))||(decide (b > 30)))||(decide (c < 0)))||(decide (c > 1000000000000))) ?_ ?_
 ·
  refine au ?_
  refine ad aa 4 rfl ?_
  refine bE (t:=6) rfl (fun hb1=>?_) (fun hb1=>?_)
  ·
   have hb1':=of_decide_eq_true hb1
   refine ad aa 24 rfl ?_
   refine af ?_
   exact aE.bB 29 rfl rfl (by first|(simp [hb1];done)|(simp_all;done)|(exfalso;simp_all;done)|(simp_all;omega)) rfl
  have hb1':=of_decide_eq_false hb1
  refine ad aa 5 rfl ?_
  refine bE (t:=11) rfl (fun hb2=>?_) (fun hb2=>?_)
  ·
   have hb2':=of_decide_eq_true hb2
   refine ad aa 19 rfl ?_
   refine af ?_
   exact aE.bB 30 rfl rfl (by first|(simp [hb1,hb2];done)|(simp_all;done)|(exfalso;simp_all;done)|(simp_all;omega)) rfl
  have hb2':=of_decide_eq_false hb2
  refine ad aa 5 rfl ?_
  refine bE (t:=16) rfl (fun hb3=>?_) (fun hb3=>?_)
  ·
   have hb3':=of_decide_eq_true hb3
   refine ad aa 14 rfl ?_
   refine af ?_
   exact aE.bB 31 rfl rfl (by first|(simp [hb1,hb2,hb3];done)|(simp_all;done)|(exfalso;simp_all;done)|(simp_all;omega)) rfl
  have hb3':=of_decide_eq_false hb3
  refine ad aa 5 rfl ?_
  refine bE (t:=21) rfl (fun hb4=>?_) (fun hb4=>?_)
  ·
   have hb4':=of_decide_eq_true hb4
   refine ad aa 9 rfl ?_
   refine af ?_
   exact aE.bB 32 rfl rfl (by first|(simp [hb1,hb2,hb3,hb4];done)|(simp_all;done)|(exfalso;simp_all;done)|(simp_all;omega)) rfl
  have hb4':=of_decide_eq_false hb4
  refine ad aa 5 rfl ?_
  refine bE (t:=26) rfl (fun hb5=>?_) (fun hb5=>?_)
  ·
   have hb5':=of_decide_eq_true hb5
   refine ad aa 4 rfl ?_
   refine af ?_
   exact aE.bB 33 rfl rfl (by first|(simp [hb1,hb2,hb3,hb4,hb5];done)|(simp_all;done)|(exfalso;simp_all;done)|(simp_all;omega)) rfl
  have hb5':=of_decide_eq_false hb5
  refine ad aa 4 rfl ?_
  refine af ?_
  exact aE.bB 33 rfl rfl (by first|(simp [hb1,hb2,hb3,hb4,hb5];done)|(simp_all;done)|(exfalso;simp_all;done)|(simp_all;omega)) rfl
 refine aj rfl (fun hc6=>?_) (fun hc6=>?_)
 ·
  have hc6':=hc6;try simp only [bq,bM] at hc6'
  refine ae aa 1 rfl ?_
  refine az ?_
  refine ar ?_
  refine an aa [] 0 rfl rfl rfl rfl rfl rfl ?_ ?_
  ·(show aI _=aI _;unfold kx;rw [if_pos (by omega)])
  ·rfl
 have hc6':=hc6;try simp only [bq,bM] at hc6'
 refine aP ?_
 refine ae aa 1 rfl ?_
 refine az ?_
 refine an aa [] 0 rfl rfl rfl rfl rfl rfl ?_ ?_
 ·(show aI _=aI _;unfold kx;rw [if_neg (by omega)])
 ·rfl

theorem wh (l:List de):Fn Try.prog 45 [(.c (eD l))] (aG [cI (cW l).1,cI (cW l).2]) []:=by
 refine Fn.mk' 53 [(0,(aC (eD l)))] Try.func45 rfl rfl rfl rfl ?_
 intro W0 T0
 refine dk 0 rfl (fun hlen0=>?_)
 refine ae aa 1 rfl ?_
 refine ag ?_
 refine aH aa 1 rfl ?_
 refine ay (bN rfl rfl rfl rfl rfl Try.underlying59) rfl ?_
 refine ad aa 1 rfl ?_
 refine af ?_
 refine aj rfl (fun hc1=>?_) (fun hc1=>?_)
 ·
  have hc1':=of_decide_eq_true hc1
  refine ae aa 2 rfl ?_
  refine az ?_
  refine ar ?_
  refine an aa [0] 0 rfl rfl rfl rfl rfl rfl ?_ ?_
  ·(have h:cW l=(5,0):=by (unfold cW;rw [if_pos (by omega)]));rw [h];rfl
  ·rfl
 have hc1':=of_decide_eq_false hc1
 refine aP ?_
 refine ag ?_
 refine aH aa 1 rfl ?_
 refine ay (bN rfl rfl rfl rfl rfl Try.underlying59) rfl ?_
 refine ad aa 1 rfl ?_
 refine af ?_
 refine aU ?_
 refine cg (β:=Nat) (fun (q:Nat)=>⟨[(0,(aC (eD l))),(2,(aC (.p 0 0 0 0))),(9,(aC (eD l))),(10,(aI (↑l.length:Int))),(11,(aI (↑q:Int)))],[(0,(.box 50 [(cI 0),(cI 0)]))],1⟩) (fun (q:Nat)=>q<=l.length/\scan (kL l) 0 l.length=scan (kL l) q (l.length - q)) (fun (q:Nat)=>l.length - q) 0 ?_ ?_ ?_
 ·exact ⟨by omega,rfl⟩
 ·exact aE.bR id (by refine ⟨?_,?_,?_,?_,?_,trivial⟩<;>first|rfl|(simp only [bc];done)|(congr 3;omega)|(congr 4;omega)|(simp only [bd];rfl)) (⟨by first|rfl|(simp only [bc];done)|(congr 3;omega)|(congr 4;omega)|(simp only [bd];rfl),trivial⟩) rfl
 rintro q ⟨hi0_0,hi0_1⟩
 refine ae aa 1 rfl ?_
 refine ag ?_
 refine aj rfl (fun hc2=>?_) (fun hc2=>?_)
 ·
  have hc2':=of_decide_eq_true hc2
  refine aP ?_
  refine ag ?_
  refine aU ?_
  refine aH aa 1 rfl ?_
  obtain ⟨x1,hx1⟩:=cb (xs:=l) (i:=q) (by first|omega|(simp;done)|(simp;omega))
  refine ay (bV (i:=q) rfl rfl rfl Try.underlying59 gT (by first|omega|(simp;done)|(simp;omega)) (bf hx1)) rfl ?_
  refine ad aa 4 rfl ?_
  refine af ?_
  refine ag ?_
  refine ch 33 ((((decide (x1.time < 0))||(decide (x1.time > 1000000)))||(decide (x1.sum < 0)))||(decide (x1.sum > 1000000))) ?_ ?_
  ·
   refine au ?_
   refine ad aa 4 rfl ?_
   refine bE (t:=19) rfl (fun hb3=>?_) (fun hb3=>?_)
   ·
    have hb3':=of_decide_eq_true hb3
    refine ad aa 14 rfl ?_
    refine af ?_
    exact aE.bB 19 rfl rfl (by first|(simp [hb3];done)|(simp_all;done)|(exfalso;simp_all;done)|(simp_all;omega)) rfl
   have hb3':=of_decide_eq_false hb3
   refine ad aa 5 rfl ?_
   refine bE (t:=24) rfl (fun hb4=>?_) (fun hb4=>?_)
   ·
    have hb4':=of_decide_eq_true hb4
    refine ad aa 9 rfl ?_
    refine af ?_
    exact aE.bB 20 rfl rfl (by first|(simp [hb3,hb4];done)|(simp_all;done)|(exfalso;simp_all;done)|(simp_all;omega)) rfl
   have hb4':=of_decide_eq_false hb4
   refine ad aa 5 rfl ?_
   refine bE (t:=29) rfl (fun hb5=>?_) (fun hb5=>?_)
   ·
    have hb5':=of_decide_eq_true hb5
    refine ad aa 4 rfl ?_
    refine af ?_
    exact aE.bB 21 rfl rfl (by first|(simp [hb3,hb4,hb5];done)|(simp_all;done)|(exfalso;simp_all;done)|(simp_all;omega)) rfl
   have hb5':=of_decide_eq_false hb5
   refine ad aa 4 rfl ?_
   refine af ?_
   exact aE.bB 21 rfl rfl (by first|(simp [hb3,hb4,hb5];done)|(simp_all;done)|(exfalso;simp_all;done)|(simp_all;omega)) rfl
  refine aj rfl (fun hc6=>?_) (fun hc6=>?_)
  ·
   have hc6':=hc6;try simp only [bq,bM] at hc6'
   refine ae aa 3 rfl ?_
   refine az ?_
   refine ar ?_
   refine bo ?_
   refine ar ?_
   refine ar ?_
   refine bo ?_
   refine ar ?_
   refine an aa [0] 0 rfl rfl rfl rfl rfl rfl ?_ ?_
   ·(have h:cW l=(3,(q:Int)):=by (unfold cW;rw [if_neg (by omega),hi0_1];exact ib (by omega) (show kL l q=3 by (unfold kL;simp only [hx1];rw [if_pos (by omega)])) (by decide)));rw [h];rfl
   ·rfl
  have hc6':=hc6;try simp only [bq,bM] at hc6'
  refine aP ?_
  refine ag ?_
  rcases Bool.eq_false_or_eq_true (decide ((↑q:Int) > 0)) with hb7|hb7
  ·
   have hb7':=of_decide_eq_true hb7
   obtain ⟨x2,hx2⟩:=cb (xs:=l) (i:=(q) - 1) (by first|omega|(simp;done)|(simp;omega))
   refine aW [0,2,9,10,11,4,3] [1,0] mixed rfl rfl ?_
   refine aw (kn:=[(37,true)]) aa 5 rfl ⟨hb7,trivial⟩ ?_
   refine aM (n':=2) [40,38] [] rfl rfl (.inl ⟨(ah.yes rfl rfl rfl),aF.cast (aJ rfl rfl rfl (aL (by first|omega|(simp;done)|(simp;omega)))) rfl⟩) rfl ?_
   refine aM (n':=2) [39,41,38] [] rfl rfl (.inl ⟨(ah.yes rfl rfl rfl),aF.cast (bV (i:=(q) - 1) rfl rfl rfl Try.underlying59 gT (by first|omega|(simp;done)|(simp;omega)) (bf hx2)) rfl⟩) rfl ?_
   refine aw (kn:=[]) aa 6 rfl trivial ?_
   refine bw [1,0] rfl rfl rfl rfl (by kernel_rfl) ?_
   refine af ?_
   refine aj rfl (fun hc8=>?_) (fun hc8=>?_)
   ·
    have hc8':=of_decide_eq_true hc8
    refine ae aa 3 rfl ?_
    refine az ?_
    refine bo ?_
    refine ar ?_
    refine ar ?_
    refine bo ?_
    refine ar ?_
    refine an aa [0] 0 rfl rfl rfl rfl rfl rfl ?_ ?_
    ·(have h:cW l=(2,(q:Int)):=by (unfold cW;rw [if_neg (by omega),hi0_1];exact ib (by omega) (show kL l q=2 by (unfold kL;simp only [hx1];rw [if_neg (by omega),if_pos (by refine ⟨by omega,?_⟩;rw [List.getD_eq_getElem?_getD,hx2];simp only [Option.getD_some];omega)])) (by decide)));rw [h];rfl
    ·rfl
   have hc8':=of_decide_eq_false hc8
   refine cD ?_
   refine bl ?_
   refine then_ok ?_
   refine au ?_
   refine ay (aJ rfl rfl rfl (aL (by first|omega|(simp;done)|(simp;omega)))) rfl ?_
   refine ad aa 1 rfl ?_
   refine af ?_
   refine ⟨q+1,⟨by omega,by rw [hi0_1];exact mE (by omega) (by unfold kL;simp only [hx1];rw [if_neg (by omega),if_neg (by first|omega|(rw [List.getD_eq_getElem?_getD,hx2];simp only [Option.getD_some];omega))])⟩,by first|omega|(simp;done)|(simp;omega),aE.bR id (by refine ⟨?_,?_,?_,?_,?_,trivial⟩<;>first|rfl|(simp only [bc];done)|(congr 3;omega)|(congr 4;omega)|(simp only [bd];rfl)) (⟨by first|rfl|(simp only [bc];done)|(congr 3;omega)|(congr 4;omega)|(simp only [bd];rfl),trivial⟩) rfl⟩
  have hb7':=of_decide_eq_false hb7
  refine aW [0,2,9,10,11,4,3] [1,0] mixed rfl rfl ?_
  refine aw (kn:=[(37,false)]) aa 13 rfl ⟨hb7,trivial⟩ ?_
  refine bw [1,0] rfl rfl rfl rfl (by kernel_rfl) ?_
  refine af ?_
  refine aj rfl (fun hno=>by cases hno) (fun _=>?_)
  refine cD ?_
  refine bl ?_
  refine then_ok ?_
  refine au ?_
  refine ay (aJ rfl rfl rfl (aL (by first|omega|(simp;done)|(simp;omega)))) rfl ?_
  refine ad aa 1 rfl ?_
  refine af ?_
  refine ⟨q+1,⟨by omega,by rw [hi0_1];exact mE (by omega) (by unfold kL;simp only [hx1];rw [if_neg (by omega),if_neg (by first|omega|(rw [List.getD_eq_getElem?_getD,hx2];simp only [Option.getD_some];omega))])⟩,by first|omega|(simp;done)|(simp;omega),aE.bR id (by refine ⟨?_,?_,?_,?_,?_,trivial⟩<;>first|rfl|(simp only [bc];done)|(congr 3;omega)|(congr 4;omega)|(simp only [bd];rfl)) (⟨by first|rfl|(simp only [bc];done)|(congr 3;omega)|(congr 4;omega)|(simp only [bd];rfl),trivial⟩) rfl⟩
 have hc2':=of_decide_eq_false hc2
 refine bZ ?_
 refine aN ?_
 refine aN ?_
 refine bC ?_
 refine then_ok ?_
 refine ae aa 2 rfl ?_
 refine az ?_
 refine an aa [0] 0 rfl rfl rfl rfl rfl rfl ?_ ?_
 ·(have h:cW l=(0,0):=by (unfold cW;rw [if_neg (by omega),hi0_1,mY (by omega)]));rw [h];rfl
 ·rfl

theorem wy (l:List de) (fn:FuncId) (bj:List (List D)) (pr:de->Bool) (hp:∀ x:de,Fn Try.prog fn ([.g [cI x.time,cI x.sum]]++bj.map fun r=>GV.c (.q r 0)) (aB (pr x)) []) (hen:bm Try.prog fn) (r:Int) (hr:gO pr l=r):Fn Try.prog 123 [(.c (eD l)),(.c (.d (.f fn bj)))] (.v (.c (cI r))) []:=by
 refine Fn.mk' 19 [(0,(aC (eD l))),(1,(aC (.d (.f fn bj))))] Try.func123 rfl rfl rfl rfl ?_
 intro W0 T0
 refine dk 0 rfl (fun hlen0=>?_)
 refine ae aa 1 rfl ?_
 refine ag ?_
 refine aH aa 1 rfl ?_
 refine ay (bN rfl rfl rfl rfl rfl Try.underlying59) rfl ?_
 refine ad aa 1 rfl ?_
 refine af ?_
 refine aU ?_
 refine cg (β:=Nat) (fun (q:Nat)=>⟨[(0,(aC (eD l))),(1,(aC (.d (.f fn bj)))),(7,(aI (↑l.length:Int))),(8,(aI (↑q:Int)))],[],0⟩) (fun (q:Nat)=>q<=l.length/\(l.take q).all (fun y=>!pr y)=true) (fun (q:Nat)=>l.length - q) 0 ?_ ?_ ?_
 ·exact ⟨by omega,by simp⟩
 ·exact aE.bR id (by refine ⟨?_,?_,?_,?_,trivial⟩<;>first|rfl|(simp only [bc];done)|(congr 3;omega)|(congr 4;omega)|(simp only [bd];rfl)) (trivial) rfl
 rintro q ⟨hi0_0,hi0_1⟩
 refine ae aa 1 rfl ?_
 refine ag ?_
 refine aj rfl (fun hc1=>?_) (fun hc1=>?_)
 ·
  have hc1':=of_decide_eq_true hc1
  refine aP ?_
  refine ag ?_
  refine aU ?_
  refine ae aa 2 rfl ?_
  refine aH aa 3 rfl ?_
  obtain ⟨x1,hx1⟩:=cb (xs:=l) (i:=q) (by first|omega|(simp;done)|(simp;omega))
  refine ay (bV (i:=q) rfl rfl rfl Try.underlying59 gT (by first|omega|(simp;done)|(simp;omega)) (bf hx1)) rfl ?_
  refine ad aa 1 rfl ?_
  refine ay (hM 0 (hp x1) hen rfl rfl rfl ⟨⟨_,rfl,.g ⟨.d _,.d _,trivial⟩⟩,trivial⟩ trivial trivial rfl rfl rfl rfl) rfl ?_
  refine af ?_
  refine aj rfl (fun hc2=>?_) (fun hc2=>?_)
  ·
   have hc2':=hc2;try simp only [bq,bM] at hc2'
   refine ae aa 2 rfl ?_
   refine az ?_
   refine bo ?_
   refine ar ?_
   refine ar ?_
   refine bo ?_
   refine ar ?_
   have hX:gO pr l=(↑q:Int):=by
     exact td hi0_1 hx1 hc2
   rw [hX] at hr;clear hX
   subst hr
   refine an aa [] 0 rfl rfl rfl rfl rfl rfl ?_ ?_
   all_goals first|rfl|(simp [aA];done)|(simp [aA];omega)
  have hc2':=hc2;try simp only [bq,bM] at hc2'
  refine cD ?_
  refine bl ?_
  refine then_ok ?_
  refine au ?_
  refine ay (aJ rfl rfl rfl (aL (by first|omega|(simp;done)|(simp;omega)))) rfl ?_
  refine ad aa 1 rfl ?_
  refine af ?_
  refine ⟨q+1,⟨by omega,vM hi0_1 hx1 hc2⟩,by first|omega|(simp;done)|(simp;omega),aE.bR id (by refine ⟨?_,?_,?_,?_,trivial⟩<;>first|rfl|(simp only [bc];done)|(congr 3;omega)|(congr 4;omega)|(simp only [bd];rfl)) (trivial) rfl⟩
 have hc1':=of_decide_eq_false hc1
 refine bZ ?_
 refine aN ?_
 refine aN ?_
 refine bC ?_
 refine then_ok ?_
 refine ae aa 1 rfl ?_
 refine az ?_
 have hX:gO pr l=(-1):=by
   exact uZ (by rw [<-List.take_of_length_le (l:=l) (i:=q) (by omega)];exact hi0_1)
 rw [hX] at hr;clear hX
 subst hr
 refine an aa [] 0 rfl rfl rfl rfl rfl rfl ?_ ?_
 all_goals first|rfl|(simp [aA];done)|(simp [aA];omega)
theorem vH (l:List de) (fn:FuncId) (bj:List (List D)) (pr:de->Bool) (hp:∀ x:de,Fn Try.prog fn ([.g [cI x.time,cI x.sum]]++bj.map fun r=>GV.c (.q r 0)) (aB (pr x)) []) (hen:bm Try.prog fn) (r:List de) (hr:dH pr l=r):cJ Try.prog 117 [(.c (.s 0 0 2 l.length)),(.c (.d (.f fn bj)))] [(0,(oN l))] [] (.v (.c (.s 0 0 2 r.length))) [(0,(oN r))]:=by
 refine cJ.mk 42 [(0,(aC (.s 0 0 2 l.length))),(1,(aC (.d (.f fn bj))))] 1 Try.func117 rfl rfl rfl rfl rfl rfl rfl rfl rfl ?_
 intro W0 F0 T0 pg
 refine gm 0 rfl (fun hlen0=>?_)
 have hic:=te pr l
 have hib:gO pr l<=l.length/\-1<=gO pr l:=by rcases hic with ⟨h,_⟩|⟨i,h,h1,_⟩<;>omega
 refine ae aa 1 rfl ?_
 refine aH aa 2 rfl ?_
 obtain ⟨r0,hr0⟩:∃ (r0:Int),gO pr l=r0:=⟨_,rfl⟩
 refine aR 1 [0] (fR 1 [0] (wy l fn bj pr hp hen r0 hr0) Fs rfl rfl ⟨⟨_,rfl,.c (.s rfl (by decide) (by first|omega|(simp;done)|(simp;omega)))⟩,⟨_,rfl,.c (.d _)⟩,trivial⟩ rfl trivial rfl rfl rfl rfl) rfl ?_
 refine ad aa 1 rfl ?_
 refine af ?_
 refine ag ?_
 refine ae aa 2 rfl ?_
 refine aj rfl (fun hc1=>?_) (fun hc1=>?_)
 ·
  have hc1':=of_decide_eq_true hc1
  refine ae aa 2 rfl ?_
  refine az ?_
  refine ar ?_
  have hX:dH pr l=l:=by
    rcases hic with ⟨_,h⟩|⟨i0,h,_⟩
    ·exact h
    ·exfalso;omega
  rw [hX] at hr;clear hX
  subst hr
  refine an aa [0] 1 rfl rfl rfl rfl rfl rfl ?_ ?_
  all_goals first|rfl|(simp [aA];done)|(simp [aA];omega)
 have hc1':=of_decide_eq_false hc1
 refine aP ?_
 refine ag ?_
 refine aH aa 1 rfl ?_
 refine ay (aJ rfl rfl rfl (aL (by first|omega|(simp;done)|(simp;omega)))) rfl ?_
 refine ad aa 1 rfl ?_
 refine af ?_
 refine aU ?_
 obtain ⟨i0,hi0,hil,x0,hx0,hp0,hk0⟩:∃ i:Nat,gO pr l=i/\i < l.length/\∃ x,l[i]?=some x/\pr x=true/\dH pr (l.take i)=l.take i:=by
     rcases hic with ⟨h,_⟩|h
     ·exfalso;omega
     ·exact h
 obtain rfl:r0=(i0:Int):=by omega
 refine cg (β:=Nat×Nat×List de) (fun (p:Nat×Nat×List de)=>match p with|(j,i,c)=>⟨[(0,(aC (.s 0 0 2 l.length))),(1,(aC (.d (.f fn bj)))),(4,(aC cN)),(5,(aI (↑i:Int))),(6,(aI (↑j:Int)))],[(0,(oN c))],1⟩) (fun (p:Nat×Nat×List de)=>match p with|(j,i,c)=>kX pr l c i j) (fun (p:Nat×Nat×List de)=>match p with|(j,i,c)=>l.length - j) (i0+1,i0,l) ?_ ?_ ?_
 ·exact kX.start hx0 hp0 hk0
 ·exact aE.bR id (by refine ⟨?_,?_,?_,?_,?_,trivial⟩<;>first|rfl|(simp only [bc];done)|(congr 3;omega)|(congr 4;omega)|(simp only [bd];rfl)) (⟨by first|rfl|(simp only [bc];done)|(congr 3;omega)|(congr 4;omega)|(simp only [bd];rfl),trivial⟩) rfl
 rintro ⟨j,i,c⟩ hd
 have hdl:=hd.len;have hdi:=hd.ij;have hdj:=hd.jl
 refine ag ?_
 refine aH aa 2 rfl ?_
 refine ay (du rfl rfl rfl rfl rfl Try.underlying59) rfl ?_
 refine ad aa 1 rfl ?_
 refine af ?_
 refine aj rfl (fun hc2=>?_) (fun hc2=>?_)
 ·
  have hc2':=of_decide_eq_true hc2
  refine aP ?_
  refine ag ?_
  refine aU ?_
  refine aH aa 2 rfl ?_
  refine ay (bx (i:=j) rfl rfl rfl Try.underlying59 gT (by first|omega|(simp;done)|(simp;omega)) (by first|omega|(simp;done)|(simp;omega))) rfl ?_
  obtain ⟨x1,hx1⟩:=cb (xs:=c) (i:=j) (by first|omega|(simp;done)|(simp;omega))
  refine ay (dg rfl rfl rfl Try.underlying125 rfl gT (bf hx1) rfl) rfl ?_
  refine ad aa 2 rfl ?_
  refine af ?_
  refine aH aa 2 rfl ?_
  refine ay (hM 2 (hp x1) hen rfl rfl rfl ⟨⟨_,rfl,.g ⟨.d _,.d _,trivial⟩⟩,trivial⟩ trivial trivial rfl rfl rfl rfl) rfl ?_
  refine ad aa 1 rfl ?_
  refine af ?_
  refine aj rfl (fun hc3=>?_) (fun hc3=>?_)
  ·
   have hc3':=hc3;try simp only [bq,bM] at hc3'
   refine aH aa 3 rfl ?_
   refine ay (bx (i:=i) rfl rfl rfl Try.underlying59 gT (by first|omega|(simp;done)|(simp;omega)) (by first|omega|(simp;done)|(simp;omega))) rfl ?_
   obtain ⟨x2,hx2⟩:=cb (xs:=c) (i:=i) (by first|omega|(simp;done)|(simp;omega))
   refine gh [1,0] (dL (ds:=[(dI x1.time),(dI x1.sum)]) rfl rfl rfl rfl rfl gT rfl (Nat.le_of_ble_eq_true rfl) (bf hx2) rfl (eL (x':=x1) rfl)) rfl ?_
   refine af ?_
   refine au ?_
   refine ad aa 1 rfl ?_
   refine ay (aJ rfl rfl rfl (aL (by first|omega|(simp;done)|(simp;omega)))) rfl ?_
   refine ad aa 1 rfl ?_
   refine cc ?_
   refine bl ?_
   refine then_ok ?_
   refine au ?_
   refine ad aa 1 rfl ?_
   refine ay (aJ rfl rfl rfl (aL (by first|omega|(simp;done)|(simp;omega)))) rfl ?_
   refine ad aa 1 rfl ?_
   refine af ?_
   refine ⟨(j+1,(i)+1,(c).set i x1),hd.cO hx1 (by simpa using hc3),by first|omega|(simp;done)|(simp;omega),aE.bR id (by refine ⟨?_,?_,?_,?_,?_,trivial⟩<;>first|rfl|(simp only [bc];done)|(congr 3;omega)|(congr 4;omega)|(simp only [bd];rfl)) (⟨by first|rfl|(simp only [bc];done)|(congr 3;omega)|(congr 4;omega)|(simp only [bd];rfl),trivial⟩) rfl⟩
  have hc3':=hc3;try simp only [bq,bM] at hc3'
  refine cD ?_
  refine bl ?_
  refine then_ok ?_
  refine au ?_
  refine ad aa 1 rfl ?_
  refine ay (aJ rfl rfl rfl (aL (by first|omega|(simp;done)|(simp;omega)))) rfl ?_
  refine ad aa 1 rfl ?_
  refine af ?_
  refine ⟨(j+1,i,c),hd.skip hx1 (by simpa using hc3),by first|omega|(simp;done)|(simp;omega),aE.bR id (by refine ⟨?_,?_,?_,?_,?_,trivial⟩<;>first|rfl|(simp only [bc];done)|(congr 3;omega)|(congr 4;omega)|(simp only [bd];rfl)) (⟨by first|rfl|(simp only [bc];done)|(congr 3;omega)|(congr 4;omega)|(simp only [bd];rfl),trivial⟩) rfl⟩
 have hc2':=of_decide_eq_false hc2
 refine bZ ?_
 refine aN ?_
 refine aN ?_
 refine bC ?_
 refine then_ok ?_
 refine aH aa 2 rfl ?_
 refine ay (nv (l:=i) (h:=l.length) rfl Try.underlying59 gT rfl (.inr ⟨_,rfl,rfl⟩) (.inl ⟨rfl,rfl⟩) (by first|omega|(simp;done)|(simp;omega)) (by first|omega|(simp;done)|(simp;omega)) (by first|omega|(simp;done)|(simp;omega)) rfl) rfl ?_
 refine gh [0] (rV (rows':=(c.take i).map gX) nX EY rfl rfl rfl rfl rfl rfl rfl rfl rfl (by simp [List.map_take])) rfl ?_
 refine af ?_
 refine aH aa 2 rfl ?_
 refine ay (nv (l:=0) (h:=i) rfl Try.underlying59 gT rfl (.inl ⟨rfl,rfl⟩) (.inr ⟨_,rfl,rfl⟩) (by first|omega|(simp;done)|(simp;omega)) (by first|omega|(simp;done)|(simp;omega)) (by first|omega|(simp;done)|(simp;omega)) rfl) rfl ?_
 refine ad aa 1 rfl ?_
 refine af ?_
 refine az ?_
 have hX:dH pr l=(c.take i):=by
   have hdone:=hd.done (by omega)
   rw [<-hdone]
 rw [hX] at hr;clear hX
 subst hr
 refine an aa [0] 1 rfl rfl rfl rfl rfl rfl ?_ ?_
 all_goals first|rfl|(simp [aA];done)|(simp [aA];omega)

theorem kR (p:eu) (e:Int) (hr:fu p=e):Fn Try.prog 44 [(.g [cI p.cE,cI p.count,cI p.sum])] (.v (.c (cI e))) []:=hr▸vx p.cE p.count p.sum
theorem oH (l:List de) (f:df) (hr:fC l=f):Fn Try.prog 45 [.c (cR 2 (l.map gX))] (.v (.g [cI f.err,cI f.at_])) []:=hr▸wh l

theorem Ai (x:de) (t:Int) (p:eu) (hb:-9223372036854775808<=t - p.cE/\t - p.cE<=9223372036854775807):Fn Try.prog 118 [(.g [(cI x.time),(cI x.sum)]),(.c (.q ([dI t]) 0)),(.c (.q ([dI p.cE,dI p.count,dI p.sum]) 0))] (aB (cG p t x)) []:=by
 refine Fn.mk' 12 [(0,(aG [(cI x.time),(cI x.sum)])),(1,(aC (.q ([dI t]) 0))),(2,(aC (.q ([dI p.cE,dI p.count,dI p.sum]) 0)))] Try.func118 rfl rfl rfl rfl ?_
 intro W0 T0
 refine ae aa 2 rfl ?_
 refine aH aa 5 rfl ?_
 refine ay (aJ rfl rfl rfl (aL (by first|omega|(simp;done)|(simp;omega)))) rfl ?_
 refine ad aa 2 rfl ?_
 refine af ?_
 refine az ?_
 refine an aa [] 0 rfl rfl rfl rfl rfl rfl ?_ ?_
 all_goals first|rfl|(simp [aA];done)|(simp [aA];omega)
theorem nO (p:eu) (l:List de) (t:Int) (hb:-9223372036854775808<=t - p.cE/\t - p.cE<=9223372036854775807) (hl:l.length * 16<=140737488355328) (r:List de) (hr:dE p l t=r):Fn Try.prog 112 [(.g [(cI p.cE),(cI p.count),(cI p.sum)]),(.c (eD l)),(.c (cI t))] (.v (.c (.s 0 0 2 r.length))) [(0,(oN r))]:=by
 refine Fn.mk' 11 [(0,(aG [(cI p.cE),(cI p.count),(cI p.sum)])),(1,(aC (eD l))),(2,(aI t))] Try.func112 rfl rfl rfl rfl ?_
 intro W0 T0
 refine dk 1 rfl (fun hlen1=>?_)
 refine ae aa 3 rfl ?_
 refine aH aa 1 rfl ?_
 refine aR 3 [2,1,0] (bX 2 (pN l (by first|omega|(simp;done)|(simp;omega))) Cn rfl rfl ⟨⟨_,rfl,.c (.d _)⟩,trivial⟩ trivial ⟨(fun _ _ _ _=>trivial),trivial⟩ rfl rfl rfl rfl) rfl ?_
 refine ay (zR (ks:=[1,0]) rfl ⟨rfl,rfl,trivial⟩) rfl ?_
 obtain ⟨r0,hr0⟩:∃ (r0:List de),dH (cG p t) l=r0:=⟨_,rfl⟩
 refine aR 4 [3,1,0] (vi (bb [2]) (bb [3]) [0,1] (vH l 118 ([[(dI t)],[(dI p.cE),(dI p.count),(dI p.sum)]]) (cG p t) (fun x=>Ai x t p hb) Fw r0 hr0) Fx rfl rfl ⟨⟨_,rfl,.inl ⟨rfl,rfl⟩⟩,⟨_,rfl,.inr (.c (.fn ⟨⟨by decide,_,rfl⟩,⟨by decide,_,rfl⟩,trivial⟩))⟩,trivial⟩ ⟨rfl,trivial⟩ rfl rfl rfl rfl rfl rfl rfl rfl trivial ⟨(Bc _),trivial⟩ rfl rfl rfl rfl) rfl ?_
 refine ad aa 1 rfl ?_
 refine af ?_
 refine az ?_
 have hX:dE p l t=r0:=by
   assumption
 rw [hX] at hr;clear hX
 subst hr
 refine an aa [3] 1 rfl rfl rfl rfl rfl rfl ?_ ?_
 all_goals first|rfl|(simp [aA];done)|(simp [aA];omega)

theorem yw (p:eu) (l:List de) (x:de) (r:List de) (e:Int) (hr:ez p l x=(r,e)):Fn Try.prog 100 [(.g [(cI p.cE),(cI p.count),(cI p.sum)]),(.c (eD l)),(.g [(cI x.time),(cI x.sum)])] (.t [(.c (.s 0 0 2 r.length)),(.c (cI e))]) [(0,(oN r))]:=by
 refine Fn.mk' 87 [(0,(aG [(cI p.cE),(cI p.count),(cI p.sum)])),(1,(aC (eD l))),(2,(aG [(cI x.time),(cI x.sum)]))] Try.func100 rfl rfl rfl rfl ?_
 intro W0 T0
 refine dk 1 rfl (fun hlen1=>?_)
 have hrp:=@oc p
 have hru:(fC l).err=0->l.length<=30:=fun h=>(jA h).1
 have hrx:(fC [x]).err=0->0<=x.time/\x.time<=1000000/\0<=x.sum/\x.sum<=1000000:=fun h=>(@jA [x] h).2 x (by simp)
 refine ae aa 4 rfl ?_
 refine ag ?_
 refine aH aa 1 rfl ?_
 obtain ⟨e0,hr0⟩:∃ (e0:Int),fu p=e0:=⟨_,rfl⟩
 refine aR 2 [1,0] (bX 2 (kR p e0 hr0) Bz rfl rfl ⟨⟨_,rfl,.g ⟨.d _,.d _,.d _,trivial⟩⟩,trivial⟩ trivial trivial rfl rfl rfl rfl) rfl ?_
 refine ad aa 1 rfl ?_
 refine af ?_
 refine ae aa 2 rfl ?_
 refine aj rfl (fun hc1=>?_) (fun hc1=>?_)
 ·
  have hc1':=of_decide_eq_true hc1
  refine ae aa 3 rfl ?_
  refine az ?_
  refine ar ?_
  refine dc (aE.nil 6 125 2 (by decide) rfl) ?_
  have hX:ez p l x=(([]:List de),e0):=by
    unfold ez;rw [if_pos (by omega),hr0]
  rw [hX] at hr;clear hX
  simp only [Prod.mk.injEq] at hr;obtain ⟨rfl,rfl⟩:=hr
  refine an aa [2] 1 rfl rfl rfl rfl rfl rfl ?_ ?_
  all_goals first|rfl|(simp [aA];done)|(simp [aA];omega)
 have hc1':=of_decide_eq_false hc1
 refine aP ?_
 refine ag ?_
 refine aH aa 2 rfl ?_
 refine aR 3 [2,1,0] (dJ (ys:=[(0,(.g [(cI x.time),(cI x.sum)]))]) (rows:=([x]).map gX) 2 nX rfl (by decide) ⟨⟨rfl,rfl⟩,trivial⟩ rfl rfl rfl rfl) rfl ?_
 refine mg (s':=[(0,(aG [(cI p.cE),(cI p.count),(cI p.sum)])),(1,(aC (eD l))),(2,(aG [(cI x.time),(cI x.sum)])),(3,(aC (.p 0 0 0 0))),(5,(aC (.p 1 0 0 0))),(6,(aC cN)),(7,(aI 0)),(17,(aG [(cI p.cE),(cI p.count),(cI p.sum)])),(18,(aI e0)),(8,(aI e0)),(19,(aI e0)),(20,(aB (decide (¬e0=0)))),(22,(aC (eD l))),(23,(aG [(cI x.time),(cI x.sum)])),(24,(aC (eD ([x]))))]) (h':=[(1,(.box 125 [(cI x.time),(cI x.sum)])),(0,(.box 58 [(cI p.cE),(cI p.count),(cI p.sum)]))]) 2 rfl ⟨⟨_,rfl,.inl ⟨rfl,rfl⟩⟩,⟨_,rfl,.inl ⟨rfl,rfl⟩⟩,⟨_,rfl,.inl ⟨rfl,rfl⟩⟩,⟨_,rfl,.inl ⟨rfl,rfl⟩⟩,⟨_,rfl,.inl ⟨rfl,rfl⟩⟩,⟨_,rfl,.inl ⟨rfl,rfl⟩⟩,⟨_,rfl,.inl ⟨rfl,rfl⟩⟩,⟨_,rfl,.inl ⟨rfl,rfl⟩⟩,⟨_,rfl,.inl ⟨rfl,rfl⟩⟩,⟨_,rfl,.inl ⟨rfl,rfl⟩⟩,⟨_,rfl,.inl ⟨rfl,rfl⟩⟩,⟨_,rfl,.inl ⟨rfl,rfl⟩⟩,⟨_,rfl,.inl ⟨rfl,rfl⟩⟩,⟨_,rfl,.inl ⟨rfl,rfl⟩⟩,⟨_,rfl,.inr ⟨_,_,rfl,rfl,.s rfl (by decide) (by first|omega|(simp;done)|(simp;omega))⟩⟩,trivial⟩ ⟨rfl,rfl,trivial⟩ rfl ?_
 refine aR 4 [3,1,0] (dJ (ys:=[(0,(.c (eD l))),(1,(.c (eD ([x]))))]) (rows:=([l,[x]]).map tR) 3 Fb rfl (by decide) ⟨⟨rfl,rfl⟩,⟨rfl,rfl⟩,trivial⟩ rfl rfl rfl rfl) rfl ?_
 refine ay (du rfl rfl rfl rfl rfl Try.underlying181) rfl ?_
 refine ad aa 1 rfl ?_
 refine af ?_
 refine aU ?_
 refine cg (β:=Nat) (fun (q:Nat)=>⟨[(1,(aC (eD l))),(3,(aC (.p 0 0 0 0))),(5,(aC (.p 1 0 0 0))),(25,(aC (.s 3 0 1 2))),(26,(aI 2)),(27,(aI (↑q:Int)))],[(3,(.arr 59 1 (([l,[x]]).map tR))),(1,(.box 125 [(cI x.time),(cI x.sum)])),(0,(.box 58 [(cI p.cE),(cI p.count),(cI p.sum)]))],4⟩) (fun (q:Nat)=>q<=2/\(0 < q->(fC l).err=0)/\(1 < q->(fC [x]).err=0)) (fun (q:Nat)=>2 - q) 0 ?_ ?_ ?_
 ·exact ⟨by omega,by omega,by omega⟩
 ·exact aE.bR id (by refine ⟨?_,?_,?_,?_,?_,?_,trivial⟩<;>first|rfl|(simp only [bc];done)|(congr 3;omega)|(congr 4;omega)|(simp only [bd];rfl)) (by refine ⟨?_,?_,?_,trivial⟩<;>first|rfl|(simp only [bc];done)|(congr 3;omega)|(congr 4;omega)|(simp only [bd];rfl)) rfl
 rintro q ⟨hi0_0,hi0_1,hi0_2⟩
 refine ae aa 1 rfl ?_
 refine ag ?_
 refine aj rfl (fun hc2=>?_) (fun hc2=>?_)
 ·
  have hc2':=of_decide_eq_true hc2
  refine aP ?_
  refine ag ?_
  refine aU ?_
  refine eV ?_
  refine ay (bx (i:=q) rfl rfl rfl Try.underlying181 Gf (by first|omega|(simp;done)|(simp;omega)) (by first|omega|(simp;done)|(simp;omega))) rfl ?_
  obtain ⟨x1,hx1⟩:=cb (xs:=([l,[x]]:List (List de))) (i:=q) (by first|omega|(simp;done)|(simp;omega))
  have hx1v:=DM hx1
  refine ay (eI rfl rfl rfl Try.underlying59 rfl (bf hx1) rfl) rfl ?_
  refine ad aa 1 rfl ?_
  refine af ?_
  refine aH aa 1 rfl ?_
  obtain ⟨f1,hr1⟩:∃ (f1:df),fC x1=f1:=⟨_,rfl⟩
  refine aR 4 [3,1,0] (bX 4 (oH x1 f1 hr1) Et rfl rfl ⟨⟨_,rfl,.c (.d _)⟩,trivial⟩ ⟨trivial,trivial,trivial⟩ trivial rfl rfl rfl rfl) rfl ?_
  refine ad aa 2 rfl ?_
  refine af ?_
  refine ae aa 3 rfl ?_
  refine aj rfl (fun hc3=>?_) (fun hc3=>?_)
  ·
   have hc3':=of_decide_eq_true hc3
   refine ag ?_
   refine aW [1,3,5,25,26,27,11] [4,3,1,0] mixed rfl rfl ?_
   refine aw (kn:=[]) aa 4 rfl trivial ?_
   refine bw [4,3,1,0] rfl rfl rfl rfl (by kernel_rfl) ?_
   refine af ?_
   refine az ?_
   refine bo ?_
   refine ar ?_
   refine ar ?_
   refine bo ?_
   refine ar ?_
   refine dc (aE.nil 6 125 2 (by decide) rfl) ?_
   have hX:ez p l x=(([]:List de),f1.err):=by
     unfold ez;rcases hx1v with ⟨hq,hx⟩|⟨hq,hx⟩<;>subst hx
     ·rw [if_neg (by omega),if_pos (by rw [hr1];omega),hr1]
     ·rw [if_neg (by omega),if_neg (by have:=hi0_1 (by omega);omega),if_pos (by rw [hr1];omega),hr1]
   rw [hX] at hr;clear hX
   simp only [Prod.mk.injEq] at hr;obtain ⟨rfl,rfl⟩:=hr
   refine an aa [5] 1 rfl rfl rfl rfl rfl rfl ?_ ?_
   all_goals first|rfl|(simp [aA];done)|(simp [aA];omega)
  have hc3':=of_decide_eq_false hc3
  refine cD ?_
  refine bl ?_
  refine then_ok ?_
  refine au ?_
  refine ay (aJ rfl rfl rfl (aL (by first|omega|(simp;done)|(simp;omega)))) rfl ?_
  refine ad aa 1 rfl ?_
  refine af ?_
  refine ⟨q+1,⟨by omega,(fun h=>by rcases hx1v with ⟨hq,hx⟩|⟨hq,hx⟩<;>first|(exact hi0_1 (by omega))|(subst hx;rw [hr1];omega)),(fun h=>by rcases hx1v with ⟨hq,hx⟩|⟨hq,hx⟩<;>first|(exfalso;omega)|(subst hx;rw [hr1];omega))⟩,by first|omega|(simp;done)|(simp;omega),aE.bR id (by refine ⟨?_,?_,?_,?_,?_,?_,trivial⟩<;>first|rfl|(simp only [bc];done)|(congr 3;omega)|(congr 4;omega)|(simp only [bd];rfl)) (by refine ⟨?_,?_,?_,trivial⟩<;>first|rfl|(simp only [bc];done)|(congr 3;omega)|(congr 4;omega)|(simp only [bd];rfl)) rfl⟩
 have hc2':=of_decide_eq_false hc2
 refine bZ ?_
 refine aN ?_
 refine aN ?_
 refine bC ?_
 refine then_ok ?_
 refine ag ?_
 refine aH aa 1 rfl ?_
 refine ay (bN rfl rfl rfl rfl rfl Try.underlying59) rfl ?_
 refine ay (aJ rfl rfl rfl (aL (by first|omega|(simp;done)|(simp;omega)))) rfl ?_
 refine ad aa 1 rfl ?_
 refine af ?_
 refine ag ?_
 rcases Bool.eq_false_or_eq_true (decide (((↑l.length:Int) - 1)>=0)) with hb4|hb4
 ·
  have hb4':=of_decide_eq_true hb4
  obtain ⟨x1,hx1⟩:=cb (xs:=l) (i:=(l.length) - 1) (by first|omega|(simp;done)|(simp;omega))
  refine aW [1,3,5,25,26,27,12] [3,1,0] mixed rfl rfl ?_
  refine aw (kn:=[(43,true)]) aa 5 rfl ⟨hb4,trivial⟩ ?_
  refine aM (n':=4) [45,46,44] [] rfl rfl (.inl ⟨(ah.yes rfl rfl rfl),aF.cast (bV (i:=(l.length) - 1) rfl rfl rfl Try.underlying59 gT (by first|omega|(simp;done)|(simp;omega)) (bf hx1)) rfl⟩) rfl ?_
  refine aw (kn:=[]) aa 6 rfl trivial ?_
  refine bw [3,1,0] rfl rfl rfl rfl (by kernel_rfl) ?_
  refine af ?_
  refine aj rfl (fun hc5=>?_) (fun hc5=>?_)
  ·
   have hc5':=of_decide_eq_true hc5
   refine ae aa 2 rfl ?_
   refine az ?_
   refine ar ?_
   refine dc (aE.nil 6 125 2 (by decide) rfl) ?_
   have hX:ez p l x=(([]:List de),2):=by
     unfold ez;rw [if_neg (by omega),if_neg (by have:=hi0_1 (by omega);omega),if_neg (by have:=hi0_2 (by omega);omega),if_pos (by rw [mH hx1,decide_eq_true_eq];omega)]
   rw [hX] at hr;clear hX
   simp only [Prod.mk.injEq] at hr;obtain ⟨rfl,rfl⟩:=hr
   refine an aa [4] 1 rfl rfl rfl rfl rfl rfl ?_ ?_
   all_goals first|rfl|(simp [aA];done)|(simp [aA];omega)
  have hc5':=of_decide_eq_false hc5
  refine aP ?_
  refine aH aa 4 rfl ?_
  obtain ⟨r2,hr2⟩:∃ (r2:List de),dE p l x.time=r2:=⟨_,rfl⟩
  refine aR 5 [4,3,1,0] (bX 4 (nO p l x.time (by first|assumption|omega|(have q1:=oc (hr2.trans (by omega));have q2:=uses1 (x:=x) (by simp_all);omega)) (by first|assumption|omega) r2 hr2) Co rfl rfl ⟨⟨_,rfl,.g ⟨.d _,.d _,.d _,trivial⟩⟩,⟨_,rfl,.c (.d _)⟩,⟨_,rfl,.c (.d _)⟩,trivial⟩ trivial ⟨(fun _ _ _ _=>trivial),trivial⟩ rfl rfl rfl rfl) rfl ?_
  refine ad aa 1 rfl ?_
  refine af ?_
  refine ae aa 3 rfl ?_
  refine ag ?_
  refine aH aa 1 rfl ?_
  refine ay (du rfl rfl rfl rfl rfl Try.underlying59) rfl ?_
  refine ad aa 1 rfl ?_
  refine af ?_
  refine aU ?_
  refine cg (β:=Nat) (fun (k:Nat)=>⟨[(1,(aC (eD l))),(3,(aC (.p 0 0 0 0))),(5,(aC (.p 1 0 0 0))),(25,(aC (.s 3 0 1 2))),(26,(aI 2)),(27,(aI (↑q:Int))),(13,(aC (.s 4 0 2 r2.length))),(14,(aI (x.sum+gW ((r2).take k)))),(61,(aC (.s 4 0 2 r2.length))),(62,(aI (↑r2.length:Int))),(63,(aI (↑k:Int)))],[(4,(oN r2)),(3,(.arr 59 1 (([l,[x]]).map tR))),(1,(.box 125 [(cI x.time),(cI x.sum)])),(0,(.box 58 [(cI p.cE),(cI p.count),(cI p.sum)]))],5⟩) (fun (k:Nat)=>k<=(r2).length) (fun (k:Nat)=>(r2).length - k) 0 ?_ ?_ ?_
  ·exact (by omega)
  ·exact aE.bR id (by refine ⟨?_,?_,?_,?_,?_,?_,?_,?_,?_,?_,?_,trivial⟩<;>first|rfl|(simp only [bc];done)|(congr 3;omega)|(congr 4;omega)|(simp only [bd];rfl)|((rw [List.take_zero,gW,Int.add_zero];rfl))) (by refine ⟨?_,?_,?_,?_,trivial⟩<;>first|rfl|(simp only [bc];done)|(congr 3;omega)|(congr 4;omega)|(simp only [bd];rfl)) rfl
  rintro k hi1_0
  have hsb:=pt (p:=p) (l:=l) (t:=x.time) (k:=k) (hi0_1 (by omega))
  rw [hr2] at hsb
  have hrl:(r2).length<=30:=by rw [<-hr2];exact Nat.le_trans (ou _ _) (hru (hi0_1 (by omega)))
  refine ae aa 1 rfl ?_
  refine ag ?_
  refine aj rfl (fun hc6=>?_) (fun hc6=>?_)
  ·
   have hc6':=of_decide_eq_true hc6
   refine aP ?_
   refine ag ?_
   refine aU ?_
   refine eV ?_
   refine ay (bx (i:=k) rfl rfl rfl Try.underlying59 gT (by first|omega|(simp;done)|(simp;omega)) (by first|omega|(simp;done)|(simp;omega))) rfl ?_
   obtain ⟨x2,hx2⟩:=cb (xs:=r2) (i:=k) (by first|omega|(simp;done)|(simp;omega))
   have hx2v:=(jA (hi0_1 (by omega))).2 x2 (ka (hr2.symm▸List.mem_of_getElem? hx2:x2∈dE p l x.time))
   refine ay (dg rfl rfl rfl Try.underlying125 rfl gT (bf hx2) rfl) rfl ?_
   refine ad aa 2 rfl ?_
   refine af ?_
   refine au ?_
   refine ad aa 3 rfl ?_
   refine ay (aJ rfl rfl rfl (aL (by first|omega|(simp;done)|(simp;omega)))) rfl ?_
   refine ad aa 1 rfl ?_
   refine cc ?_
   refine bl ?_
   refine then_ok ?_
   refine au ?_
   refine ay (aJ rfl rfl rfl (aL (by first|omega|(simp;done)|(simp;omega)))) rfl ?_
   refine ad aa 1 rfl ?_
   refine af ?_
   refine ⟨k+1,by first|omega|trivial,by first|omega|(simp;done)|(simp;omega),aE.bR id (by refine ⟨?_,?_,?_,?_,?_,?_,?_,?_,?_,?_,?_,trivial⟩<;>first|rfl|(simp only [bc];done)|(congr 3;omega)|(congr 4;omega)|(simp only [bd];rfl)|(first|(rw [fV hx2,kA,<-Int.add_assoc];rfl)|(rw [fV hx1,kA,<-Int.add_assoc];rfl))) (by refine ⟨?_,?_,?_,?_,trivial⟩<;>first|rfl|(simp only [bc];done)|(congr 3;omega)|(congr 4;omega)|(simp only [bd];rfl)) rfl⟩
  have hc6':=of_decide_eq_false hc6
  refine bZ ?_
  refine aN ?_
  refine aN ?_
  refine bC ?_
  refine then_ok ?_
  refine ag ?_
  refine ch 82 ((decide ((↑r2.length:Int)>=p.count))||(decide ((x.sum+gW ((r2).take k)) > p.sum))) ?_ ?_
  ·
   refine au ?_
   refine ad aa 1 rfl ?_
   refine ay (du rfl rfl rfl rfl rfl Try.underlying59) rfl ?_
   refine ad aa 4 rfl ?_
   refine bE (t:=77) rfl (fun hb7=>?_) (fun hb7=>?_)
   ·
    have hb7':=of_decide_eq_true hb7
    refine ad aa 5 rfl ?_
    refine af ?_
    exact aE.bB 12 rfl rfl (by first|(simp [hb7];done)|(simp_all;done)|(exfalso;simp_all;done)|(simp_all;omega)) rfl
   have hb7':=of_decide_eq_false hb7
   refine ad aa 5 rfl ?_
   refine af ?_
   exact aE.bB 12 rfl rfl (by first|(simp [hb7];done)|(simp_all;done)|(exfalso;simp_all;done)|(simp_all;omega)) rfl
  refine aj rfl (fun hc8=>?_) (fun hc8=>?_)
  ·
   have hc8':=hc8;try simp only [bq,bM] at hc8'
   refine ae aa 2 rfl ?_
   refine az ?_
   refine ar ?_
   refine dc (aE.nil 6 125 2 (by decide) rfl) ?_
   have hX:ez p l x=(([]:List de),11):=by
     have hlate:gN l x.time=false:=by first|(rw [mH hx1];simp;omega)|(have:l=[]:=List.eq_nil_of_length_eq_zero (by omega);subst this;rfl)
     have hk:(r2).take k=r2:=List.take_of_length_le (by omega)
     rw [hk] at hc8'
     unfold ez;rw [if_neg (by omega),if_neg (by have:=hi0_1 (by omega);omega),if_neg (by have:=hi0_2 (by omega);omega),if_neg (by rw [hlate];simp),hr2,if_pos (by omega)]
   rw [hX] at hr;clear hX
   simp only [Prod.mk.injEq] at hr;obtain ⟨rfl,rfl⟩:=hr
   refine an aa [5] 1 rfl rfl rfl rfl rfl rfl ?_ ?_
   all_goals first|rfl|(simp [aA];done)|(simp [aA];omega)
  have hc8':=hc8;try simp only [bq,bM] at hc8'
  refine aP ?_
  refine aH aa 2 rfl ?_
  refine aR 6 [5,4,3,1,0] (dJ (ys:=[(0,(.g [(cI x.time),(cI x.sum)]))]) (rows:=([x]).map gX) 5 nX rfl (by decide) ⟨⟨rfl,rfl⟩,trivial⟩ rfl rfl rfl rfl) rfl ?_
  refine aR 7 [6,5,3,1,0] (dp (m:=1) (N:=r2.length+1) (k2:=6) (ys:=([x]).map gX) nX rfl rfl rfl rfl rfl rfl (by first|omega|(simp;done)|(simp;omega)) rfl (.s rfl (by first|omega|(simp;done)|(simp;omega))) (by first|omega|(simp;done)|(simp;omega)) (by first|omega|(simp;done)|(simp;omega)) ff (by decide) (by first|omega|(simp;done)|(simp;omega)) (by first|omega|(simp;done)|(simp;omega))) rfl ?_
  refine ad aa 2 rfl ?_
  refine af ?_
  refine az ?_
  have hX:ez p l x=(r2++([x]),0):=by
    have hlate:gN l x.time=false:=by first|(rw [mH hx1];simp;omega)|(have:l=[]:=List.eq_nil_of_length_eq_zero (by omega);subst this;rfl)
    have hk:(r2).take k=r2:=List.take_of_length_le (by omega)
    rw [hk] at hc8'
    unfold ez;rw [if_neg (by omega),if_neg (by have:=hi0_1 (by omega);omega),if_neg (by have:=hi0_2 (by omega);omega),if_neg (by rw [hlate];simp),hr2,if_neg (by omega)]
  rw [hX] at hr;clear hX
  simp only [Prod.mk.injEq] at hr;obtain ⟨rfl,rfl⟩:=hr
  refine an aa [6] 1 rfl rfl rfl rfl rfl rfl ?_ ?_
  all_goals first|rfl|(simp [aA];done)|(simp [aA];omega)
 have hb4':=of_decide_eq_false hb4
 refine aW [1,3,5,25,26,27,12] [3,1,0] mixed rfl rfl ?_
 refine aw (kn:=[(43,false)]) aa 12 rfl ⟨hb4,trivial⟩ ?_
 refine bw [3,1,0] rfl rfl rfl rfl (by kernel_rfl) ?_
 refine af ?_
 refine aj rfl (fun hno=>by cases hno) (fun _=>?_)
 refine aP ?_
 refine aH aa 4 rfl ?_
 obtain ⟨r3,hr3⟩:∃ (r3:List de),dE p l x.time=r3:=⟨_,rfl⟩
 refine aR 5 [4,3,1,0] (bX 4 (nO p l x.time (by first|assumption|omega|(have q1:=oc (hr2.trans (by omega));have q2:=uses1 (x:=x) (by simp_all);omega)) (by first|assumption|omega) r3 hr3) Co rfl rfl ⟨⟨_,rfl,.g ⟨.d _,.d _,.d _,trivial⟩⟩,⟨_,rfl,.c (.d _)⟩,⟨_,rfl,.c (.d _)⟩,trivial⟩ trivial ⟨(fun _ _ _ _=>trivial),trivial⟩ rfl rfl rfl rfl) rfl ?_
 refine ad aa 1 rfl ?_
 refine af ?_
 refine ae aa 3 rfl ?_
 refine ag ?_
 refine aH aa 1 rfl ?_
 refine ay (du rfl rfl rfl rfl rfl Try.underlying59) rfl ?_
 refine ad aa 1 rfl ?_
 refine af ?_
 refine aU ?_
 refine cg (β:=Nat) (fun (k:Nat)=>⟨[(1,(aC (eD l))),(3,(aC (.p 0 0 0 0))),(5,(aC (.p 1 0 0 0))),(25,(aC (.s 3 0 1 2))),(26,(aI 2)),(27,(aI (↑q:Int))),(13,(aC (.s 4 0 2 r3.length))),(14,(aI (x.sum+gW ((r3).take k)))),(61,(aC (.s 4 0 2 r3.length))),(62,(aI (↑r3.length:Int))),(63,(aI (↑k:Int)))],[(4,(oN r3)),(3,(.arr 59 1 (([l,[x]]).map tR))),(1,(.box 125 [(cI x.time),(cI x.sum)])),(0,(.box 58 [(cI p.cE),(cI p.count),(cI p.sum)]))],5⟩) (fun (k:Nat)=>k<=(r3).length) (fun (k:Nat)=>(r3).length - k) 0 ?_ ?_ ?_
 ·exact (by omega)
 ·exact aE.bR id (by refine ⟨?_,?_,?_,?_,?_,?_,?_,?_,?_,?_,?_,trivial⟩<;>first|rfl|(simp only [bc];done)|(congr 3;omega)|(congr 4;omega)|(simp only [bd];rfl)|((rw [List.take_zero,gW,Int.add_zero];rfl))) (by refine ⟨?_,?_,?_,?_,trivial⟩<;>first|rfl|(simp only [bc];done)|(congr 3;omega)|(congr 4;omega)|(simp only [bd];rfl)) rfl
 rintro k hi1_0
 have hsb:=pt (p:=p) (l:=l) (t:=x.time) (k:=k) (hi0_1 (by omega))
 rw [hr3] at hsb
 have hrl:(r3).length<=30:=by rw [<-hr3];exact Nat.le_trans (ou _ _) (hru (hi0_1 (by omega)))
 refine ae aa 1 rfl ?_
 refine ag ?_
 refine aj rfl (fun hc10=>?_) (fun hc10=>?_)
 ·
  have hc10':=of_decide_eq_true hc10
  refine aP ?_
  refine ag ?_
  refine aU ?_
  refine eV ?_
  refine ay (bx (i:=k) rfl rfl rfl Try.underlying59 gT (by first|omega|(simp;done)|(simp;omega)) (by first|omega|(simp;done)|(simp;omega))) rfl ?_
  obtain ⟨x1,hx1⟩:=cb (xs:=r3) (i:=k) (by first|omega|(simp;done)|(simp;omega))
  have hx1v:=(jA (hi0_1 (by omega))).2 x1 (ka (hr3.symm▸List.mem_of_getElem? hx1:x1∈dE p l x.time))
  refine ay (dg rfl rfl rfl Try.underlying125 rfl gT (bf hx1) rfl) rfl ?_
  refine ad aa 2 rfl ?_
  refine af ?_
  refine au ?_
  refine ad aa 3 rfl ?_
  refine ay (aJ rfl rfl rfl (aL (by first|omega|(simp;done)|(simp;omega)))) rfl ?_
  refine ad aa 1 rfl ?_
  refine cc ?_
  refine bl ?_
  refine then_ok ?_
  refine au ?_
  refine ay (aJ rfl rfl rfl (aL (by first|omega|(simp;done)|(simp;omega)))) rfl ?_
  refine ad aa 1 rfl ?_
  refine af ?_
  refine ⟨k+1,by first|omega|trivial,by first|omega|(simp;done)|(simp;omega),aE.bR id (by refine ⟨?_,?_,?_,?_,?_,?_,?_,?_,?_,?_,?_,trivial⟩<;>first|rfl|(simp only [bc];done)|(congr 3;omega)|(congr 4;omega)|(simp only [bd];rfl)|(first|(rw [fV hx2,kA,<-Int.add_assoc];rfl)|(rw [fV hx1,kA,<-Int.add_assoc];rfl))) (by refine ⟨?_,?_,?_,?_,trivial⟩<;>first|rfl|(simp only [bc];done)|(congr 3;omega)|(congr 4;omega)|(simp only [bd];rfl)) rfl⟩
 have hc10':=of_decide_eq_false hc10
 refine bZ ?_
 refine aN ?_
 refine aN ?_
 refine bC ?_
 refine then_ok ?_
 refine ag ?_
 refine ch 82 ((decide ((↑r3.length:Int)>=p.count))||(decide ((x.sum+gW ((r3).take k)) > p.sum))) ?_ ?_
 ·
  refine au ?_
  refine ad aa 1 rfl ?_
  refine ay (du rfl rfl rfl rfl rfl Try.underlying59) rfl ?_
  refine ad aa 4 rfl ?_
  refine bE (t:=77) rfl (fun hb11=>?_) (fun hb11=>?_)
  ·
   have hb11':=of_decide_eq_true hb11
   refine ad aa 5 rfl ?_
   refine af ?_
   exact aE.bB 12 rfl rfl (by first|(simp [hb11];done)|(simp_all;done)|(exfalso;simp_all;done)|(simp_all;omega)) rfl
  have hb11':=of_decide_eq_false hb11
  refine ad aa 5 rfl ?_
  refine af ?_
  exact aE.bB 12 rfl rfl (by first|(simp [hb11];done)|(simp_all;done)|(exfalso;simp_all;done)|(simp_all;omega)) rfl
 refine aj rfl (fun hc12=>?_) (fun hc12=>?_)
 ·
  have hc12':=hc12;try simp only [bq,bM] at hc12'
  refine ae aa 2 rfl ?_
  refine az ?_
  refine ar ?_
  refine dc (aE.nil 6 125 2 (by decide) rfl) ?_
  have hX:ez p l x=(([]:List de),11):=by
    have hlate:gN l x.time=false:=by first|(rw [mH hx1];simp;omega)|(have:l=[]:=List.eq_nil_of_length_eq_zero (by omega);subst this;rfl)
    have hk:(r3).take k=r3:=List.take_of_length_le (by omega)
    rw [hk] at hc12'
    unfold ez;rw [if_neg (by omega),if_neg (by have:=hi0_1 (by omega);omega),if_neg (by have:=hi0_2 (by omega);omega),if_neg (by rw [hlate];simp),hr3,if_pos (by omega)]
  rw [hX] at hr;clear hX
  simp only [Prod.mk.injEq] at hr;obtain ⟨rfl,rfl⟩:=hr
  refine an aa [5] 1 rfl rfl rfl rfl rfl rfl ?_ ?_
  all_goals first|rfl|(simp [aA];done)|(simp [aA];omega)
 have hc12':=hc12;try simp only [bq,bM] at hc12'
 refine aP ?_
 refine aH aa 2 rfl ?_
 refine aR 6 [5,4,3,1,0] (dJ (ys:=[(0,(.g [(cI x.time),(cI x.sum)]))]) (rows:=([x]).map gX) 5 nX rfl (by decide) ⟨⟨rfl,rfl⟩,trivial⟩ rfl rfl rfl rfl) rfl ?_
 refine aR 7 [6,5,3,1,0] (dp (m:=1) (N:=r3.length+1) (k2:=6) (ys:=([x]).map gX) nX rfl rfl rfl rfl rfl rfl (by first|omega|(simp;done)|(simp;omega)) rfl (.s rfl (by first|omega|(simp;done)|(simp;omega))) (by first|omega|(simp;done)|(simp;omega)) (by first|omega|(simp;done)|(simp;omega)) ff (by decide) (by first|omega|(simp;done)|(simp;omega)) (by first|omega|(simp;done)|(simp;omega))) rfl ?_
 refine ad aa 2 rfl ?_
 refine af ?_
 refine az ?_
 have hX:ez p l x=(r3++([x]),0):=by
   have hlate:gN l x.time=false:=by first|(rw [mH hx1];simp;omega)|(have:l=[]:=List.eq_nil_of_length_eq_zero (by omega);subst this;rfl)
   have hk:(r3).take k=r3:=List.take_of_length_le (by omega)
   rw [hk] at hc12'
   unfold ez;rw [if_neg (by omega),if_neg (by have:=hi0_1 (by omega);omega),if_neg (by have:=hi0_2 (by omega);omega),if_neg (by rw [hlate];simp),hr3,if_neg (by omega)]
 rw [hX] at hr;clear hX
 simp only [Prod.mk.injEq] at hr;obtain ⟨rfl,rfl⟩:=hr
 refine an aa [6] 1 rfl rfl rfl rfl rfl rfl ?_ ?_
 all_goals first|rfl|(simp [aA];done)|(simp [aA];omega)
end Go.Proofs.Ytegepioggeggaaa.Dev
