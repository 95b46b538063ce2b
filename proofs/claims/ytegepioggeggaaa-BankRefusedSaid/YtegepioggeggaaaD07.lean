/- A part of the proof: PlSort2, PlSort3, PlDay, PlBank, OpsB, Bank0, Pace1, Pace2, Del1, Pace3, Pace5. No condition. -/
import Derived.Test.YtegepioggeggaaaD06
set_option linter.unusedVariables false
set_option linter.unusedSimpArgs false
set_option maxHeartbeats 1000000
set_option maxRecDepth 100000
namespace Go.Proofs.Ytegepioggeggaaa.Dev
open Go.RowKit
open Go.ChangeShapes Go.WideShapes Go.Deep Go.Joins
theorem sP {a i:Nat} {d:List al} (h:a+1<=i):iS a (i+1 - (a+1)) d=jg a i (iS a (i - (a+1)) d):=by
 rw [show i+1 - (a+1)=(i - (a+1))+1 by omega]
 conv=>lhs;unfold iS
 rw [show a+1+(i - (a+1))=i by omega]
theorem AH {a k:Nat} {d:List al} (h:a<=k):nw a (k+1 - a) d=gP (nw a (k - a) d) k (k+1):=by
 rw [show k+1 - a=(k - a)+1 by omega]
 conv=>lhs;unfold nw
 rw [show a+(k - a)=k by omega]
theorem AJ {m k:Nat} {d:List al} (h:k<=m) (h0:0 < k):ny m (m - (k - 1)) d=gP (ny m (m - k) d) k (k - 1):=by
 rw [show m - (k - 1)=(m - k)+1 by omega]
 conv=>lhs;unfold ny
 rw [show m - (m - k)=k by omega]
theorem lP {P X:List al} {k n:Nat} (hn:n=P.length+k):(P++X)[n]?=X[k]?:=by
 subst hn;rw [List.getElem?_append_right (by omega),Nat.add_sub_cancel_left]
theorem le_last {B:List al} {x:al} (h:eW B) (hl:∀ A0 y,B=A0++[y]->gq y x=true):∀ z∈B,gq z x=true:=by
 rcases jm B with rfl|⟨A',y,h'⟩
 ·simp
 ·intro z hz
  have h1:=hl A' y h'
  rw [h'] at h hz
  rcases List.mem_append.1 hz with hz|hz
  ·exact zh ((gu.1 h).2.2 z hz y (List.mem_singleton.2 rfl)) h1
  ·rw [List.mem_singleton.1 hz];exact h1
theorem Bg {B:List al} {x:al} (h:eW B) (hl:∀ y B0,B=y::B0->gq x y=true):∀ z∈B,gq x z=true:=by
 cases B with
 |nil=>simp
 |cons y B0=>
  intro z hz
  have h1:=hl y B0 rfl
  rcases List.mem_cons.1 hz with rfl|hz
  ·exact h1
  ·exact uE h1 ((List.pairwise_cons.1 h).1 z hz)
theorem Bh {B:List al} {x:al} (h:eW B) (hl:∀ y B0,B=y::B0->fO x y):∀ z∈B,fO x z:=by
 cases B with
 |nil=>simp
 |cons y B0=>
  intro z hz
  have h1:=hl y B0 rfl
  rcases List.mem_cons.1 hz with rfl|hz
  ·exact h1
  ·exact ky h1 ((List.pairwise_cons.1 h).1 z hz)
theorem tZ {A:List al} {y:al} {A0:List al} (h:A=A0++[y]):A[A.length - 1]?=some y:=by subst h;simp
theorem mH (l:List al) (k:Nat) (h:k<=l.length):∃ u v,l=u++v/\u.length=k:=⟨l.take k,l.drop k,(List.take_append_drop k l).symm,by rw [List.length_take];omega⟩
theorem sW {U:List al} {u:al} (h:eW U) (hu:U[0]?=some u):∀ x∈U,fO u x:=by
 cases U with
 |nil=>simp
 |cons y U=>
  simp at hu;subst hu
  intro x hx
  rcases List.mem_cons.1 hx with rfl|hx
  ·exact mY _
  ·exact (List.pairwise_cons.1 h).1 x hx
theorem uH {V:List al} {v:al} (h:eW V) (hv:V[V.length - 1]?=some v):∀ y∈V,fO y v:=by
 rcases jm V with rfl|⟨A,z,rfl⟩
 ·simp
 ·simp at hv;subst hv
  exact tY h (mY _)
theorem get_some {V:List al} {k:Nat} (h:k < V.length):∃ v,V[k]?=some v:=⟨V[k],List.getElem?_eq_getElem h⟩
theorem pO:∀ (f:Nat) (P A B R:List al),A.length+B.length<=f->0 < A.length->0 < B.length->eW A->eW B->
  ∃ C,dy f P.length (P.length+A.length) (P.length+A.length+B.length) (P++(A++(B++R)))=P++(C++R)/\eW C/\Same (A++B) C
 |0,P,A,B,R,hf,ha,hb,_,_=>by omega
 |f+1,P,A,B,R,hf,ha,hb,sA,sB=>by
  obtain ⟨a,hea⟩:∃ a,a=P.length:=⟨_,rfl⟩
  obtain ⟨m,hem⟩:∃ m,m=P.length+A.length:=⟨_,rfl⟩
  obtain ⟨b,heb⟩:∃ b,b=P.length+A.length+B.length:=⟨_,rfl⟩
  rw [<-hea,show a+A.length=m by omega,show m+B.length=b by omega]
  unfold dy
  split
  ·
   rename_i h1
   obtain ⟨x,rfl⟩:∃ x,A=[x]:=by
    match A,ha,(by omega:A.length=1) with
    |[x],_,_=>exact ⟨x,rfl⟩
   have hl1:[x].length=1:=rfl
   obtain ⟨q1,q2,q3,q4⟩:=kf (fun h=>dv (P++([x]++(B++R))) h a) (b - m) m b (Nat.le_refl _) (by omega)
   generalize fG (fun h=>dv (P++([x]++(B++R))) h a) m b=i at q1 q2 q3 q4
   obtain ⟨B1,B2,rfl,hB1⟩:=mH B (i - m) (by omega)
   rw [List.length_append] at heb
   have gx:(P++([x]++(B1++B2++R)))[a]?=some x:=by rw [lP (k:=0) (by omega)];rfl
   have gB:∀ k,k < B1.length+B2.length->(P++([x]++(B1++B2++R)))[m+k]?=(B1++B2)[k]?:=fun k hk=>by
    rw [lP (k:=k+1) (by omega),List.cons_append,List.getElem?_cons_succ,List.nil_append,List.getElem?_append_left (by simp;omega)]
   obtain ⟨s1,s2,s3⟩:=gu.1 sB
   have w1:∀ z∈B1,gq z x=true:=le_last s1 fun A0 y hy=>by
    have hpos:0 < B1.length:=by rw [hy];simp
    rcases q3 with q3|q3
    ·omega
    ·have g1:=gB (B1.length - 1) (by omega)
     rw [List.getElem?_append_left (l₁:=B1) (by omega),tZ hy,show m+(B1.length - 1)=i - 1 by omega] at g1
     have q3:dv (P++([x]++(B1++B2++R))) (i - 1) a=true:=q3
     rwa [fN g1 gx] at q3
   have w2:∀ z∈B2,fO x z:=Bh s2 fun y B0 hy=>by
    have hpos:0 < B2.length:=by rw [hy];simp
    rcases q4 with q4|q4
    ·omega
    ·have g1:=gB B1.length (by omega)
     have g2:B2[0]?=some y:=by rw [hy];rfl
     rw [List.getElem?_append_right (l₁:=B1) (Nat.le_refl _),Nat.sub_self,g2,show m+B1.length=i by omega] at g1
     have q4:dv (P++([x]++(B1++B2++R))) i a=false:=q4
     rw [fN g1 gx] at q4
     exact qJ.1 q4
   obtain ⟨t1,t2⟩:=Cx sB w1 w2
   refine ⟨B1++x::B2,?_,t1,t2⟩
   have h2:=wN P x B1.length B1 (B2++R) rfl
   rw [show i - 1 - a=B1.length by omega,hea,show P++([x]++(B1++B2++R))=P++x::(B1++(B2++R)) by simp,h2]
   simp
  ·split
   ·
    rename_i h0 h1
    obtain ⟨x,rfl⟩:∃ x,B=[x]:=by
     match B,hb,(by omega:B.length=1) with
     |[x],_,_=>exact ⟨x,rfl⟩
    have hl1:[x].length=1:=rfl
    obtain ⟨q1,q2,q3,q4⟩:=kf (fun h=>!dv (P++(A++([x]++R))) m h) (m - a) a m (Nat.le_refl _) (by omega)
    generalize fG (fun h=>!dv (P++(A++([x]++R))) m h) a m=i at q1 q2 q3 q4
    obtain ⟨A1,A2,rfl,hA1⟩:=mH A (i - a) (by omega)
    rw [List.length_append] at hem heb
    have gx:(P++(A1++A2++([x]++R)))[m]?=some x:=by rw [lP (k:=A1.length+A2.length) (by omega),lP (k:=0) (by simp)];rfl
    have gA:∀ k,k < A1.length+A2.length->(P++(A1++A2++([x]++R)))[a+k]?=(A1++A2)[k]?:=fun k hk=>by
     rw [lP (k:=k) (by omega),List.getElem?_append_left (by simp;omega)]
    obtain ⟨s1,s2,s3⟩:=gu.1 sA
    have w1:∀ z∈A1,fO z x:=zi s1 fun A0 y hy=>by
     have hpos:0 < A1.length:=by rw [hy];simp
     rcases q3 with q3|q3
     ·omega
     ·have g1:=gA (A1.length - 1) (by omega)
      rw [List.getElem?_append_left (l₁:=A1) (by omega),tZ hy,show a+(A1.length - 1)=i - 1 by omega] at g1
      have q3:(!dv (P++(A1++A2++([x]++R))) m (i - 1))=true:=q3
      rw [fN gx g1,Bool.not_eq_true'] at q3
      exact qJ.1 q3
    have w2:∀ z∈A2,gq x z=true:=Bg s2 fun y B0 hy=>by
     have hpos:0 < A2.length:=by rw [hy];simp
     rcases q4 with q4|q4
     ·omega
     ·have g1:=gA A1.length (by omega)
      have g2:A2[0]?=some y:=by rw [hy];rfl
      rw [List.getElem?_append_right (l₁:=A1) (Nat.le_refl _),Nat.sub_self,g2,show a+A1.length=i by omega] at g1
      have q4:(!dv (P++(A1++A2++([x]++R))) m i)=false:=q4
      rw [fN gx g1,Bool.not_eq_false'] at q4
      exact q4
    obtain ⟨t1,t2⟩:=zd sA w1 w2
    refine ⟨A1++x::A2,?_,t1,t2⟩
    have h2:=wP P x R A2.length A1 A2 rfl
    rw [show (P++A1++A2).length=m by simp;omega] at h2
    rw [show m - i=A2.length by omega,show P++(A1++A2++([x]++R))=P++A1++A2++x::R by simp,h2]
    simp
   ·
    rename_i h0 h1
    obtain ⟨mid,hmid⟩:∃ mid,mid=(a+b) / 2:=⟨_,rfl⟩
    have hs:∃ s,ed (P++(A++(B++R))) a m b=s/\a<=s/\s<=m/\s<=mid/\mid+m - s<=b/\
      (s=m\/s=mid\/dv (P++(A++(B++R))) (mid+m - 1 - s) s=true)/\(s=a\/mid+m - s=b\/dv (P++(A++(B++R))) (mid+m - s) (s - 1)=false):=by
     refine ⟨_,rfl,?_⟩
     unfold ed
     rw [<-hmid]
     split
     ·obtain ⟨q1,q2,q3,q4⟩:=kf (fun c=>!dv (P++(A++(B++R))) (mid+m - 1 - c) c) (mid - (mid+m - b)) (mid+m - b) mid (Nat.le_refl _) (by omega)
      generalize fG (fun c=>!dv (P++(A++(B++R))) (mid+m - 1 - c) c) (mid+m - b) mid=s at q1 q2 q3 q4
      refine ⟨by omega,by omega,by omega,by omega,?_,?_⟩
      ·rcases q4 with q4|q4
       ·exact .inr (.inl q4)
       ·right;right;simpa using q4
      ·rcases q3 with q3|q3
       ·right;left;omega
       ·by_cases hs0:s=a
        ·exact .inl hs0
        ·right;right
         have q3:(!dv (P++(A++(B++R))) (mid+m - 1 - (s - 1)) (s - 1))=true:=q3
         rw [show mid+m - 1 - (s - 1)=mid+m - s by omega] at q3;simpa using q3
     ·obtain ⟨q1,q2,q3,q4⟩:=kf (fun c=>!dv (P++(A++(B++R))) (mid+m - 1 - c) c) (m - a) a m (Nat.le_refl _) (by omega)
      generalize fG (fun c=>!dv (P++(A++(B++R))) (mid+m - 1 - c) c) a m=s at q1 q2 q3 q4
      refine ⟨by omega,by omega,by omega,by omega,?_,?_⟩
      ·rcases q4 with q4|q4
       ·exact .inl q4
       ·right;right;simpa using q4
      ·rcases q3 with q3|q3
       ·exact .inl q3
       ·by_cases hs0:s=a
        ·exact .inl hs0
        ·right;right
         have q3:(!dv (P++(A++(B++R))) (mid+m - 1 - (s - 1)) (s - 1))=true:=q3
         rw [show mid+m - 1 - (s - 1)=mid+m - s by omega] at q3;simpa using q3
    obtain ⟨s,hs0,hs1,hs2,hs3,hs4,hs5,hs6⟩:=hs
    dsimp only
    rw [hs0,<-hmid]
    obtain ⟨A1,U,rfl,hA1⟩:=mH A (s - a) (by omega)
    rw [List.length_append] at hem heb ha hf
    obtain ⟨V,B2,rfl,hV⟩:=mH B (mid+m - s - m) (by omega)
    rw [List.length_append] at heb hb hf
    have gA:∀ k,k < A1.length+U.length->(P++(A1++U++(V++B2++R)))[a+k]?=(A1++U)[k]?:=fun k hk=>by
     rw [lP (k:=k) (by omega),List.getElem?_append_left (by simp;omega)]
    have gB:∀ k,k < V.length+B2.length->(P++(A1++U++(V++B2++R)))[m+k]?=(V++B2)[k]?:=fun k hk=>by
     rw [lP (k:=A1.length+U.length+k) (by omega),lP (k:=k) (by simp),List.getElem?_append_left (by simp;omega)]
    obtain ⟨a1,a2,a3⟩:=gu.1 sA
    obtain ⟨b1,b2,b3⟩:=gu.1 sB
    have w1:∀ x∈U,∀ y∈V,gq y x=true:=by
     intro x hx y hy
     have hU:0 < U.length:=List.length_pos_of_mem hx
     have hVp:0 < V.length:=List.length_pos_of_mem hy
     rcases hs5 with h5|h5|h5
     ·omega
     ·omega
     ·obtain ⟨v,hv⟩:=get_some (V:=V) (k:=V.length - 1) (by omega)
      obtain ⟨u,hu⟩:=get_some (V:=U) (k:=0) hU
      have g1:=gB (V.length - 1) (by omega)
      rw [List.getElem?_append_left (l₁:=V) (by omega),hv,show m+(V.length - 1)=mid+m - 1 - s by omega] at g1
      have g2:=gA A1.length (by omega)
      rw [List.getElem?_append_right (l₁:=A1) (Nat.le_refl _),Nat.sub_self,hu,show a+A1.length=s by omega] at g2
      rw [fN g1 g2] at h5
      exact uE (zh (uH b1 hv y hy) h5) (sW a2 hu x hx)
    have w2:∀ x∈A1,∀ y∈B2,fO x y:=by
     intro x hx y hy
     have hAp:0 < A1.length:=List.length_pos_of_mem hx
     have hBp:0 < B2.length:=List.length_pos_of_mem hy
     rcases hs6 with h6|h6|h6
     ·omega
     ·omega
     ·obtain ⟨v,hv⟩:=get_some (V:=A1) (k:=A1.length - 1) (by omega)
      obtain ⟨u,hu⟩:=get_some (V:=B2) (k:=0) hBp
      have g1:=gB V.length (by omega)
      rw [List.getElem?_append_right (l₁:=V) (Nat.le_refl _),Nat.sub_self,hu,show m+V.length=mid+m - s by omega] at g1
      have g2:=gA (A1.length - 1) (by omega)
      rw [List.getElem?_append_left (l₁:=A1) (by omega),hv,show a+(A1.length - 1)=s - 1 by omega] at g2
      rw [fN g1 g2] at h6
      exact ky (uH a1 hv x hx) (ky (qJ.1 h6) (sW b2 hu y hy))
    have hr:eV s m (mid+m - s) (P++(A1++U++(V++B2++R)))=P++(A1++(V++(U++(B2++R)))):=by
     unfold eV
     have e0:P++(A1++U++(V++B2++R))=P++A1++(U++(V++(B2++R))):=by simp
     split
     ·have:=rz (U.length+V.length) (P++A1) U V (B2++R) m (Nat.le_refl _) (by omega) (by omega) (by simp;omega)
      rw [show m - s=U.length by omega,show mid+m - s - m=V.length by omega,e0,this];simp
     ·rcases (by omega:U.length=0\/V.length=0) with hz|hz
      ·obtain rfl:=List.eq_nil_of_length_eq_zero hz;simp
      ·obtain rfl:=List.eq_nil_of_length_eq_zero hz;simp
    rw [hr]
    have hL:∃ C1,(if a < s/\s < mid then dy f a s mid (P++(A1++(V++(U++(B2++R))))) else P++(A1++(V++(U++(B2++R)))))=P++(C1++(U++(B2++R)))/\eW C1/\Same (A1++V) C1:=by
     split
     ·obtain ⟨C1,c1,c2,c3⟩:=pO f P A1 V (U++(B2++R)) (by omega) (by omega) (by omega) a1 b1
      rw [<-hea,show a+A1.length=s by omega,show s+V.length=mid by omega] at c1
      exact ⟨C1,c1,c2,c3⟩
     ·rcases (by omega:A1.length=0\/V.length=0) with hz|hz
      ·obtain rfl:=List.eq_nil_of_length_eq_zero hz;exact ⟨V,by simp,b1,Same.refl _⟩
      ·obtain rfl:=List.eq_nil_of_length_eq_zero hz;exact ⟨A1,by simp,a1,by rw [List.append_nil];exact Same.refl _⟩
    obtain ⟨C1,c1,c2,c3⟩:=hL
    rw [c1]
    have hc1:C1.length=A1.length+V.length:=by rw [<-c3.len,List.length_append]
    have hR:∃ C2,(if mid < mid+m - s/\mid+m - s < b then dy f mid (mid+m - s) b (P++(C1++(U++(B2++R)))) else P++(C1++(U++(B2++R))))=P++(C1++(C2++R))/\eW C2/\Same (U++B2) C2:=by
     split
     ·obtain ⟨C2,d1,d2,d3⟩:=pO f (P++C1) U B2 R (by omega) (by omega) (by omega) a2 b2
      rw [List.length_append,show P.length+C1.length=mid by omega,show mid+U.length=mid+m - s by omega,show mid+m - s+B2.length=b by omega] at d1
      exact ⟨C2,by simpa using d1,d2,d3⟩
     ·rcases (by omega:U.length=0\/B2.length=0) with hz|hz
      ·obtain rfl:=List.eq_nil_of_length_eq_zero hz;exact ⟨B2,by simp,b2,Same.refl _⟩
      ·obtain rfl:=List.eq_nil_of_length_eq_zero hz;exact ⟨U,by simp,a2,by rw [List.append_nil];exact Same.refl _⟩
    obtain ⟨C2,d1,d2,d3⟩:=hR
    refine ⟨C1++C2,by rw [d1];simp,gu.2 ⟨c2,d2,?_⟩,?_⟩
    ·intro x hx y hy
     rcases List.mem_append.1 (c3.mem.2 hx) with hx|hx
     ·rcases List.mem_append.1 (d3.mem.2 hy) with hy|hy
      ·exact a3 x hx y hy
      ·exact w2 x hx y hy
     ·rcases List.mem_append.1 (d3.mem.2 hy) with hy|hy
      ·exact kz (w1 y hy x hx)
      ·exact b3 x hx y hy
    ·have e1:Same (A1++U++(V++B2)) (A1++(V++(U++B2))):=by
      have:=(Same.refl A1).app ((Same.comm w1).app (Same.refl B2))
      simpa using this
     have e2:=c3.app d3
     rw [List.append_assoc] at e2
     exact e1.trans e2
theorem yD {f:Nat} {d:List al} {a m b:Nat} (h1:a < m) (h2:m < b) (h3:b<=d.length) (hf:b - a<=f) (sA:eW ((d.drop a).take (m - a))) (sB:eW ((d.drop m).take (b - m))):Part d (dy f a m b d) a b:=by
 have e1:=parts (d:=d) (a:=a) (b:=b) (by omega) h3
 have e2:(d.drop a).take (b - a)=(d.drop a).take (m - a)++(d.drop m).take (b - m):=by
  rw [show b - a=(m - a)+(b - m) by omega,List.take_add,List.drop_drop,show a+(m - a)=m by omega]
 have l1:(d.take a).length=a:=by rw [List.length_take];omega
 have l2:((d.drop a).take (m - a)).length=m - a:=by rw [List.length_take,List.length_drop];omega
 have l3:((d.drop m).take (b - m)).length=b - m:=by rw [List.length_take,List.length_drop];omega
 obtain ⟨C,c1,c2,c3⟩:=pO f (d.take a) ((d.drop a).take (m - a)) ((d.drop m).take (b - m)) (d.drop b) (by omega) (by omega) (by omega) sA sB
 rw [l1,l2,l3,show a+(m - a)=m by omega,show m+(b - m)=b by omega] at c1
 rw [<-e2] at c3
 rw [e2] at e1
 have e3:d.take a++((d.drop a).take (m - a)++((d.drop m).take (b - m)++d.drop b))=d:=by rw [<-List.append_assoc,<-List.append_assoc,List.append_assoc (d.take a)];exact e1.symm
 rw [e3] at c1
 have:=Part.of (P:=d.take a) (X:=(d.drop a).take (b - a)) (C:=C) (R:=d.drop b) (a:=a) (b:=b) l1 (by rw [List.length_take,List.length_drop];omega) c2 c3
 rwa [e2,<-e1,List.append_assoc,<-c1] at this
theorem rb {p:Nat->Bool} {i j h R:Nat} (hb:fG p i j=R) (hij:i < j) (hh:h=(i+j) / 2) (hp:p h=true):fG p (h+1) j=R:=by
 subst hh;rw [<-hb,Ch hij hp]
theorem re {p:Nat->Bool} {i j h R:Nat} (hb:fG p i j=R) (hij:i < j) (hh:h=(i+j) / 2) (hp:p h=false):fG p i h=R:=by
 subst hh;rw [<-hb,Ci hij hp]
theorem dP {f a m b mid s e:Nat} {d d1 d2 d3:List al} (h0:¬m - a=1) (h1:¬b - m=1) (hm:mid=(a+b) / 2) (hs:ed d a m b=s) (he:mid+m - s=e) (hd1:eV s m e d=d1)
  (hd2:(if a < s/\s < mid then dy f a s mid d1 else d1)=d2) (hd3:(if mid < e/\e < b then dy f mid e b d2 else d2)=d3):dy (f+1) a m b d=d3:=by
 subst hm he hd1 hd2 hd3 hs
 rw [dy.eq_2,if_neg h0,if_neg h1]
def kJ:List al->al->List al
 |[],r=>[r]
 |x::l,r=>if gq r x=true then r::x::l else x::kJ l r
def gm (l:List al):List al:=l.foldl kJ []
theorem uK {r z:al}:∀ {l:List al},z∈kJ l r↔z=r\/z∈l
 |[]=>by simp [kJ]
 |x::l=>by
  unfold kJ
  split
  ·simp
  ·rw [List.mem_cons,uK,List.mem_cons]
   constructor
   ·rintro (h|h|h)
    ·exact .inr (.inl h)
    ·exact .inl h
    ·exact .inr (.inr h)
   ·rintro (h|h|h)
    ·exact .inr (.inl h)
    ·exact .inl h
    ·exact .inr (.inr h)
theorem uJ {r:al}:∀ {l:List al},eW l->eW (kJ l r)
 |[],_=>List.pairwise_singleton _ _
 |x::l,h=>by
  obtain ⟨h1,h2⟩:=List.pairwise_cons.1 h
  unfold kJ
  split
  ·rename_i hc
   exact List.pairwise_cons.2 ⟨fun z hz=>by
    rcases List.mem_cons.1 hz with rfl|hz
    ·exact kz hc
    ·exact ky (kz hc) (h1 z hz),h⟩
  ·rename_i hc
   have hc:fO x r:=qJ.1 (by simpa using hc)
   exact List.pairwise_cons.2 ⟨fun z hz=>by
    rcases uK.1 hz with rfl|hz
    ·exact hc
    ·exact h1 z hz,uJ h2⟩
theorem sR {r:al}:∀ {l:List al},eW l->Same (l++[r]) (kJ l r)
 |[],_=>Same.refl _
 |x::l,h=>by
  obtain ⟨h1,h2⟩:=List.pairwise_cons.1 h
  unfold kJ
  split
  ·rename_i hc
   exact (Same.comm (u:=x::l) (v:=[r]) fun y hy z hz=>by
    rw [List.mem_singleton.1 hz]
    rcases List.mem_cons.1 hy with rfl|hy
    ·exact hc
    ·exact uE hc (h1 y hy))
  ·exact (Same.refl [x]).app (sR h2)
theorem qb:∀ (l acc:List al),eW acc->eW (l.foldl kJ acc)/\Same (acc++l) (l.foldl kJ acc)
 |[],acc,h=>⟨h,by rw [List.append_nil];exact Same.refl _⟩
 |x::l,acc,h=>by
  obtain ⟨h1,h2⟩:=qb l (kJ acc x) (uJ h)
  refine ⟨h1,?_⟩
  have h3:=((sR (r:=x) h).app (Same.refl l)).trans h2
  simpa using h3
theorem yI (l:List al):eW (gm l):=(qb l [] List.Pairwise.nil).1
theorem mI (l:List al):Same l (gm l):=(qb l [] List.Pairwise.nil).2
theorem xp {l d:List al} (h:eW d) (h':Same l d):gm l=d:=eW.uniq (yI l) h ((mI l).symm.trans h')
theorem sj (l:List al):(gm l).length=l.length:=(mI l).len.symm
theorem yJ {l:List al} (h:l.length=0):gm l=l:=by obtain rfl:=List.eq_nil_of_length_eq_zero h;rfl
def jo (d:List al) (a s:Nat):List al:=(d.drop a).take s
def rW (s a:Nat) (d:List al):Prop:=(∃ q,a=q * s)/\∀ k,(k+1) * s<=a->eW (jo d (k * s) s)
def rV (s:Nat) (d:List al):Prop:=∀ k,eW (jo d (k * s) s)
def mh (s a:Nat) (d:List al):Prop:=rW (2 * s) a d/\∀ k,a<=k * s->eW (jo d (k * s) s)
theorem Part.Dh {d y:List al} {a b:Nat} (h:Part d y a b) {c s:Nat} (hc:c+s<=a):jo y c s=jo d c s:=by
 have e:∀ z:List al,jo z c s=((z.take a).drop c).take s:=fun z=>by
  unfold jo;rw [List.drop_take,List.take_take,Nat.min_eq_left (by omega)]
 rw [e y,e d,h.l]
theorem Part.FZ {d y:List al} {a b:Nat} (h:Part d y a b) {c s:Nat} (hc:b<=c):jo y c s=jo d c s:=by
 have e:∀ z:List al,jo z c s=((z.drop b).drop (c - b)).take s:=fun z=>by
  unfold jo;rw [List.drop_drop,show b+(c - b)=c by omega]
 rw [e y,e d,h.r]
theorem wo {d:List al} {a s:Nat} (h:d.length<=a):jo d a s=[]:=by unfold jo;rw [List.drop_of_length_le h];simp
theorem rv {d:List al} {a s t:Nat} (hs:d.length<=a+s) (ht:d.length<=a+t):jo d a s=jo d a t:=by
 unfold jo;rw [List.take_of_length_le (by rw [List.length_drop];omega),List.take_of_length_le (by rw [List.length_drop];omega)]
theorem wj:eW []:=List.Pairwise.nil
theorem Cw {k q s:Nat} (h:(k+1) * s<=q * s+s) (hs:0 < s):k<=q:=by
 rw [<-Nat.succ_mul] at h
 have:=Nat.le_of_mul_le_mul_right h hs
 omega
theorem qX {s:Nat} (hs:0 < s) {d:List al}:rW s 0 d:=⟨⟨0,by simp⟩,fun k h=>by rw [Nat.succ_mul] at h;omega⟩
theorem ta {s a:Nat} {d y:List al} (hs:0 < s) (h:rW s a d) (p:Part d y a (a+s)):rW s (a+s) y:=by
 obtain ⟨⟨q,hq⟩,h2⟩:=h
 refine ⟨⟨q+1,by rw [Nat.succ_mul,hq]⟩,fun k hk=>?_⟩
 subst hq
 have hkq:=Cw hk hs
 by_cases e:k=q
 ·subst e
  have:=p.s
  rw [Nat.add_sub_cancel_left] at this
  exact this
 ·have h3:(k+1) * s<=q * s:=Nat.mul_le_mul_right s (by omega)
  rw [p.Dh (by rw [Nat.succ_mul] at h3;exact h3)]
  exact h2 k h3
theorem vf {s a:Nat} {d y:List al} (hs:0 < s) (h:rW s a d) (ha:a<=y.length) (p:Part d y a y.length) (hn:y.length<=a+s):rV s y:=by
 obtain ⟨⟨q,rfl⟩,h2⟩:=h
 intro k
 rcases Nat.lt_trichotomy k q with e|e|e
 ·have h3:(k+1) * s<=q * s:=Nat.mul_le_mul_right s (by omega)
  rw [p.Dh (by rw [Nat.succ_mul] at h3;exact h3)]
  exact h2 k h3
 ·subst e
  have h3:=p.s
  rw [rv (t:=y.length - k * s) hn (by omega)]
  exact h3
 ·have h3:(q+1) * s<=k * s:=Nat.mul_le_mul_right s (by omega)
  rw [Nat.succ_mul] at h3
  rw [wo (by omega)];exact wj
theorem Ap {s:Nat} {d:List al} (h:rV s d) (hs:d.length<=s):eW d:=by
 have:=h 0
 unfold jo at this
 rw [Nat.zero_mul,List.drop_zero,List.take_of_length_le hs] at this
 exact this
theorem xN {s:Nat} (hs:0 < s) {d:List al} (h:rV s d):mh s 0 d:=⟨qX (by omega),fun k _=>h k⟩
theorem mh.mul {s a:Nat} {d:List al} (h:mh s a d):∃ k,a=k * s:=by
 obtain ⟨q,hq⟩:=h.1.1
 exact ⟨q * 2,by rw [hq,Nat.mul_assoc]⟩
theorem AQ {s a:Nat} {d:List al} (h:mh s a d):eW (jo d a s)/\eW (jo d (a+s) s):=by
 obtain ⟨k,hk⟩:=h.mul
 refine ⟨?_,?_⟩
 ·have:=h.2 k (by omega);rwa [<-hk] at this
 ·have:=h.2 (k+1) (by rw [Nat.succ_mul];omega);rwa [Nat.succ_mul,<-hk] at this
theorem zt {s a:Nat} {d y:List al} (hs:0 < s) (h:mh s a d) (p:Part d y a (a+2 * s)):mh s (a+2 * s) y:=
 ⟨ta (by omega) h.1 p,fun k hk=>by rw [p.FZ hk];exact h.2 k (by omega)⟩
theorem AS {s a:Nat} {d y:List al} (hs:0 < s) (h:mh s a d) (ha:a<=y.length) (p:Part d y a y.length) (hn:y.length<=a+2 * s):rV (s * 2) y:=by
 rw [Nat.mul_comm];exact vf (by omega) h.1 ha p hn
theorem zu {s a:Nat} {d:List al} (hs:0 < s) (h:mh s a d) (hn:d.length<=a+s):rV (s * 2) d:=by
 rw [Nat.mul_comm]
 obtain ⟨⟨⟨q,rfl⟩,h2⟩,h3⟩:=h
 intro k
 rcases Nat.lt_trichotomy k q with e|e|e
 ·exact h2 k (Nat.mul_le_mul_right _ (by omega))
 ·subst e
  rw [rv (t:=s) (by omega) hn]
  have:=h3 (k * 2) (by rw [Nat.mul_assoc];omega)
  rwa [Nat.mul_assoc] at this
 ·have h4:(q+1) * (2 * s)<=k * (2 * s):=Nat.mul_le_mul_right _ (by omega)
  rw [Nat.succ_mul] at h4
  rw [wo (by omega)];exact wj
theorem tW {s a b:Nat} {d:List al} (hs:0 < s) (h:mh s a d) (h1:a+s < b) (h2:b<=d.length) (h3:b=a+2 * s\/(b=d.length/\b<=a+2 * s)):Part d (dy (b - a) a (a+s) b d) a b:=by
 obtain ⟨s1,s2⟩:=AQ h
 refine yD (by omega) h1 h2 (Nat.le_refl _) ?_ ?_
 ·rw [Nat.add_sub_cancel_left];exact s1
 ·rcases h3 with h3|⟨h3,h4⟩
  ·rw [show b - (a+s)=s by omega];exact s2
  ·have:=rv (d:=d) (a:=a+s) (s:=s) (t:=b - (a+s)) (by omega) (by omega)
   show eW (jo d (a+s) (b - (a+s)))
   rw [<-this];exact s2
def mf (r:al):Prop:=r.kind < 1\/r.kind > 8
def nr (r:al):Prop:=r.aD < 0\/r.aD > 7\/r.aZ < 0\/r.aZ > 29\/r.sum < 1\/r.sum > 1000000
instance (r:al):Decidable (mf r):=by unfold mf;infer_instance
instance (r:al):Decidable (nr r):=by unfold nr;infer_instance
def ma:List al->Int->cY
 |[],_=>⟨0,0⟩
 |r::l,i=>if mf r then ⟨1,i⟩ else if nr r then ⟨3,i⟩ else ma l (i+1)
def gh (l:List al):cY:=if l.length > 100 then ⟨5,0⟩ else ma l 0
theorem nP {l:List al} {q:Nat} {x:al} (h:l[q]?=some x):ma (l.drop q) q=if mf x then ⟨1,q⟩ else if nr x then ⟨3,q⟩ else ma (l.drop (q+1)) ((q+1:Nat):Int):=by
 obtain ⟨hq,rfl⟩:=List.getElem?_eq_some_iff.1 h
 rw [List.drop_eq_getElem_cons hq];rfl
theorem yS {l:List al} {q:Nat} {i:Int} (h:l.length<=q):ma (l.drop q) i=⟨0,0⟩:=by rw [List.drop_of_length_le h];rfl
def wF (r:al):Prop:=¬mf r/\¬nr r
theorem wB:∀ {l:List al} {i:Int},(ma l i).err=0↔∀ x∈l,wF x
 |[],i=>by simp [ma]
 |r::l,i=>by
  unfold ma
  split
  ·rename_i h
   simp only [List.mem_cons,forall_eq_or_imp]
   exact ⟨fun e=>absurd e (by decide),fun e=>absurd h e.1.1⟩
  ·split
   ·rename_i h
    simp only [List.mem_cons,forall_eq_or_imp]
    exact ⟨fun e=>absurd e (by decide),fun e=>absurd h e.1.2⟩
   ·rename_i h1 h2
    rw [wB]
    simp only [List.mem_cons,forall_eq_or_imp]
    exact ⟨fun e=>⟨⟨h1,h2⟩,e⟩,fun e=>e.2⟩
theorem yw {l:List al}:(gh l).err=0↔l.length<=100/\∀ x∈l,wF x:=by
 unfold gh
 split
 ·exact ⟨fun e=>absurd e (by decide),fun e=>by omega⟩
 ·rw [wB];exact ⟨fun e=>⟨by omega,e⟩,fun e=>e.2⟩
theorem EU {x:al} (h:wF x):0<=x.aD/\x.aD<=7/\0<=x.aZ/\x.aZ<=29/\1<=x.kind/\x.kind<=8/\1<=x.sum/\x.sum<=1000000:=by
 unfold wF mf nr at h;omega
theorem qw {l:List al} {q:Nat} {x:al} (h:l[q]?=some x):l.take (q+1)=l.take q++[x]:=by
 rw [List.take_add_one,h];rfl
def lR (n:Int):Nat->List Int
 |0=>[]
 |k+1=>n / 256 ^ k % 256::lR n k
theorem oU (n:Int):∀ k,(lR n k).length=k
 |0=>rfl
 |k+1=>by unfold lR;rw [List.length_cons,oU n k]
theorem BF {n:Int} {k:Nat} (h:1<=k):lR n k=n / 256 ^ (k - 1) % 256::lR n (k - 1):=by
 obtain ⟨j,rfl⟩:∃ j,k=j+1:=⟨k - 1,by omega⟩
 rfl
theorem Ct (k:Nat):(2:Int) ^ (8 * k)=256 ^ k:=by rw [Int.pow_mul];rfl
theorem FY {k:Nat} {b n:Int} (h1:1<=k) (hb:b=8 * ((k:Int) - 1)):n / 2 ^ b.toNat=n / 256 ^ (k - 1):=by
 subst hb
 rw [show (8 * ((k:Int) - 1)).toNat=8 * (k - 1) by omega,Ct]
def ur (x:al):List Int:=[x.aD % 256,x.aZ % 256,x.kind % 256]++lR x.sum 3
def lj:List al->Int
 |[]=>0
 |x::l=>x.sum+lj l
theorem Am (u v:List al):lj (u++v)=lj u+lj v:=by
 induction u with
 |nil=>simp [lj]
 |cons x u ih=>simp only [List.cons_append,lj,ih];omega
theorem yG {l:List al} {q:Nat} {x:al} (h:l[q]?=some x):lj (l.take (q+1))=lj (l.take q)+x.sum:=by
 rw [qw h,Am];simp [lj]
def lN (l r:List al):List Int:=((l.length:Int) % 256)::r.flatMap ur
theorem xM {l r:List al} {q:Nat} {x:al} (h:r[q]?=some x):lN l (r.take (q+1))=lN l (r.take q)++ur x:=by
 unfold lN;rw [qw h,List.flatMap_append];simp
theorem Ay (x:al):(ur x).length=6:=by unfold ur;rw [List.length_append,oU];rfl
theorem zr (l r:List al):(lN l r).length=1+6 * r.length:=by
 unfold lN
 rw [List.length_cons]
 induction r with
 |nil=>rfl
 |cons x r ih=>rw [List.flatMap_cons,List.length_append,Ay,List.length_cons];omega
def jL (l:List al):List Int×cY:=if (gh l).err=0 then (lN l (gm l)++lR (lj (gm l)) 4,⟨0,0⟩) else ([],gh l)
def dz (e err:Int):Int:=if e=0 then err else e
def dV (l:List Entry) (e src dst n:Int):List Entry×Int:=
 if dz e (jE l src dst n).2=0 then ((jE l src dst n).1,0) else (l,dz e (jE l src dst n).2)
def cH (l:List bI) (e k held bJ:Int):List bI×Int:=
 match l[k.toNat]? with
 |none=>(l,e)
 |some c=>if dz e (eb c held bJ).2=0 then (l.set k.toNat (eb c held bJ).1,0) else (l,dz e (eb c held bJ).2)
def eF (s:bY) (e:Int) (t:bq):bY×Int:=if dz e (gj s t).2=0 then ((gj s t).1,0) else (s,dz e (gj s t).2)
def iI (l:List al) (e:Int) (r:al):List al×Int:=if l.length=100 then (l,dz e 5) else (l++[r],e)
theorem sl {l:List bI} {e k held bJ:Int} {c:bI} (h:l[k.toNat]?=some c):cH l e k held bJ=if dz e (eb c held bJ).2=0 then (l.set k.toNat (eb c held bJ).1,0) else (l,dz e (eb c held bJ).2):=by
 unfold cH;rw [h]
def eE (ax:List bH) (due:List Int) (aq:List bI) (book:List Entry) (e:Int) (t:bq):List Int×List bI×List Entry×Int:=
 match ax[t.aZ.toNat]? with
 |none=>(due,aq,book,e)
 |some a=>
  if t.kind=1 then (due.set a.aD.toNat (IntKind.i64.wrap (due.getD a.aD.toNat 0+t.sum)),aq,dV book e 1 (50+a.aD) t.sum)
  else if t.kind=2 then (due,(cH aq e a.aN 0 t.sum).1,dV book (cH aq e a.aN 0 t.sum).2 1 (10+a.aN) t.sum)
  else if t.kind=3 then (due.set a.aD.toNat (IntKind.i64.wrap (due.getD a.aD.toNat 0 - t.sum)),aq,dV book e (50+a.aD) 2 t.sum)
  else (due,aq,book,e)
structure Bk where (time:Int) (down:Bool) (aq:List bI) (due:List Int) (ax:List bH) (s0 s1:bY) (n0 n1:Int) (w0 w1:List cp) (ba:cA) (aR:List al) (book:List Entry)
 deriving DecidableEq
def dt (b c:Bk) (e:Int):Bk×Answer:=if e=0 then (c,⟨0,0⟩) else (b,⟨e,0⟩)
def fr (b:Bk) (d:bB):Bk×Answer:=
 if d.n < 0\/d.n>=b.aq.length then (b,⟨6,0⟩)
 else if d.sum < 1\/d.sum > 1000000 then (b,⟨3,0⟩)
 else dt b {b with aq:=(cH b.aq 0 d.n 0 d.sum).1,book:=(dV b.book (cH b.aq 0 d.n 0 d.sum).2 0 (10+d.n) d.sum).1} (dV b.book (cH b.aq 0 d.n 0 d.sum).2 0 (10+d.n) d.sum).2
def gk (b:Bk) (d:bB):Bk×Answer:=
 if d.n < 0\/d.n>=b.due.length then (b,⟨6,0⟩)
 else if b.due.getD d.n.toNat 0<=0 then (b,⟨10,0⟩)
 else dt b {b with due:=b.due.set d.n.toNat 0,book:=(dV b.book 0 (50+d.n) 0 (b.due.getD d.n.toNat 0)).1} (dV b.book 0 (50+d.n) 0 (b.due.getD d.n.toNat 0)).2
def fI (time:Int):List bH->Nat->List bI->List bH->Int->List bI×List bH×Int
 |[],_,aq,ax,e=>(aq,ax,e)
 |a::l,i,aq,ax,e=>fI time l (i+1) (cH aq e a.aN (bN (eg a time) - bN a) 0).1 (ax.set i (eg a time)) (cH aq e a.aN (bN (eg a time) - bN a) 0).2
def gQ (b:Bk):Bk:=if (fI b.time b.ax 0 b.aq b.ax 0).2.2=0 then {b with aq:=(fI b.time b.ax 0 b.aq b.ax 0).1,ax:=(fI b.time b.ax 0 b.aq b.ax 0).2.1} else b
def eQ (b:Bk) (d:bB):Bk×Answer:=
 if d.sum < 0\/d.sum > 1000000 - b.time then (b,⟨3,0⟩)
 else (if b.down=true then {b with time:=b.time+d.sum} else gQ {b with time:=b.time+d.sum},⟨0,0⟩)
def lK (l:List cp) (ks:List bq) (n:Int):List cp:=l++ks.map (fun t=>⟨t,-1⟩)++[⟨⟨0,0,0,0⟩,n⟩]
def ja (w:List cp) (ks:List bq) (n:Int):List cp×Answer:=if (lK w ks n).length > 60 then (w,⟨5,0⟩) else (lK w ks n,⟨0,0⟩)
def ew (s0 s1:bY) (n0 n1:Int) (w0 w1:List cp) (d:bB):List cp×List cp×Answer:=
 if d.n=0 then (w0,ja w1 s0.kept n0) else if d.n=1 then ((ja w0 s1.kept n1).1,w1,(ja w0 s1.kept n1).2) else (w0,w1,⟨6,0⟩)
def gC (aR:List al) (days:List (List Int)):List al×List (List Int)×Answer:=
 if (jL aR).2.err≠0 then (aR,days,⟨(jL aR).2.err,0⟩) else ([],days++[(jL aR).1],⟨0,0⟩)
def gD (e:Int):Int:=if e=10 then 12 else e
def dD (b:Bk) (d:bB):Bk×Answer:=
 if d.n < 0\/d.n>=b.aq.length\/d.aD < 0\/d.aD>=b.due.length then (b,⟨6,0⟩)
 else if b.down=true then
  (if gD (cr b.ba ⟨d.n,d.aD,d.sum,b.time⟩).2=0/\(b.ax.length:Int)+(cr b.ba ⟨d.n,d.aD,d.sum,b.time⟩).1.aT.length > 30 then (b,⟨5,0⟩)
  else if gD (cr b.ba ⟨d.n,d.aD,d.sum,b.time⟩).2≠0 then (b,⟨gD (cr b.ba ⟨d.n,d.aD,d.sum,b.time⟩).2,0⟩)
  else ({b with ba:=(cr b.ba ⟨d.n,d.aD,d.sum,b.time⟩).1},⟨0,(b.ax.length:Int)+(cr b.ba ⟨d.n,d.aD,d.sum,b.time⟩).1.aT.length - 1⟩))
 else if (dm d.n d.aD d.sum b.time).2=0/\b.ax.length=30 then (b,⟨5,0⟩)
 else if (dm d.n d.aD d.sum b.time).2≠0 then (b,⟨(dm d.n d.aD d.sum b.time).2,0⟩)
 else match b.aq[d.n.toNat]? with
  |none=>(b,⟨0,0⟩)
  |some c=>
   if (dQ c d.sum b.time).2≠0 then (b,⟨(dQ c d.sum b.time).2,0⟩)
   else ({b with aq:=b.aq.set d.n.toNat (dQ c d.sum b.time).1,ax:=b.ax++[(dm d.n d.aD d.sum b.time).1]},⟨0,b.ax.length⟩)
theorem tu (s:cA) (a:cg):(cr s a).1.aT.length<=s.aT.length+1:=by
 unfold cr;(repeat' split)<;>simp [fB]
def kB (aq:List bI) (k:Int):Int:=
 match aq[k.toNat]? with
 |none=>0
 |some c=>c.bJ - c.held
def dS (b:Bk) (a cF:bH) (d:bB):List bI×List Int×List Entry×bY×bY×Int:=
 if d.move=1\/d.move=4 then ((cH b.aq 0 a.aN (bN a - bN cF) 0).1,b.due,b.book,b.s0,b.s1,(cH b.aq 0 a.aN (bN a - bN cF) 0).2)
 else if d.move=2\/d.move=3 then
  ((cH b.aq 0 a.aN (bN a - bN cF) (0 - d.sum)).1,b.due,(dV b.book (cH b.aq 0 a.aN (bN a - bN cF) (0 - d.sum)).2 (10+a.aN) 1 d.sum).1,
   (eF b.s0 (dV b.book (cH b.aq 0 a.aN (bN a - bN cF) (0 - d.sum)).2 (10+a.aN) 1 d.sum).2 ⟨0,1,d.n,d.sum⟩).1,b.s1,
   (eF b.s0 (dV b.book (cH b.aq 0 a.aN (bN a - bN cF) (0 - d.sum)).2 (10+a.aN) 1 d.sum).2 ⟨0,1,d.n,d.sum⟩).2)
 else if d.move=5 then
  (b.aq,b.due.set a.aD.toNat (IntKind.i64.wrap (b.due.getD a.aD.toNat 0 - d.sum)),(dV b.book 0 (50+a.aD) 1 d.sum).1,b.s0,(eF b.s1 (dV b.book 0 (50+a.aD) 1 d.sum).2 ⟨0,2,d.n,d.sum⟩).1,(eF b.s1 (dV b.book 0 (50+a.aD) 1 d.sum).2 ⟨0,2,d.n,d.sum⟩).2)
 else if d.move=6 then ((cH b.aq 0 a.aN 0 d.sum).1,b.due,(dV b.book (cH b.aq 0 a.aN 0 d.sum).2 2 (10+a.aN) d.sum).1,b.s0,b.s1,(dV b.book (cH b.aq 0 a.aN 0 d.sum).2 2 (10+a.aN) d.sum).2)
 else if d.move=7 then (b.aq,b.due,b.book,(eF b.s0 0 ⟨0,3,d.n,d.sum⟩).1,b.s1,(eF b.s0 0 ⟨0,3,d.n,d.sum⟩).2)
 else if d.move=8 then ((cH b.aq 0 a.aN 0 (0 - d.sum)).1,b.due,(dV b.book (cH b.aq 0 a.aN 0 (0 - d.sum)).2 (10+a.aN) 2 d.sum).1,b.s0,b.s1,(dV b.book (cH b.aq 0 a.aN 0 (0 - d.sum)).2 (10+a.aN) 2 d.sum).2)
 else (b.aq,b.due,b.book,b.s0,b.s1,0)
def oS (b:Bk) (a:bH) (d:bB) (r:List bI×List Int×List Entry×bY×bY×Int):Bk×Answer:=
 dt b { b with aq := r.1, due := r.2.1, book := r.2.2.1, s0 := r.2.2.2.1, s1 := r.2.2.2.2.1, aR := (iI b.aR r.2.2.2.2.2 ⟨a.aD, d.n, d.move, d.sum⟩).1, ax := b.ax.set d.n.toNat a } (iI b.aR r.2.2.2.2.2 ⟨a.aD, d.n, d.move, d.sum⟩).2
def dA (b:Bk) (d:bB):Bk×Answer:=
 if b.down=true then (b,⟨12,0⟩)
 else if d.n < 0\/d.n>=b.ax.length then (b,⟨6,0⟩)
 else match b.ax[d.n.toNat]? with
  |none=>(b,⟨0,0⟩)
  |some cF=>
   if (cu cF d.move d.sum).2≠0 then (b,⟨(cu cF d.move d.sum).2,0⟩)
   else if d.move=1/\d.sum > kB b.aq (cu cF d.move d.sum).1.aN then (b,⟨10,0⟩)
   else oS b (cu cF d.move d.sum).1 d (dS b (cu cF d.move d.sum).1 cF d)
theorem jd {a:bH} (h:0<=a.sum/\a.sum<=1000000/\0<=a.captured/\a.captured<=a.sum/\0<=a.bx/\0<=a.bn/\a.bx+a.bn<=a.captured/\0<=a.aN/\a.aN<=7/\0<=a.aD/\a.aD<=7/\0<=a.cZ/\a.cZ<=1000100):bK a=0:=by
 unfold bK;rw [if_neg (by omega),if_neg (by omega)]
theorem fb {α:Type} {x b:α} {e:Int} (h:(x,e)=(b,(0:Int))):x=b/\e=0:=Prod.mk.inj h
theorem vM {a b:bH} {k n:Int} (hw:bK a=0) (h1:1<=n) (h2:n<=1000000) (h:dL a k n=(b,0)):bK b=0/\b.aN=a.aN/\b.aD=a.aD:=by
 have hr:=eM hw
 unfold dL at h
 by_cases c1:a.shut=true
 ·rw [if_pos c1] at h;have:=(fb h).2;omega
 rw [if_neg c1] at h
 by_cases c2:k=1
 ·rw [if_pos c2] at h
  by_cases c3:n > 1000000 - a.sum
  ·rw [if_pos c3] at h;have:=(fb h).2;omega
  ·rw [if_neg c3] at h;obtain ⟨rfl,_⟩:=fb h
   exact ⟨jd (by dsimp only;omega),rfl,rfl⟩
 rw [if_neg c2] at h
 by_cases c3:n > a.sum - a.captured
 ·rw [if_pos c3] at h;have:=(fb h).2;omega
 rw [if_neg c3] at h
 by_cases c4:k=4
 ·rw [if_pos c4] at h;obtain ⟨rfl,_⟩:=fb h
  exact ⟨jd (by dsimp only;omega),rfl,rfl⟩
 ·rw [if_neg c4] at h;obtain ⟨rfl,_⟩:=fb h
  exact ⟨jd (by dsimp only;omega),rfl,rfl⟩
theorem mb {a b:bH} {k n:Int} (h:cu a k n=(b,0)):bK a=0/\bK b=0/\b.aN=a.aN/\b.aD=a.aD/\1<=k/\k<=8/\1<=n/\n<=1000000:=by
 unfold cu at h
 by_cases c0:bK a≠0
 ·rw [if_pos c0] at h;exact absurd (fb h).2 c0
 rw [if_neg c0] at h
 have hw:bK a=0:=by omega
 have hr:=eM hw
 by_cases c1:k < 1\/k > 8
 ·rw [if_pos c1] at h;have:=(fb h).2;omega
 rw [if_neg c1] at h
 by_cases c2:n < 1\/n > 1000000
 ·rw [if_pos c2] at h;have:=(fb h).2;omega
 rw [if_neg c2] at h
 have hb:bK b=0/\b.aN=a.aN/\b.aD=a.aD:=by
  by_cases k5:k=5
  ·rw [if_pos k5] at h
   by_cases c:n > a.captured - a.bx - a.bn
   ·rw [if_pos c] at h;have:=(fb h).2;omega
   ·rw [if_neg c] at h;obtain ⟨rfl,_⟩:=fb h;exact ⟨jd (by dsimp only;omega),rfl,rfl⟩
  rw [if_neg k5] at h
  by_cases k6:k=6
  ·rw [if_pos k6] at h
   by_cases c:n > a.captured - a.bx - a.bn
   ·rw [if_pos c] at h;have:=(fb h).2;omega
   ·rw [if_neg c] at h;obtain ⟨rfl,_⟩:=fb h;exact ⟨jd (by dsimp only;omega),rfl,rfl⟩
  rw [if_neg k6] at h
  by_cases k7:k=7
  ·rw [if_pos k7] at h
   by_cases c:n > a.bn
   ·rw [if_pos c] at h;have:=(fb h).2;omega
   ·rw [if_neg c] at h;obtain ⟨rfl,_⟩:=fb h;exact ⟨jd (by dsimp only;omega),rfl,rfl⟩
  rw [if_neg k7] at h
  by_cases k8:k=8
  ·rw [if_pos k8] at h
   by_cases c:n > a.bn
   ·rw [if_pos c] at h;have:=(fb h).2;omega
   ·rw [if_neg c] at h;obtain ⟨rfl,_⟩:=fb h;exact ⟨jd (by dsimp only;omega),rfl,rfl⟩
  rw [if_neg k8] at h
  by_cases c:(dL a k n).2≠0
  ·rw [if_pos c] at h;exact absurd (fb h).2 c
  ·rw [if_neg c] at h;exact vM hw (by omega) (by omega) h
 exact ⟨hw,hb.1,hb.2.1,hb.2.2,by omega,by omega,by omega,by omega⟩
theorem Af {c:bI} (h:cV c=0):-9223372036854775808<=c.bJ - c.held/\c.bJ - c.held<=9223372036854775807:=by
 have:=iV h;omega
def ga:List cg->List bI->List bH->List bI×List bH×Int
 |[],cs,xs=>(cs,xs,0)
 |x::l,cs,xs=>
  if (dm x.aN x.aD x.sum x.time).2≠0 then (cs,xs,(dm x.aN x.aD x.sum x.time).2)
  else match cs[x.aN.toNat]? with
   |none=>(cs,xs,0)
   |some c=>if (eN c x.sum).2≠0 then (cs,xs,(eN c x.sum).2) else ga l (cs.set x.aN.toNat (eN c x.sum).1) (xs++[(dm x.aN x.aD x.sum x.time).1])
theorem pL {l:List cg} {q:Nat} {x:cg} {cs:List bI} {xs:List bH} (h:l[q]?=some x):ga (l.drop q) cs xs=
  if (dm x.aN x.aD x.sum x.time).2≠0 then (cs,xs,(dm x.aN x.aD x.sum x.time).2)
  else match cs[x.aN.toNat]? with
   |none=>(cs,xs,0)
   |some c=>if (eN c x.sum).2≠0 then (cs,xs,(eN c x.sum).2) else ga (l.drop (q+1)) (cs.set x.aN.toNat (eN c x.sum).1) (xs++[(dm x.aN x.aD x.sum x.time).1]):=by
 obtain ⟨hq,rfl⟩:=List.getElem?_eq_some_iff.1 h
 rw [List.drop_eq_getElem_cons hq];rfl
def iv (b:Bk):Bk×Answer:=
 if b.down=false then (b,⟨8,0⟩)
 else if (db b.ba).2.2≠0 then (b,⟨(db b.ba).2.2,0⟩)
 else if (ga (db b.ba).2.1 b.aq b.ax).2.2≠0 then (b,⟨(ga (db b.ba).2.1 b.aq b.ax).2.2,0⟩)
 else (gQ {b with aq:=(ga (db b.ba).2.1 b.aq b.ax).1,ax:=(ga (db b.ba).2.1 b.aq b.ax).2.1,ba:=(db b.ba).1,down:=false},⟨0,0⟩)
def fE (b:Bk) (d:bB):Bk×Answer:=
 match b.w0[0]? with
 |none=>(b,⟨6,0⟩)
 |some p=>
  if d.kind=7 then ({b with w0:=b.w0.drop 1},⟨0,0⟩)
  else if p.seen>=0 then (if (dZ b.s0 p.seen).2=0 then ({b with w0:=b.w0.drop 1,s0:=(dZ b.s0 p.seen).1},⟨0,0⟩) else (b,⟨(dZ b.s0 p.seen).2,0⟩))
  else if (hP b.n0 p.ch).2=true then
   dt b { b with w0 := b.w0.drop 1, n0 := (hP b.n0 p.ch).1, due := (eE b.ax b.due b.aq b.book 0 p.ch).1, aq := (eE b.ax b.due b.aq b.book 0 p.ch).2.1, book := (eE b.ax b.due b.aq b.book 0 p.ch).2.2.1 } (eE b.ax b.due b.aq b.book 0 p.ch).2.2.2
  else ({b with w0:=b.w0.drop 1,n0:=(hP b.n0 p.ch).1},⟨0,0⟩)
def fD (b:Bk) (d:bB):Bk×Answer:=
 match b.w1[0]? with
 |none=>(b,⟨6,0⟩)
 |some p=>
  if d.kind=7 then ({b with w1:=b.w1.drop 1},⟨0,0⟩)
  else if p.seen>=0 then (if (dZ b.s1 p.seen).2=0 then ({b with w1:=b.w1.drop 1,s1:=(dZ b.s1 p.seen).1},⟨0,0⟩) else (b,⟨(dZ b.s1 p.seen).2,0⟩))
  else if (hP b.n1 p.ch).2=true then
   dt b { b with w1 := b.w1.drop 1, n1 := (hP b.n1 p.ch).1, due := (eE b.ax b.due b.aq b.book 0 p.ch).1, aq := (eE b.ax b.due b.aq b.book 0 p.ch).2.1, book := (eE b.ax b.due b.aq b.book 0 p.ch).2.2.1 } (eE b.ax b.due b.aq b.book 0 p.ch).2.2.2
  else ({b with w1:=b.w1.drop 1,n1:=(hP b.n1 p.ch).1},⟨0,0⟩)
def cv (b:Bk) (d:bB):Bk×Answer:=if d.n=0 then fE b d else if d.n=1 then fD b d else (b,⟨6,0⟩)
def ff (b:Bk) (days:List (List Int)) (d:bB):Bk×List (List Int)×Answer:=
 if d.kind=1 then ((fr b d).1,days,(fr b d).2)
 else if d.kind=2 then ((dD b d).1,days,(dD b d).2)
 else if d.kind=3 then ((dA b d).1,days,(dA b d).2)
 else if d.kind=4 then ((eQ b d).1,days,(eQ b d).2)
 else if d.kind=5 then ({b with w0:=(ew b.s0 b.s1 b.n0 b.n1 b.w0 b.w1 d).1,w1:=(ew b.s0 b.s1 b.n0 b.n1 b.w0 b.w1 d).2.1},days,(ew b.s0 b.s1 b.n0 b.n1 b.w0 b.w1 d).2.2)
 else if d.kind=6\/d.kind=7 then ((cv b d).1,days,(cv b d).2)
 else if d.kind=8 then (if b.down=true then (b,days,⟨8,0⟩) else ({b with down:=true},days,⟨0,0⟩))
 else if d.kind=9 then ((iv b).1,days,(iv b).2)
 else if d.kind=10 then ({b with aR:=(gC b.aR days).1},(gC b.aR days).2.1,(gC b.aR days).2.2)
 else if d.kind=11 then ((gk b d).1,days,(gk b d).2)
 else (b,days,⟨1,0⟩)
def eG (b:Bk) (days:List (List Int)) (told:List (Int×Answer)) (cl:Nat) (d:bB):Bk×List (List Int)×List (Int×Answer)×Nat×Answer:=
 if (iR told d.id).isSome=true/\d.id≠0 then (b,days,told,cl,(iR told d.id).getD ⟨0,0⟩)
 else ((ff b days d).1,(ff b days d).2.1,pN told d.id (ff b days d).2.2,if (iR told d.id).isSome then cl else cl+1,(ff b days d).2.2)
structure Setup where (cX:List ey) (gn cap:Int)
 deriving DecidableEq
def nR:List ey->Int->cY
 |[],_=>⟨0,0⟩
 |p::l,i=>if fq p≠0 then ⟨fq p,i⟩ else nR l (i+1)
theorem sG {l:List ey} {q:Nat} {p:ey} (h:l[q]?=some p):nR (l.drop q) q=if fq p≠0 then ⟨fq p,q⟩ else nR (l.drop (q+1)) ((q+1:Nat):Int):=by
 obtain ⟨hq,rfl⟩:=List.getElem?_eq_some_iff.1 h
 rw [List.drop_eq_getElem_cons hq];rfl
def eu (s:Setup):cY:=
 if s.cX.length > 8\/s.gn < 0\/s.gn > 8 then ⟨5,0⟩ else if s.cap < 0\/s.cap > 1000000 then ⟨3,0⟩ else nR s.cX 0
def Dm:Bk:=⟨0,false,[],[],[],⟨0,[]⟩,⟨0,[]⟩,0,0,[],[],⟨0,[],[]⟩,[],[]⟩
def oT (p:ey):bI:=⟨0,0,p,[]⟩
def gS (s:Setup):Bk:=⟨0,false,s.cX.map oT,List.replicate s.gn.toNat 0,[],⟨0,[]⟩,⟨0,[]⟩,0,0,[],[],(dC s.cap s.cX.length).1,[],[]⟩
def jc:List bB->Bk->List (List Int)->List (Int×Answer)->Nat->List Answer->Bk×List (List Int)×List Answer
 |[],b,days,_,_,out=>(b,days,out)
 |d::l,b,days,told,cl,out=>jc l (eG b days told cl d).1 (eG b days told cl d).2.1 (eG b days told cl d).2.2.1 (eG b days told cl d).2.2.2.1 (out++[(eG b days told cl d).2.2.2.2])
theorem xC {l:List bB} {q:Nat} {d:bB} {b:Bk} {days:List (List Int)} {told:List (Int×Answer)} {cl:Nat} {out:List Answer} (h:l[q]?=some d):
  jc (l.drop q) b days told cl out=jc (l.drop (q+1)) (eG b days told cl d).1 (eG b days told cl d).2.1 (eG b days told cl d).2.2.1 (eG b days told cl d).2.2.2.1 (out++[(eG b days told cl d).2.2.2.2]):=by
 obtain ⟨hq,rfl⟩:=List.getElem?_eq_some_iff.1 h
 rw [List.drop_eq_getElem_cons hq];rfl
def fH (s:Setup) (l:List bB):Bk×List (List Int)×List Answer×cY:=
 if (eu s).err≠0 then (Dm,[],[],eu s) else if l.length > 150 then (Dm,[],[],⟨5,0⟩)
 else ((jc l (gS s) [] [] 0 []).1,(jc l (gS s) [] [] 0 []).2.1,(jc l (gS s) [] [] 0 []).2.2,⟨0,0⟩)
theorem xK {time:Int} {l:List bH} {q:Nat} {a:bH} {aq:List bI} {ax:List bH} {e:Int} (h:l[q]?=some a):fI time (l.drop q) q aq ax e=
  fI time (l.drop (q+1)) (q+1) (cH aq e a.aN (bN (eg a time) - bN a) 0).1 (ax.set q (eg a time)) (cH aq e a.aN (bN (eg a time) - bN a) 0).2:=by
 obtain ⟨hq,rfl⟩:=List.getElem?_eq_some_iff.1 h
 rw [List.drop_eq_getElem_cons hq];rfl
theorem fg (l:List bI) (e k held bJ:Int):(cH l e k held bJ).1.length=l.length:=by
 unfold cH
 split
 ·rfl
 ·split<;>simp
theorem wQ {a:bH} {t:Int} (h:bK a=0):bK (eg a t)=0:=by
 unfold bK at h ⊢;unfold eg;exact h
theorem oa {a:bH} (h:bK a=0):0<=bN a/\bN a<=1000000:=by
 have:=eM h
 unfold bN;split<;>omega
structure ct (b:Bk):Prop where
 time:0<=b.time/\b.time<=1000000
 aq:b.aq.length<=8
 due:b.due.length<=8
 ax:b.ax.length+b.ba.aT.length<=30
 aR:b.aR.length<=100
 w0:b.w0.length<=60
 w1:b.w1.length<=60
 perm:∀ a∈b.ax,bK a=0/\0<=a.aN/\a.aN < b.aq.length/\0<=a.aD/\a.aD < b.due.length
 jr:∀ a∈b.ba.aT,0<=a.aN/\a.aN < b.aq.length/\0<=a.aD/\a.aD < b.due.length
 k0:∀ t∈b.s0.kept,eX t.number/\0<=t.aZ/\t.aZ < b.ax.length
 k1:∀ t∈b.s1.kept,eX t.number/\0<=t.aZ/\t.aZ < b.ax.length
 right:∀ c∈b.aq,cV c=0
 l0:b.s0.kept.length<=40
 l1:b.s1.kept.length<=40
 p0:∀ p∈b.w0,p.seen < 0->eX p.ch.number/\0<=p.ch.aZ/\p.ch.aZ < b.ax.length
 p1:∀ p∈b.w1,p.seen < 0->eX p.ch.number/\0<=p.ch.aZ/\p.ch.aZ < b.ax.length
 n0:0<=b.n0
 n1:0<=b.n1
 calm:b.down=false->b.ba.aT=[]
theorem ct.tick {b:Bk} (h:ct b) {t:Int} (h0:0<=t) (h1:t<=1000000):ct {b with time:=t}:=
 ⟨⟨h0,h1⟩,h.aq,h.due,h.ax,h.aR,h.w0,h.w1,h.perm,h.jr,h.k0,h.k1,h.right,h.l0,h.l1,h.p0,h.p1,h.n0,h.n1,h.calm⟩
def yW (x:ey):Prop:=eX x.cD/\eX x.count/\eX x.sum
theorem xD:jM Try.prog 58 3 gy yW:=⟨fun _=>rfl,fun H enc w base spare held n cs y h=>by
  obtain ⟨hl,m,hF⟩:=oo Try.underlying58 h
  obtain ⟨⟨a0,q0,r0⟩,hF⟩:=eO (o:=0) (o':=1) hF (fK Try.underlying3) rfl (by kernel_rfl) rfl
  obtain ⟨⟨a1,q1,r1⟩,hF⟩:=eO (o:=1) (o':=2) hF (fK Try.underlying3) rfl (by kernel_rfl) rfl
  obtain ⟨⟨a2,q2,r2⟩,hF⟩:=eO (o:=2) (o':=3) hF (fK Try.underlying3) rfl (by kernel_rfl) rfl
  exact ⟨⟨a0,a1,a2⟩,r0 _ (r1 _ (r2 _ (ng (hl.trans (by kernel_rfl))))),q0,q1,q2⟩⟩
def yX (x:bB):Prop:=eX x.id/\eX x.kind/\eX x.n/\eX x.aD/\eX x.move/\eX x.sum
theorem xE:jM Try.prog 27 6 df yX:=⟨fun _=>rfl,fun H enc w base spare held n cs y h=>by
  obtain ⟨hl,m,hF⟩:=oo Try.underlying27 h
  obtain ⟨⟨a0,q0,r0⟩,hF⟩:=eO (o:=0) (o':=1) hF (fK Try.underlying3) rfl (by kernel_rfl) rfl
  obtain ⟨⟨a1,q1,r1⟩,hF⟩:=eO (o:=1) (o':=2) hF (fK Try.underlying3) rfl (by kernel_rfl) rfl
  obtain ⟨⟨a2,q2,r2⟩,hF⟩:=eO (o:=2) (o':=3) hF (fK Try.underlying3) rfl (by kernel_rfl) rfl
  obtain ⟨⟨a3,q3,r3⟩,hF⟩:=eO (o:=3) (o':=4) hF (fK Try.underlying3) rfl (by kernel_rfl) rfl
  obtain ⟨⟨a4,q4,r4⟩,hF⟩:=eO (o:=4) (o':=5) hF (fK Try.underlying3) rfl (by kernel_rfl) rfl
  obtain ⟨⟨a5,q5,r5⟩,hF⟩:=eO (o:=5) (o':=6) hF (fK Try.underlying3) rfl (by kernel_rfl) rfl
  exact ⟨⟨a0,a1,a2,a3,a4,a5⟩,r0 _ (r1 _ (r2 _ (r3 _ (r4 _ (r5 _ (ng (hl.trans (by kernel_rfl)))))))),q0,q1,q2,q3,q4,q5⟩⟩
def EB (x:Setup):List D:=[.r 3 (x.cX.map gy),dI x.gn,dI x.cap]
def Cv (x:Setup):Prop:=((∀ y∈x.cX,yW y)/\x.cX.length<=9223372036854775807)/\eX x.gn/\eX x.cap
theorem vL:jM Try.prog 55 3 EB Cv:=⟨fun _=>rfl,fun H enc w base spare held n cs y h=>by
  obtain ⟨hl,m,hF⟩:=oo Try.underlying55 h
  obtain ⟨⟨a0,q0,r0⟩,hF⟩:=eO (o:=0) (o':=1) hF (po Try.underlying53 (by kernel_rfl) (by decide) xD) rfl (by kernel_rfl) rfl
  obtain ⟨⟨a1,q1,r1⟩,hF⟩:=eO (o:=1) (o':=2) hF (fK Try.underlying3) rfl (by kernel_rfl) rfl
  obtain ⟨⟨a2,q2,r2⟩,hF⟩:=eO (o:=2) (o':=3) hF (fK Try.underlying3) rfl (by kernel_rfl) rfl
  exact ⟨⟨a0,a1,a2⟩,r0 _ (r1 _ (r2 _ (ng (hl.trans (by kernel_rfl))))),q0,q1,q2⟩⟩
theorem AF:jM Try.prog 27 6 df yX:=xE

def aX (b:Bk) (i j k m:Nat) (u v:CV):List CV:=[(cI b.time),(cB b.down),(.s i 0 6 b.aq.length),(.s j 0 1 b.due.length),(.s k 0 8 b.ax.length),(cI b.s0.bz),(cw b.s0.kept),(cI b.s1.bz),(cw b.s1.kept),(cI b.n0),(cI b.n1),(cW b.w0),(cW b.w1),(cI b.ba.cap),(dr b.ba.used),(ei b.ba.aT),(.s m 0 4 b.aR.length),u,(de b.book),v]
def bc (x:Nat->Value):List CV:=[.d (.v (x 0)),.d (.v (x 1)),.d (.v (x 2)),.d (.v (x 3)),.d (.v (x 4)),.d (.v (x 5)),.d (.v (x 6)),.d (.v (x 7)),.d (.v (x 8)),.d (.v (x 9)),.d (.v (x 10)),.d (.v (x 11)),.d (.v (x 12)),.d (.v (x 13)),.d (.v (x 14)),.d (.v (x 15)),.d (.v (x 16)),.d (.v (x 17)),.d (.v (x 18)),.d (.v (x 19))]
def dw:List (Option CV):=[none,none,none,none,none,none,none,none,none,none,none,none,none,none,none,none,none,none,none,none]
def iQ (b:Bk) (i j k m:Nat) (u v:Option CV):List (Option CV):=[some (cI b.time),some (cB b.down),some (.s i 0 6 b.aq.length),some (.s j 0 1 b.due.length),some (.s k 0 8 b.ax.length),some (cI b.s0.bz),some (cw b.s0.kept),some (cI b.s1.bz),some (cw b.s1.kept),some (cI b.n0),some (cI b.n1),some (cW b.w0),some (cW b.w1),some (cI b.ba.cap),some (dr b.ba.used),some (ei b.ba.aT),some (.s m 0 4 b.aR.length),u,some (de b.book),v]


theorem vj (a b c:Int):Fn Try.prog 44 [(.g [(cI a),(cI b),(cI c)])] (aI (kp a b c)) []:=by
 refine Fn.mk' 31 [(0,(aG [(cI a),(cI b),(cI c)]))] Try.func44 rfl rfl rfl rfl ?_
 intro W0 T0
 refine ae aa 2 rfl ?_
 refine ag ?_
 refine ck 30 ((((((decide (a < 1))||(decide (a > 1000000)))||(decide (b < 0)))||(decide (b > 30)))||(decide (c < 0)))||(decide (c > 1000000000000))) ?_ ?_
 ·
  refine aw ?_
  refine ad aa 4 rfl ?_
  refine bE (t:=6) rfl (fun hb1=>?_) (fun hb1=>?_)
  ·
   have hb1':=of_decide_eq_true hb1
   refine ad aa 24 rfl ?_
   refine af ?_
   exact aH.bA 29 rfl rfl (by first|(simp [hb1];done)|(simp_all;done)|(exfalso;simp_all;done)|(simp_all;omega)) rfl
  have hb1':=of_decide_eq_false hb1
  refine ad aa 5 rfl ?_
  refine bE (t:=11) rfl (fun hb2=>?_) (fun hb2=>?_)
  ·
   have hb2':=of_decide_eq_true hb2
   refine ad aa 19 rfl ?_
   refine af ?_
   exact aH.bA 30 rfl rfl (by first|(simp [hb1,hb2];done)|(simp_all;done)|(exfalso;simp_all;done)|(simp_all;omega)) rfl
  have hb2':=of_decide_eq_false hb2
  refine ad aa 5 rfl ?_
  refine bE (t:=16) rfl (fun hb3=>?_) (fun hb3=>?_)
  ·
   have hb3':=of_decide_eq_true hb3
   refine ad aa 14 rfl ?_
   refine af ?_
   exact aH.bA 31 rfl rfl (by first|(simp [hb1,hb2,hb3];done)|(simp_all;done)|(exfalso;simp_all;done)|(simp_all;omega)) rfl
  have hb3':=of_decide_eq_false hb3
  refine ad aa 5 rfl ?_
  refine bE (t:=21) rfl (fun hb4=>?_) (fun hb4=>?_)
  ·
   have hb4':=of_decide_eq_true hb4
   refine ad aa 9 rfl ?_
   refine af ?_
   exact aH.bA 32 rfl rfl (by first|(simp [hb1,hb2,hb3,hb4];done)|(simp_all;done)|(exfalso;simp_all;done)|(simp_all;omega)) rfl
  have hb4':=of_decide_eq_false hb4
  refine ad aa 5 rfl ?_
  refine bE (t:=26) rfl (fun hb5=>?_) (fun hb5=>?_)
  ·
   have hb5':=of_decide_eq_true hb5
   refine ad aa 4 rfl ?_
   refine af ?_
   exact aH.bA 33 rfl rfl (by first|(simp [hb1,hb2,hb3,hb4,hb5];done)|(simp_all;done)|(exfalso;simp_all;done)|(simp_all;omega)) rfl
  have hb5':=of_decide_eq_false hb5
  refine ad aa 4 rfl ?_
  refine af ?_
  exact aH.bA 33 rfl rfl (by first|(simp [hb1,hb2,hb3,hb4,hb5];done)|(simp_all;done)|(exfalso;simp_all;done)|(simp_all;omega)) rfl
 refine aj rfl (fun hc6=>?_) (fun hc6=>?_)
 ·
  have hc6':=hc6;try simp only [bu,bR] at hc6'
  refine ae aa 1 rfl ?_
  refine ay ?_
  refine ar ?_
  refine an aa [] 0 rfl rfl rfl rfl rfl rfl ?_ ?_
  ·(show aI _=aI _;unfold kp;rw [if_pos (by omega)])
  ·rfl
 have hc6':=hc6;try simp only [bu,bR] at hc6'
 refine aP ?_
 refine ae aa 1 rfl ?_
 refine ay ?_
 refine an aa [] 0 rfl rfl rfl rfl rfl rfl ?_ ?_
 ·(show aI _=aI _;unfold kp;rw [if_neg (by omega)])
 ·rfl

theorem vV (l:List dc):Fn Try.prog 45 [(.c (eC l))] (aG [cI (cT l).1,cI (cT l).2]) []:=by
 refine Fn.mk' 53 [(0,(aC (eC l)))] Try.func45 rfl rfl rfl rfl ?_
 intro W0 T0
 refine dj 0 rfl (fun hlen0=>?_)
 refine ae aa 1 rfl ?_
 refine ag ?_
 refine aF aa 1 rfl ?_
 refine aA (bQ rfl rfl rfl rfl rfl Try.underlying59) rfl ?_
 refine ad aa 1 rfl ?_
 refine af ?_
 refine aj rfl (fun hc1=>?_) (fun hc1=>?_)
 ·
  have hc1':=of_decide_eq_true hc1
  refine ae aa 2 rfl ?_
  refine ay ?_
  refine ar ?_
  refine an aa [0] 0 rfl rfl rfl rfl rfl rfl ?_ ?_
  ·(have h:cT l=(5,0):=by (unfold cT;rw [if_pos (by omega)]));rw [h];rfl
  ·rfl
 have hc1':=of_decide_eq_false hc1
 refine aP ?_
 refine ag ?_
 refine aF aa 1 rfl ?_
 refine aA (bQ rfl rfl rfl rfl rfl Try.underlying59) rfl ?_
 refine ad aa 1 rfl ?_
 refine af ?_
 refine aU ?_
 refine cj (β:=Nat) (fun (q:Nat)=>⟨[(0,(aC (eC l))),(2,(aC (.p 0 0 0 0))),(9,(aC (eC l))),(10,(aI (↑l.length:Int))),(11,(aI (↑q:Int)))],[(0,(.box 50 [(cI 0),(cI 0)]))],1⟩) (fun (q:Nat)=>q<=l.length/\scan (kF l) 0 l.length=scan (kF l) q (l.length - q)) (fun (q:Nat)=>l.length - q) 0 ?_ ?_ ?_
 ·exact ⟨by omega,rfl⟩
 ·exact aH.bS id (by refine ⟨?_,?_,?_,?_,?_,trivial⟩<;>first|rfl|(simp only [bh];done)|(congr 3;omega)|(congr 4;omega)|(simp only [bj];rfl)) (⟨by first|rfl|(simp only [bh];done)|(congr 3;omega)|(congr 4;omega)|(simp only [bj];rfl),trivial⟩) rfl
 rintro q ⟨hi0_0,hi0_1⟩
 refine ae aa 1 rfl ?_
 refine ag ?_
 refine aj rfl (fun hc2=>?_) (fun hc2=>?_)
 ·
  have hc2':=of_decide_eq_true hc2
  refine aP ?_
  refine ag ?_
  refine aU ?_
  refine aF aa 1 rfl ?_
  obtain ⟨x1,hx1⟩:=cb (xs:=l) (i:=q) (by first|omega|(simp;done)|(simp;omega))
  refine aA (ca (i:=q) rfl rfl rfl Try.underlying59 gO (by first|omega|(simp;done)|(simp;omega)) (bf hx1)) rfl ?_
  refine ad aa 4 rfl ?_
  refine af ?_
  refine ag ?_
  refine ck 33 ((((decide (x1.time < 0))||(decide (x1.time > 1000000)))||(decide (x1.sum < 0)))||(decide (x1.sum > 1000000))) ?_ ?_
  ·
   refine aw ?_
   refine ad aa 4 rfl ?_
   refine bE (t:=19) rfl (fun hb3=>?_) (fun hb3=>?_)
   ·
    have hb3':=of_decide_eq_true hb3
    refine ad aa 14 rfl ?_
    refine af ?_
    exact aH.bA 19 rfl rfl (by first|(simp [hb3];done)|(simp_all;done)|(exfalso;simp_all;done)|(simp_all;omega)) rfl
   have hb3':=of_decide_eq_false hb3
   refine ad aa 5 rfl ?_
   refine bE (t:=24) rfl (fun hb4=>?_) (fun hb4=>?_)
   ·
    have hb4':=of_decide_eq_true hb4
    refine ad aa 9 rfl ?_
    refine af ?_
    exact aH.bA 20 rfl rfl (by first|(simp [hb3,hb4];done)|(simp_all;done)|(exfalso;simp_all;done)|(simp_all;omega)) rfl
   have hb4':=of_decide_eq_false hb4
   refine ad aa 5 rfl ?_
   refine bE (t:=29) rfl (fun hb5=>?_) (fun hb5=>?_)
   ·
    have hb5':=of_decide_eq_true hb5
    refine ad aa 4 rfl ?_
    refine af ?_
    exact aH.bA 21 rfl rfl (by first|(simp [hb3,hb4,hb5];done)|(simp_all;done)|(exfalso;simp_all;done)|(simp_all;omega)) rfl
   have hb5':=of_decide_eq_false hb5
   refine ad aa 4 rfl ?_
   refine af ?_
   exact aH.bA 21 rfl rfl (by first|(simp [hb3,hb4,hb5];done)|(simp_all;done)|(exfalso;simp_all;done)|(simp_all;omega)) rfl
  refine aj rfl (fun hc6=>?_) (fun hc6=>?_)
  ·
   have hc6':=hc6;try simp only [bu,bR] at hc6'
   refine ae aa 3 rfl ?_
   refine ay ?_
   refine ar ?_
   refine bo ?_
   refine ar ?_
   refine ar ?_
   refine bo ?_
   refine ar ?_
   refine an aa [0] 0 rfl rfl rfl rfl rfl rfl ?_ ?_
   ·(have h:cT l=(3,(q:Int)):=by (unfold cT;rw [if_neg (by omega),hi0_1];exact hZ (by omega) (show kF l q=3 by (unfold kF;simp only [hx1];rw [if_pos (by omega)])) (by decide)));rw [h];rfl
   ·rfl
  have hc6':=hc6;try simp only [bu,bR] at hc6'
  refine aP ?_
  refine ag ?_
  rcases Bool.eq_false_or_eq_true (decide ((↑q:Int) > 0)) with hb7|hb7
  ·
   have hb7':=of_decide_eq_true hb7
   obtain ⟨x2,hx2⟩:=cb (xs:=l) (i:=(q) - 1) (by first|omega|(simp;done)|(simp;omega))
   refine aW [0,2,9,10,11,4,3] [1,0] mixed rfl rfl ?_
   refine au (kn:=[(37,true)]) aa 5 rfl ⟨hb7,trivial⟩ ?_
   refine aM (n':=2) [40,38] [] rfl rfl (.inl ⟨(ah.yes rfl rfl rfl),aE.cast (aK rfl rfl rfl (aL (by first|omega|(simp;done)|(simp;omega)))) rfl⟩) rfl ?_
   refine aM (n':=2) [39,41,38] [] rfl rfl (.inl ⟨(ah.yes rfl rfl rfl),aE.cast (ca (i:=(q) - 1) rfl rfl rfl Try.underlying59 gO (by first|omega|(simp;done)|(simp;omega)) (bf hx2)) rfl⟩) rfl ?_
   refine au (kn:=[]) aa 6 rfl trivial ?_
   refine br [1,0] rfl rfl rfl rfl (by kernel_rfl) ?_
   refine af ?_
   refine aj rfl (fun hc8=>?_) (fun hc8=>?_)
   ·
    have hc8':=of_decide_eq_true hc8
    refine ae aa 3 rfl ?_
    refine ay ?_
    refine bo ?_
    refine ar ?_
    refine ar ?_
    refine bo ?_
    refine ar ?_
    refine an aa [0] 0 rfl rfl rfl rfl rfl rfl ?_ ?_
    ·(have h:cT l=(2,(q:Int)):=by (unfold cT;rw [if_neg (by omega),hi0_1];exact hZ (by omega) (show kF l q=2 by (unfold kF;simp only [hx1];rw [if_neg (by omega),if_pos (by refine ⟨by omega,?_⟩;rw [List.getD_eq_getElem?_getD,hx2];simp only [Option.getD_some];omega)])) (by decide)));rw [h];rfl
    ·rfl
   have hc8':=of_decide_eq_false hc8
   refine cG ?_
   refine bl ?_
   refine then_ok ?_
   refine aw ?_
   refine aA (aK rfl rfl rfl (aL (by first|omega|(simp;done)|(simp;omega)))) rfl ?_
   refine ad aa 1 rfl ?_
   refine af ?_
   refine ⟨q+1,⟨by omega,by rw [hi0_1];exact mo (by omega) (by unfold kF;simp only [hx1];rw [if_neg (by omega),if_neg (by first|omega|(rw [List.getD_eq_getElem?_getD,hx2];simp only [Option.getD_some];omega))])⟩,by first|omega|(simp;done)|(simp;omega),aH.bS id (by refine ⟨?_,?_,?_,?_,?_,trivial⟩<;>first|rfl|(simp only [bh];done)|(congr 3;omega)|(congr 4;omega)|(simp only [bj];rfl)) (⟨by first|rfl|(simp only [bh];done)|(congr 3;omega)|(congr 4;omega)|(simp only [bj];rfl),trivial⟩) rfl⟩
  have hb7':=of_decide_eq_false hb7
  refine aW [0,2,9,10,11,4,3] [1,0] mixed rfl rfl ?_
  refine au (kn:=[(37,false)]) aa 13 rfl ⟨hb7,trivial⟩ ?_
  refine br [1,0] rfl rfl rfl rfl (by kernel_rfl) ?_
  refine af ?_
  refine aj rfl (fun hno=>by cases hno) (fun _=>?_)
  refine cG ?_
  refine bl ?_
  refine then_ok ?_
  refine aw ?_
  refine aA (aK rfl rfl rfl (aL (by first|omega|(simp;done)|(simp;omega)))) rfl ?_
  refine ad aa 1 rfl ?_
  refine af ?_
  refine ⟨q+1,⟨by omega,by rw [hi0_1];exact mo (by omega) (by unfold kF;simp only [hx1];rw [if_neg (by omega),if_neg (by first|omega|(rw [List.getD_eq_getElem?_getD,hx2];simp only [Option.getD_some];omega))])⟩,by first|omega|(simp;done)|(simp;omega),aH.bS id (by refine ⟨?_,?_,?_,?_,?_,trivial⟩<;>first|rfl|(simp only [bh];done)|(congr 3;omega)|(congr 4;omega)|(simp only [bj];rfl)) (⟨by first|rfl|(simp only [bh];done)|(congr 3;omega)|(congr 4;omega)|(simp only [bj];rfl),trivial⟩) rfl⟩
 have hc2':=of_decide_eq_false hc2
 refine bZ ?_
 refine aO ?_
 refine aO ?_
 refine bF ?_
 refine then_ok ?_
 refine ae aa 2 rfl ?_
 refine ay ?_
 refine an aa [0] 0 rfl rfl rfl rfl rfl rfl ?_ ?_
 ·(have h:cT l=(0,0):=by (unfold cT;rw [if_neg (by omega),hi0_1,mL (by omega)]));rw [h];rfl
 ·rfl

theorem wh (l:List dc) (fn:FuncId) (bd:List (List D)) (pr:dc->Bool) (hp:∀ x:dc,Fn Try.prog fn ([.g [cI x.time,cI x.sum]]++bd.map fun r=>GV.c (.q r 0)) (aB (pr x)) []) (hen:bg Try.prog fn) (r:Int) (hr:gL pr l=r):Fn Try.prog 123 [(.c (eC l)),(.c (.d (.f fn bd)))] (.v (.c (cI r))) []:=by
 refine Fn.mk' 19 [(0,(aC (eC l))),(1,(aC (.d (.f fn bd))))] Try.func123 rfl rfl rfl rfl ?_
 intro W0 T0
 refine dj 0 rfl (fun hlen0=>?_)
 refine ae aa 1 rfl ?_
 refine ag ?_
 refine aF aa 1 rfl ?_
 refine aA (bQ rfl rfl rfl rfl rfl Try.underlying59) rfl ?_
 refine ad aa 1 rfl ?_
 refine af ?_
 refine aU ?_
 refine cj (β:=Nat) (fun (q:Nat)=>⟨[(0,(aC (eC l))),(1,(aC (.d (.f fn bd)))),(7,(aI (↑l.length:Int))),(8,(aI (↑q:Int)))],[],0⟩) (fun (q:Nat)=>q<=l.length/\(l.take q).all (fun y=>!pr y)=true) (fun (q:Nat)=>l.length - q) 0 ?_ ?_ ?_
 ·exact ⟨by omega,by simp⟩
 ·exact aH.bS id (by refine ⟨?_,?_,?_,?_,trivial⟩<;>first|rfl|(simp only [bh];done)|(congr 3;omega)|(congr 4;omega)|(simp only [bj];rfl)) (trivial) rfl
 rintro q ⟨hi0_0,hi0_1⟩
 refine ae aa 1 rfl ?_
 refine ag ?_
 refine aj rfl (fun hc1=>?_) (fun hc1=>?_)
 ·
  have hc1':=of_decide_eq_true hc1
  refine aP ?_
  refine ag ?_
  refine aU ?_
  refine ae aa 2 rfl ?_
  refine aF aa 3 rfl ?_
  obtain ⟨x1,hx1⟩:=cb (xs:=l) (i:=q) (by first|omega|(simp;done)|(simp;omega))
  refine aA (ca (i:=q) rfl rfl rfl Try.underlying59 gO (by first|omega|(simp;done)|(simp;omega)) (bf hx1)) rfl ?_
  refine ad aa 1 rfl ?_
  refine aA (gX 0 (hp x1) hen rfl rfl rfl ⟨⟨_,rfl,.g ⟨.d _,.d _,trivial⟩⟩,trivial⟩ trivial trivial rfl rfl rfl rfl) rfl ?_
  refine af ?_
  refine aj rfl (fun hc2=>?_) (fun hc2=>?_)
  ·
   have hc2':=hc2;try simp only [bu,bR] at hc2'
   refine ae aa 2 rfl ?_
   refine ay ?_
   refine bo ?_
   refine ar ?_
   refine ar ?_
   refine bo ?_
   refine ar ?_
   have hX:gL pr l=(↑q:Int):=by
     exact sS hi0_1 hx1 hc2
   rw [hX] at hr;clear hX
   subst hr
   refine an aa [] 0 rfl rfl rfl rfl rfl rfl ?_ ?_
   all_goals first|rfl|(simp [az];done)|(simp [az];omega)
  have hc2':=hc2;try simp only [bu,bR] at hc2'
  refine cG ?_
  refine bl ?_
  refine then_ok ?_
  refine aw ?_
  refine aA (aK rfl rfl rfl (aL (by first|omega|(simp;done)|(simp;omega)))) rfl ?_
  refine ad aa 1 rfl ?_
  refine af ?_
  refine ⟨q+1,⟨by omega,vA hi0_1 hx1 hc2⟩,by first|omega|(simp;done)|(simp;omega),aH.bS id (by refine ⟨?_,?_,?_,?_,trivial⟩<;>first|rfl|(simp only [bh];done)|(congr 3;omega)|(congr 4;omega)|(simp only [bj];rfl)) (trivial) rfl⟩
 have hc1':=of_decide_eq_false hc1
 refine bZ ?_
 refine aO ?_
 refine aO ?_
 refine bF ?_
 refine then_ok ?_
 refine ae aa 1 rfl ?_
 refine ay ?_
 have hX:gL pr l=(-1):=by
   exact uN (by rw [<-List.take_of_length_le (l:=l) (i:=q) (by omega)];exact hi0_1)
 rw [hX] at hr;clear hX
 subst hr
 refine an aa [] 0 rfl rfl rfl rfl rfl rfl ?_ ?_
 all_goals first|rfl|(simp [az];done)|(simp [az];omega)
theorem vv (l:List dc) (fn:FuncId) (bd:List (List D)) (pr:dc->Bool) (hp:∀ x:dc,Fn Try.prog fn ([.g [cI x.time,cI x.sum]]++bd.map fun r=>GV.c (.q r 0)) (aB (pr x)) []) (hen:bg Try.prog fn) (r:List dc) (hr:dK pr l=r):cJ Try.prog 117 [(.c (.s 0 0 2 l.length)),(.c (.d (.f fn bd)))] [(0,(oB l))] [] (.v (.c (.s 0 0 2 r.length))) [(0,(oB r))]:=by
 refine cJ.mk 42 [(0,(aC (.s 0 0 2 l.length))),(1,(aC (.d (.f fn bd))))] 1 Try.func117 rfl rfl rfl rfl rfl rfl rfl rfl rfl ?_
 intro W0 F0 T0 pg
 refine gf 0 rfl (fun hlen0=>?_)
 have hic:=sU pr l
 have hib:gL pr l<=l.length/\-1<=gL pr l:=by rcases hic with ⟨h,_⟩|⟨i,h,h1,_⟩<;>omega
 refine ae aa 1 rfl ?_
 refine aF aa 2 rfl ?_
 obtain ⟨r0,hr0⟩:∃ (r0:Int),gL pr l=r0:=⟨_,rfl⟩
 refine aQ 1 [0] (fP 1 [0] (wh l fn bd pr hp hen r0 hr0) Fh rfl rfl ⟨⟨_,rfl,.c (.s rfl (by decide) (by first|omega|(simp;done)|(simp;omega)))⟩,⟨_,rfl,.c (.d _)⟩,trivial⟩ rfl trivial rfl rfl rfl rfl) rfl ?_
 refine ad aa 1 rfl ?_
 refine af ?_
 refine ag ?_
 refine ae aa 2 rfl ?_
 refine aj rfl (fun hc1=>?_) (fun hc1=>?_)
 ·
  have hc1':=of_decide_eq_true hc1
  refine ae aa 2 rfl ?_
  refine ay ?_
  refine ar ?_
  have hX:dK pr l=l:=by
    rcases hic with ⟨_,h⟩|⟨i0,h,_⟩
    ·exact h
    ·exfalso;omega
  rw [hX] at hr;clear hX
  subst hr
  refine an aa [0] 1 rfl rfl rfl rfl rfl rfl ?_ ?_
  all_goals first|rfl|(simp [az];done)|(simp [az];omega)
 have hc1':=of_decide_eq_false hc1
 refine aP ?_
 refine ag ?_
 refine aF aa 1 rfl ?_
 refine aA (aK rfl rfl rfl (aL (by first|omega|(simp;done)|(simp;omega)))) rfl ?_
 refine ad aa 1 rfl ?_
 refine af ?_
 refine aU ?_
 obtain ⟨i0,hi0,hil,x0,hx0,hp0,hk0⟩:∃ i:Nat,gL pr l=i/\i < l.length/\∃ x,l[i]?=some x/\pr x=true/\dK pr (l.take i)=l.take i:=by
     rcases hic with ⟨h,_⟩|h
     ·exfalso;omega
     ·exact h
 obtain rfl:r0=(i0:Int):=by omega
 refine cj (β:=Nat×Nat×List dc) (fun (p:Nat×Nat×List dc)=>match p with|(j,i,c)=>⟨[(0,(aC (.s 0 0 2 l.length))),(1,(aC (.d (.f fn bd)))),(4,(aC cN)),(5,(aI (↑i:Int))),(6,(aI (↑j:Int)))],[(0,(oB c))],1⟩) (fun (p:Nat×Nat×List dc)=>match p with|(j,i,c)=>kQ pr l c i j) (fun (p:Nat×Nat×List dc)=>match p with|(j,i,c)=>l.length - j) (i0+1,i0,l) ?_ ?_ ?_
 ·exact kQ.start hx0 hp0 hk0
 ·exact aH.bS id (by refine ⟨?_,?_,?_,?_,?_,trivial⟩<;>first|rfl|(simp only [bh];done)|(congr 3;omega)|(congr 4;omega)|(simp only [bj];rfl)) (⟨by first|rfl|(simp only [bh];done)|(congr 3;omega)|(congr 4;omega)|(simp only [bj];rfl),trivial⟩) rfl
 rintro ⟨j,i,c⟩ hd
 have hdl:=hd.len;have hdi:=hd.ij;have hdj:=hd.jl
 refine ag ?_
 refine aF aa 2 rfl ?_
 refine aA (du rfl rfl rfl rfl rfl Try.underlying59) rfl ?_
 refine ad aa 1 rfl ?_
 refine af ?_
 refine aj rfl (fun hc2=>?_) (fun hc2=>?_)
 ·
  have hc2':=of_decide_eq_true hc2
  refine aP ?_
  refine ag ?_
  refine aU ?_
  refine aF aa 2 rfl ?_
  refine aA (bw (i:=j) rfl rfl rfl Try.underlying59 gO (by first|omega|(simp;done)|(simp;omega)) (by first|omega|(simp;done)|(simp;omega))) rfl ?_
  obtain ⟨x1,hx1⟩:=cb (xs:=c) (i:=j) (by first|omega|(simp;done)|(simp;omega))
  refine aA (di rfl rfl rfl Try.underlying125 rfl gO (bf hx1) rfl) rfl ?_
  refine ad aa 2 rfl ?_
  refine af ?_
  refine aF aa 2 rfl ?_
  refine aA (gX 2 (hp x1) hen rfl rfl rfl ⟨⟨_,rfl,.g ⟨.d _,.d _,trivial⟩⟩,trivial⟩ trivial trivial rfl rfl rfl rfl) rfl ?_
  refine ad aa 1 rfl ?_
  refine af ?_
  refine aj rfl (fun hc3=>?_) (fun hc3=>?_)
  ·
   have hc3':=hc3;try simp only [bu,bR] at hc3'
   refine aF aa 3 rfl ?_
   refine aA (bw (i:=i) rfl rfl rfl Try.underlying59 gO (by first|omega|(simp;done)|(simp;omega)) (by first|omega|(simp;done)|(simp;omega))) rfl ?_
   obtain ⟨x2,hx2⟩:=cb (xs:=c) (i:=i) (by first|omega|(simp;done)|(simp;omega))
   refine fZ [1,0] (dM (ds:=[(dI x1.time),(dI x1.sum)]) rfl rfl rfl rfl rfl gO rfl (Nat.le_of_ble_eq_true rfl) (bf hx2) rfl (eK (x':=x1) rfl)) rfl ?_
   refine af ?_
   refine aw ?_
   refine ad aa 1 rfl ?_
   refine aA (aK rfl rfl rfl (aL (by first|omega|(simp;done)|(simp;omega)))) rfl ?_
   refine ad aa 1 rfl ?_
   refine cf ?_
   refine bl ?_
   refine then_ok ?_
   refine aw ?_
   refine ad aa 1 rfl ?_
   refine aA (aK rfl rfl rfl (aL (by first|omega|(simp;done)|(simp;omega)))) rfl ?_
   refine ad aa 1 rfl ?_
   refine af ?_
   refine ⟨(j+1,(i)+1,(c).set i x1),hd.cM hx1 (by simpa using hc3),by first|omega|(simp;done)|(simp;omega),aH.bS id (by refine ⟨?_,?_,?_,?_,?_,trivial⟩<;>first|rfl|(simp only [bh];done)|(congr 3;omega)|(congr 4;omega)|(simp only [bj];rfl)) (⟨by first|rfl|(simp only [bh];done)|(congr 3;omega)|(congr 4;omega)|(simp only [bj];rfl),trivial⟩) rfl⟩
  have hc3':=hc3;try simp only [bu,bR] at hc3'
  refine cG ?_
  refine bl ?_
  refine then_ok ?_
  refine aw ?_
  refine ad aa 1 rfl ?_
  refine aA (aK rfl rfl rfl (aL (by first|omega|(simp;done)|(simp;omega)))) rfl ?_
  refine ad aa 1 rfl ?_
  refine af ?_
  refine ⟨(j+1,i,c),hd.skip hx1 (by simpa using hc3),by first|omega|(simp;done)|(simp;omega),aH.bS id (by refine ⟨?_,?_,?_,?_,?_,trivial⟩<;>first|rfl|(simp only [bh];done)|(congr 3;omega)|(congr 4;omega)|(simp only [bj];rfl)) (⟨by first|rfl|(simp only [bh];done)|(congr 3;omega)|(congr 4;omega)|(simp only [bj];rfl),trivial⟩) rfl⟩
 have hc2':=of_decide_eq_false hc2
 refine bZ ?_
 refine aO ?_
 refine aO ?_
 refine bF ?_
 refine then_ok ?_
 refine aF aa 2 rfl ?_
 refine aA (nd (l:=i) (h:=l.length) rfl Try.underlying59 gO rfl (.inr ⟨_,rfl,rfl⟩) (.inl ⟨rfl,rfl⟩) (by first|omega|(simp;done)|(simp;omega)) (by first|omega|(simp;done)|(simp;omega)) (by first|omega|(simp;done)|(simp;omega)) rfl) rfl ?_
 refine fZ [0] (rJ (rows':=(c.take i).map gT) nJ EN rfl rfl rfl rfl rfl rfl rfl rfl rfl (by simp [List.map_take])) rfl ?_
 refine af ?_
 refine aF aa 2 rfl ?_
 refine aA (nd (l:=0) (h:=i) rfl Try.underlying59 gO rfl (.inl ⟨rfl,rfl⟩) (.inr ⟨_,rfl,rfl⟩) (by first|omega|(simp;done)|(simp;omega)) (by first|omega|(simp;done)|(simp;omega)) (by first|omega|(simp;done)|(simp;omega)) rfl) rfl ?_
 refine ad aa 1 rfl ?_
 refine af ?_
 refine ay ?_
 have hX:dK pr l=(c.take i):=by
   have hdone:=hd.done (by omega)
   rw [<-hdone]
 rw [hX] at hr;clear hX
 subst hr
 refine an aa [0] 1 rfl rfl rfl rfl rfl rfl ?_ ?_
 all_goals first|rfl|(simp [az];done)|(simp [az];omega)

theorem kL (p:ey) (e:Int) (hr:fq p=e):Fn Try.prog 44 [(.g [cI p.cD,cI p.count,cI p.sum])] (.v (.c (cI e))) []:=hr▸vj p.cD p.count p.sum
theorem ov (l:List dc) (f:cY) (hr:fy l=f):Fn Try.prog 45 [.c (cR 2 (l.map gT))] (.v (.g [cI f.err,cI f.at_])) []:=hr▸vV l

theorem zT (x:dc) (t:Int) (p:ey) (hb:-9223372036854775808<=t - p.cD/\t - p.cD<=9223372036854775807):Fn Try.prog 118 [(.g [(cI x.time),(cI x.sum)]),(.c (.q ([dI t]) 0)),(.c (.q ([dI p.cD,dI p.count,dI p.sum]) 0))] (aB (cF p t x)) []:=by
 refine Fn.mk' 12 [(0,(aG [(cI x.time),(cI x.sum)])),(1,(aC (.q ([dI t]) 0))),(2,(aC (.q ([dI p.cD,dI p.count,dI p.sum]) 0)))] Try.func118 rfl rfl rfl rfl ?_
 intro W0 T0
 refine ae aa 2 rfl ?_
 refine aF aa 5 rfl ?_
 refine aA (aK rfl rfl rfl (aL (by first|omega|(simp;done)|(simp;omega)))) rfl ?_
 refine ad aa 2 rfl ?_
 refine af ?_
 refine ay ?_
 refine an aa [] 0 rfl rfl rfl rfl rfl rfl ?_ ?_
 all_goals first|rfl|(simp [az];done)|(simp [az];omega)
theorem nB (p:ey) (l:List dc) (t:Int) (hb:-9223372036854775808<=t - p.cD/\t - p.cD<=9223372036854775807) (hl:l.length * 16<=140737488355328) (r:List dc) (hr:dG p l t=r):Fn Try.prog 112 [(.g [(cI p.cD),(cI p.count),(cI p.sum)]),(.c (eC l)),(.c (cI t))] (.v (.c (.s 0 0 2 r.length))) [(0,(oB r))]:=by
 refine Fn.mk' 11 [(0,(aG [(cI p.cD),(cI p.count),(cI p.sum)])),(1,(aC (eC l))),(2,(aI t))] Try.func112 rfl rfl rfl rfl ?_
 intro W0 T0
 refine dj 1 rfl (fun hlen1=>?_)
 refine ae aa 3 rfl ?_
 refine aF aa 1 rfl ?_
 refine aQ 3 [2,1,0] (bX 2 (pD l (by first|omega|(simp;done)|(simp;omega))) BZ rfl rfl ⟨⟨_,rfl,.c (.d _)⟩,trivial⟩ trivial ⟨(fun _ _ _ _=>trivial),trivial⟩ rfl rfl rfl rfl) rfl ?_
 refine aA (zC (ks:=[1,0]) rfl ⟨rfl,rfl,trivial⟩) rfl ?_
 obtain ⟨r0,hr0⟩:∃ (r0:List dc),dK (cF p t) l=r0:=⟨_,rfl⟩
 refine aQ 4 [3,1,0] (uV (bb [2]) (bb [3]) [0,1] (vv l 118 ([[(dI t)],[(dI p.cD),(dI p.count),(dI p.sum)]]) (cF p t) (fun x=>zT x t p hb) Fl r0 hr0) Fm rfl rfl ⟨⟨_,rfl,.inl ⟨rfl,rfl⟩⟩,⟨_,rfl,.inr (.c (.fn ⟨⟨by decide,_,rfl⟩,⟨by decide,_,rfl⟩,trivial⟩))⟩,trivial⟩ ⟨rfl,trivial⟩ rfl rfl rfl rfl rfl rfl rfl rfl trivial ⟨(AN _),trivial⟩ rfl rfl rfl rfl) rfl ?_
 refine ad aa 1 rfl ?_
 refine af ?_
 refine ay ?_
 have hX:dG p l t=r0:=by
   assumption
 rw [hX] at hr;clear hX
 subst hr
 refine an aa [3] 1 rfl rfl rfl rfl rfl rfl ?_ ?_
 all_goals first|rfl|(simp [az];done)|(simp [az];omega)

theorem yf (p:ey) (l:List dc) (x:dc) (r:List dc) (e:Int) (hr:eA p l x=(r,e)):Fn Try.prog 100 [(.g [(cI p.cD),(cI p.count),(cI p.sum)]),(.c (eC l)),(.g [(cI x.time),(cI x.sum)])] (.t [(.c (.s 0 0 2 r.length)),(.c (cI e))]) [(0,(oB r))]:=by
 refine Fn.mk' 87 [(0,(aG [(cI p.cD),(cI p.count),(cI p.sum)])),(1,(aC (eC l))),(2,(aG [(cI x.time),(cI x.sum)]))] Try.func100 rfl rfl rfl rfl ?_
 intro W0 T0
 refine dj 1 rfl (fun hlen1=>?_)
 have hrp:=@nN p
 have hru:(fy l).err=0->l.length<=30:=fun h=>(jy h).1
 have hrx:(fy [x]).err=0->0<=x.time/\x.time<=1000000/\0<=x.sum/\x.sum<=1000000:=fun h=>(@jy [x] h).2 x (by simp)
 refine ae aa 4 rfl ?_
 refine ag ?_
 refine aF aa 1 rfl ?_
 obtain ⟨e0,hr0⟩:∃ (e0:Int),fq p=e0:=⟨_,rfl⟩
 refine aQ 2 [1,0] (bX 2 (kL p e0 hr0) Bm rfl rfl ⟨⟨_,rfl,.g ⟨.d _,.d _,.d _,trivial⟩⟩,trivial⟩ trivial trivial rfl rfl rfl rfl) rfl ?_
 refine ad aa 1 rfl ?_
 refine af ?_
 refine ae aa 2 rfl ?_
 refine aj rfl (fun hc1=>?_) (fun hc1=>?_)
 ·
  have hc1':=of_decide_eq_true hc1
  refine ae aa 3 rfl ?_
  refine ay ?_
  refine ar ?_
  refine da (aH.nil 6 125 2 (by decide) rfl) ?_
  have hX:eA p l x=(([]:List dc),e0):=by
    unfold eA;rw [if_pos (by omega),hr0]
  rw [hX] at hr;clear hX
  simp only [Prod.mk.injEq] at hr;obtain ⟨rfl,rfl⟩:=hr
  refine an aa [2] 1 rfl rfl rfl rfl rfl rfl ?_ ?_
  all_goals first|rfl|(simp [az];done)|(simp [az];omega)
 have hc1':=of_decide_eq_false hc1
 refine aP ?_
 refine ag ?_
 refine aF aa 2 rfl ?_
 refine aQ 3 [2,1,0] (dW (ys:=[(0,(.g [(cI x.time),(cI x.sum)]))]) (rows:=([x]).map gT) 2 nJ rfl (by decide) ⟨⟨rfl,rfl⟩,trivial⟩ rfl rfl rfl rfl) rfl ?_
 refine tm (s':=[(0,(aG [(cI p.cD),(cI p.count),(cI p.sum)])),(1,(aC (eC l))),(2,(aG [(cI x.time),(cI x.sum)])),(3,(aC (.p 0 0 0 0))),(5,(aC (.p 1 0 0 0))),(6,(aC cN)),(7,(aI 0)),(17,(aG [(cI p.cD),(cI p.count),(cI p.sum)])),(18,(aI e0)),(8,(aI e0)),(19,(aI e0)),(20,(aB (decide (¬e0=0)))),(22,(aC (eC l))),(23,(aG [(cI x.time),(cI x.sum)])),(24,(aC (eC ([x]))))]) (h':=[(1,(.box 125 [(cI x.time),(cI x.sum)])),(0,(.box 58 [(cI p.cD),(cI p.count),(cI p.sum)]))]) 2 rfl ⟨⟨_,rfl,.inl ⟨rfl,rfl⟩⟩,⟨_,rfl,.inl ⟨rfl,rfl⟩⟩,⟨_,rfl,.inl ⟨rfl,rfl⟩⟩,⟨_,rfl,.inl ⟨rfl,rfl⟩⟩,⟨_,rfl,.inl ⟨rfl,rfl⟩⟩,⟨_,rfl,.inl ⟨rfl,rfl⟩⟩,⟨_,rfl,.inl ⟨rfl,rfl⟩⟩,⟨_,rfl,.inl ⟨rfl,rfl⟩⟩,⟨_,rfl,.inl ⟨rfl,rfl⟩⟩,⟨_,rfl,.inl ⟨rfl,rfl⟩⟩,⟨_,rfl,.inl ⟨rfl,rfl⟩⟩,⟨_,rfl,.inl ⟨rfl,rfl⟩⟩,⟨_,rfl,.inl ⟨rfl,rfl⟩⟩,⟨_,rfl,.inl ⟨rfl,rfl⟩⟩,⟨_,rfl,.inr ⟨_,_,rfl,rfl,.s rfl (by decide) (by first|omega|(simp;done)|(simp;omega))⟩⟩,trivial⟩ ⟨rfl,rfl,trivial⟩ rfl ?_
 refine aQ 4 [3,1,0] (dW (ys:=[(0,(.c (eC l))),(1,(.c (eC ([x]))))]) (rows:=([l,[x]]).map tI) 3 ER rfl (by decide) ⟨⟨rfl,rfl⟩,⟨rfl,rfl⟩,trivial⟩ rfl rfl rfl rfl) rfl ?_
 refine aA (du rfl rfl rfl rfl rfl Try.underlying181) rfl ?_
 refine ad aa 1 rfl ?_
 refine af ?_
 refine aU ?_
 refine cj (β:=Nat) (fun (q:Nat)=>⟨[(1,(aC (eC l))),(3,(aC (.p 0 0 0 0))),(5,(aC (.p 1 0 0 0))),(25,(aC (.s 3 0 1 2))),(26,(aI 2)),(27,(aI (↑q:Int)))],[(3,(.arr 59 1 (([l,[x]]).map tI))),(1,(.box 125 [(cI x.time),(cI x.sum)])),(0,(.box 58 [(cI p.cD),(cI p.count),(cI p.sum)]))],4⟩) (fun (q:Nat)=>q<=2/\(0 < q->(fy l).err=0)/\(1 < q->(fy [x]).err=0)) (fun (q:Nat)=>2 - q) 0 ?_ ?_ ?_
 ·exact ⟨by omega,by omega,by omega⟩
 ·exact aH.bS id (by refine ⟨?_,?_,?_,?_,?_,?_,trivial⟩<;>first|rfl|(simp only [bh];done)|(congr 3;omega)|(congr 4;omega)|(simp only [bj];rfl)) (by refine ⟨?_,?_,?_,trivial⟩<;>first|rfl|(simp only [bh];done)|(congr 3;omega)|(congr 4;omega)|(simp only [bj];rfl)) rfl
 rintro q ⟨hi0_0,hi0_1,hi0_2⟩
 refine ae aa 1 rfl ?_
 refine ag ?_
 refine aj rfl (fun hc2=>?_) (fun hc2=>?_)
 ·
  have hc2':=of_decide_eq_true hc2
  refine aP ?_
  refine ag ?_
  refine aU ?_
  refine fa ?_
  refine aA (bw (i:=q) rfl rfl rfl Try.underlying181 FU (by first|omega|(simp;done)|(simp;omega)) (by first|omega|(simp;done)|(simp;omega))) rfl ?_
  obtain ⟨x1,hx1⟩:=cb (xs:=([l,[x]]:List (List dc))) (i:=q) (by first|omega|(simp;done)|(simp;omega))
  have hx1v:=DA hx1
  refine aA (eH rfl rfl rfl Try.underlying59 rfl (bf hx1) rfl) rfl ?_
  refine ad aa 1 rfl ?_
  refine af ?_
  refine aF aa 1 rfl ?_
  obtain ⟨f1,hr1⟩:∃ (f1:cY),fy x1=f1:=⟨_,rfl⟩
  refine aQ 4 [3,1,0] (bX 4 (ov x1 f1 hr1) Eh rfl rfl ⟨⟨_,rfl,.c (.d _)⟩,trivial⟩ ⟨trivial,trivial,trivial⟩ trivial rfl rfl rfl rfl) rfl ?_
  refine ad aa 2 rfl ?_
  refine af ?_
  refine ae aa 3 rfl ?_
  refine aj rfl (fun hc3=>?_) (fun hc3=>?_)
  ·
   have hc3':=of_decide_eq_true hc3
   refine ag ?_
   refine aW [1,3,5,25,26,27,11] [4,3,1,0] mixed rfl rfl ?_
   refine au (kn:=[]) aa 4 rfl trivial ?_
   refine br [4,3,1,0] rfl rfl rfl rfl (by kernel_rfl) ?_
   refine af ?_
   refine ay ?_
   refine bo ?_
   refine ar ?_
   refine ar ?_
   refine bo ?_
   refine ar ?_
   refine da (aH.nil 6 125 2 (by decide) rfl) ?_
   have hX:eA p l x=(([]:List dc),f1.err):=by
     unfold eA;rcases hx1v with ⟨hq,hx⟩|⟨hq,hx⟩<;>subst hx
     ·rw [if_neg (by omega),if_pos (by rw [hr1];omega),hr1]
     ·rw [if_neg (by omega),if_neg (by have:=hi0_1 (by omega);omega),if_pos (by rw [hr1];omega),hr1]
   rw [hX] at hr;clear hX
   simp only [Prod.mk.injEq] at hr;obtain ⟨rfl,rfl⟩:=hr
   refine an aa [5] 1 rfl rfl rfl rfl rfl rfl ?_ ?_
   all_goals first|rfl|(simp [az];done)|(simp [az];omega)
  have hc3':=of_decide_eq_false hc3
  refine cG ?_
  refine bl ?_
  refine then_ok ?_
  refine aw ?_
  refine aA (aK rfl rfl rfl (aL (by first|omega|(simp;done)|(simp;omega)))) rfl ?_
  refine ad aa 1 rfl ?_
  refine af ?_
  refine ⟨q+1,⟨by omega,(fun h=>by rcases hx1v with ⟨hq,hx⟩|⟨hq,hx⟩<;>first|(exact hi0_1 (by omega))|(subst hx;rw [hr1];omega)),(fun h=>by rcases hx1v with ⟨hq,hx⟩|⟨hq,hx⟩<;>first|(exfalso;omega)|(subst hx;rw [hr1];omega))⟩,by first|omega|(simp;done)|(simp;omega),aH.bS id (by refine ⟨?_,?_,?_,?_,?_,?_,trivial⟩<;>first|rfl|(simp only [bh];done)|(congr 3;omega)|(congr 4;omega)|(simp only [bj];rfl)) (by refine ⟨?_,?_,?_,trivial⟩<;>first|rfl|(simp only [bh];done)|(congr 3;omega)|(congr 4;omega)|(simp only [bj];rfl)) rfl⟩
 have hc2':=of_decide_eq_false hc2
 refine bZ ?_
 refine aO ?_
 refine aO ?_
 refine bF ?_
 refine then_ok ?_
 refine ag ?_
 refine aF aa 1 rfl ?_
 refine aA (bQ rfl rfl rfl rfl rfl Try.underlying59) rfl ?_
 refine aA (aK rfl rfl rfl (aL (by first|omega|(simp;done)|(simp;omega)))) rfl ?_
 refine ad aa 1 rfl ?_
 refine af ?_
 refine ag ?_
 rcases Bool.eq_false_or_eq_true (decide (((↑l.length:Int) - 1)>=0)) with hb4|hb4
 ·
  have hb4':=of_decide_eq_true hb4
  obtain ⟨x1,hx1⟩:=cb (xs:=l) (i:=(l.length) - 1) (by first|omega|(simp;done)|(simp;omega))
  refine aW [1,3,5,25,26,27,12] [3,1,0] mixed rfl rfl ?_
  refine au (kn:=[(43,true)]) aa 5 rfl ⟨hb4,trivial⟩ ?_
  refine aM (n':=4) [45,46,44] [] rfl rfl (.inl ⟨(ah.yes rfl rfl rfl),aE.cast (ca (i:=(l.length) - 1) rfl rfl rfl Try.underlying59 gO (by first|omega|(simp;done)|(simp;omega)) (bf hx1)) rfl⟩) rfl ?_
  refine au (kn:=[]) aa 6 rfl trivial ?_
  refine br [3,1,0] rfl rfl rfl rfl (by kernel_rfl) ?_
  refine af ?_
  refine aj rfl (fun hc5=>?_) (fun hc5=>?_)
  ·
   have hc5':=of_decide_eq_true hc5
   refine ae aa 2 rfl ?_
   refine ay ?_
   refine ar ?_
   refine da (aH.nil 6 125 2 (by decide) rfl) ?_
   have hX:eA p l x=(([]:List dc),2):=by
     unfold eA;rw [if_neg (by omega),if_neg (by have:=hi0_1 (by omega);omega),if_neg (by have:=hi0_2 (by omega);omega),if_pos (by rw [mu hx1,decide_eq_true_eq];omega)]
   rw [hX] at hr;clear hX
   simp only [Prod.mk.injEq] at hr;obtain ⟨rfl,rfl⟩:=hr
   refine an aa [4] 1 rfl rfl rfl rfl rfl rfl ?_ ?_
   all_goals first|rfl|(simp [az];done)|(simp [az];omega)
  have hc5':=of_decide_eq_false hc5
  refine aP ?_
  refine aF aa 4 rfl ?_
  obtain ⟨r2,hr2⟩:∃ (r2:List dc),dG p l x.time=r2:=⟨_,rfl⟩
  refine aQ 5 [4,3,1,0] (bX 4 (nB p l x.time (by first|assumption|omega|(have q1:=nN (hr2.trans (by omega));have q2:=uses1 (x:=x) (by simp_all);omega)) (by first|assumption|omega) r2 hr2) Ca rfl rfl ⟨⟨_,rfl,.g ⟨.d _,.d _,.d _,trivial⟩⟩,⟨_,rfl,.c (.d _)⟩,⟨_,rfl,.c (.d _)⟩,trivial⟩ trivial ⟨(fun _ _ _ _=>trivial),trivial⟩ rfl rfl rfl rfl) rfl ?_
  refine ad aa 1 rfl ?_
  refine af ?_
  refine ae aa 3 rfl ?_
  refine ag ?_
  refine aF aa 1 rfl ?_
  refine aA (du rfl rfl rfl rfl rfl Try.underlying59) rfl ?_
  refine ad aa 1 rfl ?_
  refine af ?_
  refine aU ?_
  refine cj (β:=Nat) (fun (k:Nat)=>⟨[(1,(aC (eC l))),(3,(aC (.p 0 0 0 0))),(5,(aC (.p 1 0 0 0))),(25,(aC (.s 3 0 1 2))),(26,(aI 2)),(27,(aI (↑q:Int))),(13,(aC (.s 4 0 2 r2.length))),(14,(aI (x.sum+gR ((r2).take k)))),(61,(aC (.s 4 0 2 r2.length))),(62,(aI (↑r2.length:Int))),(63,(aI (↑k:Int)))],[(4,(oB r2)),(3,(.arr 59 1 (([l,[x]]).map tI))),(1,(.box 125 [(cI x.time),(cI x.sum)])),(0,(.box 58 [(cI p.cD),(cI p.count),(cI p.sum)]))],5⟩) (fun (k:Nat)=>k<=(r2).length) (fun (k:Nat)=>(r2).length - k) 0 ?_ ?_ ?_
  ·exact (by omega)
  ·exact aH.bS id (by refine ⟨?_,?_,?_,?_,?_,?_,?_,?_,?_,?_,?_,trivial⟩<;>first|rfl|(simp only [bh];done)|(congr 3;omega)|(congr 4;omega)|(simp only [bj];rfl)|((rw [List.take_zero,gR,Int.add_zero];rfl))) (by refine ⟨?_,?_,?_,?_,trivial⟩<;>first|rfl|(simp only [bh];done)|(congr 3;omega)|(congr 4;omega)|(simp only [bj];rfl)) rfl
  rintro k hi1_0
  have hsb:=pc (p:=p) (l:=l) (t:=x.time) (k:=k) (hi0_1 (by omega))
  rw [hr2] at hsb
  have hrl:(r2).length<=30:=by rw [<-hr2];exact Nat.le_trans (nX _ _) (hru (hi0_1 (by omega)))
  refine ae aa 1 rfl ?_
  refine ag ?_
  refine aj rfl (fun hc6=>?_) (fun hc6=>?_)
  ·
   have hc6':=of_decide_eq_true hc6
   refine aP ?_
   refine ag ?_
   refine aU ?_
   refine fa ?_
   refine aA (bw (i:=k) rfl rfl rfl Try.underlying59 gO (by first|omega|(simp;done)|(simp;omega)) (by first|omega|(simp;done)|(simp;omega))) rfl ?_
   obtain ⟨x2,hx2⟩:=cb (xs:=r2) (i:=k) (by first|omega|(simp;done)|(simp;omega))
   have hx2v:=(jy (hi0_1 (by omega))).2 x2 (jW (hr2.symm▸List.mem_of_getElem? hx2:x2∈dG p l x.time))
   refine aA (di rfl rfl rfl Try.underlying125 rfl gO (bf hx2) rfl) rfl ?_
   refine ad aa 2 rfl ?_
   refine af ?_
   refine aw ?_
   refine ad aa 3 rfl ?_
   refine aA (aK rfl rfl rfl (aL (by first|omega|(simp;done)|(simp;omega)))) rfl ?_
   refine ad aa 1 rfl ?_
   refine cf ?_
   refine bl ?_
   refine then_ok ?_
   refine aw ?_
   refine aA (aK rfl rfl rfl (aL (by first|omega|(simp;done)|(simp;omega)))) rfl ?_
   refine ad aa 1 rfl ?_
   refine af ?_
   refine ⟨k+1,by first|omega|trivial,by first|omega|(simp;done)|(simp;omega),aH.bS id (by refine ⟨?_,?_,?_,?_,?_,?_,?_,?_,?_,?_,?_,trivial⟩<;>first|rfl|(simp only [bh];done)|(congr 3;omega)|(congr 4;omega)|(simp only [bj];rfl)|(first|(rw [hO hx2,ku,<-Int.add_assoc];rfl)|(rw [hO hx1,ku,<-Int.add_assoc];rfl))) (by refine ⟨?_,?_,?_,?_,trivial⟩<;>first|rfl|(simp only [bh];done)|(congr 3;omega)|(congr 4;omega)|(simp only [bj];rfl)) rfl⟩
  have hc6':=of_decide_eq_false hc6
  refine bZ ?_
  refine aO ?_
  refine aO ?_
  refine bF ?_
  refine then_ok ?_
  refine ag ?_
  refine ck 82 ((decide ((↑r2.length:Int)>=p.count))||(decide ((x.sum+gR ((r2).take k)) > p.sum))) ?_ ?_
  ·
   refine aw ?_
   refine ad aa 1 rfl ?_
   refine aA (du rfl rfl rfl rfl rfl Try.underlying59) rfl ?_
   refine ad aa 4 rfl ?_
   refine bE (t:=77) rfl (fun hb7=>?_) (fun hb7=>?_)
   ·
    have hb7':=of_decide_eq_true hb7
    refine ad aa 5 rfl ?_
    refine af ?_
    exact aH.bA 12 rfl rfl (by first|(simp [hb7];done)|(simp_all;done)|(exfalso;simp_all;done)|(simp_all;omega)) rfl
   have hb7':=of_decide_eq_false hb7
   refine ad aa 5 rfl ?_
   refine af ?_
   exact aH.bA 12 rfl rfl (by first|(simp [hb7];done)|(simp_all;done)|(exfalso;simp_all;done)|(simp_all;omega)) rfl
  refine aj rfl (fun hc8=>?_) (fun hc8=>?_)
  ·
   have hc8':=hc8;try simp only [bu,bR] at hc8'
   refine ae aa 2 rfl ?_
   refine ay ?_
   refine ar ?_
   refine da (aH.nil 6 125 2 (by decide) rfl) ?_
   have hX:eA p l x=(([]:List dc),11):=by
     have hlate:gK l x.time=false:=by first|(rw [mu hx1];simp;omega)|(have:l=[]:=List.eq_nil_of_length_eq_zero (by omega);subst this;rfl)
     have hk:(r2).take k=r2:=List.take_of_length_le (by omega)
     rw [hk] at hc8'
     unfold eA;rw [if_neg (by omega),if_neg (by have:=hi0_1 (by omega);omega),if_neg (by have:=hi0_2 (by omega);omega),if_neg (by rw [hlate];simp),hr2,if_pos (by omega)]
   rw [hX] at hr;clear hX
   simp only [Prod.mk.injEq] at hr;obtain ⟨rfl,rfl⟩:=hr
   refine an aa [5] 1 rfl rfl rfl rfl rfl rfl ?_ ?_
   all_goals first|rfl|(simp [az];done)|(simp [az];omega)
  have hc8':=hc8;try simp only [bu,bR] at hc8'
  refine aP ?_
  refine aF aa 2 rfl ?_
  refine aQ 6 [5,4,3,1,0] (dW (ys:=[(0,(.g [(cI x.time),(cI x.sum)]))]) (rows:=([x]).map gT) 5 nJ rfl (by decide) ⟨⟨rfl,rfl⟩,trivial⟩ rfl rfl rfl rfl) rfl ?_
  refine aQ 7 [6,5,3,1,0] (dx (m:=1) (N:=r2.length+1) (k2:=6) (ys:=([x]).map gT) nJ rfl rfl rfl rfl rfl rfl (by first|omega|(simp;done)|(simp;omega)) rfl (.s rfl (by first|omega|(simp;done)|(simp;omega))) (by first|omega|(simp;done)|(simp;omega)) (by first|omega|(simp;done)|(simp;omega)) fA (by decide) (by first|omega|(simp;done)|(simp;omega)) (by first|omega|(simp;done)|(simp;omega))) rfl ?_
  refine ad aa 2 rfl ?_
  refine af ?_
  refine ay ?_
  have hX:eA p l x=(r2++([x]),0):=by
    have hlate:gK l x.time=false:=by first|(rw [mu hx1];simp;omega)|(have:l=[]:=List.eq_nil_of_length_eq_zero (by omega);subst this;rfl)
    have hk:(r2).take k=r2:=List.take_of_length_le (by omega)
    rw [hk] at hc8'
    unfold eA;rw [if_neg (by omega),if_neg (by have:=hi0_1 (by omega);omega),if_neg (by have:=hi0_2 (by omega);omega),if_neg (by rw [hlate];simp),hr2,if_neg (by omega)]
  rw [hX] at hr;clear hX
  simp only [Prod.mk.injEq] at hr;obtain ⟨rfl,rfl⟩:=hr
  refine an aa [6] 1 rfl rfl rfl rfl rfl rfl ?_ ?_
  all_goals first|rfl|(simp [az];done)|(simp [az];omega)
 have hb4':=of_decide_eq_false hb4
 refine aW [1,3,5,25,26,27,12] [3,1,0] mixed rfl rfl ?_
 refine au (kn:=[(43,false)]) aa 12 rfl ⟨hb4,trivial⟩ ?_
 refine br [3,1,0] rfl rfl rfl rfl (by kernel_rfl) ?_
 refine af ?_
 refine aj rfl (fun hno=>by cases hno) (fun _=>?_)
 refine aP ?_
 refine aF aa 4 rfl ?_
 obtain ⟨r3,hr3⟩:∃ (r3:List dc),dG p l x.time=r3:=⟨_,rfl⟩
 refine aQ 5 [4,3,1,0] (bX 4 (nB p l x.time (by first|assumption|omega|(have q1:=nN (hr2.trans (by omega));have q2:=uses1 (x:=x) (by simp_all);omega)) (by first|assumption|omega) r3 hr3) Ca rfl rfl ⟨⟨_,rfl,.g ⟨.d _,.d _,.d _,trivial⟩⟩,⟨_,rfl,.c (.d _)⟩,⟨_,rfl,.c (.d _)⟩,trivial⟩ trivial ⟨(fun _ _ _ _=>trivial),trivial⟩ rfl rfl rfl rfl) rfl ?_
 refine ad aa 1 rfl ?_
 refine af ?_
 refine ae aa 3 rfl ?_
 refine ag ?_
 refine aF aa 1 rfl ?_
 refine aA (du rfl rfl rfl rfl rfl Try.underlying59) rfl ?_
 refine ad aa 1 rfl ?_
 refine af ?_
 refine aU ?_
 refine cj (β:=Nat) (fun (k:Nat)=>⟨[(1,(aC (eC l))),(3,(aC (.p 0 0 0 0))),(5,(aC (.p 1 0 0 0))),(25,(aC (.s 3 0 1 2))),(26,(aI 2)),(27,(aI (↑q:Int))),(13,(aC (.s 4 0 2 r3.length))),(14,(aI (x.sum+gR ((r3).take k)))),(61,(aC (.s 4 0 2 r3.length))),(62,(aI (↑r3.length:Int))),(63,(aI (↑k:Int)))],[(4,(oB r3)),(3,(.arr 59 1 (([l,[x]]).map tI))),(1,(.box 125 [(cI x.time),(cI x.sum)])),(0,(.box 58 [(cI p.cD),(cI p.count),(cI p.sum)]))],5⟩) (fun (k:Nat)=>k<=(r3).length) (fun (k:Nat)=>(r3).length - k) 0 ?_ ?_ ?_
 ·exact (by omega)
 ·exact aH.bS id (by refine ⟨?_,?_,?_,?_,?_,?_,?_,?_,?_,?_,?_,trivial⟩<;>first|rfl|(simp only [bh];done)|(congr 3;omega)|(congr 4;omega)|(simp only [bj];rfl)|((rw [List.take_zero,gR,Int.add_zero];rfl))) (by refine ⟨?_,?_,?_,?_,trivial⟩<;>first|rfl|(simp only [bh];done)|(congr 3;omega)|(congr 4;omega)|(simp only [bj];rfl)) rfl
 rintro k hi1_0
 have hsb:=pc (p:=p) (l:=l) (t:=x.time) (k:=k) (hi0_1 (by omega))
 rw [hr3] at hsb
 have hrl:(r3).length<=30:=by rw [<-hr3];exact Nat.le_trans (nX _ _) (hru (hi0_1 (by omega)))
 refine ae aa 1 rfl ?_
 refine ag ?_
 refine aj rfl (fun hc10=>?_) (fun hc10=>?_)
 ·
  have hc10':=of_decide_eq_true hc10
  refine aP ?_
  refine ag ?_
  refine aU ?_
  refine fa ?_
  refine aA (bw (i:=k) rfl rfl rfl Try.underlying59 gO (by first|omega|(simp;done)|(simp;omega)) (by first|omega|(simp;done)|(simp;omega))) rfl ?_
  obtain ⟨x1,hx1⟩:=cb (xs:=r3) (i:=k) (by first|omega|(simp;done)|(simp;omega))
  have hx1v:=(jy (hi0_1 (by omega))).2 x1 (jW (hr3.symm▸List.mem_of_getElem? hx1:x1∈dG p l x.time))
  refine aA (di rfl rfl rfl Try.underlying125 rfl gO (bf hx1) rfl) rfl ?_
  refine ad aa 2 rfl ?_
  refine af ?_
  refine aw ?_
  refine ad aa 3 rfl ?_
  refine aA (aK rfl rfl rfl (aL (by first|omega|(simp;done)|(simp;omega)))) rfl ?_
  refine ad aa 1 rfl ?_
  refine cf ?_
  refine bl ?_
  refine then_ok ?_
  refine aw ?_
  refine aA (aK rfl rfl rfl (aL (by first|omega|(simp;done)|(simp;omega)))) rfl ?_
  refine ad aa 1 rfl ?_
  refine af ?_
  refine ⟨k+1,by first|omega|trivial,by first|omega|(simp;done)|(simp;omega),aH.bS id (by refine ⟨?_,?_,?_,?_,?_,?_,?_,?_,?_,?_,?_,trivial⟩<;>first|rfl|(simp only [bh];done)|(congr 3;omega)|(congr 4;omega)|(simp only [bj];rfl)|(first|(rw [hO hx2,ku,<-Int.add_assoc];rfl)|(rw [hO hx1,ku,<-Int.add_assoc];rfl))) (by refine ⟨?_,?_,?_,?_,trivial⟩<;>first|rfl|(simp only [bh];done)|(congr 3;omega)|(congr 4;omega)|(simp only [bj];rfl)) rfl⟩
 have hc10':=of_decide_eq_false hc10
 refine bZ ?_
 refine aO ?_
 refine aO ?_
 refine bF ?_
 refine then_ok ?_
 refine ag ?_
 refine ck 82 ((decide ((↑r3.length:Int)>=p.count))||(decide ((x.sum+gR ((r3).take k)) > p.sum))) ?_ ?_
 ·
  refine aw ?_
  refine ad aa 1 rfl ?_
  refine aA (du rfl rfl rfl rfl rfl Try.underlying59) rfl ?_
  refine ad aa 4 rfl ?_
  refine bE (t:=77) rfl (fun hb11=>?_) (fun hb11=>?_)
  ·
   have hb11':=of_decide_eq_true hb11
   refine ad aa 5 rfl ?_
   refine af ?_
   exact aH.bA 12 rfl rfl (by first|(simp [hb11];done)|(simp_all;done)|(exfalso;simp_all;done)|(simp_all;omega)) rfl
  have hb11':=of_decide_eq_false hb11
  refine ad aa 5 rfl ?_
  refine af ?_
  exact aH.bA 12 rfl rfl (by first|(simp [hb11];done)|(simp_all;done)|(exfalso;simp_all;done)|(simp_all;omega)) rfl
 refine aj rfl (fun hc12=>?_) (fun hc12=>?_)
 ·
  have hc12':=hc12;try simp only [bu,bR] at hc12'
  refine ae aa 2 rfl ?_
  refine ay ?_
  refine ar ?_
  refine da (aH.nil 6 125 2 (by decide) rfl) ?_
  have hX:eA p l x=(([]:List dc),11):=by
    have hlate:gK l x.time=false:=by first|(rw [mu hx1];simp;omega)|(have:l=[]:=List.eq_nil_of_length_eq_zero (by omega);subst this;rfl)
    have hk:(r3).take k=r3:=List.take_of_length_le (by omega)
    rw [hk] at hc12'
    unfold eA;rw [if_neg (by omega),if_neg (by have:=hi0_1 (by omega);omega),if_neg (by have:=hi0_2 (by omega);omega),if_neg (by rw [hlate];simp),hr3,if_pos (by omega)]
  rw [hX] at hr;clear hX
  simp only [Prod.mk.injEq] at hr;obtain ⟨rfl,rfl⟩:=hr
  refine an aa [5] 1 rfl rfl rfl rfl rfl rfl ?_ ?_
  all_goals first|rfl|(simp [az];done)|(simp [az];omega)
 have hc12':=hc12;try simp only [bu,bR] at hc12'
 refine aP ?_
 refine aF aa 2 rfl ?_
 refine aQ 6 [5,4,3,1,0] (dW (ys:=[(0,(.g [(cI x.time),(cI x.sum)]))]) (rows:=([x]).map gT) 5 nJ rfl (by decide) ⟨⟨rfl,rfl⟩,trivial⟩ rfl rfl rfl rfl) rfl ?_
 refine aQ 7 [6,5,3,1,0] (dx (m:=1) (N:=r3.length+1) (k2:=6) (ys:=([x]).map gT) nJ rfl rfl rfl rfl rfl rfl (by first|omega|(simp;done)|(simp;omega)) rfl (.s rfl (by first|omega|(simp;done)|(simp;omega))) (by first|omega|(simp;done)|(simp;omega)) (by first|omega|(simp;done)|(simp;omega)) fA (by decide) (by first|omega|(simp;done)|(simp;omega)) (by first|omega|(simp;done)|(simp;omega))) rfl ?_
 refine ad aa 2 rfl ?_
 refine af ?_
 refine ay ?_
 have hX:eA p l x=(r3++([x]),0):=by
   have hlate:gK l x.time=false:=by first|(rw [mu hx1];simp;omega)|(have:l=[]:=List.eq_nil_of_length_eq_zero (by omega);subst this;rfl)
   have hk:(r3).take k=r3:=List.take_of_length_le (by omega)
   rw [hk] at hc12'
   unfold eA;rw [if_neg (by omega),if_neg (by have:=hi0_1 (by omega);omega),if_neg (by have:=hi0_2 (by omega);omega),if_neg (by rw [hlate];simp),hr3,if_neg (by omega)]
 rw [hX] at hr;clear hX
 simp only [Prod.mk.injEq] at hr;obtain ⟨rfl,rfl⟩:=hr
 refine an aa [6] 1 rfl rfl rfl rfl rfl rfl ?_ ?_
 all_goals first|rfl|(simp [az];done)|(simp [az];omega)
end Go.Proofs.Ytegepioggeggaaa.Dev
