/- A part of the proof: PlSort2, PlSort3, PlDay, PlDay2, PlBank, OpsB, Bank0, Pace1, Pace2, Del1, Pace3. No condition. -/
import Derived.Test.YtegepioggeggaaaD06
set_option linter.unusedVariables false
set_option linter.unusedSimpArgs false
set_option maxHeartbeats 1000000
set_option maxRecDepth 100000
namespace Go.Proofs.Ytegepioggeggaaa.Dev
open Go.RowKit
open Go.ChangeShapes Go.WideShapes Go.Deep Go.Joins
theorem ue {a i:Nat} {d:List ah} (h:a+1<=i):js a (i+1 - (a+1)) d=jF a i (js a (i - (a+1)) d):=by
 rw [show i+1 - (a+1)=(i - (a+1))+1 by omega]
 conv=>lhs;unfold js
 rw [show a+1+(i - (a+1))=i by omega]
theorem Ck {a k:Nat} {d:List ah} (h:a<=k):nV a (k+1 - a) d=iv (nV a (k - a) d) k (k+1):=by
 rw [show k+1 - a=(k - a)+1 by omega]
 conv=>lhs;unfold nV
 rw [show a+(k - a)=k by omega]
theorem Cl {m k:Nat} {d:List ah} (h:k<=m) (h0:0 < k):nW m (m - (k - 1)) d=iv (nW m (m - k) d) k (k - 1):=by
 rw [show m - (k - 1)=(m - k)+1 by omega]
 conv=>lhs;unfold nW
 rw [show m - (m - k)=k by omega]
theorem my {P X:List ah} {k n:Nat} (hn:n=P.length+k):(P++X)[n]?=X[k]?:=by
 subst hn;rw [List.getElem?_append_right (by omega),Nat.add_sub_cancel_left]
theorem le_last {B:List ah} {x:ah} (h:eU B) (hl:∀ A0 y,B=A0++[y]->gQ y x=true):∀ z∈B,gQ z x=true:=by
 rcases jJ B with rfl|⟨A',y,h'⟩
 ·simp
 ·intro z hz
  have h1:=hl A' y h'
  rw [h'] at h hz
  rcases List.mem_append.1 hz with hz|hz
  ·exact Ax ((gY.1 h).2.2 z hz y (List.mem_singleton.2 rfl)) h1
  ·rw [List.mem_singleton.1 hz];exact h1
theorem CG {B:List ah} {x:ah} (h:eU B) (hl:∀ y B0,B=y::B0->gQ x y=true):∀ z∈B,gQ x z=true:=by
 cases B with
 |nil=>simp
 |cons y B0=>
  intro z hz
  have h1:=hl y B0 rfl
  rcases List.mem_cons.1 hz with rfl|hz
  ·exact h1
  ·exact vM h1 ((List.pairwise_cons.1 h).1 z hz)
theorem CH {B:List ah} {x:ah} (h:eU B) (hl:∀ y B0,B=y::B0->fF x y):∀ z∈B,fF x z:=by
 cases B with
 |nil=>simp
 |cons y B0=>
  intro z hz
  have h1:=hl y B0 rfl
  rcases List.mem_cons.1 hz with rfl|hz
  ·exact h1
  ·exact jO h1 ((List.pairwise_cons.1 h).1 z hz)
theorem vn {A:List ah} {y:ah} {A0:List ah} (h:A=A0++[y]):A[A.length - 1]?=some y:=by subst h;simp
theorem nk (l:List ah) (k:Nat) (h:k<=l.length):∃ u v,l=u++v/\u.length=k:=⟨l.take k,l.drop k,(List.take_append_drop k l).symm,by rw [List.length_take];omega⟩
theorem uo {U:List ah} {u:ah} (h:eU U) (hu:U[0]?=some u):∀ x∈U,fF u x:=by
 cases U with
 |nil=>simp
 |cons y U=>
  simp at hu;subst hu
  intro x hx
  rcases List.mem_cons.1 hx with rfl|hx
  ·exact nA _
  ·exact (List.pairwise_cons.1 h).1 x hx
theorem vP {V:List ah} {v:ah} (h:eU V) (hv:V[V.length - 1]?=some v):∀ y∈V,fF y v:=by
 rcases jJ V with rfl|⟨A,z,rfl⟩
 ·simp
 ·simp at hv;subst hv
  exact vk h (nA _)
theorem get_some {V:List ah} {k:Nat} (h:k < V.length):∃ v,V[k]?=some v:=⟨V[k],List.getElem?_eq_getElem h⟩
theorem qL:∀ (f:Nat) (P A B R:List ah),A.length+B.length<=f->0 < A.length->0 < B.length->eU A->eU B->
  ∃ C,dH f P.length (P.length+A.length) (P.length+A.length+B.length) (P++(A++(B++R)))=P++(C++R)/\eU C/\Same (A++B) C
 |0,P,A,B,R,hf,ha,hb,_,_=>by omega
 |f+1,P,A,B,R,hf,ha,hb,sA,sB=>by
  obtain ⟨a,hea⟩:∃ a,a=P.length:=⟨_,rfl⟩
  obtain ⟨m,hem⟩:∃ m,m=P.length+A.length:=⟨_,rfl⟩
  obtain ⟨b,heb⟩:∃ b,b=P.length+A.length+B.length:=⟨_,rfl⟩
  rw [<-hea,show a+A.length=m by omega,show m+B.length=b by omega]
  unfold dH
  split
  ·
   rename_i h1
   obtain ⟨x,rfl⟩:∃ x,A=[x]:=by
    match A,ha,(by omega:A.length=1) with
    |[x],_,_=>exact ⟨x,rfl⟩
   have hl1:[x].length=1:=rfl
   obtain ⟨q1,q2,q3,q4⟩:=kL (fun h=>dC (P++([x]++(B++R))) h a) (b - m) m b (Nat.le_refl _) (by omega)
   generalize fY (fun h=>dC (P++([x]++(B++R))) h a) m b=i at q1 q2 q3 q4
   obtain ⟨B1,B2,rfl,hB1⟩:=nk B (i - m) (by omega)
   rw [List.length_append] at heb
   have gx:(P++([x]++(B1++B2++R)))[a]?=some x:=by rw [my (k:=0) (by omega)];rfl
   have gB:∀ k,k < B1.length+B2.length->(P++([x]++(B1++B2++R)))[m+k]?=(B1++B2)[k]?:=fun k hk=>by
    rw [my (k:=k+1) (by omega),List.cons_append,List.getElem?_cons_succ,List.nil_append,List.getElem?_append_left (by simp;omega)]
   obtain ⟨s1,s2,s3⟩:=gY.1 sB
   have w1:∀ z∈B1,gQ z x=true:=le_last s1 fun A0 y hy=>by
    have hpos:0 < B1.length:=by rw [hy];simp
    rcases q3 with q3|q3
    ·omega
    ·have g1:=gB (B1.length - 1) (by omega)
     rw [List.getElem?_append_left (l₁:=B1) (by omega),vn hy,show m+(B1.length - 1)=i - 1 by omega] at g1
     have q3:dC (P++([x]++(B1++B2++R))) (i - 1) a=true:=q3
     rwa [gi g1 gx] at q3
   have w2:∀ z∈B2,fF x z:=CH s2 fun y B0 hy=>by
    have hpos:0 < B2.length:=by rw [hy];simp
    rcases q4 with q4|q4
    ·omega
    ·have g1:=gB B1.length (by omega)
     have g2:B2[0]?=some y:=by rw [hy];rfl
     rw [List.getElem?_append_right (l₁:=B1) (Nat.le_refl _),Nat.sub_self,g2,show m+B1.length=i by omega] at g1
     have q4:dC (P++([x]++(B1++B2++R))) i a=false:=q4
     rw [gi g1 gx] at q4
     exact pI.1 q4
   obtain ⟨t1,t2⟩:=Ej sB w1 w2
   refine ⟨B1++x::B2,?_,t1,t2⟩
   have h2:=xX P x B1.length B1 (B2++R) rfl
   rw [show i - 1 - a=B1.length by omega,hea,show P++([x]++(B1++B2++R))=P++x::(B1++(B2++R)) by simp,h2]
   simp
  ·split
   ·
    rename_i h0 h1
    obtain ⟨x,rfl⟩:∃ x,B=[x]:=by
     match B,hb,(by omega:B.length=1) with
     |[x],_,_=>exact ⟨x,rfl⟩
    have hl1:[x].length=1:=rfl
    obtain ⟨q1,q2,q3,q4⟩:=kL (fun h=>!dC (P++(A++([x]++R))) m h) (m - a) a m (Nat.le_refl _) (by omega)
    generalize fY (fun h=>!dC (P++(A++([x]++R))) m h) a m=i at q1 q2 q3 q4
    obtain ⟨A1,A2,rfl,hA1⟩:=nk A (i - a) (by omega)
    rw [List.length_append] at hem heb
    have gx:(P++(A1++A2++([x]++R)))[m]?=some x:=by rw [my (k:=A1.length+A2.length) (by omega),my (k:=0) (by simp)];rfl
    have gA:∀ k,k < A1.length+A2.length->(P++(A1++A2++([x]++R)))[a+k]?=(A1++A2)[k]?:=fun k hk=>by
     rw [my (k:=k) (by omega),List.getElem?_append_left (by simp;omega)]
    obtain ⟨s1,s2,s3⟩:=gY.1 sA
    have w1:∀ z∈A1,fF z x:=Ay s1 fun A0 y hy=>by
     have hpos:0 < A1.length:=by rw [hy];simp
     rcases q3 with q3|q3
     ·omega
     ·have g1:=gA (A1.length - 1) (by omega)
      rw [List.getElem?_append_left (l₁:=A1) (by omega),vn hy,show a+(A1.length - 1)=i - 1 by omega] at g1
      have q3:(!dC (P++(A1++A2++([x]++R))) m (i - 1))=true:=q3
      rw [gi gx g1,Bool.not_eq_true'] at q3
      exact pI.1 q3
    have w2:∀ z∈A2,gQ x z=true:=CG s2 fun y B0 hy=>by
     have hpos:0 < A2.length:=by rw [hy];simp
     rcases q4 with q4|q4
     ·omega
     ·have g1:=gA A1.length (by omega)
      have g2:A2[0]?=some y:=by rw [hy];rfl
      rw [List.getElem?_append_right (l₁:=A1) (Nat.le_refl _),Nat.sub_self,g2,show a+A1.length=i by omega] at g1
      have q4:(!dC (P++(A1++A2++([x]++R))) m i)=false:=q4
      rw [gi gx g1,Bool.not_eq_false'] at q4
      exact q4
    obtain ⟨t1,t2⟩:=At sA w1 w2
    refine ⟨A1++x::A2,?_,t1,t2⟩
    have h2:=xZ P x R A2.length A1 A2 rfl
    rw [show (P++A1++A2).length=m by simp;omega] at h2
    rw [show m - i=A2.length by omega,show P++(A1++A2++([x]++R))=P++A1++A2++x::R by simp,h2]
    simp
   ·
    rename_i h0 h1
    obtain ⟨mid,hmid⟩:∃ mid,mid=(a+b) / 2:=⟨_,rfl⟩
    have hs:∃ s,ew (P++(A++(B++R))) a m b=s/\a<=s/\s<=m/\s<=mid/\mid+m - s<=b/\
      (s=m\/s=mid\/dC (P++(A++(B++R))) (mid+m - 1 - s) s=true)/\(s=a\/mid+m - s=b\/dC (P++(A++(B++R))) (mid+m - s) (s - 1)=false):=by
     refine ⟨_,rfl,?_⟩
     unfold ew
     rw [<-hmid]
     split
     ·obtain ⟨q1,q2,q3,q4⟩:=kL (fun c=>!dC (P++(A++(B++R))) (mid+m - 1 - c) c) (mid - (mid+m - b)) (mid+m - b) mid (Nat.le_refl _) (by omega)
      generalize fY (fun c=>!dC (P++(A++(B++R))) (mid+m - 1 - c) c) (mid+m - b) mid=s at q1 q2 q3 q4
      refine ⟨by omega,by omega,by omega,by omega,?_,?_⟩
      ·rcases q4 with q4|q4
       ·exact .inr (.inl q4)
       ·right;right;simpa using q4
      ·rcases q3 with q3|q3
       ·right;left;omega
       ·by_cases hs0:s=a
        ·exact .inl hs0
        ·right;right
         have q3:(!dC (P++(A++(B++R))) (mid+m - 1 - (s - 1)) (s - 1))=true:=q3
         rw [show mid+m - 1 - (s - 1)=mid+m - s by omega] at q3;simpa using q3
     ·obtain ⟨q1,q2,q3,q4⟩:=kL (fun c=>!dC (P++(A++(B++R))) (mid+m - 1 - c) c) (m - a) a m (Nat.le_refl _) (by omega)
      generalize fY (fun c=>!dC (P++(A++(B++R))) (mid+m - 1 - c) c) a m=s at q1 q2 q3 q4
      refine ⟨by omega,by omega,by omega,by omega,?_,?_⟩
      ·rcases q4 with q4|q4
       ·exact .inl q4
       ·right;right;simpa using q4
      ·rcases q3 with q3|q3
       ·exact .inl q3
       ·by_cases hs0:s=a
        ·exact .inl hs0
        ·right;right
         have q3:(!dC (P++(A++(B++R))) (mid+m - 1 - (s - 1)) (s - 1))=true:=q3
         rw [show mid+m - 1 - (s - 1)=mid+m - s by omega] at q3;simpa using q3
    obtain ⟨s,hs0,hs1,hs2,hs3,hs4,hs5,hs6⟩:=hs
    dsimp only
    rw [hs0,<-hmid]
    obtain ⟨A1,U,rfl,hA1⟩:=nk A (s - a) (by omega)
    rw [List.length_append] at hem heb ha hf
    obtain ⟨V,B2,rfl,hV⟩:=nk B (mid+m - s - m) (by omega)
    rw [List.length_append] at heb hb hf
    have gA:∀ k,k < A1.length+U.length->(P++(A1++U++(V++B2++R)))[a+k]?=(A1++U)[k]?:=fun k hk=>by
     rw [my (k:=k) (by omega),List.getElem?_append_left (by simp;omega)]
    have gB:∀ k,k < V.length+B2.length->(P++(A1++U++(V++B2++R)))[m+k]?=(V++B2)[k]?:=fun k hk=>by
     rw [my (k:=A1.length+U.length+k) (by omega),my (k:=k) (by simp),List.getElem?_append_left (by simp;omega)]
    obtain ⟨a1,a2,a3⟩:=gY.1 sA
    obtain ⟨b1,b2,b3⟩:=gY.1 sB
    have w1:∀ x∈U,∀ y∈V,gQ y x=true:=by
     intro x hx y hy
     have hU:0 < U.length:=List.length_pos_of_mem hx
     have hVp:0 < V.length:=List.length_pos_of_mem hy
     rcases hs5 with h5|h5|h5
     ·omega
     ·omega
     ·obtain ⟨v,hv⟩:=get_some (V:=V) (k:=V.length - 1) (by omega)
      obtain ⟨u,hu⟩:=get_some (V:=U) (k:=0) hU
      have g1:=gB (V.length - 1) (by omega)
      rw [List.getElem?_append_left (l₁:=V) (by omega),hv,show m+(V.length - 1)=mid+m - 1 - s by omega] at g1
      have g2:=gA A1.length (by omega)
      rw [List.getElem?_append_right (l₁:=A1) (Nat.le_refl _),Nat.sub_self,hu,show a+A1.length=s by omega] at g2
      rw [gi g1 g2] at h5
      exact vM (Ax (vP b1 hv y hy) h5) (uo a2 hu x hx)
    have w2:∀ x∈A1,∀ y∈B2,fF x y:=by
     intro x hx y hy
     have hAp:0 < A1.length:=List.length_pos_of_mem hx
     have hBp:0 < B2.length:=List.length_pos_of_mem hy
     rcases hs6 with h6|h6|h6
     ·omega
     ·omega
     ·obtain ⟨v,hv⟩:=get_some (V:=A1) (k:=A1.length - 1) (by omega)
      obtain ⟨u,hu⟩:=get_some (V:=B2) (k:=0) hBp
      have g1:=gB V.length (by omega)
      rw [List.getElem?_append_right (l₁:=V) (Nat.le_refl _),Nat.sub_self,hu,show m+V.length=mid+m - s by omega] at g1
      have g2:=gA (A1.length - 1) (by omega)
      rw [List.getElem?_append_left (l₁:=A1) (by omega),hv,show a+(A1.length - 1)=s - 1 by omega] at g2
      rw [gi g1 g2] at h6
      exact jO (vP a1 hv x hx) (jO (pI.1 h6) (uo b2 hu y hy))
    have hr:fi s m (mid+m - s) (P++(A1++U++(V++B2++R)))=P++(A1++(V++(U++(B2++R)))):=by
     unfold fi
     have e0:P++(A1++U++(V++B2++R))=P++A1++(U++(V++(B2++R))):=by simp
     split
     ·have:=sQ (U.length+V.length) (P++A1) U V (B2++R) m (Nat.le_refl _) (by omega) (by omega) (by simp;omega)
      rw [show m - s=U.length by omega,show mid+m - s - m=V.length by omega,e0,this];simp
     ·rcases (by omega:U.length=0\/V.length=0) with hz|hz
      ·obtain rfl:=List.eq_nil_of_length_eq_zero hz;simp
      ·obtain rfl:=List.eq_nil_of_length_eq_zero hz;simp
    rw [hr]
    have hL:∃ C1,(if a < s/\s < mid then dH f a s mid (P++(A1++(V++(U++(B2++R))))) else P++(A1++(V++(U++(B2++R)))))=P++(C1++(U++(B2++R)))/\eU C1/\Same (A1++V) C1:=by
     split
     ·obtain ⟨C1,c1,c2,c3⟩:=qL f P A1 V (U++(B2++R)) (by omega) (by omega) (by omega) a1 b1
      rw [<-hea,show a+A1.length=s by omega,show s+V.length=mid by omega] at c1
      exact ⟨C1,c1,c2,c3⟩
     ·rcases (by omega:A1.length=0\/V.length=0) with hz|hz
      ·obtain rfl:=List.eq_nil_of_length_eq_zero hz;exact ⟨V,by simp,b1,Same.refl _⟩
      ·obtain rfl:=List.eq_nil_of_length_eq_zero hz;exact ⟨A1,by simp,a1,by rw [List.append_nil];exact Same.refl _⟩
    obtain ⟨C1,c1,c2,c3⟩:=hL
    rw [c1]
    have hc1:C1.length=A1.length+V.length:=by rw [<-c3.len,List.length_append]
    have hR:∃ C2,(if mid < mid+m - s/\mid+m - s < b then dH f mid (mid+m - s) b (P++(C1++(U++(B2++R)))) else P++(C1++(U++(B2++R))))=P++(C1++(C2++R))/\eU C2/\Same (U++B2) C2:=by
     split
     ·obtain ⟨C2,d1,d2,d3⟩:=qL f (P++C1) U B2 R (by omega) (by omega) (by omega) a2 b2
      rw [List.length_append,show P.length+C1.length=mid by omega,show mid+U.length=mid+m - s by omega,show mid+m - s+B2.length=b by omega] at d1
      exact ⟨C2,by simpa using d1,d2,d3⟩
     ·rcases (by omega:U.length=0\/B2.length=0) with hz|hz
      ·obtain rfl:=List.eq_nil_of_length_eq_zero hz;exact ⟨B2,by simp,b2,Same.refl _⟩
      ·obtain rfl:=List.eq_nil_of_length_eq_zero hz;exact ⟨U,by simp,a2,by rw [List.append_nil];exact Same.refl _⟩
    obtain ⟨C2,d1,d2,d3⟩:=hR
    refine ⟨C1++C2,by rw [d1];simp,gY.2 ⟨c2,d2,?_⟩,?_⟩
    ·intro x hx y hy
     rcases List.mem_append.1 (c3.mem.2 hx) with hx|hx
     ·rcases List.mem_append.1 (d3.mem.2 hy) with hy|hy
      ·exact a3 x hx y hy
      ·exact w2 x hx y hy
     ·rcases List.mem_append.1 (d3.mem.2 hy) with hy|hy
      ·exact lg (w1 y hy x hx)
      ·exact b3 x hx y hy
    ·have e1:Same (A1++U++(V++B2)) (A1++(V++(U++B2))):=by
      have:=(Same.refl A1).app ((Same.comm w1).app (Same.refl B2))
      simpa using this
     have e2:=c3.app d3
     rw [List.append_assoc] at e2
     exact e1.trans e2
theorem zN {f:Nat} {d:List ah} {a m b:Nat} (h1:a < m) (h2:m < b) (h3:b<=d.length) (hf:b - a<=f) (sA:eU ((d.drop a).take (m - a))) (sB:eU ((d.drop m).take (b - m))):Part d (dH f a m b d) a b:=by
 have e1:=parts (d:=d) (a:=a) (b:=b) (by omega) h3
 have e2:(d.drop a).take (b - a)=(d.drop a).take (m - a)++(d.drop m).take (b - m):=by
  rw [show b - a=(m - a)+(b - m) by omega,List.take_add,List.drop_drop,show a+(m - a)=m by omega]
 have l1:(d.take a).length=a:=by rw [List.length_take];omega
 have l2:((d.drop a).take (m - a)).length=m - a:=by rw [List.length_take,List.length_drop];omega
 have l3:((d.drop m).take (b - m)).length=b - m:=by rw [List.length_take,List.length_drop];omega
 obtain ⟨C,c1,c2,c3⟩:=qL f (d.take a) ((d.drop a).take (m - a)) ((d.drop m).take (b - m)) (d.drop b) (by omega) (by omega) (by omega) sA sB
 rw [l1,l2,l3,show a+(m - a)=m by omega,show m+(b - m)=b by omega] at c1
 rw [<-e2] at c3
 rw [e2] at e1
 have e3:d.take a++((d.drop a).take (m - a)++((d.drop m).take (b - m)++d.drop b))=d:=by rw [<-List.append_assoc,<-List.append_assoc,List.append_assoc (d.take a)];exact e1.symm
 rw [e3] at c1
 have:=Part.of (P:=d.take a) (X:=(d.drop a).take (b - a)) (C:=C) (R:=d.drop b) (a:=a) (b:=b) l1 (by rw [List.length_take,List.length_drop];omega) c2 c3
 rwa [e2,<-e1,List.append_assoc,<-c1] at this
theorem su {p:Nat->Bool} {i j h R:Nat} (hb:fY p i j=R) (hij:i < j) (hh:h=(i+j) / 2) (hp:p h=true):fY p (h+1) j=R:=by
 subst hh;rw [<-hb,DP hij hp]
theorem sw {p:Nat->Bool} {i j h R:Nat} (hb:fY p i j=R) (hij:i < j) (hh:h=(i+j) / 2) (hp:p h=false):fY p i h=R:=by
 subst hh;rw [<-hb,DQ hij hp]
theorem dY {f a m b mid s e:Nat} {d d1 d2 d3:List ah} (h0:¬m - a=1) (h1:¬b - m=1) (hm:mid=(a+b) / 2) (hs:ew d a m b=s) (he:mid+m - s=e) (hd1:fi s m e d=d1)
  (hd2:(if a < s/\s < mid then dH f a s mid d1 else d1)=d2) (hd3:(if mid < e/\e < b then dH f mid e b d2 else d2)=d3):dH (f+1) a m b d=d3:=by
 subst hm he hd1 hd2 hd3 hs
 rw [dH.eq_2,if_neg h0,if_neg h1]
def ly:List ah->ah->List ah
 |[],r=>[r]
 |x::l,r=>if gQ r x=true then r::x::l else x::ly l r
def dF (l:List ah):List ah:=l.foldl ly []
theorem vS {r z:ah}:∀ {l:List ah},z∈ly l r↔z=r\/z∈l
 |[]=>by simp [ly]
 |x::l=>by
  unfold ly
  split
  ·simp
  ·rw [List.mem_cons,vS,List.mem_cons]
   constructor
   ·rintro (h|h|h)
    ·exact .inr (.inl h)
    ·exact .inl h
    ·exact .inr (.inr h)
   ·rintro (h|h|h)
    ·exact .inr (.inl h)
    ·exact .inl h
    ·exact .inr (.inr h)
theorem vR {r:ah}:∀ {l:List ah},eU l->eU (ly l r)
 |[],_=>List.pairwise_singleton _ _
 |x::l,h=>by
  obtain ⟨h1,h2⟩:=List.pairwise_cons.1 h
  unfold ly
  split
  ·rename_i hc
   exact List.pairwise_cons.2 ⟨fun z hz=>by
    rcases List.mem_cons.1 hz with rfl|hz
    ·exact lg hc
    ·exact jO (lg hc) (h1 z hz),h⟩
  ·rename_i hc
   have hc:fF x r:=pI.1 (by simpa using hc)
   exact List.pairwise_cons.2 ⟨fun z hz=>by
    rcases vS.1 hz with rfl|hz
    ·exact hc
    ·exact h1 z hz,vR h2⟩
theorem ug {r:ah}:∀ {l:List ah},eU l->Same (l++[r]) (ly l r)
 |[],_=>Same.refl _
 |x::l,h=>by
  obtain ⟨h1,h2⟩:=List.pairwise_cons.1 h
  unfold ly
  split
  ·rename_i hc
   exact (Same.comm (u:=x::l) (v:=[r]) fun y hy z hz=>by
    rw [List.mem_singleton.1 hz]
    rcases List.mem_cons.1 hy with rfl|hy
    ·exact hc
    ·exact vM hc (h1 y hy))
  ·exact (Same.refl [x]).app (ug h2)
theorem qW:∀ (l acc:List ah),eU acc->eU (l.foldl ly acc)/\Same (acc++l) (l.foldl ly acc)
 |[],acc,h=>⟨h,by rw [List.append_nil];exact Same.refl _⟩
 |x::l,acc,h=>by
  obtain ⟨h1,h2⟩:=qW l (ly acc x) (vR h)
  refine ⟨h1,?_⟩
  have h3:=((ug (r:=x) h).app (Same.refl l)).trans h2
  simpa using h3
theorem ov (l:List ah):eU (dF l):=(qW l [] List.Pairwise.nil).1
theorem jU (l:List ah):Same l (dF l):=(qW l [] List.Pairwise.nil).2
theorem rK {l d:List ah} (h:eU d) (h':Same l d):dF l=d:=eU.uniq (ov l) h ((jU l).symm.trans h')
theorem la (l:List ah):(dF l).length=l.length:=(jU l).len.symm
theorem zU {l:List ah} (h:l.length=0):dF l=l:=by obtain rfl:=List.eq_nil_of_length_eq_zero h;rfl
theorem vm {l:List ah} (h:eU l):dF l=l:=rK h (Same.refl l)
def jL (d:List ah) (a s:Nat):List ah:=(d.drop a).take s
def tx (s a:Nat) (d:List ah):Prop:=(∃ q,a=q * s)/\∀ k,(k+1) * s<=a->eU (jL d (k * s) s)
def tw (s:Nat) (d:List ah):Prop:=∀ k,eU (jL d (k * s) s)
def mN (s a:Nat) (d:List ah):Prop:=tx (2 * s) a d/\∀ k,a<=k * s->eU (jL d (k * s) s)
theorem Part.ES {d y:List ah} {a b:Nat} (h:Part d y a b) {c s:Nat} (hc:c+s<=a):jL y c s=jL d c s:=by
 have e:∀ z:List ah,jL z c s=((z.take a).drop c).take s:=fun z=>by
  unfold jL;rw [List.drop_take,List.take_take,Nat.min_eq_left (by omega)]
 rw [e y,e d,h.l]
theorem Part.HE {d y:List ah} {a b:Nat} (h:Part d y a b) {c s:Nat} (hc:b<=c):jL y c s=jL d c s:=by
 have e:∀ z:List ah,jL z c s=((z.drop b).drop (c - b)).take s:=fun z=>by
  unfold jL;rw [List.drop_drop,show b+(c - b)=c by omega]
 rw [e y,e d,h.r]
theorem xF {d:List ah} {a s:Nat} (h:d.length<=a):jL d a s=[]:=by unfold jL;rw [List.drop_of_length_le h];simp
theorem sN {d:List ah} {a s t:Nat} (hs:d.length<=a+s) (ht:d.length<=a+t):jL d a s=jL d a t:=by
 unfold jL;rw [List.take_of_length_le (by rw [List.length_drop];omega),List.take_of_length_le (by rw [List.length_drop];omega)]
theorem sL:eU []:=List.Pairwise.nil
theorem Ei {k q s:Nat} (h:(k+1) * s<=q * s+s) (hs:0 < s):k<=q:=by
 rw [<-Nat.succ_mul] at h
 have:=Nat.le_of_mul_le_mul_right h hs
 omega
theorem sm {s:Nat} (hs:0 < s) {d:List ah}:tx s 0 d:=⟨⟨0,by simp⟩,fun k h=>by rw [Nat.succ_mul] at h;omega⟩
theorem uv {s a:Nat} {d y:List ah} (hs:0 < s) (h:tx s a d) (p:Part d y a (a+s)):tx s (a+s) y:=by
 obtain ⟨⟨q,hq⟩,h2⟩:=h
 refine ⟨⟨q+1,by rw [Nat.succ_mul,hq]⟩,fun k hk=>?_⟩
 subst hq
 have hkq:=Ei hk hs
 by_cases e:k=q
 ·subst e
  have:=p.s
  rw [Nat.add_sub_cancel_left] at this
  exact this
 ·have h3:(k+1) * s<=q * s:=Nat.mul_le_mul_right s (by omega)
  rw [p.ES (by rw [Nat.succ_mul] at h3;exact h3)]
  exact h2 k h3
theorem wv {s a:Nat} {d y:List ah} (hs:0 < s) (h:tx s a d) (ha:a<=y.length) (p:Part d y a y.length) (hn:y.length<=a+s):tw s y:=by
 obtain ⟨⟨q,rfl⟩,h2⟩:=h
 intro k
 rcases Nat.lt_trichotomy k q with e|e|e
 ·have h3:(k+1) * s<=q * s:=Nat.mul_le_mul_right s (by omega)
  rw [p.ES (by rw [Nat.succ_mul] at h3;exact h3)]
  exact h2 k h3
 ·subst e
  have h3:=p.s
  rw [sN (t:=y.length - k * s) hn (by omega)]
  exact h3
 ·have h3:(q+1) * s<=k * s:=Nat.mul_le_mul_right s (by omega)
  rw [Nat.succ_mul] at h3
  rw [xF (by omega)];exact sL
theorem BU {s:Nat} {d:List ah} (h:tw s d) (hs:d.length<=s):eU d:=by
 have:=h 0
 unfold jL at this
 rw [Nat.zero_mul,List.drop_zero,List.take_of_length_le hs] at this
 exact this
theorem yX {s:Nat} (hs:0 < s) {d:List ah} (h:tw s d):mN s 0 d:=⟨sm (by omega),fun k _=>h k⟩
theorem mN.mul {s a:Nat} {d:List ah} (h:mN s a d):∃ k,a=k * s:=by
 obtain ⟨q,hq⟩:=h.1.1
 exact ⟨q * 2,by rw [hq,Nat.mul_assoc]⟩
theorem Ct {s a:Nat} {d:List ah} (h:mN s a d):eU (jL d a s)/\eU (jL d (a+s) s):=by
 obtain ⟨k,hk⟩:=h.mul
 refine ⟨?_,?_⟩
 ·have:=h.2 k (by omega);rwa [<-hk] at this
 ·have:=h.2 (k+1) (by rw [Nat.succ_mul];omega);rwa [Nat.succ_mul,<-hk] at this
theorem AK {s a:Nat} {d y:List ah} (hs:0 < s) (h:mN s a d) (p:Part d y a (a+2 * s)):mN s (a+2 * s) y:=
 ⟨uv (by omega) h.1 p,fun k hk=>by rw [p.HE hk];exact h.2 k (by omega)⟩
theorem Cu {s a:Nat} {d y:List ah} (hs:0 < s) (h:mN s a d) (ha:a<=y.length) (p:Part d y a y.length) (hn:y.length<=a+2 * s):tw (s * 2) y:=by
 rw [Nat.mul_comm];exact wv (by omega) h.1 ha p hn
theorem AM {s a:Nat} {d:List ah} (hs:0 < s) (h:mN s a d) (hn:d.length<=a+s):tw (s * 2) d:=by
 rw [Nat.mul_comm]
 obtain ⟨⟨⟨q,rfl⟩,h2⟩,h3⟩:=h
 intro k
 rcases Nat.lt_trichotomy k q with e|e|e
 ·exact h2 k (Nat.mul_le_mul_right _ (by omega))
 ·subst e
  rw [sN (t:=s) (by omega) hn]
  have:=h3 (k * 2) (by rw [Nat.mul_assoc];omega)
  rwa [Nat.mul_assoc] at this
 ·have h4:(q+1) * (2 * s)<=k * (2 * s):=Nat.mul_le_mul_right _ (by omega)
  rw [Nat.succ_mul] at h4
  rw [xF (by omega)];exact sL
theorem vg {s a b:Nat} {d:List ah} (hs:0 < s) (h:mN s a d) (h1:a+s < b) (h2:b<=d.length) (h3:b=a+2 * s\/(b=d.length/\b<=a+2 * s)):Part d (dH (b - a) a (a+s) b d) a b:=by
 obtain ⟨s1,s2⟩:=Ct h
 refine zN (by omega) h1 h2 (Nat.le_refl _) ?_ ?_
 ·rw [Nat.add_sub_cancel_left];exact s1
 ·rcases h3 with h3|⟨h3,h4⟩
  ·rw [show b - (a+s)=s by omega];exact s2
  ·have:=sN (d:=d) (a:=a+s) (s:=s) (t:=b - (a+s)) (by omega) (by omega)
   show eU (jL d (a+s) (b - (a+s)))
   rw [<-this];exact s2
def mM (r:ah):Prop:=r.kind < 1\/r.kind > 8
def nO (r:ah):Prop:=r.aE < 0\/r.aE > 7\/r.ba < 0\/r.ba > 29\/r.sum < 1\/r.sum > 1000000
instance (r:ah):Decidable (mM r):=by unfold mM;infer_instance
instance (r:ah):Decidable (nO r):=by unfold nO;infer_instance
def mJ:List ah->Int->cW
 |[],_=>⟨0,0⟩
 |r::l,i=>if mM r then ⟨1,i⟩ else if nO r then ⟨3,i⟩ else mJ l (i+1)
def eV (l:List ah):cW:=if l.length > 100 then ⟨5,0⟩ else mJ l 0
theorem oE {l:List ah} {q:Nat} {x:ah} (h:l[q]?=some x):mJ (l.drop q) q=if mM x then ⟨1,q⟩ else if nO x then ⟨3,q⟩ else mJ (l.drop (q+1)) ((q+1:Nat):Int):=by
 obtain ⟨hq,rfl⟩:=List.getElem?_eq_some_iff.1 h
 rw [List.drop_eq_getElem_cons hq];rfl
theorem Af {l:List ah} {q:Nat} {i:Int} (h:l.length<=q):mJ (l.drop q) i=⟨0,0⟩:=by rw [List.drop_of_length_le h];rfl
def qi (r:ah):Prop:=¬mM r/\¬nO r
theorem xM:∀ {l:List ah} {i:Int},(mJ l i).err=0↔∀ x∈l,qi x
 |[],i=>by simp [mJ]
 |r::l,i=>by
  unfold mJ
  split
  ·rename_i h
   simp only [List.mem_cons,forall_eq_or_imp]
   exact ⟨fun e=>absurd e (by decide),fun e=>absurd h e.1.1⟩
  ·split
   ·rename_i h
    simp only [List.mem_cons,forall_eq_or_imp]
    exact ⟨fun e=>absurd e (by decide),fun e=>absurd h e.1.2⟩
   ·rename_i h1 h2
    rw [xM]
    simp only [List.mem_cons,forall_eq_or_imp]
    exact ⟨fun e=>⟨⟨h1,h2⟩,e⟩,fun e=>e.2⟩
theorem kV {l:List ah}:(eV l).err=0↔l.length<=100/\∀ x∈l,qi x:=by
 unfold eV
 split
 ·exact ⟨fun e=>absurd e (by decide),fun e=>by omega⟩
 ·rw [xM];exact ⟨fun e=>⟨by omega,e⟩,fun e=>e.2⟩
theorem yP {x:ah} (h:qi x):0<=x.aE/\x.aE<=7/\0<=x.ba/\x.ba<=29/\1<=x.kind/\x.kind<=8/\1<=x.sum/\x.sum<=1000000:=by
 unfold qi mM nO at h;omega
theorem wY {l:List ah}:(eV (dF l)).err=0↔(eV l).err=0:=by
 rw [kV,kV,la]
 exact and_congr_right fun _=>forall_congr' fun x=>by rw [(jU l).mem]
theorem rE {l:List ah} {q:Nat} {x:ah} (h:l[q]?=some x):l.take (q+1)=l.take q++[x]:=by
 rw [List.take_add_one,h];rfl
def iu (n:Int):Nat->List Int
 |0=>[]
 |k+1=>n / 256 ^ k % 256::iu n k
theorem lO (n:Int):∀ k,(iu n k).length=k
 |0=>rfl
 |k+1=>by unfold iu;rw [List.length_cons,lO n k]
theorem Di {n:Int} {k:Nat} (h:1<=k):iu n k=n / 256 ^ (k - 1) % 256::iu n (k - 1):=by
 obtain ⟨j,rfl⟩:∃ j,k=j+1:=⟨k - 1,by omega⟩
 rfl
theorem Gl (n:Int):iu n 3=[n / 65536 % 256,n / 256 % 256,n % 256]:=by simp [iu]
theorem Ix (n:Int):iu n 4=[n / 16777216 % 256,n / 65536 % 256,n / 256 % 256,n % 256]:=by simp [iu]
theorem Ed (k:Nat):(2:Int) ^ (8 * k)=256 ^ k:=by rw [Int.pow_mul];rfl
theorem HC {k:Nat} {b n:Int} (h1:1<=k) (hb:b=8 * ((k:Int) - 1)):n / 2 ^ b.toNat=n / 256 ^ (k - 1):=by
 subst hb
 rw [show (8 * ((k:Int) - 1)).toNat=8 * (k - 1) by omega,Ed]
def jr (x:ah):List Int:=[x.aE % 256,x.ba % 256,x.kind % 256]++iu x.sum 3
def eG:List ah->Int
 |[]=>0
 |x::l=>x.sum+eG l
theorem vh (u v:List ah):eG (u++v)=eG u+eG v:=by
 induction u with
 |nil=>simp [eG]
 |cons x u ih=>simp only [List.cons_append,eG,ih];omega
theorem zQ {l:List ah} {q:Nat} {x:ah} (h:l[q]?=some x):eG (l.take (q+1))=eG (l.take q)+x.sum:=by
 rw [rE h,vh];simp [eG]
def gV (l r:List ah):List Int:=((l.length:Int) % 256)::r.flatMap jr
theorem yW {l r:List ah} {q:Nat} {x:ah} (h:r[q]?=some x):gV l (r.take (q+1))=gV l (r.take q)++jr x:=by
 unfold gV;rw [rE h,List.flatMap_append];simp
theorem Cf (x:ah):(jr x).length=6:=by unfold jr;rw [List.length_append,lO];rfl
theorem jQ (l r:List ah):(gV l r).length=1+6 * r.length:=by
 unfold gV
 rw [List.length_cons]
 induction r with
 |nil=>rfl
 |cons x r ih=>rw [List.flatMap_cons,List.length_append,Cf,List.length_cons];omega
def fu (l:List ah):List Int×cW:=if (eV l).err=0 then (gV l (dF l)++iu (eG (dF l)) 4,⟨0,0⟩) else ([],eV l)
def gm (l:List Int):Int:=l.foldl (fun n c=>n * 256+c) 0
theorem An {l:List Int} {q:Nat} {x:Int} (h:l[q]?=some x):gm (l.take (q+1))=gm (l.take q) * 256+x:=by
 unfold gm;rw [List.take_add_one,h,Option.toList_some,List.foldl_append];rfl
def fQ:List Int->List ah
 |s::a::k::x::y::z::t=>⟨s,a,k,65536 * x+256 * y+z⟩::fQ t
 |_=>[]
def gr (b:List Int):List ah×Int:=
 match b[0]? with
 |none=>([],2)
 |some c=>
  if b.length=5+6 * c.toNat then
   (fun l=>if (eV l).err=0 then (if eG l=gm (b.drop (b.length - 4))/\dF l=l then (l,0) else ([],8)) else ([],(eV l).err)) (fQ ((b.drop 1).take (6 * c.toNat)))
  else ([],2)
def ou (l:List ah):Bool:=decide (dF l=l)
theorem xC:∀ {l:List ah},(∀ i,1<=i->∀ x y,l[i]?=some x->l[i - 1]?=some y->fF y x)->eU l
 |[],_=>sL
 |[x],_=>List.pairwise_singleton _ _
 |x::y::l,h=>by
  have h1:eU (y::l):=xC fun i hi a b ha hb=>h (i+1) (by omega) a b (by simpa using ha) (by
   obtain ⟨j,rfl⟩:∃ j,i=j+1:=⟨i - 1,by omega⟩
   simpa using hb)
  have h2:fF x y:=h 1 (by omega) y x rfl rfl
  refine List.pairwise_cons.2 ⟨fun z hz=>?_,h1⟩
  rcases List.mem_cons.1 hz with rfl|hz
  ·exact h2
  ·exact jO h2 ((List.pairwise_cons.1 h1).1 z hz)
theorem BO {l:List ah} {q:Nat} (hq:q<=1) (h:∀ i,q<=i->1<=i->∀ x y,l[i]?=some x->l[i - 1]?=some y->fF y x):ou l=true:=
 decide_eq_true (vm (xC fun i hi=>h i (by omega) hi))
theorem DT {l:List ah} {q:Nat} {x y:ah} (hq:1<=q) (hx:l[q]?=some x) (hy:l[q - 1]?=some y) (h:gQ x y=true):ou l=false:=by
 refine decide_eq_false fun e=>?_
 have hs:=ov l
 rw [e] at hs
 obtain ⟨h1,rfl⟩:=List.getElem?_eq_some_iff.1 hx
 obtain ⟨h2,rfl⟩:=List.getElem?_eq_some_iff.1 hy
 have:=List.pairwise_iff_getElem.1 hs (q - 1) q h2 h1 (by omega)
 rw [pH] at h;unfold fF at this;omega
theorem tR:∀ (k:Nat) (u v:List Int),u.length=6 * k->fQ (u++v)=fQ u++fQ v
 |0,u,v,h=>by obtain rfl:=List.eq_nil_of_length_eq_zero h;rfl
 |k+1,u,v,h=>by
  match u,h with
  |s::a::k'::x::y::z::t,h=>
   have ht:t.length=6 * k:=by simp at h;omega
   show _::fQ (t++v)=_::fQ t++fQ v
   rw [tR k t v ht,List.cons_append]
theorem qg {b:List Int} {c:Int} (h:b[0]?=some c) (hl:¬b.length=5+6 * c.toNat):gr b=([],2):=by
 unfold gr;rw [h];dsimp only;rw [if_neg hl]
theorem lf {b:List Int} {c:Int} {l:List ah} (h:b[0]?=some c) (hl:b.length=5+6 * c.toNat) (hr:l=fQ ((b.drop 1).take (6 * c.toNat))):
  gr b=if (eV l).err=0 then (if eG l=gm (b.drop (b.length - 4))/\dF l=l then (l,0) else ([],8)) else ([],(eV l).err):=by
 subst hr;unfold gr;rw [h];dsimp only;rw [if_pos hl]
theorem Eb {x:ah} (h:qi x):jr x=[x.aE,x.ba,x.kind,x.sum / 65536,x.sum / 256 % 256,x.sum % 256]:=by
 have hb:=yP h
 unfold jr
 rw [Gl,Int.emod_eq_of_lt (by omega) (by omega),Int.emod_eq_of_lt (by omega) (by omega),Int.emod_eq_of_lt (by omega) (by omega),Int.emod_eq_of_lt (a:=x.sum / 65536) (by omega) (by omega)]
 rfl
theorem rR:∀ {l:List ah},(∀ x∈l,qi x)->fQ (l.flatMap jr)=l
 |[],_=>rfl
 |x::l,h=>by
  rw [List.flatMap_cons,Eb (h x List.mem_cons_self)]
  show _::fQ (l.flatMap jr)=_
  rw [rR fun y hy=>h y (List.mem_cons_of_mem _ hy)]
  congr 1
  obtain ⟨s,a,k,n⟩:=x
  simp only [ah.mk.injEq,true_and]
  omega
theorem wi (l:List ah):(l.flatMap jr).length=6 * l.length:=by
 have:=jQ l l;unfold gV at this;rw [List.length_cons] at this;omega
theorem EM {l:List ah} (h:∀ x∈l,qi x):0<=eG l/\eG l<=1000000 * (l.length:Int):=by
 induction l with
 |nil=>simp [eG]
 |cons x l ih=>
  have:=yP (h x List.mem_cons_self)
  have:=ih fun y hy=>h y (List.mem_cons_of_mem _ hy)
  simp only [eG,List.length_cons];omega
theorem Eg {n:Int} (h:0<=n) (h':n < 4294967296):gm (iu n 4)=n:=by
 rw [Ix];simp [gm];omega
theorem um:∀ (k:Nat) {d:List Int},d.length=6 * k->(∀ x∈d,0<=x/\x<=255)->(fQ d).flatMap jr=d/\(fQ d).length=k
 |0,d,h,_=>by obtain rfl:=List.eq_nil_of_length_eq_zero h;exact ⟨rfl,rfl⟩
 |k+1,d,h,hb=>by
  match d,h,hb with
  |s::a::q::x::y::z::t,h,hb=>
   have ht:t.length=6 * k:=by simp at h;omega
   obtain ⟨h1,h2⟩:=um k ht fun c hc=>hb c (by simp [hc])
   have b1:=hb s (by simp);have b2:=hb a (by simp);have b3:=hb q (by simp);have b4:=hb x (by simp);have b5:=hb y (by simp);have b6:=hb z (by simp)
   refine ⟨?_,by show (fQ t).length+1=_;rw [h2]⟩
   show (jr _++(fQ t).flatMap jr)=_
   rw [h1]
   unfold jr
   rw [Gl]
   simp only [List.cons_append,List.nil_append,List.cons.injEq,and_true]
   omega
theorem mA {l:List ah} (h:(fu l).2.err=0):(eV l).err=0/\(fu l).1=gV l (dF l)++iu (eG (dF l)) 4:=by
 unfold fu at h ⊢
 split at h
 ·rename_i hw;rw [if_pos hw];exact ⟨hw,rfl⟩
 ·rename_i hw;exact absurd h hw
theorem xc {l:List ah} (h:(fu l).2.err=0):gr (fu l).1=(dF l,0):=by
 obtain ⟨hw,hx⟩:=mA h
 obtain ⟨hl,hok⟩:=kV.1 hw
 have hs:∀ x∈dF l,qi x:=fun x hx=>hok x ((jU l).mem.2 hx)
 have hsl:=la l
 rw [hx]
 have hc:((l.length:Int) % 256)=l.length:=Int.emod_eq_of_lt (by omega) (by omega)
 have hlen:(gV l (dF l)++iu (eG (dF l)) 4).length=5+6 * l.length:=by rw [List.length_append,jQ,lO,hsl];omega
 have h0:(gV l (dF l)++iu (eG (dF l)) 4)[0]?=some (l.length:Int):=by unfold gV;rw [hc];rfl
 have hd:((gV l (dF l)++iu (eG (dF l)) 4).drop 1).take (6 * ((l.length:Int)).toNat)=(dF l).flatMap jr:=by
  unfold gV
  rw [List.cons_append,List.drop_succ_cons,List.drop_zero,List.take_append_of_le_length (by rw [wi,hsl];simp),List.take_of_length_le (by rw [wi,hsl];simp)]
 have hsum:=EM hs
 have hd4:(gV l (dF l)++iu (eG (dF l)) 4).drop ((gV l (dF l)++iu (eG (dF l)) 4).length - 4)=iu (eG (dF l)) 4:=by
  rw [hlen,List.drop_append_of_le_length (by rw [jQ,hsl];omega),List.drop_of_length_le (by rw [jQ,hsl];omega)];rfl
 rw [lf h0 (by rw [hlen];simp) (l:=dF l) (by rw [hd,rR hs]),if_pos (wY.2 hw),if_pos]
 rw [hd4,Eg hsum.1 (by rw [hsl] at hsum;omega)]
 exact ⟨rfl,vm (ov l)⟩
def dK (e err:Int):Int:=if e=0 then err else e
def ed (l:List Entry) (e src dst n:Int):List Entry×Int:=
 if dK e (ke l src dst n).2=0 then ((ke l src dst n).1,0) else (l,dK e (ke l src dst n).2)
def cH (l:List bI) (e k held bN:Int):List bI×Int:=
 match l[k.toNat]? with
 |none=>(l,e)
 |some c=>if dK e (en c held bN).2=0 then (l.set k.toNat (en c held bN).1,0) else (l,dK e (en c held bN).2)
def eQ (s:bY) (e:Int) (t:bo):bY×Int:=if dK e (gP s t).2=0 then ((gP s t).1,0) else (s,dK e (gP s t).2)
def jh (l:List ah) (e:Int) (r:ah):List ah×Int:=if l.length=100 then (l,dK e 5) else (l++[r],e)
theorem tK {l:List bI} {e k held bN:Int} {c:bI} (h:l[k.toNat]?=some c):cH l e k held bN=if dK e (en c held bN).2=0 then (l.set k.toNat (en c held bN).1,0) else (l,dK e (en c held bN).2):=by
 unfold cH;rw [h]
def eO (au:List bC) (due:List Int) (ay:List bI) (book:List Entry) (e:Int) (t:bo):List Int×List bI×List Entry×Int:=
 match au[t.ba.toNat]? with
 |none=>(due,ay,book,e)
 |some a=>
  if t.kind=1 then (due.set a.aE.toNat (IntKind.i64.wrap (due.getD a.aE.toNat 0+t.sum)),ay,ed book e 1 (50+a.aE) t.sum)
  else if t.kind=2 then (due,(cH ay e a.aO 0 t.sum).1,ed book (cH ay e a.aO 0 t.sum).2 1 (10+a.aO) t.sum)
  else if t.kind=3 then (due.set a.aE.toNat (IntKind.i64.wrap (due.getD a.aE.toNat 0 - t.sum)),ay,ed book e (50+a.aE) 2 t.sum)
  else (due,ay,book,e)
structure Bk where (time:Int) (down:Bool) (ay:List bI) (due:List Int) (au:List bC) (s0 s1:bY) (n0 n1:Int) (w0 w1:List cp) (bG:cC) (aP:List ah) (book:List Entry)
 deriving DecidableEq
def dd (b c:Bk) (e:Int):Bk×Answer:=if e=0 then (c,⟨0,0⟩) else (b,⟨e,0⟩)
def fc (b:Bk) (d:bx):Bk×Answer:=
 if d.n < 0\/d.n>=b.ay.length then (b,⟨6,0⟩)
 else if d.sum < 1\/d.sum > 1000000 then (b,⟨3,0⟩)
 else dd b {b with ay:=(cH b.ay 0 d.n 0 d.sum).1,book:=(ed b.book (cH b.ay 0 d.n 0 d.sum).2 0 (10+d.n) d.sum).1} (ed b.book (cH b.ay 0 d.n 0 d.sum).2 0 (10+d.n) d.sum).2
def fT (b:Bk) (d:bx):Bk×Answer:=
 if d.n < 0\/d.n>=b.due.length then (b,⟨6,0⟩)
 else if b.due.getD d.n.toNat 0<=0 then (b,⟨10,0⟩)
 else dd b {b with due:=b.due.set d.n.toNat 0,book:=(ed b.book 0 (50+d.n) 0 (b.due.getD d.n.toNat 0)).1} (ed b.book 0 (50+d.n) 0 (b.due.getD d.n.toNat 0)).2
def fG (time:Int):List bC->Nat->List bI->List bC->Int->List bI×List bC×Int
 |[],_,ay,au,e=>(ay,au,e)
 |a::l,i,ay,au,e=>fG time l (i+1) (cH ay e a.aO (bQ (eh a time) - bQ a) 0).1 (au.set i (eh a time)) (cH ay e a.aO (bQ (eh a time) - bQ a) 0).2
def gD (b:Bk):Bk:=if (fG b.time b.au 0 b.ay b.au 0).2.2=0 then {b with ay:=(fG b.time b.au 0 b.ay b.au 0).1,au:=(fG b.time b.au 0 b.ay b.au 0).2.1} else b
def eF (b:Bk) (d:bx):Bk×Answer:=
 if d.sum < 0\/d.sum > 1000000 - b.time then (b,⟨3,0⟩)
 else (if b.down=true then {b with time:=b.time+d.sum} else gD {b with time:=b.time+d.sum},⟨0,0⟩)
def mr (l:List cp) (ks:List bo) (n:Int):List cp:=l++ks.map (fun t=>⟨t,-1⟩)++[⟨⟨0,0,0,0⟩,n⟩]
def jz (w:List cp) (ks:List bo) (n:Int):List cp×Answer:=if (mr w ks n).length > 60 then (w,⟨5,0⟩) else (mr w ks n,⟨0,0⟩)
def ei (s0 s1:bY) (n0 n1:Int) (w0 w1:List cp) (d:bx):List cp×List cp×Answer:=
 if d.n=0 then (w0,jz w1 s0.kept n0) else if d.n=1 then ((jz w0 s1.kept n1).1,w1,(jz w0 s1.kept n1).2) else (w0,w1,⟨6,0⟩)
def fZ (aP:List ah) (days:List (List Int)):List ah×List (List Int)×Answer:=
 if (fu aP).2.err≠0 then (aP,days,⟨(fu aP).2.err,0⟩) else ([],days++[(fu aP).1],⟨0,0⟩)
def hP (e:Int):Int:=if e=10 then 12 else e
def dy (b:Bk) (d:bx):Bk×Answer:=
 if d.n < 0\/d.n>=b.ay.length\/d.aE < 0\/d.aE>=b.due.length then (b,⟨6,0⟩)
 else if b.down=true then
  (if hP (ct b.bG ⟨d.n,d.aE,d.sum,b.time⟩).2=0/\(b.au.length:Int)+(ct b.bG ⟨d.n,d.aE,d.sum,b.time⟩).1.bd.length > 30 then (b,⟨5,0⟩)
  else if hP (ct b.bG ⟨d.n,d.aE,d.sum,b.time⟩).2≠0 then (b,⟨hP (ct b.bG ⟨d.n,d.aE,d.sum,b.time⟩).2,0⟩)
  else ({b with bG:=(ct b.bG ⟨d.n,d.aE,d.sum,b.time⟩).1},⟨0,(b.au.length:Int)+(ct b.bG ⟨d.n,d.aE,d.sum,b.time⟩).1.bd.length - 1⟩))
 else if (dr d.n d.aE d.sum b.time).2=0/\b.au.length=30 then (b,⟨5,0⟩)
 else if (dr d.n d.aE d.sum b.time).2≠0 then (b,⟨(dr d.n d.aE d.sum b.time).2,0⟩)
 else match b.ay[d.n.toNat]? with
  |none=>(b,⟨0,0⟩)
  |some c=>
   if (dZ c d.sum b.time).2≠0 then (b,⟨(dZ c d.sum b.time).2,0⟩)
   else ({b with ay:=b.ay.set d.n.toNat (dZ c d.sum b.time).1,au:=b.au++[(dr d.n d.aE d.sum b.time).1]},⟨0,b.au.length⟩)
theorem uJ (s:cC) (a:ch):(ct s a).1.bd.length<=s.bd.length+1:=by
 unfold ct;(repeat' split)<;>simp [fU]
def lj (ay:List bI) (k:Int):Int:=
 match ay[k.toNat]? with
 |none=>0
 |some c=>c.bN - c.held
def ec (b:Bk) (a cz:bC) (d:bx):List bI×List Int×List Entry×bY×bY×Int:=
 if d.move=1\/d.move=4 then ((cH b.ay 0 a.aO (bQ a - bQ cz) 0).1,b.due,b.book,b.s0,b.s1,(cH b.ay 0 a.aO (bQ a - bQ cz) 0).2)
 else if d.move=2\/d.move=3 then
  ((cH b.ay 0 a.aO (bQ a - bQ cz) (0 - d.sum)).1,b.due,(ed b.book (cH b.ay 0 a.aO (bQ a - bQ cz) (0 - d.sum)).2 (10+a.aO) 1 d.sum).1,
   (eQ b.s0 (ed b.book (cH b.ay 0 a.aO (bQ a - bQ cz) (0 - d.sum)).2 (10+a.aO) 1 d.sum).2 ⟨0,1,d.n,d.sum⟩).1,b.s1,
   (eQ b.s0 (ed b.book (cH b.ay 0 a.aO (bQ a - bQ cz) (0 - d.sum)).2 (10+a.aO) 1 d.sum).2 ⟨0,1,d.n,d.sum⟩).2)
 else if d.move=5 then
  (b.ay,b.due.set a.aE.toNat (IntKind.i64.wrap (b.due.getD a.aE.toNat 0 - d.sum)),(ed b.book 0 (50+a.aE) 1 d.sum).1,b.s0,(eQ b.s1 (ed b.book 0 (50+a.aE) 1 d.sum).2 ⟨0,2,d.n,d.sum⟩).1,(eQ b.s1 (ed b.book 0 (50+a.aE) 1 d.sum).2 ⟨0,2,d.n,d.sum⟩).2)
 else if d.move=6 then ((cH b.ay 0 a.aO 0 d.sum).1,b.due,(ed b.book (cH b.ay 0 a.aO 0 d.sum).2 2 (10+a.aO) d.sum).1,b.s0,b.s1,(ed b.book (cH b.ay 0 a.aO 0 d.sum).2 2 (10+a.aO) d.sum).2)
 else if d.move=7 then (b.ay,b.due,b.book,(eQ b.s0 0 ⟨0,3,d.n,d.sum⟩).1,b.s1,(eQ b.s0 0 ⟨0,3,d.n,d.sum⟩).2)
 else if d.move=8 then ((cH b.ay 0 a.aO 0 (0 - d.sum)).1,b.due,(ed b.book (cH b.ay 0 a.aO 0 (0 - d.sum)).2 (10+a.aO) 2 d.sum).1,b.s0,b.s1,(ed b.book (cH b.ay 0 a.aO 0 (0 - d.sum)).2 (10+a.aO) 2 d.sum).2)
 else (b.ay,b.due,b.book,b.s0,b.s1,0)
def nK (b:Bk) (a:bC) (d:bx) (r:List bI×List Int×List Entry×bY×bY×Int):Bk×Answer:=
 dd b { b with ay := r.1, due := r.2.1, book := r.2.2.1, s0 := r.2.2.2.1, s1 := r.2.2.2.2.1, aP := (jh b.aP r.2.2.2.2.2 ⟨a.aE, d.n, d.move, d.sum⟩).1, au := b.au.set d.n.toNat a } (jh b.aP r.2.2.2.2.2 ⟨a.aE, d.n, d.move, d.sum⟩).2
def dh (b:Bk) (d:bx):Bk×Answer:=
 if b.down=true then (b,⟨12,0⟩)
 else if d.n < 0\/d.n>=b.au.length then (b,⟨6,0⟩)
 else match b.au[d.n.toNat]? with
  |none=>(b,⟨0,0⟩)
  |some cz=>
   if (ck cz d.move d.sum).2≠0 then (b,⟨(ck cz d.move d.sum).2,0⟩)
   else if d.move=1/\d.sum > lj b.ay (ck cz d.move d.sum).1.aO then (b,⟨10,0⟩)
   else nK b (ck cz d.move d.sum).1 d (ec b (ck cz d.move d.sum).1 cz d)
theorem jD {a:bC} (h:0<=a.sum/\a.sum<=1000000/\0<=a.captured/\a.captured<=a.sum/\0<=a.bB/\0<=a.bq/\a.bB+a.bq<=a.captured/\0<=a.aO/\a.aO<=7/\0<=a.aE/\a.aE<=7/\0<=a.dc/\a.dc<=1000100):bL a=0:=by
 unfold bL;rw [if_neg (by omega),if_neg (by omega)]
theorem fm {α:Type} {x b:α} {e:Int} (h:(x,e)=(b,(0:Int))):x=b/\e=0:=Prod.mk.inj h
theorem xf {a b:bC} {k n:Int} (hw:bL a=0) (h1:1<=n) (h2:n<=1000000) (h:dQ a k n=(b,0)):bL b=0/\b.aO=a.aO/\b.aE=a.aE:=by
 have hr:=eZ hw
 unfold dQ at h
 by_cases c1:a.shut=true
 ·rw [if_pos c1] at h;have:=(fm h).2;omega
 rw [if_neg c1] at h
 by_cases c2:k=1
 ·rw [if_pos c2] at h
  by_cases c3:n > 1000000 - a.sum
  ·rw [if_pos c3] at h;have:=(fm h).2;omega
  ·rw [if_neg c3] at h;obtain ⟨rfl,_⟩:=fm h
   exact ⟨jD (by dsimp only;omega),rfl,rfl⟩
 rw [if_neg c2] at h
 by_cases c3:n > a.sum - a.captured
 ·rw [if_pos c3] at h;have:=(fm h).2;omega
 rw [if_neg c3] at h
 by_cases c4:k=4
 ·rw [if_pos c4] at h;obtain ⟨rfl,_⟩:=fm h
  exact ⟨jD (by dsimp only;omega),rfl,rfl⟩
 ·rw [if_neg c4] at h;obtain ⟨rfl,_⟩:=fm h
  exact ⟨jD (by dsimp only;omega),rfl,rfl⟩
theorem kQ {a b:bC} {k n:Int} (h:ck a k n=(b,0)):bL a=0/\bL b=0/\b.aO=a.aO/\b.aE=a.aE/\1<=k/\k<=8/\1<=n/\n<=1000000:=by
 unfold ck at h
 by_cases c0:bL a≠0
 ·rw [if_pos c0] at h;exact absurd (fm h).2 c0
 rw [if_neg c0] at h
 have hw:bL a=0:=by omega
 have hr:=eZ hw
 by_cases c1:k < 1\/k > 8
 ·rw [if_pos c1] at h;have:=(fm h).2;omega
 rw [if_neg c1] at h
 by_cases c2:n < 1\/n > 1000000
 ·rw [if_pos c2] at h;have:=(fm h).2;omega
 rw [if_neg c2] at h
 have hb:bL b=0/\b.aO=a.aO/\b.aE=a.aE:=by
  by_cases k5:k=5
  ·rw [if_pos k5] at h
   by_cases c:n > a.captured - a.bB - a.bq
   ·rw [if_pos c] at h;have:=(fm h).2;omega
   ·rw [if_neg c] at h;obtain ⟨rfl,_⟩:=fm h;exact ⟨jD (by dsimp only;omega),rfl,rfl⟩
  rw [if_neg k5] at h
  by_cases k6:k=6
  ·rw [if_pos k6] at h
   by_cases c:n > a.captured - a.bB - a.bq
   ·rw [if_pos c] at h;have:=(fm h).2;omega
   ·rw [if_neg c] at h;obtain ⟨rfl,_⟩:=fm h;exact ⟨jD (by dsimp only;omega),rfl,rfl⟩
  rw [if_neg k6] at h
  by_cases k7:k=7
  ·rw [if_pos k7] at h
   by_cases c:n > a.bq
   ·rw [if_pos c] at h;have:=(fm h).2;omega
   ·rw [if_neg c] at h;obtain ⟨rfl,_⟩:=fm h;exact ⟨jD (by dsimp only;omega),rfl,rfl⟩
  rw [if_neg k7] at h
  by_cases k8:k=8
  ·rw [if_pos k8] at h
   by_cases c:n > a.bq
   ·rw [if_pos c] at h;have:=(fm h).2;omega
   ·rw [if_neg c] at h;obtain ⟨rfl,_⟩:=fm h;exact ⟨jD (by dsimp only;omega),rfl,rfl⟩
  rw [if_neg k8] at h
  by_cases c:(dQ a k n).2≠0
  ·rw [if_pos c] at h;exact absurd (fm h).2 c
  ·rw [if_neg c] at h;exact xf hw (by omega) (by omega) h
 exact ⟨hw,hb.1,hb.2.1,hb.2.2,by omega,by omega,by omega,by omega⟩
theorem BG {c:bI} (h:cX c=0):-9223372036854775808<=c.bN - c.held/\c.bN - c.held<=9223372036854775807:=by
 have:=jv h;omega
def fX:List ch->List bI->List bC->List bI×List bC×Int
 |[],cs,xs=>(cs,xs,0)
 |x::l,cs,xs=>
  if (dr x.aO x.aE x.sum x.time).2≠0 then (cs,xs,(dr x.aO x.aE x.sum x.time).2)
  else match cs[x.aO.toNat]? with
   |none=>(cs,xs,0)
   |some c=>if (fa c x.sum).2≠0 then (cs,xs,(fa c x.sum).2) else fX l (cs.set x.aO.toNat (fa c x.sum).1) (xs++[(dr x.aO x.aE x.sum x.time).1])
theorem qI {l:List ch} {q:Nat} {x:ch} {cs:List bI} {xs:List bC} (h:l[q]?=some x):fX (l.drop q) cs xs=
  if (dr x.aO x.aE x.sum x.time).2≠0 then (cs,xs,(dr x.aO x.aE x.sum x.time).2)
  else match cs[x.aO.toNat]? with
   |none=>(cs,xs,0)
   |some c=>if (fa c x.sum).2≠0 then (cs,xs,(fa c x.sum).2) else fX (l.drop (q+1)) (cs.set x.aO.toNat (fa c x.sum).1) (xs++[(dr x.aO x.aE x.sum x.time).1]):=by
 obtain ⟨hq,rfl⟩:=List.getElem?_eq_some_iff.1 h
 rw [List.drop_eq_getElem_cons hq];rfl
def ir (b:Bk):Bk×Answer:=
 if b.down=false then (b,⟨8,0⟩)
 else if (cU b.bG).2.2≠0 then (b,⟨(cU b.bG).2.2,0⟩)
 else if (fX (cU b.bG).2.1 b.ay b.au).2.2≠0 then (b,⟨(fX (cU b.bG).2.1 b.ay b.au).2.2,0⟩)
 else (gD {b with ay:=(fX (cU b.bG).2.1 b.ay b.au).1,au:=(fX (cU b.bG).2.1 b.ay b.au).2.1,bG:=(cU b.bG).1,down:=false},⟨0,0⟩)
def fL (b:Bk) (d:bx):Bk×Answer:=
 match b.w0[0]? with
 |none=>(b,⟨6,0⟩)
 |some p=>
  if d.kind=7 then ({b with w0:=b.w0.drop 1},⟨0,0⟩)
  else if p.seen>=0 then (if (ej b.s0 p.seen).2=0 then ({b with w0:=b.w0.drop 1,s0:=(ej b.s0 p.seen).1},⟨0,0⟩) else (b,⟨(ej b.s0 p.seen).2,0⟩))
  else if (iB b.n0 p.cA).2=true then
   dd b { b with w0 := b.w0.drop 1, n0 := (iB b.n0 p.cA).1, due := (eO b.au b.due b.ay b.book 0 p.cA).1, ay := (eO b.au b.due b.ay b.book 0 p.cA).2.1, book := (eO b.au b.due b.ay b.book 0 p.cA).2.2.1 } (eO b.au b.due b.ay b.book 0 p.cA).2.2.2
  else ({b with w0:=b.w0.drop 1,n0:=(iB b.n0 p.cA).1},⟨0,0⟩)
def fK (b:Bk) (d:bx):Bk×Answer:=
 match b.w1[0]? with
 |none=>(b,⟨6,0⟩)
 |some p=>
  if d.kind=7 then ({b with w1:=b.w1.drop 1},⟨0,0⟩)
  else if p.seen>=0 then (if (ej b.s1 p.seen).2=0 then ({b with w1:=b.w1.drop 1,s1:=(ej b.s1 p.seen).1},⟨0,0⟩) else (b,⟨(ej b.s1 p.seen).2,0⟩))
  else if (iB b.n1 p.cA).2=true then
   dd b { b with w1 := b.w1.drop 1, n1 := (iB b.n1 p.cA).1, due := (eO b.au b.due b.ay b.book 0 p.cA).1, ay := (eO b.au b.due b.ay b.book 0 p.cA).2.1, book := (eO b.au b.due b.ay b.book 0 p.cA).2.2.1 } (eO b.au b.due b.ay b.book 0 p.cA).2.2.2
  else ({b with w1:=b.w1.drop 1,n1:=(iB b.n1 p.cA).1},⟨0,0⟩)
def cj (b:Bk) (d:bx):Bk×Answer:=if d.n=0 then fL b d else if d.n=1 then fK b d else (b,⟨6,0⟩)
def dk (b:Bk) (days:List (List Int)) (d:bx):Bk×List (List Int)×Answer:=
 if d.kind=1 then ((fc b d).1,days,(fc b d).2)
 else if d.kind=2 then ((dy b d).1,days,(dy b d).2)
 else if d.kind=3 then ((dh b d).1,days,(dh b d).2)
 else if d.kind=4 then ((eF b d).1,days,(eF b d).2)
 else if d.kind=5 then ({b with w0:=(ei b.s0 b.s1 b.n0 b.n1 b.w0 b.w1 d).1,w1:=(ei b.s0 b.s1 b.n0 b.n1 b.w0 b.w1 d).2.1},days,(ei b.s0 b.s1 b.n0 b.n1 b.w0 b.w1 d).2.2)
 else if d.kind=6\/d.kind=7 then ((cj b d).1,days,(cj b d).2)
 else if d.kind=8 then (if b.down=true then (b,days,⟨8,0⟩) else ({b with down:=true},days,⟨0,0⟩))
 else if d.kind=9 then ((ir b).1,days,(ir b).2)
 else if d.kind=10 then ({b with aP:=(fZ b.aP days).1},(fZ b.aP days).2.1,(fZ b.aP days).2.2)
 else if d.kind=11 then ((fT b d).1,days,(fT b d).2)
 else (b,days,⟨1,0⟩)
def dG (b:Bk) (days:List (List Int)) (told:List (Int×Answer)) (cl:Nat) (d:bx):Bk×List (List Int)×List (Int×Answer)×Nat×Answer:=
 if (ft told d.id).isSome=true/\d.id≠0 then (b,days,told,cl,(ft told d.id).getD ⟨0,0⟩)
 else ((dk b days d).1,(dk b days d).2.1,lq told d.id (dk b days d).2.2,if (ft told d.id).isSome then cl else cl+1,(dk b days d).2.2)
structure Setup where (cZ:List eI) (gT cap:Int)
 deriving DecidableEq
def oI:List eI->Int->cW
 |[],_=>⟨0,0⟩
 |p::l,i=>if fC p≠0 then ⟨fC p,i⟩ else oI l (i+1)
theorem tW {l:List eI} {q:Nat} {p:eI} (h:l[q]?=some p):oI (l.drop q) q=if fC p≠0 then ⟨fC p,q⟩ else oI (l.drop (q+1)) ((q+1:Nat):Int):=by
 obtain ⟨hq,rfl⟩:=List.getElem?_eq_some_iff.1 h
 rw [List.drop_eq_getElem_cons hq];rfl
def er (s:Setup):cW:=
 if s.cZ.length > 8\/s.gT < 0\/s.gT > 8 then ⟨5,0⟩ else if s.cap < 0\/s.cap > 1000000 then ⟨3,0⟩ else oI s.cZ 0
def EW:Bk:=⟨0,false,[],[],[],⟨0,[]⟩,⟨0,[]⟩,0,0,[],[],⟨0,[],[]⟩,[],[]⟩
def pO (p:eI):bI:=⟨0,0,p,[]⟩
def dJ (s:Setup):Bk:=⟨0,false,s.cZ.map pO,List.replicate s.gT.toNat 0,[],⟨0,[]⟩,⟨0,[]⟩,0,0,[],[],(dL s.cap s.cZ.length).1,[],[]⟩
def jB:List bx->Bk->List (List Int)->List (Int×Answer)->Nat->List Answer->Bk×List (List Int)×List Answer
 |[],b,days,_,_,out=>(b,days,out)
 |d::l,b,days,told,cl,out=>jB l (dG b days told cl d).1 (dG b days told cl d).2.1 (dG b days told cl d).2.2.1 (dG b days told cl d).2.2.2.1 (out++[(dG b days told cl d).2.2.2.2])
theorem yK {l:List bx} {q:Nat} {d:bx} {b:Bk} {days:List (List Int)} {told:List (Int×Answer)} {cl:Nat} {out:List Answer} (h:l[q]?=some d):
  jB (l.drop q) b days told cl out=jB (l.drop (q+1)) (dG b days told cl d).1 (dG b days told cl d).2.1 (dG b days told cl d).2.2.1 (dG b days told cl d).2.2.2.1 (out++[(dG b days told cl d).2.2.2.2]):=by
 obtain ⟨hq,rfl⟩:=List.getElem?_eq_some_iff.1 h
 rw [List.drop_eq_getElem_cons hq];rfl
def hO (s:Setup) (l:List bx):Bk×List (List Int)×List Answer×cW:=
 if (er s).err≠0 then (EW,[],[],er s) else if l.length > 150 then (EW,[],[],⟨5,0⟩)
 else ((jB l (dJ s) [] [] 0 []).1,(jB l (dJ s) [] [] 0 []).2.1,(jB l (dJ s) [] [] 0 []).2.2,⟨0,0⟩)
theorem yU {time:Int} {l:List bC} {q:Nat} {a:bC} {ay:List bI} {au:List bC} {e:Int} (h:l[q]?=some a):fG time (l.drop q) q ay au e=
  fG time (l.drop (q+1)) (q+1) (cH ay e a.aO (bQ (eh a time) - bQ a) 0).1 (au.set q (eh a time)) (cH ay e a.aO (bQ (eh a time) - bQ a) 0).2:=by
 obtain ⟨hq,rfl⟩:=List.getElem?_eq_some_iff.1 h
 rw [List.drop_eq_getElem_cons hq];rfl
theorem fv (l:List bI) (e k held bN:Int):(cH l e k held bN).1.length=l.length:=by
 unfold cH
 split
 ·rfl
 ·split<;>simp
theorem ya {a:bC} {t:Int} (h:bL a=0):bL (eh a t)=0:=by
 unfold bL at h ⊢;unfold eh;exact h
theorem oT {a:bC} (h:bL a=0):0<=bQ a/\bQ a<=1000000:=by
 have:=eZ h
 unfold bQ;split<;>omega
structure cu (b:Bk):Prop where
 time:0<=b.time/\b.time<=1000000
 ay:b.ay.length<=8
 due:b.due.length<=8
 au:b.au.length+b.bG.bd.length<=30
 aP:b.aP.length<=100
 w0:b.w0.length<=60
 w1:b.w1.length<=60
 perm:∀ a∈b.au,bL a=0/\0<=a.aO/\a.aO < b.ay.length/\0<=a.aE/\a.aE < b.due.length
 jR:∀ a∈b.bG.bd,0<=a.aO/\a.aO < b.ay.length/\0<=a.aE/\a.aE < b.due.length
 k0:∀ t∈b.s0.kept,fj t.number/\0<=t.ba/\t.ba < b.au.length
 k1:∀ t∈b.s1.kept,fj t.number/\0<=t.ba/\t.ba < b.au.length
 right:∀ c∈b.ay,cX c=0
 l0:b.s0.kept.length<=40
 l1:b.s1.kept.length<=40
 p0:∀ p∈b.w0,p.seen < 0->fj p.cA.number/\0<=p.cA.ba/\p.cA.ba < b.au.length
 p1:∀ p∈b.w1,p.seen < 0->fj p.cA.number/\0<=p.cA.ba/\p.cA.ba < b.au.length
 n0:0<=b.n0
 n1:0<=b.n1
 calm:b.down=false->b.bG.bd=[]
theorem cu.tick {b:Bk} (h:cu b) {t:Int} (h0:0<=t) (h1:t<=1000000):cu {b with time:=t}:=
 ⟨⟨h0,h1⟩,h.ay,h.due,h.au,h.aP,h.w0,h.w1,h.perm,h.jR,h.k0,h.k1,h.right,h.l0,h.l1,h.p0,h.p1,h.n0,h.n1,h.calm⟩
def Al (x:eI):Prop:=fj x.cQ/\fj x.count/\fj x.sum
theorem yM:kp Try.prog 58 3 hM Al:=⟨fun _=>rfl,fun H enc w base spare held n cs y h=>by
  obtain ⟨hl,m,hF⟩:=pa Try.underlying58 h
  obtain ⟨⟨a0,q0,r0⟩,hF⟩:=fb (o:=0) (o':=1) hF (gd Try.underlying3) rfl (by kernel_rfl) rfl
  obtain ⟨⟨a1,q1,r1⟩,hF⟩:=fb (o:=1) (o':=2) hF (gd Try.underlying3) rfl (by kernel_rfl) rfl
  obtain ⟨⟨a2,q2,r2⟩,hF⟩:=fb (o:=2) (o':=3) hF (gd Try.underlying3) rfl (by kernel_rfl) rfl
  exact ⟨⟨a0,a1,a2⟩,r0 _ (r1 _ (r2 _ (nG (hl.trans (by kernel_rfl))))),q0,q1,q2⟩⟩
def Am (x:bx):Prop:=fj x.id/\fj x.kind/\fj x.n/\fj x.aE/\fj x.move/\fj x.sum
theorem yN:kp Try.prog 27 6 dg Am:=⟨fun _=>rfl,fun H enc w base spare held n cs y h=>by
  obtain ⟨hl,m,hF⟩:=pa Try.underlying27 h
  obtain ⟨⟨a0,q0,r0⟩,hF⟩:=fb (o:=0) (o':=1) hF (gd Try.underlying3) rfl (by kernel_rfl) rfl
  obtain ⟨⟨a1,q1,r1⟩,hF⟩:=fb (o:=1) (o':=2) hF (gd Try.underlying3) rfl (by kernel_rfl) rfl
  obtain ⟨⟨a2,q2,r2⟩,hF⟩:=fb (o:=2) (o':=3) hF (gd Try.underlying3) rfl (by kernel_rfl) rfl
  obtain ⟨⟨a3,q3,r3⟩,hF⟩:=fb (o:=3) (o':=4) hF (gd Try.underlying3) rfl (by kernel_rfl) rfl
  obtain ⟨⟨a4,q4,r4⟩,hF⟩:=fb (o:=4) (o':=5) hF (gd Try.underlying3) rfl (by kernel_rfl) rfl
  obtain ⟨⟨a5,q5,r5⟩,hF⟩:=fb (o:=5) (o':=6) hF (gd Try.underlying3) rfl (by kernel_rfl) rfl
  exact ⟨⟨a0,a1,a2,a3,a4,a5⟩,r0 _ (r1 _ (r2 _ (r3 _ (r4 _ (r5 _ (nG (hl.trans (by kernel_rfl)))))))),q0,q1,q2,q3,q4,q5⟩⟩
def Gk (x:Setup):List D:=[.r 3 (x.cZ.map hM),dI x.gT,dI x.cap]
def Ef (x:Setup):Prop:=((∀ y∈x.cZ,Al y)/\x.cZ.length<=9223372036854775807)/\fj x.gT/\fj x.cap
theorem xe:kp Try.prog 55 3 Gk Ef:=⟨fun _=>rfl,fun H enc w base spare held n cs y h=>by
  obtain ⟨hl,m,hF⟩:=pa Try.underlying55 h
  obtain ⟨⟨a0,q0,r0⟩,hF⟩:=fb (o:=0) (o':=1) hF (qh Try.underlying53 (by kernel_rfl) (by decide) yM) rfl (by kernel_rfl) rfl
  obtain ⟨⟨a1,q1,r1⟩,hF⟩:=fb (o:=1) (o':=2) hF (gd Try.underlying3) rfl (by kernel_rfl) rfl
  obtain ⟨⟨a2,q2,r2⟩,hF⟩:=fb (o:=2) (o':=3) hF (gd Try.underlying3) rfl (by kernel_rfl) rfl
  exact ⟨⟨a0,a1,a2⟩,r0 _ (r1 _ (r2 _ (nG (hl.trans (by kernel_rfl))))),q0,q1,q2⟩⟩
theorem Ci:kp Try.prog 27 6 dg Am:=yN

def aW (b:Bk) (i j k m:Nat) (u v:CV):List CV:=[(cI b.time),(cB b.down),(.s i 0 6 b.ay.length),(.s j 0 1 b.due.length),(.s k 0 8 b.au.length),(cI b.s0.bX),(dj b.s0.kept),(cI b.s1.bX),(dj b.s1.kept),(cI b.n0),(cI b.n1),(eu b.w0),(eu b.w1),(cI b.bG.cap),(gM b.bG.used),(iq b.bG.bd),(.s m 0 4 b.aP.length),u,(dW b.book),v]
def bh (x:Nat->Value):List CV:=[.d (.v (x 0)),.d (.v (x 1)),.d (.v (x 2)),.d (.v (x 3)),.d (.v (x 4)),.d (.v (x 5)),.d (.v (x 6)),.d (.v (x 7)),.d (.v (x 8)),.d (.v (x 9)),.d (.v (x 10)),.d (.v (x 11)),.d (.v (x 12)),.d (.v (x 13)),.d (.v (x 14)),.d (.v (x 15)),.d (.v (x 16)),.d (.v (x 17)),.d (.v (x 18)),.d (.v (x 19))]
def dE:List (Option CV):=[none,none,none,none,none,none,none,none,none,none,none,none,none,none,none,none,none,none,none,none]
def jo (b:Bk) (i j k m:Nat) (u v:Option CV):List (Option CV):=[some (cI b.time),some (cB b.down),some (.s i 0 6 b.ay.length),some (.s j 0 1 b.due.length),some (.s k 0 8 b.au.length),some (cI b.s0.bX),some (dj b.s0.kept),some (cI b.s1.bX),some (dj b.s1.kept),some (cI b.n0),some (cI b.n1),some (eu b.w0),some (eu b.w1),some (cI b.bG.cap),some (gM b.bG.used),some (iq b.bG.bd),some (.s m 0 4 b.aP.length),u,some (dW b.book),v]


theorem wB (a b c:Int):Fn Try.prog 44 [(.g [(cI a),(cI b),(cI c)])] (aI (kW a b c)) []:=by
 refine Fn.mk' 31 [(0,(aG [(cI a),(cI b),(cI c)]))] Try.func44 rfl rfl rfl rfl ?_
 intro W0 T0
 refine ae aa 2 rfl ?_
 refine ag ?_
 refine cw 30 ((((((decide (a < 1))||(decide (a > 1000000)))||(decide (b < 0)))||(decide (b > 30)))||(decide (c < 0)))||(decide (c > 1000000000000))) ?_ ?_
 ·
  refine ax ?_
  refine ad aa 4 rfl ?_
  refine bE (t:=6) rfl (fun hb1=>?_) (fun hb1=>?_)
  ·
   have hb1':=of_decide_eq_true hb1
   refine ad aa 24 rfl ?_
   refine af ?_
   exact aH.bD 29 rfl rfl (by first|(simp [hb1];done)|(simp_all;done)|(exfalso;simp_all;done)|(simp_all;omega)) rfl
  have hb1':=of_decide_eq_false hb1
  refine ad aa 5 rfl ?_
  refine bE (t:=11) rfl (fun hb2=>?_) (fun hb2=>?_)
  ·
   have hb2':=of_decide_eq_true hb2
   refine ad aa 19 rfl ?_
   refine af ?_
   exact aH.bD 30 rfl rfl (by first|(simp [hb1,hb2];done)|(simp_all;done)|(exfalso;simp_all;done)|(simp_all;omega)) rfl
  have hb2':=of_decide_eq_false hb2
  refine ad aa 5 rfl ?_
  refine bE (t:=16) rfl (fun hb3=>?_) (fun hb3=>?_)
  ·
   have hb3':=of_decide_eq_true hb3
   refine ad aa 14 rfl ?_
   refine af ?_
   exact aH.bD 31 rfl rfl (by first|(simp [hb1,hb2,hb3];done)|(simp_all;done)|(exfalso;simp_all;done)|(simp_all;omega)) rfl
  have hb3':=of_decide_eq_false hb3
  refine ad aa 5 rfl ?_
  refine bE (t:=21) rfl (fun hb4=>?_) (fun hb4=>?_)
  ·
   have hb4':=of_decide_eq_true hb4
   refine ad aa 9 rfl ?_
   refine af ?_
   exact aH.bD 32 rfl rfl (by first|(simp [hb1,hb2,hb3,hb4];done)|(simp_all;done)|(exfalso;simp_all;done)|(simp_all;omega)) rfl
  have hb4':=of_decide_eq_false hb4
  refine ad aa 5 rfl ?_
  refine bE (t:=26) rfl (fun hb5=>?_) (fun hb5=>?_)
  ·
   have hb5':=of_decide_eq_true hb5
   refine ad aa 4 rfl ?_
   refine af ?_
   exact aH.bD 33 rfl rfl (by first|(simp [hb1,hb2,hb3,hb4,hb5];done)|(simp_all;done)|(exfalso;simp_all;done)|(simp_all;omega)) rfl
  have hb5':=of_decide_eq_false hb5
  refine ad aa 4 rfl ?_
  refine af ?_
  exact aH.bD 33 rfl rfl (by first|(simp [hb1,hb2,hb3,hb4,hb5];done)|(simp_all;done)|(exfalso;simp_all;done)|(simp_all;omega)) rfl
 refine aj rfl (fun hc6=>?_) (fun hc6=>?_)
 ·
  have hc6':=hc6;try simp only [br,bR] at hc6'
  refine ae aa 1 rfl ?_
  refine az ?_
  refine an ?_
  refine al aa [] 0 rfl rfl rfl rfl rfl rfl ?_ ?_
  ·(show aI _=aI _;unfold kW;rw [if_pos (by omega)])
  ·rfl
 have hc6':=hc6;try simp only [br,bR] at hc6'
 refine aS ?_
 refine ae aa 1 rfl ?_
 refine az ?_
 refine al aa [] 0 rfl rfl rfl rfl rfl rfl ?_ ?_
 ·(show aI _=aI _;unfold kW;rw [if_neg (by omega)])
 ·rfl

theorem xo (l:List db):Fn Try.prog 45 [(.c (fB l))] (aG [cI (cY l).1,cI (cY l).2]) []:=by
 refine Fn.mk' 53 [(0,(aC (fB l)))] Try.func45 rfl rfl rfl rfl ?_
 intro W0 T0
 refine dt 0 rfl (fun hlen0=>?_)
 refine ae aa 1 rfl ?_
 refine ag ?_
 refine aF aa 1 rfl ?_
 refine aA (cF rfl rfl rfl rfl rfl Try.underlying59) rfl ?_
 refine ad aa 1 rfl ?_
 refine af ?_
 refine aj rfl (fun hc1=>?_) (fun hc1=>?_)
 ·
  have hc1':=of_decide_eq_true hc1
  refine ae aa 2 rfl ?_
  refine az ?_
  refine an ?_
  refine al aa [0] 0 rfl rfl rfl rfl rfl rfl ?_ ?_
  ·(have h:cY l=(5,0):=by (unfold cY;rw [if_pos (by omega)]));rw [h];rfl
  ·rfl
 have hc1':=of_decide_eq_false hc1
 refine aS ?_
 refine ag ?_
 refine aF aa 1 rfl ?_
 refine aA (cF rfl rfl rfl rfl rfl Try.underlying59) rfl ?_
 refine ad aa 1 rfl ?_
 refine af ?_
 refine aY ?_
 refine cE (β:=Nat) (fun (q:Nat)=>⟨[(0,(aC (fB l))),(2,(aC (.p 0 0 0 0))),(9,(aC (fB l))),(10,(aI (↑l.length:Int))),(11,(aI (↑q:Int)))],[(0,(.box 50 [(cI 0),(cI 0)]))],1⟩) (fun (q:Nat)=>q<=l.length/\scan (lp l) 0 l.length=scan (lp l) q (l.length - q)) (fun (q:Nat)=>l.length - q) 0 ?_ ?_ ?_
 ·exact ⟨by omega,rfl⟩
 ·exact aH.ca id (by refine ⟨?_,?_,?_,?_,?_,trivial⟩<;>first|rfl|(simp only [bu];done)|(congr 3;omega)|(congr 4;omega)|(simp only [bw];rfl)) (⟨by first|rfl|(simp only [bu];done)|(congr 3;omega)|(congr 4;omega)|(simp only [bw];rfl),trivial⟩) rfl
 rintro q ⟨hi0_0,hi0_1⟩
 refine ae aa 1 rfl ?_
 refine ag ?_
 refine aj rfl (fun hc2=>?_) (fun hc2=>?_)
 ·
  have hc2':=of_decide_eq_true hc2
  refine aS ?_
  refine ag ?_
  refine aY ?_
  refine aF aa 1 rfl ?_
  obtain ⟨x1,hx1⟩:=cf (xs:=l) (i:=q) (by first|omega|(simp;done)|(simp;omega))
  refine aA (cD (i:=q) rfl rfl rfl Try.underlying59 iP (by first|omega|(simp;done)|(simp;omega)) (bp hx1)) rfl ?_
  refine ad aa 4 rfl ?_
  refine af ?_
  refine ag ?_
  refine cw 33 ((((decide (x1.time < 0))||(decide (x1.time > 1000000)))||(decide (x1.sum < 0)))||(decide (x1.sum > 1000000))) ?_ ?_
  ·
   refine ax ?_
   refine ad aa 4 rfl ?_
   refine bE (t:=19) rfl (fun hb3=>?_) (fun hb3=>?_)
   ·
    have hb3':=of_decide_eq_true hb3
    refine ad aa 14 rfl ?_
    refine af ?_
    exact aH.bD 19 rfl rfl (by first|(simp [hb3];done)|(simp_all;done)|(exfalso;simp_all;done)|(simp_all;omega)) rfl
   have hb3':=of_decide_eq_false hb3
   refine ad aa 5 rfl ?_
   refine bE (t:=24) rfl (fun hb4=>?_) (fun hb4=>?_)
   ·
    have hb4':=of_decide_eq_true hb4
    refine ad aa 9 rfl ?_
    refine af ?_
    exact aH.bD 20 rfl rfl (by first|(simp [hb3,hb4];done)|(simp_all;done)|(exfalso;simp_all;done)|(simp_all;omega)) rfl
   have hb4':=of_decide_eq_false hb4
   refine ad aa 5 rfl ?_
   refine bE (t:=29) rfl (fun hb5=>?_) (fun hb5=>?_)
   ·
    have hb5':=of_decide_eq_true hb5
    refine ad aa 4 rfl ?_
    refine af ?_
    exact aH.bD 21 rfl rfl (by first|(simp [hb3,hb4,hb5];done)|(simp_all;done)|(exfalso;simp_all;done)|(simp_all;omega)) rfl
   have hb5':=of_decide_eq_false hb5
   refine ad aa 4 rfl ?_
   refine af ?_
   exact aH.bD 21 rfl rfl (by first|(simp [hb3,hb4,hb5];done)|(simp_all;done)|(exfalso;simp_all;done)|(simp_all;omega)) rfl
  refine aj rfl (fun hc6=>?_) (fun hc6=>?_)
  ·
   have hc6':=hc6;try simp only [br,bR] at hc6'
   refine ae aa 3 rfl ?_
   refine az ?_
   refine an ?_
   refine bc ?_
   refine an ?_
   refine an ?_
   refine bc ?_
   refine an ?_
   refine al aa [0] 0 rfl rfl rfl rfl rfl rfl ?_ ?_
   ·(have h:cY l=(3,(q:Int)):=by (unfold cY;rw [if_neg (by omega),hi0_1];exact iC (by omega) (show lp l q=3 by (unfold lp;simp only [hx1];rw [if_pos (by omega)])) (by decide)));rw [h];rfl
   ·rfl
  have hc6':=hc6;try simp only [br,bR] at hc6'
  refine aS ?_
  refine ag ?_
  rcases Bool.eq_false_or_eq_true (decide ((↑q:Int) > 0)) with hb7|hb7
  ·
   have hb7':=of_decide_eq_true hb7
   obtain ⟨x2,hx2⟩:=cf (xs:=l) (i:=(q) - 1) (by first|omega|(simp;done)|(simp;omega))
   refine aX [0,2,9,10,11,4,3] [1,0] mixed rfl rfl ?_
   refine aD (kn:=[(37,true)]) aa 5 rfl ⟨hb7,trivial⟩ ?_
   refine aT (n':=2) [40,38] [] rfl rfl (.inl ⟨(ak.yes rfl rfl rfl),aK.cast (aM rfl rfl rfl (aL (by first|omega|(simp;done)|(simp;omega)))) rfl⟩) rfl ?_
   refine aT (n':=2) [39,41,38] [] rfl rfl (.inl ⟨(ak.yes rfl rfl rfl),aK.cast (cD (i:=(q) - 1) rfl rfl rfl Try.underlying59 iP (by first|omega|(simp;done)|(simp;omega)) (bp hx2)) rfl⟩) rfl ?_
   refine aD (kn:=[]) aa 6 rfl trivial ?_
   refine bA [1,0] rfl rfl rfl rfl (by kernel_rfl) ?_
   refine af ?_
   refine aj rfl (fun hc8=>?_) (fun hc8=>?_)
   ·
    have hc8':=of_decide_eq_true hc8
    refine ae aa 3 rfl ?_
    refine az ?_
    refine bc ?_
    refine an ?_
    refine an ?_
    refine bc ?_
    refine an ?_
    refine al aa [0] 0 rfl rfl rfl rfl rfl rfl ?_ ?_
    ·(have h:cY l=(2,(q:Int)):=by (unfold cY;rw [if_neg (by omega),hi0_1];exact iC (by omega) (show lp l q=2 by (unfold lp;simp only [hx1];rw [if_neg (by omega),if_pos (by refine ⟨by omega,?_⟩;rw [List.getD_eq_getElem?_getD,hx2];simp only [Option.getD_some];omega)])) (by decide)));rw [h];rfl
    ·rfl
   have hc8':=of_decide_eq_false hc8
   refine da ?_
   refine bm ?_
   refine then_ok ?_
   refine ax ?_
   refine aA (aM rfl rfl rfl (aL (by first|omega|(simp;done)|(simp;omega)))) rfl ?_
   refine ad aa 1 rfl ?_
   refine af ?_
   refine ⟨q+1,⟨by omega,by rw [hi0_1];exact mR (by omega) (by unfold lp;simp only [hx1];rw [if_neg (by omega),if_neg (by first|omega|(rw [List.getD_eq_getElem?_getD,hx2];simp only [Option.getD_some];omega))])⟩,by first|omega|(simp;done)|(simp;omega),aH.ca id (by refine ⟨?_,?_,?_,?_,?_,trivial⟩<;>first|rfl|(simp only [bu];done)|(congr 3;omega)|(congr 4;omega)|(simp only [bw];rfl)) (⟨by first|rfl|(simp only [bu];done)|(congr 3;omega)|(congr 4;omega)|(simp only [bw];rfl),trivial⟩) rfl⟩
  have hb7':=of_decide_eq_false hb7
  refine aX [0,2,9,10,11,4,3] [1,0] mixed rfl rfl ?_
  refine aD (kn:=[(37,false)]) aa 13 rfl ⟨hb7,trivial⟩ ?_
  refine bA [1,0] rfl rfl rfl rfl (by kernel_rfl) ?_
  refine af ?_
  refine aj rfl (fun hno=>by cases hno) (fun _=>?_)
  refine da ?_
  refine bm ?_
  refine then_ok ?_
  refine ax ?_
  refine aA (aM rfl rfl rfl (aL (by first|omega|(simp;done)|(simp;omega)))) rfl ?_
  refine ad aa 1 rfl ?_
  refine af ?_
  refine ⟨q+1,⟨by omega,by rw [hi0_1];exact mR (by omega) (by unfold lp;simp only [hx1];rw [if_neg (by omega),if_neg (by first|omega|(rw [List.getD_eq_getElem?_getD,hx2];simp only [Option.getD_some];omega))])⟩,by first|omega|(simp;done)|(simp;omega),aH.ca id (by refine ⟨?_,?_,?_,?_,?_,trivial⟩<;>first|rfl|(simp only [bu];done)|(congr 3;omega)|(congr 4;omega)|(simp only [bw];rfl)) (⟨by first|rfl|(simp only [bu];done)|(congr 3;omega)|(congr 4;omega)|(simp only [bw];rfl),trivial⟩) rfl⟩
 have hc2':=of_decide_eq_false hc2
 refine cv ?_
 refine aU ?_
 refine aU ?_
 refine bS ?_
 refine then_ok ?_
 refine ae aa 2 rfl ?_
 refine az ?_
 refine al aa [0] 0 rfl rfl rfl rfl rfl rfl ?_ ?_
 ·(have h:cY l=(0,0):=by (unfold cY;rw [if_neg (by omega),hi0_1,np (by omega)]));rw [h];rfl
 ·rfl

theorem xz (l:List db) (fn:FuncId) (bg:List (List D)) (pr:db->Bool) (hp:∀ x:db,Fn Try.prog fn ([.g [cI x.time,cI x.sum]]++bg.map fun r=>GV.c (.q r 0)) (aB (pr x)) []) (hen:bl Try.prog fn) (r:Int) (hr:ik pr l=r):Fn Try.prog 123 [(.c (fB l)),(.c (.d (.f fn bg)))] (.v (.c (cI r))) []:=by
 refine Fn.mk' 19 [(0,(aC (fB l))),(1,(aC (.d (.f fn bg))))] Try.func123 rfl rfl rfl rfl ?_
 intro W0 T0
 refine dt 0 rfl (fun hlen0=>?_)
 refine ae aa 1 rfl ?_
 refine ag ?_
 refine aF aa 1 rfl ?_
 refine aA (cF rfl rfl rfl rfl rfl Try.underlying59) rfl ?_
 refine ad aa 1 rfl ?_
 refine af ?_
 refine aY ?_
 refine cE (β:=Nat) (fun (q:Nat)=>⟨[(0,(aC (fB l))),(1,(aC (.d (.f fn bg)))),(7,(aI (↑l.length:Int))),(8,(aI (↑q:Int)))],[],0⟩) (fun (q:Nat)=>q<=l.length/\(l.take q).all (fun y=>!pr y)=true) (fun (q:Nat)=>l.length - q) 0 ?_ ?_ ?_
 ·exact ⟨by omega,by simp⟩
 ·exact aH.ca id (by refine ⟨?_,?_,?_,?_,trivial⟩<;>first|rfl|(simp only [bu];done)|(congr 3;omega)|(congr 4;omega)|(simp only [bw];rfl)) (trivial) rfl
 rintro q ⟨hi0_0,hi0_1⟩
 refine ae aa 1 rfl ?_
 refine ag ?_
 refine aj rfl (fun hc1=>?_) (fun hc1=>?_)
 ·
  have hc1':=of_decide_eq_true hc1
  refine aS ?_
  refine ag ?_
  refine aY ?_
  refine ae aa 2 rfl ?_
  refine aF aa 3 rfl ?_
  obtain ⟨x1,hx1⟩:=cf (xs:=l) (i:=q) (by first|omega|(simp;done)|(simp;omega))
  refine aA (cD (i:=q) rfl rfl rfl Try.underlying59 iP (by first|omega|(simp;done)|(simp;omega)) (bp hx1)) rfl ?_
  refine ad aa 1 rfl ?_
  refine aA (gZ 0 (hp x1) hen rfl rfl rfl ⟨⟨_,rfl,.g ⟨.d _,.d _,trivial⟩⟩,trivial⟩ trivial trivial rfl rfl rfl rfl) rfl ?_
  refine af ?_
  refine aj rfl (fun hc2=>?_) (fun hc2=>?_)
  ·
   have hc2':=hc2;try simp only [br,bR] at hc2'
   refine ae aa 2 rfl ?_
   refine az ?_
   refine bc ?_
   refine an ?_
   refine an ?_
   refine bc ?_
   refine an ?_
   have hX:ik pr l=(↑q:Int):=by
     exact uh hi0_1 hx1 hc2
   rw [hX] at hr;clear hX
   subst hr
   refine al aa [] 0 rfl rfl rfl rfl rfl rfl ?_ ?_
   all_goals first|rfl|(simp [aw];done)|(simp [aw];omega)
  have hc2':=hc2;try simp only [br,bR] at hc2'
  refine da ?_
  refine bm ?_
  refine then_ok ?_
  refine ax ?_
  refine aA (aM rfl rfl rfl (aL (by first|omega|(simp;done)|(simp;omega)))) rfl ?_
  refine ad aa 1 rfl ?_
  refine af ?_
  refine ⟨q+1,⟨by omega,wS hi0_1 hx1 hc2⟩,by first|omega|(simp;done)|(simp;omega),aH.ca id (by refine ⟨?_,?_,?_,?_,trivial⟩<;>first|rfl|(simp only [bu];done)|(congr 3;omega)|(congr 4;omega)|(simp only [bw];rfl)) (trivial) rfl⟩
 have hc1':=of_decide_eq_false hc1
 refine cv ?_
 refine aU ?_
 refine aU ?_
 refine bS ?_
 refine then_ok ?_
 refine ae aa 1 rfl ?_
 refine az ?_
 have hX:ik pr l=(-1):=by
   exact vV (by rw [<-List.take_of_length_le (l:=l) (i:=q) (by omega)];exact hi0_1)
 rw [hX] at hr;clear hX
 subst hr
 refine al aa [] 0 rfl rfl rfl rfl rfl rfl ?_ ?_
 all_goals first|rfl|(simp [aw];done)|(simp [aw];omega)
theorem wL (l:List db) (fn:FuncId) (bg:List (List D)) (pr:db->Bool) (hp:∀ x:db,Fn Try.prog fn ([.g [cI x.time,cI x.sum]]++bg.map fun r=>GV.c (.q r 0)) (aB (pr x)) []) (hen:bl Try.prog fn) (r:List db) (hr:dP pr l=r):cJ Try.prog 117 [(.c (.s 0 0 2 l.length)),(.c (.d (.f fn bg)))] [(0,(po l))] [] (.v (.c (.s 0 0 2 r.length))) [(0,(po r))]:=by
 refine cJ.mk 42 [(0,(aC (.s 0 0 2 l.length))),(1,(aC (.d (.f fn bg))))] 1 Try.func117 rfl rfl rfl rfl rfl rfl rfl rfl rfl ?_
 intro W0 F0 T0 pg
 refine gJ 0 rfl (fun hlen0=>?_)
 have hic:=ui pr l
 have hib:ik pr l<=l.length/\-1<=ik pr l:=by rcases hic with ⟨h,_⟩|⟨i,h,h1,_⟩<;>omega
 refine ae aa 1 rfl ?_
 refine aF aa 2 rfl ?_
 obtain ⟨r0,hr0⟩:∃ (r0:Int),ik pr l=r0:=⟨_,rfl⟩
 refine aQ 1 [0] (fe 1 [0] (xz l fn bg pr hp hen r0 hr0) GQ rfl rfl ⟨⟨_,rfl,.c (.s rfl (by decide) (by first|omega|(simp;done)|(simp;omega)))⟩,⟨_,rfl,.c (.d _)⟩,trivial⟩ rfl trivial rfl rfl rfl rfl) rfl ?_
 refine ad aa 1 rfl ?_
 refine af ?_
 refine ag ?_
 refine ae aa 2 rfl ?_
 refine aj rfl (fun hc1=>?_) (fun hc1=>?_)
 ·
  have hc1':=of_decide_eq_true hc1
  refine ae aa 2 rfl ?_
  refine az ?_
  refine an ?_
  have hX:dP pr l=l:=by
    rcases hic with ⟨_,h⟩|⟨i0,h,_⟩
    ·exact h
    ·exfalso;omega
  rw [hX] at hr;clear hX
  subst hr
  refine al aa [0] 1 rfl rfl rfl rfl rfl rfl ?_ ?_
  all_goals first|rfl|(simp [aw];done)|(simp [aw];omega)
 have hc1':=of_decide_eq_false hc1
 refine aS ?_
 refine ag ?_
 refine aF aa 1 rfl ?_
 refine aA (aM rfl rfl rfl (aL (by first|omega|(simp;done)|(simp;omega)))) rfl ?_
 refine ad aa 1 rfl ?_
 refine af ?_
 refine aY ?_
 obtain ⟨i0,hi0,hil,x0,hx0,hp0,hk0⟩:∃ i:Nat,ik pr l=i/\i < l.length/\∃ x,l[i]?=some x/\pr x=true/\dP pr (l.take i)=l.take i:=by
     rcases hic with ⟨h,_⟩|h
     ·exfalso;omega
     ·exact h
 obtain rfl:r0=(i0:Int):=by omega
 refine cE (β:=Nat×Nat×List db) (fun (p:Nat×Nat×List db)=>match p with|(j,i,c)=>⟨[(0,(aC (.s 0 0 2 l.length))),(1,(aC (.d (.f fn bg)))),(4,(aC cN)),(5,(aI (↑i:Int))),(6,(aI (↑j:Int)))],[(0,(po c))],1⟩) (fun (p:Nat×Nat×List db)=>match p with|(j,i,c)=>lE pr l c i j) (fun (p:Nat×Nat×List db)=>match p with|(j,i,c)=>l.length - j) (i0+1,i0,l) ?_ ?_ ?_
 ·exact lE.start hx0 hp0 hk0
 ·exact aH.ca id (by refine ⟨?_,?_,?_,?_,?_,trivial⟩<;>first|rfl|(simp only [bu];done)|(congr 3;omega)|(congr 4;omega)|(simp only [bw];rfl)) (⟨by first|rfl|(simp only [bu];done)|(congr 3;omega)|(congr 4;omega)|(simp only [bw];rfl),trivial⟩) rfl
 rintro ⟨j,i,c⟩ hd
 have hdl:=hd.len;have hdi:=hd.ij;have hdj:=hd.jl
 refine ag ?_
 refine aF aa 2 rfl ?_
 refine aA (dz rfl rfl rfl rfl rfl Try.underlying59) rfl ?_
 refine ad aa 1 rfl ?_
 refine af ?_
 refine aj rfl (fun hc2=>?_) (fun hc2=>?_)
 ·
  have hc2':=of_decide_eq_true hc2
  refine aS ?_
  refine ag ?_
  refine aY ?_
  refine aF aa 2 rfl ?_
  refine aA (bz (i:=j) rfl rfl rfl Try.underlying59 iP (by first|omega|(simp;done)|(simp;omega)) (by first|omega|(simp;done)|(simp;omega))) rfl ?_
  obtain ⟨x1,hx1⟩:=cf (xs:=c) (i:=j) (by first|omega|(simp;done)|(simp;omega))
  refine aA (dm rfl rfl rfl Try.underlying125 rfl iP (bp hx1) rfl) rfl ?_
  refine ad aa 2 rfl ?_
  refine af ?_
  refine aF aa 2 rfl ?_
  refine aA (gZ 2 (hp x1) hen rfl rfl rfl ⟨⟨_,rfl,.g ⟨.d _,.d _,trivial⟩⟩,trivial⟩ trivial trivial rfl rfl rfl rfl) rfl ?_
  refine ad aa 1 rfl ?_
  refine af ?_
  refine aj rfl (fun hc3=>?_) (fun hc3=>?_)
  ·
   have hc3':=hc3;try simp only [br,bR] at hc3'
   refine aF aa 3 rfl ?_
   refine aA (bz (i:=i) rfl rfl rfl Try.underlying59 iP (by first|omega|(simp;done)|(simp;omega)) (by first|omega|(simp;done)|(simp;omega))) rfl ?_
   obtain ⟨x2,hx2⟩:=cf (xs:=c) (i:=i) (by first|omega|(simp;done)|(simp;omega))
   refine gj [1,0] (dR (ds:=[(dI x1.time),(dI x1.sum)]) rfl rfl rfl rfl rfl iP rfl (Nat.le_of_ble_eq_true rfl) (bp hx2) rfl (eX (x':=x1) rfl)) rfl ?_
   refine af ?_
   refine ax ?_
   refine ad aa 1 rfl ?_
   refine aA (aM rfl rfl rfl (aL (by first|omega|(simp;done)|(simp;omega)))) rfl ?_
   refine ad aa 1 rfl ?_
   refine bZ ?_
   refine bm ?_
   refine then_ok ?_
   refine ax ?_
   refine ad aa 1 rfl ?_
   refine aA (aM rfl rfl rfl (aL (by first|omega|(simp;done)|(simp;omega)))) rfl ?_
   refine ad aa 1 rfl ?_
   refine af ?_
   refine ⟨(j+1,(i)+1,(c).set i x1),hd.cG hx1 (by simpa using hc3),by first|omega|(simp;done)|(simp;omega),aH.ca id (by refine ⟨?_,?_,?_,?_,?_,trivial⟩<;>first|rfl|(simp only [bu];done)|(congr 3;omega)|(congr 4;omega)|(simp only [bw];rfl)) (⟨by first|rfl|(simp only [bu];done)|(congr 3;omega)|(congr 4;omega)|(simp only [bw];rfl),trivial⟩) rfl⟩
  have hc3':=hc3;try simp only [br,bR] at hc3'
  refine da ?_
  refine bm ?_
  refine then_ok ?_
  refine ax ?_
  refine ad aa 1 rfl ?_
  refine aA (aM rfl rfl rfl (aL (by first|omega|(simp;done)|(simp;omega)))) rfl ?_
  refine ad aa 1 rfl ?_
  refine af ?_
  refine ⟨(j+1,i,c),hd.skip hx1 (by simpa using hc3),by first|omega|(simp;done)|(simp;omega),aH.ca id (by refine ⟨?_,?_,?_,?_,?_,trivial⟩<;>first|rfl|(simp only [bu];done)|(congr 3;omega)|(congr 4;omega)|(simp only [bw];rfl)) (⟨by first|rfl|(simp only [bu];done)|(congr 3;omega)|(congr 4;omega)|(simp only [bw];rfl),trivial⟩) rfl⟩
 have hc2':=of_decide_eq_false hc2
 refine cv ?_
 refine aU ?_
 refine aU ?_
 refine bS ?_
 refine then_ok ?_
 refine aF aa 2 rfl ?_
 refine aA (nE (l:=i) (h:=l.length) rfl Try.underlying59 iP rfl (.inr ⟨_,rfl,rfl⟩) (.inl ⟨rfl,rfl⟩) (by first|omega|(simp;done)|(simp;omega)) (by first|omega|(simp;done)|(simp;omega)) (by first|omega|(simp;done)|(simp;omega)) rfl) rfl ?_
 refine gj [0] (sZ (rows':=(c.take i).map ix) ow Gx rfl rfl rfl rfl rfl rfl rfl rfl rfl (by simp [List.map_take])) rfl ?_
 refine af ?_
 refine aF aa 2 rfl ?_
 refine aA (nE (l:=0) (h:=i) rfl Try.underlying59 iP rfl (.inl ⟨rfl,rfl⟩) (.inr ⟨_,rfl,rfl⟩) (by first|omega|(simp;done)|(simp;omega)) (by first|omega|(simp;done)|(simp;omega)) (by first|omega|(simp;done)|(simp;omega)) rfl) rfl ?_
 refine ad aa 1 rfl ?_
 refine af ?_
 refine az ?_
 have hX:dP pr l=(c.take i):=by
   have hdone:=hd.done (by omega)
   rw [<-hdone]
 rw [hX] at hr;clear hX
 subst hr
 refine al aa [0] 1 rfl rfl rfl rfl rfl rfl ?_ ?_
 all_goals first|rfl|(simp [aw];done)|(simp [aw];omega)

theorem lA (p:eI) (e:Int) (hr:fC p=e):Fn Try.prog 44 [(.g [cI p.cQ,cI p.count,cI p.sum])] (.v (.c (cI e))) []:=hr▸wB p.cQ p.count p.sum
theorem pe (l:List db) (f:cW) (hr:fP l=f):Fn Try.prog 45 [.c (cR 2 (l.map ix))] (.v (.g [cI f.err,cI f.at_])) []:=hr▸xo l

theorem Bs (x:db) (t:Int) (p:eI) (hb:-9223372036854775808<=t - p.cQ/\t - p.cQ<=9223372036854775807):Fn Try.prog 118 [(.g [(cI x.time),(cI x.sum)]),(.c (.q ([dI t]) 0)),(.c (.q ([dI p.cQ,dI p.count,dI p.sum]) 0))] (aB (cz p t x)) []:=by
 refine Fn.mk' 12 [(0,(aG [(cI x.time),(cI x.sum)])),(1,(aC (.q ([dI t]) 0))),(2,(aC (.q ([dI p.cQ,dI p.count,dI p.sum]) 0)))] Try.func118 rfl rfl rfl rfl ?_
 intro W0 T0
 refine ae aa 2 rfl ?_
 refine aF aa 5 rfl ?_
 refine aA (aM rfl rfl rfl (aL (by first|omega|(simp;done)|(simp;omega)))) rfl ?_
 refine ad aa 2 rfl ?_
 refine af ?_
 refine az ?_
 refine al aa [] 0 rfl rfl rfl rfl rfl rfl ?_ ?_
 all_goals first|rfl|(simp [aw];done)|(simp [aw];omega)
theorem nZ (p:eI) (l:List db) (t:Int) (hb:-9223372036854775808<=t - p.cQ/\t - p.cQ<=9223372036854775807) (hl:l.length * 16<=140737488355328) (r:List db) (hr:dN p l t=r):Fn Try.prog 112 [(.g [(cI p.cQ),(cI p.count),(cI p.sum)]),(.c (fB l)),(.c (cI t))] (.v (.c (.s 0 0 2 r.length))) [(0,(po r))]:=by
 refine Fn.mk' 11 [(0,(aG [(cI p.cQ),(cI p.count),(cI p.sum)])),(1,(aC (fB l))),(2,(aI t))] Try.func112 rfl rfl rfl rfl ?_
 intro W0 T0
 refine dt 1 rfl (fun hlen1=>?_)
 refine ae aa 3 rfl ?_
 refine aF aa 1 rfl ?_
 refine aQ 3 [2,1,0] (cb 2 (qA l (by first|omega|(simp;done)|(simp;omega))) DH rfl rfl ⟨⟨_,rfl,.c (.d _)⟩,trivial⟩ trivial ⟨(fun _ _ _ _=>trivial),trivial⟩ rfl rfl rfl rfl) rfl ?_
 refine aA (wc (ks:=[1,0]) rfl ⟨rfl,rfl,trivial⟩) rfl ?_
 obtain ⟨r0,hr0⟩:∃ (r0:List db),dP (cz p t) l=r0:=⟨_,rfl⟩
 refine aQ 4 [3,1,0] (we (bf [2]) (bf [3]) [0,1] (wL l 118 ([[(dI t)],[(dI p.cQ),(dI p.count),(dI p.sum)]]) (cz p t) (fun x=>Bs x t p hb) GW r0 hr0) GX rfl rfl ⟨⟨_,rfl,.inl ⟨rfl,rfl⟩⟩,⟨_,rfl,.inr (.c (.fn ⟨⟨by decide,_,rfl⟩,⟨by decide,_,rfl⟩,trivial⟩))⟩,trivial⟩ ⟨rfl,trivial⟩ rfl rfl rfl rfl rfl rfl rfl rfl trivial ⟨(Cp _),trivial⟩ rfl rfl rfl rfl) rfl ?_
 refine ad aa 1 rfl ?_
 refine af ?_
 refine az ?_
 have hX:dN p l t=r0:=by
   assumption
 rw [hX] at hr;clear hX
 subst hr
 refine al aa [3] 1 rfl rfl rfl rfl rfl rfl ?_ ?_
 all_goals first|rfl|(simp [aw];done)|(simp [aw];omega)
end Go.Proofs.Ytegepioggeggaaa.Dev
