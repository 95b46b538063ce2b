/- A part of the proof: Book4, PlBook, Com, Book5, Book7, Book9. No condition. -/
import Derived.Test.YtegepioggeggaaaD05
set_option linter.unusedVariables false
set_option linter.unusedSimpArgs false
set_option maxHeartbeats 2000000
set_option maxRecDepth 100000
namespace Go.Proofs.Ytegepioggeggaaa.Dev
open Go.RowKit


theorem xZ (l:List Entry) (t:Int) (fn:FuncId) (aT:List (List D)) (hp:∀ x:Entry,Fn Try.prog fn ([.g [cI x.aO,cI x.sum],.c (cI t)]++aT.map fun r=>GV.c (.q r 0)) (aI (ec x.aO t)) []) (hen:bc Try.prog fn) (hu:Up l) (hl:l.length * 16<=140737488355328) (k:Nat) (f:Bool) (hr:(dW l t,fv l t)=(k,f)):Fn Try.prog 119 [.c (cR 2 (l.map er)),.c (cI t),.c (.d (.f fn aT))] (.t [.c (cI (k:Int)),.c (cB f)]) []:=by
  obtain ⟨h1,h2⟩:=Prod.mk.inj hr
  exact sj l t fn aT hp hen hu hl (k:Int) f (by unfold tu;rw [h1,h2])
def dw:List Entry->Int->Int
  |[],_=>0
  |x::l,a=>if x.aO=a then x.sum else dw l a
def gy (l:List Entry) (a s:Int):List Entry:=l.take (dW l a)++(if s=0 then [] else [⟨a,s⟩])++l.drop (if fv l a=true then dW l a+1 else dW l a)
def gY (s:Int):Bool:=decide (s>=-1000000000000) && decide (s<=1000000000000)
def js (l:List Entry) (e:Entry):List Entry×Bool:=(gy l e.aO (dw l e.aO+e.sum),gY (dw l e.aO+e.sum))
theorem oD {x:Entry} {l:List Entry} {a:Int} (h:x.aO < a):fv (x::l) a=fv l a:=by
  have h1:dW (x::l) a=dW l a+1:=by simp [dW,h]
  unfold fv;rw [h1,List.getElem?_cons_succ]
theorem lL {x:Entry} {l:List Entry} {a:Int} (h:¬x.aO < a):fv (x::l) a=decide (x.aO=a):=by
  unfold fv dW;rw [if_neg h];rfl
theorem iQ {a:Int}:∀ {l:List Entry},(∀ x∈l,a < x.aO)->dw l a=0
  |[],_=>rfl
  |x::l,h=>by
    unfold dw
    rw [if_neg (by have:=h x List.mem_cons_self;omega)]
    exact iQ fun y hy=>h y (List.mem_cons_of_mem _ hy)
theorem uT {a : Int} : ∀ {l : List Entry} {x : Entry}, Up l → fv l a = true → l[dW l a]? = some x → x.aO = a ∧ dw l a = x.sum
  | [], x, _, _, h => by simp at h
  | y :: l, x, hu, hh, h => by
    obtain ⟨h1, h2⟩ := List.pairwise_cons.1 hu
    by_cases hy : y.aO < a
    · rw [oD hy] at hh
      unfold dW at h; rw [if_pos hy] at h
      obtain ⟨h3, h4⟩ := uT h2 hh (by simpa using h)
      refine ⟨h3, ?_⟩
      unfold dw; rw [if_neg (by omega)]; exact h4
    · rw [lL hy] at hh
      unfold dW at h; rw [if_neg hy] at h
      simp at h hh
      subst h
      exact ⟨hh, by unfold dw; rw [if_pos hh]⟩
theorem uS {a : Int} : ∀ {l : List Entry}, Up l → fv l a = false → dw l a = 0
  | [], _, _ => rfl
  | y :: l, hu, hh => by
    obtain ⟨h1, h2⟩ := List.pairwise_cons.1 hu
    by_cases hy : y.aO < a
    · rw [oD hy] at hh
      unfold dw; rw [if_neg (by omega)]; exact uS h2 hh
    · rw [lL hy] at hh
      simp at hh
      unfold dw; rw [if_neg hh]
      exact iQ fun x hx => by have := h1 x hx; omega
theorem Co {a : Int} {l : List Entry} (h : fv l a = true) : dW l a < l.length := by
  by_cases hl : dW l a < l.length
  · exact hl
  · unfold fv at h
    rw [List.getElem?_eq_none (by omega)] at h
    cases h
theorem tY {a:Int} (l:List Entry):(l.take (dW l a)).length=dW l a:=by rw [List.length_take];have:=mC a l;omega
theorem za {l:List Entry} {k:Nat} {x y:Entry} (hk:k<=l.length) (h:(iv l k x)[k]?=some y):y=x:=by
  have h1:(l.take k).length=k:=by rw [List.length_take];omega
  unfold iv at h
  rw [List.append_assoc,List.getElem?_append_right (by omega),h1,Nat.sub_self] at h
  simp at h
  exact h.symm
theorem Cm {l:List Entry} {k:Nat} {x y:Entry} (hk:k<=l.length):(iv l k x).set k y=l.take k++[y]++l.drop k:=by
  have h1:(l.take k).length=k:=by rw [List.length_take];omega
  unfold iv
  rw [List.append_assoc,List.set_append_right _ _ (by omega),h1,Nat.sub_self]
  simp
theorem Cn {l:List Entry} {k:Nat} {y:Entry} (hk:k < l.length):l.set k y=l.take k++[y]++l.drop (k+1):=by
  rw [List.set_eq_take_append_cons_drop,if_pos hk];simp
theorem zt {A B:List Entry} {y:Entry} {k:Nat} (h:A.length=k):kD (A++[y]++B) k (k+1)=A++B:=by
  subst h
  unfold kD
  simp
theorem nf {l:List Entry} {e x y:Entry} {k:Nat} (hu:Up l) (hk:dW l e.aO=k) (hh:fv l e.aO=true) (hx:l[k]?=some x) (hy:y=⟨x.aO,x.sum+e.sum⟩):
    js l e=(if x.sum+e.sum=0 then kD (l.set k y) k (k+1) else l.set k y,gY (x.sum+e.sum)):=by
  subst hk hy
  obtain ⟨h1,h2⟩:=uT hu hh hx
  have hlt:=(List.getElem?_eq_some_iff.1 hx).1
  unfold js gy
  rw [h2,if_pos hh,Cn hlt,h1]
  split
  ·rw [zt (tY l)];simp
  ·rfl
theorem nd {l:List Entry} {e x y:Entry} {k:Nat} {r:List Entry} (hu:Up l) (hk:dW l e.aO=k) (hh:fv l e.aO=false) (hr:iv l k ⟨e.aO,0⟩=r) (hx:r[k]?=some x) (hy:y=⟨x.aO,x.sum+e.sum⟩):
    js l e=(if x.sum+e.sum=0 then kD (r.set k y) k (k+1) else r.set k y,gY (x.sum+e.sum)):=by
  subst hk hr
  have h0:=mC e.aO l
  have h1:=za h0 hx
  subst h1 hy
  have h2:=uS hu hh
  unfold js gy
  rw [h2,Cm h0,if_neg (show ¬fv l e.aO=true by rw [hh];exact Bool.false_ne_true)]
  split
  ·rw [zt (tY l)];simp
  ·rfl
theorem yz {l:List Entry} {k:Nat} {y z:Entry} (h:(l.set k y)[k]?=some z):z=y:=by
  have hlt:=(List.getElem?_eq_some_iff.1 h).1
  rw [List.length_set] at hlt
  rw [List.getElem?_set_self hlt] at h
  exact (Option.some.inj h).symm
theorem xI {l:List Entry} {a:Int} (h:∀ x∈l,-1000000000000<=x.sum/\x.sum<=1000000000000):-1000000000000<=dw l a/\dw l a<=1000000000000:=by
  induction l with
  |nil=>unfold dw;omega
  |cons x l ih=>
    unfold dw
    split
    ·exact h x List.mem_cons_self
    ·exact ih fun y hy=>h y (List.mem_cons_of_mem _ hy)

theorem Fc (l:List Entry) (e:Entry) (hu:Up l) (hl:(l.length+1) * 16<=140737488355328) (hb:∀ x∈l,-1000000000000<=x.sum/\x.sum<=1000000000000) (he:-1000000000000<=e.sum/\e.sum<=1000000000000) (r:List Entry) (g:Bool) (hr:js l e=(r,g)):cz Try.prog 116 [(.c (.s 0 0 2 l.length)),(.g [(cI e.aO),(cI e.sum)])] [(0,(lr l))] [] (.t [(.c (.s 0 0 2 r.length)),(.c (cB g))]) [(0,(lr r))]:=by
 refine cz.mk 62 [(0,(aC (.s 0 0 2 l.length))),(1,(aG [(cI e.aO),(cI e.sum)]))] 1 Try.func116 rfl rfl rfl rfl rfl rfl rfl rfl rfl ?_
 intro W0 F0 T0 pg
 refine fO 0 rfl (fun hlen0=>?_)
 refine ad aa 3 rfl ?_
 refine az aa 3 rfl ?_
 obtain ⟨k0,f0,hr0⟩:∃ (k0:Nat) (f0:Bool),(dW l e.aO,fv l e.aO)=(k0,f0):=⟨_,_,rfl⟩
 obtain ⟨hk0,hf0⟩:=Prod.mk.inj hr0
 have hkl:=mC e.aO l
 rw [hk0] at hkl
 refine aL 2 [1,0] (fK 2 [0] (xZ l e.aO 120 ([]) (fun x=>DZ x e.aO) EM (by first|assumption) (by omega) k0 f0 hr0) EN rfl rfl ⟨⟨_,rfl,.c (.s rfl (by decide) (by first|omega|(simp;done)|(simp;omega)))⟩,⟨_,rfl,.c (.d _)⟩,⟨_,rfl,.c (.fn trivial)⟩,trivial⟩ ⟨rfl,rfl,trivial⟩ trivial rfl rfl rfl rfl) rfl ?_
 refine ab aa 5 rfl ?_
 refine ae ?_
 refine af ?_
 refine ad aa 2 rfl ?_
 refine ag rfl (fun hc1=>?_) (fun hc1=>?_)
 ·
  have hc1':=hc1;try simp only [bd,bF] at hc1'
  refine aw ?_
  refine ab aa 5 rfl ?_
  refine aL 3 [2,1,0] (dD (ys:=[(0,(.g [(cI e.aO),(cI 0)]))]) (rows:=([(⟨e.aO,0⟩:Entry)]).map er) 2 jI rfl (by decide) ⟨⟨rfl,rfl⟩,trivial⟩ rfl rfl rfl rfl) rfl ?_
  obtain ⟨r1,hr1⟩:∃ (r1:List Entry),iv l k0 (⟨e.aO,0⟩:Entry)=r1:=⟨_,rfl⟩
  have hl1:r1.length=l.length+1:=by rw [<-hr1];exact Av hkl
  refine aL 4 [3,1] (cA (aY [0,2]) (aY [3,2]) (sl l k0 (⟨e.aO,0⟩:Entry) (by first|omega|(simp;done)|(simp;omega)) (by first|omega|(simp;done)|(simp;omega)) r1 hr1) EL rfl rfl ⟨⟨_,rfl,.inl ⟨rfl,rfl⟩⟩,⟨_,rfl,.inr (.c (.d _))⟩,⟨_,rfl,.inl ⟨rfl,rfl⟩⟩,trivial⟩ ⟨rfl,rfl,trivial⟩ rfl rfl rfl rfl rfl rfl trivial ⟨(fun _ _ _ _=>trivial),trivial⟩ rfl rfl rfl rfl) rfl ?_
  refine ab aa 1 rfl ?_
  refine ae ?_
  refine af ?_
  obtain ⟨x1,hx1⟩:=bY (xs:=r1) (i:=k0) (by first|omega|(simp;done)|(simp;omega))
  have hx1q:=za hkl (show (iv l k0 ⟨e.aO,0⟩)[k0]?=some x1 by rw [hr1];exact hx1)
  have hx1b:x1.sum=0:=by rw [hx1q]
  refine bb [0,3,6] [3,1] mixed rfl rfl ?_
  refine aA (kn:=[]) aa 2 rfl trivial ?_
  refine aS (n':=4) [25,26] [3] rfl rfl (.inl ⟨(ah.plain rfl),aH.cast (bo (i:=k0) rfl rfl rfl Try.underlying44 dZ (by first|omega|(simp;done)|(simp;omega)) (by first|omega|(simp;done)|(simp;omega))) rfl⟩) rfl ?_
  refine aA (kn:=[]) aa 1 rfl trivial ?_
  refine aS (n':=4) [28] [3] rfl rfl (.inl ⟨(ah.plain rfl),aH.cast (eD rfl rfl rfl Try.underlying3 rfl (bf hx1) rfl) rfl⟩) rfl ?_
  refine aA (kn:=[]) aa 2 rfl trivial ?_
  refine aS (n':=4) [29,31] [] rfl rfl (.inl ⟨(ah.plain rfl),aH.cast (aJ rfl rfl rfl (aE (by first|omega|(simp;done)|(simp;omega)))) rfl⟩) rfl ?_
  refine aS (n':=4) [25,26] [3] rfl rfl (.inl ⟨(ah.plain rfl),aH.cast (bo (i:=k0) rfl rfl rfl Try.underlying44 dZ (by first|omega|(simp;done)|(simp;omega)) (by first|omega|(simp;done)|(simp;omega))) rfl⟩) rfl ?_
  refine aA (kn:=[]) aa 1 rfl trivial ?_
  refine bx [3,1] rfl rfl rfl rfl (by kernel_rfl) ?_
  refine gb [3,1] (dG (ds:=[(dI (x1.sum+e.sum))]) rfl rfl rfl rfl rfl fT rfl (Nat.le_of_ble_eq_true rfl) (bf hx1) rfl (eG (x':=(⟨x1.aO,x1.sum+e.sum⟩:Entry)) rfl)) rfl ?_
  refine ae ?_
  refine az aa 2 rfl ?_
  refine ax (bo (i:=k0) rfl rfl rfl Try.underlying44 dZ (by first|omega|(simp;done)|(simp;omega)) (by first|omega|(simp;done)|(simp;omega))) rfl ?_
  refine ab aa 1 rfl ?_
  obtain ⟨x2,hx2⟩:=bY (xs:=((r1).set k0 (⟨x1.aO,x1.sum+e.sum⟩:Entry))) (i:=k0) (by first|omega|(simp;done)|(simp;omega))
  have hx2e:=yz hx2
  have hx2s:x2.sum=x1.sum+e.sum:=by rw [hx2e]
  refine ax (eD rfl rfl rfl Try.underlying3 rfl (bf hx2) rfl) rfl ?_
  refine ab aa 2 rfl ?_
  refine bj (t:=41) rfl (fun hb2=>?_) (fun hb2=>?_)
  ·
   have hb2':=of_decide_eq_true hb2
   refine ab aa 2 rfl ?_
   refine cJ (ah.yes rfl rfl rfl) (bo (i:=k0) rfl rfl rfl Try.underlying44 dZ (by first|omega|(simp;done)|(simp;omega)) (by first|omega|(simp;done)|(simp;omega))) rfl rfl ?_
   refine ab aa 1 rfl ?_
   refine cJ (ah.yes rfl rfl rfl) (eD rfl rfl rfl Try.underlying3 rfl (bf hx2) rfl) rfl rfl ?_
   refine ab aa 3 rfl ?_
   refine ae ?_
   refine af ?_
   refine az aa 2 rfl ?_
   refine ax (bo (i:=k0) rfl rfl rfl Try.underlying44 dZ (by first|omega|(simp;done)|(simp;omega)) (by first|omega|(simp;done)|(simp;omega))) rfl ?_
   refine ab aa 1 rfl ?_
   refine ax (eD rfl rfl rfl Try.underlying3 rfl (bf hx2) rfl) rfl ?_
   refine ab aa 1 rfl ?_
   refine ae ?_
   refine ag rfl (fun hc3=>?_) (fun hc3=>?_)
   ·
    have hc3':=of_decide_eq_true hc3
    refine gP (st':=⟨[(0,(aC (.s 3 0 2 (((r1).set k0 (⟨x1.aO,x1.sum+e.sum⟩:Entry)).length)))),(3,(aC (.p 1 0 0 0))),(6,(aI (↑k0:Int))),(32,(aI (x1.sum+e.sum))),(34,(aC (.p 3 k0 2 1))),(35,(aC (.s 3 0 2 r1.length))),(36,(aI (↑k0:Int))),(37,(aC (.p 3 k0 2 0))),(38,(aC (.p 3 k0 2 1))),(39,(aI x2.sum)),(40,(aB (decide (x2.sum>=(-1000000000000))))),(41,(aB true)),(42,(aC (.s 3 0 2 r1.length))),(43,(aI (↑k0:Int))),(44,(aC (.p 3 k0 2 0))),(45,(aC (.p 3 k0 2 1))),(46,(aI x2.sum)),(47,(aB (decide (x2.sum<=1000000000000)))),(48,(aB (decide (x2.sum<=1000000000000)))),(8,(aB (decide (x2.sum<=1000000000000)))),(49,(aC (.s 3 0 2 r1.length))),(50,(aI (↑k0:Int))),(51,(aC (.p 3 k0 2 0))),(52,(aC (.p 3 k0 2 1))),(53,(aI x2.sum)),(54,(aB (decide (x2.sum=0))))],[(3,(lr ((r1).set k0 (⟨x1.aO,x1.sum+e.sum⟩:Entry)))),(1,(.box 115 [(cI e.aO),(cI e.sum)]))],4⟩) (aD.bZ id (by refine ⟨?_,?_,?_,?_,?_,?_,?_,?_,?_,?_,?_,?_,?_,?_,?_,?_,?_,?_,?_,?_,?_,?_,?_,?_,?_,?_,trivial⟩<;>first|rfl|(simp only [bq];done)|(congr 3;omega)|(congr 4;omega)|(simp only [br];rfl)) (by refine ⟨?_,?_,trivial⟩<;>first|rfl|(simp only [bq];done)|(congr 3;omega)|(congr 4;omega)|(simp only [br];rfl)) rfl) ?_
    refine aw ?_
    refine ab aa 3 rfl ?_
    refine ax (aJ rfl rfl rfl (aE (by first|omega|(simp;done)|(simp;omega)))) rfl ?_
    obtain ⟨r2,hr2⟩:∃ (r2:List Entry),kD ((r1).set k0 (⟨x1.aO,x1.sum+e.sum⟩:Entry)) k0 ((k0)+1)=r2:=⟨_,rfl⟩
    refine aL 5 [4,1] (cA (aY [3]) (aY [4]) (iG ((r1).set k0 (⟨x1.aO,x1.sum+e.sum⟩:Entry)) k0 ((k0)+1) (by first|omega|(simp;done)|(simp;omega)) (by first|omega|(simp;done)|(simp;omega)) r2 hr2) tR rfl rfl ⟨⟨_,rfl,.inl ⟨rfl,rfl⟩⟩,⟨_,rfl,.inr (.c (.d _))⟩,⟨_,rfl,.inr (.c (.d _))⟩,trivial⟩ ⟨rfl,trivial⟩ rfl rfl rfl rfl rfl rfl trivial ⟨(fun _ _ _ _=>trivial),trivial⟩ rfl rfl rfl rfl) rfl ?_
    refine ab aa 1 rfl ?_
    refine ae ?_
    refine ad aa 4 rfl ?_
    refine aq ?_
    have hX:js l e=(r2,decide (x2.sum<=1000000000000)):=by
      rw [nd hu hk0 (show fv l e.aO=false by simp_all) hr1 hx1 rfl];unfold gY;rw [if_pos (by omega),hr2];refine Prod.ext rfl ?_;first|(simp;omega)|(simp_all;done)|(simp_all;omega)
    rw [hX] at hr;clear hX
    simp only [Prod.mk.injEq] at hr;obtain ⟨rfl,rfl⟩:=hr
    refine aj aa [4] 1 rfl rfl rfl rfl rfl rfl ?_ ?_
    all_goals first|rfl|(simp [ar];done)|(simp [ar];omega)
   have hc3':=of_decide_eq_false hc3
   refine aN ?_
   refine ad aa 4 rfl ?_
   refine aq ?_
   have hX:js l e=((r1).set k0 (⟨x1.aO,x1.sum+e.sum⟩:Entry),decide (x2.sum<=1000000000000)):=by
     rw [nd hu hk0 (show fv l e.aO=false by simp_all) hr1 hx1 rfl];unfold gY;rw [if_neg (by omega)];refine Prod.ext rfl ?_;first|(simp;omega)|(simp_all;done)|(simp_all;omega)
   rw [hX] at hr;clear hX
   simp only [Prod.mk.injEq] at hr;obtain ⟨rfl,rfl⟩:=hr
   refine aj aa [3] 1 rfl rfl rfl rfl rfl rfl ?_ ?_
   all_goals first|rfl|(simp [ar];done)|(simp [ar];omega)
  have hb2':=of_decide_eq_false hb2
  refine ab aa 8 rfl ?_
  refine ae ?_
  refine af ?_
  refine az aa 2 rfl ?_
  refine ax (bo (i:=k0) rfl rfl rfl Try.underlying44 dZ (by first|omega|(simp;done)|(simp;omega)) (by first|omega|(simp;done)|(simp;omega))) rfl ?_
  refine ab aa 1 rfl ?_
  refine ax (eD rfl rfl rfl Try.underlying3 rfl (bf hx2) rfl) rfl ?_
  refine ab aa 1 rfl ?_
  refine ae ?_
  refine ag rfl (fun hc4=>?_) (fun hc4=>?_)
  ·
   have hc4':=of_decide_eq_true hc4
   refine gP (st':=⟨[(0,(aC (.s 3 0 2 (((r1).set k0 (⟨x1.aO,x1.sum+e.sum⟩:Entry)).length)))),(3,(aC (.p 1 0 0 0))),(6,(aI (↑k0:Int))),(32,(aI (x1.sum+e.sum))),(34,(aC (.p 3 k0 2 1))),(35,(aC (.s 3 0 2 r1.length))),(36,(aI (↑k0:Int))),(37,(aC (.p 3 k0 2 0))),(38,(aC (.p 3 k0 2 1))),(39,(aI x2.sum)),(40,(aB (decide (x2.sum>=(-1000000000000))))),(41,(aB false)),(48,(aB false)),(8,(aB false)),(49,(aC (.s 3 0 2 r1.length))),(50,(aI (↑k0:Int))),(51,(aC (.p 3 k0 2 0))),(52,(aC (.p 3 k0 2 1))),(53,(aI x2.sum)),(54,(aB (decide (x2.sum=0))))],[(3,(lr ((r1).set k0 (⟨x1.aO,x1.sum+e.sum⟩:Entry)))),(1,(.box 115 [(cI e.aO),(cI e.sum)]))],4⟩) (aD.bZ id (by refine ⟨?_,?_,?_,?_,?_,?_,?_,?_,?_,?_,?_,?_,?_,?_,?_,?_,?_,?_,?_,?_,trivial⟩<;>first|rfl|(simp only [bq];done)|(congr 3;omega)|(congr 4;omega)|(simp only [br];rfl)) (by refine ⟨?_,?_,trivial⟩<;>first|rfl|(simp only [bq];done)|(congr 3;omega)|(congr 4;omega)|(simp only [br];rfl)) rfl) ?_
   refine aw ?_
   refine ab aa 3 rfl ?_
   refine ax (aJ rfl rfl rfl (aE (by first|omega|(simp;done)|(simp;omega)))) rfl ?_
   obtain ⟨r3,hr3⟩:∃ (r3:List Entry),kD ((r1).set k0 (⟨x1.aO,x1.sum+e.sum⟩:Entry)) k0 ((k0)+1)=r3:=⟨_,rfl⟩
   refine aL 5 [4,1] (cA (aY [3]) (aY [4]) (iG ((r1).set k0 (⟨x1.aO,x1.sum+e.sum⟩:Entry)) k0 ((k0)+1) (by first|omega|(simp;done)|(simp;omega)) (by first|omega|(simp;done)|(simp;omega)) r3 hr3) tR rfl rfl ⟨⟨_,rfl,.inl ⟨rfl,rfl⟩⟩,⟨_,rfl,.inr (.c (.d _))⟩,⟨_,rfl,.inr (.c (.d _))⟩,trivial⟩ ⟨rfl,trivial⟩ rfl rfl rfl rfl rfl rfl trivial ⟨(fun _ _ _ _=>trivial),trivial⟩ rfl rfl rfl rfl) rfl ?_
   refine ab aa 1 rfl ?_
   refine ae ?_
   refine ad aa 4 rfl ?_
   refine aq ?_
   have hX:js l e=(r3,false):=by
     rw [nd hu hk0 (show fv l e.aO=false by simp_all) hr1 hx1 rfl];unfold gY;rw [if_pos (by omega),hr3];refine Prod.ext rfl ?_;first|(simp;omega)|(simp_all;done)|(simp_all;omega)
   rw [hX] at hr;clear hX
   simp only [Prod.mk.injEq] at hr;obtain ⟨rfl,rfl⟩:=hr
   refine aj aa [4] 1 rfl rfl rfl rfl rfl rfl ?_ ?_
   all_goals first|rfl|(simp [ar];done)|(simp [ar];omega)
  have hc4':=of_decide_eq_false hc4
  refine aN ?_
  refine ad aa 4 rfl ?_
  refine aq ?_
  have hX:js l e=((r1).set k0 (⟨x1.aO,x1.sum+e.sum⟩:Entry),false):=by
    rw [nd hu hk0 (show fv l e.aO=false by simp_all) hr1 hx1 rfl];unfold gY;rw [if_neg (by omega)];refine Prod.ext rfl ?_;first|(simp;omega)|(simp_all;done)|(simp_all;omega)
  rw [hX] at hr;clear hX
  simp only [Prod.mk.injEq] at hr;obtain ⟨rfl,rfl⟩:=hr
  refine aj aa [3] 1 rfl rfl rfl rfl rfl rfl ?_ ?_
  all_goals first|rfl|(simp [ar];done)|(simp [ar];omega)
 have hc1':=hc1;try simp only [bd,bF] at hc1'
 refine aN ?_
 have hk0lt:k0 < l.length:=by have:=Co (l:=l) (a:=e.aO) (by simp_all);omega
 refine af ?_
 obtain ⟨x1,hx1⟩:=bY (xs:=l) (i:=k0) (by first|omega|(simp;done)|(simp;omega))
 have hx1b:=hb x1 (List.mem_of_getElem? hx1)
 refine bb [0,3,6] [1,0] mixed rfl rfl ?_
 refine aA (kn:=[]) aa 2 rfl trivial ?_
 refine aS (n':=2) [25,26] [0] rfl rfl (.inl ⟨(ah.plain rfl),aH.cast (bo (i:=k0) rfl rfl rfl Try.underlying44 dZ (by first|omega|(simp;done)|(simp;omega)) (by first|omega|(simp;done)|(simp;omega))) rfl⟩) rfl ?_
 refine aA (kn:=[]) aa 1 rfl trivial ?_
 refine aS (n':=2) [28] [0] rfl rfl (.inl ⟨(ah.plain rfl),aH.cast (eD rfl rfl rfl Try.underlying3 rfl (bf hx1) rfl) rfl⟩) rfl ?_
 refine aA (kn:=[]) aa 2 rfl trivial ?_
 refine aS (n':=2) [29,31] [] rfl rfl (.inl ⟨(ah.plain rfl),aH.cast (aJ rfl rfl rfl (aE (by first|omega|(simp;done)|(simp;omega)))) rfl⟩) rfl ?_
 refine aS (n':=2) [25,26] [0] rfl rfl (.inl ⟨(ah.plain rfl),aH.cast (bo (i:=k0) rfl rfl rfl Try.underlying44 dZ (by first|omega|(simp;done)|(simp;omega)) (by first|omega|(simp;done)|(simp;omega))) rfl⟩) rfl ?_
 refine aA (kn:=[]) aa 1 rfl trivial ?_
 refine bx [1,0] rfl rfl rfl rfl (by kernel_rfl) ?_
 refine gb [1,0] (dG (ds:=[(dI (x1.sum+e.sum))]) rfl rfl rfl rfl rfl fT rfl (Nat.le_of_ble_eq_true rfl) (bf hx1) rfl (eG (x':=(⟨x1.aO,x1.sum+e.sum⟩:Entry)) rfl)) rfl ?_
 refine ae ?_
 refine az aa 2 rfl ?_
 refine ax (bo (i:=k0) rfl rfl rfl Try.underlying44 dZ (by first|omega|(simp;done)|(simp;omega)) (by first|omega|(simp;done)|(simp;omega))) rfl ?_
 refine ab aa 1 rfl ?_
 obtain ⟨x2,hx2⟩:=bY (xs:=((l).set k0 (⟨x1.aO,x1.sum+e.sum⟩:Entry))) (i:=k0) (by first|omega|(simp;done)|(simp;omega))
 have hx2e:=yz hx2
 have hx2s:x2.sum=x1.sum+e.sum:=by rw [hx2e]
 refine ax (eD rfl rfl rfl Try.underlying3 rfl (bf hx2) rfl) rfl ?_
 refine ab aa 2 rfl ?_
 refine bj (t:=41) rfl (fun hb5=>?_) (fun hb5=>?_)
 ·
  have hb5':=of_decide_eq_true hb5
  refine ab aa 2 rfl ?_
  refine cJ (ah.yes rfl rfl rfl) (bo (i:=k0) rfl rfl rfl Try.underlying44 dZ (by first|omega|(simp;done)|(simp;omega)) (by first|omega|(simp;done)|(simp;omega))) rfl rfl ?_
  refine ab aa 1 rfl ?_
  refine cJ (ah.yes rfl rfl rfl) (eD rfl rfl rfl Try.underlying3 rfl (bf hx2) rfl) rfl rfl ?_
  refine ab aa 3 rfl ?_
  refine ae ?_
  refine af ?_
  refine az aa 2 rfl ?_
  refine ax (bo (i:=k0) rfl rfl rfl Try.underlying44 dZ (by first|omega|(simp;done)|(simp;omega)) (by first|omega|(simp;done)|(simp;omega))) rfl ?_
  refine ab aa 1 rfl ?_
  refine ax (eD rfl rfl rfl Try.underlying3 rfl (bf hx2) rfl) rfl ?_
  refine ab aa 1 rfl ?_
  refine ae ?_
  refine ag rfl (fun hc6=>?_) (fun hc6=>?_)
  ·
   have hc6':=of_decide_eq_true hc6
   refine gP (st':=⟨[(0,(aC (.s 0 0 2 (((l).set k0 (⟨x1.aO,x1.sum+e.sum⟩:Entry)).length)))),(3,(aC (.p 1 0 0 0))),(6,(aI (↑k0:Int))),(32,(aI (x1.sum+e.sum))),(34,(aC (.p 0 k0 2 1))),(35,(aC (.s 0 0 2 l.length))),(36,(aI (↑k0:Int))),(37,(aC (.p 0 k0 2 0))),(38,(aC (.p 0 k0 2 1))),(39,(aI x2.sum)),(40,(aB (decide (x2.sum>=(-1000000000000))))),(41,(aB true)),(42,(aC (.s 0 0 2 l.length))),(43,(aI (↑k0:Int))),(44,(aC (.p 0 k0 2 0))),(45,(aC (.p 0 k0 2 1))),(46,(aI x2.sum)),(47,(aB (decide (x2.sum<=1000000000000)))),(48,(aB (decide (x2.sum<=1000000000000)))),(8,(aB (decide (x2.sum<=1000000000000)))),(49,(aC (.s 0 0 2 l.length))),(50,(aI (↑k0:Int))),(51,(aC (.p 0 k0 2 0))),(52,(aC (.p 0 k0 2 1))),(53,(aI x2.sum)),(54,(aB (decide (x2.sum=0))))],[(1,(.box 115 [(cI e.aO),(cI e.sum)])),(0,(lr ((l).set k0 (⟨x1.aO,x1.sum+e.sum⟩:Entry))))],2⟩) (aD.bZ id (by refine ⟨?_,?_,?_,?_,?_,?_,?_,?_,?_,?_,?_,?_,?_,?_,?_,?_,?_,?_,?_,?_,?_,?_,?_,?_,?_,?_,trivial⟩<;>first|rfl|(simp only [bq];done)|(congr 3;omega)|(congr 4;omega)|(simp only [br];rfl)) (by refine ⟨?_,?_,trivial⟩<;>first|rfl|(simp only [bq];done)|(congr 3;omega)|(congr 4;omega)|(simp only [br];rfl)) rfl) ?_
   refine aw ?_
   refine ab aa 3 rfl ?_
   refine ax (aJ rfl rfl rfl (aE (by first|omega|(simp;done)|(simp;omega)))) rfl ?_
   obtain ⟨r4,hr4⟩:∃ (r4:List Entry),kD ((l).set k0 (⟨x1.aO,x1.sum+e.sum⟩:Entry)) k0 ((k0)+1)=r4:=⟨_,rfl⟩
   refine aL 3 [2,1] (cA id (aY [2]) (iG ((l).set k0 (⟨x1.aO,x1.sum+e.sum⟩:Entry)) k0 ((k0)+1) (by first|omega|(simp;done)|(simp;omega)) (by first|omega|(simp;done)|(simp;omega)) r4 hr4) tR rfl rfl ⟨⟨_,rfl,.inl ⟨rfl,rfl⟩⟩,⟨_,rfl,.inr (.c (.d _))⟩,⟨_,rfl,.inr (.c (.d _))⟩,trivial⟩ ⟨rfl,trivial⟩ rfl rfl rfl rfl rfl rfl trivial ⟨(fun _ _ _ _=>trivial),trivial⟩ rfl rfl rfl rfl) rfl ?_
   refine ab aa 1 rfl ?_
   refine ae ?_
   refine ad aa 4 rfl ?_
   refine aq ?_
   have hX:js l e=(r4,decide (x2.sum<=1000000000000)):=by
     rw [nf hu hk0 (show fv l e.aO=true by simp_all) hx1 rfl];unfold gY;rw [if_pos (by omega),hr4];refine Prod.ext rfl ?_;first|(simp;omega)|(simp_all;done)|(simp_all;omega)
   rw [hX] at hr;clear hX
   simp only [Prod.mk.injEq] at hr;obtain ⟨rfl,rfl⟩:=hr
   refine aj aa [2] 1 rfl rfl rfl rfl rfl rfl ?_ ?_
   all_goals first|rfl|(simp [ar];done)|(simp [ar];omega)
  have hc6':=of_decide_eq_false hc6
  refine aN ?_
  refine ad aa 4 rfl ?_
  refine aq ?_
  have hX:js l e=((l).set k0 (⟨x1.aO,x1.sum+e.sum⟩:Entry),decide (x2.sum<=1000000000000)):=by
    rw [nf hu hk0 (show fv l e.aO=true by simp_all) hx1 rfl];unfold gY;rw [if_neg (by omega)];refine Prod.ext rfl ?_;first|(simp;omega)|(simp_all;done)|(simp_all;omega)
  rw [hX] at hr;clear hX
  simp only [Prod.mk.injEq] at hr;obtain ⟨rfl,rfl⟩:=hr
  refine aj aa [0] 1 rfl rfl rfl rfl rfl rfl ?_ ?_
  all_goals first|rfl|(simp [ar];done)|(simp [ar];omega)
 have hb5':=of_decide_eq_false hb5
 refine ab aa 8 rfl ?_
 refine ae ?_
 refine af ?_
 refine az aa 2 rfl ?_
 refine ax (bo (i:=k0) rfl rfl rfl Try.underlying44 dZ (by first|omega|(simp;done)|(simp;omega)) (by first|omega|(simp;done)|(simp;omega))) rfl ?_
 refine ab aa 1 rfl ?_
 refine ax (eD rfl rfl rfl Try.underlying3 rfl (bf hx2) rfl) rfl ?_
 refine ab aa 1 rfl ?_
 refine ae ?_
 refine ag rfl (fun hc7=>?_) (fun hc7=>?_)
 ·
  have hc7':=of_decide_eq_true hc7
  refine gP (st':=⟨[(0,(aC (.s 0 0 2 (((l).set k0 (⟨x1.aO,x1.sum+e.sum⟩:Entry)).length)))),(3,(aC (.p 1 0 0 0))),(6,(aI (↑k0:Int))),(32,(aI (x1.sum+e.sum))),(34,(aC (.p 0 k0 2 1))),(35,(aC (.s 0 0 2 l.length))),(36,(aI (↑k0:Int))),(37,(aC (.p 0 k0 2 0))),(38,(aC (.p 0 k0 2 1))),(39,(aI x2.sum)),(40,(aB (decide (x2.sum>=(-1000000000000))))),(41,(aB false)),(48,(aB false)),(8,(aB false)),(49,(aC (.s 0 0 2 l.length))),(50,(aI (↑k0:Int))),(51,(aC (.p 0 k0 2 0))),(52,(aC (.p 0 k0 2 1))),(53,(aI x2.sum)),(54,(aB (decide (x2.sum=0))))],[(1,(.box 115 [(cI e.aO),(cI e.sum)])),(0,(lr ((l).set k0 (⟨x1.aO,x1.sum+e.sum⟩:Entry))))],2⟩) (aD.bZ id (by refine ⟨?_,?_,?_,?_,?_,?_,?_,?_,?_,?_,?_,?_,?_,?_,?_,?_,?_,?_,?_,?_,trivial⟩<;>first|rfl|(simp only [bq];done)|(congr 3;omega)|(congr 4;omega)|(simp only [br];rfl)) (by refine ⟨?_,?_,trivial⟩<;>first|rfl|(simp only [bq];done)|(congr 3;omega)|(congr 4;omega)|(simp only [br];rfl)) rfl) ?_
  refine aw ?_
  refine ab aa 3 rfl ?_
  refine ax (aJ rfl rfl rfl (aE (by first|omega|(simp;done)|(simp;omega)))) rfl ?_
  obtain ⟨r5,hr5⟩:∃ (r5:List Entry),kD ((l).set k0 (⟨x1.aO,x1.sum+e.sum⟩:Entry)) k0 ((k0)+1)=r5:=⟨_,rfl⟩
  refine aL 3 [2,1] (cA id (aY [2]) (iG ((l).set k0 (⟨x1.aO,x1.sum+e.sum⟩:Entry)) k0 ((k0)+1) (by first|omega|(simp;done)|(simp;omega)) (by first|omega|(simp;done)|(simp;omega)) r5 hr5) tR rfl rfl ⟨⟨_,rfl,.inl ⟨rfl,rfl⟩⟩,⟨_,rfl,.inr (.c (.d _))⟩,⟨_,rfl,.inr (.c (.d _))⟩,trivial⟩ ⟨rfl,trivial⟩ rfl rfl rfl rfl rfl rfl trivial ⟨(fun _ _ _ _=>trivial),trivial⟩ rfl rfl rfl rfl) rfl ?_
  refine ab aa 1 rfl ?_
  refine ae ?_
  refine ad aa 4 rfl ?_
  refine aq ?_
  have hX:js l e=(r5,false):=by
    rw [nf hu hk0 (show fv l e.aO=true by simp_all) hx1 rfl];unfold gY;rw [if_pos (by omega),hr5];refine Prod.ext rfl ?_;first|(simp;omega)|(simp_all;done)|(simp_all;omega)
  rw [hX] at hr;clear hX
  simp only [Prod.mk.injEq] at hr;obtain ⟨rfl,rfl⟩:=hr
  refine aj aa [2] 1 rfl rfl rfl rfl rfl rfl ?_ ?_
  all_goals first|rfl|(simp [ar];done)|(simp [ar];omega)
 have hc7':=of_decide_eq_false hc7
 refine aN ?_
 refine ad aa 4 rfl ?_
 refine aq ?_
 have hX:js l e=((l).set k0 (⟨x1.aO,x1.sum+e.sum⟩:Entry),false):=by
   rw [nf hu hk0 (show fv l e.aO=true by simp_all) hx1 rfl];unfold gY;rw [if_neg (by omega)];refine Prod.ext rfl ?_;first|(simp;omega)|(simp_all;done)|(simp_all;omega)
 rw [hX] at hr;clear hX
 simp only [Prod.mk.injEq] at hr;obtain ⟨rfl,rfl⟩:=hr
 refine aj aa [0] 1 rfl rfl rfl rfl rfl rfl ?_ ?_
 all_goals first|rfl|(simp [ar];done)|(simp [ar];omega)
def eP (x:Entry):Prop:=x.aO < 0\/x.aO > 57\/x.sum < -1000000000000\/x.sum > 1000000000000
instance (x:Entry):Decidable (eP x):=by unfold eP;infer_instance
def kF (l:List Entry) (q:Nat):Int:=
 match l[q]? with
 |some x=>if eP x then 3 else if (0 < q/\(l.getD (q - 1) ⟨0,0⟩).aO>=x.aO)\/x.sum=0 then 2 else 0
 |none=>0
def ef:List Entry->Int
 |[]=>0
 |x::l=>x.sum+ef l
def eg (l:List Entry):cV:=if (scan (kF l) 0 l.length).1≠0 then ⟨(scan (kF l) 0 l.length).1,(scan (kF l) 0 l.length).2⟩ else if ef l≠0 then ⟨8,0⟩ else ⟨0,0⟩
theorem yv (x:Entry) (l:List Entry):ef (x::l)=x.sum+ef l:=rfl
theorem mb (l r:List Entry):ef (l++r)=ef l+ef r:=by
 induction l with
 |nil=>simp [ef]
 |cons x l ih=>simp only [List.cons_append,ef,ih];omega
theorem sC {α:Type} {l:List α} {q:Nat} {x:α} (h:l[q]?=some x):l.take (q+1)=l.take q++[x]:=by
 obtain ⟨hlt,rfl⟩:=List.getElem?_eq_some_iff.1 h
 rw [List.take_add_one,List.getElem?_eq_getElem hlt];rfl
theorem ja {l:List Entry} {q:Nat} {x:Entry} (h:l[q]?=some x):ef (l.take (q+1))=ef (l.take q)+x.sum:=by
 rw [sC h,mb];simp [ef]
def ie (l:List Entry) (q:Nat):Int:=if q=0 then -1 else (l.getD (q - 1) ⟨0,0⟩).aO
theorem jy {l:List Entry} {q:Nat} {x:Entry} (h:l[q]?=some x):ie l (q+1)=x.aO:=by
 unfold ie
 rw [if_neg (by omega),List.getD_eq_getElem?_getD,Nat.add_sub_cancel,h];rfl
theorem kp {l:List Entry} {q:Nat} {x:Entry} (hq:0 < q) (h:l[q - 1]?=some x):ie l q=x.aO:=by
 unfold ie
 rw [if_neg (by omega),List.getD_eq_getElem?_getD,h];rfl
theorem gQ {l:List Entry} {q:Nat} {x:Entry} (h:l[q]?=some x):kF l q=if eP x then 3 else if (0 < q/\ie l q>=x.aO)\/x.sum=0 then 2 else 0:=by
 unfold kF
 rw [h]
 by_cases hq:q=0
 ·subst hq;simp
 ·unfold ie;rw [if_neg hq]
structure iV (l:List Entry):Prop where
 up:Up l
 ok:∀ x∈l,0<=x.aO/\x.aO<=57/\-1000000000000<=x.sum/\x.sum<=1000000000000/\x.sum≠0
theorem Eu {l:List Entry} (h:∀ q x y,l[q]?=some x->l[q+1]?=some y->x.aO < y.aO):Up l:=by
 unfold Up
 induction l with
 |nil=>exact List.Pairwise.nil
 |cons x l ih=>
  have h2:=ih fun q a b ha hb=>h (q+1) a b (by simpa using ha) (by simpa using hb)
  refine List.pairwise_cons.2 ⟨fun y hy=>?_,h2⟩
  cases l with
  |nil=>cases hy
  |cons z l=>
   have hz:=h 0 x z (by simp) (by simp)
   rcases List.mem_cons.1 hy with rfl|hy
   ·exact hz
   ·have:=(List.pairwise_cons.1 h2).1 y hy;omega
theorem ym {l:List Entry} (h:Up l) {i j:Nat} {x y:Entry} (hij:i < j) (hx:l[i]?=some x) (hy:l[j]?=some y):x.aO < y.aO:=by
 obtain ⟨hi,rfl⟩:=List.getElem?_eq_some_iff.1 hx
 obtain ⟨hj,rfl⟩:=List.getElem?_eq_some_iff.1 hy
 exact List.pairwise_iff_getElem.1 h i j hi hj hij
theorem yC {l:List Entry}:(scan (kF l) 0 l.length).1=0↔iV l:=by
 rw [mZ]
 constructor
 ·intro h
  have at':∀ q x,l[q]?=some x->¬eP x/\¬((0 < q/\ie l q>=x.aO)\/x.sum=0):=fun q x hx=>by
   have hq:=(List.getElem?_eq_some_iff.1 hx).1
   have h1:=h q (Nat.zero_le _) (by omega)
   rw [gQ hx] at h1
   split at h1
   ·cases h1
   ·split at h1
    ·cases h1
    ·exact ⟨by assumption,by assumption⟩
  refine ⟨Eu fun q x y hx hy=>?_,fun x hx=>?_⟩
  ·have h1:=(at' (q+1) y hy).2
   rw [jy hx] at h1
   omega
  ·obtain ⟨q,hq⟩:=List.getElem?_of_mem hx
   have h1:=at' q x hq
   unfold eP at h1
   omega
 ·intro h q _ hq
  obtain ⟨x,hx⟩:∃ x,l[q]?=some x:=⟨_,List.getElem?_eq_getElem (by omega)⟩
  have h1:=h.ok x (List.mem_of_getElem? hx)
  rw [gQ hx,if_neg (by unfold eP;omega),if_neg]
  rintro (⟨h2,h3⟩|h2)
  ·obtain ⟨y,hy⟩:∃ y,l[q - 1]?=some y:=⟨_,List.getElem?_eq_getElem (by omega)⟩
   rw [kp h2 hy] at h3
   have:=ym h.up (by omega:q - 1 < q) hy hx
   omega
  ·exact h1.2.2.2.2 h2
theorem kK {l:List Entry}:(eg l).err=0↔iV l/\ef l=0:=by
 unfold eg
 rw [<-yC]
 split
 ·rename_i h;constructor
  ·intro h1;exact absurd h1 h
  ·intro h1;exact absurd h1.1 h
 ·rename_i h
  split
  ·rename_i h2;constructor
   ·intro h1;cases h1
   ·intro h1;exact absurd h1.2 h2
  ·rename_i h2;constructor
   ·intro _;exact ⟨by omega,by omega⟩
   ·intro _;rfl
theorem sM {l:List Entry} (h:iV l):l.length<=58:=by
 have key:∀ (q:Nat) (x:Entry),l[q]?=some x->(q:Int)<=x.aO:=by
  intro q
  induction q with
  |zero=>intro x hx;have:=h.ok x (List.mem_of_getElem? hx);omega
  |succ q ih=>
   intro x hx
   have hq:=(List.getElem?_eq_some_iff.1 hx).1
   obtain ⟨y,hy⟩:∃ y,l[q]?=some y:=⟨_,List.getElem?_eq_getElem (by omega)⟩
   have h1:=ih y hy
   have h2:=ym h.up (by omega:q < q+1) hy hx
   omega
 by_cases hl:l.length=0
 ·omega
 ·obtain ⟨x,hx⟩:∃ x,l[l.length - 1]?=some x:=⟨_,List.getElem?_eq_getElem (by omega)⟩
  have h1:=key _ x hx
  have h2:=h.ok x (List.mem_of_getElem? hx)
  omega
theorem lE {x:Entry} {l:List Entry} {a s:Int} (h:x.aO < a):gy (x::l) a s=x::gy l a s:=by
 unfold gy
 rw [oD h,show dW (x::l) a=dW l a+1 by simp [dW,h]]
 cases fv l a<;>simp
theorem lD {x:Entry} {l:List Entry} {a s:Int} (h:x.aO=a):gy (x::l) a s=(if s=0 then [] else [⟨a,s⟩])++l:=by
 unfold gy
 rw [lL (by omega),show dW (x::l) a=0 by simp [dW];omega]
 simp [h]
theorem mW {x:Entry} {l:List Entry} {a s:Int} (h:a < x.aO):gy (x::l) a s=(if s=0 then [] else [⟨a,s⟩])++x::l:=by
 unfold gy
 rw [lL (by omega),show dW (x::l) a=0 by simp [dW];omega]
 have:¬x.aO=a:=by omega
 simp [this]
theorem mU (a s:Int):gy [] a s=if s=0 then [] else [⟨a,s⟩]:=by simp [gy,dW,fv]
theorem pY {a s:Int}:∀ {l:List Entry} {x:Entry},x∈gy l a s->x∈l\/(x=⟨a,s⟩/\s≠0)
 |[],x,h=>by
  rw [mU] at h
  split at h
  ·cases h
  ·rename_i h0;exact .inr ⟨by simpa using h,h0⟩
 |y::l,x,h=>by
  have one:x∈(if s=0 then [] else [(⟨a,s⟩:Entry)])->x=⟨a,s⟩/\s≠0:=fun h=>by
   split at h
   ·cases h
   ·rename_i h0;exact ⟨by simpa using h,h0⟩
  rcases Int.lt_trichotomy y.aO a with h1|h1|h1
  ·rw [lE h1] at h
   rcases List.mem_cons.1 h with rfl|h
   ·exact .inl List.mem_cons_self
   ·rcases pY h with h|h
    ·exact .inl (List.mem_cons_of_mem _ h)
    ·exact .inr h
  ·rw [lD h1] at h
   rcases List.mem_append.1 h with h|h
   ·exact .inr (one h)
   ·exact .inl (List.mem_cons_of_mem _ h)
  ·rw [mW h1] at h
   rcases List.mem_append.1 h with h|h
   ·exact .inr (one h)
   ·exact .inl h
theorem kS {x:Entry} {l:List Entry}:Up (x::l)↔(∀ y∈l,x.aO < y.aO)/\Up l:=List.pairwise_cons
theorem rN {a s:Int}:∀ {l:List Entry},Up l->Up (gy l a s)
 |[],_=>by rw [mU];split;exact List.Pairwise.nil;exact List.pairwise_singleton _ _
 |y::l,h=>by
  obtain ⟨h1,h2⟩:=kS.1 h
  rcases Int.lt_trichotomy y.aO a with h3|h3|h3
  ·rw [lE h3]
   refine kS.2 ⟨fun z hz=>?_,rN h2⟩
   rcases pY hz with hz|⟨rfl,_⟩
   ·exact h1 z hz
   ·exact h3
  ·rw [lD h3]
   split
   ·exact h2
   ·exact kS.2 ⟨fun z hz=>by have:=h1 z hz;show a < z.aO;omega,h2⟩
  ·rw [mW h3]
   split
   ·exact h
   ·exact kS.2 ⟨fun z hz=>by
     show a < z.aO
     rcases List.mem_cons.1 hz with rfl|hz
     ·exact h3
     ·have:=h1 z hz;omega,h⟩
theorem qi (a s b:Int) (l:List Entry):dw ((if s=0 then [] else [⟨a,s⟩])++l) b=if s≠0/\a=b then s else dw l b:=by
 by_cases h:s=0
 ·simp [h]
 ·simp [h,dw]
theorem qh {a s b:Int}:∀ {l:List Entry},Up l->dw (gy l a s) b=if a=b then s else dw l b
 |[],_=>by
  have:=qi a s b []
  rw [List.append_nil] at this
  rw [mU,this]
  by_cases h:s=0
  ·subst h;simp [dw]
  ·simp [h]
 |y::l,h=>by
  obtain ⟨h1,h2⟩:=kS.1 h
  rcases Int.lt_trichotomy y.aO a with h3|h3|h3
  ·rw [lE h3]
   unfold dw
   rw [qh h2]
   by_cases h4:y.aO=b
   ·rw [if_pos h4,if_pos h4,if_neg (by omega)]
   ·rw [if_neg h4,if_neg h4]
  ·rw [lD h3,qi]
   by_cases h4:a=b
   ·subst h4
    by_cases h5:s=0
    ·subst h5;simp;exact iQ fun z hz=>by have:=h1 z hz;omega
    ·simp [h5]
   ·rw [if_neg (fun h=>h4 h.2),if_neg h4]
    conv=>rhs;unfold dw
    rw [if_neg (by omega)]
  ·rw [mW h3,qi]
   by_cases h4:a=b
   ·subst h4
    by_cases h5:s=0
    ·subst h5;simp;exact iQ fun z hz=>by
      rcases List.mem_cons.1 hz with rfl|hz
      ·exact h3
      ·have:=h1 z hz;omega
    ·simp [h5]
   ·rw [if_neg (fun h=>h4 h.2),if_neg h4]
theorem ud {a s:Int}:∀ {l:List Entry},Up l->ef (gy l a s)=ef l - dw l a+s
 |[],_=>by
  rw [mU]
  by_cases h:s=0
  ·subst h;simp [ef,dw]
  ·simp [h,ef,dw]
 |y::l,h=>by
  obtain ⟨h1,h2⟩:=kS.1 h
  have one:ef (if s=0 then [] else [(⟨a,s⟩:Entry)])=s:=by split<;>simp_all [ef]
  rcases Int.lt_trichotomy y.aO a with h3|h3|h3
  ·rw [lE h3]
   unfold ef dw
   rw [ud h2,if_neg (by omega)];omega
  ·rw [lD h3,mb,one]
   conv=>rhs;unfold ef dw
   rw [if_pos h3];omega
  ·rw [mW h3,mb,one,iQ fun z hz=>by
    rcases List.mem_cons.1 hz with rfl|hz
    ·exact h3
    ·have:=h1 z hz;omega]
   omega
theorem qJ {l:List Entry} {a s:Int} (h:iV l) (ha:0<=a/\a<=57) (hs:-1000000000000<=s/\s<=1000000000000):iV (gy l a s):=
 ⟨rN h.up,fun x hx=>by
  rcases pY hx with hx|⟨rfl,h0⟩
  ·exact h.ok x hx
  ·exact ⟨ha.1,ha.2,hs.1,hs.2,h0⟩⟩
def eV:List Entry->List Entry->Option (List Entry)
 |l,[]=>some l
 |l,e::es=>if gY (dw l e.aO+e.sum)=true then eV (gy l e.aO (dw l e.aO+e.sum)) es else none
def fW (l es:List Entry):List Entry×Int:=
 if (eg l).err≠0 then ([],(eg l).err)
 else if es.length > 10 then ([],5)
 else if ∃ x∈es,eP x then ([],3)
 else if ef es≠0 then ([],8)
 else match eV l es with
  |some r=>(r,0)
  |none=>([],4)
theorem lM {s:Int}:gY s=true↔-1000000000000<=s/\s<=1000000000000:=by
 unfold gY;simp only [Bool.and_eq_true,decide_eq_true_eq,ge_iff_le]
theorem pC {l es:List Entry} {q:Nat} {e:Entry} (h:es[q]?=some e):eV l (es.drop q)=if gY (dw l e.aO+e.sum)=true then eV (gy l e.aO (dw l e.aO+e.sum)) (es.drop (q+1)) else none:=by
 obtain ⟨hq,rfl⟩:=List.getElem?_eq_some_iff.1 h
 rw [List.drop_eq_getElem_cons hq];rfl
theorem ot:∀ {es l r:List Entry},iV l->(∀ x∈es,¬eP x)->eV l es=some r->iV r/\ef r=ef l+ef es
 |[],l,r,h,_,hp=>by
  have:l=r:=by simpa [eV] using hp
  subst this;exact ⟨h,by simp [ef]⟩
 |e::es,l,r,h,hb,hp=>by
  unfold eV at hp
  split at hp
  ·rename_i hg
   have hg:=lM.1 hg
   have h1:=hb e List.mem_cons_self
   unfold eP at h1
   obtain ⟨h2,h3⟩:=ot (qJ h (by omega) hg) (fun x hx=>hb x (List.mem_cons_of_mem _ hx)) hp
   refine ⟨h2,?_⟩
   rw [h3,ud h.up,yv]
   omega
  ·cases hp
def lg (a:Int):List Entry->Int
 |[]=>0
 |e::es=>(if e.aO=a then e.sum else 0)+lg a es
theorem vN (a:Int) (e:Entry) (es:List Entry):lg a (e::es)=(if e.aO=a then e.sum else 0)+lg a es:=rfl
theorem qQ {a:Int}:∀ {es l r:List Entry},Up l->eV l es=some r->dw r a=dw l a+lg a es
 |[],l,r,h,hp=>by
  have:l=r:=by simpa [eV] using hp
  subst this;simp [lg]
 |e::es,l,r,h,hp=>by
  unfold eV at hp
  split at hp
  ·rw [qQ (rN h) hp,qh h,vN]
   by_cases hc:e.aO=a
   ·subst hc;simp;omega
   ·simp [hc]
  ·cases hp


theorem pL (l:List Int) (hl:l.length * 8<=140737488355328):Fn Try.prog 95 [(.c (fF l))] (aC (.s 0 0 1 l.length)) [(0,.arr 3 1 (l.map rI))]:=by
 refine Fn.mk' 8 [(0,(aC (fF l)))] Try.func95 rfl rfl rfl rfl ?_
 intro W0 T0
 refine dz 0 rfl (fun hlen0=>?_)
 refine ad aa 1 rfl ?_
 refine af ?_
 refine az aa 1 rfl ?_
 refine gZ (ah.plain rfl) rfl rfl Try.underlying30 rfl rfl (fun bn1 hbn1=>?_)
 refine ae ?_
 refine ag rfl (fun hc2=>?_) (fun hc2=>?_)
 ·
  have hc2':=hc2;try simp only [bd,bF] at hc2'
  refine ad aa 1 rfl ?_
  refine aq ?_
  refine an ?_
  refine cQ (aD.nil 2 3 1 (by decide) rfl) ?_
  refine aj aa [0] 1 rfl rfl rfl rfl rfl rfl ?_ ?_
  ·(have h0:=hbn1 (by assumption);have h1:l=[]:=by (cases l with|nil=>rfl|cons=>simp at h0));subst h1;rfl
  ·(have h0:=hbn1 (by assumption);have h1:l=[]:=by (cases l with|nil=>rfl|cons=>simp at h0));subst h1;rfl
 have hc2':=hc2;try simp only [bd,bF] at hc2'
 refine aN ?_
 refine eM ?_
 refine aL 1 [0] (dD (ys:=[]) (rows:=(([]:List Int)).map rI) 0 mf rfl (by decide) trivial rfl rfl rfl rfl) rfl ?_
 refine ab aa 1 rfl ?_
 refine aL 2 [1] (dh (m:=l.length) (N:=l.length) (k2:=1) (ys:=(l).map rI) mf rfl rfl rfl rfl rfl rfl (by first|omega|(simp;omega)|(simp;done)) rfl (.d _ _) (by first|omega|(simp;omega)|(simp;done)) (by first|omega|(simp;omega)|(simp;done)) rfl (by decide) (by first|omega|(simp;omega)|(simp;done)) (by first|omega|(simp;omega)|(simp;done))) rfl ?_
 refine ab aa 1 rfl ?_
 refine ae ?_
 refine aq ?_
 refine aj aa [1] 1 rfl rfl rfl rfl rfl rfl ?_ ?_
 ·first|rfl|simp [fG,aC]
 ·first|rfl|simp
theorem mL (l:List bS) (hl:l.length * 32<=140737488355328):Fn Try.prog 99 [(.c (gH l))] (aC (.s 0 0 4 l.length)) [(0,.arr 107 4 (l.map hP))]:=by
 refine Fn.mk' 8 [(0,(aC (gH l)))] Try.func99 rfl rfl rfl rfl ?_
 intro W0 T0
 refine dz 0 rfl (fun hlen0=>?_)
 refine ad aa 1 rfl ?_
 refine af ?_
 refine az aa 1 rfl ?_
 refine gZ (ah.plain rfl) rfl rfl Try.underlying39 rfl rfl (fun bn1 hbn1=>?_)
 refine ae ?_
 refine ag rfl (fun hc2=>?_) (fun hc2=>?_)
 ·
  have hc2':=hc2;try simp only [bd,bF] at hc2'
  refine ad aa 1 rfl ?_
  refine aq ?_
  refine an ?_
  refine cQ (aD.nil 2 107 4 (by decide) rfl) ?_
  refine aj aa [0] 1 rfl rfl rfl rfl rfl rfl ?_ ?_
  ·(have h0:=hbn1 (by assumption);have h1:l=[]:=by (cases l with|nil=>rfl|cons=>simp at h0));subst h1;rfl
  ·(have h0:=hbn1 (by assumption);have h1:l=[]:=by (cases l with|nil=>rfl|cons=>simp at h0));subst h1;rfl
 have hc2':=hc2;try simp only [bd,bF] at hc2'
 refine aN ?_
 refine eM ?_
 refine aL 1 [0] (dD (ys:=[]) (rows:=(([]:List bS)).map hP) 0 xm rfl (by decide) trivial rfl rfl rfl rfl) rfl ?_
 refine ab aa 1 rfl ?_
 refine aL 2 [1] (dh (m:=l.length) (N:=l.length) (k2:=1) (ys:=(l).map hP) xm rfl rfl rfl rfl rfl rfl (by first|omega|(simp;omega)|(simp;done)) rfl (.d _ _) (by first|omega|(simp;omega)|(simp;done)) (by first|omega|(simp;omega)|(simp;done)) rfl (by decide) (by first|omega|(simp;omega)|(simp;done)) (by first|omega|(simp;omega)|(simp;done))) rfl ?_
 refine ab aa 1 rfl ?_
 refine ae ?_
 refine aq ?_
 refine aj aa [1] 1 rfl rfl rfl rfl rfl rfl ?_ ?_
 ·first|rfl|simp [fG,aC]
 ·first|rfl|simp
theorem pM (l:List cU) (hl:l.length * 16<=140737488355328):Fn Try.prog 114 [(.c (fj l))] (aC (.s 0 0 2 l.length)) [(0,.arr 125 2 (l.map gJ))]:=by
 refine Fn.mk' 8 [(0,(aC (fj l)))] Try.func114 rfl rfl rfl rfl ?_
 intro W0 T0
 refine dz 0 rfl (fun hlen0=>?_)
 refine ad aa 1 rfl ?_
 refine af ?_
 refine az aa 1 rfl ?_
 refine gZ (ah.plain rfl) rfl rfl Try.underlying59 rfl rfl (fun bn1 hbn1=>?_)
 refine ae ?_
 refine ag rfl (fun hc2=>?_) (fun hc2=>?_)
 ·
  have hc2':=hc2;try simp only [bd,bF] at hc2'
  refine ad aa 1 rfl ?_
  refine aq ?_
  refine an ?_
  refine cQ (aD.nil 2 125 2 (by decide) rfl) ?_
  refine aj aa [0] 1 rfl rfl rfl rfl rfl rfl ?_ ?_
  ·(have h0:=hbn1 (by assumption);have h1:l=[]:=by (cases l with|nil=>rfl|cons=>simp at h0));subst h1;rfl
  ·(have h0:=hbn1 (by assumption);have h1:l=[]:=by (cases l with|nil=>rfl|cons=>simp at h0));subst h1;rfl
 have hc2':=hc2;try simp only [bd,bF] at hc2'
 refine aN ?_
 refine eM ?_
 refine aL 1 [0] (dD (ys:=[]) (rows:=(([]:List cU)).map gJ) 0 nZ rfl (by decide) trivial rfl rfl rfl rfl) rfl ?_
 refine ab aa 1 rfl ?_
 refine aL 2 [1] (dh (m:=l.length) (N:=l.length) (k2:=1) (ys:=(l).map gJ) nZ rfl rfl rfl rfl rfl rfl (by first|omega|(simp;omega)|(simp;done)) rfl (.d _ _) (by first|omega|(simp;omega)|(simp;done)) (by first|omega|(simp;omega)|(simp;done)) rfl (by decide) (by first|omega|(simp;omega)|(simp;done)) (by first|omega|(simp;omega)|(simp;done))) rfl ?_
 refine ab aa 1 rfl ?_
 refine ae ?_
 refine aq ?_
 refine aj aa [1] 1 rfl rfl rfl rfl rfl rfl ?_ ?_
 ·first|rfl|simp [fG,aC]
 ·first|rfl|simp
theorem ln (l:List bl) (hl:l.length * 32<=140737488355328):Fn Try.prog 106 [(.c (dd l))] (aC (.s 0 0 4 l.length)) [(0,.arr 80 4 (l.map fq))]:=by
 refine Fn.mk' 8 [(0,(aC (dd l)))] Try.func106 rfl rfl rfl rfl ?_
 intro W0 T0
 refine dz 0 rfl (fun hlen0=>?_)
 refine ad aa 1 rfl ?_
 refine af ?_
 refine az aa 1 rfl ?_
 refine gZ (ah.plain rfl) rfl rfl Try.underlying32 rfl rfl (fun bn1 hbn1=>?_)
 refine ae ?_
 refine ag rfl (fun hc2=>?_) (fun hc2=>?_)
 ·
  have hc2':=hc2;try simp only [bd,bF] at hc2'
  refine ad aa 1 rfl ?_
  refine aq ?_
  refine an ?_
  refine cQ (aD.nil 2 80 4 (by decide) rfl) ?_
  refine aj aa [0] 1 rfl rfl rfl rfl rfl rfl ?_ ?_
  ·(have h0:=hbn1 (by assumption);have h1:l=[]:=by (cases l with|nil=>rfl|cons=>simp at h0));subst h1;rfl
  ·(have h0:=hbn1 (by assumption);have h1:l=[]:=by (cases l with|nil=>rfl|cons=>simp at h0));subst h1;rfl
 have hc2':=hc2;try simp only [bd,bF] at hc2'
 refine aN ?_
 refine eM ?_
 refine aL 1 [0] (dD (ys:=[]) (rows:=(([]:List bl)).map fq) 0 ui rfl (by decide) trivial rfl rfl rfl rfl) rfl ?_
 refine ab aa 1 rfl ?_
 refine aL 2 [1] (dh (m:=l.length) (N:=l.length) (k2:=1) (ys:=(l).map fq) ui rfl rfl rfl rfl rfl rfl (by first|omega|(simp;omega)|(simp;done)) rfl (.d _ _) (by first|omega|(simp;omega)|(simp;done)) (by first|omega|(simp;omega)|(simp;done)) rfl (by decide) (by first|omega|(simp;omega)|(simp;done)) (by first|omega|(simp;omega)|(simp;done))) rfl ?_
 refine ab aa 1 rfl ?_
 refine ae ?_
 refine aq ?_
 refine aj aa [1] 1 rfl rfl rfl rfl rfl rfl ?_ ?_
 ·first|rfl|simp [fG,aC]
 ·first|rfl|simp
theorem tL (l:List Entry) (hl:l.length * 16<=140737488355328):Fn Try.prog 115 [(.c (dO l))] (aC (.s 0 0 2 l.length)) [(0,.arr 115 2 (l.map er))]:=by
 refine Fn.mk' 8 [(0,(aC (dO l)))] Try.func115 rfl rfl rfl rfl ?_
 intro W0 T0
 refine dz 0 rfl (fun hlen0=>?_)
 refine ad aa 1 rfl ?_
 refine af ?_
 refine az aa 1 rfl ?_
 refine gZ (ah.plain rfl) rfl rfl Try.underlying44 rfl rfl (fun bn1 hbn1=>?_)
 refine ae ?_
 refine ag rfl (fun hc2=>?_) (fun hc2=>?_)
 ·
  have hc2':=hc2;try simp only [bd,bF] at hc2'
  refine ad aa 1 rfl ?_
  refine aq ?_
  refine an ?_
  refine cQ (aD.nil 2 115 2 (by decide) rfl) ?_
  refine aj aa [0] 1 rfl rfl rfl rfl rfl rfl ?_ ?_
  ·(have h0:=hbn1 (by assumption);have h1:l=[]:=by (cases l with|nil=>rfl|cons=>simp at h0));subst h1;rfl
  ·(have h0:=hbn1 (by assumption);have h1:l=[]:=by (cases l with|nil=>rfl|cons=>simp at h0));subst h1;rfl
 have hc2':=hc2;try simp only [bd,bF] at hc2'
 refine aN ?_
 refine eM ?_
 refine aL 1 [0] (dD (ys:=[]) (rows:=(([]:List Entry)).map er) 0 jI rfl (by decide) trivial rfl rfl rfl rfl) rfl ?_
 refine ab aa 1 rfl ?_
 refine aL 2 [1] (dh (m:=l.length) (N:=l.length) (k2:=1) (ys:=(l).map er) jI rfl rfl rfl rfl rfl rfl (by first|omega|(simp;omega)|(simp;done)) rfl (.d _ _) (by first|omega|(simp;omega)|(simp;done)) (by first|omega|(simp;omega)|(simp;done)) rfl (by decide) (by first|omega|(simp;omega)|(simp;done)) (by first|omega|(simp;omega)|(simp;done))) rfl ?_
 refine ab aa 1 rfl ?_
 refine ae ?_
 refine aq ?_
 refine aj aa [1] 1 rfl rfl rfl rfl rfl rfl ?_ ?_
 ·first|rfl|simp [fG,aC]
 ·first|rfl|simp
theorem mJ (l:List al) (hl:l.length * 32<=140737488355328):Fn Try.prog 54 [(.c (iM l))] (aC (.s 0 0 4 l.length)) [(0,.arr 83 4 (l.map gK))]:=by
 refine Fn.mk' 8 [(0,(aC (iM l)))] Try.func54 rfl rfl rfl rfl ?_
 intro W0 T0
 refine dz 0 rfl (fun hlen0=>?_)
 refine ad aa 1 rfl ?_
 refine af ?_
 refine az aa 1 rfl ?_
 refine gZ (ah.plain rfl) rfl rfl Try.underlying42 rfl rfl (fun bn1 hbn1=>?_)
 refine ae ?_
 refine ag rfl (fun hc2=>?_) (fun hc2=>?_)
 ·
  have hc2':=hc2;try simp only [bd,bF] at hc2'
  refine ad aa 1 rfl ?_
  refine aq ?_
  refine an ?_
  refine cQ (aD.nil 2 83 4 (by decide) rfl) ?_
  refine aj aa [0] 1 rfl rfl rfl rfl rfl rfl ?_ ?_
  ·(have h0:=hbn1 (by assumption);have h1:l=[]:=by (cases l with|nil=>rfl|cons=>simp at h0));subst h1;rfl
  ·(have h0:=hbn1 (by assumption);have h1:l=[]:=by (cases l with|nil=>rfl|cons=>simp at h0));subst h1;rfl
 have hc2':=hc2;try simp only [bd,bF] at hc2'
 refine aN ?_
 refine eM ?_
 refine aL 1 [0] (dD (ys:=[]) (rows:=(([]:List al)).map gK) 0 xl rfl (by decide) trivial rfl rfl rfl rfl) rfl ?_
 refine ab aa 1 rfl ?_
 refine aL 2 [1] (dh (m:=l.length) (N:=l.length) (k2:=1) (ys:=(l).map gK) xl rfl rfl rfl rfl rfl rfl (by first|omega|(simp;omega)|(simp;done)) rfl (.d _ _) (by first|omega|(simp;omega)|(simp;done)) (by first|omega|(simp;omega)|(simp;done)) rfl (by decide) (by first|omega|(simp;omega)|(simp;done)) (by first|omega|(simp;omega)|(simp;done))) rfl ?_
 refine ab aa 1 rfl ?_
 refine ae ?_
 refine aq ?_
 refine aj aa [1] 1 rfl rfl rfl rfl rfl rfl ?_ ?_
 ·first|rfl|simp [fG,aC]
 ·first|rfl|simp


theorem vr (l:List Entry) (f:cV) (hr:eg l=f):Fn Try.prog 33 [(.c (dO l))] (.v (.g [(cI f.err),(cI f.at_)])) []:=by
 refine Fn.mk' 64 [(0,(aC (dO l)))] Try.func33 rfl rfl rfl rfl ?_
 intro W0 T0
 refine dz 0 rfl (fun hlen0=>?_)
 refine ad aa 1 rfl ?_
 refine ad aa 1 rfl ?_
 refine af ?_
 refine az aa 1 rfl ?_
 refine ax (cT rfl rfl rfl rfl rfl Try.underlying44) rfl ?_
 refine ab aa 1 rfl ?_
 refine ae ?_
 refine aV ?_
 refine cu (β:=Nat) (fun (q:Nat)=>⟨[(0,(aC (dO l))),(2,(aC (.p 0 0 0 0))),(3,(aI (ef (l.take q)))),(6,(aC (dO l))),(7,(aI (↑l.length:Int))),(8,(aI (↑q:Int)))],[(0,(.box 50 [(cI 0),(cI 0)]))],1⟩) (fun (q:Nat)=>q<=l.length/\scan (kF l) 0 l.length=scan (kF l) q (l.length - q)/\(q:Int) - 1<=ie l q/\ie l q<=57/\-1000000000000 * (q:Int)<=ef (l.take q)/\ef (l.take q)<=1000000000000 * (q:Int)) (fun (q:Nat)=>l.length - q) 0 ?_ ?_ ?_
 ·(have h1:ie l 0=-1:=rfl);(have h2:ef (l.take 0)=0:=rfl);exact ⟨by omega,rfl,by omega,by omega⟩
 ·exact aD.bZ id (by refine ⟨?_,?_,?_,?_,?_,?_,trivial⟩<;>first|rfl|(simp only [bq];done)|(congr 3;omega)|(congr 4;omega)|(simp only [br];rfl)) (⟨by first|rfl|(simp only [bq];done)|(congr 3;omega)|(congr 4;omega)|(simp only [br];rfl),trivial⟩) rfl
 rintro q ⟨hi0_0,hi0_1,hi0_2,hi0_3⟩
 refine ad aa 1 rfl ?_
 refine af ?_
 refine ag rfl (fun hc1=>?_) (fun hc1=>?_)
 ·
  have hc1':=of_decide_eq_true hc1
  refine aN ?_
  refine af ?_
  refine aV ?_
  refine az aa 1 rfl ?_
  obtain ⟨x1,hx1⟩:=bY (xs:=l) (i:=q) (by first|omega|(simp;done)|(simp;omega))
  refine ax (cf (i:=q) rfl rfl rfl Try.underlying44 dZ (by first|omega|(simp;done)|(simp;omega)) (bf hx1)) rfl ?_
  refine ab aa 4 rfl ?_
  refine ae ?_
  refine af ?_
  refine aV ?_
  refine cm 13 ((((decide (x1.aO < 0))||(decide (x1.aO>=58)))||(decide (x1.sum < (-1000000000000))))||(decide (x1.sum > 1000000000000))) ?_ ?_
  ·
   refine aw ?_
   refine ab aa 4 rfl ?_
   refine bj (t:=17) rfl (fun hb2=>?_) (fun hb2=>?_)
   ·
    have hb2':=of_decide_eq_true hb2
    refine ab aa 15 rfl ?_
    refine ae ?_
    exact aD.bB 20 rfl rfl (by first|(simp [hb2];done)|(simp_all;done)|(exfalso;simp_all;done)|(simp_all;omega)) rfl
   have hb2':=of_decide_eq_false hb2
   refine ab aa 5 rfl ?_
   refine bj (t:=22) rfl (fun hb3=>?_) (fun hb3=>?_)
   ·
    have hb3':=of_decide_eq_true hb3
    refine ab aa 10 rfl ?_
    refine ae ?_
    exact aD.bB 21 rfl rfl (by first|(simp [hb2,hb3];done)|(simp_all;done)|(exfalso;simp_all;done)|(simp_all;omega)) rfl
   have hb3':=of_decide_eq_false hb3
   refine ab aa 5 rfl ?_
   refine bj (t:=27) rfl (fun hb4=>?_) (fun hb4=>?_)
   ·
    have hb4':=of_decide_eq_true hb4
    refine ab aa 5 rfl ?_
    refine ae ?_
    exact aD.bB 22 rfl rfl (by first|(simp [hb2,hb3,hb4];done)|(simp_all;done)|(exfalso;simp_all;done)|(simp_all;omega)) rfl
   have hb4':=of_decide_eq_false hb4
   refine ab aa 5 rfl ?_
   refine ae ?_
   exact aD.bB 22 rfl rfl (by first|(simp [hb2,hb3,hb4];done)|(simp_all;done)|(exfalso;simp_all;done)|(simp_all;omega)) rfl
  refine ag rfl (fun hc5=>?_) (fun hc5=>?_)
  ·
   have hc5':=hc5;try simp only [bd,bF] at hc5'
   refine ad aa 3 rfl ?_
   refine aq ?_
   refine bg ?_
   refine an ?_
   refine bg ?_
   refine an ?_
   refine an ?_
   refine bg ?_
   refine an ?_
   have hX:eg l=(⟨3,(↑q:Int)⟩:cV):=by
     (have hb:eP x1:=by unfold eP;omega);(have h0:=gU (e:=kF l) (q:=q) (n:=l.length) (by omega) (by rw [gQ hx1,if_pos hb]) (by decide:(3:Int)≠0));(unfold eg;rw [hi0_1,h0];rfl)
   rw [hX] at hr;clear hX
   subst hr
   refine aj aa [0] 0 rfl rfl rfl rfl rfl rfl ?_ ?_
   all_goals first|rfl|(simp [ar];done)|(simp [ar];omega)
  have hc5':=hc5;try simp only [bd,bF] at hc5'
  refine af ?_
  rcases Bool.eq_false_or_eq_true (decide ((↑q:Int) > 0)) with hb6|hb6
  ·
   have hb6':=of_decide_eq_true hb6
   obtain ⟨x2,hx2⟩:=bY (xs:=l) (i:=(q) - 1) (by first|omega|(simp;done)|(simp;omega))
   rcases Bool.eq_false_or_eq_true (decide (x2.aO>=x1.aO)) with hb7|hb7
   ·
    have hb7':=of_decide_eq_true hb7
    refine bb [0,2,3,6,7,8,5,4] [1,0] mixed rfl rfl ?_
    refine aA (kn:=[(36,true)]) aa 5 rfl ⟨hb6,trivial⟩ ?_
    refine aS (n':=2) [39,37] [] rfl rfl (.inl ⟨(ah.yes rfl rfl rfl),aH.cast (aJ rfl rfl rfl (aE (by first|omega|(simp;done)|(simp;omega)))) rfl⟩) rfl ?_
    refine aS (n':=2) [38,40,37] [] rfl rfl (.inl ⟨(ah.yes rfl rfl rfl),aH.cast (cf (i:=(q) - 1) rfl rfl rfl Try.underlying44 dZ (by first|omega|(simp;done)|(simp;omega)) (bf hx2)) rfl⟩) rfl ?_
    refine aA (kn:=[(46,true)]) aa 12 rfl ⟨hb7,trivial⟩ ?_
    refine bx [1,0] rfl rfl rfl rfl (by kernel_rfl) ?_
    refine ae ?_
    refine ag rfl (fun _=>?_) (fun hno=>by cases hno)
    refine ad aa 3 rfl ?_
    refine aq ?_
    refine bg ?_
    refine an ?_
    refine bg ?_
    refine an ?_
    refine an ?_
    refine bg ?_
    refine an ?_
    have hX:eg l=(⟨2,(↑q:Int)⟩:cV):=by
      (have hb:¬eP x1:=by unfold eP;omega);(have hla:=kp (by omega) hx2);(have h0:=gU (e:=kF l) (q:=q) (n:=l.length) (by omega) (by rw [gQ hx1,if_neg hb,if_pos (by omega)]) (by decide:(2:Int)≠0));(unfold eg;rw [hi0_1,h0];rfl)
    rw [hX] at hr;clear hX
    subst hr
    refine aj aa [0] 0 rfl rfl rfl rfl rfl rfl ?_ ?_
    all_goals first|rfl|(simp [ar];done)|(simp [ar];omega)
   have hb7':=of_decide_eq_false hb7
   refine bb [0,2,3,6,7,8,5,4] [1,0] mixed rfl rfl ?_
   refine aA (kn:=[(36,true)]) aa 5 rfl ⟨hb6,trivial⟩ ?_
   refine aS (n':=2) [39,37] [] rfl rfl (.inl ⟨(ah.yes rfl rfl rfl),aH.cast (aJ rfl rfl rfl (aE (by first|omega|(simp;done)|(simp;omega)))) rfl⟩) rfl ?_
   refine aS (n':=2) [38,40,37] [] rfl rfl (.inl ⟨(ah.yes rfl rfl rfl),aH.cast (cf (i:=(q) - 1) rfl rfl rfl Try.underlying44 dZ (by first|omega|(simp;done)|(simp;omega)) (bf hx2)) rfl⟩) rfl ?_
   refine aA (kn:=[(46,false)]) aa 12 rfl ⟨hb7,trivial⟩ ?_
   refine bx [1,0] rfl rfl rfl rfl (by kernel_rfl) ?_
   refine ae ?_
   refine ag rfl (fun hc9=>?_) (fun hc9=>?_)
   ·
    have hc9':=of_decide_eq_true hc9
    refine ad aa 3 rfl ?_
    refine aq ?_
    refine bg ?_
    refine an ?_
    refine bg ?_
    refine an ?_
    refine an ?_
    refine bg ?_
    refine an ?_
    have hX:eg l=(⟨2,(↑q:Int)⟩:cV):=by
      (have hb:¬eP x1:=by unfold eP;omega);(have hla:=kp (by omega) hx2);(have h0:=gU (e:=kF l) (q:=q) (n:=l.length) (by omega) (by rw [gQ hx1,if_neg hb,if_pos (by omega)]) (by decide:(2:Int)≠0));(unfold eg;rw [hi0_1,h0];rfl)
    rw [hX] at hr;clear hX
    subst hr
    refine aj aa [0] 0 rfl rfl rfl rfl rfl rfl ?_ ?_
    all_goals first|rfl|(simp [ar];done)|(simp [ar];omega)
   have hc9':=of_decide_eq_false hc9
   refine cW ?_
   refine bn ?_
   refine then_ok ?_
   refine aw ?_
   refine ab aa 3 rfl ?_
   refine ax (aJ rfl rfl rfl (aE (by first|omega|(simp;done)|(simp;omega)))) rfl ?_
   refine ab aa 1 rfl ?_
   refine bX ?_
   refine bn ?_
   refine then_ok ?_
   refine aw ?_
   refine ax (aJ rfl rfl rfl (aE (by first|omega|(simp;done)|(simp;omega)))) rfl ?_
   refine ab aa 1 rfl ?_
   refine ae ?_
   refine ⟨q+1,⟨by omega,by rw [hi0_1];exact mA (by omega) (by have hla:=kp (by omega) hx2;rw [gQ hx1,if_neg (by unfold eP;omega),if_neg (by omega)]),by rw [jy hx1];have hla:=kp (by omega) hx2;omega,by rw [jy hx1,ja hx1];omega⟩,by first|omega|(simp;done)|(simp;omega),aD.bZ id (by refine ⟨?_,?_,?_,?_,?_,?_,trivial⟩<;>first|rfl|(simp only [bq];done)|(congr 3;omega)|(congr 4;omega)|(simp only [br];rfl)|(rw [ja hx1];rfl)) (⟨by first|rfl|(simp only [bq];done)|(congr 3;omega)|(congr 4;omega)|(simp only [br];rfl),trivial⟩) rfl⟩
  have hb6':=of_decide_eq_false hb6
  refine bb [0,2,3,6,7,8,5,4] [1,0] mixed rfl rfl ?_
  refine aA (kn:=[(36,false)]) aa 19 rfl ⟨hb6,trivial⟩ ?_
  refine bx [1,0] rfl rfl rfl rfl (by kernel_rfl) ?_
  refine ae ?_
  refine ag rfl (fun hc10=>?_) (fun hc10=>?_)
  ·
   have hc10':=of_decide_eq_true hc10
   refine ad aa 3 rfl ?_
   refine aq ?_
   refine bg ?_
   refine an ?_
   refine bg ?_
   refine an ?_
   refine an ?_
   refine bg ?_
   refine an ?_
   have hX:eg l=(⟨2,(↑q:Int)⟩:cV):=by
     (have hb:¬eP x1:=by unfold eP;omega);(have h0:=gU (e:=kF l) (q:=q) (n:=l.length) (by omega) (by rw [gQ hx1,if_neg hb,if_pos (by omega)]) (by decide:(2:Int)≠0));(unfold eg;rw [hi0_1,h0];rfl)
   rw [hX] at hr;clear hX
   subst hr
   refine aj aa [0] 0 rfl rfl rfl rfl rfl rfl ?_ ?_
   all_goals first|rfl|(simp [ar];done)|(simp [ar];omega)
  have hc10':=of_decide_eq_false hc10
  refine cW ?_
  refine bn ?_
  refine then_ok ?_
  refine aw ?_
  refine ab aa 3 rfl ?_
  refine ax (aJ rfl rfl rfl (aE (by first|omega|(simp;done)|(simp;omega)))) rfl ?_
  refine ab aa 1 rfl ?_
  refine bX ?_
  refine bn ?_
  refine then_ok ?_
  refine aw ?_
  refine ax (aJ rfl rfl rfl (aE (by first|omega|(simp;done)|(simp;omega)))) rfl ?_
  refine ab aa 1 rfl ?_
  refine ae ?_
  refine ⟨q+1,⟨by omega,by rw [hi0_1];exact mA (by omega) (by have hla:ie l q=-1:=(by unfold ie;rw [if_pos (by omega)]);rw [gQ hx1,if_neg (by unfold eP;omega),if_neg (by omega)]),by rw [jy hx1];have hla:ie l q=-1:=(by unfold ie;rw [if_pos (by omega)]);omega,by rw [jy hx1,ja hx1];omega⟩,by first|omega|(simp;done)|(simp;omega),aD.bZ id (by refine ⟨?_,?_,?_,?_,?_,?_,trivial⟩<;>first|rfl|(simp only [bq];done)|(congr 3;omega)|(congr 4;omega)|(simp only [br];rfl)|(rw [ja hx1];rfl)) (⟨by first|rfl|(simp only [bq];done)|(congr 3;omega)|(congr 4;omega)|(simp only [br];rfl),trivial⟩) rfl⟩
 have hc1':=of_decide_eq_false hc1
 refine cp ?_
 refine aP ?_
 refine aP ?_
 refine bP ?_
 refine then_ok ?_
 refine af ?_
 refine ad aa 2 rfl ?_
 refine ag rfl (fun hc11=>?_) (fun hc11=>?_)
 ·
  have hc11':=of_decide_eq_true hc11
  refine ad aa 2 rfl ?_
  refine aq ?_
  refine an ?_
  have hX:eg l=(⟨8,0⟩:cV):=by
    (obtain rfl:q=l.length:=by omega);rw [List.take_length] at *;(unfold eg;rw [hi0_1,mY (by omega)];rw [if_neg (by decide),if_pos (by omega)])
  rw [hX] at hr;clear hX
  subst hr
  refine aj aa [0] 0 rfl rfl rfl rfl rfl rfl ?_ ?_
  all_goals first|rfl|(simp [ar];done)|(simp [ar];omega)
 have hc11':=of_decide_eq_false hc11
 refine aN ?_
 refine ad aa 2 rfl ?_
 refine aq ?_
 have hX:eg l=(⟨0,0⟩:cV):=by
   (obtain rfl:q=l.length:=by omega);rw [List.take_length] at *;(unfold eg;rw [hi0_1,mY (by omega)];rw [if_neg (by decide),if_neg (by omega)])
 rw [hX] at hr;clear hX
 subst hr
 refine aj aa [0] 0 rfl rfl rfl rfl rfl rfl ?_ ?_
 all_goals first|rfl|(simp [ar];done)|(simp [ar];omega)


theorem qc {l es:List Entry} (h0:(eg l).err=0) (h1:es.length<=10) (h2:∀ x∈es,¬eP x) (h3:ef es=0):fW l es=match eV l es with
    |some r=>(r,0)
    |none=>([],4):=by
  unfold fW
  rw [if_neg (by omega),if_neg (by omega),if_neg (fun ⟨x,hx,hb⟩=>h2 x hx hb),if_neg (by omega)]
  all_goals (cases eV l es<;>rfl)
theorem sS {es:List Entry} {q:Nat} (h:∀ x∈es.take q,¬eP x) (hq:es.length<=q):∀ x∈es,¬eP x:=by
  rwa [List.take_of_length_le hq] at h
theorem xy {es:List Entry} {q:Nat} {x:Entry} (h:∀ x∈es.take q,¬eP x) (hx:es[q]?=some x) (hb:¬eP x):∀ x∈es.take (q+1),¬eP x:=by
  rw [sC hx]
  intro y hy
  rcases List.mem_append.1 hy with hy|hy
  ·exact h y hy
  ·rw [List.mem_singleton.1 hy];exact hb
theorem wc {es:List Entry} {q:Nat} (hq:es.length<=q):ef (es.take q)=ef es:=by rw [List.take_of_length_le hq]
theorem Ch {l m es:List Entry} {q:Nat} (h:eV l es=eV m (es.drop q)) (hq:es.length<=q):eV l es=some m:=by
  rw [h,List.drop_of_length_le hq];rfl
theorem vW (l es:List Entry) (r:List Entry) (e:Int) (hr:fW l es=(r,e)):Fn Try.prog 111 [(.c (dO l)),(.c (dO es))] (.t [(.c (.s 0 0 2 r.length)),(.c (cI e))]) [(0,(lr r))]:=by
 refine Fn.mk' 75 [(0,(aC (dO l))),(1,(aC (dO es)))] Try.func111 rfl rfl rfl rfl ?_
 intro W0 T0
 refine dz 0 rfl (fun hlen0=>?_)
 refine dz 1 rfl (fun hlen1=>?_)
 refine ad aa 2 rfl ?_
 refine af ?_
 refine az aa 1 rfl ?_
 obtain ⟨f0,hr0⟩:∃ (f0:cV),eg l=f0:=⟨_,rfl⟩
 refine aL 0 [] (bI 0 (vr l f0 hr0) Gi rfl rfl ⟨⟨_,rfl,.c (.d _)⟩,trivial⟩ ⟨trivial,trivial,trivial⟩ trivial rfl rfl rfl rfl) rfl ?_
 refine ab aa 2 rfl ?_
 refine ae ?_
 refine ad aa 3 rfl ?_
 refine ag rfl (fun hc1=>?_) (fun hc1=>?_)
 ·
  have hc1':=of_decide_eq_true hc1
  refine af ?_
  refine bb [0,1,6] [0] mixed rfl rfl ?_
  refine aA (kn:=[]) aa 4 rfl trivial ?_
  refine bx [0] rfl rfl rfl rfl (by kernel_rfl) ?_
  refine ae ?_
  refine aq ?_
  refine an ?_
  refine cQ (aD.nil 4 115 2 (by decide) rfl) ?_
  have hX:fW l es=(([]:List Entry),f0.err):=by
    unfold fW;rw [if_pos (by rw [hr0];omega),hr0]
  rw [hX] at hr;clear hX
  simp only [Prod.mk.injEq] at hr;obtain ⟨rfl,rfl⟩:=hr
  refine aj aa [1] 1 rfl rfl rfl rfl rfl rfl ?_ ?_
  all_goals first|rfl|(simp [ar];done)|(simp [ar];omega)
 have hc1':=of_decide_eq_false hc1
 refine aN ?_
 refine af ?_
 refine az aa 1 rfl ?_
 refine ax (cT rfl rfl rfl rfl rfl Try.underlying44) rfl ?_
 refine ab aa 1 rfl ?_
 refine ae ?_
 refine ag rfl (fun hc2=>?_) (fun hc2=>?_)
 ·
  have hc2':=of_decide_eq_true hc2
  refine ad aa 2 rfl ?_
  refine aq ?_
  refine an ?_
  refine cQ (aD.nil 4 115 2 (by decide) rfl) ?_
  have hX:fW l es=(([]:List Entry),5):=by
    unfold fW;rw [if_neg (by rw [hr0];omega),if_pos (by omega)]
  rw [hX] at hr;clear hX
  simp only [Prod.mk.injEq] at hr;obtain ⟨rfl,rfl⟩:=hr
  refine aj aa [1] 1 rfl rfl rfl rfl rfl rfl ?_ ?_
  all_goals first|rfl|(simp [ar];done)|(simp [ar];omega)
 have hc2':=of_decide_eq_false hc2
 refine aN ?_
 refine ad aa 1 rfl ?_
 refine af ?_
 refine az aa 1 rfl ?_
 refine ax (cT rfl rfl rfl rfl rfl Try.underlying44) rfl ?_
 refine ab aa 1 rfl ?_
 refine ae ?_
 refine aV ?_
 refine cu (β:=Nat) (fun (q:Nat)=>⟨[(0,(aC (dO l))),(1,(aC (dO es))),(7,(aI (ef (es.take q)))),(25,(aC (dO es))),(26,(aI (↑es.length:Int))),(27,(aI (↑q:Int)))],[],0⟩) (fun (q:Nat)=>q<=es.length/\(∀ x∈es.take q,¬eP x)/\-1000000000000 * (q:Int)<=ef (es.take q)/\ef (es.take q)<=1000000000000 * (q:Int)) (fun (q:Nat)=>es.length - q) 0 ?_ ?_ ?_
 ·(have h2:ef (es.take 0)=0:=rfl);exact ⟨by omega,by intro x hx;simp at hx,by omega⟩
 ·exact aD.bZ id (by refine ⟨?_,?_,?_,?_,?_,?_,trivial⟩<;>first|rfl|(simp only [bq];done)|(congr 3;omega)|(congr 4;omega)|(simp only [br];rfl)) (trivial) rfl
 rintro q ⟨hi0_0,hi0_1,hi0_2⟩
 refine ad aa 1 rfl ?_
 refine af ?_
 refine ag rfl (fun hc3=>?_) (fun hc3=>?_)
 ·
  have hc3':=of_decide_eq_true hc3
  refine aN ?_
  refine af ?_
  refine aV ?_
  refine eM ?_
  obtain ⟨x1,hx1⟩:=bY (xs:=es) (i:=q) (by first|omega|(simp;done)|(simp;omega))
  refine ax (cf (i:=q) rfl rfl rfl Try.underlying44 dZ (by first|omega|(simp;done)|(simp;omega)) (bf hx1)) rfl ?_
  refine ab aa 3 rfl ?_
  refine ae ?_
  refine af ?_
  refine cm 48 ((((decide (x1.aO < 0))||(decide (x1.aO>=58)))||(decide (x1.sum < (-1000000000000))))||(decide (x1.sum > 1000000000000))) ?_ ?_
  ·
   refine aw ?_
   refine ab aa 4 rfl ?_
   refine bj (t:=34) rfl (fun hb4=>?_) (fun hb4=>?_)
   ·
    have hb4':=of_decide_eq_true hb4
    refine ab aa 14 rfl ?_
    refine ae ?_
    exact aD.bB 19 rfl rfl (by first|(simp [hb4];done)|(simp_all;done)|(exfalso;simp_all;done)|(simp_all;omega)) rfl
   have hb4':=of_decide_eq_false hb4
   refine ab aa 5 rfl ?_
   refine bj (t:=39) rfl (fun hb5=>?_) (fun hb5=>?_)
   ·
    have hb5':=of_decide_eq_true hb5
    refine ab aa 9 rfl ?_
    refine ae ?_
    exact aD.bB 20 rfl rfl (by first|(simp [hb4,hb5];done)|(simp_all;done)|(exfalso;simp_all;done)|(simp_all;omega)) rfl
   have hb5':=of_decide_eq_false hb5
   refine ab aa 5 rfl ?_
   refine bj (t:=44) rfl (fun hb6=>?_) (fun hb6=>?_)
   ·
    have hb6':=of_decide_eq_true hb6
    refine ab aa 4 rfl ?_
    refine ae ?_
    exact aD.bB 21 rfl rfl (by first|(simp [hb4,hb5,hb6];done)|(simp_all;done)|(exfalso;simp_all;done)|(simp_all;omega)) rfl
   have hb6':=of_decide_eq_false hb6
   refine ab aa 4 rfl ?_
   refine ae ?_
   exact aD.bB 21 rfl rfl (by first|(simp [hb4,hb5,hb6];done)|(simp_all;done)|(exfalso;simp_all;done)|(simp_all;omega)) rfl
  refine ag rfl (fun hc7=>?_) (fun hc7=>?_)
  ·
   have hc7':=hc7;try simp only [bd,bF] at hc7'
   refine ad aa 2 rfl ?_
   refine aq ?_
   refine an ?_
   refine bg ?_
   refine an ?_
   refine an ?_
   refine bg ?_
   refine an ?_
   refine cQ (aD.nil 4 115 2 (by decide) rfl) ?_
   have hX:fW l es=(([]:List Entry),3):=by
     unfold fW;rw [if_neg (by rw [hr0];omega),if_neg (by omega),if_pos ⟨x1,List.mem_of_getElem? hx1,by unfold eP;omega⟩]
   rw [hX] at hr;clear hX
   simp only [Prod.mk.injEq] at hr;obtain ⟨rfl,rfl⟩:=hr
   refine aj aa [1] 1 rfl rfl rfl rfl rfl rfl ?_ ?_
   all_goals first|rfl|(simp [ar];done)|(simp [ar];omega)
  have hc7':=hc7;try simp only [bd,bF] at hc7'
  refine aN ?_
  refine aw ?_
  refine ab aa 3 rfl ?_
  refine ax (aJ rfl rfl rfl (aE (by first|omega|(simp;done)|(simp;omega)))) rfl ?_
  refine ab aa 1 rfl ?_
  refine bX ?_
  refine bn ?_
  refine then_ok ?_
  refine aw ?_
  refine ax (aJ rfl rfl rfl (aE (by first|omega|(simp;done)|(simp;omega)))) rfl ?_
  refine ab aa 1 rfl ?_
  refine ae ?_
  refine ⟨q+1,⟨by omega,xy hi0_1 hx1 (by unfold eP;omega),by rw [ja hx1];omega⟩,by first|omega|(simp;done)|(simp;omega),aD.bZ id (by refine ⟨?_,?_,?_,?_,?_,?_,trivial⟩<;>first|rfl|(simp only [bq];done)|(congr 3;omega)|(congr 4;omega)|(simp only [br];rfl)|(rw [ja hx1];rfl)) (trivial) rfl⟩
 have hc3':=of_decide_eq_false hc3
 refine cp ?_
 refine aP ?_
 refine aP ?_
 refine bP ?_
 refine then_ok ?_
 refine af ?_
 refine ad aa 2 rfl ?_
 refine ag rfl (fun hc8=>?_) (fun hc8=>?_)
 ·
  have hc8':=of_decide_eq_true hc8
  refine ad aa 2 rfl ?_
  refine aq ?_
  refine an ?_
  refine cQ (aD.nil 4 115 2 (by decide) rfl) ?_
  have hX:fW l es=(([]:List Entry),8):=by
    (have hs:=wc (es:=es) (q:=q) (by omega));(have hnb:=sS hi0_1 (by omega));unfold fW;rw [if_neg (by rw [hr0];omega),if_neg (by omega),if_neg (fun ⟨x,hx,hb⟩=>hnb x hx hb),if_pos (by omega)]
  rw [hX] at hr;clear hX
  simp only [Prod.mk.injEq] at hr;obtain ⟨rfl,rfl⟩:=hr
  refine aj aa [0] 1 rfl rfl rfl rfl rfl rfl ?_ ?_
  all_goals first|rfl|(simp [ar];done)|(simp [ar];omega)
 have hc8':=of_decide_eq_false hc8
 refine aN ?_
 have h0:(eg l).err=0:=by rw [hr0];omega
 have hR:iV l:=(kK.1 h0).1
 have hRl:=sM hR
 have hs:=wc (es:=es) (q:=q) (by omega)
 have hnb:=sS hi0_1 (by omega)
 refine az aa 1 rfl ?_
 refine aL 1 [0] (bI 0 (tL l (by first|omega|(simp;done)|(simp;omega))) ES rfl rfl ⟨⟨_,rfl,.c (.d _)⟩,trivial⟩ trivial ⟨(fun _ _ _ _=>trivial),trivial⟩ rfl rfl rfl rfl) rfl ?_
 refine ab aa 1 rfl ?_
 refine ae ?_
 refine af ?_
 refine az aa 1 rfl ?_
 refine ax (cT rfl rfl rfl rfl rfl Try.underlying44) rfl ?_
 refine ab aa 1 rfl ?_
 refine ae ?_
 refine aV ?_
 refine cu (β:=Nat×List Entry) (fun (p:Nat×List Entry)=>match p with|(p,m)=>⟨[(0,(aC (dO l))),(1,(aC (dO es))),(7,(aI (ef (es.take q)))),(25,(aC (dO es))),(26,(aI (↑es.length:Int))),(27,(aI (↑q:Int))),(10,(aC (.s 0 0 2 m.length))),(58,(aC (dO es))),(59,(aI (↑es.length:Int))),(60,(aI (↑p:Int)))],[(0,(lr m))],1⟩) (fun (p:Nat×List Entry)=>match p with|(p,m)=>p<=es.length/\iV m/\eV l es=eV m (es.drop p)) (fun (p:Nat×List Entry)=>match p with|(p,m)=>es.length - p) (0,l) ?_ ?_ ?_
 ·exact ⟨by omega,hR,rfl⟩
 ·exact aD.bZ id (by refine ⟨?_,?_,?_,?_,?_,?_,?_,?_,?_,?_,trivial⟩<;>first|rfl|(simp only [bq];done)|(congr 3;omega)|(congr 4;omega)|(simp only [br];rfl)) (⟨by first|rfl|(simp only [bq];done)|(congr 3;omega)|(congr 4;omega)|(simp only [br];rfl),trivial⟩) rfl
 rintro ⟨p,m⟩ ⟨hi1_0,hi1_1,hi1_2⟩
 refine ad aa 1 rfl ?_
 refine af ?_
 refine ag rfl (fun hc9=>?_) (fun hc9=>?_)
 ·
  have hc9':=of_decide_eq_true hc9
  refine aN ?_
  refine af ?_
  refine aV ?_
  refine eM ?_
  obtain ⟨x1,hx1⟩:=bY (xs:=es) (i:=p) (by first|omega|(simp;done)|(simp;omega))
  have hx1n:=hnb x1 (List.mem_of_getElem? hx1)
  have hx1b:0<=x1.aO/\x1.aO<=57/\-1000000000000<=x1.sum/\x1.sum<=1000000000000:=by unfold eP at hx1n;omega
  refine ax (cf (i:=p) rfl rfl rfl Try.underlying44 dZ (by first|omega|(simp;done)|(simp;omega)) (bf hx1)) rfl ?_
  refine ab aa 3 rfl ?_
  refine ae ?_
  refine az aa 2 rfl ?_
  obtain ⟨r1,g1,hr1⟩:∃ (r1:List Entry) (g1:Bool),js m x1=(r1,g1):=⟨_,_,rfl⟩
  obtain ⟨hp1,hg1⟩:=Prod.mk.inj hr1
  refine aL 3 [2,1] (cA id (aY [2]) (Fc m x1 (by exact (show iV _ by assumption).up) (by (have:=sM (show iV _ by assumption);omega)) (by (intro y hy;have:=(show iV _ by assumption).ok y hy;omega)) (by (unfold eP at *;omega)) r1 g1 hr1) ER rfl rfl ⟨⟨_,rfl,.inl ⟨rfl,rfl⟩⟩,⟨_,rfl,.inr (.g ⟨.d _,.d _,trivial⟩)⟩,trivial⟩ ⟨rfl,trivial⟩ rfl rfl rfl rfl rfl rfl ⟨trivial,trivial,trivial⟩ ⟨(fun _ _ _ _=>trivial),trivial⟩ rfl rfl rfl rfl) rfl ?_
  refine ab aa 5 rfl ?_
  refine ae ?_
  refine af ?_
  refine ad aa 2 rfl ?_
  refine ag rfl (fun hc10=>?_) (fun hc10=>?_)
  ·
   have hc10':=hc10;try simp only [bd,bF] at hc10'
   refine ad aa 2 rfl ?_
   refine aq ?_
   refine an ?_
   refine bg ?_
   refine an ?_
   refine an ?_
   refine bg ?_
   refine an ?_
   refine cQ (aD.nil 4 115 2 (by decide) rfl) ?_
   have hX:fW l es=(([]:List Entry),4):=by
     rw [qc h0 (by omega) hnb (by omega),hi1_2,pC hx1,if_neg (by simp_all)]
   rw [hX] at hr;clear hX
   simp only [Prod.mk.injEq] at hr;obtain ⟨rfl,rfl⟩:=hr
   refine aj aa [3] 1 rfl rfl rfl rfl rfl rfl ?_ ?_
   all_goals first|rfl|(simp [ar];done)|(simp [ar];omega)
  have hc10':=hc10;try simp only [bd,bF] at hc10'
  refine aN ?_
  refine aw ?_
  refine ab aa 2 rfl ?_
  refine bX ?_
  refine bn ?_
  refine then_ok ?_
  refine aw ?_
  refine ax (aJ rfl rfl rfl (aE (by first|omega|(simp;done)|(simp;omega)))) rfl ?_
  refine ab aa 1 rfl ?_
  refine ae ?_
  refine ⟨(p+1,r1),⟨by omega,by rw [<-hp1];exact qJ hi1_1 (by omega) (lM.1 (by rw [hg1];simp_all)),by rw [hi1_2,pC hx1,if_pos (by rw [hg1];simp_all),hp1]⟩,by first|omega|(simp;done)|(simp;omega),aD.bZ (fun k=>if k=0 then 2 else k) (by refine ⟨?_,?_,?_,?_,?_,?_,?_,?_,?_,?_,trivial⟩<;>first|rfl|(simp only [bq];done)|(congr 3;omega)|(congr 4;omega)|(simp only [br];rfl)) (⟨by first|rfl|(simp only [bq];done)|(congr 3;omega)|(congr 4;omega)|(simp only [br];rfl),trivial⟩) rfl⟩
 have hc9':=of_decide_eq_false hc9
 refine cp ?_
 refine aP ?_
 refine aP ?_
 refine bP ?_
 refine then_ok ?_
 refine ad aa 3 rfl ?_
 refine aq ?_
 have hX:fW l es=(m,0):=by
   rw [qc h0 (by omega) hnb (by omega),Ch hi1_2 (by omega)]
 rw [hX] at hr;clear hX
 simp only [Prod.mk.injEq] at hr;obtain ⟨rfl,rfl⟩:=hr
 refine aj aa [0] 1 rfl rfl rfl rfl rfl rfl ?_ ?_
 all_goals first|rfl|(simp [ar];done)|(simp [ar];omega)


def iD (l:List Entry) (src dst n:Int):List Entry×Int:=if n < 0\/n > 1000000000000 then ([],3) else fW l [⟨src,0 - n⟩,⟨dst,n⟩]
theorem Ap {l es r : List Entry} (h : fW l es = (r, 0)) : (eg l).err = 0 ∧ es.length ≤ 10 ∧ (∀ x ∈ es, ¬ eP x) ∧ ef es = 0 ∧ eV l es = some r := by
  unfold fW at h
  split at h
  · rename_i h0; injection h with _ h1; exact absurd h1 h0
  rename_i h0
  split at h
  · injection h with _ h1; cases h1
  rename_i h1
  split at h
  · injection h with _ h1; cases h1
  rename_i h2
  split at h
  · injection h with _ h1; cases h1
  rename_i h3
  split at h
  · rename_i r' hr
    injection h with h4 _
    subst h4
    exact ⟨by omega, by omega, fun x hx hb => h2 ⟨x, hx, hb⟩, by omega, hr⟩
  · injection h with _ h1; cases h1
theorem oh {l es r:List Entry} (h:fW l es=(r,0)) (a:Int):(eg r).err=0/\dw r a=dw l a+lg a es:=by
  obtain ⟨h1,h2,h3,h4,h5⟩:=Ap h
  obtain ⟨h6,h7⟩:=kK.1 h1
  obtain ⟨h8,h9⟩:=ot h6 h3 h5
  exact ⟨kK.2 ⟨h8,by omega⟩,qQ h6.up h5⟩

theorem vX (l:List Entry) (src dst n:Int) (r:List Entry) (e:Int) (hr:iD l src dst n=(r,e)):Fn Try.prog 98 [(.c (dO l)),(.c (cI src)),(.c (cI dst)),(.c (cI n))] (.t [(.c (.s 0 0 2 r.length)),(.c (cI e))]) [(0,(lr r))]:=by
 refine Fn.mk' 28 [(0,(aC (dO l))),(1,(aI src)),(2,(aI dst)),(3,(aI n))] Try.func98 rfl rfl rfl rfl ?_
 intro W0 T0
 refine dz 0 rfl (fun hlen0=>?_)
 refine ad aa 2 rfl ?_
 refine af ?_
 refine cm 15 ((decide (n < 0))||(decide (n > 1000000000000))) ?_ ?_
 ·
  refine aw ?_
  refine ab aa 3 rfl ?_
  refine bj (t:=12) rfl (fun hb1=>?_) (fun hb1=>?_)
  ·
   have hb1':=of_decide_eq_true hb1
   refine ab aa 3 rfl ?_
   refine ae ?_
   exact aD.bB 7 rfl rfl (by first|(simp [hb1];done)|(simp_all;done)|(exfalso;simp_all;done)|(simp_all;omega)) rfl
  have hb1':=of_decide_eq_false hb1
  refine ab aa 3 rfl ?_
  refine ae ?_
  exact aD.bB 7 rfl rfl (by first|(simp [hb1];done)|(simp_all;done)|(exfalso;simp_all;done)|(simp_all;omega)) rfl
 refine ag rfl (fun hc2=>?_) (fun hc2=>?_)
 ·
  have hc2':=hc2;try simp only [bd,bF] at hc2'
  refine ad aa 2 rfl ?_
  refine aq ?_
  refine an ?_
  refine cQ (aD.nil 8 115 2 (by decide) rfl) ?_
  have hX:iD l src dst n=(([]:List Entry),3):=by
    unfold iD;rw [if_pos (by omega)]
  rw [hX] at hr;clear hX
  simp only [Prod.mk.injEq] at hr;obtain ⟨rfl,rfl⟩:=hr
  refine aj aa [0] 1 rfl rfl rfl rfl rfl rfl ?_ ?_
  all_goals first|rfl|(simp [ar];done)|(simp [ar];omega)
 have hc2':=hc2;try simp only [bd,bF] at hc2'
 refine aN ?_
 refine az aa 3 rfl ?_
 refine ax (kr rfl rfl (aE (by first|omega|(simp;done)|(simp;omega)))) rfl ?_
 refine ab aa 4 rfl ?_
 refine aL 1 [0] (dD (ys:=[(0,(.g [(cI src),(cI (0 - n))])),(1,(.g [(cI dst),(cI n)]))]) (rows:=([(⟨src,0 - n⟩:Entry),(⟨dst,n⟩:Entry)]).map er) 0 jI rfl (by decide) ⟨⟨rfl,rfl⟩,⟨rfl,rfl⟩,trivial⟩ rfl rfl rfl rfl) rfl ?_
 obtain ⟨r0,e0,hr0⟩:∃ (r0:List Entry) (e0:Int),fW l ([(⟨src,0 - n⟩:Entry),(⟨dst,n⟩:Entry)])=(r0,e0):=⟨_,_,rfl⟩
 refine aL 2 [1,0] (fK 1 [0] (vW l ([(⟨src,0 - n⟩:Entry),(⟨dst,n⟩:Entry)]) r0 e0 hr0) EU rfl rfl ⟨⟨_,rfl,.c (.d _)⟩,⟨_,rfl,.c (.s rfl (by decide) (by first|omega|(simp;done)|(simp;omega)))⟩,trivial⟩ ⟨trivial,rfl,trivial⟩ ⟨(xE _),trivial⟩ rfl rfl rfl rfl) rfl ?_
 refine ab aa 4 rfl ?_
 refine ae ?_
 refine aq ?_
 have hX:iD l src dst n=(r0,e0):=by
   unfold iD;rw [if_neg (by omega)];assumption
 rw [hX] at hr;clear hX
 simp only [Prod.mk.injEq] at hr;obtain ⟨rfl,rfl⟩:=hr
 refine aj aa [1] 1 rfl rfl rfl rfl rfl rfl ?_ ?_
 all_goals first|rfl|(simp [ar];done)|(simp [ar];omega)
end Go.Proofs.Ytegepioggeggaaa.Dev
