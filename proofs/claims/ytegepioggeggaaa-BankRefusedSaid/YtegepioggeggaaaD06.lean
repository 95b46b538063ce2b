/- A part of the proof: Book4, PlBook, Com, Book5, Book7, Book9, PlSort. No condition. -/
import Derived.Test.YtegepioggeggaaaD05
set_option linter.unusedVariables false
set_option linter.unusedSimpArgs false
set_option maxHeartbeats 2000000
set_option maxRecDepth 100000
namespace Go.Proofs.Ytegepioggeggaaa.Dev
open Go.RowKit


theorem yj (l:List Entry) (t:Int) (fn:FuncId) (bd:List (List D)) (hp:∀ x:Entry,Fn Try.prog fn ([.g [cI x.aV,cI x.sum],.c (cI t)]++bd.map fun r=>GV.c (.q r 0)) (aI (eh x.aV t)) []) (hen:bg Try.prog fn) (hu:Up l) (hl:l.length * 16<=140737488355328) (k:Nat) (f:Bool) (hr:(dX l t,fx l t)=(k,f)):Fn Try.prog 119 [.c (cR 2 (l.map ez)),.c (cI t),.c (.d (.f fn bd))] (.t [.c (cI (k:Int)),.c (cB f)]) []:=by
  obtain ⟨h1,h2⟩:=Prod.mk.inj hr
  exact rR l t fn bd hp hen hu hl (k:Int) f (by unfold tf;rw [h1,h2])
def ji:List Entry->Int->Int
  |[],_=>0
  |x::l,a=>if x.aV=a then x.sum else ji l a
def iA (l:List Entry) (a s:Int):List Entry:=l.take (dX l a)++(if s=0 then [] else [⟨a,s⟩])++l.drop (if fx l a=true then dX l a+1 else dX l a)
def ic (s:Int):Bool:=decide (s>=-1000000000000) && decide (s<=1000000000000)
def jA (l:List Entry) (e:Entry):List Entry×Bool:=(iA l e.aV (ji l e.aV+e.sum),ic (ji l e.aV+e.sum))
theorem oc {x:Entry} {l:List Entry} {a:Int} (h:x.aV < a):fx (x::l) a=fx l a:=by
  have h1:dX (x::l) a=dX l a+1:=by simp [dX,h]
  unfold fx;rw [h1,List.getElem?_cons_succ]
theorem lO {x:Entry} {l:List Entry} {a:Int} (h:¬x.aV < a):fx (x::l) a=decide (x.aV=a):=by
  unfold fx dX;rw [if_neg h];rfl
theorem pw {a:Int}:∀ {l:List Entry},(∀ x∈l,a < x.aV)->ji l a=0
  |[],_=>rfl
  |x::l,h=>by
    unfold ji
    rw [if_neg (by have:=h x List.mem_cons_self;omega)]
    exact pw fun y hy=>h y (List.mem_cons_of_mem _ hy)
theorem uR {a : Int} : ∀ {l : List Entry} {x : Entry}, Up l → fx l a = true → l[dX l a]? = some x → x.aV = a ∧ ji l a = x.sum
  | [], x, _, _, h => by simp at h
  | y :: l, x, hu, hh, h => by
    obtain ⟨h1, h2⟩ := List.pairwise_cons.1 hu
    by_cases hy : y.aV < a
    · rw [oc hy] at hh
      unfold dX at h; rw [if_pos hy] at h
      obtain ⟨h3, h4⟩ := uR h2 hh (by simpa using h)
      refine ⟨h3, ?_⟩
      unfold ji; rw [if_neg (by omega)]; exact h4
    · rw [lO hy] at hh
      unfold dX at h; rw [if_neg hy] at h
      simp at h hh
      subst h
      exact ⟨hh, by unfold ji; rw [if_pos hh]⟩
theorem uQ {a : Int} : ∀ {l : List Entry}, Up l → fx l a = false → ji l a = 0
  | [], _, _ => rfl
  | y :: l, hu, hh => by
    obtain ⟨h1, h2⟩ := List.pairwise_cons.1 hu
    by_cases hy : y.aV < a
    · rw [oc hy] at hh
      unfold ji; rw [if_neg (by omega)]; exact uQ h2 hh
    · rw [lO hy] at hh
      simp at hh
      unfold ji; rw [if_neg hh]
      exact pw fun x hx => by have := h1 x hx; omega
theorem CB {a : Int} {l : List Entry} (h : fx l a = true) : dX l a < l.length := by
  by_cases hl : dX l a < l.length
  · exact hl
  · unfold fx at h
    rw [List.getElem?_eq_none (by omega)] at h
    cases h
theorem tR {a:Int} (l:List Entry):(l.take (dX l a)).length=dX l a:=by rw [List.length_take];have:=mr a l;omega
theorem zm {l:List Entry} {k:Nat} {x y:Entry} (hk:k<=l.length) (h:(iD l k x)[k]?=some y):y=x:=by
  have h1:(l.take k).length=k:=by rw [List.length_take];omega
  unfold iD at h
  rw [List.append_assoc,List.getElem?_append_right (by omega),h1,Nat.sub_self] at h
  simp at h
  exact h.symm
theorem Cz {l:List Entry} {k:Nat} {x y:Entry} (hk:k<=l.length):(iD l k x).set k y=l.take k++[y]++l.drop k:=by
  have h1:(l.take k).length=k:=by rw [List.length_take];omega
  unfold iD
  rw [List.append_assoc,List.set_append_right _ _ (by omega),h1,Nat.sub_self]
  simp
theorem CA {l:List Entry} {k:Nat} {y:Entry} (hk:k < l.length):l.set k y=l.take k++[y]++l.drop (k+1):=by
  rw [List.set_eq_take_append_cons_drop,if_pos hk];simp
theorem zG {A B:List Entry} {y:Entry} {k:Nat} (h:A.length=k):kK (A++[y]++B) k (k+1)=A++B:=by
  subst h
  unfold kK
  simp
theorem mS {l:List Entry} {e x y:Entry} {k:Nat} (hu:Up l) (hk:dX l e.aV=k) (hh:fx l e.aV=true) (hx:l[k]?=some x) (hy:y=⟨x.aV,x.sum+e.sum⟩):
    jA l e=(if x.sum+e.sum=0 then kK (l.set k y) k (k+1) else l.set k y,ic (x.sum+e.sum)):=by
  subst hk hy
  obtain ⟨h1,h2⟩:=uR hu hh hx
  have hlt:=(List.getElem?_eq_some_iff.1 hx).1
  unfold jA iA
  rw [h2,if_pos hh,CA hlt,h1]
  split
  ·rw [zG (tR l)];simp
  ·rfl
theorem mR {l:List Entry} {e x y:Entry} {k:Nat} {r:List Entry} (hu:Up l) (hk:dX l e.aV=k) (hh:fx l e.aV=false) (hr:iD l k ⟨e.aV,0⟩=r) (hx:r[k]?=some x) (hy:y=⟨x.aV,x.sum+e.sum⟩):
    jA l e=(if x.sum+e.sum=0 then kK (r.set k y) k (k+1) else r.set k y,ic (x.sum+e.sum)):=by
  subst hk hr
  have h0:=mr e.aV l
  have h1:=zm h0 hx
  subst h1 hy
  have h2:=uQ hu hh
  unfold jA iA
  rw [h2,Cz h0,if_neg (show ¬fx l e.aV=true by rw [hh];exact Bool.false_ne_true)]
  split
  ·rw [zG (tR l)];simp
  ·rfl
theorem yK {l:List Entry} {k:Nat} {y z:Entry} (h:(l.set k y)[k]?=some z):z=y:=by
  have hlt:=(List.getElem?_eq_some_iff.1 h).1
  rw [List.length_set] at hlt
  rw [List.getElem?_set_self hlt] at h
  exact (Option.some.inj h).symm
theorem FE (l:List Entry) (e:Entry) (hu:Up l) (hl:(l.length+1) * 16<=140737488355328) (hb:∀ x∈l,-1000000000000<=x.sum/\x.sum<=1000000000000) (he:-1000000000000<=e.sum/\e.sum<=1000000000000) (r:List Entry) (g:Bool) (hr:jA l e=(r,g)):cJ Try.prog 116 [(.c (.s 0 0 2 l.length)),(.g [(cI e.aV),(cI e.sum)])] [(0,(lz l))] [] (.t [(.c (.s 0 0 2 r.length)),(.c (cB g))]) [(0,(lz r))]:=by
 refine cJ.mk 62 [(0,(aC (.s 0 0 2 l.length))),(1,(aG [(cI e.aV),(cI e.sum)]))] 1 Try.func116 rfl rfl rfl rfl rfl rfl rfl rfl rfl ?_
 intro W0 F0 T0 pg
 refine gf 0 rfl (fun hlen0=>?_)
 refine ae aa 3 rfl ?_
 refine aF aa 3 rfl ?_
 obtain ⟨k0,f0,hr0⟩:∃ (k0:Nat) (f0:Bool),(dX l e.aV,fx l e.aV)=(k0,f0):=⟨_,_,rfl⟩
 obtain ⟨hk0,hf0⟩:=Prod.mk.inj hr0
 have hkl:=mr e.aV l
 rw [hk0] at hkl
 refine aQ 2 [1,0] (fP 2 [0] (yj l e.aV 120 ([]) (fun x=>Et x e.aV) Fj (by first|assumption) (by omega) k0 f0 hr0) Fk rfl rfl ⟨⟨_,rfl,.c (.s rfl (by decide) (by first|omega|(simp;done)|(simp;omega)))⟩,⟨_,rfl,.c (.d _)⟩,⟨_,rfl,.c (.fn trivial)⟩,trivial⟩ ⟨rfl,rfl,trivial⟩ trivial rfl rfl rfl rfl) rfl ?_
 refine ad aa 5 rfl ?_
 refine af ?_
 refine ag ?_
 refine ae aa 2 rfl ?_
 refine aj rfl (fun hc1=>?_) (fun hc1=>?_)
 ·
  have hc1':=hc1;try simp only [bu,bR] at hc1'
  refine aw ?_
  refine ad aa 5 rfl ?_
  refine aQ 3 [2,1,0] (dW (ys:=[(0,(.g [(cI e.aV),(cI 0)]))]) (rows:=([(⟨e.aV,0⟩:Entry)]).map ez) 2 jR rfl (by decide) ⟨⟨rfl,rfl⟩,trivial⟩ rfl rfl rfl rfl) rfl ?_
  obtain ⟨r1,hr1⟩:∃ (r1:List Entry),iD l k0 (⟨e.aV,0⟩:Entry)=r1:=⟨_,rfl⟩
  have hl1:r1.length=l.length+1:=by rw [<-hr1];exact AO hkl
  refine aQ 4 [3,1] (cK (bb [0,2]) (bb [3,2]) (rS l k0 (⟨e.aV,0⟩:Entry) (by first|omega|(simp;done)|(simp;omega)) (by first|omega|(simp;done)|(simp;omega)) r1 hr1) Fi rfl rfl ⟨⟨_,rfl,.inl ⟨rfl,rfl⟩⟩,⟨_,rfl,.inr (.c (.d _))⟩,⟨_,rfl,.inl ⟨rfl,rfl⟩⟩,trivial⟩ ⟨rfl,rfl,trivial⟩ rfl rfl rfl rfl rfl rfl trivial ⟨(fun _ _ _ _=>trivial),trivial⟩ rfl rfl rfl rfl) rfl ?_
  refine ad aa 1 rfl ?_
  refine af ?_
  refine ag ?_
  obtain ⟨x1,hx1⟩:=cb (xs:=r1) (i:=k0) (by first|omega|(simp;done)|(simp;omega))
  have hx1q:=zm hkl (show (iD l k0 ⟨e.aV,0⟩)[k0]?=some x1 by rw [hr1];exact hx1)
  have hx1b:x1.sum=0:=by rw [hx1q]
  refine aW [0,3,6] [3,1] mixed rfl rfl ?_
  refine au (kn:=[]) aa 2 rfl trivial ?_
  refine aM (n':=4) [25,26] [3] rfl rfl (.inl ⟨(ah.plain rfl),aE.cast (bw (i:=k0) rfl rfl rfl Try.underlying44 dU (by first|omega|(simp;done)|(simp;omega)) (by first|omega|(simp;done)|(simp;omega))) rfl⟩) rfl ?_
  refine au (kn:=[]) aa 1 rfl trivial ?_
  refine aM (n':=4) [28] [3] rfl rfl (.inl ⟨(ah.plain rfl),aE.cast (eH rfl rfl rfl Try.underlying3 rfl (bf hx1) rfl) rfl⟩) rfl ?_
  refine au (kn:=[]) aa 2 rfl trivial ?_
  refine aM (n':=4) [29,31] [] rfl rfl (.inl ⟨(ah.plain rfl),aE.cast (aK rfl rfl rfl (aL (by first|omega|(simp;done)|(simp;omega)))) rfl⟩) rfl ?_
  refine aM (n':=4) [25,26] [3] rfl rfl (.inl ⟨(ah.plain rfl),aE.cast (bw (i:=k0) rfl rfl rfl Try.underlying44 dU (by first|omega|(simp;done)|(simp;omega)) (by first|omega|(simp;done)|(simp;omega))) rfl⟩) rfl ?_
  refine au (kn:=[]) aa 1 rfl trivial ?_
  refine br [3,1] rfl rfl rfl rfl (by kernel_rfl) ?_
  refine fZ [3,1] (dM (ds:=[(dI (x1.sum+e.sum))]) rfl rfl rfl rfl rfl fF rfl (Nat.le_of_ble_eq_true rfl) (bf hx1) rfl (eK (x':=(⟨x1.aV,x1.sum+e.sum⟩:Entry)) rfl)) rfl ?_
  refine af ?_
  refine aF aa 2 rfl ?_
  refine aA (bw (i:=k0) rfl rfl rfl Try.underlying44 dU (by first|omega|(simp;done)|(simp;omega)) (by first|omega|(simp;done)|(simp;omega))) rfl ?_
  refine ad aa 1 rfl ?_
  obtain ⟨x2,hx2⟩:=cb (xs:=((r1).set k0 (⟨x1.aV,x1.sum+e.sum⟩:Entry))) (i:=k0) (by first|omega|(simp;done)|(simp;omega))
  have hx2e:=yK hx2
  have hx2s:x2.sum=x1.sum+e.sum:=by rw [hx2e]
  refine aA (eH rfl rfl rfl Try.underlying3 rfl (bf hx2) rfl) rfl ?_
  refine ad aa 2 rfl ?_
  refine bE (t:=41) rfl (fun hb2=>?_) (fun hb2=>?_)
  ·
   have hb2':=of_decide_eq_true hb2
   refine ad aa 2 rfl ?_
   refine cC (ah.yes rfl rfl rfl) (bw (i:=k0) rfl rfl rfl Try.underlying44 dU (by first|omega|(simp;done)|(simp;omega)) (by first|omega|(simp;done)|(simp;omega))) rfl rfl ?_
   refine ad aa 1 rfl ?_
   refine cC (ah.yes rfl rfl rfl) (eH rfl rfl rfl Try.underlying3 rfl (bf hx2) rfl) rfl rfl ?_
   refine ad aa 3 rfl ?_
   refine af ?_
   refine ag ?_
   refine aF aa 2 rfl ?_
   refine aA (bw (i:=k0) rfl rfl rfl Try.underlying44 dU (by first|omega|(simp;done)|(simp;omega)) (by first|omega|(simp;done)|(simp;omega))) rfl ?_
   refine ad aa 1 rfl ?_
   refine aA (eH rfl rfl rfl Try.underlying3 rfl (bf hx2) rfl) rfl ?_
   refine ad aa 1 rfl ?_
   refine af ?_
   refine aj rfl (fun hc3=>?_) (fun hc3=>?_)
   ·
    have hc3':=of_decide_eq_true hc3
    refine gY (st':=⟨[(0,(aC (.s 3 0 2 (((r1).set k0 (⟨x1.aV,x1.sum+e.sum⟩:Entry)).length)))),(3,(aC (.p 1 0 0 0))),(6,(aI (↑k0:Int))),(32,(aI (x1.sum+e.sum))),(34,(aC (.p 3 k0 2 1))),(35,(aC (.s 3 0 2 r1.length))),(36,(aI (↑k0:Int))),(37,(aC (.p 3 k0 2 0))),(38,(aC (.p 3 k0 2 1))),(39,(aI x2.sum)),(40,(aB (decide (x2.sum>=(-1000000000000))))),(41,(aB true)),(42,(aC (.s 3 0 2 r1.length))),(43,(aI (↑k0:Int))),(44,(aC (.p 3 k0 2 0))),(45,(aC (.p 3 k0 2 1))),(46,(aI x2.sum)),(47,(aB (decide (x2.sum<=1000000000000)))),(48,(aB (decide (x2.sum<=1000000000000)))),(8,(aB (decide (x2.sum<=1000000000000)))),(49,(aC (.s 3 0 2 r1.length))),(50,(aI (↑k0:Int))),(51,(aC (.p 3 k0 2 0))),(52,(aC (.p 3 k0 2 1))),(53,(aI x2.sum)),(54,(aB (decide (x2.sum=0))))],[(3,(lz ((r1).set k0 (⟨x1.aV,x1.sum+e.sum⟩:Entry)))),(1,(.box 115 [(cI e.aV),(cI e.sum)]))],4⟩) (aH.bS id (by refine ⟨?_,?_,?_,?_,?_,?_,?_,?_,?_,?_,?_,?_,?_,?_,?_,?_,?_,?_,?_,?_,?_,?_,?_,?_,?_,?_,trivial⟩<;>first|rfl|(simp only [bh];done)|(congr 3;omega)|(congr 4;omega)|(simp only [bj];rfl)) (by refine ⟨?_,?_,trivial⟩<;>first|rfl|(simp only [bh];done)|(congr 3;omega)|(congr 4;omega)|(simp only [bj];rfl)) rfl) ?_
    refine aw ?_
    refine ad aa 3 rfl ?_
    refine aA (aK rfl rfl rfl (aL (by first|omega|(simp;done)|(simp;omega)))) rfl ?_
    obtain ⟨r2,hr2⟩:∃ (r2:List Entry),kK ((r1).set k0 (⟨x1.aV,x1.sum+e.sum⟩:Entry)) k0 ((k0)+1)=r2:=⟨_,rfl⟩
    refine aQ 5 [4,1] (cK (bb [3]) (bb [4]) (iL ((r1).set k0 (⟨x1.aV,x1.sum+e.sum⟩:Entry)) k0 ((k0)+1) (by first|omega|(simp;done)|(simp;omega)) (by first|omega|(simp;done)|(simp;omega)) r2 hr2) tL rfl rfl ⟨⟨_,rfl,.inl ⟨rfl,rfl⟩⟩,⟨_,rfl,.inr (.c (.d _))⟩,⟨_,rfl,.inr (.c (.d _))⟩,trivial⟩ ⟨rfl,trivial⟩ rfl rfl rfl rfl rfl rfl trivial ⟨(fun _ _ _ _=>trivial),trivial⟩ rfl rfl rfl rfl) rfl ?_
    refine ad aa 1 rfl ?_
    refine af ?_
    refine ae aa 4 rfl ?_
    refine ay ?_
    have hX:jA l e=(r2,decide (x2.sum<=1000000000000)):=by
      rw [mR hu hk0 (show fx l e.aV=false by simp_all) hr1 hx1 rfl];unfold ic;rw [if_pos (by omega),hr2];refine Prod.ext rfl ?_;first|(simp;omega)|(simp_all;done)|(simp_all;omega)
    rw [hX] at hr;clear hX
    simp only [Prod.mk.injEq] at hr;obtain ⟨rfl,rfl⟩:=hr
    refine an aa [4] 1 rfl rfl rfl rfl rfl rfl ?_ ?_
    all_goals first|rfl|(simp [az];done)|(simp [az];omega)
   have hc3':=of_decide_eq_false hc3
   refine aP ?_
   refine ae aa 4 rfl ?_
   refine ay ?_
   have hX:jA l e=((r1).set k0 (⟨x1.aV,x1.sum+e.sum⟩:Entry),decide (x2.sum<=1000000000000)):=by
     rw [mR hu hk0 (show fx l e.aV=false by simp_all) hr1 hx1 rfl];unfold ic;rw [if_neg (by omega)];refine Prod.ext rfl ?_;first|(simp;omega)|(simp_all;done)|(simp_all;omega)
   rw [hX] at hr;clear hX
   simp only [Prod.mk.injEq] at hr;obtain ⟨rfl,rfl⟩:=hr
   refine an aa [3] 1 rfl rfl rfl rfl rfl rfl ?_ ?_
   all_goals first|rfl|(simp [az];done)|(simp [az];omega)
  have hb2':=of_decide_eq_false hb2
  refine ad aa 8 rfl ?_
  refine af ?_
  refine ag ?_
  refine aF aa 2 rfl ?_
  refine aA (bw (i:=k0) rfl rfl rfl Try.underlying44 dU (by first|omega|(simp;done)|(simp;omega)) (by first|omega|(simp;done)|(simp;omega))) rfl ?_
  refine ad aa 1 rfl ?_
  refine aA (eH rfl rfl rfl Try.underlying3 rfl (bf hx2) rfl) rfl ?_
  refine ad aa 1 rfl ?_
  refine af ?_
  refine aj rfl (fun hc4=>?_) (fun hc4=>?_)
  ·
   have hc4':=of_decide_eq_true hc4
   refine gY (st':=⟨[(0,(aC (.s 3 0 2 (((r1).set k0 (⟨x1.aV,x1.sum+e.sum⟩:Entry)).length)))),(3,(aC (.p 1 0 0 0))),(6,(aI (↑k0:Int))),(32,(aI (x1.sum+e.sum))),(34,(aC (.p 3 k0 2 1))),(35,(aC (.s 3 0 2 r1.length))),(36,(aI (↑k0:Int))),(37,(aC (.p 3 k0 2 0))),(38,(aC (.p 3 k0 2 1))),(39,(aI x2.sum)),(40,(aB (decide (x2.sum>=(-1000000000000))))),(41,(aB false)),(48,(aB false)),(8,(aB false)),(49,(aC (.s 3 0 2 r1.length))),(50,(aI (↑k0:Int))),(51,(aC (.p 3 k0 2 0))),(52,(aC (.p 3 k0 2 1))),(53,(aI x2.sum)),(54,(aB (decide (x2.sum=0))))],[(3,(lz ((r1).set k0 (⟨x1.aV,x1.sum+e.sum⟩:Entry)))),(1,(.box 115 [(cI e.aV),(cI e.sum)]))],4⟩) (aH.bS id (by refine ⟨?_,?_,?_,?_,?_,?_,?_,?_,?_,?_,?_,?_,?_,?_,?_,?_,?_,?_,?_,?_,trivial⟩<;>first|rfl|(simp only [bh];done)|(congr 3;omega)|(congr 4;omega)|(simp only [bj];rfl)) (by refine ⟨?_,?_,trivial⟩<;>first|rfl|(simp only [bh];done)|(congr 3;omega)|(congr 4;omega)|(simp only [bj];rfl)) rfl) ?_
   refine aw ?_
   refine ad aa 3 rfl ?_
   refine aA (aK rfl rfl rfl (aL (by first|omega|(simp;done)|(simp;omega)))) rfl ?_
   obtain ⟨r3,hr3⟩:∃ (r3:List Entry),kK ((r1).set k0 (⟨x1.aV,x1.sum+e.sum⟩:Entry)) k0 ((k0)+1)=r3:=⟨_,rfl⟩
   refine aQ 5 [4,1] (cK (bb [3]) (bb [4]) (iL ((r1).set k0 (⟨x1.aV,x1.sum+e.sum⟩:Entry)) k0 ((k0)+1) (by first|omega|(simp;done)|(simp;omega)) (by first|omega|(simp;done)|(simp;omega)) r3 hr3) tL rfl rfl ⟨⟨_,rfl,.inl ⟨rfl,rfl⟩⟩,⟨_,rfl,.inr (.c (.d _))⟩,⟨_,rfl,.inr (.c (.d _))⟩,trivial⟩ ⟨rfl,trivial⟩ rfl rfl rfl rfl rfl rfl trivial ⟨(fun _ _ _ _=>trivial),trivial⟩ rfl rfl rfl rfl) rfl ?_
   refine ad aa 1 rfl ?_
   refine af ?_
   refine ae aa 4 rfl ?_
   refine ay ?_
   have hX:jA l e=(r3,false):=by
     rw [mR hu hk0 (show fx l e.aV=false by simp_all) hr1 hx1 rfl];unfold ic;rw [if_pos (by omega),hr3];refine Prod.ext rfl ?_;first|(simp;omega)|(simp_all;done)|(simp_all;omega)
   rw [hX] at hr;clear hX
   simp only [Prod.mk.injEq] at hr;obtain ⟨rfl,rfl⟩:=hr
   refine an aa [4] 1 rfl rfl rfl rfl rfl rfl ?_ ?_
   all_goals first|rfl|(simp [az];done)|(simp [az];omega)
  have hc4':=of_decide_eq_false hc4
  refine aP ?_
  refine ae aa 4 rfl ?_
  refine ay ?_
  have hX:jA l e=((r1).set k0 (⟨x1.aV,x1.sum+e.sum⟩:Entry),false):=by
    rw [mR hu hk0 (show fx l e.aV=false by simp_all) hr1 hx1 rfl];unfold ic;rw [if_neg (by omega)];refine Prod.ext rfl ?_;first|(simp;omega)|(simp_all;done)|(simp_all;omega)
  rw [hX] at hr;clear hX
  simp only [Prod.mk.injEq] at hr;obtain ⟨rfl,rfl⟩:=hr
  refine an aa [3] 1 rfl rfl rfl rfl rfl rfl ?_ ?_
  all_goals first|rfl|(simp [az];done)|(simp [az];omega)
 have hc1':=hc1;try simp only [bu,bR] at hc1'
 refine aP ?_
 have hk0lt:k0 < l.length:=by have:=CB (l:=l) (a:=e.aV) (by simp_all);omega
 refine ag ?_
 obtain ⟨x1,hx1⟩:=cb (xs:=l) (i:=k0) (by first|omega|(simp;done)|(simp;omega))
 have hx1b:=hb x1 (List.mem_of_getElem? hx1)
 refine aW [0,3,6] [1,0] mixed rfl rfl ?_
 refine au (kn:=[]) aa 2 rfl trivial ?_
 refine aM (n':=2) [25,26] [0] rfl rfl (.inl ⟨(ah.plain rfl),aE.cast (bw (i:=k0) rfl rfl rfl Try.underlying44 dU (by first|omega|(simp;done)|(simp;omega)) (by first|omega|(simp;done)|(simp;omega))) rfl⟩) rfl ?_
 refine au (kn:=[]) aa 1 rfl trivial ?_
 refine aM (n':=2) [28] [0] rfl rfl (.inl ⟨(ah.plain rfl),aE.cast (eH rfl rfl rfl Try.underlying3 rfl (bf hx1) rfl) rfl⟩) rfl ?_
 refine au (kn:=[]) aa 2 rfl trivial ?_
 refine aM (n':=2) [29,31] [] rfl rfl (.inl ⟨(ah.plain rfl),aE.cast (aK rfl rfl rfl (aL (by first|omega|(simp;done)|(simp;omega)))) rfl⟩) rfl ?_
 refine aM (n':=2) [25,26] [0] rfl rfl (.inl ⟨(ah.plain rfl),aE.cast (bw (i:=k0) rfl rfl rfl Try.underlying44 dU (by first|omega|(simp;done)|(simp;omega)) (by first|omega|(simp;done)|(simp;omega))) rfl⟩) rfl ?_
 refine au (kn:=[]) aa 1 rfl trivial ?_
 refine br [1,0] rfl rfl rfl rfl (by kernel_rfl) ?_
 refine fZ [1,0] (dM (ds:=[(dI (x1.sum+e.sum))]) rfl rfl rfl rfl rfl fF rfl (Nat.le_of_ble_eq_true rfl) (bf hx1) rfl (eK (x':=(⟨x1.aV,x1.sum+e.sum⟩:Entry)) rfl)) rfl ?_
 refine af ?_
 refine aF aa 2 rfl ?_
 refine aA (bw (i:=k0) rfl rfl rfl Try.underlying44 dU (by first|omega|(simp;done)|(simp;omega)) (by first|omega|(simp;done)|(simp;omega))) rfl ?_
 refine ad aa 1 rfl ?_
 obtain ⟨x2,hx2⟩:=cb (xs:=((l).set k0 (⟨x1.aV,x1.sum+e.sum⟩:Entry))) (i:=k0) (by first|omega|(simp;done)|(simp;omega))
 have hx2e:=yK hx2
 have hx2s:x2.sum=x1.sum+e.sum:=by rw [hx2e]
 refine aA (eH rfl rfl rfl Try.underlying3 rfl (bf hx2) rfl) rfl ?_
 refine ad aa 2 rfl ?_
 refine bE (t:=41) rfl (fun hb5=>?_) (fun hb5=>?_)
 ·
  have hb5':=of_decide_eq_true hb5
  refine ad aa 2 rfl ?_
  refine cC (ah.yes rfl rfl rfl) (bw (i:=k0) rfl rfl rfl Try.underlying44 dU (by first|omega|(simp;done)|(simp;omega)) (by first|omega|(simp;done)|(simp;omega))) rfl rfl ?_
  refine ad aa 1 rfl ?_
  refine cC (ah.yes rfl rfl rfl) (eH rfl rfl rfl Try.underlying3 rfl (bf hx2) rfl) rfl rfl ?_
  refine ad aa 3 rfl ?_
  refine af ?_
  refine ag ?_
  refine aF aa 2 rfl ?_
  refine aA (bw (i:=k0) rfl rfl rfl Try.underlying44 dU (by first|omega|(simp;done)|(simp;omega)) (by first|omega|(simp;done)|(simp;omega))) rfl ?_
  refine ad aa 1 rfl ?_
  refine aA (eH rfl rfl rfl Try.underlying3 rfl (bf hx2) rfl) rfl ?_
  refine ad aa 1 rfl ?_
  refine af ?_
  refine aj rfl (fun hc6=>?_) (fun hc6=>?_)
  ·
   have hc6':=of_decide_eq_true hc6
   refine gY (st':=⟨[(0,(aC (.s 0 0 2 (((l).set k0 (⟨x1.aV,x1.sum+e.sum⟩:Entry)).length)))),(3,(aC (.p 1 0 0 0))),(6,(aI (↑k0:Int))),(32,(aI (x1.sum+e.sum))),(34,(aC (.p 0 k0 2 1))),(35,(aC (.s 0 0 2 l.length))),(36,(aI (↑k0:Int))),(37,(aC (.p 0 k0 2 0))),(38,(aC (.p 0 k0 2 1))),(39,(aI x2.sum)),(40,(aB (decide (x2.sum>=(-1000000000000))))),(41,(aB true)),(42,(aC (.s 0 0 2 l.length))),(43,(aI (↑k0:Int))),(44,(aC (.p 0 k0 2 0))),(45,(aC (.p 0 k0 2 1))),(46,(aI x2.sum)),(47,(aB (decide (x2.sum<=1000000000000)))),(48,(aB (decide (x2.sum<=1000000000000)))),(8,(aB (decide (x2.sum<=1000000000000)))),(49,(aC (.s 0 0 2 l.length))),(50,(aI (↑k0:Int))),(51,(aC (.p 0 k0 2 0))),(52,(aC (.p 0 k0 2 1))),(53,(aI x2.sum)),(54,(aB (decide (x2.sum=0))))],[(1,(.box 115 [(cI e.aV),(cI e.sum)])),(0,(lz ((l).set k0 (⟨x1.aV,x1.sum+e.sum⟩:Entry))))],2⟩) (aH.bS id (by refine ⟨?_,?_,?_,?_,?_,?_,?_,?_,?_,?_,?_,?_,?_,?_,?_,?_,?_,?_,?_,?_,?_,?_,?_,?_,?_,?_,trivial⟩<;>first|rfl|(simp only [bh];done)|(congr 3;omega)|(congr 4;omega)|(simp only [bj];rfl)) (by refine ⟨?_,?_,trivial⟩<;>first|rfl|(simp only [bh];done)|(congr 3;omega)|(congr 4;omega)|(simp only [bj];rfl)) rfl) ?_
   refine aw ?_
   refine ad aa 3 rfl ?_
   refine aA (aK rfl rfl rfl (aL (by first|omega|(simp;done)|(simp;omega)))) rfl ?_
   obtain ⟨r4,hr4⟩:∃ (r4:List Entry),kK ((l).set k0 (⟨x1.aV,x1.sum+e.sum⟩:Entry)) k0 ((k0)+1)=r4:=⟨_,rfl⟩
   refine aQ 3 [2,1] (cK id (bb [2]) (iL ((l).set k0 (⟨x1.aV,x1.sum+e.sum⟩:Entry)) k0 ((k0)+1) (by first|omega|(simp;done)|(simp;omega)) (by first|omega|(simp;done)|(simp;omega)) r4 hr4) tL rfl rfl ⟨⟨_,rfl,.inl ⟨rfl,rfl⟩⟩,⟨_,rfl,.inr (.c (.d _))⟩,⟨_,rfl,.inr (.c (.d _))⟩,trivial⟩ ⟨rfl,trivial⟩ rfl rfl rfl rfl rfl rfl trivial ⟨(fun _ _ _ _=>trivial),trivial⟩ rfl rfl rfl rfl) rfl ?_
   refine ad aa 1 rfl ?_
   refine af ?_
   refine ae aa 4 rfl ?_
   refine ay ?_
   have hX:jA l e=(r4,decide (x2.sum<=1000000000000)):=by
     rw [mS hu hk0 (show fx l e.aV=true by simp_all) hx1 rfl];unfold ic;rw [if_pos (by omega),hr4];refine Prod.ext rfl ?_;first|(simp;omega)|(simp_all;done)|(simp_all;omega)
   rw [hX] at hr;clear hX
   simp only [Prod.mk.injEq] at hr;obtain ⟨rfl,rfl⟩:=hr
   refine an aa [2] 1 rfl rfl rfl rfl rfl rfl ?_ ?_
   all_goals first|rfl|(simp [az];done)|(simp [az];omega)
  have hc6':=of_decide_eq_false hc6
  refine aP ?_
  refine ae aa 4 rfl ?_
  refine ay ?_
  have hX:jA l e=((l).set k0 (⟨x1.aV,x1.sum+e.sum⟩:Entry),decide (x2.sum<=1000000000000)):=by
    rw [mS hu hk0 (show fx l e.aV=true by simp_all) hx1 rfl];unfold ic;rw [if_neg (by omega)];refine Prod.ext rfl ?_;first|(simp;omega)|(simp_all;done)|(simp_all;omega)
  rw [hX] at hr;clear hX
  simp only [Prod.mk.injEq] at hr;obtain ⟨rfl,rfl⟩:=hr
  refine an aa [0] 1 rfl rfl rfl rfl rfl rfl ?_ ?_
  all_goals first|rfl|(simp [az];done)|(simp [az];omega)
 have hb5':=of_decide_eq_false hb5
 refine ad aa 8 rfl ?_
 refine af ?_
 refine ag ?_
 refine aF aa 2 rfl ?_
 refine aA (bw (i:=k0) rfl rfl rfl Try.underlying44 dU (by first|omega|(simp;done)|(simp;omega)) (by first|omega|(simp;done)|(simp;omega))) rfl ?_
 refine ad aa 1 rfl ?_
 refine aA (eH rfl rfl rfl Try.underlying3 rfl (bf hx2) rfl) rfl ?_
 refine ad aa 1 rfl ?_
 refine af ?_
 refine aj rfl (fun hc7=>?_) (fun hc7=>?_)
 ·
  have hc7':=of_decide_eq_true hc7
  refine gY (st':=⟨[(0,(aC (.s 0 0 2 (((l).set k0 (⟨x1.aV,x1.sum+e.sum⟩:Entry)).length)))),(3,(aC (.p 1 0 0 0))),(6,(aI (↑k0:Int))),(32,(aI (x1.sum+e.sum))),(34,(aC (.p 0 k0 2 1))),(35,(aC (.s 0 0 2 l.length))),(36,(aI (↑k0:Int))),(37,(aC (.p 0 k0 2 0))),(38,(aC (.p 0 k0 2 1))),(39,(aI x2.sum)),(40,(aB (decide (x2.sum>=(-1000000000000))))),(41,(aB false)),(48,(aB false)),(8,(aB false)),(49,(aC (.s 0 0 2 l.length))),(50,(aI (↑k0:Int))),(51,(aC (.p 0 k0 2 0))),(52,(aC (.p 0 k0 2 1))),(53,(aI x2.sum)),(54,(aB (decide (x2.sum=0))))],[(1,(.box 115 [(cI e.aV),(cI e.sum)])),(0,(lz ((l).set k0 (⟨x1.aV,x1.sum+e.sum⟩:Entry))))],2⟩) (aH.bS id (by refine ⟨?_,?_,?_,?_,?_,?_,?_,?_,?_,?_,?_,?_,?_,?_,?_,?_,?_,?_,?_,?_,trivial⟩<;>first|rfl|(simp only [bh];done)|(congr 3;omega)|(congr 4;omega)|(simp only [bj];rfl)) (by refine ⟨?_,?_,trivial⟩<;>first|rfl|(simp only [bh];done)|(congr 3;omega)|(congr 4;omega)|(simp only [bj];rfl)) rfl) ?_
  refine aw ?_
  refine ad aa 3 rfl ?_
  refine aA (aK rfl rfl rfl (aL (by first|omega|(simp;done)|(simp;omega)))) rfl ?_
  obtain ⟨r5,hr5⟩:∃ (r5:List Entry),kK ((l).set k0 (⟨x1.aV,x1.sum+e.sum⟩:Entry)) k0 ((k0)+1)=r5:=⟨_,rfl⟩
  refine aQ 3 [2,1] (cK id (bb [2]) (iL ((l).set k0 (⟨x1.aV,x1.sum+e.sum⟩:Entry)) k0 ((k0)+1) (by first|omega|(simp;done)|(simp;omega)) (by first|omega|(simp;done)|(simp;omega)) r5 hr5) tL rfl rfl ⟨⟨_,rfl,.inl ⟨rfl,rfl⟩⟩,⟨_,rfl,.inr (.c (.d _))⟩,⟨_,rfl,.inr (.c (.d _))⟩,trivial⟩ ⟨rfl,trivial⟩ rfl rfl rfl rfl rfl rfl trivial ⟨(fun _ _ _ _=>trivial),trivial⟩ rfl rfl rfl rfl) rfl ?_
  refine ad aa 1 rfl ?_
  refine af ?_
  refine ae aa 4 rfl ?_
  refine ay ?_
  have hX:jA l e=(r5,false):=by
    rw [mS hu hk0 (show fx l e.aV=true by simp_all) hx1 rfl];unfold ic;rw [if_pos (by omega),hr5];refine Prod.ext rfl ?_;first|(simp;omega)|(simp_all;done)|(simp_all;omega)
  rw [hX] at hr;clear hX
  simp only [Prod.mk.injEq] at hr;obtain ⟨rfl,rfl⟩:=hr
  refine an aa [2] 1 rfl rfl rfl rfl rfl rfl ?_ ?_
  all_goals first|rfl|(simp [az];done)|(simp [az];omega)
 have hc7':=of_decide_eq_false hc7
 refine aP ?_
 refine ae aa 4 rfl ?_
 refine ay ?_
 have hX:jA l e=((l).set k0 (⟨x1.aV,x1.sum+e.sum⟩:Entry),false):=by
   rw [mS hu hk0 (show fx l e.aV=true by simp_all) hx1 rfl];unfold ic;rw [if_neg (by omega)];refine Prod.ext rfl ?_;first|(simp;omega)|(simp_all;done)|(simp_all;omega)
 rw [hX] at hr;clear hX
 simp only [Prod.mk.injEq] at hr;obtain ⟨rfl,rfl⟩:=hr
 refine an aa [0] 1 rfl rfl rfl rfl rfl rfl ?_ ?_
 all_goals first|rfl|(simp [az];done)|(simp [az];omega)
def ft (x:Entry):Prop:=x.aV < 0\/x.aV > 57\/x.sum < -1000000000000\/x.sum > 1000000000000
instance (x:Entry):Decidable (ft x):=by unfold ft;infer_instance
def kM (l:List Entry) (q:Nat):Int:=
 match l[q]? with
 |some x=>if ft x then 3 else if (0 < q/\(l.getD (q - 1) ⟨0,0⟩).aV>=x.aV)\/x.sum=0 then 2 else 0
 |none=>0
def fW:List Entry->Int
 |[]=>0
 |x::l=>x.sum+fW l
def fj (l:List Entry):cY:=if (scan (kM l) 0 l.length).1≠0 then ⟨(scan (kM l) 0 l.length).1,(scan (kM l) 0 l.length).2⟩ else if fW l≠0 then ⟨8,0⟩ else ⟨0,0⟩
theorem vG (l r:List Entry):fW (l++r)=fW l+fW r:=by
 induction l with
 |nil=>simp [fW]
 |cons x l ih=>simp only [List.cons_append,fW,ih];omega
theorem sb {α:Type} {l:List α} {q:Nat} {x:α} (h:l[q]?=some x):l.take (q+1)=l.take q++[x]:=by
 obtain ⟨hlt,rfl⟩:=List.getElem?_eq_some_iff.1 h
 rw [List.take_add_one,List.getElem?_eq_getElem hlt];rfl
theorem jk {l:List Entry} {q:Nat} {x:Entry} (h:l[q]?=some x):fW (l.take (q+1))=fW (l.take q)+x.sum:=by
 rw [sb h,vG];simp [fW]
def ix (l:List Entry) (q:Nat):Int:=if q=0 then -1 else (l.getD (q - 1) ⟨0,0⟩).aV
theorem jG {l:List Entry} {q:Nat} {x:Entry} (h:l[q]?=some x):ix l (q+1)=x.aV:=by
 unfold ix
 rw [if_neg (by omega),List.getD_eq_getElem?_getD,Nat.add_sub_cancel,h];rfl
theorem kA {l:List Entry} {q:Nat} {x:Entry} (hq:0 < q) (h:l[q - 1]?=some x):ix l q=x.aV:=by
 unfold ix
 rw [if_neg (by omega),List.getD_eq_getElem?_getD,h];rfl
theorem hG {l:List Entry} {q:Nat} {x:Entry} (h:l[q]?=some x):kM l q=if ft x then 3 else if (0 < q/\ix l q>=x.aV)\/x.sum=0 then 2 else 0:=by
 unfold kM
 rw [h]
 by_cases hq:q=0
 ·subst hq;simp
 ·unfold ix;rw [if_neg hq]
structure km (l:List Entry):Prop where
 up:Up l
 ok:∀ x∈l,0<=x.aV/\x.aV<=57/\-1000000000000<=x.sum/\x.sum<=1000000000000/\x.sum≠0
theorem EP {l:List Entry} (h:∀ q x y,l[q]?=some x->l[q+1]?=some y->x.aV < y.aV):Up l:=by
 unfold Up
 induction l with
 |nil=>exact List.Pairwise.nil
 |cons x l ih=>
  have h2:=ih fun q a b ha hb=>h (q+1) a b (by simpa using ha) (by simpa using hb)
  refine List.pairwise_cons.2 ⟨fun y hy=>?_,h2⟩
  cases l with
  |nil=>cases hy
  |cons z l=>
   have hz:=h 0 x z (by simp) (by simp)
   rcases List.mem_cons.1 hy with rfl|hy
   ·exact hz
   ·have:=(List.pairwise_cons.1 h2).1 y hy;omega
theorem yz {l:List Entry} (h:Up l) {i j:Nat} {x y:Entry} (hij:i < j) (hx:l[i]?=some x) (hy:l[j]?=some y):x.aV < y.aV:=by
 obtain ⟨hi,rfl⟩:=List.getElem?_eq_some_iff.1 hx
 obtain ⟨hj,rfl⟩:=List.getElem?_eq_some_iff.1 hy
 exact List.pairwise_iff_getElem.1 h i j hi hj hij
theorem yL {l:List Entry}:(scan (kM l) 0 l.length).1=0↔km l:=by
 rw [mM]
 constructor
 ·intro h
  have at':∀ q x,l[q]?=some x->¬ft x/\¬((0 < q/\ix l q>=x.aV)\/x.sum=0):=fun q x hx=>by
   have hq:=(List.getElem?_eq_some_iff.1 hx).1
   have h1:=h q (Nat.zero_le _) (by omega)
   rw [hG hx] at h1
   split at h1
   ·cases h1
   ·split at h1
    ·cases h1
    ·exact ⟨by assumption,by assumption⟩
  refine ⟨EP fun q x y hx hy=>?_,fun x hx=>?_⟩
  ·have h1:=(at' (q+1) y hy).2
   rw [jG hx] at h1
   omega
  ·obtain ⟨q,hq⟩:=List.getElem?_of_mem hx
   have h1:=at' q x hq
   unfold ft at h1
   omega
 ·intro h q _ hq
  obtain ⟨x,hx⟩:∃ x,l[q]?=some x:=⟨_,List.getElem?_eq_getElem (by omega)⟩
  have h1:=h.ok x (List.mem_of_getElem? hx)
  rw [hG hx,if_neg (by unfold ft;omega),if_neg]
  rintro (⟨h2,h3⟩|h2)
  ·obtain ⟨y,hy⟩:∃ y,l[q - 1]?=some y:=⟨_,List.getElem?_eq_getElem (by omega)⟩
   rw [kA h2 hy] at h3
   have:=yz h.up (by omega:q - 1 < q) hy hx
   omega
  ·exact h1.2.2.2.2 h2
theorem xi {l:List Entry}:(fj l).err=0↔km l/\fW l=0:=by
 unfold fj
 rw [<-yL]
 split
 ·rename_i h;constructor
  ·intro h1;exact absurd h1 h
  ·intro h1;exact absurd h1.1 h
 ·rename_i h
  split
  ·rename_i h2;constructor
   ·intro h1;cases h1
   ·intro h1;exact absurd h1.2 h2
  ·rename_i h2;constructor
   ·intro _;exact ⟨by omega,by omega⟩
   ·intro _;rfl
theorem sw {l:List Entry} (h:km l):l.length<=58:=by
 have key:∀ (q:Nat) (x:Entry),l[q]?=some x->(q:Int)<=x.aV:=by
  intro q
  induction q with
  |zero=>intro x hx;have:=h.ok x (List.mem_of_getElem? hx);omega
  |succ q ih=>
   intro x hx
   have hq:=(List.getElem?_eq_some_iff.1 hx).1
   obtain ⟨y,hy⟩:∃ y,l[q]?=some y:=⟨_,List.getElem?_eq_getElem (by omega)⟩
   have h1:=ih y hy
   have h2:=yz h.up (by omega:q < q+1) hy hx
   omega
 by_cases hl:l.length=0
 ·omega
 ·obtain ⟨x,hx⟩:∃ x,l[l.length - 1]?=some x:=⟨_,List.getElem?_eq_getElem (by omega)⟩
  have h1:=key _ x hx
  have h2:=h.ok x (List.mem_of_getElem? hx)
  omega
theorem sn {x:Entry} {l:List Entry} {a s:Int} (h:x.aV < a):iA (x::l) a s=x::iA l a s:=by
 unfold iA
 rw [oc h,show dX (x::l) a=dX l a+1 by simp [dX,h]]
 cases fx l a<;>simp
theorem sm {x:Entry} {l:List Entry} {a s:Int} (h:x.aV=a):iA (x::l) a s=(if s=0 then [] else [⟨a,s⟩])++l:=by
 unfold iA
 rw [lO (by omega),show dX (x::l) a=0 by simp [dX];omega]
 simp [h]
theorem ud {x:Entry} {l:List Entry} {a s:Int} (h:a < x.aV):iA (x::l) a s=(if s=0 then [] else [⟨a,s⟩])++x::l:=by
 unfold iA
 rw [lO (by omega),show dX (x::l) a=0 by simp [dX];omega]
 have:¬x.aV=a:=by omega
 simp [this]
theorem uc (a s:Int):iA [] a s=if s=0 then [] else [⟨a,s⟩]:=by simp [iA,dX,fx]
theorem pR {a s:Int}:∀ {l:List Entry} {x:Entry},x∈iA l a s->x∈l\/(x=⟨a,s⟩/\s≠0)
 |[],x,h=>by
  rw [uc] at h
  split at h
  ·cases h
  ·rename_i h0;exact .inr ⟨by simpa using h,h0⟩
 |y::l,x,h=>by
  have one:x∈(if s=0 then [] else [(⟨a,s⟩:Entry)])->x=⟨a,s⟩/\s≠0:=fun h=>by
   split at h
   ·cases h
   ·rename_i h0;exact ⟨by simpa using h,h0⟩
  rcases Int.lt_trichotomy y.aV a with h1|h1|h1
  ·rw [sn h1] at h
   rcases List.mem_cons.1 h with rfl|h
   ·exact .inl List.mem_cons_self
   ·rcases pR h with h|h
    ·exact .inl (List.mem_cons_of_mem _ h)
    ·exact .inr h
  ·rw [sm h1] at h
   rcases List.mem_append.1 h with h|h
   ·exact .inr (one h)
   ·exact .inl (List.mem_cons_of_mem _ h)
  ·rw [ud h1] at h
   rcases List.mem_append.1 h with h|h
   ·exact .inr (one h)
   ·exact .inl h
theorem oE {x:Entry} {l:List Entry}:Up (x::l)↔(∀ y∈l,x.aV < y.aV)/\Up l:=List.pairwise_cons
theorem wk {a s:Int}:∀ {l:List Entry},Up l->Up (iA l a s)
 |[],_=>by rw [uc];split;exact List.Pairwise.nil;exact List.pairwise_singleton _ _
 |y::l,h=>by
  obtain ⟨h1,h2⟩:=oE.1 h
  rcases Int.lt_trichotomy y.aV a with h3|h3|h3
  ·rw [sn h3]
   refine oE.2 ⟨fun z hz=>?_,wk h2⟩
   rcases pR hz with hz|⟨rfl,_⟩
   ·exact h1 z hz
   ·exact h3
  ·rw [sm h3]
   split
   ·exact h2
   ·exact oE.2 ⟨fun z hz=>by have:=h1 z hz;show a < z.aV;omega,h2⟩
  ·rw [ud h3]
   split
   ·exact h
   ·exact oE.2 ⟨fun z hz=>by
     show a < z.aV
     rcases List.mem_cons.1 hz with rfl|hz
     ·exact h3
     ·have:=h1 z hz;omega,h⟩
theorem xv {l:List Entry} {a s:Int} (h:km l) (ha:0<=a/\a<=57) (hs:-1000000000000<=s/\s<=1000000000000):km (iA l a s):=
 ⟨wk h.up,fun x hx=>by
  rcases pR hx with hx|⟨rfl,h0⟩
  ·exact h.ok x hx
  ·exact ⟨ha.1,ha.2,hs.1,hs.2,h0⟩⟩
def iB:List Entry->List Entry->Option (List Entry)
 |l,[]=>some l
 |l,e::es=>if ic (ji l e.aV+e.sum)=true then iB (iA l e.aV (ji l e.aV+e.sum)) es else none
def ia (l es:List Entry):List Entry×Int:=
 if (fj l).err≠0 then ([],(fj l).err)
 else if es.length > 10 then ([],5)
 else if ∃ x∈es,ft x then ([],3)
 else if fW es≠0 then ([],8)
 else match iB l es with
  |some r=>(r,0)
  |none=>([],4)
theorem zv {s:Int}:ic s=true↔-1000000000000<=s/\s<=1000000000000:=by
 unfold ic;simp only [Bool.and_eq_true,decide_eq_true_eq,ge_iff_le]
theorem pk {l es:List Entry} {q:Nat} {e:Entry} (h:es[q]?=some e):iB l (es.drop q)=if ic (ji l e.aV+e.sum)=true then iB (iA l e.aV (ji l e.aV+e.sum)) (es.drop (q+1)) else none:=by
 obtain ⟨hq,rfl⟩:=List.getElem?_eq_some_iff.1 h
 rw [List.drop_eq_getElem_cons hq];rfl


theorem pC (l:List Int) (hl:l.length * 8<=140737488355328):Fn Try.prog 95 [(.c (dr l))] (aC (.s 0 0 1 l.length)) [(0,.arr 3 1 (l.map rI))]:=by
 refine Fn.mk' 8 [(0,(aC (dr l)))] Try.func95 rfl rfl rfl rfl ?_
 intro W0 T0
 refine dj 0 rfl (fun hlen0=>?_)
 refine ae aa 1 rfl ?_
 refine ag ?_
 refine aF aa 1 rfl ?_
 refine ie (ah.plain rfl) rfl rfl Try.underlying30 rfl rfl (fun bn1 hbn1=>?_)
 refine af ?_
 refine aj rfl (fun hc2=>?_) (fun hc2=>?_)
 ·
  have hc2':=hc2;try simp only [bu,bR] at hc2'
  refine ae aa 1 rfl ?_
  refine ay ?_
  refine ar ?_
  refine da (aH.nil 2 3 1 (by decide) rfl) ?_
  refine an aa [0] 1 rfl rfl rfl rfl rfl rfl ?_ ?_
  ·(have h0:=hbn1 (by assumption);have h1:l=[]:=by (cases l with|nil=>rfl|cons=>simp at h0));subst h1;rfl
  ·(have h0:=hbn1 (by assumption);have h1:l=[]:=by (cases l with|nil=>rfl|cons=>simp at h0));subst h1;rfl
 have hc2':=hc2;try simp only [bu,bR] at hc2'
 refine aP ?_
 refine fa ?_
 refine aQ 1 [0] (dW (ys:=[]) (rows:=(([]:List Int)).map rI) 0 mJ rfl (by decide) trivial rfl rfl rfl rfl) rfl ?_
 refine ad aa 1 rfl ?_
 refine aQ 2 [1] (dx (m:=l.length) (N:=l.length) (k2:=1) (ys:=(l).map rI) mJ rfl rfl rfl rfl rfl rfl (by first|omega|(simp;omega)|(simp;done)) rfl (.d _ _) (by first|omega|(simp;omega)|(simp;done)) (by first|omega|(simp;omega)|(simp;done)) rfl (by decide) (by first|omega|(simp;omega)|(simp;done)) (by first|omega|(simp;omega)|(simp;done))) rfl ?_
 refine ad aa 1 rfl ?_
 refine af ?_
 refine ay ?_
 refine an aa [1] 1 rfl rfl rfl rfl rfl rfl ?_ ?_
 ·first|rfl|simp [fL,aC]
 ·first|rfl|simp
theorem mB (l:List cg) (hl:l.length * 32<=140737488355328):Fn Try.prog 99 [(.c (ei l))] (aC (.s 0 0 4 l.length)) [(0,.arr 107 4 (l.map il))]:=by
 refine Fn.mk' 8 [(0,(aC (ei l)))] Try.func99 rfl rfl rfl rfl ?_
 intro W0 T0
 refine dj 0 rfl (fun hlen0=>?_)
 refine ae aa 1 rfl ?_
 refine ag ?_
 refine aF aa 1 rfl ?_
 refine ie (ah.plain rfl) rfl rfl Try.underlying39 rfl rfl (fun bn1 hbn1=>?_)
 refine af ?_
 refine aj rfl (fun hc2=>?_) (fun hc2=>?_)
 ·
  have hc2':=hc2;try simp only [bu,bR] at hc2'
  refine ae aa 1 rfl ?_
  refine ay ?_
  refine ar ?_
  refine da (aH.nil 2 107 4 (by decide) rfl) ?_
  refine an aa [0] 1 rfl rfl rfl rfl rfl rfl ?_ ?_
  ·(have h0:=hbn1 (by assumption);have h1:l=[]:=by (cases l with|nil=>rfl|cons=>simp at h0));subst h1;rfl
  ·(have h0:=hbn1 (by assumption);have h1:l=[]:=by (cases l with|nil=>rfl|cons=>simp at h0));subst h1;rfl
 have hc2':=hc2;try simp only [bu,bR] at hc2'
 refine aP ?_
 refine fa ?_
 refine aQ 1 [0] (dW (ys:=[]) (rows:=(([]:List cg)).map il) 0 xr rfl (by decide) trivial rfl rfl rfl rfl) rfl ?_
 refine ad aa 1 rfl ?_
 refine aQ 2 [1] (dx (m:=l.length) (N:=l.length) (k2:=1) (ys:=(l).map il) xr rfl rfl rfl rfl rfl rfl (by first|omega|(simp;omega)|(simp;done)) rfl (.d _ _) (by first|omega|(simp;omega)|(simp;done)) (by first|omega|(simp;omega)|(simp;done)) rfl (by decide) (by first|omega|(simp;omega)|(simp;done)) (by first|omega|(simp;omega)|(simp;done))) rfl ?_
 refine ad aa 1 rfl ?_
 refine af ?_
 refine ay ?_
 refine an aa [1] 1 rfl rfl rfl rfl rfl rfl ?_ ?_
 ·first|rfl|simp [fL,aC]
 ·first|rfl|simp
theorem pD (l:List dc) (hl:l.length * 16<=140737488355328):Fn Try.prog 114 [(.c (eC l))] (aC (.s 0 0 2 l.length)) [(0,.arr 125 2 (l.map gT))]:=by
 refine Fn.mk' 8 [(0,(aC (eC l)))] Try.func114 rfl rfl rfl rfl ?_
 intro W0 T0
 refine dj 0 rfl (fun hlen0=>?_)
 refine ae aa 1 rfl ?_
 refine ag ?_
 refine aF aa 1 rfl ?_
 refine ie (ah.plain rfl) rfl rfl Try.underlying59 rfl rfl (fun bn1 hbn1=>?_)
 refine af ?_
 refine aj rfl (fun hc2=>?_) (fun hc2=>?_)
 ·
  have hc2':=hc2;try simp only [bu,bR] at hc2'
  refine ae aa 1 rfl ?_
  refine ay ?_
  refine ar ?_
  refine da (aH.nil 2 125 2 (by decide) rfl) ?_
  refine an aa [0] 1 rfl rfl rfl rfl rfl rfl ?_ ?_
  ·(have h0:=hbn1 (by assumption);have h1:l=[]:=by (cases l with|nil=>rfl|cons=>simp at h0));subst h1;rfl
  ·(have h0:=hbn1 (by assumption);have h1:l=[]:=by (cases l with|nil=>rfl|cons=>simp at h0));subst h1;rfl
 have hc2':=hc2;try simp only [bu,bR] at hc2'
 refine aP ?_
 refine fa ?_
 refine aQ 1 [0] (dW (ys:=[]) (rows:=(([]:List dc)).map gT) 0 nJ rfl (by decide) trivial rfl rfl rfl rfl) rfl ?_
 refine ad aa 1 rfl ?_
 refine aQ 2 [1] (dx (m:=l.length) (N:=l.length) (k2:=1) (ys:=(l).map gT) nJ rfl rfl rfl rfl rfl rfl (by first|omega|(simp;omega)|(simp;done)) rfl (.d _ _) (by first|omega|(simp;omega)|(simp;done)) (by first|omega|(simp;omega)|(simp;done)) rfl (by decide) (by first|omega|(simp;omega)|(simp;done)) (by first|omega|(simp;omega)|(simp;done))) rfl ?_
 refine ad aa 1 rfl ?_
 refine af ?_
 refine ay ?_
 refine an aa [1] 1 rfl rfl rfl rfl rfl rfl ?_ ?_
 ·first|rfl|simp [fL,aC]
 ·first|rfl|simp
theorem lu (l:List bq) (hl:l.length * 32<=140737488355328):Fn Try.prog 106 [(.c (cw l))] (aC (.s 0 0 4 l.length)) [(0,.arr 80 4 (l.map fv))]:=by
 refine Fn.mk' 8 [(0,(aC (cw l)))] Try.func106 rfl rfl rfl rfl ?_
 intro W0 T0
 refine dj 0 rfl (fun hlen0=>?_)
 refine ae aa 1 rfl ?_
 refine ag ?_
 refine aF aa 1 rfl ?_
 refine ie (ah.plain rfl) rfl rfl Try.underlying32 rfl rfl (fun bn1 hbn1=>?_)
 refine af ?_
 refine aj rfl (fun hc2=>?_) (fun hc2=>?_)
 ·
  have hc2':=hc2;try simp only [bu,bR] at hc2'
  refine ae aa 1 rfl ?_
  refine ay ?_
  refine ar ?_
  refine da (aH.nil 2 80 4 (by decide) rfl) ?_
  refine an aa [0] 1 rfl rfl rfl rfl rfl rfl ?_ ?_
  ·(have h0:=hbn1 (by assumption);have h1:l=[]:=by (cases l with|nil=>rfl|cons=>simp at h0));subst h1;rfl
  ·(have h0:=hbn1 (by assumption);have h1:l=[]:=by (cases l with|nil=>rfl|cons=>simp at h0));subst h1;rfl
 have hc2':=hc2;try simp only [bu,bR] at hc2'
 refine aP ?_
 refine fa ?_
 refine aQ 1 [0] (dW (ys:=[]) (rows:=(([]:List bq)).map fv) 0 ub rfl (by decide) trivial rfl rfl rfl rfl) rfl ?_
 refine ad aa 1 rfl ?_
 refine aQ 2 [1] (dx (m:=l.length) (N:=l.length) (k2:=1) (ys:=(l).map fv) ub rfl rfl rfl rfl rfl rfl (by first|omega|(simp;omega)|(simp;done)) rfl (.d _ _) (by first|omega|(simp;omega)|(simp;done)) (by first|omega|(simp;omega)|(simp;done)) rfl (by decide) (by first|omega|(simp;omega)|(simp;done)) (by first|omega|(simp;omega)|(simp;done))) rfl ?_
 refine ad aa 1 rfl ?_
 refine af ?_
 refine ay ?_
 refine an aa [1] 1 rfl rfl rfl rfl rfl rfl ?_ ?_
 ·first|rfl|simp [fL,aC]
 ·first|rfl|simp
theorem tE (l:List Entry) (hl:l.length * 16<=140737488355328):Fn Try.prog 115 [(.c (de l))] (aC (.s 0 0 2 l.length)) [(0,.arr 115 2 (l.map ez))]:=by
 refine Fn.mk' 8 [(0,(aC (de l)))] Try.func115 rfl rfl rfl rfl ?_
 intro W0 T0
 refine dj 0 rfl (fun hlen0=>?_)
 refine ae aa 1 rfl ?_
 refine ag ?_
 refine aF aa 1 rfl ?_
 refine ie (ah.plain rfl) rfl rfl Try.underlying44 rfl rfl (fun bn1 hbn1=>?_)
 refine af ?_
 refine aj rfl (fun hc2=>?_) (fun hc2=>?_)
 ·
  have hc2':=hc2;try simp only [bu,bR] at hc2'
  refine ae aa 1 rfl ?_
  refine ay ?_
  refine ar ?_
  refine da (aH.nil 2 115 2 (by decide) rfl) ?_
  refine an aa [0] 1 rfl rfl rfl rfl rfl rfl ?_ ?_
  ·(have h0:=hbn1 (by assumption);have h1:l=[]:=by (cases l with|nil=>rfl|cons=>simp at h0));subst h1;rfl
  ·(have h0:=hbn1 (by assumption);have h1:l=[]:=by (cases l with|nil=>rfl|cons=>simp at h0));subst h1;rfl
 have hc2':=hc2;try simp only [bu,bR] at hc2'
 refine aP ?_
 refine fa ?_
 refine aQ 1 [0] (dW (ys:=[]) (rows:=(([]:List Entry)).map ez) 0 jR rfl (by decide) trivial rfl rfl rfl rfl) rfl ?_
 refine ad aa 1 rfl ?_
 refine aQ 2 [1] (dx (m:=l.length) (N:=l.length) (k2:=1) (ys:=(l).map ez) jR rfl rfl rfl rfl rfl rfl (by first|omega|(simp;omega)|(simp;done)) rfl (.d _ _) (by first|omega|(simp;omega)|(simp;done)) (by first|omega|(simp;omega)|(simp;done)) rfl (by decide) (by first|omega|(simp;omega)|(simp;done)) (by first|omega|(simp;omega)|(simp;done))) rfl ?_
 refine ad aa 1 rfl ?_
 refine af ?_
 refine ay ?_
 refine an aa [1] 1 rfl rfl rfl rfl rfl rfl ?_ ?_
 ·first|rfl|simp [fL,aC]
 ·first|rfl|simp
theorem mz (l:List al) (hl:l.length * 32<=140737488355328):Fn Try.prog 54 [(.c (eP l))] (aC (.s 0 0 4 l.length)) [(0,.arr 83 4 (l.map gU))]:=by
 refine Fn.mk' 8 [(0,(aC (eP l)))] Try.func54 rfl rfl rfl rfl ?_
 intro W0 T0
 refine dj 0 rfl (fun hlen0=>?_)
 refine ae aa 1 rfl ?_
 refine ag ?_
 refine aF aa 1 rfl ?_
 refine ie (ah.plain rfl) rfl rfl Try.underlying42 rfl rfl (fun bn1 hbn1=>?_)
 refine af ?_
 refine aj rfl (fun hc2=>?_) (fun hc2=>?_)
 ·
  have hc2':=hc2;try simp only [bu,bR] at hc2'
  refine ae aa 1 rfl ?_
  refine ay ?_
  refine ar ?_
  refine da (aH.nil 2 83 4 (by decide) rfl) ?_
  refine an aa [0] 1 rfl rfl rfl rfl rfl rfl ?_ ?_
  ·(have h0:=hbn1 (by assumption);have h1:l=[]:=by (cases l with|nil=>rfl|cons=>simp at h0));subst h1;rfl
  ·(have h0:=hbn1 (by assumption);have h1:l=[]:=by (cases l with|nil=>rfl|cons=>simp at h0));subst h1;rfl
 have hc2':=hc2;try simp only [bu,bR] at hc2'
 refine aP ?_
 refine fa ?_
 refine aQ 1 [0] (dW (ys:=[]) (rows:=(([]:List al)).map gU) 0 xq rfl (by decide) trivial rfl rfl rfl rfl) rfl ?_
 refine ad aa 1 rfl ?_
 refine aQ 2 [1] (dx (m:=l.length) (N:=l.length) (k2:=1) (ys:=(l).map gU) xq rfl rfl rfl rfl rfl rfl (by first|omega|(simp;omega)|(simp;done)) rfl (.d _ _) (by first|omega|(simp;omega)|(simp;done)) (by first|omega|(simp;omega)|(simp;done)) rfl (by decide) (by first|omega|(simp;omega)|(simp;done)) (by first|omega|(simp;omega)|(simp;done))) rfl ?_
 refine ad aa 1 rfl ?_
 refine af ?_
 refine ay ?_
 refine an aa [1] 1 rfl rfl rfl rfl rfl rfl ?_ ?_
 ·first|rfl|simp [fL,aC]
 ·first|rfl|simp


theorem vp (l:List Entry) (f:cY) (hr:fj l=f):Fn Try.prog 33 [(.c (de l))] (.v (.g [(cI f.err),(cI f.at_)])) []:=by
 refine Fn.mk' 64 [(0,(aC (de l)))] Try.func33 rfl rfl rfl rfl ?_
 intro W0 T0
 refine dj 0 rfl (fun hlen0=>?_)
 refine ae aa 1 rfl ?_
 refine ae aa 1 rfl ?_
 refine ag ?_
 refine aF aa 1 rfl ?_
 refine aA (bQ rfl rfl rfl rfl rfl Try.underlying44) rfl ?_
 refine ad aa 1 rfl ?_
 refine af ?_
 refine aU ?_
 refine cj (β:=Nat) (fun (q:Nat)=>⟨[(0,(aC (de l))),(2,(aC (.p 0 0 0 0))),(3,(aI (fW (l.take q)))),(6,(aC (de l))),(7,(aI (↑l.length:Int))),(8,(aI (↑q:Int)))],[(0,(.box 50 [(cI 0),(cI 0)]))],1⟩) (fun (q:Nat)=>q<=l.length/\scan (kM l) 0 l.length=scan (kM l) q (l.length - q)/\(q:Int) - 1<=ix l q/\ix l q<=57/\-1000000000000 * (q:Int)<=fW (l.take q)/\fW (l.take q)<=1000000000000 * (q:Int)) (fun (q:Nat)=>l.length - q) 0 ?_ ?_ ?_
 ·(have h1:ix l 0=-1:=rfl);(have h2:fW (l.take 0)=0:=rfl);exact ⟨by omega,rfl,by omega,by omega⟩
 ·exact aH.bS id (by refine ⟨?_,?_,?_,?_,?_,?_,trivial⟩<;>first|rfl|(simp only [bh];done)|(congr 3;omega)|(congr 4;omega)|(simp only [bj];rfl)) (⟨by first|rfl|(simp only [bh];done)|(congr 3;omega)|(congr 4;omega)|(simp only [bj];rfl),trivial⟩) rfl
 rintro q ⟨hi0_0,hi0_1,hi0_2,hi0_3⟩
 refine ae aa 1 rfl ?_
 refine ag ?_
 refine aj rfl (fun hc1=>?_) (fun hc1=>?_)
 ·
  have hc1':=of_decide_eq_true hc1
  refine aP ?_
  refine ag ?_
  refine aU ?_
  refine aF aa 1 rfl ?_
  obtain ⟨x1,hx1⟩:=cb (xs:=l) (i:=q) (by first|omega|(simp;done)|(simp;omega))
  refine aA (ca (i:=q) rfl rfl rfl Try.underlying44 dU (by first|omega|(simp;done)|(simp;omega)) (bf hx1)) rfl ?_
  refine ad aa 4 rfl ?_
  refine af ?_
  refine ag ?_
  refine aU ?_
  refine ck 13 ((((decide (x1.aV < 0))||(decide (x1.aV>=58)))||(decide (x1.sum < (-1000000000000))))||(decide (x1.sum > 1000000000000))) ?_ ?_
  ·
   refine aw ?_
   refine ad aa 4 rfl ?_
   refine bE (t:=17) rfl (fun hb2=>?_) (fun hb2=>?_)
   ·
    have hb2':=of_decide_eq_true hb2
    refine ad aa 15 rfl ?_
    refine af ?_
    exact aH.bA 20 rfl rfl (by first|(simp [hb2];done)|(simp_all;done)|(exfalso;simp_all;done)|(simp_all;omega)) rfl
   have hb2':=of_decide_eq_false hb2
   refine ad aa 5 rfl ?_
   refine bE (t:=22) rfl (fun hb3=>?_) (fun hb3=>?_)
   ·
    have hb3':=of_decide_eq_true hb3
    refine ad aa 10 rfl ?_
    refine af ?_
    exact aH.bA 21 rfl rfl (by first|(simp [hb2,hb3];done)|(simp_all;done)|(exfalso;simp_all;done)|(simp_all;omega)) rfl
   have hb3':=of_decide_eq_false hb3
   refine ad aa 5 rfl ?_
   refine bE (t:=27) rfl (fun hb4=>?_) (fun hb4=>?_)
   ·
    have hb4':=of_decide_eq_true hb4
    refine ad aa 5 rfl ?_
    refine af ?_
    exact aH.bA 22 rfl rfl (by first|(simp [hb2,hb3,hb4];done)|(simp_all;done)|(exfalso;simp_all;done)|(simp_all;omega)) rfl
   have hb4':=of_decide_eq_false hb4
   refine ad aa 5 rfl ?_
   refine af ?_
   exact aH.bA 22 rfl rfl (by first|(simp [hb2,hb3,hb4];done)|(simp_all;done)|(exfalso;simp_all;done)|(simp_all;omega)) rfl
  refine aj rfl (fun hc5=>?_) (fun hc5=>?_)
  ·
   have hc5':=hc5;try simp only [bu,bR] at hc5'
   refine ae aa 3 rfl ?_
   refine ay ?_
   refine bo ?_
   refine ar ?_
   refine bo ?_
   refine ar ?_
   refine ar ?_
   refine bo ?_
   refine ar ?_
   have hX:fj l=(⟨3,(↑q:Int)⟩:cY):=by
     (have hb:ft x1:=by unfold ft;omega);(have h0:=hZ (e:=kM l) (q:=q) (n:=l.length) (by omega) (by rw [hG hx1,if_pos hb]) (by decide:(3:Int)≠0));(unfold fj;rw [hi0_1,h0];rfl)
   rw [hX] at hr;clear hX
   subst hr
   refine an aa [0] 0 rfl rfl rfl rfl rfl rfl ?_ ?_
   all_goals first|rfl|(simp [az];done)|(simp [az];omega)
  have hc5':=hc5;try simp only [bu,bR] at hc5'
  refine ag ?_
  rcases Bool.eq_false_or_eq_true (decide ((↑q:Int) > 0)) with hb6|hb6
  ·
   have hb6':=of_decide_eq_true hb6
   obtain ⟨x2,hx2⟩:=cb (xs:=l) (i:=(q) - 1) (by first|omega|(simp;done)|(simp;omega))
   rcases Bool.eq_false_or_eq_true (decide (x2.aV>=x1.aV)) with hb7|hb7
   ·
    have hb7':=of_decide_eq_true hb7
    refine aW [0,2,3,6,7,8,5,4] [1,0] mixed rfl rfl ?_
    refine au (kn:=[(36,true)]) aa 5 rfl ⟨hb6,trivial⟩ ?_
    refine aM (n':=2) [39,37] [] rfl rfl (.inl ⟨(ah.yes rfl rfl rfl),aE.cast (aK rfl rfl rfl (aL (by first|omega|(simp;done)|(simp;omega)))) rfl⟩) rfl ?_
    refine aM (n':=2) [38,40,37] [] rfl rfl (.inl ⟨(ah.yes rfl rfl rfl),aE.cast (ca (i:=(q) - 1) rfl rfl rfl Try.underlying44 dU (by first|omega|(simp;done)|(simp;omega)) (bf hx2)) rfl⟩) rfl ?_
    refine au (kn:=[(46,true)]) aa 12 rfl ⟨hb7,trivial⟩ ?_
    refine br [1,0] rfl rfl rfl rfl (by kernel_rfl) ?_
    refine af ?_
    refine aj rfl (fun _=>?_) (fun hno=>by cases hno)
    refine ae aa 3 rfl ?_
    refine ay ?_
    refine bo ?_
    refine ar ?_
    refine bo ?_
    refine ar ?_
    refine ar ?_
    refine bo ?_
    refine ar ?_
    have hX:fj l=(⟨2,(↑q:Int)⟩:cY):=by
      (have hb:¬ft x1:=by unfold ft;omega);(have hla:=kA (by omega) hx2);(have h0:=hZ (e:=kM l) (q:=q) (n:=l.length) (by omega) (by rw [hG hx1,if_neg hb,if_pos (by omega)]) (by decide:(2:Int)≠0));(unfold fj;rw [hi0_1,h0];rfl)
    rw [hX] at hr;clear hX
    subst hr
    refine an aa [0] 0 rfl rfl rfl rfl rfl rfl ?_ ?_
    all_goals first|rfl|(simp [az];done)|(simp [az];omega)
   have hb7':=of_decide_eq_false hb7
   refine aW [0,2,3,6,7,8,5,4] [1,0] mixed rfl rfl ?_
   refine au (kn:=[(36,true)]) aa 5 rfl ⟨hb6,trivial⟩ ?_
   refine aM (n':=2) [39,37] [] rfl rfl (.inl ⟨(ah.yes rfl rfl rfl),aE.cast (aK rfl rfl rfl (aL (by first|omega|(simp;done)|(simp;omega)))) rfl⟩) rfl ?_
   refine aM (n':=2) [38,40,37] [] rfl rfl (.inl ⟨(ah.yes rfl rfl rfl),aE.cast (ca (i:=(q) - 1) rfl rfl rfl Try.underlying44 dU (by first|omega|(simp;done)|(simp;omega)) (bf hx2)) rfl⟩) rfl ?_
   refine au (kn:=[(46,false)]) aa 12 rfl ⟨hb7,trivial⟩ ?_
   refine br [1,0] rfl rfl rfl rfl (by kernel_rfl) ?_
   refine af ?_
   refine aj rfl (fun hc9=>?_) (fun hc9=>?_)
   ·
    have hc9':=of_decide_eq_true hc9
    refine ae aa 3 rfl ?_
    refine ay ?_
    refine bo ?_
    refine ar ?_
    refine bo ?_
    refine ar ?_
    refine ar ?_
    refine bo ?_
    refine ar ?_
    have hX:fj l=(⟨2,(↑q:Int)⟩:cY):=by
      (have hb:¬ft x1:=by unfold ft;omega);(have hla:=kA (by omega) hx2);(have h0:=hZ (e:=kM l) (q:=q) (n:=l.length) (by omega) (by rw [hG hx1,if_neg hb,if_pos (by omega)]) (by decide:(2:Int)≠0));(unfold fj;rw [hi0_1,h0];rfl)
    rw [hX] at hr;clear hX
    subst hr
    refine an aa [0] 0 rfl rfl rfl rfl rfl rfl ?_ ?_
    all_goals first|rfl|(simp [az];done)|(simp [az];omega)
   have hc9':=of_decide_eq_false hc9
   refine cG ?_
   refine bl ?_
   refine then_ok ?_
   refine aw ?_
   refine ad aa 3 rfl ?_
   refine aA (aK rfl rfl rfl (aL (by first|omega|(simp;done)|(simp;omega)))) rfl ?_
   refine ad aa 1 rfl ?_
   refine cf ?_
   refine bl ?_
   refine then_ok ?_
   refine aw ?_
   refine aA (aK rfl rfl rfl (aL (by first|omega|(simp;done)|(simp;omega)))) rfl ?_
   refine ad aa 1 rfl ?_
   refine af ?_
   refine ⟨q+1,⟨by omega,by rw [hi0_1];exact mo (by omega) (by have hla:=kA (by omega) hx2;rw [hG hx1,if_neg (by unfold ft;omega),if_neg (by omega)]),by rw [jG hx1];have hla:=kA (by omega) hx2;omega,by rw [jG hx1,jk hx1];omega⟩,by first|omega|(simp;done)|(simp;omega),aH.bS id (by refine ⟨?_,?_,?_,?_,?_,?_,trivial⟩<;>first|rfl|(simp only [bh];done)|(congr 3;omega)|(congr 4;omega)|(simp only [bj];rfl)|(rw [jk hx1];rfl)) (⟨by first|rfl|(simp only [bh];done)|(congr 3;omega)|(congr 4;omega)|(simp only [bj];rfl),trivial⟩) rfl⟩
  have hb6':=of_decide_eq_false hb6
  refine aW [0,2,3,6,7,8,5,4] [1,0] mixed rfl rfl ?_
  refine au (kn:=[(36,false)]) aa 19 rfl ⟨hb6,trivial⟩ ?_
  refine br [1,0] rfl rfl rfl rfl (by kernel_rfl) ?_
  refine af ?_
  refine aj rfl (fun hc10=>?_) (fun hc10=>?_)
  ·
   have hc10':=of_decide_eq_true hc10
   refine ae aa 3 rfl ?_
   refine ay ?_
   refine bo ?_
   refine ar ?_
   refine bo ?_
   refine ar ?_
   refine ar ?_
   refine bo ?_
   refine ar ?_
   have hX:fj l=(⟨2,(↑q:Int)⟩:cY):=by
     (have hb:¬ft x1:=by unfold ft;omega);(have h0:=hZ (e:=kM l) (q:=q) (n:=l.length) (by omega) (by rw [hG hx1,if_neg hb,if_pos (by omega)]) (by decide:(2:Int)≠0));(unfold fj;rw [hi0_1,h0];rfl)
   rw [hX] at hr;clear hX
   subst hr
   refine an aa [0] 0 rfl rfl rfl rfl rfl rfl ?_ ?_
   all_goals first|rfl|(simp [az];done)|(simp [az];omega)
  have hc10':=of_decide_eq_false hc10
  refine cG ?_
  refine bl ?_
  refine then_ok ?_
  refine aw ?_
  refine ad aa 3 rfl ?_
  refine aA (aK rfl rfl rfl (aL (by first|omega|(simp;done)|(simp;omega)))) rfl ?_
  refine ad aa 1 rfl ?_
  refine cf ?_
  refine bl ?_
  refine then_ok ?_
  refine aw ?_
  refine aA (aK rfl rfl rfl (aL (by first|omega|(simp;done)|(simp;omega)))) rfl ?_
  refine ad aa 1 rfl ?_
  refine af ?_
  refine ⟨q+1,⟨by omega,by rw [hi0_1];exact mo (by omega) (by have hla:ix l q=-1:=(by unfold ix;rw [if_pos (by omega)]);rw [hG hx1,if_neg (by unfold ft;omega),if_neg (by omega)]),by rw [jG hx1];have hla:ix l q=-1:=(by unfold ix;rw [if_pos (by omega)]);omega,by rw [jG hx1,jk hx1];omega⟩,by first|omega|(simp;done)|(simp;omega),aH.bS id (by refine ⟨?_,?_,?_,?_,?_,?_,trivial⟩<;>first|rfl|(simp only [bh];done)|(congr 3;omega)|(congr 4;omega)|(simp only [bj];rfl)|(rw [jk hx1];rfl)) (⟨by first|rfl|(simp only [bh];done)|(congr 3;omega)|(congr 4;omega)|(simp only [bj];rfl),trivial⟩) rfl⟩
 have hc1':=of_decide_eq_false hc1
 refine bZ ?_
 refine aO ?_
 refine aO ?_
 refine bF ?_
 refine then_ok ?_
 refine ag ?_
 refine ae aa 2 rfl ?_
 refine aj rfl (fun hc11=>?_) (fun hc11=>?_)
 ·
  have hc11':=of_decide_eq_true hc11
  refine ae aa 2 rfl ?_
  refine ay ?_
  refine ar ?_
  have hX:fj l=(⟨8,0⟩:cY):=by
    (obtain rfl:q=l.length:=by omega);rw [List.take_length] at *;(unfold fj;rw [hi0_1,mL (by omega)];rw [if_neg (by decide),if_pos (by omega)])
  rw [hX] at hr;clear hX
  subst hr
  refine an aa [0] 0 rfl rfl rfl rfl rfl rfl ?_ ?_
  all_goals first|rfl|(simp [az];done)|(simp [az];omega)
 have hc11':=of_decide_eq_false hc11
 refine aP ?_
 refine ae aa 2 rfl ?_
 refine ay ?_
 have hX:fj l=(⟨0,0⟩:cY):=by
   (obtain rfl:q=l.length:=by omega);rw [List.take_length] at *;(unfold fj;rw [hi0_1,mL (by omega)];rw [if_neg (by decide),if_neg (by omega)])
 rw [hX] at hr;clear hX
 subst hr
 refine an aa [0] 0 rfl rfl rfl rfl rfl rfl ?_ ?_
 all_goals first|rfl|(simp [az];done)|(simp [az];omega)


theorem uw {l es:List Entry} (h0:(fj l).err=0) (h1:es.length<=10) (h2:∀ x∈es,¬ft x) (h3:fW es=0):ia l es=match iB l es with
    |some r=>(r,0)
    |none=>([],4):=by
  unfold ia
  rw [if_neg (by omega),if_neg (by omega),if_neg (fun ⟨x,hx,hb⟩=>h2 x hx hb),if_neg (by omega)]
  all_goals (cases iB l es<;>rfl)
theorem sH {es:List Entry} {q:Nat} (h:∀ x∈es.take q,¬ft x) (hq:es.length<=q):∀ x∈es,¬ft x:=by
  rwa [List.take_of_length_le hq] at h
theorem xG {es:List Entry} {q:Nat} {x:Entry} (h:∀ x∈es.take q,¬ft x) (hx:es[q]?=some x) (hb:¬ft x):∀ x∈es.take (q+1),¬ft x:=by
  rw [sb hx]
  intro y hy
  rcases List.mem_append.1 hy with hy|hy
  ·exact h y hy
  ·rw [List.mem_singleton.1 hy];exact hb
theorem wi {es:List Entry} {q:Nat} (hq:es.length<=q):fW (es.take q)=fW es:=by rw [List.take_of_length_le hq]
theorem Cs {l m es:List Entry} {q:Nat} (h:iB l es=iB m (es.drop q)) (hq:es.length<=q):iB l es=some m:=by
  rw [h,List.drop_of_length_le hq];rfl
theorem vZ (l es:List Entry) (r:List Entry) (e:Int) (hr:ia l es=(r,e)):Fn Try.prog 111 [(.c (de l)),(.c (de es))] (.t [(.c (.s 0 0 2 r.length)),(.c (cI e))]) [(0,(lz r))]:=by
 refine Fn.mk' 75 [(0,(aC (de l))),(1,(aC (de es)))] Try.func111 rfl rfl rfl rfl ?_
 intro W0 T0
 refine dj 0 rfl (fun hlen0=>?_)
 refine dj 1 rfl (fun hlen1=>?_)
 refine ae aa 2 rfl ?_
 refine ag ?_
 refine aF aa 1 rfl ?_
 obtain ⟨f0,hr0⟩:∃ (f0:cY),fj l=f0:=⟨_,rfl⟩
 refine aQ 0 [] (bX 0 (vp l f0 hr0) GN rfl rfl ⟨⟨_,rfl,.c (.d _)⟩,trivial⟩ ⟨trivial,trivial,trivial⟩ trivial rfl rfl rfl rfl) rfl ?_
 refine ad aa 2 rfl ?_
 refine af ?_
 refine ae aa 3 rfl ?_
 refine aj rfl (fun hc1=>?_) (fun hc1=>?_)
 ·
  have hc1':=of_decide_eq_true hc1
  refine ag ?_
  refine aW [0,1,6] [0] mixed rfl rfl ?_
  refine au (kn:=[]) aa 4 rfl trivial ?_
  refine br [0] rfl rfl rfl rfl (by kernel_rfl) ?_
  refine af ?_
  refine ay ?_
  refine ar ?_
  refine da (aH.nil 4 115 2 (by decide) rfl) ?_
  have hX:ia l es=(([]:List Entry),f0.err):=by
    unfold ia;rw [if_pos (by rw [hr0];omega),hr0]
  rw [hX] at hr;clear hX
  simp only [Prod.mk.injEq] at hr;obtain ⟨rfl,rfl⟩:=hr
  refine an aa [1] 1 rfl rfl rfl rfl rfl rfl ?_ ?_
  all_goals first|rfl|(simp [az];done)|(simp [az];omega)
 have hc1':=of_decide_eq_false hc1
 refine aP ?_
 refine ag ?_
 refine aF aa 1 rfl ?_
 refine aA (bQ rfl rfl rfl rfl rfl Try.underlying44) rfl ?_
 refine ad aa 1 rfl ?_
 refine af ?_
 refine aj rfl (fun hc2=>?_) (fun hc2=>?_)
 ·
  have hc2':=of_decide_eq_true hc2
  refine ae aa 2 rfl ?_
  refine ay ?_
  refine ar ?_
  refine da (aH.nil 4 115 2 (by decide) rfl) ?_
  have hX:ia l es=(([]:List Entry),5):=by
    unfold ia;rw [if_neg (by rw [hr0];omega),if_pos (by omega)]
  rw [hX] at hr;clear hX
  simp only [Prod.mk.injEq] at hr;obtain ⟨rfl,rfl⟩:=hr
  refine an aa [1] 1 rfl rfl rfl rfl rfl rfl ?_ ?_
  all_goals first|rfl|(simp [az];done)|(simp [az];omega)
 have hc2':=of_decide_eq_false hc2
 refine aP ?_
 refine ae aa 1 rfl ?_
 refine ag ?_
 refine aF aa 1 rfl ?_
 refine aA (bQ rfl rfl rfl rfl rfl Try.underlying44) rfl ?_
 refine ad aa 1 rfl ?_
 refine af ?_
 refine aU ?_
 refine cj (β:=Nat) (fun (q:Nat)=>⟨[(0,(aC (de l))),(1,(aC (de es))),(7,(aI (fW (es.take q)))),(25,(aC (de es))),(26,(aI (↑es.length:Int))),(27,(aI (↑q:Int)))],[],0⟩) (fun (q:Nat)=>q<=es.length/\(∀ x∈es.take q,¬ft x)/\-1000000000000 * (q:Int)<=fW (es.take q)/\fW (es.take q)<=1000000000000 * (q:Int)) (fun (q:Nat)=>es.length - q) 0 ?_ ?_ ?_
 ·(have h2:fW (es.take 0)=0:=rfl);exact ⟨by omega,by intro x hx;simp at hx,by omega⟩
 ·exact aH.bS id (by refine ⟨?_,?_,?_,?_,?_,?_,trivial⟩<;>first|rfl|(simp only [bh];done)|(congr 3;omega)|(congr 4;omega)|(simp only [bj];rfl)) (trivial) rfl
 rintro q ⟨hi0_0,hi0_1,hi0_2⟩
 refine ae aa 1 rfl ?_
 refine ag ?_
 refine aj rfl (fun hc3=>?_) (fun hc3=>?_)
 ·
  have hc3':=of_decide_eq_true hc3
  refine aP ?_
  refine ag ?_
  refine aU ?_
  refine fa ?_
  obtain ⟨x1,hx1⟩:=cb (xs:=es) (i:=q) (by first|omega|(simp;done)|(simp;omega))
  refine aA (ca (i:=q) rfl rfl rfl Try.underlying44 dU (by first|omega|(simp;done)|(simp;omega)) (bf hx1)) rfl ?_
  refine ad aa 3 rfl ?_
  refine af ?_
  refine ag ?_
  refine ck 48 ((((decide (x1.aV < 0))||(decide (x1.aV>=58)))||(decide (x1.sum < (-1000000000000))))||(decide (x1.sum > 1000000000000))) ?_ ?_
  ·
   refine aw ?_
   refine ad aa 4 rfl ?_
   refine bE (t:=34) rfl (fun hb4=>?_) (fun hb4=>?_)
   ·
    have hb4':=of_decide_eq_true hb4
    refine ad aa 14 rfl ?_
    refine af ?_
    exact aH.bA 19 rfl rfl (by first|(simp [hb4];done)|(simp_all;done)|(exfalso;simp_all;done)|(simp_all;omega)) rfl
   have hb4':=of_decide_eq_false hb4
   refine ad aa 5 rfl ?_
   refine bE (t:=39) rfl (fun hb5=>?_) (fun hb5=>?_)
   ·
    have hb5':=of_decide_eq_true hb5
    refine ad aa 9 rfl ?_
    refine af ?_
    exact aH.bA 20 rfl rfl (by first|(simp [hb4,hb5];done)|(simp_all;done)|(exfalso;simp_all;done)|(simp_all;omega)) rfl
   have hb5':=of_decide_eq_false hb5
   refine ad aa 5 rfl ?_
   refine bE (t:=44) rfl (fun hb6=>?_) (fun hb6=>?_)
   ·
    have hb6':=of_decide_eq_true hb6
    refine ad aa 4 rfl ?_
    refine af ?_
    exact aH.bA 21 rfl rfl (by first|(simp [hb4,hb5,hb6];done)|(simp_all;done)|(exfalso;simp_all;done)|(simp_all;omega)) rfl
   have hb6':=of_decide_eq_false hb6
   refine ad aa 4 rfl ?_
   refine af ?_
   exact aH.bA 21 rfl rfl (by first|(simp [hb4,hb5,hb6];done)|(simp_all;done)|(exfalso;simp_all;done)|(simp_all;omega)) rfl
  refine aj rfl (fun hc7=>?_) (fun hc7=>?_)
  ·
   have hc7':=hc7;try simp only [bu,bR] at hc7'
   refine ae aa 2 rfl ?_
   refine ay ?_
   refine ar ?_
   refine bo ?_
   refine ar ?_
   refine ar ?_
   refine bo ?_
   refine ar ?_
   refine da (aH.nil 4 115 2 (by decide) rfl) ?_
   have hX:ia l es=(([]:List Entry),3):=by
     unfold ia;rw [if_neg (by rw [hr0];omega),if_neg (by omega),if_pos ⟨x1,List.mem_of_getElem? hx1,by unfold ft;omega⟩]
   rw [hX] at hr;clear hX
   simp only [Prod.mk.injEq] at hr;obtain ⟨rfl,rfl⟩:=hr
   refine an aa [1] 1 rfl rfl rfl rfl rfl rfl ?_ ?_
   all_goals first|rfl|(simp [az];done)|(simp [az];omega)
  have hc7':=hc7;try simp only [bu,bR] at hc7'
  refine aP ?_
  refine aw ?_
  refine ad aa 3 rfl ?_
  refine aA (aK rfl rfl rfl (aL (by first|omega|(simp;done)|(simp;omega)))) rfl ?_
  refine ad aa 1 rfl ?_
  refine cf ?_
  refine bl ?_
  refine then_ok ?_
  refine aw ?_
  refine aA (aK rfl rfl rfl (aL (by first|omega|(simp;done)|(simp;omega)))) rfl ?_
  refine ad aa 1 rfl ?_
  refine af ?_
  refine ⟨q+1,⟨by omega,xG hi0_1 hx1 (by unfold ft;omega),by rw [jk hx1];omega⟩,by first|omega|(simp;done)|(simp;omega),aH.bS id (by refine ⟨?_,?_,?_,?_,?_,?_,trivial⟩<;>first|rfl|(simp only [bh];done)|(congr 3;omega)|(congr 4;omega)|(simp only [bj];rfl)|(rw [jk hx1];rfl)) (trivial) rfl⟩
 have hc3':=of_decide_eq_false hc3
 refine bZ ?_
 refine aO ?_
 refine aO ?_
 refine bF ?_
 refine then_ok ?_
 refine ag ?_
 refine ae aa 2 rfl ?_
 refine aj rfl (fun hc8=>?_) (fun hc8=>?_)
 ·
  have hc8':=of_decide_eq_true hc8
  refine ae aa 2 rfl ?_
  refine ay ?_
  refine ar ?_
  refine da (aH.nil 4 115 2 (by decide) rfl) ?_
  have hX:ia l es=(([]:List Entry),8):=by
    (have hs:=wi (es:=es) (q:=q) (by omega));(have hnb:=sH hi0_1 (by omega));unfold ia;rw [if_neg (by rw [hr0];omega),if_neg (by omega),if_neg (fun ⟨x,hx,hb⟩=>hnb x hx hb),if_pos (by omega)]
  rw [hX] at hr;clear hX
  simp only [Prod.mk.injEq] at hr;obtain ⟨rfl,rfl⟩:=hr
  refine an aa [0] 1 rfl rfl rfl rfl rfl rfl ?_ ?_
  all_goals first|rfl|(simp [az];done)|(simp [az];omega)
 have hc8':=of_decide_eq_false hc8
 refine aP ?_
 have h0:(fj l).err=0:=by rw [hr0];omega
 have hR:km l:=(xi.1 h0).1
 have hRl:=sw hR
 have hs:=wi (es:=es) (q:=q) (by omega)
 have hnb:=sH hi0_1 (by omega)
 refine aF aa 1 rfl ?_
 refine aQ 1 [0] (bX 0 (tE l (by first|omega|(simp;done)|(simp;omega))) Fp rfl rfl ⟨⟨_,rfl,.c (.d _)⟩,trivial⟩ trivial ⟨(fun _ _ _ _=>trivial),trivial⟩ rfl rfl rfl rfl) rfl ?_
 refine ad aa 1 rfl ?_
 refine af ?_
 refine ag ?_
 refine aF aa 1 rfl ?_
 refine aA (bQ rfl rfl rfl rfl rfl Try.underlying44) rfl ?_
 refine ad aa 1 rfl ?_
 refine af ?_
 refine aU ?_
 refine cj (β:=Nat×List Entry) (fun (p:Nat×List Entry)=>match p with|(p,m)=>⟨[(0,(aC (de l))),(1,(aC (de es))),(7,(aI (fW (es.take q)))),(25,(aC (de es))),(26,(aI (↑es.length:Int))),(27,(aI (↑q:Int))),(10,(aC (.s 0 0 2 m.length))),(58,(aC (de es))),(59,(aI (↑es.length:Int))),(60,(aI (↑p:Int)))],[(0,(lz m))],1⟩) (fun (p:Nat×List Entry)=>match p with|(p,m)=>p<=es.length/\km m/\iB l es=iB m (es.drop p)) (fun (p:Nat×List Entry)=>match p with|(p,m)=>es.length - p) (0,l) ?_ ?_ ?_
 ·exact ⟨by omega,hR,rfl⟩
 ·exact aH.bS id (by refine ⟨?_,?_,?_,?_,?_,?_,?_,?_,?_,?_,trivial⟩<;>first|rfl|(simp only [bh];done)|(congr 3;omega)|(congr 4;omega)|(simp only [bj];rfl)) (⟨by first|rfl|(simp only [bh];done)|(congr 3;omega)|(congr 4;omega)|(simp only [bj];rfl),trivial⟩) rfl
 rintro ⟨p,m⟩ ⟨hi1_0,hi1_1,hi1_2⟩
 refine ae aa 1 rfl ?_
 refine ag ?_
 refine aj rfl (fun hc9=>?_) (fun hc9=>?_)
 ·
  have hc9':=of_decide_eq_true hc9
  refine aP ?_
  refine ag ?_
  refine aU ?_
  refine fa ?_
  obtain ⟨x1,hx1⟩:=cb (xs:=es) (i:=p) (by first|omega|(simp;done)|(simp;omega))
  have hx1n:=hnb x1 (List.mem_of_getElem? hx1)
  have hx1b:0<=x1.aV/\x1.aV<=57/\-1000000000000<=x1.sum/\x1.sum<=1000000000000:=by unfold ft at hx1n;omega
  refine aA (ca (i:=p) rfl rfl rfl Try.underlying44 dU (by first|omega|(simp;done)|(simp;omega)) (bf hx1)) rfl ?_
  refine ad aa 3 rfl ?_
  refine af ?_
  refine aF aa 2 rfl ?_
  obtain ⟨r1,g1,hr1⟩:∃ (r1:List Entry) (g1:Bool),jA m x1=(r1,g1):=⟨_,_,rfl⟩
  obtain ⟨hp1,hg1⟩:=Prod.mk.inj hr1
  refine aQ 3 [2,1] (cK id (bb [2]) (FE m x1 (by exact (show km _ by assumption).up) (by (have:=sw (show km _ by assumption);omega)) (by (intro y hy;have:=(show km _ by assumption).ok y hy;omega)) (by (unfold ft at *;omega)) r1 g1 hr1) Fo rfl rfl ⟨⟨_,rfl,.inl ⟨rfl,rfl⟩⟩,⟨_,rfl,.inr (.g ⟨.d _,.d _,trivial⟩)⟩,trivial⟩ ⟨rfl,trivial⟩ rfl rfl rfl rfl rfl rfl ⟨trivial,trivial,trivial⟩ ⟨(fun _ _ _ _=>trivial),trivial⟩ rfl rfl rfl rfl) rfl ?_
  refine ad aa 5 rfl ?_
  refine af ?_
  refine ag ?_
  refine ae aa 2 rfl ?_
  refine aj rfl (fun hc10=>?_) (fun hc10=>?_)
  ·
   have hc10':=hc10;try simp only [bu,bR] at hc10'
   refine ae aa 2 rfl ?_
   refine ay ?_
   refine ar ?_
   refine bo ?_
   refine ar ?_
   refine ar ?_
   refine bo ?_
   refine ar ?_
   refine da (aH.nil 4 115 2 (by decide) rfl) ?_
   have hX:ia l es=(([]:List Entry),4):=by
     rw [uw h0 (by omega) hnb (by omega),hi1_2,pk hx1,if_neg (by simp_all)]
   rw [hX] at hr;clear hX
   simp only [Prod.mk.injEq] at hr;obtain ⟨rfl,rfl⟩:=hr
   refine an aa [3] 1 rfl rfl rfl rfl rfl rfl ?_ ?_
   all_goals first|rfl|(simp [az];done)|(simp [az];omega)
  have hc10':=hc10;try simp only [bu,bR] at hc10'
  refine aP ?_
  refine aw ?_
  refine ad aa 2 rfl ?_
  refine cf ?_
  refine bl ?_
  refine then_ok ?_
  refine aw ?_
  refine aA (aK rfl rfl rfl (aL (by first|omega|(simp;done)|(simp;omega)))) rfl ?_
  refine ad aa 1 rfl ?_
  refine af ?_
  refine ⟨(p+1,r1),⟨by omega,by rw [<-hp1];exact xv hi1_1 (by omega) (zv.1 (by rw [hg1];simp_all)),by rw [hi1_2,pk hx1,if_pos (by rw [hg1];simp_all),hp1]⟩,by first|omega|(simp;done)|(simp;omega),aH.bS (fun k=>if k=0 then 2 else k) (by refine ⟨?_,?_,?_,?_,?_,?_,?_,?_,?_,?_,trivial⟩<;>first|rfl|(simp only [bh];done)|(congr 3;omega)|(congr 4;omega)|(simp only [bj];rfl)) (⟨by first|rfl|(simp only [bh];done)|(congr 3;omega)|(congr 4;omega)|(simp only [bj];rfl),trivial⟩) rfl⟩
 have hc9':=of_decide_eq_false hc9
 refine bZ ?_
 refine aO ?_
 refine aO ?_
 refine bF ?_
 refine then_ok ?_
 refine ae aa 3 rfl ?_
 refine ay ?_
 have hX:ia l es=(m,0):=by
   rw [uw h0 (by omega) hnb (by omega),Cs hi1_2 (by omega)]
 rw [hX] at hr;clear hX
 simp only [Prod.mk.injEq] at hr;obtain ⟨rfl,rfl⟩:=hr
 refine an aa [0] 1 rfl rfl rfl rfl rfl rfl ?_ ?_
 all_goals first|rfl|(simp [az];done)|(simp [az];omega)


def jE (l:List Entry) (src dst n:Int):List Entry×Int:=if n < 0\/n > 1000000000000 then ([],3) else ia l [⟨src,0 - n⟩,⟨dst,n⟩]
theorem wa (l:List Entry) (src dst n:Int) (r:List Entry) (e:Int) (hr:jE l src dst n=(r,e)):Fn Try.prog 98 [(.c (de l)),(.c (cI src)),(.c (cI dst)),(.c (cI n))] (.t [(.c (.s 0 0 2 r.length)),(.c (cI e))]) [(0,(lz r))]:=by
 refine Fn.mk' 28 [(0,(aC (de l))),(1,(aI src)),(2,(aI dst)),(3,(aI n))] Try.func98 rfl rfl rfl rfl ?_
 intro W0 T0
 refine dj 0 rfl (fun hlen0=>?_)
 refine ae aa 2 rfl ?_
 refine ag ?_
 refine ck 15 ((decide (n < 0))||(decide (n > 1000000000000))) ?_ ?_
 ·
  refine aw ?_
  refine ad aa 3 rfl ?_
  refine bE (t:=12) rfl (fun hb1=>?_) (fun hb1=>?_)
  ·
   have hb1':=of_decide_eq_true hb1
   refine ad aa 3 rfl ?_
   refine af ?_
   exact aH.bA 7 rfl rfl (by first|(simp [hb1];done)|(simp_all;done)|(exfalso;simp_all;done)|(simp_all;omega)) rfl
  have hb1':=of_decide_eq_false hb1
  refine ad aa 3 rfl ?_
  refine af ?_
  exact aH.bA 7 rfl rfl (by first|(simp [hb1];done)|(simp_all;done)|(exfalso;simp_all;done)|(simp_all;omega)) rfl
 refine aj rfl (fun hc2=>?_) (fun hc2=>?_)
 ·
  have hc2':=hc2;try simp only [bu,bR] at hc2'
  refine ae aa 2 rfl ?_
  refine ay ?_
  refine ar ?_
  refine da (aH.nil 8 115 2 (by decide) rfl) ?_
  have hX:jE l src dst n=(([]:List Entry),3):=by
    unfold jE;rw [if_pos (by omega)]
  rw [hX] at hr;clear hX
  simp only [Prod.mk.injEq] at hr;obtain ⟨rfl,rfl⟩:=hr
  refine an aa [0] 1 rfl rfl rfl rfl rfl rfl ?_ ?_
  all_goals first|rfl|(simp [az];done)|(simp [az];omega)
 have hc2':=hc2;try simp only [bu,bR] at hc2'
 refine aP ?_
 refine aF aa 3 rfl ?_
 refine aA (qS rfl rfl (aL (by first|omega|(simp;done)|(simp;omega)))) rfl ?_
 refine ad aa 4 rfl ?_
 refine aQ 1 [0] (dW (ys:=[(0,(.g [(cI src),(cI (0 - n))])),(1,(.g [(cI dst),(cI n)]))]) (rows:=([(⟨src,0 - n⟩:Entry),(⟨dst,n⟩:Entry)]).map ez) 0 jR rfl (by decide) ⟨⟨rfl,rfl⟩,⟨rfl,rfl⟩,trivial⟩ rfl rfl rfl rfl) rfl ?_
 obtain ⟨r0,e0,hr0⟩:∃ (r0:List Entry) (e0:Int),ia l ([(⟨src,0 - n⟩:Entry),(⟨dst,n⟩:Entry)])=(r0,e0):=⟨_,_,rfl⟩
 refine aQ 2 [1,0] (fP 1 [0] (vZ l ([(⟨src,0 - n⟩:Entry),(⟨dst,n⟩:Entry)]) r0 e0 hr0) Fs rfl rfl ⟨⟨_,rfl,.c (.d _)⟩,⟨_,rfl,.c (.s rfl (by decide) (by first|omega|(simp;done)|(simp;omega)))⟩,trivial⟩ ⟨trivial,rfl,trivial⟩ ⟨(xL _),trivial⟩ rfl rfl rfl rfl) rfl ?_
 refine ad aa 4 rfl ?_
 refine af ?_
 refine ay ?_
 have hX:jE l src dst n=(r0,e0):=by
   unfold jE;rw [if_neg (by omega)];assumption
 rw [hX] at hr;clear hX
 simp only [Prod.mk.injEq] at hr;obtain ⟨rfl,rfl⟩:=hr
 refine an aa [1] 1 rfl rfl rfl rfl rfl rfl ?_ ?_
 all_goals first|rfl|(simp [az];done)|(simp [az];omega)
theorem jm {α:Type}:∀ l:List α,l=[]\/∃ A y,l=A++[y]
 |[]=>.inl rfl
 |x::l=>.inr (by
  rcases jm l with rfl|⟨A,y,rfl⟩
  ·exact ⟨[],x,rfl⟩
  ·exact ⟨x::A,y,rfl⟩)
def gq (a b:al):Bool:=decide (a.aD < b.aD)||(decide (a.aD=b.aD) && decide (a.aZ < b.aZ))
def fO (a b:al):Prop:=a.aD < b.aD\/(a.aD=b.aD/\a.aZ<=b.aZ)
def jx (a b:al):Bool:=decide (a.aD=b.aD) && decide (a.aZ=b.aZ)
def eW (l:List al):Prop:=l.Pairwise fO
def Same (u v:List al):Prop:=∀ k:al,u.filter (jx k)=v.filter (jx k)
theorem qI {a b:al}:gq a b=true↔(a.aD < b.aD\/(a.aD=b.aD/\a.aZ < b.aZ)):=by unfold gq;simp
theorem qJ {a b:al}:gq a b=false↔fO b a:=by
 unfold gq fO
 rw [Bool.or_eq_false_iff,decide_eq_false_iff_not,Bool.and_eq_false_iff,decide_eq_false_iff_not,decide_eq_false_iff_not]
 omega
theorem kz {a b:al} (h:gq a b=true):fO a b:=by rw [qI] at h;unfold fO;omega
theorem mY (a:al):fO a a:=by unfold fO;omega
theorem ky {a b c:al} (h:fO a b) (h':fO b c):fO a c:=by unfold fO at *;omega
theorem uE {a b c:al} (h:gq a b=true) (h':fO b c):gq a c=true:=by rw [qI] at *;unfold fO at *;omega
theorem zh {a b c:al} (h:fO a b) (h':gq b c=true):gq a c=true:=by rw [qI] at *;unfold fO at *;omega
theorem oG {a b:al}:jx a b=true↔(a.aD=b.aD/\a.aZ=b.aZ):=by unfold jx;simp
theorem kT (a:al):jx a a=true:=by rw [oG];exact ⟨rfl,rfl⟩
theorem Same.refl (u:List al):Same u u:=fun _=>rfl
theorem Same.symm {u v:List al} (h:Same u v):Same v u:=fun k=>(h k).symm
theorem Same.trans {u v z:List al} (h:Same u v) (h':Same v z):Same u z:=fun k=>(h k).trans (h' k)
theorem Same.app {u v u' v':List al} (h:Same u u') (h':Same v v'):Same (u++v) (u'++v'):=fun k=>by rw [List.filter_append,List.filter_append,h k,h' k]
theorem Same.mem {u v:List al} (h:Same u v) {x:al}:x∈u↔x∈v:=by
 have h1:∀ l:List al,x∈l.filter (jx x)↔x∈l:=fun l=>by simp [kT]
 rw [<-h1 u,<-h1 v,h x]
theorem Same.perm {u v:List al} (h:Same u v):u.Perm v:=by
 rw [List.perm_iff_count]
 intro x
 rw [<-List.count_filter (p:=jx x) (l:=u) (kT x),<-List.count_filter (p:=jx x) (l:=v) (kT x),h x]
theorem Same.len {u v:List al} (h:Same u v):u.length=v.length:=h.perm.length_eq
theorem Same.comm {u v:List al} (h:∀ x∈u,∀ y∈v,gq y x=true):Same (u++v) (v++u):=fun k=>by
 rw [List.filter_append,List.filter_append]
 by_cases hu:u.filter (jx k)=[]
 ·rw [hu];simp
 ·by_cases hv:v.filter (jx k)=[]
  ·rw [hv];simp
  ·exfalso
   obtain ⟨x,hx⟩:=List.exists_mem_of_ne_nil _ hu
   obtain ⟨y,hy⟩:=List.exists_mem_of_ne_nil _ hv
   rw [List.mem_filter] at hx hy
   have h1:=h x hx.1 y hy.1
   have h2:=oG.1 hx.2
   have h3:=oG.1 hy.2
   rw [qI] at h1
   omega
theorem eW.uniq:∀ {u v:List al},eW u->eW v->Same u v->u=v
 |[],v,_,_,h=>by have:=h.len;exact (List.eq_nil_of_length_eq_zero this.symm).symm
 |x::u,[],_,_,h=>by have:=h.len;cases this
 |x::u,y::v,hu,hv,h=>by
  obtain ⟨hu1,hu2⟩:=List.pairwise_cons.1 hu
  obtain ⟨hv1,hv2⟩:=List.pairwise_cons.1 hv
  have h1:fO x y:=by
   rcases List.mem_cons.1 (h.mem.2 (List.mem_cons_self (a:=y) (l:=v))) with rfl|hm
   ·exact mY _
   ·exact hu1 y hm
  have h2:fO y x:=by
   rcases List.mem_cons.1 (h.mem.1 (List.mem_cons_self (a:=x) (l:=u))) with rfl|hm
   ·exact mY _
   ·exact hv1 x hm
  have h3:jx x y=true:=by rw [oG];unfold fO at h1 h2;omega
  have h4:=h x
  rw [List.filter_cons,List.filter_cons,if_pos (kT x),if_pos h3] at h4
  obtain ⟨rfl,_⟩:=List.cons.inj h4
  have h5:Same u v:=fun k=>by
   have:=h k
   rw [List.filter_cons,List.filter_cons] at this
   split at this
   ·exact (List.cons.inj this).2
   ·exact this
  rw [eW.uniq hu2 hv2 h5]

def gP (d:List al) (i j:Nat):List al:=
 match d[i]?,d[j]? with
 |some x,some y=>(d.set i y).set j x
 |_,_=>d
theorem lh {d:List al} {i j:Nat} {x y:al} (hx:d[i]?=some x) (hy:d[j]?=some y):gP d i j=(d.set i y).set j x:=by unfold gP;rw [hx,hy]
theorem lG (d:List al) (i j:Nat):(gP d i j).length=d.length:=by
 unfold gP;split<;>simp
theorem nH (s t u:List al) (x y:al) {i j:Nat} (hi:i=s.length) (hj:j=s.length+1+t.length):gP (s++x::(t++y::u)) i j=s++y::(t++x::u):=by
 subst hi hj
 have h1:(s++x::(t++y::u))[s.length]?=some x:=by simp
 have h2:(s++x::(t++y::u))[s.length+1+t.length]?=some y:=by
  rw [List.getElem?_append_right (by omega),show s.length+1+t.length - s.length=t.length+1 by omega,List.getElem?_cons_succ];simp
 rw [lh h1 h2,List.set_append_right _ _ (Nat.le_refl _),Nat.sub_self,List.set_cons_zero,List.set_append_right _ _ (by omega),show s.length+1+t.length - s.length=t.length+1 by omega,
  List.set_cons_succ,List.set_append_right _ _ (Nat.le_refl _),Nat.sub_self,List.set_cons_zero]
theorem xm (d:List al) (i j:Nat):gP d i j=gP d j i:=by
 by_cases hij:i=j
 ·subst hij;rfl
 ·unfold gP
  cases hx:d[i]? with
  |none=>cases hy:d[j]?<;>rfl
  |some x=>
   cases hy:d[j]? with
   |none=>rfl
   |some y=>exact List.set_comm _ _ hij
theorem qz (s t u:List al) (x y:al) {i j:Nat} (hi:i=s.length) (hj:j=s.length+1+t.length):gP (s++x::(t++y::u)) j i=s++y::(t++x::u):=by rw [xm];exact nH s t u x y hi hj

structure Part (d y:List al) (a b:Nat):Prop where
 len:y.length=d.length
 l:y.take a=d.take a
 r:y.drop b=d.drop b
 s:eW ((y.drop a).take (b - a))
 m:Same d y
theorem Part.of {P X C R:List al} {a b:Nat} (ha:P.length=a) (hb:b=a+X.length) (hs:eW C) (hm:Same X C):Part (P++X++R) (P++C++R) a b:=by
 subst ha hb
 have hl:=hm.len
 refine ⟨by simp [hl],by simp,?_,?_,((Same.refl P).app hm).app (Same.refl R)⟩
 ·have h1:∀ Z:List al,Z.length=X.length->(P++Z++R).drop (P.length+X.length)=R:=fun Z hz=>by
   rw [<-hz,<-List.length_append,List.drop_left]
  rw [h1 C hl.symm,h1 X rfl]
 ·rw [List.append_assoc,List.drop_left,show P.length+X.length - P.length=C.length by omega,List.take_left];exact hs
theorem parts {d:List al} {a b:Nat} (h:a<=b) (hb:b<=d.length):d=d.take a++(d.drop a).take (b - a)++d.drop b:=by
 have h1:d.drop b=(d.drop a).drop (b - a):=by rw [List.drop_drop];congr 1;omega
 rw [h1,List.append_assoc,List.take_append_drop,List.take_append_drop]

def jg (a:Nat):Nat->List al->List al
 |0,d=>d
 |j+1,d=>
  if a < j+1 then
   match d[j+1]?,d[j]? with
   |some x,some y=>if gq x y=true then jg a j (gP d (j+1) j) else d
   |_,_=>d
  else d
theorem pX {a j:Nat} {d:List al} (h:¬a < j):jg a j d=d:=by
 cases j with
 |zero=>rfl
 |succ j=>unfold jg;rw [if_neg h]
theorem nZ {a j:Nat} {d:List al} {x y:al} (hx:d[j]?=some x) (hy:d[j - 1]?=some y) (h:gq x y=false):jg a j d=d:=by
 cases j with
 |zero=>rfl
 |succ j=>
  unfold jg
  split
  ·rw [hx,show d[j]?=some y from hy];simp [h]
  ·rfl
theorem wR {a j:Nat} {d:List al} {x y:al} (ha:a < j) (hx:d[j]?=some x) (hy:d[j - 1]?=some y) (h:gq x y=true):jg a j d=jg a (j - 1) (gP d j (j - 1)):=by
 cases j with
 |zero=>omega
 |succ j=>
  conv=>lhs;unfold jg
  rw [if_pos ha,hx,show d[j]?=some y from hy]
  simp only [h,if_true]
  rfl
theorem uL (a:Nat):∀ (j:Nat) (d:List al),(jg a j d).length=d.length
 |0,d=>rfl
 |j+1,d=>by
  unfold jg
  split
  ·split
   ·split
    ·rw [uL a j,lG]
    ·rfl
   ·rfl
  ·rfl
theorem uM (P:List al) (x:al):∀ (n:Nat) (A R:List al),A.length=n->∃ A1 A2,A=A1++A2/\jg P.length (P.length+n) (P++A++x::R)=P++(A1++x::A2)++R/\(∀ y∈A2,gq x y=true)/\(∀ A0 y,A1=A0++[y]->fO y x)
 |0,A,R,hA=>by
  obtain rfl:=List.eq_nil_of_length_eq_zero hA
  refine ⟨[],[],rfl,?_,by simp,by simp⟩
  rw [pX (by omega)];simp
 |n+1,A,R,hA=>by
  obtain ⟨A',y,rfl⟩:∃ A' y,A=A'++[y]:=by
   rcases jm A with rfl|h
   ·cases hA
   ·exact h
  have hn:A'.length=n:=by simpa using hA
  have e1:P++(A'++[y])++x::R=(P++A')++y::([]++x::R):=by simp
  have h1:(P++(A'++[y])++x::R)[P.length+(n+1)]?=some x:=by
   rw [List.getElem?_append_right (by simp;omega),show P.length+(n+1) - (P++(A'++[y])).length=0 by simp;omega];rfl
  have h2:(P++(A'++[y])++x::R)[P.length+(n+1) - 1]?=some y:=by
   rw [e1,List.getElem?_append_right (by simp;omega),show P.length+(n+1) - 1 - (P++A').length=0 by simp;omega];rfl
  cases hc:gq x y with
  |true=>
   rw [wR (by omega) h1 h2 hc,show P.length+(n+1) - 1=P.length+n by omega,e1,qz (P++A') [] R y x (by simp;omega) (by simp;omega)]
   obtain ⟨A1,A2,rfl,h3,h4,h5⟩:=uM P x n A' (y::R) hn
   refine ⟨A1,A2++[y],by simp,?_,?_,h5⟩
   ·rw [List.nil_append,h3];simp
   ·intro z hz
    rcases List.mem_append.1 hz with hz|hz
    ·exact h4 z hz
    ·rw [List.mem_singleton.1 hz];exact hc
  |false=>
   rw [nZ h1 h2 hc]
   refine ⟨A'++[y],[],by simp,by simp,by simp,fun A0 z hz=>?_⟩
   obtain ⟨_,h⟩:=List.append_inj' hz rfl
   rw [<-List.cons.inj h|>.1]
   exact qJ.1 hc
theorem gu {u v:List al}:eW (u++v)↔eW u/\eW v/\∀ x∈u,∀ y∈v,fO x y:=List.pairwise_append
theorem tY {u:List al} {y x:al} (h:eW (u++[y])) (hx:fO y x):∀ z∈u++[y],fO z x:=fun z hz=>by
 rcases List.mem_append.1 hz with hz|hz
 ·exact ky ((gu.1 h).2.2 z hz y (List.mem_singleton.2 rfl)) hx
 ·rw [List.mem_singleton.1 hz];exact hx
theorem zi {u:List al} {x:al} (h:eW u) (hl:∀ A0 y,u=A0++[y]->fO y x):∀ z∈u,fO z x:=by
 rcases jm u with rfl|⟨A',y,h'⟩
 ·simp
 ·rw [h'] at h ⊢;exact tY h (hl A' y h')
theorem zd {A1 A2:List al} {x:al} (h:eW (A1++A2)) (h1:∀ z∈A1,fO z x) (h2:∀ z∈A2,gq x z=true):eW (A1++x::A2)/\Same (A1++A2++[x]) (A1++x::A2):=by
 obtain ⟨s1,s2,s3⟩:=gu.1 h
 refine ⟨gu.2 ⟨s1,List.pairwise_cons.2 ⟨fun y hy=>kz (h2 y hy),s2⟩,fun z hz y hy=>?_⟩,?_⟩
 ·rcases List.mem_cons.1 hy with rfl|hy
  ·exact h1 z hz
  ·exact s3 z hz y hy
 ·have:=(Same.refl A1).app (Same.comm (u:=A2) (v:=[x]) fun y hy z hz=>by rw [List.mem_singleton.1 hz];exact h2 y hy)
  simpa using this
theorem Cx {B1 B2:List al} {x:al} (h:eW (B1++B2)) (h1:∀ z∈B1,gq z x=true) (h2:∀ z∈B2,fO x z):eW (B1++x::B2)/\Same (x::(B1++B2)) (B1++x::B2):=by
 obtain ⟨s1,s2,s3⟩:=gu.1 h
 refine ⟨gu.2 ⟨s1,List.pairwise_cons.2 ⟨h2,s2⟩,fun z hz y hy=>?_⟩,?_⟩
 ·rcases List.mem_cons.1 hy with rfl|hy
  ·exact kz (h1 z hz)
  ·exact s3 z hz y hy
 ·have:=(Same.comm (u:=[x]) (v:=B1) fun y hy z hz=>by rw [List.mem_singleton.1 hy];exact h1 z hz).app (Same.refl B2)
  simpa using this
def iS (a:Nat):Nat->List al->List al
 |0,d=>d
 |n+1,d=>jg a (a+1+n) (iS a n d)
theorem pW (a:Nat):∀ (n:Nat) (d:List al),(iS a n d).length=d.length
 |0,_=>rfl
 |n+1,d=>by unfold iS;rw [uL,pW a n]
theorem uI (P X R:List al):∀ n,n < X.length->∃ C,iS P.length n (P++X++R)=P++C++X.drop (n+1)++R/\eW C/\Same (X.take (n+1)) C
 |0,h=>by
  refine ⟨X.take 1,?_,?_,Same.refl _⟩
  ·unfold iS;rw [List.append_assoc P (X.take 1),List.take_append_drop]
  ·cases X with
   |nil=>cases h
   |cons x X=>exact List.pairwise_singleton _ _
 |n+1,h=>by
  obtain ⟨C,h1,h2,h3⟩:=uI P X R n (by omega)
  have hl:C.length=n+1:=by rw [<-h3.len,List.length_take];omega
  have e1:X.drop (n+1)=X[n+1]::X.drop (n+2):=List.drop_eq_getElem_cons h
  obtain ⟨A1,A2,rfl,h4,h5,h6⟩:=uM P X[n+1] (n+1) C (X.drop (n+2)++R) hl
  have h7:eW A1:=(gu.1 h2).1
  obtain ⟨h8,h9⟩:=zd h2 (zi h7 h6) h5
  refine ⟨A1++X[n+1]::A2,?_,h8,?_⟩
  ·unfold iS
   rw [h1,show P.length+1+n=P.length+(n+1) by omega,show P++(A1++A2)++X.drop (n+1)++R=P++(A1++A2)++X[n+1]::(X.drop (n+2)++R) by rw [List.append_assoc _ _ R,e1,List.cons_append],h4]
   simp
  ·rw [List.take_add_one,List.getElem?_eq_getElem h]
   exact (h3.app (Same.refl _)).trans h9
theorem sQ {d:List al} {a b:Nat} (h:a<=b) (hb:b<=d.length):Part d (iS a (b - (a+1)) d) a b:=by
 by_cases hab:a=b
 ·subst hab
  rw [show a - (a+1)=0 by omega]
  exact ⟨rfl,rfl,rfl,by rw [Nat.sub_self];exact List.Pairwise.nil,Same.refl _⟩
 ·have e:=parts h hb
  have h1:(d.take a).length=a:=by rw [List.length_take];omega
  have h2:((d.drop a).take (b - a)).length=b - a:=by rw [List.length_take,List.length_drop];omega
  obtain ⟨C,h3,h4,h5⟩:=uI (d.take a) ((d.drop a).take (b - a)) (d.drop b) (b - (a+1)) (by omega)
  rw [h1] at h3
  rw [<-e,List.drop_of_length_le (l:=(d.drop a).take (b - a)) (by omega),List.append_nil] at h3
  rw [List.take_of_length_le (l:=(d.drop a).take (b - a)) (by omega)] at h5
  have:=Part.of (P:=d.take a) (R:=d.drop b) (a:=a) (b:=b) h1 (by omega) h4 h5
  rwa [<-e,<-h3] at this

def dv (d:List al) (i j:Nat):Bool:=
 match d[i]?,d[j]? with
 |some x,some y=>gq x y
 |_,_=>false
theorem fN {d:List al} {i j:Nat} {x y:al} (hx:d[i]?=some x) (hy:d[j]?=some y):dv d i j=gq x y:=by unfold dv;rw [hx,hy]
def fG (p:Nat->Bool) (i j:Nat):Nat:=
 if _h:i < j then if p ((i+j) / 2)=true then fG p ((i+j) / 2+1) j else fG p i ((i+j) / 2) else i
termination_by j - i
theorem eI {p:Nat->Bool} {i j:Nat} (h:¬i < j):fG p i j=i:=by rw [fG,dif_neg h]
theorem Ch {p:Nat->Bool} {i j:Nat} (h:i < j) (hp:p ((i+j) / 2)=true):fG p i j=fG p ((i+j) / 2+1) j:=by rw [fG,dif_pos h,if_pos hp]
theorem Ci {p:Nat->Bool} {i j:Nat} (h:i < j) (hp:p ((i+j) / 2)=false):fG p i j=fG p i ((i+j) / 2):=by rw [fG,dif_pos h,if_neg (by rw [hp];exact Bool.false_ne_true)]
theorem kf (p:Nat->Bool):∀ (n i j:Nat),j - i<=n->i<=j->i<=fG p i j/\fG p i j<=j/\(fG p i j=i\/p (fG p i j - 1)=true)/\(fG p i j=j\/p (fG p i j)=false)
 |0,i,j,hn,h=>by rw [eI (by omega)];exact ⟨Nat.le_refl _,h,.inl rfl,.inl (by omega)⟩
 |n+1,i,j,hn,h=>by
  by_cases hij:i < j
  ·cases hp:p ((i+j) / 2) with
   |true=>
    rw [Ch hij hp]
    obtain ⟨h1,h2,h3,h4⟩:=kf p n ((i+j) / 2+1) j (by omega) (by omega)
    refine ⟨by omega,h2,?_,h4⟩
    rcases h3 with h3|h3
    ·right;rw [h3,Nat.add_sub_cancel];exact hp
    ·exact .inr h3
   |false=>
    rw [Ci hij hp]
    obtain ⟨h1,h2,h3,h4⟩:=kf p n i ((i+j) / 2) (by omega) (by omega)
    refine ⟨h1,by omega,h3,?_⟩
    rcases h4 with h4|h4
    ·right;rw [h4];exact hp
    ·exact .inr h4
  ·rw [eI hij];exact ⟨Nat.le_refl _,h,.inl rfl,.inl (by omega)⟩
def nw (a:Nat):Nat->List al->List al
 |0,d=>d
 |n+1,d=>gP (nw a n d) (a+n) (a+n+1)
def ny (m:Nat):Nat->List al->List al
 |0,d=>d
 |n+1,d=>gP (ny m n d) (m - n) (m - n - 1)
theorem wM (a:Nat):∀ (n:Nat) (d:List al),(nw a n d).length=d.length
 |0,_=>rfl
 |n+1,d=>by unfold nw;rw [lG,wM a n]
theorem wO (m:Nat):∀ (n:Nat) (d:List al),(ny m n d).length=d.length
 |0,_=>rfl
 |n+1,d=>by unfold ny;rw [lG,wO m n]
theorem wN (P:List al) (x:al):∀ (n:Nat) (V R:List al),V.length=n->nw P.length n (P++x::(V++R))=P++V++x::R
 |0,V,R,h=>by obtain rfl:=List.eq_nil_of_length_eq_zero h;simp [nw]
 |n+1,V,R,h=>by
  rcases jm V with rfl|⟨V',y,rfl⟩
  ·cases h
  ·have hn:V'.length=n:=by simpa using h
   unfold nw
   rw [show P++x::(V'++[y]++R)=P++x::(V'++(y::R)) by simp,wN P x n V' (y::R) hn]
   have:=nH (P++V') [] R x y (i:=P.length+n) (j:=P.length+n+1) (by simp;omega) (by simp;omega)
   rw [List.nil_append,List.nil_append] at this
   rw [this];simp
theorem wP (P:List al) (x:al) (R:List al):∀ (n:Nat) (U1 U2:List al),U2.length=n->ny (P++U1++U2).length n (P++U1++U2++x::R)=P++U1++x::(U2++R)
 |0,U1,U2,h=>by obtain rfl:=List.eq_nil_of_length_eq_zero h;simp [ny]
 |n+1,U1,U2,h=>by
  cases U2 with
  |nil=>cases h
  |cons y U=>
   have hn:U.length=n:=by simpa using h
   unfold ny
   have e1:P++U1++y::U=P++(U1++[y])++U:=by simp
   rw [e1,wP P x R n (U1++[y]) U hn]
   have:=qz (P++U1) [] (U++R) y x (i:=(P++(U1++[y])++U).length - n - 1) (j:=(P++(U1++[y])++U).length - n) (by simp;omega) (by simp;omega)
   rw [List.nil_append,List.nil_append] at this
   rw [show P++(U1++[y])++x::(U++R)=P++U1++y::x::(U++R) by simp,this]
   simp
def fV (a b:Nat):Nat->List al->List al
 |0,d=>d
 |n+1,d=>gP (fV a b n d) (a+n) (b+n)
theorem iz (a b:Nat):∀ (n:Nat) (d:List al),(fV a b n d).length=d.length
 |0,_=>rfl
 |n+1,d=>by unfold fV;rw [lG,iz a b n]
theorem lF (p:List al):∀ (n:Nat) (x q y r:List al) {b:Nat},x.length=n->y.length=n->b=p.length+n+q.length->fV p.length b n (p++(x++(q++(y++r))))=p++(y++(q++(x++r)))
 |0,x,q,y,r,b,hx,hy,_=>by obtain rfl:=List.eq_nil_of_length_eq_zero hx;obtain rfl:=List.eq_nil_of_length_eq_zero hy;rfl
 |n+1,x,q,y,r,b,hx,hy,hb=>by
  rcases jm x with rfl|⟨x',x1,rfl⟩
  ·cases hx
  rcases jm y with rfl|⟨y',y1,rfl⟩
  ·cases hy
  have h1:x'.length=n:=by simpa using hx
  have h2:y'.length=n:=by simpa using hy
  unfold fV
  have:=lF p n x' (x1::q) y' (y1::r) (b:=b) h1 h2 (by simp;omega)
  rw [show p++(x'++[x1]++(q++(y'++[y1]++r)))=p++(x'++(x1::q++(y'++y1::r))) by simp,this]
  have:=nH (p++y') (q++x') r x1 y1 (i:=p.length+n) (j:=b+n) (by simp;omega) (by simp;omega)
  rw [show p++(y'++(x1::q++(x'++y1::r)))=p++y'++x1::(q++x'++y1::r) by simp,this]
  simp
def iO (m:Nat) (i j:Nat) (d:List al):List al:=
 if _h:0 < i/\0 < j then
  if i=j then fV (m - i) m i d
  else if i > j then iO m (i - j) j (fV (m - i) m j d)
  else iO m i (j - i) (fV (m - i) (m+j - i) i d)
 else d
termination_by i+j
theorem yR {m i:Nat} {d:List al} (hi:0 < i):iO m i i d=fV (m - i) m i d:=by rw [iO,dif_pos ⟨hi,hi⟩,if_pos rfl]
theorem yQ {m i j:Nat} {d:List al} (hj:0 < j) (h:i > j):iO m i j d=iO m (i - j) j (fV (m - i) m j d):=by rw [iO,dif_pos ⟨by omega,hj⟩,if_neg (by omega),if_pos h]
theorem yP {m i j:Nat} {d:List al} (hi:0 < i) (h:i < j):iO m i j d=iO m i (j - i) (fV (m - i) (m+j - i) i d):=by rw [iO,dif_pos ⟨hi,by omega⟩,if_neg (by omega),if_neg (by omega)]
theorem rz:∀ (n:Nat) (P u v R:List al) (m:Nat),u.length+v.length<=n->0 < u.length->0 < v.length->m=P.length+u.length->iO m u.length v.length (P++(u++(v++R)))=P++(v++(u++R))
 |0,P,u,v,R,m,hn,hu,hv,hm=>by omega
 |n+1,P,u,v,R,m,hn,hu,hv,hm=>by
  rcases Nat.lt_trichotomy u.length v.length with h|h|h
  ·rw [yP hu h]
   have e:v=v.take (v.length - u.length)++v.drop (v.length - u.length):=(List.take_append_drop _ _).symm
   have l1:(v.take (v.length - u.length)).length=v.length - u.length:=by rw [List.length_take];omega
   have l2:(v.drop (v.length - u.length)).length=u.length:=by rw [List.length_drop];omega
   generalize hv1:v.take (v.length - u.length)=v1 at e l1
   generalize hv2:v.drop (v.length - u.length)=v2 at e l2
   have h1:=lF P u.length u v1 v2 R (b:=m+v.length - u.length) rfl l2 (by omega)
   rw [show m - u.length=P.length by omega,show P++(u++(v++R))=P++(u++(v1++(v2++R))) by rw [e];simp,h1,<-l1]
   have h2:=rz n P v2 v1 (u++R) m (by omega) (by omega) (by omega) (by omega)
   rw [l2] at h2
   rw [h2,e];simp
  ·rw [<-h,yR hu,show m - u.length=P.length by omega]
   have h1:=lF P u.length u [] v R (b:=m) rfl h.symm (by simp;omega)
   simpa using h1
  ·rw [yQ hv h]
   have e:u=u.take v.length++u.drop v.length:=(List.take_append_drop _ _).symm
   have l1:(u.take v.length).length=v.length:=by rw [List.length_take];omega
   have l2:(u.drop v.length).length=u.length - v.length:=by rw [List.length_drop]
   generalize hv1:u.take v.length=u1 at e l1
   generalize hv2:u.drop v.length=u2 at e l2
   have h1:=lF P v.length u1 u2 v R (b:=m) l1 rfl (by omega)
   rw [show m - u.length=P.length by omega,show P++(u++(v++R))=P++(u1++(u2++(v++R))) by rw [e];simp,h1,<-l2]
   have h2:=rz n (P++v) u2 u1 R m (by omega) (by omega) (by omega) (by simp;omega)
   rw [l1] at h2
   rw [show P++(v++(u2++(u1++R)))=P++v++(u2++(u1++R)) by simp,h2,e];simp
theorem mq:∀ (n m i j:Nat) (d:List al),i+j<=n->(iO m i j d).length=d.length
 |0,m,i,j,d,h=>by rw [iO,dif_neg (by omega)]
 |n+1,m,i,j,d,h=>by
  rw [iO]
  split
  ·split
   ·rw [iz]
   ·split
    ·rw [mq n _ _ _ _ (by omega),iz]
    ·rw [mq n _ _ _ _ (by omega),iz]
  ·rfl
def ed (d:List al) (a m b:Nat):Nat:=
 if m > (a+b) / 2 then fG (fun c=>!dv d ((a+b) / 2+m - 1 - c) c) ((a+b) / 2+m - b) ((a+b) / 2)
 else fG (fun c=>!dv d ((a+b) / 2+m - 1 - c) c) a m
def eV (s m e:Nat) (d:List al):List al:=if s < m/\m < e then iO m (m - s) (e - m) d else d
def dy:Nat->Nat->Nat->Nat->List al->List al
 |0,_,_,_,d=>d
 |f+1,a,m,b,d=>
  if m - a=1 then nw a (fG (fun h=>dv d h a) m b - 1 - a) d
  else if b - m=1 then ny m (m - fG (fun h=>!dv d m h) a m) d
  else
   (fun s=>(fun e=>(fun d1=>(fun d2=>if (a+b) / 2 < e/\e < b then dy f ((a+b) / 2) e b d2 else d2)
    (if a < s/\s < (a+b) / 2 then dy f a s ((a+b) / 2) d1 else d1)) (eV s m e d)) ((a+b) / 2+m - s)) (ed d a m b)
theorem kS (s m e:Nat) (d:List al):(eV s m e d).length=d.length:=by unfold eV;split;exact mq _ _ _ _ _ (Nat.le_refl _);rfl
theorem eJ:∀ (f a m b:Nat) (d:List al),(dy f a m b d).length=d.length
 |0,_,_,_,_=>rfl
 |f+1,a,m,b,d=>by
  unfold dy
  split
  ·rw [wM]
  ·split
   ·rw [wO]
   ·dsimp only
    split
    ·rw [eJ f]
     split
     ·rw [eJ f,kS]
     ·rw [kS]
    ·split
     ·rw [eJ f,kS]
     ·rw [kS]
end Go.Proofs.Ytegepioggeggaaa.Dev
