/- A part of the proof: Book4, PlBook, Com, Book5, Book7, Book9, PlSort. No condition. -/
import Derived.Test.YtegepioggeggaaaD05
set_option linter.unusedVariables false
set_option linter.unusedSimpArgs false
set_option maxHeartbeats 2000000
set_option maxRecDepth 100000
namespace Go.Proofs.Ytegepioggeggaaa.Dev
open Go.RowKit


theorem yA (l:List Entry) (t:Int) (fn:FuncId) (bj:List (List D)) (hp:∀ x:Entry,Fn Try.prog fn ([.g [cI x.aV,cI x.sum],.c (cI t)]++bj.map fun r=>GV.c (.q r 0)) (aI (ei x.aV t)) []) (hen:bm Try.prog fn) (hu:Up l) (hl:l.length * 16<=140737488355328) (k:Nat) (f:Bool) (hr:(dY l t,fB l t)=(k,f)):Fn Try.prog 119 [.c (cR 2 (l.map ey)),.c (cI t),.c (.d (.f fn bj))] (.t [.c (cI (k:Int)),.c (cB f)]) []:=by
  obtain ⟨h1,h2⟩:=Prod.mk.inj hr
  exact se l t fn bj hp hen hu hl (k:Int) f (by unfold tv;rw [h1,h2])
def jj:List Entry->Int->Int
  |[],_=>0
  |x::l,a=>if x.aV=a then x.sum else jj l a
def iC (l:List Entry) (a s:Int):List Entry:=l.take (dY l a)++(if s=0 then [] else [⟨a,s⟩])++l.drop (if fB l a=true then dY l a+1 else dY l a)
def ig (s:Int):Bool:=decide (s>=-1000000000000) && decide (s<=1000000000000)
def jC (l:List Entry) (e:Entry):List Entry×Bool:=(iC l e.aV (jj l e.aV+e.sum),ig (jj l e.aV+e.sum))
theorem oy {x:Entry} {l:List Entry} {a:Int} (h:x.aV < a):fB (x::l) a=fB l a:=by
  have h1:dY (x::l) a=dY l a+1:=by simp [dY,h]
  unfold fB;rw [h1,List.getElem?_cons_succ]
theorem lY {x:Entry} {l:List Entry} {a:Int} (h:¬x.aV < a):fB (x::l) a=decide (x.aV=a):=by
  unfold fB dY;rw [if_neg h];rfl
theorem pG {a:Int}:∀ {l:List Entry},(∀ x∈l,a < x.aV)->jj l a=0
  |[],_=>rfl
  |x::l,h=>by
    unfold jj
    rw [if_neg (by have:=h x List.mem_cons_self;omega)]
    exact pG fun y hy=>h y (List.mem_cons_of_mem _ hy)
theorem vd {a : Int} : ∀ {l : List Entry} {x : Entry}, Up l → fB l a = true → l[dY l a]? = some x → x.aV = a ∧ jj l a = x.sum
  | [], x, _, _, h => by simp at h
  | y :: l, x, hu, hh, h => by
    obtain ⟨h1, h2⟩ := List.pairwise_cons.1 hu
    by_cases hy : y.aV < a
    · rw [oy hy] at hh
      unfold dY at h; rw [if_pos hy] at h
      obtain ⟨h3, h4⟩ := vd h2 hh (by simpa using h)
      refine ⟨h3, ?_⟩
      unfold jj; rw [if_neg (by omega)]; exact h4
    · rw [lY hy] at hh
      unfold dY at h; rw [if_neg hy] at h
      simp at h hh
      subst h
      exact ⟨hh, by unfold jj; rw [if_pos hh]⟩
theorem vc {a : Int} : ∀ {l : List Entry}, Up l → fB l a = false → jj l a = 0
  | [], _, _ => rfl
  | y :: l, hu, hh => by
    obtain ⟨h1, h2⟩ := List.pairwise_cons.1 hu
    by_cases hy : y.aV < a
    · rw [oy hy] at hh
      unfold jj; rw [if_neg (by omega)]; exact vc h2 hh
    · rw [lY hy] at hh
      simp at hh
      unfold jj; rw [if_neg hh]
      exact pG fun x hx => by have := h1 x hx; omega
theorem CO {a : Int} {l : List Entry} (h : fB l a = true) : dY l a < l.length := by
  by_cases hl : dY l a < l.length
  · exact hl
  · unfold fB at h
    rw [List.getElem?_eq_none (by omega)] at h
    cases h
theorem uc {a:Int} (l:List Entry):(l.take (dY l a)).length=dY l a:=by rw [List.length_take];have:=mG a l;omega
theorem zD {l:List Entry} {k:Nat} {x y:Entry} (hk:k<=l.length) (h:(iF l k x)[k]?=some y):y=x:=by
  have h1:(l.take k).length=k:=by rw [List.length_take];omega
  unfold iF at h
  rw [List.append_assoc,List.getElem?_append_right (by omega),h1,Nat.sub_self] at h
  simp at h
  exact h.symm
theorem CM {l:List Entry} {k:Nat} {x y:Entry} (hk:k<=l.length):(iF l k x).set k y=l.take k++[y]++l.drop k:=by
  have h1:(l.take k).length=k:=by rw [List.length_take];omega
  unfold iF
  rw [List.append_assoc,List.set_append_right _ _ (by omega),h1,Nat.sub_self]
  simp
theorem CN {l:List Entry} {k:Nat} {y:Entry} (hk:k < l.length):l.set k y=l.take k++[y]++l.drop (k+1):=by
  rw [List.set_eq_take_append_cons_drop,if_pos hk];simp
theorem zV {A B:List Entry} {y:Entry} {k:Nat} (h:A.length=k):kQ (A++[y]++B) k (k+1)=A++B:=by
  subst h
  unfold kQ
  simp
theorem nh {l:List Entry} {e x y:Entry} {k:Nat} (hu:Up l) (hk:dY l e.aV=k) (hh:fB l e.aV=true) (hx:l[k]?=some x) (hy:y=⟨x.aV,x.sum+e.sum⟩):
    jC l e=(if x.sum+e.sum=0 then kQ (l.set k y) k (k+1) else l.set k y,ig (x.sum+e.sum)):=by
  subst hk hy
  obtain ⟨h1,h2⟩:=vd hu hh hx
  have hlt:=(List.getElem?_eq_some_iff.1 hx).1
  unfold jC iC
  rw [h2,if_pos hh,CN hlt,h1]
  split
  ·rw [zV (uc l)];simp
  ·rfl
theorem ng {l:List Entry} {e x y:Entry} {k:Nat} {r:List Entry} (hu:Up l) (hk:dY l e.aV=k) (hh:fB l e.aV=false) (hr:iF l k ⟨e.aV,0⟩=r) (hx:r[k]?=some x) (hy:y=⟨x.aV,x.sum+e.sum⟩):
    jC l e=(if x.sum+e.sum=0 then kQ (r.set k y) k (k+1) else r.set k y,ig (x.sum+e.sum)):=by
  subst hk hr
  have h0:=mG e.aV l
  have h1:=zD h0 hx
  subst h1 hy
  have h2:=vc hu hh
  unfold jC iC
  rw [h2,CM h0,if_neg (show ¬fB l e.aV=true by rw [hh];exact Bool.false_ne_true)]
  split
  ·rw [zV (uc l)];simp
  ·rfl
theorem yY {l:List Entry} {k:Nat} {y z:Entry} (h:(l.set k y)[k]?=some z):z=y:=by
  have hlt:=(List.getElem?_eq_some_iff.1 h).1
  rw [List.length_set] at hlt
  rw [List.getElem?_set_self hlt] at h
  exact (Option.some.inj h).symm
theorem FP (l:List Entry) (e:Entry) (hu:Up l) (hl:(l.length+1) * 16<=140737488355328) (hb:∀ x∈l,-1000000000000<=x.sum/\x.sum<=1000000000000) (he:-1000000000000<=e.sum/\e.sum<=1000000000000) (r:List Entry) (g:Bool) (hr:jC l e=(r,g)):cJ Try.prog 116 [(.c (.s 0 0 2 l.length)),(.g [(cI e.aV),(cI e.sum)])] [(0,(lI l))] [] (.t [(.c (.s 0 0 2 r.length)),(.c (cB g))]) [(0,(lI r))]:=by
 refine cJ.mk 62 [(0,(aC (.s 0 0 2 l.length))),(1,(aG [(cI e.aV),(cI e.sum)]))] 1 Try.func116 rfl rfl rfl rfl rfl rfl rfl rfl rfl ?_
 intro W0 F0 T0 pg
 refine gm 0 rfl (fun hlen0=>?_)
 refine ae aa 3 rfl ?_
 refine aH aa 3 rfl ?_
 obtain ⟨k0,f0,hr0⟩:∃ (k0:Nat) (f0:Bool),(dY l e.aV,fB l e.aV)=(k0,f0):=⟨_,_,rfl⟩
 obtain ⟨hk0,hf0⟩:=Prod.mk.inj hr0
 have hkl:=mG e.aV l
 rw [hk0] at hkl
 refine aR 2 [1,0] (fR 2 [0] (yA l e.aV 120 ([]) (fun x=>ED x e.aV) Fu (by first|assumption) (by omega) k0 f0 hr0) Fv rfl rfl ⟨⟨_,rfl,.c (.s rfl (by decide) (by first|omega|(simp;done)|(simp;omega)))⟩,⟨_,rfl,.c (.d _)⟩,⟨_,rfl,.c (.fn trivial)⟩,trivial⟩ ⟨rfl,rfl,trivial⟩ trivial rfl rfl rfl rfl) rfl ?_
 refine ad aa 5 rfl ?_
 refine af ?_
 refine ag ?_
 refine ae aa 2 rfl ?_
 refine aj rfl (fun hc1=>?_) (fun hc1=>?_)
 ·
  have hc1':=hc1;try simp only [bq,bM] at hc1'
  refine au ?_
  refine ad aa 5 rfl ?_
  refine aR 3 [2,1,0] (dJ (ys:=[(0,(.g [(cI e.aV),(cI 0)]))]) (rows:=([(⟨e.aV,0⟩:Entry)]).map ey) 2 jU rfl (by decide) ⟨⟨rfl,rfl⟩,trivial⟩ rfl rfl rfl rfl) rfl ?_
  obtain ⟨r1,hr1⟩:∃ (r1:List Entry),iF l k0 (⟨e.aV,0⟩:Entry)=r1:=⟨_,rfl⟩
  have hl1:r1.length=l.length+1:=by rw [<-hr1];exact Bd hkl
  refine aR 4 [3,1] (cK (bb [0,2]) (bb [3,2]) (sf l k0 (⟨e.aV,0⟩:Entry) (by first|omega|(simp;done)|(simp;omega)) (by first|omega|(simp;done)|(simp;omega)) r1 hr1) Ft rfl rfl ⟨⟨_,rfl,.inl ⟨rfl,rfl⟩⟩,⟨_,rfl,.inr (.c (.d _))⟩,⟨_,rfl,.inl ⟨rfl,rfl⟩⟩,trivial⟩ ⟨rfl,rfl,trivial⟩ rfl rfl rfl rfl rfl rfl trivial ⟨(fun _ _ _ _=>trivial),trivial⟩ rfl rfl rfl rfl) rfl ?_
  refine ad aa 1 rfl ?_
  refine af ?_
  refine ag ?_
  obtain ⟨x1,hx1⟩:=cb (xs:=r1) (i:=k0) (by first|omega|(simp;done)|(simp;omega))
  have hx1q:=zD hkl (show (iF l k0 ⟨e.aV,0⟩)[k0]?=some x1 by rw [hr1];exact hx1)
  have hx1b:x1.sum=0:=by rw [hx1q]
  refine aW [0,3,6] [3,1] mixed rfl rfl ?_
  refine aw (kn:=[]) aa 2 rfl trivial ?_
  refine aM (n':=4) [25,26] [3] rfl rfl (.inl ⟨(ah.plain rfl),aF.cast (bx (i:=k0) rfl rfl rfl Try.underlying44 dW (by first|omega|(simp;done)|(simp;omega)) (by first|omega|(simp;done)|(simp;omega))) rfl⟩) rfl ?_
  refine aw (kn:=[]) aa 1 rfl trivial ?_
  refine aM (n':=4) [28] [3] rfl rfl (.inl ⟨(ah.plain rfl),aF.cast (eI rfl rfl rfl Try.underlying3 rfl (bf hx1) rfl) rfl⟩) rfl ?_
  refine aw (kn:=[]) aa 2 rfl trivial ?_
  refine aM (n':=4) [29,31] [] rfl rfl (.inl ⟨(ah.plain rfl),aF.cast (aJ rfl rfl rfl (aL (by first|omega|(simp;done)|(simp;omega)))) rfl⟩) rfl ?_
  refine aM (n':=4) [25,26] [3] rfl rfl (.inl ⟨(ah.plain rfl),aF.cast (bx (i:=k0) rfl rfl rfl Try.underlying44 dW (by first|omega|(simp;done)|(simp;omega)) (by first|omega|(simp;done)|(simp;omega))) rfl⟩) rfl ?_
  refine aw (kn:=[]) aa 1 rfl trivial ?_
  refine bw [3,1] rfl rfl rfl rfl (by kernel_rfl) ?_
  refine gh [3,1] (dL (ds:=[(dI (x1.sum+e.sum))]) rfl rfl rfl rfl rfl fE rfl (Nat.le_of_ble_eq_true rfl) (bf hx1) rfl (eL (x':=(⟨x1.aV,x1.sum+e.sum⟩:Entry)) rfl)) rfl ?_
  refine af ?_
  refine aH aa 2 rfl ?_
  refine ay (bx (i:=k0) rfl rfl rfl Try.underlying44 dW (by first|omega|(simp;done)|(simp;omega)) (by first|omega|(simp;done)|(simp;omega))) rfl ?_
  refine ad aa 1 rfl ?_
  obtain ⟨x2,hx2⟩:=cb (xs:=((r1).set k0 (⟨x1.aV,x1.sum+e.sum⟩:Entry))) (i:=k0) (by first|omega|(simp;done)|(simp;omega))
  have hx2e:=yY hx2
  have hx2s:x2.sum=x1.sum+e.sum:=by rw [hx2e]
  refine ay (eI rfl rfl rfl Try.underlying3 rfl (bf hx2) rfl) rfl ?_
  refine ad aa 2 rfl ?_
  refine bE (t:=41) rfl (fun hb2=>?_) (fun hb2=>?_)
  ·
   have hb2':=of_decide_eq_true hb2
   refine ad aa 2 rfl ?_
   refine cz (ah.yes rfl rfl rfl) (bx (i:=k0) rfl rfl rfl Try.underlying44 dW (by first|omega|(simp;done)|(simp;omega)) (by first|omega|(simp;done)|(simp;omega))) rfl rfl ?_
   refine ad aa 1 rfl ?_
   refine cz (ah.yes rfl rfl rfl) (eI rfl rfl rfl Try.underlying3 rfl (bf hx2) rfl) rfl rfl ?_
   refine ad aa 3 rfl ?_
   refine af ?_
   refine ag ?_
   refine aH aa 2 rfl ?_
   refine ay (bx (i:=k0) rfl rfl rfl Try.underlying44 dW (by first|omega|(simp;done)|(simp;omega)) (by first|omega|(simp;done)|(simp;omega))) rfl ?_
   refine ad aa 1 rfl ?_
   refine ay (eI rfl rfl rfl Try.underlying3 rfl (bf hx2) rfl) rfl ?_
   refine ad aa 1 rfl ?_
   refine af ?_
   refine aj rfl (fun hc3=>?_) (fun hc3=>?_)
   ·
    have hc3':=of_decide_eq_true hc3
    refine gl (st':=⟨[(0,(aC (.s 3 0 2 (((r1).set k0 (⟨x1.aV,x1.sum+e.sum⟩:Entry)).length)))),(3,(aC (.p 1 0 0 0))),(6,(aI (↑k0:Int))),(32,(aI (x1.sum+e.sum))),(34,(aC (.p 3 k0 2 1))),(35,(aC (.s 3 0 2 r1.length))),(36,(aI (↑k0:Int))),(37,(aC (.p 3 k0 2 0))),(38,(aC (.p 3 k0 2 1))),(39,(aI x2.sum)),(40,(aB (decide (x2.sum>=(-1000000000000))))),(41,(aB true)),(42,(aC (.s 3 0 2 r1.length))),(43,(aI (↑k0:Int))),(44,(aC (.p 3 k0 2 0))),(45,(aC (.p 3 k0 2 1))),(46,(aI x2.sum)),(47,(aB (decide (x2.sum<=1000000000000)))),(48,(aB (decide (x2.sum<=1000000000000)))),(8,(aB (decide (x2.sum<=1000000000000)))),(49,(aC (.s 3 0 2 r1.length))),(50,(aI (↑k0:Int))),(51,(aC (.p 3 k0 2 0))),(52,(aC (.p 3 k0 2 1))),(53,(aI x2.sum)),(54,(aB (decide (x2.sum=0))))],[(3,(lI ((r1).set k0 (⟨x1.aV,x1.sum+e.sum⟩:Entry)))),(1,(.box 115 [(cI e.aV),(cI e.sum)]))],4⟩) (aE.bR id (by refine ⟨?_,?_,?_,?_,?_,?_,?_,?_,?_,?_,?_,?_,?_,?_,?_,?_,?_,?_,?_,?_,?_,?_,?_,?_,?_,?_,trivial⟩<;>first|rfl|(simp only [bc];done)|(congr 3;omega)|(congr 4;omega)|(simp only [bd];rfl)) (by refine ⟨?_,?_,trivial⟩<;>first|rfl|(simp only [bc];done)|(congr 3;omega)|(congr 4;omega)|(simp only [bd];rfl)) rfl) ?_
    refine au ?_
    refine ad aa 3 rfl ?_
    refine ay (aJ rfl rfl rfl (aL (by first|omega|(simp;done)|(simp;omega)))) rfl ?_
    obtain ⟨r2,hr2⟩:∃ (r2:List Entry),kQ ((r1).set k0 (⟨x1.aV,x1.sum+e.sum⟩:Entry)) k0 ((k0)+1)=r2:=⟨_,rfl⟩
    refine aR 5 [4,1] (cK (bb [3]) (bb [4]) (iP ((r1).set k0 (⟨x1.aV,x1.sum+e.sum⟩:Entry)) k0 ((k0)+1) (by first|omega|(simp;done)|(simp;omega)) (by first|omega|(simp;done)|(simp;omega)) r2 hr2) tU rfl rfl ⟨⟨_,rfl,.inl ⟨rfl,rfl⟩⟩,⟨_,rfl,.inr (.c (.d _))⟩,⟨_,rfl,.inr (.c (.d _))⟩,trivial⟩ ⟨rfl,trivial⟩ rfl rfl rfl rfl rfl rfl trivial ⟨(fun _ _ _ _=>trivial),trivial⟩ rfl rfl rfl rfl) rfl ?_
    refine ad aa 1 rfl ?_
    refine af ?_
    refine ae aa 4 rfl ?_
    refine az ?_
    have hX:jC l e=(r2,decide (x2.sum<=1000000000000)):=by
      rw [ng hu hk0 (show fB l e.aV=false by simp_all) hr1 hx1 rfl];unfold ig;rw [if_pos (by omega),hr2];refine Prod.ext rfl ?_;first|(simp;omega)|(simp_all;done)|(simp_all;omega)
    rw [hX] at hr;clear hX
    simp only [Prod.mk.injEq] at hr;obtain ⟨rfl,rfl⟩:=hr
    refine an aa [4] 1 rfl rfl rfl rfl rfl rfl ?_ ?_
    all_goals first|rfl|(simp [aA];done)|(simp [aA];omega)
   have hc3':=of_decide_eq_false hc3
   refine aP ?_
   refine ae aa 4 rfl ?_
   refine az ?_
   have hX:jC l e=((r1).set k0 (⟨x1.aV,x1.sum+e.sum⟩:Entry),decide (x2.sum<=1000000000000)):=by
     rw [ng hu hk0 (show fB l e.aV=false by simp_all) hr1 hx1 rfl];unfold ig;rw [if_neg (by omega)];refine Prod.ext rfl ?_;first|(simp;omega)|(simp_all;done)|(simp_all;omega)
   rw [hX] at hr;clear hX
   simp only [Prod.mk.injEq] at hr;obtain ⟨rfl,rfl⟩:=hr
   refine an aa [3] 1 rfl rfl rfl rfl rfl rfl ?_ ?_
   all_goals first|rfl|(simp [aA];done)|(simp [aA];omega)
  have hb2':=of_decide_eq_false hb2
  refine ad aa 8 rfl ?_
  refine af ?_
  refine ag ?_
  refine aH aa 2 rfl ?_
  refine ay (bx (i:=k0) rfl rfl rfl Try.underlying44 dW (by first|omega|(simp;done)|(simp;omega)) (by first|omega|(simp;done)|(simp;omega))) rfl ?_
  refine ad aa 1 rfl ?_
  refine ay (eI rfl rfl rfl Try.underlying3 rfl (bf hx2) rfl) rfl ?_
  refine ad aa 1 rfl ?_
  refine af ?_
  refine aj rfl (fun hc4=>?_) (fun hc4=>?_)
  ·
   have hc4':=of_decide_eq_true hc4
   refine gl (st':=⟨[(0,(aC (.s 3 0 2 (((r1).set k0 (⟨x1.aV,x1.sum+e.sum⟩:Entry)).length)))),(3,(aC (.p 1 0 0 0))),(6,(aI (↑k0:Int))),(32,(aI (x1.sum+e.sum))),(34,(aC (.p 3 k0 2 1))),(35,(aC (.s 3 0 2 r1.length))),(36,(aI (↑k0:Int))),(37,(aC (.p 3 k0 2 0))),(38,(aC (.p 3 k0 2 1))),(39,(aI x2.sum)),(40,(aB (decide (x2.sum>=(-1000000000000))))),(41,(aB false)),(48,(aB false)),(8,(aB false)),(49,(aC (.s 3 0 2 r1.length))),(50,(aI (↑k0:Int))),(51,(aC (.p 3 k0 2 0))),(52,(aC (.p 3 k0 2 1))),(53,(aI x2.sum)),(54,(aB (decide (x2.sum=0))))],[(3,(lI ((r1).set k0 (⟨x1.aV,x1.sum+e.sum⟩:Entry)))),(1,(.box 115 [(cI e.aV),(cI e.sum)]))],4⟩) (aE.bR id (by refine ⟨?_,?_,?_,?_,?_,?_,?_,?_,?_,?_,?_,?_,?_,?_,?_,?_,?_,?_,?_,?_,trivial⟩<;>first|rfl|(simp only [bc];done)|(congr 3;omega)|(congr 4;omega)|(simp only [bd];rfl)) (by refine ⟨?_,?_,trivial⟩<;>first|rfl|(simp only [bc];done)|(congr 3;omega)|(congr 4;omega)|(simp only [bd];rfl)) rfl) ?_
   refine au ?_
   refine ad aa 3 rfl ?_
   refine ay (aJ rfl rfl rfl (aL (by first|omega|(simp;done)|(simp;omega)))) rfl ?_
   obtain ⟨r3,hr3⟩:∃ (r3:List Entry),kQ ((r1).set k0 (⟨x1.aV,x1.sum+e.sum⟩:Entry)) k0 ((k0)+1)=r3:=⟨_,rfl⟩
   refine aR 5 [4,1] (cK (bb [3]) (bb [4]) (iP ((r1).set k0 (⟨x1.aV,x1.sum+e.sum⟩:Entry)) k0 ((k0)+1) (by first|omega|(simp;done)|(simp;omega)) (by first|omega|(simp;done)|(simp;omega)) r3 hr3) tU rfl rfl ⟨⟨_,rfl,.inl ⟨rfl,rfl⟩⟩,⟨_,rfl,.inr (.c (.d _))⟩,⟨_,rfl,.inr (.c (.d _))⟩,trivial⟩ ⟨rfl,trivial⟩ rfl rfl rfl rfl rfl rfl trivial ⟨(fun _ _ _ _=>trivial),trivial⟩ rfl rfl rfl rfl) rfl ?_
   refine ad aa 1 rfl ?_
   refine af ?_
   refine ae aa 4 rfl ?_
   refine az ?_
   have hX:jC l e=(r3,false):=by
     rw [ng hu hk0 (show fB l e.aV=false by simp_all) hr1 hx1 rfl];unfold ig;rw [if_pos (by omega),hr3];refine Prod.ext rfl ?_;first|(simp;omega)|(simp_all;done)|(simp_all;omega)
   rw [hX] at hr;clear hX
   simp only [Prod.mk.injEq] at hr;obtain ⟨rfl,rfl⟩:=hr
   refine an aa [4] 1 rfl rfl rfl rfl rfl rfl ?_ ?_
   all_goals first|rfl|(simp [aA];done)|(simp [aA];omega)
  have hc4':=of_decide_eq_false hc4
  refine aP ?_
  refine ae aa 4 rfl ?_
  refine az ?_
  have hX:jC l e=((r1).set k0 (⟨x1.aV,x1.sum+e.sum⟩:Entry),false):=by
    rw [ng hu hk0 (show fB l e.aV=false by simp_all) hr1 hx1 rfl];unfold ig;rw [if_neg (by omega)];refine Prod.ext rfl ?_;first|(simp;omega)|(simp_all;done)|(simp_all;omega)
  rw [hX] at hr;clear hX
  simp only [Prod.mk.injEq] at hr;obtain ⟨rfl,rfl⟩:=hr
  refine an aa [3] 1 rfl rfl rfl rfl rfl rfl ?_ ?_
  all_goals first|rfl|(simp [aA];done)|(simp [aA];omega)
 have hc1':=hc1;try simp only [bq,bM] at hc1'
 refine aP ?_
 have hk0lt:k0 < l.length:=by have:=CO (l:=l) (a:=e.aV) (by simp_all);omega
 refine ag ?_
 obtain ⟨x1,hx1⟩:=cb (xs:=l) (i:=k0) (by first|omega|(simp;done)|(simp;omega))
 have hx1b:=hb x1 (List.mem_of_getElem? hx1)
 refine aW [0,3,6] [1,0] mixed rfl rfl ?_
 refine aw (kn:=[]) aa 2 rfl trivial ?_
 refine aM (n':=2) [25,26] [0] rfl rfl (.inl ⟨(ah.plain rfl),aF.cast (bx (i:=k0) rfl rfl rfl Try.underlying44 dW (by first|omega|(simp;done)|(simp;omega)) (by first|omega|(simp;done)|(simp;omega))) rfl⟩) rfl ?_
 refine aw (kn:=[]) aa 1 rfl trivial ?_
 refine aM (n':=2) [28] [0] rfl rfl (.inl ⟨(ah.plain rfl),aF.cast (eI rfl rfl rfl Try.underlying3 rfl (bf hx1) rfl) rfl⟩) rfl ?_
 refine aw (kn:=[]) aa 2 rfl trivial ?_
 refine aM (n':=2) [29,31] [] rfl rfl (.inl ⟨(ah.plain rfl),aF.cast (aJ rfl rfl rfl (aL (by first|omega|(simp;done)|(simp;omega)))) rfl⟩) rfl ?_
 refine aM (n':=2) [25,26] [0] rfl rfl (.inl ⟨(ah.plain rfl),aF.cast (bx (i:=k0) rfl rfl rfl Try.underlying44 dW (by first|omega|(simp;done)|(simp;omega)) (by first|omega|(simp;done)|(simp;omega))) rfl⟩) rfl ?_
 refine aw (kn:=[]) aa 1 rfl trivial ?_
 refine bw [1,0] rfl rfl rfl rfl (by kernel_rfl) ?_
 refine gh [1,0] (dL (ds:=[(dI (x1.sum+e.sum))]) rfl rfl rfl rfl rfl fE rfl (Nat.le_of_ble_eq_true rfl) (bf hx1) rfl (eL (x':=(⟨x1.aV,x1.sum+e.sum⟩:Entry)) rfl)) rfl ?_
 refine af ?_
 refine aH aa 2 rfl ?_
 refine ay (bx (i:=k0) rfl rfl rfl Try.underlying44 dW (by first|omega|(simp;done)|(simp;omega)) (by first|omega|(simp;done)|(simp;omega))) rfl ?_
 refine ad aa 1 rfl ?_
 obtain ⟨x2,hx2⟩:=cb (xs:=((l).set k0 (⟨x1.aV,x1.sum+e.sum⟩:Entry))) (i:=k0) (by first|omega|(simp;done)|(simp;omega))
 have hx2e:=yY hx2
 have hx2s:x2.sum=x1.sum+e.sum:=by rw [hx2e]
 refine ay (eI rfl rfl rfl Try.underlying3 rfl (bf hx2) rfl) rfl ?_
 refine ad aa 2 rfl ?_
 refine bE (t:=41) rfl (fun hb5=>?_) (fun hb5=>?_)
 ·
  have hb5':=of_decide_eq_true hb5
  refine ad aa 2 rfl ?_
  refine cz (ah.yes rfl rfl rfl) (bx (i:=k0) rfl rfl rfl Try.underlying44 dW (by first|omega|(simp;done)|(simp;omega)) (by first|omega|(simp;done)|(simp;omega))) rfl rfl ?_
  refine ad aa 1 rfl ?_
  refine cz (ah.yes rfl rfl rfl) (eI rfl rfl rfl Try.underlying3 rfl (bf hx2) rfl) rfl rfl ?_
  refine ad aa 3 rfl ?_
  refine af ?_
  refine ag ?_
  refine aH aa 2 rfl ?_
  refine ay (bx (i:=k0) rfl rfl rfl Try.underlying44 dW (by first|omega|(simp;done)|(simp;omega)) (by first|omega|(simp;done)|(simp;omega))) rfl ?_
  refine ad aa 1 rfl ?_
  refine ay (eI rfl rfl rfl Try.underlying3 rfl (bf hx2) rfl) rfl ?_
  refine ad aa 1 rfl ?_
  refine af ?_
  refine aj rfl (fun hc6=>?_) (fun hc6=>?_)
  ·
   have hc6':=of_decide_eq_true hc6
   refine gl (st':=⟨[(0,(aC (.s 0 0 2 (((l).set k0 (⟨x1.aV,x1.sum+e.sum⟩:Entry)).length)))),(3,(aC (.p 1 0 0 0))),(6,(aI (↑k0:Int))),(32,(aI (x1.sum+e.sum))),(34,(aC (.p 0 k0 2 1))),(35,(aC (.s 0 0 2 l.length))),(36,(aI (↑k0:Int))),(37,(aC (.p 0 k0 2 0))),(38,(aC (.p 0 k0 2 1))),(39,(aI x2.sum)),(40,(aB (decide (x2.sum>=(-1000000000000))))),(41,(aB true)),(42,(aC (.s 0 0 2 l.length))),(43,(aI (↑k0:Int))),(44,(aC (.p 0 k0 2 0))),(45,(aC (.p 0 k0 2 1))),(46,(aI x2.sum)),(47,(aB (decide (x2.sum<=1000000000000)))),(48,(aB (decide (x2.sum<=1000000000000)))),(8,(aB (decide (x2.sum<=1000000000000)))),(49,(aC (.s 0 0 2 l.length))),(50,(aI (↑k0:Int))),(51,(aC (.p 0 k0 2 0))),(52,(aC (.p 0 k0 2 1))),(53,(aI x2.sum)),(54,(aB (decide (x2.sum=0))))],[(1,(.box 115 [(cI e.aV),(cI e.sum)])),(0,(lI ((l).set k0 (⟨x1.aV,x1.sum+e.sum⟩:Entry))))],2⟩) (aE.bR id (by refine ⟨?_,?_,?_,?_,?_,?_,?_,?_,?_,?_,?_,?_,?_,?_,?_,?_,?_,?_,?_,?_,?_,?_,?_,?_,?_,?_,trivial⟩<;>first|rfl|(simp only [bc];done)|(congr 3;omega)|(congr 4;omega)|(simp only [bd];rfl)) (by refine ⟨?_,?_,trivial⟩<;>first|rfl|(simp only [bc];done)|(congr 3;omega)|(congr 4;omega)|(simp only [bd];rfl)) rfl) ?_
   refine au ?_
   refine ad aa 3 rfl ?_
   refine ay (aJ rfl rfl rfl (aL (by first|omega|(simp;done)|(simp;omega)))) rfl ?_
   obtain ⟨r4,hr4⟩:∃ (r4:List Entry),kQ ((l).set k0 (⟨x1.aV,x1.sum+e.sum⟩:Entry)) k0 ((k0)+1)=r4:=⟨_,rfl⟩
   refine aR 3 [2,1] (cK id (bb [2]) (iP ((l).set k0 (⟨x1.aV,x1.sum+e.sum⟩:Entry)) k0 ((k0)+1) (by first|omega|(simp;done)|(simp;omega)) (by first|omega|(simp;done)|(simp;omega)) r4 hr4) tU rfl rfl ⟨⟨_,rfl,.inl ⟨rfl,rfl⟩⟩,⟨_,rfl,.inr (.c (.d _))⟩,⟨_,rfl,.inr (.c (.d _))⟩,trivial⟩ ⟨rfl,trivial⟩ rfl rfl rfl rfl rfl rfl trivial ⟨(fun _ _ _ _=>trivial),trivial⟩ rfl rfl rfl rfl) rfl ?_
   refine ad aa 1 rfl ?_
   refine af ?_
   refine ae aa 4 rfl ?_
   refine az ?_
   have hX:jC l e=(r4,decide (x2.sum<=1000000000000)):=by
     rw [nh hu hk0 (show fB l e.aV=true by simp_all) hx1 rfl];unfold ig;rw [if_pos (by omega),hr4];refine Prod.ext rfl ?_;first|(simp;omega)|(simp_all;done)|(simp_all;omega)
   rw [hX] at hr;clear hX
   simp only [Prod.mk.injEq] at hr;obtain ⟨rfl,rfl⟩:=hr
   refine an aa [2] 1 rfl rfl rfl rfl rfl rfl ?_ ?_
   all_goals first|rfl|(simp [aA];done)|(simp [aA];omega)
  have hc6':=of_decide_eq_false hc6
  refine aP ?_
  refine ae aa 4 rfl ?_
  refine az ?_
  have hX:jC l e=((l).set k0 (⟨x1.aV,x1.sum+e.sum⟩:Entry),decide (x2.sum<=1000000000000)):=by
    rw [nh hu hk0 (show fB l e.aV=true by simp_all) hx1 rfl];unfold ig;rw [if_neg (by omega)];refine Prod.ext rfl ?_;first|(simp;omega)|(simp_all;done)|(simp_all;omega)
  rw [hX] at hr;clear hX
  simp only [Prod.mk.injEq] at hr;obtain ⟨rfl,rfl⟩:=hr
  refine an aa [0] 1 rfl rfl rfl rfl rfl rfl ?_ ?_
  all_goals first|rfl|(simp [aA];done)|(simp [aA];omega)
 have hb5':=of_decide_eq_false hb5
 refine ad aa 8 rfl ?_
 refine af ?_
 refine ag ?_
 refine aH aa 2 rfl ?_
 refine ay (bx (i:=k0) rfl rfl rfl Try.underlying44 dW (by first|omega|(simp;done)|(simp;omega)) (by first|omega|(simp;done)|(simp;omega))) rfl ?_
 refine ad aa 1 rfl ?_
 refine ay (eI rfl rfl rfl Try.underlying3 rfl (bf hx2) rfl) rfl ?_
 refine ad aa 1 rfl ?_
 refine af ?_
 refine aj rfl (fun hc7=>?_) (fun hc7=>?_)
 ·
  have hc7':=of_decide_eq_true hc7
  refine gl (st':=⟨[(0,(aC (.s 0 0 2 (((l).set k0 (⟨x1.aV,x1.sum+e.sum⟩:Entry)).length)))),(3,(aC (.p 1 0 0 0))),(6,(aI (↑k0:Int))),(32,(aI (x1.sum+e.sum))),(34,(aC (.p 0 k0 2 1))),(35,(aC (.s 0 0 2 l.length))),(36,(aI (↑k0:Int))),(37,(aC (.p 0 k0 2 0))),(38,(aC (.p 0 k0 2 1))),(39,(aI x2.sum)),(40,(aB (decide (x2.sum>=(-1000000000000))))),(41,(aB false)),(48,(aB false)),(8,(aB false)),(49,(aC (.s 0 0 2 l.length))),(50,(aI (↑k0:Int))),(51,(aC (.p 0 k0 2 0))),(52,(aC (.p 0 k0 2 1))),(53,(aI x2.sum)),(54,(aB (decide (x2.sum=0))))],[(1,(.box 115 [(cI e.aV),(cI e.sum)])),(0,(lI ((l).set k0 (⟨x1.aV,x1.sum+e.sum⟩:Entry))))],2⟩) (aE.bR id (by refine ⟨?_,?_,?_,?_,?_,?_,?_,?_,?_,?_,?_,?_,?_,?_,?_,?_,?_,?_,?_,?_,trivial⟩<;>first|rfl|(simp only [bc];done)|(congr 3;omega)|(congr 4;omega)|(simp only [bd];rfl)) (by refine ⟨?_,?_,trivial⟩<;>first|rfl|(simp only [bc];done)|(congr 3;omega)|(congr 4;omega)|(simp only [bd];rfl)) rfl) ?_
  refine au ?_
  refine ad aa 3 rfl ?_
  refine ay (aJ rfl rfl rfl (aL (by first|omega|(simp;done)|(simp;omega)))) rfl ?_
  obtain ⟨r5,hr5⟩:∃ (r5:List Entry),kQ ((l).set k0 (⟨x1.aV,x1.sum+e.sum⟩:Entry)) k0 ((k0)+1)=r5:=⟨_,rfl⟩
  refine aR 3 [2,1] (cK id (bb [2]) (iP ((l).set k0 (⟨x1.aV,x1.sum+e.sum⟩:Entry)) k0 ((k0)+1) (by first|omega|(simp;done)|(simp;omega)) (by first|omega|(simp;done)|(simp;omega)) r5 hr5) tU rfl rfl ⟨⟨_,rfl,.inl ⟨rfl,rfl⟩⟩,⟨_,rfl,.inr (.c (.d _))⟩,⟨_,rfl,.inr (.c (.d _))⟩,trivial⟩ ⟨rfl,trivial⟩ rfl rfl rfl rfl rfl rfl trivial ⟨(fun _ _ _ _=>trivial),trivial⟩ rfl rfl rfl rfl) rfl ?_
  refine ad aa 1 rfl ?_
  refine af ?_
  refine ae aa 4 rfl ?_
  refine az ?_
  have hX:jC l e=(r5,false):=by
    rw [nh hu hk0 (show fB l e.aV=true by simp_all) hx1 rfl];unfold ig;rw [if_pos (by omega),hr5];refine Prod.ext rfl ?_;first|(simp;omega)|(simp_all;done)|(simp_all;omega)
  rw [hX] at hr;clear hX
  simp only [Prod.mk.injEq] at hr;obtain ⟨rfl,rfl⟩:=hr
  refine an aa [2] 1 rfl rfl rfl rfl rfl rfl ?_ ?_
  all_goals first|rfl|(simp [aA];done)|(simp [aA];omega)
 have hc7':=of_decide_eq_false hc7
 refine aP ?_
 refine ae aa 4 rfl ?_
 refine az ?_
 have hX:jC l e=((l).set k0 (⟨x1.aV,x1.sum+e.sum⟩:Entry),false):=by
   rw [nh hu hk0 (show fB l e.aV=true by simp_all) hx1 rfl];unfold ig;rw [if_neg (by omega)];refine Prod.ext rfl ?_;first|(simp;omega)|(simp_all;done)|(simp_all;omega)
 rw [hX] at hr;clear hX
 simp only [Prod.mk.injEq] at hr;obtain ⟨rfl,rfl⟩:=hr
 refine an aa [0] 1 rfl rfl rfl rfl rfl rfl ?_ ?_
 all_goals first|rfl|(simp [aA];done)|(simp [aA];omega)
def fw (x:Entry):Prop:=x.aV < 0\/x.aV > 57\/x.sum < -1000000000000\/x.sum > 1000000000000
instance (x:Entry):Decidable (fw x):=by unfold fw;infer_instance
def kS (l:List Entry) (q:Nat):Int:=
 match l[q]? with
 |some x=>if fw x then 3 else if (0 < q/\(l.getD (q - 1) ⟨0,0⟩).aV>=x.aV)\/x.sum=0 then 2 else 0
 |none=>0
def gb:List Entry->Int
 |[]=>0
 |x::l=>x.sum+gb l
def fk (l:List Entry):df:=if (scan (kS l) 0 l.length).1≠0 then ⟨(scan (kS l) 0 l.length).1,(scan (kS l) 0 l.length).2⟩ else if gb l≠0 then ⟨8,0⟩ else ⟨0,0⟩
theorem vS (l r:List Entry):gb (l++r)=gb l+gb r:=by
 induction l with
 |nil=>simp [gb]
 |cons x l ih=>simp only [List.cons_append,gb,ih];omega
theorem ss {α:Type} {l:List α} {q:Nat} {x:α} (h:l[q]?=some x):l.take (q+1)=l.take q++[x]:=by
 obtain ⟨hlt,rfl⟩:=List.getElem?_eq_some_iff.1 h
 rw [List.take_add_one,List.getElem?_eq_getElem hlt];rfl
theorem jm {l:List Entry} {q:Nat} {x:Entry} (h:l[q]?=some x):gb (l.take (q+1))=gb (l.take q)+x.sum:=by
 rw [ss h,vS];simp [gb]
def iy (l:List Entry) (q:Nat):Int:=if q=0 then -1 else (l.getD (q - 1) ⟨0,0⟩).aV
theorem jI {l:List Entry} {q:Nat} {x:Entry} (h:l[q]?=some x):iy l (q+1)=x.aV:=by
 unfold iy
 rw [if_neg (by omega),List.getD_eq_getElem?_getD,Nat.add_sub_cancel,h];rfl
theorem kG {l:List Entry} {q:Nat} {x:Entry} (hq:0 < q) (h:l[q - 1]?=some x):iy l q=x.aV:=by
 unfold iy
 rw [if_neg (by omega),List.getD_eq_getElem?_getD,h];rfl
theorem hP {l:List Entry} {q:Nat} {x:Entry} (h:l[q]?=some x):kS l q=if fw x then 3 else if (0 < q/\iy l q>=x.aV)\/x.sum=0 then 2 else 0:=by
 unfold kS
 rw [h]
 by_cases hq:q=0
 ·subst hq;simp
 ·unfold iy;rw [if_neg hq]
structure ku (l:List Entry):Prop where
 up:Up l
 ok:∀ x∈l,0<=x.aV/\x.aV<=57/\-1000000000000<=x.sum/\x.sum<=1000000000000/\x.sum≠0
theorem Fa {l:List Entry} (h:∀ q x y,l[q]?=some x->l[q+1]?=some y->x.aV < y.aV):Up l:=by
 unfold Up
 induction l with
 |nil=>exact List.Pairwise.nil
 |cons x l ih=>
  have h2:=ih fun q a b ha hb=>h (q+1) a b (by simpa using ha) (by simpa using hb)
  refine List.pairwise_cons.2 ⟨fun y hy=>?_,h2⟩
  cases l with
  |nil=>cases hy
  |cons z l=>
   have hz:=h 0 x z (by simp) (by simp)
   rcases List.mem_cons.1 hy with rfl|hy
   ·exact hz
   ·have:=(List.pairwise_cons.1 h2).1 y hy;omega
theorem yN {l:List Entry} (h:Up l) {i j:Nat} {x y:Entry} (hij:i < j) (hx:l[i]?=some x) (hy:l[j]?=some y):x.aV < y.aV:=by
 obtain ⟨hi,rfl⟩:=List.getElem?_eq_some_iff.1 hx
 obtain ⟨hj,rfl⟩:=List.getElem?_eq_some_iff.1 hy
 exact List.pairwise_iff_getElem.1 h i j hi hj hij
theorem yZ {l:List Entry}:(scan (kS l) 0 l.length).1=0↔ku l:=by
 rw [mZ]
 constructor
 ·intro h
  have at':∀ q x,l[q]?=some x->¬fw x/\¬((0 < q/\iy l q>=x.aV)\/x.sum=0):=fun q x hx=>by
   have hq:=(List.getElem?_eq_some_iff.1 hx).1
   have h1:=h q (Nat.zero_le _) (by omega)
   rw [hP hx] at h1
   split at h1
   ·cases h1
   ·split at h1
    ·cases h1
    ·exact ⟨by assumption,by assumption⟩
  refine ⟨Fa fun q x y hx hy=>?_,fun x hx=>?_⟩
  ·have h1:=(at' (q+1) y hy).2
   rw [jI hx] at h1
   omega
  ·obtain ⟨q,hq⟩:=List.getElem?_of_mem hx
   have h1:=at' q x hq
   unfold fw at h1
   omega
 ·intro h q _ hq
  obtain ⟨x,hx⟩:∃ x,l[q]?=some x:=⟨_,List.getElem?_eq_getElem (by omega)⟩
  have h1:=h.ok x (List.mem_of_getElem? hx)
  rw [hP hx,if_neg (by unfold fw;omega),if_neg]
  rintro (⟨h2,h3⟩|h2)
  ·obtain ⟨y,hy⟩:∃ y,l[q - 1]?=some y:=⟨_,List.getElem?_eq_getElem (by omega)⟩
   rw [kG h2 hy] at h3
   have:=yN h.up (by omega:q - 1 < q) hy hx
   omega
  ·exact h1.2.2.2.2 h2
theorem xz {l:List Entry}:(fk l).err=0↔ku l/\gb l=0:=by
 unfold fk
 rw [<-yZ]
 split
 ·rename_i h;constructor
  ·intro h1;exact absurd h1 h
  ·intro h1;exact absurd h1.1 h
 ·rename_i h
  split
  ·rename_i h2;constructor
   ·intro h1;cases h1
   ·intro h1;exact absurd h1.2 h2
  ·rename_i h2;constructor
   ·intro _;exact ⟨by omega,by omega⟩
   ·intro _;rfl
theorem sL {l:List Entry} (h:ku l):l.length<=58:=by
 have key:∀ (q:Nat) (x:Entry),l[q]?=some x->(q:Int)<=x.aV:=by
  intro q
  induction q with
  |zero=>intro x hx;have:=h.ok x (List.mem_of_getElem? hx);omega
  |succ q ih=>
   intro x hx
   have hq:=(List.getElem?_eq_some_iff.1 hx).1
   obtain ⟨y,hy⟩:∃ y,l[q]?=some y:=⟨_,List.getElem?_eq_getElem (by omega)⟩
   have h1:=ih y hy
   have h2:=yN h.up (by omega:q < q+1) hy hx
   omega
 by_cases hl:l.length=0
 ·omega
 ·obtain ⟨x,hx⟩:∃ x,l[l.length - 1]?=some x:=⟨_,List.getElem?_eq_getElem (by omega)⟩
  have h1:=key _ x hx
  have h2:=h.ok x (List.mem_of_getElem? hx)
  omega
theorem sH {x:Entry} {l:List Entry} {a s:Int} (h:x.aV < a):iC (x::l) a s=x::iC l a s:=by
 unfold iC
 rw [oy h,show dY (x::l) a=dY l a+1 by simp [dY,h]]
 cases fB l a<;>simp
theorem sG {x:Entry} {l:List Entry} {a s:Int} (h:x.aV=a):iC (x::l) a s=(if s=0 then [] else [⟨a,s⟩])++l:=by
 unfold iC
 rw [lY (by omega),show dY (x::l) a=0 by simp [dY];omega]
 simp [h]
theorem ur {x:Entry} {l:List Entry} {a s:Int} (h:a < x.aV):iC (x::l) a s=(if s=0 then [] else [⟨a,s⟩])++x::l:=by
 unfold iC
 rw [lY (by omega),show dY (x::l) a=0 by simp [dY];omega]
 have:¬x.aV=a:=by omega
 simp [this]
theorem uq (a s:Int):iC [] a s=if s=0 then [] else [⟨a,s⟩]:=by simp [iC,dY,fB]
theorem qc {a s:Int}:∀ {l:List Entry} {x:Entry},x∈iC l a s->x∈l\/(x=⟨a,s⟩/\s≠0)
 |[],x,h=>by
  rw [uq] at h
  split at h
  ·cases h
  ·rename_i h0;exact .inr ⟨by simpa using h,h0⟩
 |y::l,x,h=>by
  have one:x∈(if s=0 then [] else [(⟨a,s⟩:Entry)])->x=⟨a,s⟩/\s≠0:=fun h=>by
   split at h
   ·cases h
   ·rename_i h0;exact ⟨by simpa using h,h0⟩
  rcases Int.lt_trichotomy y.aV a with h1|h1|h1
  ·rw [sH h1] at h
   rcases List.mem_cons.1 h with rfl|h
   ·exact .inl List.mem_cons_self
   ·rcases qc h with h|h
    ·exact .inl (List.mem_cons_of_mem _ h)
    ·exact .inr h
  ·rw [sG h1] at h
   rcases List.mem_append.1 h with h|h
   ·exact .inr (one h)
   ·exact .inl (List.mem_cons_of_mem _ h)
  ·rw [ur h1] at h
   rcases List.mem_append.1 h with h|h
   ·exact .inr (one h)
   ·exact .inl h
theorem oQ {x:Entry} {l:List Entry}:Up (x::l)↔(∀ y∈l,x.aV < y.aV)/\Up l:=List.pairwise_cons
theorem wB {a s:Int}:∀ {l:List Entry},Up l->Up (iC l a s)
 |[],_=>by rw [uq];split;exact List.Pairwise.nil;exact List.pairwise_singleton _ _
 |y::l,h=>by
  obtain ⟨h1,h2⟩:=oQ.1 h
  rcases Int.lt_trichotomy y.aV a with h3|h3|h3
  ·rw [sH h3]
   refine oQ.2 ⟨fun z hz=>?_,wB h2⟩
   rcases qc hz with hz|⟨rfl,_⟩
   ·exact h1 z hz
   ·exact h3
  ·rw [sG h3]
   split
   ·exact h2
   ·exact oQ.2 ⟨fun z hz=>by have:=h1 z hz;show a < z.aV;omega,h2⟩
  ·rw [ur h3]
   split
   ·exact h
   ·exact oQ.2 ⟨fun z hz=>by
     show a < z.aV
     rcases List.mem_cons.1 hz with rfl|hz
     ·exact h3
     ·have:=h1 z hz;omega,h⟩
theorem xK {l:List Entry} {a s:Int} (h:ku l) (ha:0<=a/\a<=57) (hs:-1000000000000<=s/\s<=1000000000000):ku (iC l a s):=
 ⟨wB h.up,fun x hx=>by
  rcases qc hx with hx|⟨rfl,h0⟩
  ·exact h.ok x hx
  ·exact ⟨ha.1,ha.2,hs.1,hs.2,h0⟩⟩
def iD:List Entry->List Entry->Option (List Entry)
 |l,[]=>some l
 |l,e::es=>if ig (jj l e.aV+e.sum)=true then iD (iC l e.aV (jj l e.aV+e.sum)) es else none
def ic (l es:List Entry):List Entry×Int:=
 if (fk l).err≠0 then ([],(fk l).err)
 else if es.length > 10 then ([],5)
 else if ∃ x∈es,fw x then ([],3)
 else if gb es≠0 then ([],8)
 else match iD l es with
  |some r=>(r,0)
  |none=>([],4)
theorem zL {s:Int}:ig s=true↔-1000000000000<=s/\s<=1000000000000:=by
 unfold ig;simp only [Bool.and_eq_true,decide_eq_true_eq,ge_iff_le]
theorem pA {l es:List Entry} {q:Nat} {e:Entry} (h:es[q]?=some e):iD l (es.drop q)=if ig (jj l e.aV+e.sum)=true then iD (iC l e.aV (jj l e.aV+e.sum)) (es.drop (q+1)) else none:=by
 obtain ⟨hq,rfl⟩:=List.getElem?_eq_some_iff.1 h
 rw [List.drop_eq_getElem_cons hq];rfl


theorem pM (l:List Int) (hl:l.length * 8<=140737488355328):Fn Try.prog 95 [(.c (cX l))] (aC (.s 0 0 1 l.length)) [(0,.arr 3 1 (l.map rI))]:=by
 refine Fn.mk' 8 [(0,(aC (cX l)))] Try.func95 rfl rfl rfl rfl ?_
 intro W0 T0
 refine dk 0 rfl (fun hlen0=>?_)
 refine ae aa 1 rfl ?_
 refine ag ?_
 refine aH aa 1 rfl ?_
 refine ik (ah.plain rfl) rfl rfl Try.underlying30 rfl rfl (fun bn1 hbn1=>?_)
 refine af ?_
 refine aj rfl (fun hc2=>?_) (fun hc2=>?_)
 ·
  have hc2':=hc2;try simp only [bq,bM] at hc2'
  refine ae aa 1 rfl ?_
  refine az ?_
  refine ar ?_
  refine dc (aE.nil 2 3 1 (by decide) rfl) ?_
  refine an aa [0] 1 rfl rfl rfl rfl rfl rfl ?_ ?_
  ·(have h0:=hbn1 (by assumption);have h1:l=[]:=by (cases l with|nil=>rfl|cons=>simp at h0));subst h1;rfl
  ·(have h0:=hbn1 (by assumption);have h1:l=[]:=by (cases l with|nil=>rfl|cons=>simp at h0));subst h1;rfl
 have hc2':=hc2;try simp only [bq,bM] at hc2'
 refine aP ?_
 refine eV ?_
 refine aR 1 [0] (dJ (ys:=[]) (rows:=(([]:List Int)).map rI) 0 mW rfl (by decide) trivial rfl rfl rfl rfl) rfl ?_
 refine ad aa 1 rfl ?_
 refine aR 2 [1] (dp (m:=l.length) (N:=l.length) (k2:=1) (ys:=(l).map rI) mW rfl rfl rfl rfl rfl rfl (by first|omega|(simp;omega)|(simp;done)) rfl (.d _ _) (by first|omega|(simp;omega)|(simp;done)) (by first|omega|(simp;omega)|(simp;done)) rfl (by decide) (by first|omega|(simp;omega)|(simp;done)) (by first|omega|(simp;omega)|(simp;done))) rfl ?_
 refine ad aa 1 rfl ?_
 refine af ?_
 refine az ?_
 refine an aa [1] 1 rfl rfl rfl rfl rfl rfl ?_ ?_
 ·first|rfl|simp [fM,aC]
 ·first|rfl|simp
theorem mN (l:List cj) (hl:l.length * 32<=140737488355328):Fn Try.prog 99 [(.c (dV l))] (aC (.s 0 0 4 l.length)) [(0,.arr 107 4 (l.map iq))]:=by
 refine Fn.mk' 8 [(0,(aC (dV l)))] Try.func99 rfl rfl rfl rfl ?_
 intro W0 T0
 refine dk 0 rfl (fun hlen0=>?_)
 refine ae aa 1 rfl ?_
 refine ag ?_
 refine aH aa 1 rfl ?_
 refine ik (ah.plain rfl) rfl rfl Try.underlying39 rfl rfl (fun bn1 hbn1=>?_)
 refine af ?_
 refine aj rfl (fun hc2=>?_) (fun hc2=>?_)
 ·
  have hc2':=hc2;try simp only [bq,bM] at hc2'
  refine ae aa 1 rfl ?_
  refine az ?_
  refine ar ?_
  refine dc (aE.nil 2 107 4 (by decide) rfl) ?_
  refine an aa [0] 1 rfl rfl rfl rfl rfl rfl ?_ ?_
  ·(have h0:=hbn1 (by assumption);have h1:l=[]:=by (cases l with|nil=>rfl|cons=>simp at h0));subst h1;rfl
  ·(have h0:=hbn1 (by assumption);have h1:l=[]:=by (cases l with|nil=>rfl|cons=>simp at h0));subst h1;rfl
 have hc2':=hc2;try simp only [bq,bM] at hc2'
 refine aP ?_
 refine eV ?_
 refine aR 1 [0] (dJ (ys:=[]) (rows:=(([]:List cj)).map iq) 0 xI rfl (by decide) trivial rfl rfl rfl rfl) rfl ?_
 refine ad aa 1 rfl ?_
 refine aR 2 [1] (dp (m:=l.length) (N:=l.length) (k2:=1) (ys:=(l).map iq) xI rfl rfl rfl rfl rfl rfl (by first|omega|(simp;omega)|(simp;done)) rfl (.d _ _) (by first|omega|(simp;omega)|(simp;done)) (by first|omega|(simp;omega)|(simp;done)) rfl (by decide) (by first|omega|(simp;omega)|(simp;done)) (by first|omega|(simp;omega)|(simp;done))) rfl ?_
 refine ad aa 1 rfl ?_
 refine af ?_
 refine az ?_
 refine an aa [1] 1 rfl rfl rfl rfl rfl rfl ?_ ?_
 ·first|rfl|simp [fM,aC]
 ·first|rfl|simp
theorem pN (l:List de) (hl:l.length * 16<=140737488355328):Fn Try.prog 114 [(.c (eD l))] (aC (.s 0 0 2 l.length)) [(0,.arr 125 2 (l.map gX))]:=by
 refine Fn.mk' 8 [(0,(aC (eD l)))] Try.func114 rfl rfl rfl rfl ?_
 intro W0 T0
 refine dk 0 rfl (fun hlen0=>?_)
 refine ae aa 1 rfl ?_
 refine ag ?_
 refine aH aa 1 rfl ?_
 refine ik (ah.plain rfl) rfl rfl Try.underlying59 rfl rfl (fun bn1 hbn1=>?_)
 refine af ?_
 refine aj rfl (fun hc2=>?_) (fun hc2=>?_)
 ·
  have hc2':=hc2;try simp only [bq,bM] at hc2'
  refine ae aa 1 rfl ?_
  refine az ?_
  refine ar ?_
  refine dc (aE.nil 2 125 2 (by decide) rfl) ?_
  refine an aa [0] 1 rfl rfl rfl rfl rfl rfl ?_ ?_
  ·(have h0:=hbn1 (by assumption);have h1:l=[]:=by (cases l with|nil=>rfl|cons=>simp at h0));subst h1;rfl
  ·(have h0:=hbn1 (by assumption);have h1:l=[]:=by (cases l with|nil=>rfl|cons=>simp at h0));subst h1;rfl
 have hc2':=hc2;try simp only [bq,bM] at hc2'
 refine aP ?_
 refine eV ?_
 refine aR 1 [0] (dJ (ys:=[]) (rows:=(([]:List de)).map gX) 0 nX rfl (by decide) trivial rfl rfl rfl rfl) rfl ?_
 refine ad aa 1 rfl ?_
 refine aR 2 [1] (dp (m:=l.length) (N:=l.length) (k2:=1) (ys:=(l).map gX) nX rfl rfl rfl rfl rfl rfl (by first|omega|(simp;omega)|(simp;done)) rfl (.d _ _) (by first|omega|(simp;omega)|(simp;done)) (by first|omega|(simp;omega)|(simp;done)) rfl (by decide) (by first|omega|(simp;omega)|(simp;done)) (by first|omega|(simp;omega)|(simp;done))) rfl ?_
 refine ad aa 1 rfl ?_
 refine af ?_
 refine az ?_
 refine an aa [1] 1 rfl rfl rfl rfl rfl rfl ?_ ?_
 ·first|rfl|simp [fM,aC]
 ·first|rfl|simp
theorem lF (l:List bu) (hl:l.length * 32<=140737488355328):Fn Try.prog 106 [(.c (cm l))] (aC (.s 0 0 4 l.length)) [(0,.arr 80 4 (l.map fy))]:=by
 refine Fn.mk' 8 [(0,(aC (cm l)))] Try.func106 rfl rfl rfl rfl ?_
 intro W0 T0
 refine dk 0 rfl (fun hlen0=>?_)
 refine ae aa 1 rfl ?_
 refine ag ?_
 refine aH aa 1 rfl ?_
 refine ik (ah.plain rfl) rfl rfl Try.underlying32 rfl rfl (fun bn1 hbn1=>?_)
 refine af ?_
 refine aj rfl (fun hc2=>?_) (fun hc2=>?_)
 ·
  have hc2':=hc2;try simp only [bq,bM] at hc2'
  refine ae aa 1 rfl ?_
  refine az ?_
  refine ar ?_
  refine dc (aE.nil 2 80 4 (by decide) rfl) ?_
  refine an aa [0] 1 rfl rfl rfl rfl rfl rfl ?_ ?_
  ·(have h0:=hbn1 (by assumption);have h1:l=[]:=by (cases l with|nil=>rfl|cons=>simp at h0));subst h1;rfl
  ·(have h0:=hbn1 (by assumption);have h1:l=[]:=by (cases l with|nil=>rfl|cons=>simp at h0));subst h1;rfl
 have hc2':=hc2;try simp only [bq,bM] at hc2'
 refine aP ?_
 refine eV ?_
 refine aR 1 [0] (dJ (ys:=[]) (rows:=(([]:List bu)).map fy) 0 uo rfl (by decide) trivial rfl rfl rfl rfl) rfl ?_
 refine ad aa 1 rfl ?_
 refine aR 2 [1] (dp (m:=l.length) (N:=l.length) (k2:=1) (ys:=(l).map fy) uo rfl rfl rfl rfl rfl rfl (by first|omega|(simp;omega)|(simp;done)) rfl (.d _ _) (by first|omega|(simp;omega)|(simp;done)) (by first|omega|(simp;omega)|(simp;done)) rfl (by decide) (by first|omega|(simp;omega)|(simp;done)) (by first|omega|(simp;omega)|(simp;done))) rfl ?_
 refine ad aa 1 rfl ?_
 refine af ?_
 refine az ?_
 refine an aa [1] 1 rfl rfl rfl rfl rfl rfl ?_ ?_
 ·first|rfl|simp [fM,aC]
 ·first|rfl|simp
theorem tO (l:List Entry) (hl:l.length * 16<=140737488355328):Fn Try.prog 115 [(.c (da l))] (aC (.s 0 0 2 l.length)) [(0,.arr 115 2 (l.map ey))]:=by
 refine Fn.mk' 8 [(0,(aC (da l)))] Try.func115 rfl rfl rfl rfl ?_
 intro W0 T0
 refine dk 0 rfl (fun hlen0=>?_)
 refine ae aa 1 rfl ?_
 refine ag ?_
 refine aH aa 1 rfl ?_
 refine ik (ah.plain rfl) rfl rfl Try.underlying44 rfl rfl (fun bn1 hbn1=>?_)
 refine af ?_
 refine aj rfl (fun hc2=>?_) (fun hc2=>?_)
 ·
  have hc2':=hc2;try simp only [bq,bM] at hc2'
  refine ae aa 1 rfl ?_
  refine az ?_
  refine ar ?_
  refine dc (aE.nil 2 115 2 (by decide) rfl) ?_
  refine an aa [0] 1 rfl rfl rfl rfl rfl rfl ?_ ?_
  ·(have h0:=hbn1 (by assumption);have h1:l=[]:=by (cases l with|nil=>rfl|cons=>simp at h0));subst h1;rfl
  ·(have h0:=hbn1 (by assumption);have h1:l=[]:=by (cases l with|nil=>rfl|cons=>simp at h0));subst h1;rfl
 have hc2':=hc2;try simp only [bq,bM] at hc2'
 refine aP ?_
 refine eV ?_
 refine aR 1 [0] (dJ (ys:=[]) (rows:=(([]:List Entry)).map ey) 0 jU rfl (by decide) trivial rfl rfl rfl rfl) rfl ?_
 refine ad aa 1 rfl ?_
 refine aR 2 [1] (dp (m:=l.length) (N:=l.length) (k2:=1) (ys:=(l).map ey) jU rfl rfl rfl rfl rfl rfl (by first|omega|(simp;omega)|(simp;done)) rfl (.d _ _) (by first|omega|(simp;omega)|(simp;done)) (by first|omega|(simp;omega)|(simp;done)) rfl (by decide) (by first|omega|(simp;omega)|(simp;done)) (by first|omega|(simp;omega)|(simp;done))) rfl ?_
 refine ad aa 1 rfl ?_
 refine af ?_
 refine az ?_
 refine an aa [1] 1 rfl rfl rfl rfl rfl rfl ?_ ?_
 ·first|rfl|simp [fM,aC]
 ·first|rfl|simp
theorem mL (l:List al) (hl:l.length * 32<=140737488355328):Fn Try.prog 54 [(.c (ew l))] (aC (.s 0 0 4 l.length)) [(0,.arr 83 4 (l.map gY))]:=by
 refine Fn.mk' 8 [(0,(aC (ew l)))] Try.func54 rfl rfl rfl rfl ?_
 intro W0 T0
 refine dk 0 rfl (fun hlen0=>?_)
 refine ae aa 1 rfl ?_
 refine ag ?_
 refine aH aa 1 rfl ?_
 refine ik (ah.plain rfl) rfl rfl Try.underlying42 rfl rfl (fun bn1 hbn1=>?_)
 refine af ?_
 refine aj rfl (fun hc2=>?_) (fun hc2=>?_)
 ·
  have hc2':=hc2;try simp only [bq,bM] at hc2'
  refine ae aa 1 rfl ?_
  refine az ?_
  refine ar ?_
  refine dc (aE.nil 2 83 4 (by decide) rfl) ?_
  refine an aa [0] 1 rfl rfl rfl rfl rfl rfl ?_ ?_
  ·(have h0:=hbn1 (by assumption);have h1:l=[]:=by (cases l with|nil=>rfl|cons=>simp at h0));subst h1;rfl
  ·(have h0:=hbn1 (by assumption);have h1:l=[]:=by (cases l with|nil=>rfl|cons=>simp at h0));subst h1;rfl
 have hc2':=hc2;try simp only [bq,bM] at hc2'
 refine aP ?_
 refine eV ?_
 refine aR 1 [0] (dJ (ys:=[]) (rows:=(([]:List al)).map gY) 0 xH rfl (by decide) trivial rfl rfl rfl rfl) rfl ?_
 refine ad aa 1 rfl ?_
 refine aR 2 [1] (dp (m:=l.length) (N:=l.length) (k2:=1) (ys:=(l).map gY) xH rfl rfl rfl rfl rfl rfl (by first|omega|(simp;omega)|(simp;done)) rfl (.d _ _) (by first|omega|(simp;omega)|(simp;done)) (by first|omega|(simp;omega)|(simp;done)) rfl (by decide) (by first|omega|(simp;omega)|(simp;done)) (by first|omega|(simp;omega)|(simp;done))) rfl ?_
 refine ad aa 1 rfl ?_
 refine af ?_
 refine az ?_
 refine an aa [1] 1 rfl rfl rfl rfl rfl rfl ?_ ?_
 ·first|rfl|simp [fM,aC]
 ·first|rfl|simp


theorem vC (l:List Entry) (f:df) (hr:fk l=f):Fn Try.prog 33 [(.c (da l))] (.v (.g [(cI f.err),(cI f.at_)])) []:=by
 refine Fn.mk' 64 [(0,(aC (da l)))] Try.func33 rfl rfl rfl rfl ?_
 intro W0 T0
 refine dk 0 rfl (fun hlen0=>?_)
 refine ae aa 1 rfl ?_
 refine ae aa 1 rfl ?_
 refine ag ?_
 refine aH aa 1 rfl ?_
 refine ay (bN rfl rfl rfl rfl rfl Try.underlying44) rfl ?_
 refine ad aa 1 rfl ?_
 refine af ?_
 refine aU ?_
 refine cg (β:=Nat) (fun (q:Nat)=>⟨[(0,(aC (da l))),(2,(aC (.p 0 0 0 0))),(3,(aI (gb (l.take q)))),(6,(aC (da l))),(7,(aI (↑l.length:Int))),(8,(aI (↑q:Int)))],[(0,(.box 50 [(cI 0),(cI 0)]))],1⟩) (fun (q:Nat)=>q<=l.length/\scan (kS l) 0 l.length=scan (kS l) q (l.length - q)/\(q:Int) - 1<=iy l q/\iy l q<=57/\-1000000000000 * (q:Int)<=gb (l.take q)/\gb (l.take q)<=1000000000000 * (q:Int)) (fun (q:Nat)=>l.length - q) 0 ?_ ?_ ?_
 ·(have h1:iy l 0=-1:=rfl);(have h2:gb (l.take 0)=0:=rfl);exact ⟨by omega,rfl,by omega,by omega⟩
 ·exact aE.bR id (by refine ⟨?_,?_,?_,?_,?_,?_,trivial⟩<;>first|rfl|(simp only [bc];done)|(congr 3;omega)|(congr 4;omega)|(simp only [bd];rfl)) (⟨by first|rfl|(simp only [bc];done)|(congr 3;omega)|(congr 4;omega)|(simp only [bd];rfl),trivial⟩) rfl
 rintro q ⟨hi0_0,hi0_1,hi0_2,hi0_3⟩
 refine ae aa 1 rfl ?_
 refine ag ?_
 refine aj rfl (fun hc1=>?_) (fun hc1=>?_)
 ·
  have hc1':=of_decide_eq_true hc1
  refine aP ?_
  refine ag ?_
  refine aU ?_
  refine aH aa 1 rfl ?_
  obtain ⟨x1,hx1⟩:=cb (xs:=l) (i:=q) (by first|omega|(simp;done)|(simp;omega))
  refine ay (bV (i:=q) rfl rfl rfl Try.underlying44 dW (by first|omega|(simp;done)|(simp;omega)) (bf hx1)) rfl ?_
  refine ad aa 4 rfl ?_
  refine af ?_
  refine ag ?_
  refine aU ?_
  refine ch 13 ((((decide (x1.aV < 0))||(decide (x1.aV>=58)))||(decide (x1.sum < (-1000000000000))))||(decide (x1.sum > 1000000000000))) ?_ ?_
  ·
   refine au ?_
   refine ad aa 4 rfl ?_
   refine bE (t:=17) rfl (fun hb2=>?_) (fun hb2=>?_)
   ·
    have hb2':=of_decide_eq_true hb2
    refine ad aa 15 rfl ?_
    refine af ?_
    exact aE.bB 20 rfl rfl (by first|(simp [hb2];done)|(simp_all;done)|(exfalso;simp_all;done)|(simp_all;omega)) rfl
   have hb2':=of_decide_eq_false hb2
   refine ad aa 5 rfl ?_
   refine bE (t:=22) rfl (fun hb3=>?_) (fun hb3=>?_)
   ·
    have hb3':=of_decide_eq_true hb3
    refine ad aa 10 rfl ?_
    refine af ?_
    exact aE.bB 21 rfl rfl (by first|(simp [hb2,hb3];done)|(simp_all;done)|(exfalso;simp_all;done)|(simp_all;omega)) rfl
   have hb3':=of_decide_eq_false hb3
   refine ad aa 5 rfl ?_
   refine bE (t:=27) rfl (fun hb4=>?_) (fun hb4=>?_)
   ·
    have hb4':=of_decide_eq_true hb4
    refine ad aa 5 rfl ?_
    refine af ?_
    exact aE.bB 22 rfl rfl (by first|(simp [hb2,hb3,hb4];done)|(simp_all;done)|(exfalso;simp_all;done)|(simp_all;omega)) rfl
   have hb4':=of_decide_eq_false hb4
   refine ad aa 5 rfl ?_
   refine af ?_
   exact aE.bB 22 rfl rfl (by first|(simp [hb2,hb3,hb4];done)|(simp_all;done)|(exfalso;simp_all;done)|(simp_all;omega)) rfl
  refine aj rfl (fun hc5=>?_) (fun hc5=>?_)
  ·
   have hc5':=hc5;try simp only [bq,bM] at hc5'
   refine ae aa 3 rfl ?_
   refine az ?_
   refine bo ?_
   refine ar ?_
   refine bo ?_
   refine ar ?_
   refine ar ?_
   refine bo ?_
   refine ar ?_
   have hX:fk l=(⟨3,(↑q:Int)⟩:df):=by
     (have hb:fw x1:=by unfold fw;omega);(have h0:=ib (e:=kS l) (q:=q) (n:=l.length) (by omega) (by rw [hP hx1,if_pos hb]) (by decide:(3:Int)≠0));(unfold fk;rw [hi0_1,h0];rfl)
   rw [hX] at hr;clear hX
   subst hr
   refine an aa [0] 0 rfl rfl rfl rfl rfl rfl ?_ ?_
   all_goals first|rfl|(simp [aA];done)|(simp [aA];omega)
  have hc5':=hc5;try simp only [bq,bM] at hc5'
  refine ag ?_
  rcases Bool.eq_false_or_eq_true (decide ((↑q:Int) > 0)) with hb6|hb6
  ·
   have hb6':=of_decide_eq_true hb6
   obtain ⟨x2,hx2⟩:=cb (xs:=l) (i:=(q) - 1) (by first|omega|(simp;done)|(simp;omega))
   rcases Bool.eq_false_or_eq_true (decide (x2.aV>=x1.aV)) with hb7|hb7
   ·
    have hb7':=of_decide_eq_true hb7
    refine aW [0,2,3,6,7,8,5,4] [1,0] mixed rfl rfl ?_
    refine aw (kn:=[(36,true)]) aa 5 rfl ⟨hb6,trivial⟩ ?_
    refine aM (n':=2) [39,37] [] rfl rfl (.inl ⟨(ah.yes rfl rfl rfl),aF.cast (aJ rfl rfl rfl (aL (by first|omega|(simp;done)|(simp;omega)))) rfl⟩) rfl ?_
    refine aM (n':=2) [38,40,37] [] rfl rfl (.inl ⟨(ah.yes rfl rfl rfl),aF.cast (bV (i:=(q) - 1) rfl rfl rfl Try.underlying44 dW (by first|omega|(simp;done)|(simp;omega)) (bf hx2)) rfl⟩) rfl ?_
    refine aw (kn:=[(46,true)]) aa 12 rfl ⟨hb7,trivial⟩ ?_
    refine bw [1,0] rfl rfl rfl rfl (by kernel_rfl) ?_
    refine af ?_
    refine aj rfl (fun _=>?_) (fun hno=>by cases hno)
    refine ae aa 3 rfl ?_
    refine az ?_
    refine bo ?_
    refine ar ?_
    refine bo ?_
    refine ar ?_
    refine ar ?_
    refine bo ?_
    refine ar ?_
    have hX:fk l=(⟨2,(↑q:Int)⟩:df):=by
      (have hb:¬fw x1:=by unfold fw;omega);(have hla:=kG (by omega) hx2);(have h0:=ib (e:=kS l) (q:=q) (n:=l.length) (by omega) (by rw [hP hx1,if_neg hb,if_pos (by omega)]) (by decide:(2:Int)≠0));(unfold fk;rw [hi0_1,h0];rfl)
    rw [hX] at hr;clear hX
    subst hr
    refine an aa [0] 0 rfl rfl rfl rfl rfl rfl ?_ ?_
    all_goals first|rfl|(simp [aA];done)|(simp [aA];omega)
   have hb7':=of_decide_eq_false hb7
   refine aW [0,2,3,6,7,8,5,4] [1,0] mixed rfl rfl ?_
   refine aw (kn:=[(36,true)]) aa 5 rfl ⟨hb6,trivial⟩ ?_
   refine aM (n':=2) [39,37] [] rfl rfl (.inl ⟨(ah.yes rfl rfl rfl),aF.cast (aJ rfl rfl rfl (aL (by first|omega|(simp;done)|(simp;omega)))) rfl⟩) rfl ?_
   refine aM (n':=2) [38,40,37] [] rfl rfl (.inl ⟨(ah.yes rfl rfl rfl),aF.cast (bV (i:=(q) - 1) rfl rfl rfl Try.underlying44 dW (by first|omega|(simp;done)|(simp;omega)) (bf hx2)) rfl⟩) rfl ?_
   refine aw (kn:=[(46,false)]) aa 12 rfl ⟨hb7,trivial⟩ ?_
   refine bw [1,0] rfl rfl rfl rfl (by kernel_rfl) ?_
   refine af ?_
   refine aj rfl (fun hc9=>?_) (fun hc9=>?_)
   ·
    have hc9':=of_decide_eq_true hc9
    refine ae aa 3 rfl ?_
    refine az ?_
    refine bo ?_
    refine ar ?_
    refine bo ?_
    refine ar ?_
    refine ar ?_
    refine bo ?_
    refine ar ?_
    have hX:fk l=(⟨2,(↑q:Int)⟩:df):=by
      (have hb:¬fw x1:=by unfold fw;omega);(have hla:=kG (by omega) hx2);(have h0:=ib (e:=kS l) (q:=q) (n:=l.length) (by omega) (by rw [hP hx1,if_neg hb,if_pos (by omega)]) (by decide:(2:Int)≠0));(unfold fk;rw [hi0_1,h0];rfl)
    rw [hX] at hr;clear hX
    subst hr
    refine an aa [0] 0 rfl rfl rfl rfl rfl rfl ?_ ?_
    all_goals first|rfl|(simp [aA];done)|(simp [aA];omega)
   have hc9':=of_decide_eq_false hc9
   refine cD ?_
   refine bl ?_
   refine then_ok ?_
   refine au ?_
   refine ad aa 3 rfl ?_
   refine ay (aJ rfl rfl rfl (aL (by first|omega|(simp;done)|(simp;omega)))) rfl ?_
   refine ad aa 1 rfl ?_
   refine cc ?_
   refine bl ?_
   refine then_ok ?_
   refine au ?_
   refine ay (aJ rfl rfl rfl (aL (by first|omega|(simp;done)|(simp;omega)))) rfl ?_
   refine ad aa 1 rfl ?_
   refine af ?_
   refine ⟨q+1,⟨by omega,by rw [hi0_1];exact mE (by omega) (by have hla:=kG (by omega) hx2;rw [hP hx1,if_neg (by unfold fw;omega),if_neg (by omega)]),by rw [jI hx1];have hla:=kG (by omega) hx2;omega,by rw [jI hx1,jm hx1];omega⟩,by first|omega|(simp;done)|(simp;omega),aE.bR id (by refine ⟨?_,?_,?_,?_,?_,?_,trivial⟩<;>first|rfl|(simp only [bc];done)|(congr 3;omega)|(congr 4;omega)|(simp only [bd];rfl)|(rw [jm hx1];rfl)) (⟨by first|rfl|(simp only [bc];done)|(congr 3;omega)|(congr 4;omega)|(simp only [bd];rfl),trivial⟩) rfl⟩
  have hb6':=of_decide_eq_false hb6
  refine aW [0,2,3,6,7,8,5,4] [1,0] mixed rfl rfl ?_
  refine aw (kn:=[(36,false)]) aa 19 rfl ⟨hb6,trivial⟩ ?_
  refine bw [1,0] rfl rfl rfl rfl (by kernel_rfl) ?_
  refine af ?_
  refine aj rfl (fun hc10=>?_) (fun hc10=>?_)
  ·
   have hc10':=of_decide_eq_true hc10
   refine ae aa 3 rfl ?_
   refine az ?_
   refine bo ?_
   refine ar ?_
   refine bo ?_
   refine ar ?_
   refine ar ?_
   refine bo ?_
   refine ar ?_
   have hX:fk l=(⟨2,(↑q:Int)⟩:df):=by
     (have hb:¬fw x1:=by unfold fw;omega);(have h0:=ib (e:=kS l) (q:=q) (n:=l.length) (by omega) (by rw [hP hx1,if_neg hb,if_pos (by omega)]) (by decide:(2:Int)≠0));(unfold fk;rw [hi0_1,h0];rfl)
   rw [hX] at hr;clear hX
   subst hr
   refine an aa [0] 0 rfl rfl rfl rfl rfl rfl ?_ ?_
   all_goals first|rfl|(simp [aA];done)|(simp [aA];omega)
  have hc10':=of_decide_eq_false hc10
  refine cD ?_
  refine bl ?_
  refine then_ok ?_
  refine au ?_
  refine ad aa 3 rfl ?_
  refine ay (aJ rfl rfl rfl (aL (by first|omega|(simp;done)|(simp;omega)))) rfl ?_
  refine ad aa 1 rfl ?_
  refine cc ?_
  refine bl ?_
  refine then_ok ?_
  refine au ?_
  refine ay (aJ rfl rfl rfl (aL (by first|omega|(simp;done)|(simp;omega)))) rfl ?_
  refine ad aa 1 rfl ?_
  refine af ?_
  refine ⟨q+1,⟨by omega,by rw [hi0_1];exact mE (by omega) (by have hla:iy l q=-1:=(by unfold iy;rw [if_pos (by omega)]);rw [hP hx1,if_neg (by unfold fw;omega),if_neg (by omega)]),by rw [jI hx1];have hla:iy l q=-1:=(by unfold iy;rw [if_pos (by omega)]);omega,by rw [jI hx1,jm hx1];omega⟩,by first|omega|(simp;done)|(simp;omega),aE.bR id (by refine ⟨?_,?_,?_,?_,?_,?_,trivial⟩<;>first|rfl|(simp only [bc];done)|(congr 3;omega)|(congr 4;omega)|(simp only [bd];rfl)|(rw [jm hx1];rfl)) (⟨by first|rfl|(simp only [bc];done)|(congr 3;omega)|(congr 4;omega)|(simp only [bd];rfl),trivial⟩) rfl⟩
 have hc1':=of_decide_eq_false hc1
 refine bZ ?_
 refine aN ?_
 refine aN ?_
 refine bC ?_
 refine then_ok ?_
 refine ag ?_
 refine ae aa 2 rfl ?_
 refine aj rfl (fun hc11=>?_) (fun hc11=>?_)
 ·
  have hc11':=of_decide_eq_true hc11
  refine ae aa 2 rfl ?_
  refine az ?_
  refine ar ?_
  have hX:fk l=(⟨8,0⟩:df):=by
    (obtain rfl:q=l.length:=by omega);rw [List.take_length] at *;(unfold fk;rw [hi0_1,mY (by omega)];rw [if_neg (by decide),if_pos (by omega)])
  rw [hX] at hr;clear hX
  subst hr
  refine an aa [0] 0 rfl rfl rfl rfl rfl rfl ?_ ?_
  all_goals first|rfl|(simp [aA];done)|(simp [aA];omega)
 have hc11':=of_decide_eq_false hc11
 refine aP ?_
 refine ae aa 2 rfl ?_
 refine az ?_
 have hX:fk l=(⟨0,0⟩:df):=by
   (obtain rfl:q=l.length:=by omega);rw [List.take_length] at *;(unfold fk;rw [hi0_1,mY (by omega)];rw [if_neg (by decide),if_neg (by omega)])
 rw [hX] at hr;clear hX
 subst hr
 refine an aa [0] 0 rfl rfl rfl rfl rfl rfl ?_ ?_
 all_goals first|rfl|(simp [aA];done)|(simp [aA];omega)


theorem uH {l es:List Entry} (h0:(fk l).err=0) (h1:es.length<=10) (h2:∀ x∈es,¬fw x) (h3:gb es=0):ic l es=match iD l es with
    |some r=>(r,0)
    |none=>([],4):=by
  unfold ic
  rw [if_neg (by omega),if_neg (by omega),if_neg (fun ⟨x,hx,hb⟩=>h2 x hx hb),if_neg (by omega)]
  all_goals (cases iD l es<;>rfl)
theorem sR {es:List Entry} {q:Nat} (h:∀ x∈es.take q,¬fw x) (hq:es.length<=q):∀ x∈es,¬fw x:=by
  rwa [List.take_of_length_le hq] at h
theorem xV {es:List Entry} {q:Nat} {x:Entry} (h:∀ x∈es.take q,¬fw x) (hx:es[q]?=some x) (hb:¬fw x):∀ x∈es.take (q+1),¬fw x:=by
  rw [ss hx]
  intro y hy
  rcases List.mem_append.1 hy with hy|hy
  ·exact h y hy
  ·rw [List.mem_singleton.1 hy];exact hb
theorem wz {es:List Entry} {q:Nat} (hq:es.length<=q):gb (es.take q)=gb es:=by rw [List.take_of_length_le hq]
theorem CG {l m es:List Entry} {q:Nat} (h:iD l es=iD m (es.drop q)) (hq:es.length<=q):iD l es=some m:=by
  rw [h,List.drop_of_length_le hq];rfl
theorem wm (l es:List Entry) (r:List Entry) (e:Int) (hr:ic l es=(r,e)):Fn Try.prog 111 [(.c (da l)),(.c (da es))] (.t [(.c (.s 0 0 2 r.length)),(.c (cI e))]) [(0,(lI r))]:=by
 refine Fn.mk' 75 [(0,(aC (da l))),(1,(aC (da es)))] Try.func111 rfl rfl rfl rfl ?_
 intro W0 T0
 refine dk 0 rfl (fun hlen0=>?_)
 refine dk 1 rfl (fun hlen1=>?_)
 refine ae aa 2 rfl ?_
 refine ag ?_
 refine aH aa 1 rfl ?_
 obtain ⟨f0,hr0⟩:∃ (f0:df),fk l=f0:=⟨_,rfl⟩
 refine aR 0 [] (bX 0 (vC l f0 hr0) GZ rfl rfl ⟨⟨_,rfl,.c (.d _)⟩,trivial⟩ ⟨trivial,trivial,trivial⟩ trivial rfl rfl rfl rfl) rfl ?_
 refine ad aa 2 rfl ?_
 refine af ?_
 refine ae aa 3 rfl ?_
 refine aj rfl (fun hc1=>?_) (fun hc1=>?_)
 ·
  have hc1':=of_decide_eq_true hc1
  refine ag ?_
  refine aW [0,1,6] [0] mixed rfl rfl ?_
  refine aw (kn:=[]) aa 4 rfl trivial ?_
  refine bw [0] rfl rfl rfl rfl (by kernel_rfl) ?_
  refine af ?_
  refine az ?_
  refine ar ?_
  refine dc (aE.nil 4 115 2 (by decide) rfl) ?_
  have hX:ic l es=(([]:List Entry),f0.err):=by
    unfold ic;rw [if_pos (by rw [hr0];omega),hr0]
  rw [hX] at hr;clear hX
  simp only [Prod.mk.injEq] at hr;obtain ⟨rfl,rfl⟩:=hr
  refine an aa [1] 1 rfl rfl rfl rfl rfl rfl ?_ ?_
  all_goals first|rfl|(simp [aA];done)|(simp [aA];omega)
 have hc1':=of_decide_eq_false hc1
 refine aP ?_
 refine ag ?_
 refine aH aa 1 rfl ?_
 refine ay (bN rfl rfl rfl rfl rfl Try.underlying44) rfl ?_
 refine ad aa 1 rfl ?_
 refine af ?_
 refine aj rfl (fun hc2=>?_) (fun hc2=>?_)
 ·
  have hc2':=of_decide_eq_true hc2
  refine ae aa 2 rfl ?_
  refine az ?_
  refine ar ?_
  refine dc (aE.nil 4 115 2 (by decide) rfl) ?_
  have hX:ic l es=(([]:List Entry),5):=by
    unfold ic;rw [if_neg (by rw [hr0];omega),if_pos (by omega)]
  rw [hX] at hr;clear hX
  simp only [Prod.mk.injEq] at hr;obtain ⟨rfl,rfl⟩:=hr
  refine an aa [1] 1 rfl rfl rfl rfl rfl rfl ?_ ?_
  all_goals first|rfl|(simp [aA];done)|(simp [aA];omega)
 have hc2':=of_decide_eq_false hc2
 refine aP ?_
 refine ae aa 1 rfl ?_
 refine ag ?_
 refine aH aa 1 rfl ?_
 refine ay (bN rfl rfl rfl rfl rfl Try.underlying44) rfl ?_
 refine ad aa 1 rfl ?_
 refine af ?_
 refine aU ?_
 refine cg (β:=Nat) (fun (q:Nat)=>⟨[(0,(aC (da l))),(1,(aC (da es))),(7,(aI (gb (es.take q)))),(25,(aC (da es))),(26,(aI (↑es.length:Int))),(27,(aI (↑q:Int)))],[],0⟩) (fun (q:Nat)=>q<=es.length/\(∀ x∈es.take q,¬fw x)/\-1000000000000 * (q:Int)<=gb (es.take q)/\gb (es.take q)<=1000000000000 * (q:Int)) (fun (q:Nat)=>es.length - q) 0 ?_ ?_ ?_
 ·(have h2:gb (es.take 0)=0:=rfl);exact ⟨by omega,by intro x hx;simp at hx,by omega⟩
 ·exact aE.bR id (by refine ⟨?_,?_,?_,?_,?_,?_,trivial⟩<;>first|rfl|(simp only [bc];done)|(congr 3;omega)|(congr 4;omega)|(simp only [bd];rfl)) (trivial) rfl
 rintro q ⟨hi0_0,hi0_1,hi0_2⟩
 refine ae aa 1 rfl ?_
 refine ag ?_
 refine aj rfl (fun hc3=>?_) (fun hc3=>?_)
 ·
  have hc3':=of_decide_eq_true hc3
  refine aP ?_
  refine ag ?_
  refine aU ?_
  refine eV ?_
  obtain ⟨x1,hx1⟩:=cb (xs:=es) (i:=q) (by first|omega|(simp;done)|(simp;omega))
  refine ay (bV (i:=q) rfl rfl rfl Try.underlying44 dW (by first|omega|(simp;done)|(simp;omega)) (bf hx1)) rfl ?_
  refine ad aa 3 rfl ?_
  refine af ?_
  refine ag ?_
  refine ch 48 ((((decide (x1.aV < 0))||(decide (x1.aV>=58)))||(decide (x1.sum < (-1000000000000))))||(decide (x1.sum > 1000000000000))) ?_ ?_
  ·
   refine au ?_
   refine ad aa 4 rfl ?_
   refine bE (t:=34) rfl (fun hb4=>?_) (fun hb4=>?_)
   ·
    have hb4':=of_decide_eq_true hb4
    refine ad aa 14 rfl ?_
    refine af ?_
    exact aE.bB 19 rfl rfl (by first|(simp [hb4];done)|(simp_all;done)|(exfalso;simp_all;done)|(simp_all;omega)) rfl
   have hb4':=of_decide_eq_false hb4
   refine ad aa 5 rfl ?_
   refine bE (t:=39) rfl (fun hb5=>?_) (fun hb5=>?_)
   ·
    have hb5':=of_decide_eq_true hb5
    refine ad aa 9 rfl ?_
    refine af ?_
    exact aE.bB 20 rfl rfl (by first|(simp [hb4,hb5];done)|(simp_all;done)|(exfalso;simp_all;done)|(simp_all;omega)) rfl
   have hb5':=of_decide_eq_false hb5
   refine ad aa 5 rfl ?_
   refine bE (t:=44) rfl (fun hb6=>?_) (fun hb6=>?_)
   ·
    have hb6':=of_decide_eq_true hb6
    refine ad aa 4 rfl ?_
    refine af ?_
    exact aE.bB 21 rfl rfl (by first|(simp [hb4,hb5,hb6];done)|(simp_all;done)|(exfalso;simp_all;done)|(simp_all;omega)) rfl
   have hb6':=of_decide_eq_false hb6
   refine ad aa 4 rfl ?_
   refine af ?_
   exact aE.bB 21 rfl rfl (by first|(simp [hb4,hb5,hb6];done)|(simp_all;done)|(exfalso;simp_all;done)|(simp_all;omega)) rfl
  refine aj rfl (fun hc7=>?_) (fun hc7=>?_)
  ·
   have hc7':=hc7;try simp only [bq,bM] at hc7'
   refine ae aa 2 rfl ?_
   refine az ?_
   refine ar ?_
   refine bo ?_
   refine ar ?_
   refine ar ?_
   refine bo ?_
   refine ar ?_
   refine dc (aE.nil 4 115 2 (by decide) rfl) ?_
   have hX:ic l es=(([]:List Entry),3):=by
     unfold ic;rw [if_neg (by rw [hr0];omega),if_neg (by omega),if_pos ⟨x1,List.mem_of_getElem? hx1,by unfold fw;omega⟩]
   rw [hX] at hr;clear hX
   simp only [Prod.mk.injEq] at hr;obtain ⟨rfl,rfl⟩:=hr
   refine an aa [1] 1 rfl rfl rfl rfl rfl rfl ?_ ?_
   all_goals first|rfl|(simp [aA];done)|(simp [aA];omega)
  have hc7':=hc7;try simp only [bq,bM] at hc7'
  refine aP ?_
  refine au ?_
  refine ad aa 3 rfl ?_
  refine ay (aJ rfl rfl rfl (aL (by first|omega|(simp;done)|(simp;omega)))) rfl ?_
  refine ad aa 1 rfl ?_
  refine cc ?_
  refine bl ?_
  refine then_ok ?_
  refine au ?_
  refine ay (aJ rfl rfl rfl (aL (by first|omega|(simp;done)|(simp;omega)))) rfl ?_
  refine ad aa 1 rfl ?_
  refine af ?_
  refine ⟨q+1,⟨by omega,xV hi0_1 hx1 (by unfold fw;omega),by rw [jm hx1];omega⟩,by first|omega|(simp;done)|(simp;omega),aE.bR id (by refine ⟨?_,?_,?_,?_,?_,?_,trivial⟩<;>first|rfl|(simp only [bc];done)|(congr 3;omega)|(congr 4;omega)|(simp only [bd];rfl)|(rw [jm hx1];rfl)) (trivial) rfl⟩
 have hc3':=of_decide_eq_false hc3
 refine bZ ?_
 refine aN ?_
 refine aN ?_
 refine bC ?_
 refine then_ok ?_
 refine ag ?_
 refine ae aa 2 rfl ?_
 refine aj rfl (fun hc8=>?_) (fun hc8=>?_)
 ·
  have hc8':=of_decide_eq_true hc8
  refine ae aa 2 rfl ?_
  refine az ?_
  refine ar ?_
  refine dc (aE.nil 4 115 2 (by decide) rfl) ?_
  have hX:ic l es=(([]:List Entry),8):=by
    (have hs:=wz (es:=es) (q:=q) (by omega));(have hnb:=sR hi0_1 (by omega));unfold ic;rw [if_neg (by rw [hr0];omega),if_neg (by omega),if_neg (fun ⟨x,hx,hb⟩=>hnb x hx hb),if_pos (by omega)]
  rw [hX] at hr;clear hX
  simp only [Prod.mk.injEq] at hr;obtain ⟨rfl,rfl⟩:=hr
  refine an aa [0] 1 rfl rfl rfl rfl rfl rfl ?_ ?_
  all_goals first|rfl|(simp [aA];done)|(simp [aA];omega)
 have hc8':=of_decide_eq_false hc8
 refine aP ?_
 have h0:(fk l).err=0:=by rw [hr0];omega
 have hR:ku l:=(xz.1 h0).1
 have hRl:=sL hR
 have hs:=wz (es:=es) (q:=q) (by omega)
 have hnb:=sR hi0_1 (by omega)
 refine aH aa 1 rfl ?_
 refine aR 1 [0] (bX 0 (tO l (by first|omega|(simp;done)|(simp;omega))) Fz rfl rfl ⟨⟨_,rfl,.c (.d _)⟩,trivial⟩ trivial ⟨(fun _ _ _ _=>trivial),trivial⟩ rfl rfl rfl rfl) rfl ?_
 refine ad aa 1 rfl ?_
 refine af ?_
 refine ag ?_
 refine aH aa 1 rfl ?_
 refine ay (bN rfl rfl rfl rfl rfl Try.underlying44) rfl ?_
 refine ad aa 1 rfl ?_
 refine af ?_
 refine aU ?_
 refine cg (β:=Nat×List Entry) (fun (p:Nat×List Entry)=>match p with|(p,m)=>⟨[(0,(aC (da l))),(1,(aC (da es))),(7,(aI (gb (es.take q)))),(25,(aC (da es))),(26,(aI (↑es.length:Int))),(27,(aI (↑q:Int))),(10,(aC (.s 0 0 2 m.length))),(58,(aC (da es))),(59,(aI (↑es.length:Int))),(60,(aI (↑p:Int)))],[(0,(lI m))],1⟩) (fun (p:Nat×List Entry)=>match p with|(p,m)=>p<=es.length/\ku m/\iD l es=iD m (es.drop p)) (fun (p:Nat×List Entry)=>match p with|(p,m)=>es.length - p) (0,l) ?_ ?_ ?_
 ·exact ⟨by omega,hR,rfl⟩
 ·exact aE.bR id (by refine ⟨?_,?_,?_,?_,?_,?_,?_,?_,?_,?_,trivial⟩<;>first|rfl|(simp only [bc];done)|(congr 3;omega)|(congr 4;omega)|(simp only [bd];rfl)) (⟨by first|rfl|(simp only [bc];done)|(congr 3;omega)|(congr 4;omega)|(simp only [bd];rfl),trivial⟩) rfl
 rintro ⟨p,m⟩ ⟨hi1_0,hi1_1,hi1_2⟩
 refine ae aa 1 rfl ?_
 refine ag ?_
 refine aj rfl (fun hc9=>?_) (fun hc9=>?_)
 ·
  have hc9':=of_decide_eq_true hc9
  refine aP ?_
  refine ag ?_
  refine aU ?_
  refine eV ?_
  obtain ⟨x1,hx1⟩:=cb (xs:=es) (i:=p) (by first|omega|(simp;done)|(simp;omega))
  have hx1n:=hnb x1 (List.mem_of_getElem? hx1)
  have hx1b:0<=x1.aV/\x1.aV<=57/\-1000000000000<=x1.sum/\x1.sum<=1000000000000:=by unfold fw at hx1n;omega
  refine ay (bV (i:=p) rfl rfl rfl Try.underlying44 dW (by first|omega|(simp;done)|(simp;omega)) (bf hx1)) rfl ?_
  refine ad aa 3 rfl ?_
  refine af ?_
  refine aH aa 2 rfl ?_
  obtain ⟨r1,g1,hr1⟩:∃ (r1:List Entry) (g1:Bool),jC m x1=(r1,g1):=⟨_,_,rfl⟩
  obtain ⟨hp1,hg1⟩:=Prod.mk.inj hr1
  refine aR 3 [2,1] (cK id (bb [2]) (FP m x1 (by exact (show ku _ by assumption).up) (by (have:=sL (show ku _ by assumption);omega)) (by (intro y hy;have:=(show ku _ by assumption).ok y hy;omega)) (by (unfold fw at *;omega)) r1 g1 hr1) Fy rfl rfl ⟨⟨_,rfl,.inl ⟨rfl,rfl⟩⟩,⟨_,rfl,.inr (.g ⟨.d _,.d _,trivial⟩)⟩,trivial⟩ ⟨rfl,trivial⟩ rfl rfl rfl rfl rfl rfl ⟨trivial,trivial,trivial⟩ ⟨(fun _ _ _ _=>trivial),trivial⟩ rfl rfl rfl rfl) rfl ?_
  refine ad aa 5 rfl ?_
  refine af ?_
  refine ag ?_
  refine ae aa 2 rfl ?_
  refine aj rfl (fun hc10=>?_) (fun hc10=>?_)
  ·
   have hc10':=hc10;try simp only [bq,bM] at hc10'
   refine ae aa 2 rfl ?_
   refine az ?_
   refine ar ?_
   refine bo ?_
   refine ar ?_
   refine ar ?_
   refine bo ?_
   refine ar ?_
   refine dc (aE.nil 4 115 2 (by decide) rfl) ?_
   have hX:ic l es=(([]:List Entry),4):=by
     rw [uH h0 (by omega) hnb (by omega),hi1_2,pA hx1,if_neg (by simp_all)]
   rw [hX] at hr;clear hX
   simp only [Prod.mk.injEq] at hr;obtain ⟨rfl,rfl⟩:=hr
   refine an aa [3] 1 rfl rfl rfl rfl rfl rfl ?_ ?_
   all_goals first|rfl|(simp [aA];done)|(simp [aA];omega)
  have hc10':=hc10;try simp only [bq,bM] at hc10'
  refine aP ?_
  refine au ?_
  refine ad aa 2 rfl ?_
  refine cc ?_
  refine bl ?_
  refine then_ok ?_
  refine au ?_
  refine ay (aJ rfl rfl rfl (aL (by first|omega|(simp;done)|(simp;omega)))) rfl ?_
  refine ad aa 1 rfl ?_
  refine af ?_
  refine ⟨(p+1,r1),⟨by omega,by rw [<-hp1];exact xK hi1_1 (by omega) (zL.1 (by rw [hg1];simp_all)),by rw [hi1_2,pA hx1,if_pos (by rw [hg1];simp_all),hp1]⟩,by first|omega|(simp;done)|(simp;omega),aE.bR (fun k=>if k=0 then 2 else k) (by refine ⟨?_,?_,?_,?_,?_,?_,?_,?_,?_,?_,trivial⟩<;>first|rfl|(simp only [bc];done)|(congr 3;omega)|(congr 4;omega)|(simp only [bd];rfl)) (⟨by first|rfl|(simp only [bc];done)|(congr 3;omega)|(congr 4;omega)|(simp only [bd];rfl),trivial⟩) rfl⟩
 have hc9':=of_decide_eq_false hc9
 refine bZ ?_
 refine aN ?_
 refine aN ?_
 refine bC ?_
 refine then_ok ?_
 refine ae aa 3 rfl ?_
 refine az ?_
 have hX:ic l es=(m,0):=by
   rw [uH h0 (by omega) hnb (by omega),CG hi1_2 (by omega)]
 rw [hX] at hr;clear hX
 simp only [Prod.mk.injEq] at hr;obtain ⟨rfl,rfl⟩:=hr
 refine an aa [0] 1 rfl rfl rfl rfl rfl rfl ?_ ?_
 all_goals first|rfl|(simp [aA];done)|(simp [aA];omega)


def jG (l:List Entry) (src dst n:Int):List Entry×Int:=if n < 0\/n > 1000000000000 then ([],3) else ic l [⟨src,0 - n⟩,⟨dst,n⟩]
theorem wo (l:List Entry) (src dst n:Int) (r:List Entry) (e:Int) (hr:jG l src dst n=(r,e)):Fn Try.prog 98 [(.c (da l)),(.c (cI src)),(.c (cI dst)),(.c (cI n))] (.t [(.c (.s 0 0 2 r.length)),(.c (cI e))]) [(0,(lI r))]:=by
 refine Fn.mk' 28 [(0,(aC (da l))),(1,(aI src)),(2,(aI dst)),(3,(aI n))] Try.func98 rfl rfl rfl rfl ?_
 intro W0 T0
 refine dk 0 rfl (fun hlen0=>?_)
 refine ae aa 2 rfl ?_
 refine ag ?_
 refine ch 15 ((decide (n < 0))||(decide (n > 1000000000000))) ?_ ?_
 ·
  refine au ?_
  refine ad aa 3 rfl ?_
  refine bE (t:=12) rfl (fun hb1=>?_) (fun hb1=>?_)
  ·
   have hb1':=of_decide_eq_true hb1
   refine ad aa 3 rfl ?_
   refine af ?_
   exact aE.bB 7 rfl rfl (by first|(simp [hb1];done)|(simp_all;done)|(exfalso;simp_all;done)|(simp_all;omega)) rfl
  have hb1':=of_decide_eq_false hb1
  refine ad aa 3 rfl ?_
  refine af ?_
  exact aE.bB 7 rfl rfl (by first|(simp [hb1];done)|(simp_all;done)|(exfalso;simp_all;done)|(simp_all;omega)) rfl
 refine aj rfl (fun hc2=>?_) (fun hc2=>?_)
 ·
  have hc2':=hc2;try simp only [bq,bM] at hc2'
  refine ae aa 2 rfl ?_
  refine az ?_
  refine ar ?_
  refine dc (aE.nil 8 115 2 (by decide) rfl) ?_
  have hX:jG l src dst n=(([]:List Entry),3):=by
    unfold jG;rw [if_pos (by omega)]
  rw [hX] at hr;clear hX
  simp only [Prod.mk.injEq] at hr;obtain ⟨rfl,rfl⟩:=hr
  refine an aa [0] 1 rfl rfl rfl rfl rfl rfl ?_ ?_
  all_goals first|rfl|(simp [aA];done)|(simp [aA];omega)
 have hc2':=hc2;try simp only [bq,bM] at hc2'
 refine aP ?_
 refine aH aa 3 rfl ?_
 refine ay (re rfl rfl (aL (by first|omega|(simp;done)|(simp;omega)))) rfl ?_
 refine ad aa 4 rfl ?_
 refine aR 1 [0] (dJ (ys:=[(0,(.g [(cI src),(cI (0 - n))])),(1,(.g [(cI dst),(cI n)]))]) (rows:=([(⟨src,0 - n⟩:Entry),(⟨dst,n⟩:Entry)]).map ey) 0 jU rfl (by decide) ⟨⟨rfl,rfl⟩,⟨rfl,rfl⟩,trivial⟩ rfl rfl rfl rfl) rfl ?_
 obtain ⟨r0,e0,hr0⟩:∃ (r0:List Entry) (e0:Int),ic l ([(⟨src,0 - n⟩:Entry),(⟨dst,n⟩:Entry)])=(r0,e0):=⟨_,_,rfl⟩
 refine aR 2 [1,0] (fR 1 [0] (wm l ([(⟨src,0 - n⟩:Entry),(⟨dst,n⟩:Entry)]) r0 e0 hr0) FB rfl rfl ⟨⟨_,rfl,.c (.d _)⟩,⟨_,rfl,.c (.s rfl (by decide) (by first|omega|(simp;done)|(simp;omega)))⟩,trivial⟩ ⟨trivial,rfl,trivial⟩ ⟨(ya _),trivial⟩ rfl rfl rfl rfl) rfl ?_
 refine ad aa 4 rfl ?_
 refine af ?_
 refine az ?_
 have hX:jG l src dst n=(r0,e0):=by
   unfold jG;rw [if_neg (by omega)];assumption
 rw [hX] at hr;clear hX
 simp only [Prod.mk.injEq] at hr;obtain ⟨rfl,rfl⟩:=hr
 refine an aa [1] 1 rfl rfl rfl rfl rfl rfl ?_ ?_
 all_goals first|rfl|(simp [aA];done)|(simp [aA];omega)
theorem jn {α:Type}:∀ l:List α,l=[]\/∃ A y,l=A++[y]
 |[]=>.inl rfl
 |x::l=>.inr (by
  rcases jn l with rfl|⟨A,y,rfl⟩
  ·exact ⟨[],x,rfl⟩
  ·exact ⟨x::A,y,rfl⟩)
def gz (a b:al):Bool:=decide (a.aD < b.aD)||(decide (a.aD=b.aD) && decide (a.ba < b.ba))
def fQ (a b:al):Prop:=a.aD < b.aD\/(a.aD=b.aD/\a.ba<=b.ba)
def jz (a b:al):Bool:=decide (a.aD=b.aD) && decide (a.ba=b.ba)
def eX (l:List al):Prop:=l.Pairwise fQ
def Same (u v:List al):Prop:=∀ k:al,u.filter (jz k)=v.filter (jz k)
theorem qS {a b:al}:gz a b=true↔(a.aD < b.aD\/(a.aD=b.aD/\a.ba < b.ba)):=by unfold gz;simp
theorem qT {a b:al}:gz a b=false↔fQ b a:=by
 unfold gz fQ
 rw [Bool.or_eq_false_iff,decide_eq_false_iff_not,Bool.and_eq_false_iff,decide_eq_false_iff_not,decide_eq_false_iff_not]
 omega
theorem kF {a b:al} (h:gz a b=true):fQ a b:=by rw [qS] at h;unfold fQ;omega
theorem nr (a:al):fQ a a:=by unfold fQ;omega
theorem kE {a b c:al} (h:fQ a b) (h':fQ b c):fQ a c:=by unfold fQ at *;omega
theorem uQ {a b c:al} (h:gz a b=true) (h':fQ b c):gz a c=true:=by rw [qS] at *;unfold fQ at *;omega
theorem zx {a b c:al} (h:fQ a b) (h':gz b c=true):gz a c=true:=by rw [qS] at *;unfold fQ at *;omega
theorem oS {a b:al}:jz a b=true↔(a.aD=b.aD/\a.ba=b.ba):=by unfold jz;simp
theorem la (a:al):jz a a=true:=by rw [oS];exact ⟨rfl,rfl⟩
theorem Same.refl (u:List al):Same u u:=fun _=>rfl
theorem Same.symm {u v:List al} (h:Same u v):Same v u:=fun k=>(h k).symm
theorem Same.trans {u v z:List al} (h:Same u v) (h':Same v z):Same u z:=fun k=>(h k).trans (h' k)
theorem Same.app {u v u' v':List al} (h:Same u u') (h':Same v v'):Same (u++v) (u'++v'):=fun k=>by rw [List.filter_append,List.filter_append,h k,h' k]
theorem Same.mem {u v:List al} (h:Same u v) {x:al}:x∈u↔x∈v:=by
 have h1:∀ l:List al,x∈l.filter (jz x)↔x∈l:=fun l=>by simp [la]
 rw [<-h1 u,<-h1 v,h x]
theorem Same.perm {u v:List al} (h:Same u v):u.Perm v:=by
 rw [List.perm_iff_count]
 intro x
 rw [<-List.count_filter (p:=jz x) (l:=u) (la x),<-List.count_filter (p:=jz x) (l:=v) (la x),h x]
theorem Same.len {u v:List al} (h:Same u v):u.length=v.length:=h.perm.length_eq
theorem Same.comm {u v:List al} (h:∀ x∈u,∀ y∈v,gz y x=true):Same (u++v) (v++u):=fun k=>by
 rw [List.filter_append,List.filter_append]
 by_cases hu:u.filter (jz k)=[]
 ·rw [hu];simp
 ·by_cases hv:v.filter (jz k)=[]
  ·rw [hv];simp
  ·exfalso
   obtain ⟨x,hx⟩:=List.exists_mem_of_ne_nil _ hu
   obtain ⟨y,hy⟩:=List.exists_mem_of_ne_nil _ hv
   rw [List.mem_filter] at hx hy
   have h1:=h x hx.1 y hy.1
   have h2:=oS.1 hx.2
   have h3:=oS.1 hy.2
   rw [qS] at h1
   omega
theorem eX.uniq:∀ {u v:List al},eX u->eX v->Same u v->u=v
 |[],v,_,_,h=>by have:=h.len;exact (List.eq_nil_of_length_eq_zero this.symm).symm
 |x::u,[],_,_,h=>by have:=h.len;cases this
 |x::u,y::v,hu,hv,h=>by
  obtain ⟨hu1,hu2⟩:=List.pairwise_cons.1 hu
  obtain ⟨hv1,hv2⟩:=List.pairwise_cons.1 hv
  have h1:fQ x y:=by
   rcases List.mem_cons.1 (h.mem.2 (List.mem_cons_self (a:=y) (l:=v))) with rfl|hm
   ·exact nr _
   ·exact hu1 y hm
  have h2:fQ y x:=by
   rcases List.mem_cons.1 (h.mem.1 (List.mem_cons_self (a:=x) (l:=u))) with rfl|hm
   ·exact nr _
   ·exact hv1 x hm
  have h3:jz x y=true:=by rw [oS];unfold fQ at h1 h2;omega
  have h4:=h x
  rw [List.filter_cons,List.filter_cons,if_pos (la x),if_pos h3] at h4
  obtain ⟨rfl,_⟩:=List.cons.inj h4
  have h5:Same u v:=fun k=>by
   have:=h k
   rw [List.filter_cons,List.filter_cons] at this
   split at this
   ·exact (List.cons.inj this).2
   ·exact this
  rw [eX.uniq hu2 hv2 h5]

def gU (d:List al) (i j:Nat):List al:=
 match d[i]?,d[j]? with
 |some x,some y=>(d.set i y).set j x
 |_,_=>d
theorem lx {d:List al} {i j:Nat} {x y:al} (hx:d[i]?=some x) (hy:d[j]?=some y):gU d i j=(d.set i y).set j x:=by unfold gU;rw [hx,hy]
theorem lQ (d:List al) (i j:Nat):(gU d i j).length=d.length:=by
 unfold gU;split<;>simp
theorem nV (s t u:List al) (x y:al) {i j:Nat} (hi:i=s.length) (hj:j=s.length+1+t.length):gU (s++x::(t++y::u)) i j=s++y::(t++x::u):=by
 subst hi hj
 have h1:(s++x::(t++y::u))[s.length]?=some x:=by simp
 have h2:(s++x::(t++y::u))[s.length+1+t.length]?=some y:=by
  rw [List.getElem?_append_right (by omega),show s.length+1+t.length - s.length=t.length+1 by omega,List.getElem?_cons_succ];simp
 rw [lx h1 h2,List.set_append_right _ _ (Nat.le_refl _),Nat.sub_self,List.set_cons_zero,List.set_append_right _ _ (by omega),show s.length+1+t.length - s.length=t.length+1 by omega,
  List.set_cons_succ,List.set_append_right _ _ (Nat.le_refl _),Nat.sub_self,List.set_cons_zero]
theorem xD (d:List al) (i j:Nat):gU d i j=gU d j i:=by
 by_cases hij:i=j
 ·subst hij;rfl
 ·unfold gU
  cases hx:d[i]? with
  |none=>cases hy:d[j]?<;>rfl
  |some x=>
   cases hy:d[j]? with
   |none=>rfl
   |some y=>exact List.set_comm _ _ hij
theorem qJ (s t u:List al) (x y:al) {i j:Nat} (hi:i=s.length) (hj:j=s.length+1+t.length):gU (s++x::(t++y::u)) j i=s++y::(t++x::u):=by rw [xD];exact nV s t u x y hi hj

structure Part (d y:List al) (a b:Nat):Prop where
 len:y.length=d.length
 l:y.take a=d.take a
 r:y.drop b=d.drop b
 s:eX ((y.drop a).take (b - a))
 m:Same d y
theorem Part.of {P X C R:List al} {a b:Nat} (ha:P.length=a) (hb:b=a+X.length) (hs:eX C) (hm:Same X C):Part (P++X++R) (P++C++R) a b:=by
 subst ha hb
 have hl:=hm.len
 refine ⟨by simp [hl],by simp,?_,?_,((Same.refl P).app hm).app (Same.refl R)⟩
 ·have h1:∀ Z:List al,Z.length=X.length->(P++Z++R).drop (P.length+X.length)=R:=fun Z hz=>by
   rw [<-hz,<-List.length_append,List.drop_left]
  rw [h1 C hl.symm,h1 X rfl]
 ·rw [List.append_assoc,List.drop_left,show P.length+X.length - P.length=C.length by omega,List.take_left];exact hs
theorem parts {d:List al} {a b:Nat} (h:a<=b) (hb:b<=d.length):d=d.take a++(d.drop a).take (b - a)++d.drop b:=by
 have h1:d.drop b=(d.drop a).drop (b - a):=by rw [List.drop_drop];congr 1;omega
 rw [h1,List.append_assoc,List.take_append_drop,List.take_append_drop]

def jh (a:Nat):Nat->List al->List al
 |0,d=>d
 |j+1,d=>
  if a < j+1 then
   match d[j+1]?,d[j]? with
   |some x,some y=>if gz x y=true then jh a j (gU d (j+1) j) else d
   |_,_=>d
  else d
theorem qi {a j:Nat} {d:List al} (h:¬a < j):jh a j d=d:=by
 cases j with
 |zero=>rfl
 |succ j=>unfold jh;rw [if_neg h]
theorem ow {a j:Nat} {d:List al} {x y:al} (hx:d[j]?=some x) (hy:d[j - 1]?=some y) (h:gz x y=false):jh a j d=d:=by
 cases j with
 |zero=>rfl
 |succ j=>
  unfold jh
  split
  ·rw [hx,show d[j]?=some y from hy];simp [h]
  ·rfl
theorem xd {a j:Nat} {d:List al} {x y:al} (ha:a < j) (hx:d[j]?=some x) (hy:d[j - 1]?=some y) (h:gz x y=true):jh a j d=jh a (j - 1) (gU d j (j - 1)):=by
 cases j with
 |zero=>omega
 |succ j=>
  conv=>lhs;unfold jh
  rw [if_pos ha,hx,show d[j]?=some y from hy]
  simp only [h,if_true]
  rfl
theorem uX (a:Nat):∀ (j:Nat) (d:List al),(jh a j d).length=d.length
 |0,d=>rfl
 |j+1,d=>by
  unfold jh
  split
  ·split
   ·split
    ·rw [uX a j,lQ]
    ·rfl
   ·rfl
  ·rfl
theorem uY (P:List al) (x:al):∀ (n:Nat) (A R:List al),A.length=n->∃ A1 A2,A=A1++A2/\jh P.length (P.length+n) (P++A++x::R)=P++(A1++x::A2)++R/\(∀ y∈A2,gz x y=true)/\(∀ A0 y,A1=A0++[y]->fQ y x)
 |0,A,R,hA=>by
  obtain rfl:=List.eq_nil_of_length_eq_zero hA
  refine ⟨[],[],rfl,?_,by simp,by simp⟩
  rw [qi (by omega)];simp
 |n+1,A,R,hA=>by
  obtain ⟨A',y,rfl⟩:∃ A' y,A=A'++[y]:=by
   rcases jn A with rfl|h
   ·cases hA
   ·exact h
  have hn:A'.length=n:=by simpa using hA
  have e1:P++(A'++[y])++x::R=(P++A')++y::([]++x::R):=by simp
  have h1:(P++(A'++[y])++x::R)[P.length+(n+1)]?=some x:=by
   rw [List.getElem?_append_right (by simp;omega),show P.length+(n+1) - (P++(A'++[y])).length=0 by simp;omega];rfl
  have h2:(P++(A'++[y])++x::R)[P.length+(n+1) - 1]?=some y:=by
   rw [e1,List.getElem?_append_right (by simp;omega),show P.length+(n+1) - 1 - (P++A').length=0 by simp;omega];rfl
  cases hc:gz x y with
  |true=>
   rw [xd (by omega) h1 h2 hc,show P.length+(n+1) - 1=P.length+n by omega,e1,qJ (P++A') [] R y x (by simp;omega) (by simp;omega)]
   obtain ⟨A1,A2,rfl,h3,h4,h5⟩:=uY P x n A' (y::R) hn
   refine ⟨A1,A2++[y],by simp,?_,?_,h5⟩
   ·rw [List.nil_append,h3];simp
   ·intro z hz
    rcases List.mem_append.1 hz with hz|hz
    ·exact h4 z hz
    ·rw [List.mem_singleton.1 hz];exact hc
  |false=>
   rw [ow h1 h2 hc]
   refine ⟨A'++[y],[],by simp,by simp,by simp,fun A0 z hz=>?_⟩
   obtain ⟨_,h⟩:=List.append_inj' hz rfl
   rw [<-List.cons.inj h|>.1]
   exact qT.1 hc
theorem gD {u v:List al}:eX (u++v)↔eX u/\eX v/\∀ x∈u,∀ y∈v,fQ x y:=List.pairwise_append
theorem uj {u:List al} {y x:al} (h:eX (u++[y])) (hx:fQ y x):∀ z∈u++[y],fQ z x:=fun z hz=>by
 rcases List.mem_append.1 hz with hz|hz
 ·exact kE ((gD.1 h).2.2 z hz y (List.mem_singleton.2 rfl)) hx
 ·rw [List.mem_singleton.1 hz];exact hx
theorem zy {u:List al} {x:al} (h:eX u) (hl:∀ A0 y,u=A0++[y]->fQ y x):∀ z∈u,fQ z x:=by
 rcases jn u with rfl|⟨A',y,h'⟩
 ·simp
 ·rw [h'] at h ⊢;exact uj h (hl A' y h')
theorem zt {A1 A2:List al} {x:al} (h:eX (A1++A2)) (h1:∀ z∈A1,fQ z x) (h2:∀ z∈A2,gz x z=true):eX (A1++x::A2)/\Same (A1++A2++[x]) (A1++x::A2):=by
 obtain ⟨s1,s2,s3⟩:=gD.1 h
 refine ⟨gD.2 ⟨s1,List.pairwise_cons.2 ⟨fun y hy=>kF (h2 y hy),s2⟩,fun z hz y hy=>?_⟩,?_⟩
 ·rcases List.mem_cons.1 hy with rfl|hy
  ·exact h1 z hz
  ·exact s3 z hz y hy
 ·have:=(Same.refl A1).app (Same.comm (u:=A2) (v:=[x]) fun y hy z hz=>by rw [List.mem_singleton.1 hz];exact h2 y hy)
  simpa using this
theorem CK {B1 B2:List al} {x:al} (h:eX (B1++B2)) (h1:∀ z∈B1,gz z x=true) (h2:∀ z∈B2,fQ x z):eX (B1++x::B2)/\Same (x::(B1++B2)) (B1++x::B2):=by
 obtain ⟨s1,s2,s3⟩:=gD.1 h
 refine ⟨gD.2 ⟨s1,List.pairwise_cons.2 ⟨h2,s2⟩,fun z hz y hy=>?_⟩,?_⟩
 ·rcases List.mem_cons.1 hy with rfl|hy
  ·exact kF (h1 z hz)
  ·exact s3 z hz y hy
 ·have:=(Same.comm (u:=[x]) (v:=B1) fun y hy z hz=>by rw [List.mem_singleton.1 hy];exact h1 z hz).app (Same.refl B2)
  simpa using this
def iU (a:Nat):Nat->List al->List al
 |0,d=>d
 |n+1,d=>jh a (a+1+n) (iU a n d)
theorem qh (a:Nat):∀ (n:Nat) (d:List al),(iU a n d).length=d.length
 |0,_=>rfl
 |n+1,d=>by unfold iU;rw [uX,qh a n]
theorem uU (P X R:List al):∀ n,n < X.length->∃ C,iU P.length n (P++X++R)=P++C++X.drop (n+1)++R/\eX C/\Same (X.take (n+1)) C
 |0,h=>by
  refine ⟨X.take 1,?_,?_,Same.refl _⟩
  ·unfold iU;rw [List.append_assoc P (X.take 1),List.take_append_drop]
  ·cases X with
   |nil=>cases h
   |cons x X=>exact List.pairwise_singleton _ _
 |n+1,h=>by
  obtain ⟨C,h1,h2,h3⟩:=uU P X R n (by omega)
  have hl:C.length=n+1:=by rw [<-h3.len,List.length_take];omega
  have e1:X.drop (n+1)=X[n+1]::X.drop (n+2):=List.drop_eq_getElem_cons h
  obtain ⟨A1,A2,rfl,h4,h5,h6⟩:=uY P X[n+1] (n+1) C (X.drop (n+2)++R) hl
  have h7:eX A1:=(gD.1 h2).1
  obtain ⟨h8,h9⟩:=zt h2 (zy h7 h6) h5
  refine ⟨A1++X[n+1]::A2,?_,h8,?_⟩
  ·unfold iU
   rw [h1,show P.length+1+n=P.length+(n+1) by omega,show P++(A1++A2)++X.drop (n+1)++R=P++(A1++A2)++X[n+1]::(X.drop (n+2)++R) by rw [List.append_assoc _ _ R,e1,List.cons_append],h4]
   simp
  ·rw [List.take_add_one,List.getElem?_eq_getElem h]
   exact (h3.app (Same.refl _)).trans h9
theorem tb {d:List al} {a b:Nat} (h:a<=b) (hb:b<=d.length):Part d (iU a (b - (a+1)) d) a b:=by
 by_cases hab:a=b
 ·subst hab
  rw [show a - (a+1)=0 by omega]
  exact ⟨rfl,rfl,rfl,by rw [Nat.sub_self];exact List.Pairwise.nil,Same.refl _⟩
 ·have e:=parts h hb
  have h1:(d.take a).length=a:=by rw [List.length_take];omega
  have h2:((d.drop a).take (b - a)).length=b - a:=by rw [List.length_take,List.length_drop];omega
  obtain ⟨C,h3,h4,h5⟩:=uU (d.take a) ((d.drop a).take (b - a)) (d.drop b) (b - (a+1)) (by omega)
  rw [h1] at h3
  rw [<-e,List.drop_of_length_le (l:=(d.drop a).take (b - a)) (by omega),List.append_nil] at h3
  rw [List.take_of_length_le (l:=(d.drop a).take (b - a)) (by omega)] at h5
  have:=Part.of (P:=d.take a) (R:=d.drop b) (a:=a) (b:=b) h1 (by omega) h4 h5
  rwa [<-e,<-h3] at this

def dv (d:List al) (i j:Nat):Bool:=
 match d[i]?,d[j]? with
 |some x,some y=>gz x y
 |_,_=>false
theorem fO {d:List al} {i j:Nat} {x y:al} (hx:d[i]?=some x) (hy:d[j]?=some y):dv d i j=gz x y:=by unfold dv;rw [hx,hy]
def fJ (p:Nat->Bool) (i j:Nat):Nat:=
 if _h:i < j then if p ((i+j) / 2)=true then fJ p ((i+j) / 2+1) j else fJ p i ((i+j) / 2) else i
termination_by j - i
theorem eJ {p:Nat->Bool} {i j:Nat} (h:¬i < j):fJ p i j=i:=by rw [fJ,dif_neg h]
theorem Cw {p:Nat->Bool} {i j:Nat} (h:i < j) (hp:p ((i+j) / 2)=true):fJ p i j=fJ p ((i+j) / 2+1) j:=by rw [fJ,dif_pos h,if_pos hp]
theorem Cx {p:Nat->Bool} {i j:Nat} (h:i < j) (hp:p ((i+j) / 2)=false):fJ p i j=fJ p i ((i+j) / 2):=by rw [fJ,dif_pos h,if_neg (by rw [hp];exact Bool.false_ne_true)]
theorem kj (p:Nat->Bool):∀ (n i j:Nat),j - i<=n->i<=j->i<=fJ p i j/\fJ p i j<=j/\(fJ p i j=i\/p (fJ p i j - 1)=true)/\(fJ p i j=j\/p (fJ p i j)=false)
 |0,i,j,hn,h=>by rw [eJ (by omega)];exact ⟨Nat.le_refl _,h,.inl rfl,.inl (by omega)⟩
 |n+1,i,j,hn,h=>by
  by_cases hij:i < j
  ·cases hp:p ((i+j) / 2) with
   |true=>
    rw [Cw hij hp]
    obtain ⟨h1,h2,h3,h4⟩:=kj p n ((i+j) / 2+1) j (by omega) (by omega)
    refine ⟨by omega,h2,?_,h4⟩
    rcases h3 with h3|h3
    ·right;rw [h3,Nat.add_sub_cancel];exact hp
    ·exact .inr h3
   |false=>
    rw [Cx hij hp]
    obtain ⟨h1,h2,h3,h4⟩:=kj p n i ((i+j) / 2) (by omega) (by omega)
    refine ⟨h1,by omega,h3,?_⟩
    rcases h4 with h4|h4
    ·right;rw [h4];exact hp
    ·exact .inr h4
  ·rw [eJ hij];exact ⟨Nat.le_refl _,h,.inl rfl,.inl (by omega)⟩
def nK (a:Nat):Nat->List al->List al
 |0,d=>d
 |n+1,d=>gU (nK a n d) (a+n) (a+n+1)
def nL (m:Nat):Nat->List al->List al
 |0,d=>d
 |n+1,d=>gU (nL m n d) (m - n) (m - n - 1)
theorem wY (a:Nat):∀ (n:Nat) (d:List al),(nK a n d).length=d.length
 |0,_=>rfl
 |n+1,d=>by unfold nK;rw [lQ,wY a n]
theorem xa (m:Nat):∀ (n:Nat) (d:List al),(nL m n d).length=d.length
 |0,_=>rfl
 |n+1,d=>by unfold nL;rw [lQ,xa m n]
theorem wZ (P:List al) (x:al):∀ (n:Nat) (V R:List al),V.length=n->nK P.length n (P++x::(V++R))=P++V++x::R
 |0,V,R,h=>by obtain rfl:=List.eq_nil_of_length_eq_zero h;simp [nK]
 |n+1,V,R,h=>by
  rcases jn V with rfl|⟨V',y,rfl⟩
  ·cases h
  ·have hn:V'.length=n:=by simpa using h
   unfold nK
   rw [show P++x::(V'++[y]++R)=P++x::(V'++(y::R)) by simp,wZ P x n V' (y::R) hn]
   have:=nV (P++V') [] R x y (i:=P.length+n) (j:=P.length+n+1) (by simp;omega) (by simp;omega)
   rw [List.nil_append,List.nil_append] at this
   rw [this];simp
theorem xb (P:List al) (x:al) (R:List al):∀ (n:Nat) (U1 U2:List al),U2.length=n->nL (P++U1++U2).length n (P++U1++U2++x::R)=P++U1++x::(U2++R)
 |0,U1,U2,h=>by obtain rfl:=List.eq_nil_of_length_eq_zero h;simp [nL]
 |n+1,U1,U2,h=>by
  cases U2 with
  |nil=>cases h
  |cons y U=>
   have hn:U.length=n:=by simpa using h
   unfold nL
   have e1:P++U1++y::U=P++(U1++[y])++U:=by simp
   rw [e1,xb P x R n (U1++[y]) U hn]
   have:=qJ (P++U1) [] (U++R) y x (i:=(P++(U1++[y])++U).length - n - 1) (j:=(P++(U1++[y])++U).length - n) (by simp;omega) (by simp;omega)
   rw [List.nil_append,List.nil_append] at this
   rw [show P++(U1++[y])++x::(U++R)=P++U1++y::x::(U++R) by simp,this]
   simp
def ga (a b:Nat):Nat->List al->List al
 |0,d=>d
 |n+1,d=>gU (ga a b n d) (a+n) (b+n)
theorem iA (a b:Nat):∀ (n:Nat) (d:List al),(ga a b n d).length=d.length
 |0,_=>rfl
 |n+1,d=>by unfold ga;rw [lQ,iA a b n]
theorem lP (p:List al):∀ (n:Nat) (x q y r:List al) {b:Nat},x.length=n->y.length=n->b=p.length+n+q.length->ga p.length b n (p++(x++(q++(y++r))))=p++(y++(q++(x++r)))
 |0,x,q,y,r,b,hx,hy,_=>by obtain rfl:=List.eq_nil_of_length_eq_zero hx;obtain rfl:=List.eq_nil_of_length_eq_zero hy;rfl
 |n+1,x,q,y,r,b,hx,hy,hb=>by
  rcases jn x with rfl|⟨x',x1,rfl⟩
  ·cases hx
  rcases jn y with rfl|⟨y',y1,rfl⟩
  ·cases hy
  have h1:x'.length=n:=by simpa using hx
  have h2:y'.length=n:=by simpa using hy
  unfold ga
  have:=lP p n x' (x1::q) y' (y1::r) (b:=b) h1 h2 (by simp;omega)
  rw [show p++(x'++[x1]++(q++(y'++[y1]++r)))=p++(x'++(x1::q++(y'++y1::r))) by simp,this]
  have:=nV (p++y') (q++x') r x1 y1 (i:=p.length+n) (j:=b+n) (by simp;omega) (by simp;omega)
  rw [show p++(y'++(x1::q++(x'++y1::r)))=p++y'++x1::(q++x'++y1::r) by simp,this]
  simp
def iR (m:Nat) (i j:Nat) (d:List al):List al:=
 if _h:0 < i/\0 < j then
  if i=j then ga (m - i) m i d
  else if i > j then iR m (i - j) j (ga (m - i) m j d)
  else iR m i (j - i) (ga (m - i) (m+j - i) i d)
 else d
termination_by i+j
theorem zf {m i:Nat} {d:List al} (hi:0 < i):iR m i i d=ga (m - i) m i d:=by rw [iR,dif_pos ⟨hi,hi⟩,if_pos rfl]
theorem ze {m i j:Nat} {d:List al} (hj:0 < j) (h:i > j):iR m i j d=iR m (i - j) j (ga (m - i) m j d):=by rw [iR,dif_pos ⟨by omega,hj⟩,if_neg (by omega),if_pos h]
theorem zd {m i j:Nat} {d:List al} (hi:0 < i) (h:i < j):iR m i j d=iR m i (j - i) (ga (m - i) (m+j - i) i d):=by rw [iR,dif_pos ⟨hi,by omega⟩,if_neg (by omega),if_neg (by omega)]
theorem rM:∀ (n:Nat) (P u v R:List al) (m:Nat),u.length+v.length<=n->0 < u.length->0 < v.length->m=P.length+u.length->iR m u.length v.length (P++(u++(v++R)))=P++(v++(u++R))
 |0,P,u,v,R,m,hn,hu,hv,hm=>by omega
 |n+1,P,u,v,R,m,hn,hu,hv,hm=>by
  rcases Nat.lt_trichotomy u.length v.length with h|h|h
  ·rw [zd hu h]
   have e:v=v.take (v.length - u.length)++v.drop (v.length - u.length):=(List.take_append_drop _ _).symm
   have l1:(v.take (v.length - u.length)).length=v.length - u.length:=by rw [List.length_take];omega
   have l2:(v.drop (v.length - u.length)).length=u.length:=by rw [List.length_drop];omega
   generalize hv1:v.take (v.length - u.length)=v1 at e l1
   generalize hv2:v.drop (v.length - u.length)=v2 at e l2
   have h1:=lP P u.length u v1 v2 R (b:=m+v.length - u.length) rfl l2 (by omega)
   rw [show m - u.length=P.length by omega,show P++(u++(v++R))=P++(u++(v1++(v2++R))) by rw [e];simp,h1,<-l1]
   have h2:=rM n P v2 v1 (u++R) m (by omega) (by omega) (by omega) (by omega)
   rw [l2] at h2
   rw [h2,e];simp
  ·rw [<-h,zf hu,show m - u.length=P.length by omega]
   have h1:=lP P u.length u [] v R (b:=m) rfl h.symm (by simp;omega)
   simpa using h1
  ·rw [ze hv h]
   have e:u=u.take v.length++u.drop v.length:=(List.take_append_drop _ _).symm
   have l1:(u.take v.length).length=v.length:=by rw [List.length_take];omega
   have l2:(u.drop v.length).length=u.length - v.length:=by rw [List.length_drop]
   generalize hv1:u.take v.length=u1 at e l1
   generalize hv2:u.drop v.length=u2 at e l2
   have h1:=lP P v.length u1 u2 v R (b:=m) l1 rfl (by omega)
   rw [show m - u.length=P.length by omega,show P++(u++(v++R))=P++(u1++(u2++(v++R))) by rw [e];simp,h1,<-l2]
   have h2:=rM n (P++v) u2 u1 R m (by omega) (by omega) (by omega) (by simp;omega)
   rw [l1] at h2
   rw [show P++(v++(u2++(u1++R)))=P++v++(u2++(u1++R)) by simp,h2,e];simp
theorem mF:∀ (n m i j:Nat) (d:List al),i+j<=n->(iR m i j d).length=d.length
 |0,m,i,j,d,h=>by rw [iR,dif_neg (by omega)]
 |n+1,m,i,j,d,h=>by
  rw [iR]
  split
  ·split
   ·rw [iA]
   ·split
    ·rw [mF n _ _ _ _ (by omega),iA]
    ·rw [mF n _ _ _ _ (by omega),iA]
  ·rfl
def ef (d:List al) (a m b:Nat):Nat:=
 if m > (a+b) / 2 then fJ (fun c=>!dv d ((a+b) / 2+m - 1 - c) c) ((a+b) / 2+m - b) ((a+b) / 2)
 else fJ (fun c=>!dv d ((a+b) / 2+m - 1 - c) c) a m
def eW (s m e:Nat) (d:List al):List al:=if s < m/\m < e then iR m (m - s) (e - m) d else d
def dx:Nat->Nat->Nat->Nat->List al->List al
 |0,_,_,_,d=>d
 |f+1,a,m,b,d=>
  if m - a=1 then nK a (fJ (fun h=>dv d h a) m b - 1 - a) d
  else if b - m=1 then nL m (m - fJ (fun h=>!dv d m h) a m) d
  else
   (fun s=>(fun e=>(fun d1=>(fun d2=>if (a+b) / 2 < e/\e < b then dx f ((a+b) / 2) e b d2 else d2)
    (if a < s/\s < (a+b) / 2 then dx f a s ((a+b) / 2) d1 else d1)) (eW s m e d)) ((a+b) / 2+m - s)) (ef d a m b)
theorem kZ (s m e:Nat) (d:List al):(eW s m e d).length=d.length:=by unfold eW;split;exact mF _ _ _ _ _ (Nat.le_refl _);rfl
theorem eK:∀ (f a m b:Nat) (d:List al),(dx f a m b d).length=d.length
 |0,_,_,_,_=>rfl
 |f+1,a,m,b,d=>by
  unfold dx
  split
  ·rw [wY]
  ·split
   ·rw [xa]
   ·dsimp only
    split
    ·rw [eK f]
     split
     ·rw [eK f,kZ]
     ·rw [kZ]
    ·split
     ·rw [eK f,kZ]
     ·rw [kZ]
end Go.Proofs.Ytegepioggeggaaa.Dev
