/- A part of the proof: Book4, PlBook, Com, Book5, Book7, Book9. No condition. -/
import Derived.Test.YtegepioggeggaaaD05
set_option linter.unusedVariables false
set_option linter.unusedSimpArgs false
set_option maxHeartbeats 2000000
set_option maxRecDepth 100000
namespace Go.Proofs.Ytegepioggeggaaa.Dev
open Go.RowKit


theorem Aj (l:List Entry) (t:Int) (fn:FuncId) (bj:List (List D)) (hp:∀ x:Entry,Fn Try.prog fn ([.g [cI x.aV,cI x.sum],.c (cI t)]++bj.map fun r=>GV.c (.q r 0)) (aI (ey x.aV t)) []) (hen:bl Try.prog fn) (hu:Up l) (hl:l.length * 16<=140737488355328) (k:Nat) (f:Bool) (hr:(ej l t,fQ l t)=(k,f)):Fn Try.prog 119 [.c (cR 2 (l.map eP)),.c (cI t),.c (.d (.f fn bj))] (.t [.c (cI (k:Int)),.c (cB f)]) []:=by
  obtain ⟨h1,h2⟩:=Prod.mk.inj hr
  exact ue l t fn bj hp hen hu hl (k:Int) f (by unfold vk;rw [h1,h2])
def cE:List Entry->Int->Int
  |[],_=>0
  |x::l,a=>if x.aV=a then x.sum else cE l a
def ic (l:List Entry) (a s:Int):List Entry:=l.take (ej l a)++(if s=0 then [] else [⟨a,s⟩])++l.drop (if fQ l a=true then ej l a+1 else ej l a)
def iP (s:Int):Bool:=decide (s>=-1000000000000) && decide (s<=1000000000000)
def kp (l:List Entry) (e:Entry):List Entry×Bool:=(ic l e.aV (cE l e.aV+e.sum),iP (cE l e.aV+e.sum))
theorem pH {x:Entry} {l:List Entry} {a:Int} (h:x.aV < a):fQ (x::l) a=fQ l a:=by
  have h1:ej (x::l) a=ej l a+1:=by simp [ej,h]
  unfold fQ;rw [h1,List.getElem?_cons_succ]
theorem mP {x:Entry} {l:List Entry} {a:Int} (h:¬x.aV < a):fQ (x::l) a=decide (x.aV=a):=by
  unfold fQ ej;rw [if_neg h];rfl
theorem jL {a:Int}:∀ {l:List Entry},(∀ x∈l,a < x.aV)->cE l a=0
  |[],_=>rfl
  |x::l,h=>by
    unfold cE
    rw [if_neg (by have:=h x List.mem_cons_self;omega)]
    exact jL fun y hy=>h y (List.mem_cons_of_mem _ hy)
theorem wU {a : Int} : ∀ {l : List Entry} {x : Entry}, Up l → fQ l a = true → l[ej l a]? = some x → x.aV = a ∧ cE l a = x.sum
  | [], x, _, _, h => by simp at h
  | y :: l, x, hu, hh, h => by
    obtain ⟨h1, h2⟩ := List.pairwise_cons.1 hu
    by_cases hy : y.aV < a
    · rw [pH hy] at hh
      unfold ej at h; rw [if_pos hy] at h
      obtain ⟨h3, h4⟩ := wU h2 hh (by simpa using h)
      refine ⟨h3, ?_⟩
      unfold cE; rw [if_neg (by omega)]; exact h4
    · rw [mP hy] at hh
      unfold ej at h; rw [if_neg hy] at h
      simp at h hh
      subst h
      exact ⟨hh, by unfold cE; rw [if_pos hh]⟩
theorem wT {a : Int} : ∀ {l : List Entry}, Up l → fQ l a = false → cE l a = 0
  | [], _, _ => rfl
  | y :: l, hu, hh => by
    obtain ⟨h1, h2⟩ := List.pairwise_cons.1 hu
    by_cases hy : y.aV < a
    · rw [pH hy] at hh
      unfold cE; rw [if_neg (by omega)]; exact wT h2 hh
    · rw [mP hy] at hh
      simp at hh
      unfold cE; rw [if_neg hh]
      exact jL fun x hx => by have := h1 x hx; omega
theorem Fc {a : Int} {l : List Entry} (h : fQ l a = true) : ej l a < l.length := by
  by_cases hl : ej l a < l.length
  · exact hl
  · unfold fQ at h
    rw [List.getElem?_eq_none (by omega)] at h
    cases h
theorem vQ {a:Int} (l:List Entry):(l.take (ej l a)).length=ej l a:=by rw [List.length_take];have:=nz a l;omega
theorem Bx {l:List Entry} {k:Nat} {x y:Entry} (hk:k<=l.length) (h:(jr l k x)[k]?=some y):y=x:=by
  have h1:(l.take k).length=k:=by rw [List.length_take];omega
  unfold jr at h
  rw [List.append_assoc,List.getElem?_append_right (by omega),h1,Nat.sub_self] at h
  simp at h
  exact h.symm
theorem Fa {l:List Entry} {k:Nat} {x y:Entry} (hk:k<=l.length):(jr l k x).set k y=l.take k++[y]++l.drop k:=by
  have h1:(l.take k).length=k:=by rw [List.length_take];omega
  unfold jr
  rw [List.append_assoc,List.set_append_right _ _ (by omega),h1,Nat.sub_self]
  simp
theorem Fb {l:List Entry} {k:Nat} {y:Entry} (hk:k < l.length):l.set k y=l.take k++[y]++l.drop (k+1):=by
  rw [List.set_eq_take_append_cons_drop,if_pos hk];simp
theorem BP {A B:List Entry} {y:Entry} {k:Nat} (h:A.length=k):lH (A++[y]++B) k (k+1)=A++B:=by
  subst h
  unfold lH
  simp
theorem nZ {l:List Entry} {e x y:Entry} {k:Nat} (hu:Up l) (hk:ej l e.aV=k) (hh:fQ l e.aV=true) (hx:l[k]?=some x) (hy:y=⟨x.aV,x.sum+e.sum⟩):
    kp l e=(if x.sum+e.sum=0 then lH (l.set k y) k (k+1) else l.set k y,iP (x.sum+e.sum)):=by
  subst hk hy
  obtain ⟨h1,h2⟩:=wU hu hh hx
  have hlt:=(List.getElem?_eq_some_iff.1 hx).1
  unfold kp ic
  rw [h2,if_pos hh,Fb hlt,h1]
  split
  ·rw [BP (vQ l)];simp
  ·rfl
theorem nY {l:List Entry} {e x y:Entry} {k:Nat} {r:List Entry} (hu:Up l) (hk:ej l e.aV=k) (hh:fQ l e.aV=false) (hr:jr l k ⟨e.aV,0⟩=r) (hx:r[k]?=some x) (hy:y=⟨x.aV,x.sum+e.sum⟩):
    kp l e=(if x.sum+e.sum=0 then lH (r.set k y) k (k+1) else r.set k y,iP (x.sum+e.sum)):=by
  subst hk hr
  have h0:=nz e.aV l
  have h1:=Bx h0 hx
  subst h1 hy
  have h2:=wT hu hh
  unfold kp ic
  rw [h2,Fa h0,if_neg (show ¬fQ l e.aV=true by rw [hh];exact Bool.false_ne_true)]
  split
  ·rw [BP (vQ l)];simp
  ·rfl
theorem AN {l:List Entry} {k:Nat} {y z:Entry} (h:(l.set k y)[k]?=some z):z=y:=by
  have hlt:=(List.getElem?_eq_some_iff.1 h).1
  rw [List.length_set] at hlt
  rw [List.getElem?_set_self hlt] at h
  exact (Option.some.inj h).symm
theorem zQ {l:List Entry} {a:Int} (h:∀ x∈l,-1000000000000<=x.sum/\x.sum<=1000000000000):-1000000000000<=cE l a/\cE l a<=1000000000000:=by
  induction l with
  |nil=>unfold cE;omega
  |cons x l ih=>
    unfold cE
    split
    ·exact h x List.mem_cons_self
    ·exact ih fun y hy=>h y (List.mem_cons_of_mem _ hy)

theorem Ie (l:List Entry) (e:Entry) (hu:Up l) (hl:(l.length+1) * 16<=140737488355328) (hb:∀ x∈l,-1000000000000<=x.sum/\x.sum<=1000000000000) (he:-1000000000000<=e.sum/\e.sum<=1000000000000) (r:List Entry) (g:Bool) (hr:kp l e=(r,g)):cJ Try.prog 116 [(.c (.s 0 0 2 l.length)),(.g [(cI e.aV),(cI e.sum)])] [(0,(mC l))] [] (.t [(.c (.s 0 0 2 r.length)),(.c (cB g))]) [(0,(mC r))]:=by
 refine cJ.mk 62 [(0,(aC (.s 0 0 2 l.length))),(1,(aG [(cI e.aV),(cI e.sum)]))] 1 Try.func116 rfl rfl rfl rfl rfl rfl rfl rfl rfl ?_
 intro W0 F0 T0 pg
 refine gn 0 rfl (fun hlen0=>?_)
 refine ae aa 3 rfl ?_
 refine aH aa 3 rfl ?_
 obtain ⟨k0,f0,hr0⟩:∃ (k0:Nat) (f0:Bool),(ej l e.aV,fQ l e.aV)=(k0,f0):=⟨_,_,rfl⟩
 obtain ⟨hk0,hf0⟩:=Prod.mk.inj hr0
 have hkl:=nz e.aV l
 rw [hk0] at hkl
 refine aN 2 [1,0] (ff 2 [0] (Aj l e.aV 120 ([]) (fun x=>Hc x e.aV) HO (by first|assumption) (by omega) k0 f0 hr0) HP rfl rfl ⟨⟨_,rfl,.c (.s rfl (by decide) (by first|omega|(simp;done)|(simp;omega)))⟩,⟨_,rfl,.c (.d _)⟩,⟨_,rfl,.c (.fn trivial)⟩,trivial⟩ ⟨rfl,rfl,trivial⟩ trivial rfl rfl rfl rfl) rfl ?_
 refine ad aa 5 rfl ?_
 refine af ?_
 refine ag ?_
 refine ae aa 2 rfl ?_
 refine ah rfl (fun hc1=>?_) (fun hc1=>?_)
 ·
  have hc1':=hc1;try simp only [bu,bU] at hc1'
  refine au ?_
  refine ad aa 5 rfl ?_
  refine aN 3 [2,1,0] (dy (ys:=[(0,(.g [(cI e.aV),(cI 0)]))]) (rows:=([(⟨e.aV,0⟩:Entry)]).map eP) 2 kJ rfl (by decide) ⟨⟨rfl,rfl⟩,trivial⟩ rfl rfl rfl rfl) rfl ?_
  obtain ⟨r1,hr1⟩:∃ (r1:List Entry),jr l k0 (⟨e.aV,0⟩:Entry)=r1:=⟨_,rfl⟩
  have hl1:r1.length=l.length+1:=by rw [<-hr1];exact Df hkl
  refine aN 4 [3,1] (cL (bd [0,2]) (bd [3,2]) (uf l k0 (⟨e.aV,0⟩:Entry) (by first|omega|(simp;done)|(simp;omega)) (by first|omega|(simp;done)|(simp;omega)) r1 hr1) HN rfl rfl ⟨⟨_,rfl,.inl ⟨rfl,rfl⟩⟩,⟨_,rfl,.inr (.c (.d _))⟩,⟨_,rfl,.inl ⟨rfl,rfl⟩⟩,trivial⟩ ⟨rfl,rfl,trivial⟩ rfl rfl rfl rfl rfl rfl trivial ⟨(fun _ _ _ _=>trivial),trivial⟩ rfl rfl rfl rfl) rfl ?_
  refine ad aa 1 rfl ?_
  refine af ?_
  refine ag ?_
  obtain ⟨x1,hx1⟩:=ck (xs:=r1) (i:=k0) (by first|omega|(simp;done)|(simp;omega))
  have hx1q:=Bx hkl (show (jr l k0 ⟨e.aV,0⟩)[k0]?=some x1 by rw [hr1];exact hx1)
  have hx1b:x1.sum=0:=by rw [hx1q]
  refine ba [0,3,6] [3,1] mixed rfl rfl ?_
  refine aE (kn:=[]) aa 2 rfl trivial ?_
  refine aU (n':=4) [25,26] [3] rfl rfl (.inl ⟨(ak.plain rfl),aM.cast (bA (i:=k0) rfl rfl rfl Try.underlying44 ep (by first|omega|(simp;done)|(simp;omega)) (by first|omega|(simp;done)|(simp;omega))) rfl⟩) rfl ?_
  refine aE (kn:=[]) aa 1 rfl trivial ?_
  refine aU (n':=4) [28] [3] rfl rfl (.inl ⟨(ak.plain rfl),aM.cast (eU rfl rfl rfl Try.underlying3 rfl (bw hx1) rfl) rfl⟩) rfl ?_
  refine aE (kn:=[]) aa 2 rfl trivial ?_
  refine aU (n':=4) [29,31] [] rfl rfl (.inl ⟨(ak.plain rfl),aM.cast (aL rfl rfl rfl (aJ (by first|omega|(simp;done)|(simp;omega)))) rfl⟩) rfl ?_
  refine aU (n':=4) [25,26] [3] rfl rfl (.inl ⟨(ak.plain rfl),aM.cast (bA (i:=k0) rfl rfl rfl Try.underlying44 ep (by first|omega|(simp;done)|(simp;omega)) (by first|omega|(simp;done)|(simp;omega))) rfl⟩) rfl ?_
  refine aE (kn:=[]) aa 1 rfl trivial ?_
  refine bC [3,1] rfl rfl rfl rfl (by kernel_rfl) ?_
  refine gI [3,1] (dU (ds:=[(dI (x1.sum+e.sum))]) rfl rfl rfl rfl rfl fX rfl (Nat.le_of_ble_eq_true rfl) (bw hx1) rfl (eZ (x':=(⟨x1.aV,x1.sum+e.sum⟩:Entry)) rfl)) rfl ?_
  refine af ?_
  refine aH aa 2 rfl ?_
  refine aA (bA (i:=k0) rfl rfl rfl Try.underlying44 ep (by first|omega|(simp;done)|(simp;omega)) (by first|omega|(simp;done)|(simp;omega))) rfl ?_
  refine ad aa 1 rfl ?_
  obtain ⟨x2,hx2⟩:=ck (xs:=((r1).set k0 (⟨x1.aV,x1.sum+e.sum⟩:Entry))) (i:=k0) (by first|omega|(simp;done)|(simp;omega))
  have hx2e:=AN hx2
  have hx2s:x2.sum=x1.sum+e.sum:=by rw [hx2e]
  refine aA (eU rfl rfl rfl Try.underlying3 rfl (bw hx2) rfl) rfl ?_
  refine ad aa 2 rfl ?_
  refine bI (t:=41) rfl (fun hb2=>?_) (fun hb2=>?_)
  ·
   have hb2':=of_decide_eq_true hb2
   refine ad aa 2 rfl ?_
   refine dQ (ak.yes rfl rfl rfl) (bA (i:=k0) rfl rfl rfl Try.underlying44 ep (by first|omega|(simp;done)|(simp;omega)) (by first|omega|(simp;done)|(simp;omega))) rfl rfl ?_
   refine ad aa 1 rfl ?_
   refine dQ (ak.yes rfl rfl rfl) (eU rfl rfl rfl Try.underlying3 rfl (bw hx2) rfl) rfl rfl ?_
   refine ad aa 3 rfl ?_
   refine af ?_
   refine ag ?_
   refine aH aa 2 rfl ?_
   refine aA (bA (i:=k0) rfl rfl rfl Try.underlying44 ep (by first|omega|(simp;done)|(simp;omega)) (by first|omega|(simp;done)|(simp;omega))) rfl ?_
   refine ad aa 1 rfl ?_
   refine aA (eU rfl rfl rfl Try.underlying3 rfl (bw hx2) rfl) rfl ?_
   refine ad aa 1 rfl ?_
   refine af ?_
   refine ah rfl (fun hc3=>?_) (fun hc3=>?_)
   ·
    have hc3':=of_decide_eq_true hc3
    refine iF (st':=⟨[(0,(aC (.s 3 0 2 (((r1).set k0 (⟨x1.aV,x1.sum+e.sum⟩:Entry)).length)))),(3,(aC (.p 1 0 0 0))),(6,(aI (↑k0:Int))),(32,(aI (x1.sum+e.sum))),(34,(aC (.p 3 k0 2 1))),(35,(aC (.s 3 0 2 r1.length))),(36,(aI (↑k0:Int))),(37,(aC (.p 3 k0 2 0))),(38,(aC (.p 3 k0 2 1))),(39,(aI x2.sum)),(40,(aB (decide (x2.sum>=(-1000000000000))))),(41,(aB true)),(42,(aC (.s 3 0 2 r1.length))),(43,(aI (↑k0:Int))),(44,(aC (.p 3 k0 2 0))),(45,(aC (.p 3 k0 2 1))),(46,(aI x2.sum)),(47,(aB (decide (x2.sum<=1000000000000)))),(48,(aB (decide (x2.sum<=1000000000000)))),(8,(aB (decide (x2.sum<=1000000000000)))),(49,(aC (.s 3 0 2 r1.length))),(50,(aI (↑k0:Int))),(51,(aC (.p 3 k0 2 0))),(52,(aC (.p 3 k0 2 1))),(53,(aI x2.sum)),(54,(aB (decide (x2.sum=0))))],[(3,(mC ((r1).set k0 (⟨x1.aV,x1.sum+e.sum⟩:Entry)))),(1,(.box 115 [(cI e.aV),(cI e.sum)]))],4⟩) (aF.bW id (by refine ⟨?_,?_,?_,?_,?_,?_,?_,?_,?_,?_,?_,?_,?_,?_,?_,?_,?_,?_,?_,?_,?_,?_,?_,?_,?_,?_,trivial⟩<;>first|rfl|(simp only [bm];done)|(congr 3;omega)|(congr 4;omega)|(simp only [bn];rfl)) (by refine ⟨?_,?_,trivial⟩<;>first|rfl|(simp only [bm];done)|(congr 3;omega)|(congr 4;omega)|(simp only [bn];rfl)) rfl) ?_
    refine au ?_
    refine ad aa 3 rfl ?_
    refine aA (aL rfl rfl rfl (aJ (by first|omega|(simp;done)|(simp;omega)))) rfl ?_
    obtain ⟨r2,hr2⟩:∃ (r2:List Entry),lH ((r1).set k0 (⟨x1.aV,x1.sum+e.sum⟩:Entry)) k0 ((k0)+1)=r2:=⟨_,rfl⟩
    refine aN 5 [4,1] (cL (bd [3]) (bd [4]) (jz ((r1).set k0 (⟨x1.aV,x1.sum+e.sum⟩:Entry)) k0 ((k0)+1) (by first|omega|(simp;done)|(simp;omega)) (by first|omega|(simp;done)|(simp;omega)) r2 hr2) vJ rfl rfl ⟨⟨_,rfl,.inl ⟨rfl,rfl⟩⟩,⟨_,rfl,.inr (.c (.d _))⟩,⟨_,rfl,.inr (.c (.d _))⟩,trivial⟩ ⟨rfl,trivial⟩ rfl rfl rfl rfl rfl rfl trivial ⟨(fun _ _ _ _=>trivial),trivial⟩ rfl rfl rfl rfl) rfl ?_
    refine ad aa 1 rfl ?_
    refine af ?_
    refine ae aa 4 rfl ?_
    refine az ?_
    have hX:kp l e=(r2,decide (x2.sum<=1000000000000)):=by
      rw [nY hu hk0 (show fQ l e.aV=false by simp_all) hr1 hx1 rfl];unfold iP;rw [if_pos (by omega),hr2];refine Prod.ext rfl ?_;first|(simp;omega)|(simp_all;done)|(simp_all;omega)
    rw [hX] at hr;clear hX
    simp only [Prod.mk.injEq] at hr;obtain ⟨rfl,rfl⟩:=hr
    refine an aa [4] 1 rfl rfl rfl rfl rfl rfl ?_ ?_
    all_goals first|rfl|(simp [ay];done)|(simp [ay];omega)
   have hc3':=of_decide_eq_false hc3
   refine aQ ?_
   refine ae aa 4 rfl ?_
   refine az ?_
   have hX:kp l e=((r1).set k0 (⟨x1.aV,x1.sum+e.sum⟩:Entry),decide (x2.sum<=1000000000000)):=by
     rw [nY hu hk0 (show fQ l e.aV=false by simp_all) hr1 hx1 rfl];unfold iP;rw [if_neg (by omega)];refine Prod.ext rfl ?_;first|(simp;omega)|(simp_all;done)|(simp_all;omega)
   rw [hX] at hr;clear hX
   simp only [Prod.mk.injEq] at hr;obtain ⟨rfl,rfl⟩:=hr
   refine an aa [3] 1 rfl rfl rfl rfl rfl rfl ?_ ?_
   all_goals first|rfl|(simp [ay];done)|(simp [ay];omega)
  have hb2':=of_decide_eq_false hb2
  refine ad aa 8 rfl ?_
  refine af ?_
  refine ag ?_
  refine aH aa 2 rfl ?_
  refine aA (bA (i:=k0) rfl rfl rfl Try.underlying44 ep (by first|omega|(simp;done)|(simp;omega)) (by first|omega|(simp;done)|(simp;omega))) rfl ?_
  refine ad aa 1 rfl ?_
  refine aA (eU rfl rfl rfl Try.underlying3 rfl (bw hx2) rfl) rfl ?_
  refine ad aa 1 rfl ?_
  refine af ?_
  refine ah rfl (fun hc4=>?_) (fun hc4=>?_)
  ·
   have hc4':=of_decide_eq_true hc4
   refine iF (st':=⟨[(0,(aC (.s 3 0 2 (((r1).set k0 (⟨x1.aV,x1.sum+e.sum⟩:Entry)).length)))),(3,(aC (.p 1 0 0 0))),(6,(aI (↑k0:Int))),(32,(aI (x1.sum+e.sum))),(34,(aC (.p 3 k0 2 1))),(35,(aC (.s 3 0 2 r1.length))),(36,(aI (↑k0:Int))),(37,(aC (.p 3 k0 2 0))),(38,(aC (.p 3 k0 2 1))),(39,(aI x2.sum)),(40,(aB (decide (x2.sum>=(-1000000000000))))),(41,(aB false)),(48,(aB false)),(8,(aB false)),(49,(aC (.s 3 0 2 r1.length))),(50,(aI (↑k0:Int))),(51,(aC (.p 3 k0 2 0))),(52,(aC (.p 3 k0 2 1))),(53,(aI x2.sum)),(54,(aB (decide (x2.sum=0))))],[(3,(mC ((r1).set k0 (⟨x1.aV,x1.sum+e.sum⟩:Entry)))),(1,(.box 115 [(cI e.aV),(cI e.sum)]))],4⟩) (aF.bW id (by refine ⟨?_,?_,?_,?_,?_,?_,?_,?_,?_,?_,?_,?_,?_,?_,?_,?_,?_,?_,?_,?_,trivial⟩<;>first|rfl|(simp only [bm];done)|(congr 3;omega)|(congr 4;omega)|(simp only [bn];rfl)) (by refine ⟨?_,?_,trivial⟩<;>first|rfl|(simp only [bm];done)|(congr 3;omega)|(congr 4;omega)|(simp only [bn];rfl)) rfl) ?_
   refine au ?_
   refine ad aa 3 rfl ?_
   refine aA (aL rfl rfl rfl (aJ (by first|omega|(simp;done)|(simp;omega)))) rfl ?_
   obtain ⟨r3,hr3⟩:∃ (r3:List Entry),lH ((r1).set k0 (⟨x1.aV,x1.sum+e.sum⟩:Entry)) k0 ((k0)+1)=r3:=⟨_,rfl⟩
   refine aN 5 [4,1] (cL (bd [3]) (bd [4]) (jz ((r1).set k0 (⟨x1.aV,x1.sum+e.sum⟩:Entry)) k0 ((k0)+1) (by first|omega|(simp;done)|(simp;omega)) (by first|omega|(simp;done)|(simp;omega)) r3 hr3) vJ rfl rfl ⟨⟨_,rfl,.inl ⟨rfl,rfl⟩⟩,⟨_,rfl,.inr (.c (.d _))⟩,⟨_,rfl,.inr (.c (.d _))⟩,trivial⟩ ⟨rfl,trivial⟩ rfl rfl rfl rfl rfl rfl trivial ⟨(fun _ _ _ _=>trivial),trivial⟩ rfl rfl rfl rfl) rfl ?_
   refine ad aa 1 rfl ?_
   refine af ?_
   refine ae aa 4 rfl ?_
   refine az ?_
   have hX:kp l e=(r3,false):=by
     rw [nY hu hk0 (show fQ l e.aV=false by simp_all) hr1 hx1 rfl];unfold iP;rw [if_pos (by omega),hr3];refine Prod.ext rfl ?_;first|(simp;omega)|(simp_all;done)|(simp_all;omega)
   rw [hX] at hr;clear hX
   simp only [Prod.mk.injEq] at hr;obtain ⟨rfl,rfl⟩:=hr
   refine an aa [4] 1 rfl rfl rfl rfl rfl rfl ?_ ?_
   all_goals first|rfl|(simp [ay];done)|(simp [ay];omega)
  have hc4':=of_decide_eq_false hc4
  refine aQ ?_
  refine ae aa 4 rfl ?_
  refine az ?_
  have hX:kp l e=((r1).set k0 (⟨x1.aV,x1.sum+e.sum⟩:Entry),false):=by
    rw [nY hu hk0 (show fQ l e.aV=false by simp_all) hr1 hx1 rfl];unfold iP;rw [if_neg (by omega)];refine Prod.ext rfl ?_;first|(simp;omega)|(simp_all;done)|(simp_all;omega)
  rw [hX] at hr;clear hX
  simp only [Prod.mk.injEq] at hr;obtain ⟨rfl,rfl⟩:=hr
  refine an aa [3] 1 rfl rfl rfl rfl rfl rfl ?_ ?_
  all_goals first|rfl|(simp [ay];done)|(simp [ay];omega)
 have hc1':=hc1;try simp only [bu,bU] at hc1'
 refine aQ ?_
 have hk0lt:k0 < l.length:=by have:=Fc (l:=l) (a:=e.aV) (by simp_all);omega
 refine ag ?_
 obtain ⟨x1,hx1⟩:=ck (xs:=l) (i:=k0) (by first|omega|(simp;done)|(simp;omega))
 have hx1b:=hb x1 (List.mem_of_getElem? hx1)
 refine ba [0,3,6] [1,0] mixed rfl rfl ?_
 refine aE (kn:=[]) aa 2 rfl trivial ?_
 refine aU (n':=2) [25,26] [0] rfl rfl (.inl ⟨(ak.plain rfl),aM.cast (bA (i:=k0) rfl rfl rfl Try.underlying44 ep (by first|omega|(simp;done)|(simp;omega)) (by first|omega|(simp;done)|(simp;omega))) rfl⟩) rfl ?_
 refine aE (kn:=[]) aa 1 rfl trivial ?_
 refine aU (n':=2) [28] [0] rfl rfl (.inl ⟨(ak.plain rfl),aM.cast (eU rfl rfl rfl Try.underlying3 rfl (bw hx1) rfl) rfl⟩) rfl ?_
 refine aE (kn:=[]) aa 2 rfl trivial ?_
 refine aU (n':=2) [29,31] [] rfl rfl (.inl ⟨(ak.plain rfl),aM.cast (aL rfl rfl rfl (aJ (by first|omega|(simp;done)|(simp;omega)))) rfl⟩) rfl ?_
 refine aU (n':=2) [25,26] [0] rfl rfl (.inl ⟨(ak.plain rfl),aM.cast (bA (i:=k0) rfl rfl rfl Try.underlying44 ep (by first|omega|(simp;done)|(simp;omega)) (by first|omega|(simp;done)|(simp;omega))) rfl⟩) rfl ?_
 refine aE (kn:=[]) aa 1 rfl trivial ?_
 refine bC [1,0] rfl rfl rfl rfl (by kernel_rfl) ?_
 refine gI [1,0] (dU (ds:=[(dI (x1.sum+e.sum))]) rfl rfl rfl rfl rfl fX rfl (Nat.le_of_ble_eq_true rfl) (bw hx1) rfl (eZ (x':=(⟨x1.aV,x1.sum+e.sum⟩:Entry)) rfl)) rfl ?_
 refine af ?_
 refine aH aa 2 rfl ?_
 refine aA (bA (i:=k0) rfl rfl rfl Try.underlying44 ep (by first|omega|(simp;done)|(simp;omega)) (by first|omega|(simp;done)|(simp;omega))) rfl ?_
 refine ad aa 1 rfl ?_
 obtain ⟨x2,hx2⟩:=ck (xs:=((l).set k0 (⟨x1.aV,x1.sum+e.sum⟩:Entry))) (i:=k0) (by first|omega|(simp;done)|(simp;omega))
 have hx2e:=AN hx2
 have hx2s:x2.sum=x1.sum+e.sum:=by rw [hx2e]
 refine aA (eU rfl rfl rfl Try.underlying3 rfl (bw hx2) rfl) rfl ?_
 refine ad aa 2 rfl ?_
 refine bI (t:=41) rfl (fun hb5=>?_) (fun hb5=>?_)
 ·
  have hb5':=of_decide_eq_true hb5
  refine ad aa 2 rfl ?_
  refine dQ (ak.yes rfl rfl rfl) (bA (i:=k0) rfl rfl rfl Try.underlying44 ep (by first|omega|(simp;done)|(simp;omega)) (by first|omega|(simp;done)|(simp;omega))) rfl rfl ?_
  refine ad aa 1 rfl ?_
  refine dQ (ak.yes rfl rfl rfl) (eU rfl rfl rfl Try.underlying3 rfl (bw hx2) rfl) rfl rfl ?_
  refine ad aa 3 rfl ?_
  refine af ?_
  refine ag ?_
  refine aH aa 2 rfl ?_
  refine aA (bA (i:=k0) rfl rfl rfl Try.underlying44 ep (by first|omega|(simp;done)|(simp;omega)) (by first|omega|(simp;done)|(simp;omega))) rfl ?_
  refine ad aa 1 rfl ?_
  refine aA (eU rfl rfl rfl Try.underlying3 rfl (bw hx2) rfl) rfl ?_
  refine ad aa 1 rfl ?_
  refine af ?_
  refine ah rfl (fun hc6=>?_) (fun hc6=>?_)
  ·
   have hc6':=of_decide_eq_true hc6
   refine iF (st':=⟨[(0,(aC (.s 0 0 2 (((l).set k0 (⟨x1.aV,x1.sum+e.sum⟩:Entry)).length)))),(3,(aC (.p 1 0 0 0))),(6,(aI (↑k0:Int))),(32,(aI (x1.sum+e.sum))),(34,(aC (.p 0 k0 2 1))),(35,(aC (.s 0 0 2 l.length))),(36,(aI (↑k0:Int))),(37,(aC (.p 0 k0 2 0))),(38,(aC (.p 0 k0 2 1))),(39,(aI x2.sum)),(40,(aB (decide (x2.sum>=(-1000000000000))))),(41,(aB true)),(42,(aC (.s 0 0 2 l.length))),(43,(aI (↑k0:Int))),(44,(aC (.p 0 k0 2 0))),(45,(aC (.p 0 k0 2 1))),(46,(aI x2.sum)),(47,(aB (decide (x2.sum<=1000000000000)))),(48,(aB (decide (x2.sum<=1000000000000)))),(8,(aB (decide (x2.sum<=1000000000000)))),(49,(aC (.s 0 0 2 l.length))),(50,(aI (↑k0:Int))),(51,(aC (.p 0 k0 2 0))),(52,(aC (.p 0 k0 2 1))),(53,(aI x2.sum)),(54,(aB (decide (x2.sum=0))))],[(1,(.box 115 [(cI e.aV),(cI e.sum)])),(0,(mC ((l).set k0 (⟨x1.aV,x1.sum+e.sum⟩:Entry))))],2⟩) (aF.bW id (by refine ⟨?_,?_,?_,?_,?_,?_,?_,?_,?_,?_,?_,?_,?_,?_,?_,?_,?_,?_,?_,?_,?_,?_,?_,?_,?_,?_,trivial⟩<;>first|rfl|(simp only [bm];done)|(congr 3;omega)|(congr 4;omega)|(simp only [bn];rfl)) (by refine ⟨?_,?_,trivial⟩<;>first|rfl|(simp only [bm];done)|(congr 3;omega)|(congr 4;omega)|(simp only [bn];rfl)) rfl) ?_
   refine au ?_
   refine ad aa 3 rfl ?_
   refine aA (aL rfl rfl rfl (aJ (by first|omega|(simp;done)|(simp;omega)))) rfl ?_
   obtain ⟨r4,hr4⟩:∃ (r4:List Entry),lH ((l).set k0 (⟨x1.aV,x1.sum+e.sum⟩:Entry)) k0 ((k0)+1)=r4:=⟨_,rfl⟩
   refine aN 3 [2,1] (cL id (bd [2]) (jz ((l).set k0 (⟨x1.aV,x1.sum+e.sum⟩:Entry)) k0 ((k0)+1) (by first|omega|(simp;done)|(simp;omega)) (by first|omega|(simp;done)|(simp;omega)) r4 hr4) vJ rfl rfl ⟨⟨_,rfl,.inl ⟨rfl,rfl⟩⟩,⟨_,rfl,.inr (.c (.d _))⟩,⟨_,rfl,.inr (.c (.d _))⟩,trivial⟩ ⟨rfl,trivial⟩ rfl rfl rfl rfl rfl rfl trivial ⟨(fun _ _ _ _=>trivial),trivial⟩ rfl rfl rfl rfl) rfl ?_
   refine ad aa 1 rfl ?_
   refine af ?_
   refine ae aa 4 rfl ?_
   refine az ?_
   have hX:kp l e=(r4,decide (x2.sum<=1000000000000)):=by
     rw [nZ hu hk0 (show fQ l e.aV=true by simp_all) hx1 rfl];unfold iP;rw [if_pos (by omega),hr4];refine Prod.ext rfl ?_;first|(simp;omega)|(simp_all;done)|(simp_all;omega)
   rw [hX] at hr;clear hX
   simp only [Prod.mk.injEq] at hr;obtain ⟨rfl,rfl⟩:=hr
   refine an aa [2] 1 rfl rfl rfl rfl rfl rfl ?_ ?_
   all_goals first|rfl|(simp [ay];done)|(simp [ay];omega)
  have hc6':=of_decide_eq_false hc6
  refine aQ ?_
  refine ae aa 4 rfl ?_
  refine az ?_
  have hX:kp l e=((l).set k0 (⟨x1.aV,x1.sum+e.sum⟩:Entry),decide (x2.sum<=1000000000000)):=by
    rw [nZ hu hk0 (show fQ l e.aV=true by simp_all) hx1 rfl];unfold iP;rw [if_neg (by omega)];refine Prod.ext rfl ?_;first|(simp;omega)|(simp_all;done)|(simp_all;omega)
  rw [hX] at hr;clear hX
  simp only [Prod.mk.injEq] at hr;obtain ⟨rfl,rfl⟩:=hr
  refine an aa [0] 1 rfl rfl rfl rfl rfl rfl ?_ ?_
  all_goals first|rfl|(simp [ay];done)|(simp [ay];omega)
 have hb5':=of_decide_eq_false hb5
 refine ad aa 8 rfl ?_
 refine af ?_
 refine ag ?_
 refine aH aa 2 rfl ?_
 refine aA (bA (i:=k0) rfl rfl rfl Try.underlying44 ep (by first|omega|(simp;done)|(simp;omega)) (by first|omega|(simp;done)|(simp;omega))) rfl ?_
 refine ad aa 1 rfl ?_
 refine aA (eU rfl rfl rfl Try.underlying3 rfl (bw hx2) rfl) rfl ?_
 refine ad aa 1 rfl ?_
 refine af ?_
 refine ah rfl (fun hc7=>?_) (fun hc7=>?_)
 ·
  have hc7':=of_decide_eq_true hc7
  refine iF (st':=⟨[(0,(aC (.s 0 0 2 (((l).set k0 (⟨x1.aV,x1.sum+e.sum⟩:Entry)).length)))),(3,(aC (.p 1 0 0 0))),(6,(aI (↑k0:Int))),(32,(aI (x1.sum+e.sum))),(34,(aC (.p 0 k0 2 1))),(35,(aC (.s 0 0 2 l.length))),(36,(aI (↑k0:Int))),(37,(aC (.p 0 k0 2 0))),(38,(aC (.p 0 k0 2 1))),(39,(aI x2.sum)),(40,(aB (decide (x2.sum>=(-1000000000000))))),(41,(aB false)),(48,(aB false)),(8,(aB false)),(49,(aC (.s 0 0 2 l.length))),(50,(aI (↑k0:Int))),(51,(aC (.p 0 k0 2 0))),(52,(aC (.p 0 k0 2 1))),(53,(aI x2.sum)),(54,(aB (decide (x2.sum=0))))],[(1,(.box 115 [(cI e.aV),(cI e.sum)])),(0,(mC ((l).set k0 (⟨x1.aV,x1.sum+e.sum⟩:Entry))))],2⟩) (aF.bW id (by refine ⟨?_,?_,?_,?_,?_,?_,?_,?_,?_,?_,?_,?_,?_,?_,?_,?_,?_,?_,?_,?_,trivial⟩<;>first|rfl|(simp only [bm];done)|(congr 3;omega)|(congr 4;omega)|(simp only [bn];rfl)) (by refine ⟨?_,?_,trivial⟩<;>first|rfl|(simp only [bm];done)|(congr 3;omega)|(congr 4;omega)|(simp only [bn];rfl)) rfl) ?_
  refine au ?_
  refine ad aa 3 rfl ?_
  refine aA (aL rfl rfl rfl (aJ (by first|omega|(simp;done)|(simp;omega)))) rfl ?_
  obtain ⟨r5,hr5⟩:∃ (r5:List Entry),lH ((l).set k0 (⟨x1.aV,x1.sum+e.sum⟩:Entry)) k0 ((k0)+1)=r5:=⟨_,rfl⟩
  refine aN 3 [2,1] (cL id (bd [2]) (jz ((l).set k0 (⟨x1.aV,x1.sum+e.sum⟩:Entry)) k0 ((k0)+1) (by first|omega|(simp;done)|(simp;omega)) (by first|omega|(simp;done)|(simp;omega)) r5 hr5) vJ rfl rfl ⟨⟨_,rfl,.inl ⟨rfl,rfl⟩⟩,⟨_,rfl,.inr (.c (.d _))⟩,⟨_,rfl,.inr (.c (.d _))⟩,trivial⟩ ⟨rfl,trivial⟩ rfl rfl rfl rfl rfl rfl trivial ⟨(fun _ _ _ _=>trivial),trivial⟩ rfl rfl rfl rfl) rfl ?_
  refine ad aa 1 rfl ?_
  refine af ?_
  refine ae aa 4 rfl ?_
  refine az ?_
  have hX:kp l e=(r5,false):=by
    rw [nZ hu hk0 (show fQ l e.aV=true by simp_all) hx1 rfl];unfold iP;rw [if_pos (by omega),hr5];refine Prod.ext rfl ?_;first|(simp;omega)|(simp_all;done)|(simp_all;omega)
  rw [hX] at hr;clear hX
  simp only [Prod.mk.injEq] at hr;obtain ⟨rfl,rfl⟩:=hr
  refine an aa [2] 1 rfl rfl rfl rfl rfl rfl ?_ ?_
  all_goals first|rfl|(simp [ay];done)|(simp [ay];omega)
 have hc7':=of_decide_eq_false hc7
 refine aQ ?_
 refine ae aa 4 rfl ?_
 refine az ?_
 have hX:kp l e=((l).set k0 (⟨x1.aV,x1.sum+e.sum⟩:Entry),false):=by
   rw [nZ hu hk0 (show fQ l e.aV=true by simp_all) hx1 rfl];unfold iP;rw [if_neg (by omega)];refine Prod.ext rfl ?_;first|(simp;omega)|(simp_all;done)|(simp_all;omega)
 rw [hX] at hr;clear hX
 simp only [Prod.mk.injEq] at hr;obtain ⟨rfl,rfl⟩:=hr
 refine an aa [0] 1 rfl rfl rfl rfl rfl rfl ?_ ?_
 all_goals first|rfl|(simp [ay];done)|(simp [ay];omega)
def fl (x:Entry):Prop:=x.aV < 0\/x.aV > 57\/x.sum < -1000000000000\/x.sum > 1000000000000
instance (x:Entry):Decidable (fl x):=by unfold fl;infer_instance
def lK (l:List Entry) (q:Nat):Int:=
 match l[q]? with
 |some x=>if fl x then 3 else if (0 < q/\(l.getD (q - 1) ⟨0,0⟩).aV>=x.aV)\/x.sum=0 then 2 else 0
 |none=>0
def eC:List Entry->Int
 |[]=>0
 |x::l=>x.sum+eC l
def du (l:List Entry):dc:=if (scan (lK l) 0 l.length).1≠0 then ⟨(scan (lK l) 0 l.length).1,(scan (lK l) 0 l.length).2⟩ else if eC l≠0 then ⟨8,0⟩ else ⟨0,0⟩
theorem AJ (x:Entry) (l:List Entry):eC (x::l)=x.sum+eC l:=rfl
theorem nf (l r:List Entry):eC (l++r)=eC l+eC r:=by
 induction l with
 |nil=>simp [eC]
 |cons x l ih=>simp only [List.cons_append,eC,ih];omega
theorem uu {α:Type} {l:List α} {q:Nat} {x:α} (h:l[q]?=some x):l.take (q+1)=l.take q++[x]:=by
 obtain ⟨hlt,rfl⟩:=List.getElem?_eq_some_iff.1 h
 rw [List.take_add_one,List.getElem?_eq_getElem hlt];rfl
theorem jU {l:List Entry} {q:Nat} {x:Entry} (h:l[q]?=some x):eC (l.take (q+1))=eC (l.take q)+x.sum:=by
 rw [uu h,nf];simp [eC]
def jc (l:List Entry) (q:Nat):Int:=if q=0 then -1 else (l.getD (q - 1) ⟨0,0⟩).aV
theorem ky {l:List Entry} {q:Nat} {x:Entry} (h:l[q]?=some x):jc l (q+1)=x.aV:=by
 unfold jc
 rw [if_neg (by omega),List.getD_eq_getElem?_getD,Nat.add_sub_cancel,h];rfl
theorem ly {l:List Entry} {q:Nat} {x:Entry} (hq:0 < q) (h:l[q - 1]?=some x):jc l q=x.aV:=by
 unfold jc
 rw [if_neg (by omega),List.getD_eq_getElem?_getD,h];rfl
theorem iG {l:List Entry} {q:Nat} {x:Entry} (h:l[q]?=some x):lK l q=if fl x then 3 else if (0 < q/\jc l q>=x.aV)\/x.sum=0 then 2 else 0:=by
 unfold lK
 rw [h]
 by_cases hq:q=0
 ·subst hq;simp
 ·unfold jc;rw [if_neg hq]
structure jQ (l:List Entry):Prop where
 up:Up l
 ok:∀ x∈l,0<=x.aV/\x.aV<=57/\-1000000000000<=x.sum/\x.sum<=1000000000000/\x.sum≠0
theorem Hv {l:List Entry} (h:∀ q x y,l[q]?=some x->l[q+1]?=some y->x.aV < y.aV):Up l:=by
 unfold Up
 induction l with
 |nil=>exact List.Pairwise.nil
 |cons x l ih=>
  have h2:=ih fun q a b ha hb=>h (q+1) a b (by simpa using ha) (by simpa using hb)
  refine List.pairwise_cons.2 ⟨fun y hy=>?_,h2⟩
  cases l with
  |nil=>cases hy
  |cons z l=>
   have hz:=h 0 x z (by simp) (by simp)
   rcases List.mem_cons.1 hy with rfl|hy
   ·exact hz
   ·have:=(List.pairwise_cons.1 h2).1 y hy;omega
theorem Ay {l:List Entry} (h:Up l) {i j:Nat} {x y:Entry} (hij:i < j) (hx:l[i]?=some x) (hy:l[j]?=some y):x.aV < y.aV:=by
 obtain ⟨hi,rfl⟩:=List.getElem?_eq_some_iff.1 hx
 obtain ⟨hj,rfl⟩:=List.getElem?_eq_some_iff.1 hy
 exact List.pairwise_iff_getElem.1 h i j hi hj hij
theorem AO {l:List Entry}:(scan (lK l) 0 l.length).1=0↔jQ l:=by
 rw [nV]
 constructor
 ·intro h
  have at':∀ q x,l[q]?=some x->¬fl x/\¬((0 < q/\jc l q>=x.aV)\/x.sum=0):=fun q x hx=>by
   have hq:=(List.getElem?_eq_some_iff.1 hx).1
   have h1:=h q (Nat.zero_le _) (by omega)
   rw [iG hx] at h1
   split at h1
   ·cases h1
   ·split at h1
    ·cases h1
    ·exact ⟨by assumption,by assumption⟩
  refine ⟨Hv fun q x y hx hy=>?_,fun x hx=>?_⟩
  ·have h1:=(at' (q+1) y hy).2
   rw [ky hx] at h1
   omega
  ·obtain ⟨q,hq⟩:=List.getElem?_of_mem hx
   have h1:=at' q x hq
   unfold fl at h1
   omega
 ·intro h q _ hq
  obtain ⟨x,hx⟩:∃ x,l[q]?=some x:=⟨_,List.getElem?_eq_getElem (by omega)⟩
  have h1:=h.ok x (List.mem_of_getElem? hx)
  rw [iG hx,if_neg (by unfold fl;omega),if_neg]
  rintro (⟨h2,h3⟩|h2)
  ·obtain ⟨y,hy⟩:∃ y,l[q - 1]?=some y:=⟨_,List.getElem?_eq_getElem (by omega)⟩
   rw [ly h2 hy] at h3
   have:=Ay h.up (by omega:q - 1 < q) hy hx
   omega
  ·exact h1.2.2.2.2 h2
theorem lR {l:List Entry}:(du l).err=0↔jQ l/\eC l=0:=by
 unfold du
 rw [<-AO]
 split
 ·rename_i h;constructor
  ·intro h1;exact absurd h1 h
  ·intro h1;exact absurd h1.1 h
 ·rename_i h
  split
  ·rename_i h2;constructor
   ·intro h1;cases h1
   ·intro h1;exact absurd h1.2 h2
  ·rename_i h2;constructor
   ·intro _;exact ⟨by omega,by omega⟩
   ·intro _;rfl
theorem uD {l:List Entry} (h:jQ l):l.length<=58:=by
 have key:∀ (q:Nat) (x:Entry),l[q]?=some x->(q:Int)<=x.aV:=by
  intro q
  induction q with
  |zero=>intro x hx;have:=h.ok x (List.mem_of_getElem? hx);omega
  |succ q ih=>
   intro x hx
   have hq:=(List.getElem?_eq_some_iff.1 hx).1
   obtain ⟨y,hy⟩:∃ y,l[q]?=some y:=⟨_,List.getElem?_eq_getElem (by omega)⟩
   have h1:=ih y hy
   have h2:=Ay h.up (by omega:q < q+1) hy hx
   omega
 by_cases hl:l.length=0
 ·omega
 ·obtain ⟨x,hx⟩:∃ x,l[l.length - 1]?=some x:=⟨_,List.getElem?_eq_getElem (by omega)⟩
  have h1:=key _ x hx
  have h2:=h.ok x (List.mem_of_getElem? hx)
  omega
theorem mJ {x:Entry} {l:List Entry} {a s:Int} (h:x.aV < a):ic (x::l) a s=x::ic l a s:=by
 unfold ic
 rw [pH h,show ej (x::l) a=ej l a+1 by simp [ej,h]]
 cases fQ l a<;>simp
theorem mI {x:Entry} {l:List Entry} {a s:Int} (h:x.aV=a):ic (x::l) a s=(if s=0 then [] else [⟨a,s⟩])++l:=by
 unfold ic
 rw [mP (by omega),show ej (x::l) a=0 by simp [ej];omega]
 simp [h]
theorem nS {x:Entry} {l:List Entry} {a s:Int} (h:a < x.aV):ic (x::l) a s=(if s=0 then [] else [⟨a,s⟩])++x::l:=by
 unfold ic
 rw [mP (by omega),show ej (x::l) a=0 by simp [ej];omega]
 have:¬x.aV=a:=by omega
 simp [this]
theorem nR (a s:Int):ic [] a s=if s=0 then [] else [⟨a,s⟩]:=by simp [ic,ej,fQ]
theorem rr {a s:Int}:∀ {l:List Entry} {x:Entry},x∈ic l a s->x∈l\/(x=⟨a,s⟩/\s≠0)
 |[],x,h=>by
  rw [nR] at h
  split at h
  ·cases h
  ·rename_i h0;exact .inr ⟨by simpa using h,h0⟩
 |y::l,x,h=>by
  have one:x∈(if s=0 then [] else [(⟨a,s⟩:Entry)])->x=⟨a,s⟩/\s≠0:=fun h=>by
   split at h
   ·cases h
   ·rename_i h0;exact ⟨by simpa using h,h0⟩
  rcases Int.lt_trichotomy y.aV a with h1|h1|h1
  ·rw [mJ h1] at h
   rcases List.mem_cons.1 h with rfl|h
   ·exact .inl List.mem_cons_self
   ·rcases rr h with h|h
    ·exact .inl (List.mem_cons_of_mem _ h)
    ·exact .inr h
  ·rw [mI h1] at h
   rcases List.mem_append.1 h with h|h
   ·exact .inr (one h)
   ·exact .inl (List.mem_cons_of_mem _ h)
  ·rw [nS h1] at h
   rcases List.mem_append.1 h with h|h
   ·exact .inr (one h)
   ·exact .inl h
theorem ma {x:Entry} {l:List Entry}:Up (x::l)↔(∀ y∈l,x.aV < y.aV)/\Up l:=List.pairwise_cons
theorem tG {a s:Int}:∀ {l:List Entry},Up l->Up (ic l a s)
 |[],_=>by rw [nR];split;exact List.Pairwise.nil;exact List.pairwise_singleton _ _
 |y::l,h=>by
  obtain ⟨h1,h2⟩:=ma.1 h
  rcases Int.lt_trichotomy y.aV a with h3|h3|h3
  ·rw [mJ h3]
   refine ma.2 ⟨fun z hz=>?_,tG h2⟩
   rcases rr hz with hz|⟨rfl,_⟩
   ·exact h1 z hz
   ·exact h3
  ·rw [mI h3]
   split
   ·exact h2
   ·exact ma.2 ⟨fun z hz=>by have:=h1 z hz;show a < z.aV;omega,h2⟩
  ·rw [nS h3]
   split
   ·exact h
   ·exact ma.2 ⟨fun z hz=>by
     show a < z.aV
     rcases List.mem_cons.1 hz with rfl|hz
     ·exact h3
     ·have:=h1 z hz;omega,h⟩
theorem rF (a s b:Int) (l:List Entry):cE ((if s=0 then [] else [⟨a,s⟩])++l) b=if s≠0/\a=b then s else cE l b:=by
 by_cases h:s=0
 ·simp [h]
 ·simp [h,cE]
theorem rE {a s b:Int}:∀ {l:List Entry},Up l->cE (ic l a s) b=if a=b then s else cE l b
 |[],_=>by
  have:=rF a s b []
  rw [List.append_nil] at this
  rw [nR,this]
  by_cases h:s=0
  ·subst h;simp [cE]
  ·simp [h]
 |y::l,h=>by
  obtain ⟨h1,h2⟩:=ma.1 h
  rcases Int.lt_trichotomy y.aV a with h3|h3|h3
  ·rw [mJ h3]
   unfold cE
   rw [rE h2]
   by_cases h4:y.aV=b
   ·rw [if_pos h4,if_pos h4,if_neg (by omega)]
   ·rw [if_neg h4,if_neg h4]
  ·rw [mI h3,rF]
   by_cases h4:a=b
   ·subst h4
    by_cases h5:s=0
    ·subst h5;simp;exact jL fun z hz=>by have:=h1 z hz;omega
    ·simp [h5]
   ·rw [if_neg (fun h=>h4 h.2),if_neg h4]
    conv=>rhs;unfold cE
    rw [if_neg (by omega)]
  ·rw [nS h3,rF]
   by_cases h4:a=b
   ·subst h4
    by_cases h5:s=0
    ·subst h5;simp;exact jL fun z hz=>by
      rcases List.mem_cons.1 hz with rfl|hz
      ·exact h3
      ·have:=h1 z hz;omega
    ·simp [h5]
   ·rw [if_neg (fun h=>h4 h.2),if_neg h4]
theorem vW {a s:Int}:∀ {l:List Entry},Up l->eC (ic l a s)=eC l - cE l a+s
 |[],_=>by
  rw [nR]
  by_cases h:s=0
  ·subst h;simp [eC,cE]
  ·simp [h,eC,cE]
 |y::l,h=>by
  obtain ⟨h1,h2⟩:=ma.1 h
  have one:eC (if s=0 then [] else [(⟨a,s⟩:Entry)])=s:=by split<;>simp_all [eC]
  rcases Int.lt_trichotomy y.aV a with h3|h3|h3
  ·rw [mJ h3]
   unfold eC cE
   rw [vW h2,if_neg (by omega)];omega
  ·rw [mI h3,nf,one]
   conv=>rhs;unfold eC cE
   rw [if_pos h3];omega
  ·rw [nS h3,nf,one,jL fun z hz=>by
    rcases List.mem_cons.1 hz with rfl|hz
    ·exact h3
    ·have:=h1 z hz;omega]
   omega
theorem sn {l:List Entry} {a s:Int} (h:jQ l) (ha:0<=a/\a<=57) (hs:-1000000000000<=s/\s<=1000000000000):jQ (ic l a s):=
 ⟨tG h.up,fun x hx=>by
  rcases rr hx with hx|⟨rfl,h0⟩
  ·exact h.ok x hx
  ·exact ⟨ha.1,ha.2,hs.1,hs.2,h0⟩⟩
def fw:List Entry->List Entry->Option (List Entry)
 |l,[]=>some l
 |l,e::es=>if iP (cE l e.aV+e.sum)=true then fw (ic l e.aV (cE l e.aV+e.sum)) es else none
def gE (l es:List Entry):List Entry×Int:=
 if (du l).err≠0 then ([],(du l).err)
 else if es.length > 10 then ([],5)
 else if ∃ x∈es,fl x then ([],3)
 else if eC es≠0 then ([],8)
 else match fw l es with
  |some r=>(r,0)
  |none=>([],4)
theorem mQ {s:Int}:iP s=true↔-1000000000000<=s/\s<=1000000000000:=by
 unfold iP;simp only [Bool.and_eq_true,decide_eq_true_eq,ge_iff_le]
theorem qJ {l es:List Entry} {q:Nat} {e:Entry} (h:es[q]?=some e):fw l (es.drop q)=if iP (cE l e.aV+e.sum)=true then fw (ic l e.aV (cE l e.aV+e.sum)) (es.drop (q+1)) else none:=by
 obtain ⟨hq,rfl⟩:=List.getElem?_eq_some_iff.1 h
 rw [List.drop_eq_getElem_cons hq];rfl
theorem po:∀ {es l r:List Entry},jQ l->(∀ x∈es,¬fl x)->fw l es=some r->jQ r/\eC r=eC l+eC es
 |[],l,r,h,_,hp=>by
  have:l=r:=by simpa [fw] using hp
  subst this;exact ⟨h,by simp [eC]⟩
 |e::es,l,r,h,hb,hp=>by
  unfold fw at hp
  split at hp
  ·rename_i hg
   have hg:=mQ.1 hg
   have h1:=hb e List.mem_cons_self
   unfold fl at h1
   obtain ⟨h2,h3⟩:=po (sn h (by omega) hg) (fun x hx=>hb x (List.mem_cons_of_mem _ hx)) hp
   refine ⟨h2,?_⟩
   rw [h3,vW h.up,AJ]
   omega
  ·cases hp
def mq (a:Int):List Entry->Int
 |[]=>0
 |e::es=>(if e.aV=a then e.sum else 0)+mq a es
theorem ya (a:Int) (e:Entry) (es:List Entry):mq a (e::es)=(if e.aV=a then e.sum else 0)+mq a es:=rfl
theorem sF {a:Int}:∀ {es l r:List Entry},Up l->fw l es=some r->cE r a=cE l a+mq a es
 |[],l,r,h,hp=>by
  have:l=r:=by simpa [fw] using hp
  subst this;simp [mq]
 |e::es,l,r,h,hp=>by
  unfold fw at hp
  split at hp
  ·rw [sF (tG h) hp,rE h,ya]
   by_cases hc:e.aV=a
   ·subst hc;simp;omega
   ·simp [hc]
  ·cases hp


theorem qW (l:List Int) (hl:l.length * 8<=140737488355328):Fn Try.prog 95 [(.c (fB l))] (aC (.s 0 0 1 l.length)) [(0,.arr 3 1 (l.map rI))]:=by
 refine Fn.mk' 8 [(0,(aC (fB l)))] Try.func95 rfl rfl rfl rfl ?_
 intro W0 T0
 refine dr 0 rfl (fun hlen0=>?_)
 refine ae aa 1 rfl ?_
 refine ag ?_
 refine aH aa 1 rfl ?_
 refine iQ (ak.plain rfl) rfl rfl Try.underlying30 rfl rfl (fun bn1 hbn1=>?_)
 refine af ?_
 refine ah rfl (fun hc2=>?_) (fun hc2=>?_)
 ·
  have hc2':=hc2;try simp only [bu,bU] at hc2'
  refine ae aa 1 rfl ?_
  refine az ?_
  refine aq ?_
  refine cT (aF.nil 2 3 1 (by decide) rfl) ?_
  refine an aa [0] 1 rfl rfl rfl rfl rfl rfl ?_ ?_
  ·(have h0:=hbn1 (by assumption);have h1:l=[]:=by (cases l with|nil=>rfl|cons=>simp at h0));subst h1;rfl
  ·(have h0:=hbn1 (by assumption);have h1:l=[]:=by (cases l with|nil=>rfl|cons=>simp at h0));subst h1;rfl
 have hc2':=hc2;try simp only [bu,bU] at hc2'
 refine aQ ?_
 refine eB ?_
 refine aN 1 [0] (dy (ys:=[]) (rows:=(([]:List Int)).map rI) 0 nh rfl (by decide) trivial rfl rfl rfl rfl) rfl ?_
 refine ad aa 1 rfl ?_
 refine aN 2 [1] (cX (m:=l.length) (N:=l.length) (k2:=1) (ys:=(l).map rI) nh rfl rfl rfl rfl rfl rfl (by first|omega|(simp;omega)|(simp;done)) rfl (.d _ _) (by first|omega|(simp;omega)|(simp;done)) (by first|omega|(simp;omega)|(simp;done)) rfl (by decide) (by first|omega|(simp;omega)|(simp;done)) (by first|omega|(simp;omega)|(simp;done))) rfl ?_
 refine ad aa 1 rfl ?_
 refine af ?_
 refine az ?_
 refine an aa [1] 1 rfl rfl rfl rfl rfl rfl ?_ ?_
 ·first|rfl|simp [fS,aC]
 ·first|rfl|simp
theorem nI (l:List cm) (hl:l.length * 32<=140737488355328):Fn Try.prog 99 [(.c (iz l))] (aC (.s 0 0 4 l.length)) [(0,.arr 107 4 (l.map iV))]:=by
 refine Fn.mk' 8 [(0,(aC (iz l)))] Try.func99 rfl rfl rfl rfl ?_
 intro W0 T0
 refine dr 0 rfl (fun hlen0=>?_)
 refine ae aa 1 rfl ?_
 refine ag ?_
 refine aH aa 1 rfl ?_
 refine iQ (ak.plain rfl) rfl rfl Try.underlying39 rfl rfl (fun bn1 hbn1=>?_)
 refine af ?_
 refine ah rfl (fun hc2=>?_) (fun hc2=>?_)
 ·
  have hc2':=hc2;try simp only [bu,bU] at hc2'
  refine ae aa 1 rfl ?_
  refine az ?_
  refine aq ?_
  refine cT (aF.nil 2 107 4 (by decide) rfl) ?_
  refine an aa [0] 1 rfl rfl rfl rfl rfl rfl ?_ ?_
  ·(have h0:=hbn1 (by assumption);have h1:l=[]:=by (cases l with|nil=>rfl|cons=>simp at h0));subst h1;rfl
  ·(have h0:=hbn1 (by assumption);have h1:l=[]:=by (cases l with|nil=>rfl|cons=>simp at h0));subst h1;rfl
 have hc2':=hc2;try simp only [bu,bU] at hc2'
 refine aQ ?_
 refine eB ?_
 refine aN 1 [0] (dy (ys:=[]) (rows:=(([]:List cm)).map iV) 0 zq rfl (by decide) trivial rfl rfl rfl rfl) rfl ?_
 refine ad aa 1 rfl ?_
 refine aN 2 [1] (cX (m:=l.length) (N:=l.length) (k2:=1) (ys:=(l).map iV) zq rfl rfl rfl rfl rfl rfl (by first|omega|(simp;omega)|(simp;done)) rfl (.d _ _) (by first|omega|(simp;omega)|(simp;done)) (by first|omega|(simp;omega)|(simp;done)) rfl (by decide) (by first|omega|(simp;omega)|(simp;done)) (by first|omega|(simp;omega)|(simp;done))) rfl ?_
 refine ad aa 1 rfl ?_
 refine af ?_
 refine az ?_
 refine an aa [1] 1 rfl rfl rfl rfl rfl rfl ?_ ?_
 ·first|rfl|simp [fS,aC]
 ·first|rfl|simp
theorem qX (l:List db) (hl:l.length * 16<=140737488355328):Fn Try.prog 114 [(.c (fI l))] (aC (.s 0 0 2 l.length)) [(0,.arr 125 2 (l.map iB))]:=by
 refine Fn.mk' 8 [(0,(aC (fI l)))] Try.func114 rfl rfl rfl rfl ?_
 intro W0 T0
 refine dr 0 rfl (fun hlen0=>?_)
 refine ae aa 1 rfl ?_
 refine ag ?_
 refine aH aa 1 rfl ?_
 refine iQ (ak.plain rfl) rfl rfl Try.underlying59 rfl rfl (fun bn1 hbn1=>?_)
 refine af ?_
 refine ah rfl (fun hc2=>?_) (fun hc2=>?_)
 ·
  have hc2':=hc2;try simp only [bu,bU] at hc2'
  refine ae aa 1 rfl ?_
  refine az ?_
  refine aq ?_
  refine cT (aF.nil 2 125 2 (by decide) rfl) ?_
  refine an aa [0] 1 rfl rfl rfl rfl rfl rfl ?_ ?_
  ·(have h0:=hbn1 (by assumption);have h1:l=[]:=by (cases l with|nil=>rfl|cons=>simp at h0));subst h1;rfl
  ·(have h0:=hbn1 (by assumption);have h1:l=[]:=by (cases l with|nil=>rfl|cons=>simp at h0));subst h1;rfl
 have hc2':=hc2;try simp only [bu,bU] at hc2'
 refine aQ ?_
 refine eB ?_
 refine aN 1 [0] (dy (ys:=[]) (rows:=(([]:List db)).map iB) 0 oZ rfl (by decide) trivial rfl rfl rfl rfl) rfl ?_
 refine ad aa 1 rfl ?_
 refine aN 2 [1] (cX (m:=l.length) (N:=l.length) (k2:=1) (ys:=(l).map iB) oZ rfl rfl rfl rfl rfl rfl (by first|omega|(simp;omega)|(simp;done)) rfl (.d _ _) (by first|omega|(simp;omega)|(simp;done)) (by first|omega|(simp;omega)|(simp;done)) rfl (by decide) (by first|omega|(simp;omega)|(simp;done)) (by first|omega|(simp;omega)|(simp;done))) rfl ?_
 refine ad aa 1 rfl ?_
 refine af ?_
 refine az ?_
 refine an aa [1] 1 rfl rfl rfl rfl rfl rfl ?_ ?_
 ·first|rfl|simp [fS,aC]
 ·first|rfl|simp
theorem my (l:List aT) (hl:l.length * 32<=140737488355328):Fn Try.prog 106 [(.c (dn l))] (aC (.s 0 0 4 l.length)) [(0,.arr 80 4 (l.map fO))]:=by
 refine Fn.mk' 8 [(0,(aC (dn l)))] Try.func106 rfl rfl rfl rfl ?_
 intro W0 T0
 refine dr 0 rfl (fun hlen0=>?_)
 refine ae aa 1 rfl ?_
 refine ag ?_
 refine aH aa 1 rfl ?_
 refine iQ (ak.plain rfl) rfl rfl Try.underlying32 rfl rfl (fun bn1 hbn1=>?_)
 refine af ?_
 refine ah rfl (fun hc2=>?_) (fun hc2=>?_)
 ·
  have hc2':=hc2;try simp only [bu,bU] at hc2'
  refine ae aa 1 rfl ?_
  refine az ?_
  refine aq ?_
  refine cT (aF.nil 2 80 4 (by decide) rfl) ?_
  refine an aa [0] 1 rfl rfl rfl rfl rfl rfl ?_ ?_
  ·(have h0:=hbn1 (by assumption);have h1:l=[]:=by (cases l with|nil=>rfl|cons=>simp at h0));subst h1;rfl
  ·(have h0:=hbn1 (by assumption);have h1:l=[]:=by (cases l with|nil=>rfl|cons=>simp at h0));subst h1;rfl
 have hc2':=hc2;try simp only [bu,bU] at hc2'
 refine aQ ?_
 refine eB ?_
 refine aN 1 [0] (dy (ys:=[]) (rows:=(([]:List aT)).map fO) 0 wc rfl (by decide) trivial rfl rfl rfl rfl) rfl ?_
 refine ad aa 1 rfl ?_
 refine aN 2 [1] (cX (m:=l.length) (N:=l.length) (k2:=1) (ys:=(l).map fO) wc rfl rfl rfl rfl rfl rfl (by first|omega|(simp;omega)|(simp;done)) rfl (.d _ _) (by first|omega|(simp;omega)|(simp;done)) (by first|omega|(simp;omega)|(simp;done)) rfl (by decide) (by first|omega|(simp;omega)|(simp;done)) (by first|omega|(simp;omega)|(simp;done))) rfl ?_
 refine ad aa 1 rfl ?_
 refine af ?_
 refine az ?_
 refine an aa [1] 1 rfl rfl rfl rfl rfl rfl ?_ ?_
 ·first|rfl|simp [fS,aC]
 ·first|rfl|simp
theorem vC (l:List Entry) (hl:l.length * 16<=140737488355328):Fn Try.prog 115 [(.c (eb l))] (aC (.s 0 0 2 l.length)) [(0,.arr 115 2 (l.map eP))]:=by
 refine Fn.mk' 8 [(0,(aC (eb l)))] Try.func115 rfl rfl rfl rfl ?_
 intro W0 T0
 refine dr 0 rfl (fun hlen0=>?_)
 refine ae aa 1 rfl ?_
 refine ag ?_
 refine aH aa 1 rfl ?_
 refine iQ (ak.plain rfl) rfl rfl Try.underlying44 rfl rfl (fun bn1 hbn1=>?_)
 refine af ?_
 refine ah rfl (fun hc2=>?_) (fun hc2=>?_)
 ·
  have hc2':=hc2;try simp only [bu,bU] at hc2'
  refine ae aa 1 rfl ?_
  refine az ?_
  refine aq ?_
  refine cT (aF.nil 2 115 2 (by decide) rfl) ?_
  refine an aa [0] 1 rfl rfl rfl rfl rfl rfl ?_ ?_
  ·(have h0:=hbn1 (by assumption);have h1:l=[]:=by (cases l with|nil=>rfl|cons=>simp at h0));subst h1;rfl
  ·(have h0:=hbn1 (by assumption);have h1:l=[]:=by (cases l with|nil=>rfl|cons=>simp at h0));subst h1;rfl
 have hc2':=hc2;try simp only [bu,bU] at hc2'
 refine aQ ?_
 refine eB ?_
 refine aN 1 [0] (dy (ys:=[]) (rows:=(([]:List Entry)).map eP) 0 kJ rfl (by decide) trivial rfl rfl rfl rfl) rfl ?_
 refine ad aa 1 rfl ?_
 refine aN 2 [1] (cX (m:=l.length) (N:=l.length) (k2:=1) (ys:=(l).map eP) kJ rfl rfl rfl rfl rfl rfl (by first|omega|(simp;omega)|(simp;done)) rfl (.d _ _) (by first|omega|(simp;omega)|(simp;done)) (by first|omega|(simp;omega)|(simp;done)) rfl (by decide) (by first|omega|(simp;omega)|(simp;done)) (by first|omega|(simp;omega)|(simp;done))) rfl ?_
 refine ad aa 1 rfl ?_
 refine af ?_
 refine az ?_
 refine an aa [1] 1 rfl rfl rfl rfl rfl rfl ?_ ?_
 ·first|rfl|simp [fS,aC]
 ·first|rfl|simp
theorem nG (l:List aj) (hl:l.length * 32<=140737488355328):Fn Try.prog 54 [(.c (iy l))] (aC (.s 0 0 4 l.length)) [(0,.arr 83 4 (l.map gj))]:=by
 refine Fn.mk' 8 [(0,(aC (iy l)))] Try.func54 rfl rfl rfl rfl ?_
 intro W0 T0
 refine dr 0 rfl (fun hlen0=>?_)
 refine ae aa 1 rfl ?_
 refine ag ?_
 refine aH aa 1 rfl ?_
 refine iQ (ak.plain rfl) rfl rfl Try.underlying42 rfl rfl (fun bn1 hbn1=>?_)
 refine af ?_
 refine ah rfl (fun hc2=>?_) (fun hc2=>?_)
 ·
  have hc2':=hc2;try simp only [bu,bU] at hc2'
  refine ae aa 1 rfl ?_
  refine az ?_
  refine aq ?_
  refine cT (aF.nil 2 83 4 (by decide) rfl) ?_
  refine an aa [0] 1 rfl rfl rfl rfl rfl rfl ?_ ?_
  ·(have h0:=hbn1 (by assumption);have h1:l=[]:=by (cases l with|nil=>rfl|cons=>simp at h0));subst h1;rfl
  ·(have h0:=hbn1 (by assumption);have h1:l=[]:=by (cases l with|nil=>rfl|cons=>simp at h0));subst h1;rfl
 have hc2':=hc2;try simp only [bu,bU] at hc2'
 refine aQ ?_
 refine eB ?_
 refine aN 1 [0] (dy (ys:=[]) (rows:=(([]:List aj)).map gj) 0 tE rfl (by decide) trivial rfl rfl rfl rfl) rfl ?_
 refine ad aa 1 rfl ?_
 refine aN 2 [1] (cX (m:=l.length) (N:=l.length) (k2:=1) (ys:=(l).map gj) tE rfl rfl rfl rfl rfl rfl (by first|omega|(simp;omega)|(simp;done)) rfl (.d _ _) (by first|omega|(simp;omega)|(simp;done)) (by first|omega|(simp;omega)|(simp;done)) rfl (by decide) (by first|omega|(simp;omega)|(simp;done)) (by first|omega|(simp;omega)|(simp;done))) rfl ?_
 refine ad aa 1 rfl ?_
 refine af ?_
 refine az ?_
 refine an aa [1] 1 rfl rfl rfl rfl rfl rfl ?_ ?_
 ·first|rfl|simp [fS,aC]
 ·first|rfl|simp


theorem xv (l:List Entry) (f:dc) (hr:du l=f):Fn Try.prog 33 [(.c (eb l))] (.v (.g [(cI f.err),(cI f.at_)])) []:=by
 refine Fn.mk' 64 [(0,(aC (eb l)))] Try.func33 rfl rfl rfl rfl ?_
 intro W0 T0
 refine dr 0 rfl (fun hlen0=>?_)
 refine ae aa 1 rfl ?_
 refine ae aa 1 rfl ?_
 refine ag ?_
 refine aH aa 1 rfl ?_
 refine aA (cM rfl rfl rfl rfl rfl Try.underlying44) rfl ?_
 refine ad aa 1 rfl ?_
 refine af ?_
 refine aX ?_
 refine cw (β:=Nat) (fun (q:Nat)=>⟨[(0,(aC (eb l))),(2,(aC (.p 0 0 0 0))),(3,(aI (eC (l.take q)))),(6,(aC (eb l))),(7,(aI (↑l.length:Int))),(8,(aI (↑q:Int)))],[(0,(.box 50 [(cI 0),(cI 0)]))],1⟩) (fun (q:Nat)=>q<=l.length/\scan (lK l) 0 l.length=scan (lK l) q (l.length - q)/\(q:Int) - 1<=jc l q/\jc l q<=57/\-1000000000000 * (q:Int)<=eC (l.take q)/\eC (l.take q)<=1000000000000 * (q:Int)) (fun (q:Nat)=>l.length - q) 0 ?_ ?_ ?_
 ·(have h1:jc l 0=-1:=rfl);(have h2:eC (l.take 0)=0:=rfl);exact ⟨by omega,rfl,by omega,by omega⟩
 ·exact aF.bW id (by refine ⟨?_,?_,?_,?_,?_,?_,trivial⟩<;>first|rfl|(simp only [bm];done)|(congr 3;omega)|(congr 4;omega)|(simp only [bn];rfl)) (⟨by first|rfl|(simp only [bm];done)|(congr 3;omega)|(congr 4;omega)|(simp only [bn];rfl),trivial⟩) rfl
 rintro q ⟨hi0_0,hi0_1,hi0_2,hi0_3⟩
 refine ae aa 1 rfl ?_
 refine ag ?_
 refine ah rfl (fun hc1=>?_) (fun hc1=>?_)
 ·
  have hc1':=of_decide_eq_true hc1
  refine aQ ?_
  refine ag ?_
  refine aX ?_
  refine aH aa 1 rfl ?_
  obtain ⟨x1,hx1⟩:=ck (xs:=l) (i:=q) (by first|omega|(simp;done)|(simp;omega))
  refine aA (cH (i:=q) rfl rfl rfl Try.underlying44 ep (by first|omega|(simp;done)|(simp;omega)) (bw hx1)) rfl ?_
  refine ad aa 4 rfl ?_
  refine af ?_
  refine ag ?_
  refine aX ?_
  refine cx 13 ((((decide (x1.aV < 0))||(decide (x1.aV>=58)))||(decide (x1.sum < (-1000000000000))))||(decide (x1.sum > 1000000000000))) ?_ ?_
  ·
   refine au ?_
   refine ad aa 4 rfl ?_
   refine bI (t:=17) rfl (fun hb2=>?_) (fun hb2=>?_)
   ·
    have hb2':=of_decide_eq_true hb2
    refine ad aa 15 rfl ?_
    refine af ?_
    exact aF.bH 20 rfl rfl (by first|(simp [hb2];done)|(simp_all;done)|(exfalso;simp_all;done)|(simp_all;omega)) rfl
   have hb2':=of_decide_eq_false hb2
   refine ad aa 5 rfl ?_
   refine bI (t:=22) rfl (fun hb3=>?_) (fun hb3=>?_)
   ·
    have hb3':=of_decide_eq_true hb3
    refine ad aa 10 rfl ?_
    refine af ?_
    exact aF.bH 21 rfl rfl (by first|(simp [hb2,hb3];done)|(simp_all;done)|(exfalso;simp_all;done)|(simp_all;omega)) rfl
   have hb3':=of_decide_eq_false hb3
   refine ad aa 5 rfl ?_
   refine bI (t:=27) rfl (fun hb4=>?_) (fun hb4=>?_)
   ·
    have hb4':=of_decide_eq_true hb4
    refine ad aa 5 rfl ?_
    refine af ?_
    exact aF.bH 22 rfl rfl (by first|(simp [hb2,hb3,hb4];done)|(simp_all;done)|(exfalso;simp_all;done)|(simp_all;omega)) rfl
   have hb4':=of_decide_eq_false hb4
   refine ad aa 5 rfl ?_
   refine af ?_
   exact aF.bH 22 rfl rfl (by first|(simp [hb2,hb3,hb4];done)|(simp_all;done)|(exfalso;simp_all;done)|(simp_all;omega)) rfl
  refine ah rfl (fun hc5=>?_) (fun hc5=>?_)
  ·
   have hc5':=hc5;try simp only [bu,bU] at hc5'
   refine ae aa 3 rfl ?_
   refine az ?_
   refine bp ?_
   refine aq ?_
   refine bp ?_
   refine aq ?_
   refine aq ?_
   refine bp ?_
   refine aq ?_
   have hX:du l=(⟨3,(↑q:Int)⟩:dc):=by
     (have hb:fl x1:=by unfold fl;omega);(have h0:=iJ (e:=lK l) (q:=q) (n:=l.length) (by omega) (by rw [iG hx1,if_pos hb]) (by decide:(3:Int)≠0));(unfold du;rw [hi0_1,h0];rfl)
   rw [hX] at hr;clear hX
   subst hr
   refine an aa [0] 0 rfl rfl rfl rfl rfl rfl ?_ ?_
   all_goals first|rfl|(simp [ay];done)|(simp [ay];omega)
  have hc5':=hc5;try simp only [bu,bU] at hc5'
  refine ag ?_
  rcases Bool.eq_false_or_eq_true (decide ((↑q:Int) > 0)) with hb6|hb6
  ·
   have hb6':=of_decide_eq_true hb6
   obtain ⟨x2,hx2⟩:=ck (xs:=l) (i:=(q) - 1) (by first|omega|(simp;done)|(simp;omega))
   rcases Bool.eq_false_or_eq_true (decide (x2.aV>=x1.aV)) with hb7|hb7
   ·
    have hb7':=of_decide_eq_true hb7
    refine ba [0,2,3,6,7,8,5,4] [1,0] mixed rfl rfl ?_
    refine aE (kn:=[(36,true)]) aa 5 rfl ⟨hb6,trivial⟩ ?_
    refine aU (n':=2) [39,37] [] rfl rfl (.inl ⟨(ak.yes rfl rfl rfl),aM.cast (aL rfl rfl rfl (aJ (by first|omega|(simp;done)|(simp;omega)))) rfl⟩) rfl ?_
    refine aU (n':=2) [38,40,37] [] rfl rfl (.inl ⟨(ak.yes rfl rfl rfl),aM.cast (cH (i:=(q) - 1) rfl rfl rfl Try.underlying44 ep (by first|omega|(simp;done)|(simp;omega)) (bw hx2)) rfl⟩) rfl ?_
    refine aE (kn:=[(46,true)]) aa 12 rfl ⟨hb7,trivial⟩ ?_
    refine bC [1,0] rfl rfl rfl rfl (by kernel_rfl) ?_
    refine af ?_
    refine ah rfl (fun _=>?_) (fun hno=>by cases hno)
    refine ae aa 3 rfl ?_
    refine az ?_
    refine bp ?_
    refine aq ?_
    refine bp ?_
    refine aq ?_
    refine aq ?_
    refine bp ?_
    refine aq ?_
    have hX:du l=(⟨2,(↑q:Int)⟩:dc):=by
      (have hb:¬fl x1:=by unfold fl;omega);(have hla:=ly (by omega) hx2);(have h0:=iJ (e:=lK l) (q:=q) (n:=l.length) (by omega) (by rw [iG hx1,if_neg hb,if_pos (by omega)]) (by decide:(2:Int)≠0));(unfold du;rw [hi0_1,h0];rfl)
    rw [hX] at hr;clear hX
    subst hr
    refine an aa [0] 0 rfl rfl rfl rfl rfl rfl ?_ ?_
    all_goals first|rfl|(simp [ay];done)|(simp [ay];omega)
   have hb7':=of_decide_eq_false hb7
   refine ba [0,2,3,6,7,8,5,4] [1,0] mixed rfl rfl ?_
   refine aE (kn:=[(36,true)]) aa 5 rfl ⟨hb6,trivial⟩ ?_
   refine aU (n':=2) [39,37] [] rfl rfl (.inl ⟨(ak.yes rfl rfl rfl),aM.cast (aL rfl rfl rfl (aJ (by first|omega|(simp;done)|(simp;omega)))) rfl⟩) rfl ?_
   refine aU (n':=2) [38,40,37] [] rfl rfl (.inl ⟨(ak.yes rfl rfl rfl),aM.cast (cH (i:=(q) - 1) rfl rfl rfl Try.underlying44 ep (by first|omega|(simp;done)|(simp;omega)) (bw hx2)) rfl⟩) rfl ?_
   refine aE (kn:=[(46,false)]) aa 12 rfl ⟨hb7,trivial⟩ ?_
   refine bC [1,0] rfl rfl rfl rfl (by kernel_rfl) ?_
   refine af ?_
   refine ah rfl (fun hc9=>?_) (fun hc9=>?_)
   ·
    have hc9':=of_decide_eq_true hc9
    refine ae aa 3 rfl ?_
    refine az ?_
    refine bp ?_
    refine aq ?_
    refine bp ?_
    refine aq ?_
    refine aq ?_
    refine bp ?_
    refine aq ?_
    have hX:du l=(⟨2,(↑q:Int)⟩:dc):=by
      (have hb:¬fl x1:=by unfold fl;omega);(have hla:=ly (by omega) hx2);(have h0:=iJ (e:=lK l) (q:=q) (n:=l.length) (by omega) (by rw [iG hx1,if_neg hb,if_pos (by omega)]) (by decide:(2:Int)≠0));(unfold du;rw [hi0_1,h0];rfl)
    rw [hX] at hr;clear hX
    subst hr
    refine an aa [0] 0 rfl rfl rfl rfl rfl rfl ?_ ?_
    all_goals first|rfl|(simp [ay];done)|(simp [ay];omega)
   have hc9':=of_decide_eq_false hc9
   refine cZ ?_
   refine bh ?_
   refine then_ok ?_
   refine au ?_
   refine ad aa 3 rfl ?_
   refine aA (aL rfl rfl rfl (aJ (by first|omega|(simp;done)|(simp;omega)))) rfl ?_
   refine ad aa 1 rfl ?_
   refine bY ?_
   refine bh ?_
   refine then_ok ?_
   refine au ?_
   refine aA (aL rfl rfl rfl (aJ (by first|omega|(simp;done)|(simp;omega)))) rfl ?_
   refine ad aa 1 rfl ?_
   refine af ?_
   refine ⟨q+1,⟨by omega,by rw [hi0_1];exact nw (by omega) (by have hla:=ly (by omega) hx2;rw [iG hx1,if_neg (by unfold fl;omega),if_neg (by omega)]),by rw [ky hx1];have hla:=ly (by omega) hx2;omega,by rw [ky hx1,jU hx1];omega⟩,by first|omega|(simp;done)|(simp;omega),aF.bW id (by refine ⟨?_,?_,?_,?_,?_,?_,trivial⟩<;>first|rfl|(simp only [bm];done)|(congr 3;omega)|(congr 4;omega)|(simp only [bn];rfl)|(rw [jU hx1];rfl)) (⟨by first|rfl|(simp only [bm];done)|(congr 3;omega)|(congr 4;omega)|(simp only [bn];rfl),trivial⟩) rfl⟩
  have hb6':=of_decide_eq_false hb6
  refine ba [0,2,3,6,7,8,5,4] [1,0] mixed rfl rfl ?_
  refine aE (kn:=[(36,false)]) aa 19 rfl ⟨hb6,trivial⟩ ?_
  refine bC [1,0] rfl rfl rfl rfl (by kernel_rfl) ?_
  refine af ?_
  refine ah rfl (fun hc10=>?_) (fun hc10=>?_)
  ·
   have hc10':=of_decide_eq_true hc10
   refine ae aa 3 rfl ?_
   refine az ?_
   refine bp ?_
   refine aq ?_
   refine bp ?_
   refine aq ?_
   refine aq ?_
   refine bp ?_
   refine aq ?_
   have hX:du l=(⟨2,(↑q:Int)⟩:dc):=by
     (have hb:¬fl x1:=by unfold fl;omega);(have h0:=iJ (e:=lK l) (q:=q) (n:=l.length) (by omega) (by rw [iG hx1,if_neg hb,if_pos (by omega)]) (by decide:(2:Int)≠0));(unfold du;rw [hi0_1,h0];rfl)
   rw [hX] at hr;clear hX
   subst hr
   refine an aa [0] 0 rfl rfl rfl rfl rfl rfl ?_ ?_
   all_goals first|rfl|(simp [ay];done)|(simp [ay];omega)
  have hc10':=of_decide_eq_false hc10
  refine cZ ?_
  refine bh ?_
  refine then_ok ?_
  refine au ?_
  refine ad aa 3 rfl ?_
  refine aA (aL rfl rfl rfl (aJ (by first|omega|(simp;done)|(simp;omega)))) rfl ?_
  refine ad aa 1 rfl ?_
  refine bY ?_
  refine bh ?_
  refine then_ok ?_
  refine au ?_
  refine aA (aL rfl rfl rfl (aJ (by first|omega|(simp;done)|(simp;omega)))) rfl ?_
  refine ad aa 1 rfl ?_
  refine af ?_
  refine ⟨q+1,⟨by omega,by rw [hi0_1];exact nw (by omega) (by have hla:jc l q=-1:=(by unfold jc;rw [if_pos (by omega)]);rw [iG hx1,if_neg (by unfold fl;omega),if_neg (by omega)]),by rw [ky hx1];have hla:jc l q=-1:=(by unfold jc;rw [if_pos (by omega)]);omega,by rw [ky hx1,jU hx1];omega⟩,by first|omega|(simp;done)|(simp;omega),aF.bW id (by refine ⟨?_,?_,?_,?_,?_,?_,trivial⟩<;>first|rfl|(simp only [bm];done)|(congr 3;omega)|(congr 4;omega)|(simp only [bn];rfl)|(rw [jU hx1];rfl)) (⟨by first|rfl|(simp only [bm];done)|(congr 3;omega)|(congr 4;omega)|(simp only [bn];rfl),trivial⟩) rfl⟩
 have hc1':=of_decide_eq_false hc1
 refine cj ?_
 refine aP ?_
 refine aP ?_
 refine bK ?_
 refine then_ok ?_
 refine ag ?_
 refine ae aa 2 rfl ?_
 refine ah rfl (fun hc11=>?_) (fun hc11=>?_)
 ·
  have hc11':=of_decide_eq_true hc11
  refine ae aa 2 rfl ?_
  refine az ?_
  refine aq ?_
  have hX:du l=(⟨8,0⟩:dc):=by
    (obtain rfl:q=l.length:=by omega);rw [List.take_length] at *;(unfold du;rw [hi0_1,nU (by omega)];rw [if_neg (by decide),if_pos (by omega)])
  rw [hX] at hr;clear hX
  subst hr
  refine an aa [0] 0 rfl rfl rfl rfl rfl rfl ?_ ?_
  all_goals first|rfl|(simp [ay];done)|(simp [ay];omega)
 have hc11':=of_decide_eq_false hc11
 refine aQ ?_
 refine ae aa 2 rfl ?_
 refine az ?_
 have hX:du l=(⟨0,0⟩:dc):=by
   (obtain rfl:q=l.length:=by omega);rw [List.take_length] at *;(unfold du;rw [hi0_1,nU (by omega)];rw [if_neg (by decide),if_neg (by omega)])
 rw [hX] at hr;clear hX
 subst hr
 refine an aa [0] 0 rfl rfl rfl rfl rfl rfl ?_ ?_
 all_goals first|rfl|(simp [ay];done)|(simp [ay];omega)


theorem rz {l es:List Entry} (h0:(du l).err=0) (h1:es.length<=10) (h2:∀ x∈es,¬fl x) (h3:eC es=0):gE l es=match fw l es with
    |some r=>(r,0)
    |none=>([],4):=by
  unfold gE
  rw [if_neg (by omega),if_neg (by omega),if_neg (fun ⟨x,hx,hb⟩=>h2 x hx hb),if_neg (by omega)]
  all_goals (cases fw l es<;>rfl)
theorem uJ {es:List Entry} {q:Nat} (h:∀ x∈es.take q,¬fl x) (hq:es.length<=q):∀ x∈es,¬fl x:=by
  rwa [List.take_of_length_le hq] at h
theorem zE {es:List Entry} {q:Nat} {x:Entry} (h:∀ x∈es.take q,¬fl x) (hx:es[q]?=some x) (hb:¬fl x):∀ x∈es.take (q+1),¬fl x:=by
  rw [uu hx]
  intro y hy
  rcases List.mem_append.1 hy with hy|hy
  ·exact h y hy
  ·rw [List.mem_singleton.1 hy];exact hb
theorem yr {es:List Entry} {q:Nat} (hq:es.length<=q):eC (es.take q)=eC es:=by rw [List.take_of_length_le hq]
theorem ET {l m es:List Entry} {q:Nat} (h:fw l es=fw m (es.drop q)) (hq:es.length<=q):fw l es=some m:=by
  rw [h,List.drop_of_length_le hq];rfl
theorem yk (l es:List Entry) (r:List Entry) (e:Int) (hr:gE l es=(r,e)):Fn Try.prog 111 [(.c (eb l)),(.c (eb es))] (.t [(.c (.s 0 0 2 r.length)),(.c (cI e))]) [(0,(mC r))]:=by
 refine Fn.mk' 75 [(0,(aC (eb l))),(1,(aC (eb es)))] Try.func111 rfl rfl rfl rfl ?_
 intro W0 T0
 refine dr 0 rfl (fun hlen0=>?_)
 refine dr 1 rfl (fun hlen1=>?_)
 refine ae aa 2 rfl ?_
 refine ag ?_
 refine aH aa 1 rfl ?_
 obtain ⟨f0,hr0⟩:∃ (f0:dc),du l=f0:=⟨_,rfl⟩
 refine aN 0 [] (bQ 0 (xv l f0 hr0) Jr rfl rfl ⟨⟨_,rfl,.c (.d _)⟩,trivial⟩ ⟨trivial,trivial,trivial⟩ trivial rfl rfl rfl rfl) rfl ?_
 refine ad aa 2 rfl ?_
 refine af ?_
 refine ae aa 3 rfl ?_
 refine ah rfl (fun hc1=>?_) (fun hc1=>?_)
 ·
  have hc1':=of_decide_eq_true hc1
  refine ag ?_
  refine ba [0,1,6] [0] mixed rfl rfl ?_
  refine aE (kn:=[]) aa 4 rfl trivial ?_
  refine bC [0] rfl rfl rfl rfl (by kernel_rfl) ?_
  refine af ?_
  refine az ?_
  refine aq ?_
  refine cT (aF.nil 4 115 2 (by decide) rfl) ?_
  have hX:gE l es=(([]:List Entry),f0.err):=by
    unfold gE;rw [if_pos (by rw [hr0];omega),hr0]
  rw [hX] at hr;clear hX
  simp only [Prod.mk.injEq] at hr;obtain ⟨rfl,rfl⟩:=hr
  refine an aa [1] 1 rfl rfl rfl rfl rfl rfl ?_ ?_
  all_goals first|rfl|(simp [ay];done)|(simp [ay];omega)
 have hc1':=of_decide_eq_false hc1
 refine aQ ?_
 refine ag ?_
 refine aH aa 1 rfl ?_
 refine aA (cM rfl rfl rfl rfl rfl Try.underlying44) rfl ?_
 refine ad aa 1 rfl ?_
 refine af ?_
 refine ah rfl (fun hc2=>?_) (fun hc2=>?_)
 ·
  have hc2':=of_decide_eq_true hc2
  refine ae aa 2 rfl ?_
  refine az ?_
  refine aq ?_
  refine cT (aF.nil 4 115 2 (by decide) rfl) ?_
  have hX:gE l es=(([]:List Entry),5):=by
    unfold gE;rw [if_neg (by rw [hr0];omega),if_pos (by omega)]
  rw [hX] at hr;clear hX
  simp only [Prod.mk.injEq] at hr;obtain ⟨rfl,rfl⟩:=hr
  refine an aa [1] 1 rfl rfl rfl rfl rfl rfl ?_ ?_
  all_goals first|rfl|(simp [ay];done)|(simp [ay];omega)
 have hc2':=of_decide_eq_false hc2
 refine aQ ?_
 refine ae aa 1 rfl ?_
 refine ag ?_
 refine aH aa 1 rfl ?_
 refine aA (cM rfl rfl rfl rfl rfl Try.underlying44) rfl ?_
 refine ad aa 1 rfl ?_
 refine af ?_
 refine aX ?_
 refine cw (β:=Nat) (fun (q:Nat)=>⟨[(0,(aC (eb l))),(1,(aC (eb es))),(7,(aI (eC (es.take q)))),(25,(aC (eb es))),(26,(aI (↑es.length:Int))),(27,(aI (↑q:Int)))],[],0⟩) (fun (q:Nat)=>q<=es.length/\(∀ x∈es.take q,¬fl x)/\-1000000000000 * (q:Int)<=eC (es.take q)/\eC (es.take q)<=1000000000000 * (q:Int)) (fun (q:Nat)=>es.length - q) 0 ?_ ?_ ?_
 ·(have h2:eC (es.take 0)=0:=rfl);exact ⟨by omega,by intro x hx;simp at hx,by omega⟩
 ·exact aF.bW id (by refine ⟨?_,?_,?_,?_,?_,?_,trivial⟩<;>first|rfl|(simp only [bm];done)|(congr 3;omega)|(congr 4;omega)|(simp only [bn];rfl)) (trivial) rfl
 rintro q ⟨hi0_0,hi0_1,hi0_2⟩
 refine ae aa 1 rfl ?_
 refine ag ?_
 refine ah rfl (fun hc3=>?_) (fun hc3=>?_)
 ·
  have hc3':=of_decide_eq_true hc3
  refine aQ ?_
  refine ag ?_
  refine aX ?_
  refine eB ?_
  obtain ⟨x1,hx1⟩:=ck (xs:=es) (i:=q) (by first|omega|(simp;done)|(simp;omega))
  refine aA (cH (i:=q) rfl rfl rfl Try.underlying44 ep (by first|omega|(simp;done)|(simp;omega)) (bw hx1)) rfl ?_
  refine ad aa 3 rfl ?_
  refine af ?_
  refine ag ?_
  refine cx 48 ((((decide (x1.aV < 0))||(decide (x1.aV>=58)))||(decide (x1.sum < (-1000000000000))))||(decide (x1.sum > 1000000000000))) ?_ ?_
  ·
   refine au ?_
   refine ad aa 4 rfl ?_
   refine bI (t:=34) rfl (fun hb4=>?_) (fun hb4=>?_)
   ·
    have hb4':=of_decide_eq_true hb4
    refine ad aa 14 rfl ?_
    refine af ?_
    exact aF.bH 19 rfl rfl (by first|(simp [hb4];done)|(simp_all;done)|(exfalso;simp_all;done)|(simp_all;omega)) rfl
   have hb4':=of_decide_eq_false hb4
   refine ad aa 5 rfl ?_
   refine bI (t:=39) rfl (fun hb5=>?_) (fun hb5=>?_)
   ·
    have hb5':=of_decide_eq_true hb5
    refine ad aa 9 rfl ?_
    refine af ?_
    exact aF.bH 20 rfl rfl (by first|(simp [hb4,hb5];done)|(simp_all;done)|(exfalso;simp_all;done)|(simp_all;omega)) rfl
   have hb5':=of_decide_eq_false hb5
   refine ad aa 5 rfl ?_
   refine bI (t:=44) rfl (fun hb6=>?_) (fun hb6=>?_)
   ·
    have hb6':=of_decide_eq_true hb6
    refine ad aa 4 rfl ?_
    refine af ?_
    exact aF.bH 21 rfl rfl (by first|(simp [hb4,hb5,hb6];done)|(simp_all;done)|(exfalso;simp_all;done)|(simp_all;omega)) rfl
   have hb6':=of_decide_eq_false hb6
   refine ad aa 4 rfl ?_
   refine af ?_
   exact aF.bH 21 rfl rfl (by first|(simp [hb4,hb5,hb6];done)|(simp_all;done)|(exfalso;simp_all;done)|(simp_all;omega)) rfl
  refine ah rfl (fun hc7=>?_) (fun hc7=>?_)
  ·
   have hc7':=hc7;try simp only [bu,bU] at hc7'
   refine ae aa 2 rfl ?_
   refine az ?_
   refine aq ?_
   refine bp ?_
   refine aq ?_
   refine aq ?_
   refine bp ?_
   refine aq ?_
   refine cT (aF.nil 4 115 2 (by decide) rfl) ?_
   have hX:gE l es=(([]:List Entry),3):=by
     unfold gE;rw [if_neg (by rw [hr0];omega),if_neg (by omega),if_pos ⟨x1,List.mem_of_getElem? hx1,by unfold fl;omega⟩]
   rw [hX] at hr;clear hX
   simp only [Prod.mk.injEq] at hr;obtain ⟨rfl,rfl⟩:=hr
   refine an aa [1] 1 rfl rfl rfl rfl rfl rfl ?_ ?_
   all_goals first|rfl|(simp [ay];done)|(simp [ay];omega)
  have hc7':=hc7;try simp only [bu,bU] at hc7'
  refine aQ ?_
  refine au ?_
  refine ad aa 3 rfl ?_
  refine aA (aL rfl rfl rfl (aJ (by first|omega|(simp;done)|(simp;omega)))) rfl ?_
  refine ad aa 1 rfl ?_
  refine bY ?_
  refine bh ?_
  refine then_ok ?_
  refine au ?_
  refine aA (aL rfl rfl rfl (aJ (by first|omega|(simp;done)|(simp;omega)))) rfl ?_
  refine ad aa 1 rfl ?_
  refine af ?_
  refine ⟨q+1,⟨by omega,zE hi0_1 hx1 (by unfold fl;omega),by rw [jU hx1];omega⟩,by first|omega|(simp;done)|(simp;omega),aF.bW id (by refine ⟨?_,?_,?_,?_,?_,?_,trivial⟩<;>first|rfl|(simp only [bm];done)|(congr 3;omega)|(congr 4;omega)|(simp only [bn];rfl)|(rw [jU hx1];rfl)) (trivial) rfl⟩
 have hc3':=of_decide_eq_false hc3
 refine cj ?_
 refine aP ?_
 refine aP ?_
 refine bK ?_
 refine then_ok ?_
 refine ag ?_
 refine ae aa 2 rfl ?_
 refine ah rfl (fun hc8=>?_) (fun hc8=>?_)
 ·
  have hc8':=of_decide_eq_true hc8
  refine ae aa 2 rfl ?_
  refine az ?_
  refine aq ?_
  refine cT (aF.nil 4 115 2 (by decide) rfl) ?_
  have hX:gE l es=(([]:List Entry),8):=by
    (have hs:=yr (es:=es) (q:=q) (by omega));(have hnb:=uJ hi0_1 (by omega));unfold gE;rw [if_neg (by rw [hr0];omega),if_neg (by omega),if_neg (fun ⟨x,hx,hb⟩=>hnb x hx hb),if_pos (by omega)]
  rw [hX] at hr;clear hX
  simp only [Prod.mk.injEq] at hr;obtain ⟨rfl,rfl⟩:=hr
  refine an aa [0] 1 rfl rfl rfl rfl rfl rfl ?_ ?_
  all_goals first|rfl|(simp [ay];done)|(simp [ay];omega)
 have hc8':=of_decide_eq_false hc8
 refine aQ ?_
 have h0:(du l).err=0:=by rw [hr0];omega
 have hR:jQ l:=(lR.1 h0).1
 have hRl:=uD hR
 have hs:=yr (es:=es) (q:=q) (by omega)
 have hnb:=uJ hi0_1 (by omega)
 refine aH aa 1 rfl ?_
 refine aN 1 [0] (bQ 0 (vC l (by first|omega|(simp;done)|(simp;omega))) HT rfl rfl ⟨⟨_,rfl,.c (.d _)⟩,trivial⟩ trivial ⟨(fun _ _ _ _=>trivial),trivial⟩ rfl rfl rfl rfl) rfl ?_
 refine ad aa 1 rfl ?_
 refine af ?_
 refine ag ?_
 refine aH aa 1 rfl ?_
 refine aA (cM rfl rfl rfl rfl rfl Try.underlying44) rfl ?_
 refine ad aa 1 rfl ?_
 refine af ?_
 refine aX ?_
 refine cw (β:=Nat×List Entry) (fun (p:Nat×List Entry)=>match p with|(p,m)=>⟨[(0,(aC (eb l))),(1,(aC (eb es))),(7,(aI (eC (es.take q)))),(25,(aC (eb es))),(26,(aI (↑es.length:Int))),(27,(aI (↑q:Int))),(10,(aC (.s 0 0 2 m.length))),(58,(aC (eb es))),(59,(aI (↑es.length:Int))),(60,(aI (↑p:Int)))],[(0,(mC m))],1⟩) (fun (p:Nat×List Entry)=>match p with|(p,m)=>p<=es.length/\jQ m/\fw l es=fw m (es.drop p)) (fun (p:Nat×List Entry)=>match p with|(p,m)=>es.length - p) (0,l) ?_ ?_ ?_
 ·exact ⟨by omega,hR,rfl⟩
 ·exact aF.bW id (by refine ⟨?_,?_,?_,?_,?_,?_,?_,?_,?_,?_,trivial⟩<;>first|rfl|(simp only [bm];done)|(congr 3;omega)|(congr 4;omega)|(simp only [bn];rfl)) (⟨by first|rfl|(simp only [bm];done)|(congr 3;omega)|(congr 4;omega)|(simp only [bn];rfl),trivial⟩) rfl
 rintro ⟨p,m⟩ ⟨hi1_0,hi1_1,hi1_2⟩
 refine ae aa 1 rfl ?_
 refine ag ?_
 refine ah rfl (fun hc9=>?_) (fun hc9=>?_)
 ·
  have hc9':=of_decide_eq_true hc9
  refine aQ ?_
  refine ag ?_
  refine aX ?_
  refine eB ?_
  obtain ⟨x1,hx1⟩:=ck (xs:=es) (i:=p) (by first|omega|(simp;done)|(simp;omega))
  have hx1n:=hnb x1 (List.mem_of_getElem? hx1)
  have hx1b:0<=x1.aV/\x1.aV<=57/\-1000000000000<=x1.sum/\x1.sum<=1000000000000:=by unfold fl at hx1n;omega
  refine aA (cH (i:=p) rfl rfl rfl Try.underlying44 ep (by first|omega|(simp;done)|(simp;omega)) (bw hx1)) rfl ?_
  refine ad aa 3 rfl ?_
  refine af ?_
  refine aH aa 2 rfl ?_
  obtain ⟨r1,g1,hr1⟩:∃ (r1:List Entry) (g1:Bool),kp m x1=(r1,g1):=⟨_,_,rfl⟩
  obtain ⟨hp1,hg1⟩:=Prod.mk.inj hr1
  refine aN 3 [2,1] (cL id (bd [2]) (Ie m x1 (by exact (show jQ _ by assumption).up) (by (have:=uD (show jQ _ by assumption);omega)) (by (intro y hy;have:=(show jQ _ by assumption).ok y hy;omega)) (by (unfold fl at *;omega)) r1 g1 hr1) HS rfl rfl ⟨⟨_,rfl,.inl ⟨rfl,rfl⟩⟩,⟨_,rfl,.inr (.g ⟨.d _,.d _,trivial⟩)⟩,trivial⟩ ⟨rfl,trivial⟩ rfl rfl rfl rfl rfl rfl ⟨trivial,trivial,trivial⟩ ⟨(fun _ _ _ _=>trivial),trivial⟩ rfl rfl rfl rfl) rfl ?_
  refine ad aa 5 rfl ?_
  refine af ?_
  refine ag ?_
  refine ae aa 2 rfl ?_
  refine ah rfl (fun hc10=>?_) (fun hc10=>?_)
  ·
   have hc10':=hc10;try simp only [bu,bU] at hc10'
   refine ae aa 2 rfl ?_
   refine az ?_
   refine aq ?_
   refine bp ?_
   refine aq ?_
   refine aq ?_
   refine bp ?_
   refine aq ?_
   refine cT (aF.nil 4 115 2 (by decide) rfl) ?_
   have hX:gE l es=(([]:List Entry),4):=by
     rw [rz h0 (by omega) hnb (by omega),hi1_2,qJ hx1,if_neg (by simp_all)]
   rw [hX] at hr;clear hX
   simp only [Prod.mk.injEq] at hr;obtain ⟨rfl,rfl⟩:=hr
   refine an aa [3] 1 rfl rfl rfl rfl rfl rfl ?_ ?_
   all_goals first|rfl|(simp [ay];done)|(simp [ay];omega)
  have hc10':=hc10;try simp only [bu,bU] at hc10'
  refine aQ ?_
  refine au ?_
  refine ad aa 2 rfl ?_
  refine bY ?_
  refine bh ?_
  refine then_ok ?_
  refine au ?_
  refine aA (aL rfl rfl rfl (aJ (by first|omega|(simp;done)|(simp;omega)))) rfl ?_
  refine ad aa 1 rfl ?_
  refine af ?_
  refine ⟨(p+1,r1),⟨by omega,by rw [<-hp1];exact sn hi1_1 (by omega) (mQ.1 (by rw [hg1];simp_all)),by rw [hi1_2,qJ hx1,if_pos (by rw [hg1];simp_all),hp1]⟩,by first|omega|(simp;done)|(simp;omega),aF.bW (fun k=>if k=0 then 2 else k) (by refine ⟨?_,?_,?_,?_,?_,?_,?_,?_,?_,?_,trivial⟩<;>first|rfl|(simp only [bm];done)|(congr 3;omega)|(congr 4;omega)|(simp only [bn];rfl)) (⟨by first|rfl|(simp only [bm];done)|(congr 3;omega)|(congr 4;omega)|(simp only [bn];rfl),trivial⟩) rfl⟩
 have hc9':=of_decide_eq_false hc9
 refine cj ?_
 refine aP ?_
 refine aP ?_
 refine bK ?_
 refine then_ok ?_
 refine ae aa 3 rfl ?_
 refine az ?_
 have hX:gE l es=(m,0):=by
   rw [rz h0 (by omega) hnb (by omega),ET hi1_2 (by omega)]
 rw [hX] at hr;clear hX
 simp only [Prod.mk.injEq] at hr;obtain ⟨rfl,rfl⟩:=hr
 refine an aa [0] 1 rfl rfl rfl rfl rfl rfl ?_ ?_
 all_goals first|rfl|(simp [ay];done)|(simp [ay];omega)


def jw (l:List Entry) (src dst n:Int):List Entry×Int:=if n < 0\/n > 1000000000000 then ([],3) else gE l [⟨src,0 - n⟩,⟨dst,n⟩]
theorem CW {l es r : List Entry} (h : gE l es = (r, 0)) : (du l).err = 0 ∧ es.length ≤ 10 ∧ (∀ x ∈ es, ¬ fl x) ∧ eC es = 0 ∧ fw l es = some r := by
  unfold gE at h
  split at h
  · rename_i h0; injection h with _ h1; exact absurd h1 h0
  rename_i h0
  split at h
  · injection h with _ h1; cases h1
  rename_i h1
  split at h
  · injection h with _ h1; cases h1
  rename_i h2
  split at h
  · injection h with _ h1; cases h1
  rename_i h3
  split at h
  · rename_i r' hr
    injection h with h4 _
    subst h4
    exact ⟨by omega, by omega, fun x hx hb => h2 ⟨x, hx, hb⟩, by omega, hr⟩
  · injection h with _ h1; cases h1
theorem pf {l es r:List Entry} (h:gE l es=(r,0)) (a:Int):(du r).err=0/\cE r a=cE l a+mq a es:=by
  obtain ⟨h1,h2,h3,h4,h5⟩:=CW h
  obtain ⟨h6,h7⟩:=lR.1 h1
  obtain ⟨h8,h9⟩:=po h6 h3 h5
  exact ⟨lR.2 ⟨h8,by omega⟩,sF h6.up h5⟩

theorem yl (l:List Entry) (src dst n:Int) (r:List Entry) (e:Int) (hr:jw l src dst n=(r,e)):Fn Try.prog 98 [(.c (eb l)),(.c (cI src)),(.c (cI dst)),(.c (cI n))] (.t [(.c (.s 0 0 2 r.length)),(.c (cI e))]) [(0,(mC r))]:=by
 refine Fn.mk' 28 [(0,(aC (eb l))),(1,(aI src)),(2,(aI dst)),(3,(aI n))] Try.func98 rfl rfl rfl rfl ?_
 intro W0 T0
 refine dr 0 rfl (fun hlen0=>?_)
 refine ae aa 2 rfl ?_
 refine ag ?_
 refine cx 15 ((decide (n < 0))||(decide (n > 1000000000000))) ?_ ?_
 ·
  refine au ?_
  refine ad aa 3 rfl ?_
  refine bI (t:=12) rfl (fun hb1=>?_) (fun hb1=>?_)
  ·
   have hb1':=of_decide_eq_true hb1
   refine ad aa 3 rfl ?_
   refine af ?_
   exact aF.bH 7 rfl rfl (by first|(simp [hb1];done)|(simp_all;done)|(exfalso;simp_all;done)|(simp_all;omega)) rfl
  have hb1':=of_decide_eq_false hb1
  refine ad aa 3 rfl ?_
  refine af ?_
  exact aF.bH 7 rfl rfl (by first|(simp [hb1];done)|(simp_all;done)|(exfalso;simp_all;done)|(simp_all;omega)) rfl
 refine ah rfl (fun hc2=>?_) (fun hc2=>?_)
 ·
  have hc2':=hc2;try simp only [bu,bU] at hc2'
  refine ae aa 2 rfl ?_
  refine az ?_
  refine aq ?_
  refine cT (aF.nil 8 115 2 (by decide) rfl) ?_
  have hX:jw l src dst n=(([]:List Entry),3):=by
    unfold jw;rw [if_pos (by omega)]
  rw [hX] at hr;clear hX
  simp only [Prod.mk.injEq] at hr;obtain ⟨rfl,rfl⟩:=hr
  refine an aa [0] 1 rfl rfl rfl rfl rfl rfl ?_ ?_
  all_goals first|rfl|(simp [ay];done)|(simp [ay];omega)
 have hc2':=hc2;try simp only [bu,bU] at hc2'
 refine aQ ?_
 refine aH aa 3 rfl ?_
 refine aA (pJ rfl rfl (aJ (by first|omega|(simp;done)|(simp;omega)))) rfl ?_
 refine ad aa 4 rfl ?_
 refine aN 1 [0] (dy (ys:=[(0,(.g [(cI src),(cI (0 - n))])),(1,(.g [(cI dst),(cI n)]))]) (rows:=([(⟨src,0 - n⟩:Entry),(⟨dst,n⟩:Entry)]).map eP) 0 kJ rfl (by decide) ⟨⟨rfl,rfl⟩,⟨rfl,rfl⟩,trivial⟩ rfl rfl rfl rfl) rfl ?_
 obtain ⟨r0,e0,hr0⟩:∃ (r0:List Entry) (e0:Int),gE l ([(⟨src,0 - n⟩:Entry),(⟨dst,n⟩:Entry)])=(r0,e0):=⟨_,_,rfl⟩
 refine aN 2 [1,0] (ff 1 [0] (yk l ([(⟨src,0 - n⟩:Entry),(⟨dst,n⟩:Entry)]) r0 e0 hr0) HV rfl rfl ⟨⟨_,rfl,.c (.d _)⟩,⟨_,rfl,.c (.s rfl (by decide) (by first|omega|(simp;done)|(simp;omega)))⟩,trivial⟩ ⟨trivial,rfl,trivial⟩ ⟨(zL _),trivial⟩ rfl rfl rfl rfl) rfl ?_
 refine ad aa 4 rfl ?_
 refine af ?_
 refine az ?_
 have hX:jw l src dst n=(r0,e0):=by
   unfold jw;rw [if_neg (by omega)];assumption
 rw [hX] at hr;clear hX
 simp only [Prod.mk.injEq] at hr;obtain ⟨rfl,rfl⟩:=hr
 refine an aa [1] 1 rfl rfl rfl rfl rfl rfl ?_ ?_
 all_goals first|rfl|(simp [ay];done)|(simp [ay];omega)
end Go.Proofs.Ytegepioggeggaaa.Dev
