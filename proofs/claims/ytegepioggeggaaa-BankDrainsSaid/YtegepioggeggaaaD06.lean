/- A part of the proof: Book4, PlBook, Com, Book5, Book6, Book7, Book9. No condition. -/
import Derived.Test.YtegepioggeggaaaD05
set_option linter.unusedVariables false
set_option linter.unusedSimpArgs false
set_option maxHeartbeats 2000000
set_option maxRecDepth 100000
namespace Go.Proofs.Ytegepioggeggaaa.Dev
open Go.RowKit


theorem AK (l:List Entry) (t:Int) (fn:FuncId) (bh:List (List D)) (hp:∀ x:Entry,Fn Try.prog fn ([.g [cI x.aW,cI x.sum],.c (cI t)]++bh.map fun r=>GV.c (.q r 0)) (aI (eK x.aW t)) []) (hen:bp Try.prog fn) (hu:Up l) (hl:l.length * 16<=140737488355328) (k:Nat) (f:Bool) (hr:(eA l t,gf l t)=(k,f)):Fn Try.prog 119 [.c (cR 2 (l.map eV)),.c (cI t),.c (.d (.f fn bh))] (.t [.c (cI (k:Int)),.c (cB f)]) []:=by
  obtain ⟨h1,h2⟩:=Prod.mk.inj hr
  exact ui l t fn bh hp hen hu hl (k:Int) f (by unfold vv;rw [h1,h2])
def cZ:List Entry->Int->Int
  |[],_=>0
  |x::l,a=>if x.aW=a then x.sum else cZ l a
def hP (l:List Entry) (a s:Int):List Entry:=l.take (eA l a)++(if s=0 then [] else [⟨a,s⟩])++l.drop (if gf l a=true then eA l a+1 else eA l a)
def iL (s:Int):Bool:=decide (s>=-1000000000000) && decide (s<=1000000000000)
def kh (l:List Entry) (e:Entry):List Entry×Bool:=(hP l e.aW (cZ l e.aW+e.sum),iL (cZ l e.aW+e.sum))
theorem pV {x:Entry} {l:List Entry} {a:Int} (h:x.aW < a):gf (x::l) a=gf l a:=by
  have h1:eA (x::l) a=eA l a+1:=by simp [eA,h]
  unfold gf;rw [h1,List.getElem?_cons_succ]
theorem mY {x:Entry} {l:List Entry} {a:Int} (h:¬x.aW < a):gf (x::l) a=decide (x.aW=a):=by
  unfold gf eA;rw [if_neg h];rfl
theorem jD {a:Int}:∀ {l:List Entry},(∀ x∈l,a < x.aW)->cZ l a=0
  |[],_=>rfl
  |x::l,h=>by
    unfold cZ
    rw [if_neg (by have:=h x List.mem_cons_self;omega)]
    exact jD fun y hy=>h y (List.mem_cons_of_mem _ hy)
theorem wZ {a : Int} : ∀ {l : List Entry} {x : Entry}, Up l → gf l a = true → l[eA l a]? = some x → x.aW = a ∧ cZ l a = x.sum
  | [], x, _, _, h => by simp at h
  | y :: l, x, hu, hh, h => by
    obtain ⟨h1, h2⟩ := List.pairwise_cons.1 hu
    by_cases hy : y.aW < a
    · rw [pV hy] at hh
      unfold eA at h; rw [if_pos hy] at h
      obtain ⟨h3, h4⟩ := wZ h2 hh (by simpa using h)
      refine ⟨h3, ?_⟩
      unfold cZ; rw [if_neg (by omega)]; exact h4
    · rw [mY hy] at hh
      unfold eA at h; rw [if_neg hy] at h
      simp at h hh
      subst h
      exact ⟨hh, by unfold cZ; rw [if_pos hh]⟩
theorem wY {a : Int} : ∀ {l : List Entry}, Up l → gf l a = false → cZ l a = 0
  | [], _, _ => rfl
  | y :: l, hu, hh => by
    obtain ⟨h1, h2⟩ := List.pairwise_cons.1 hu
    by_cases hy : y.aW < a
    · rw [pV hy] at hh
      unfold cZ; rw [if_neg (by omega)]; exact wY h2 hh
    · rw [mY hy] at hh
      simp at hh
      unfold cZ; rw [if_neg hh]
      exact jD fun x hx => by have := h1 x hx; omega
theorem FY {a : Int} {l : List Entry} (h : gf l a = true) : eA l a < l.length := by
  by_cases hl : eA l a < l.length
  · exact hl
  · unfold gf at h
    rw [List.getElem?_eq_none (by omega)] at h
    cases h
theorem vW {a:Int} (l:List Entry):(l.take (eA l a)).length=eA l a:=by rw [List.length_take];have:=nI a l;omega
theorem Ck {l:List Entry} {k:Nat} {x y:Entry} (hk:k<=l.length) (h:(jg l k x)[k]?=some y):y=x:=by
  have h1:(l.take k).length=k:=by rw [List.length_take];omega
  unfold jg at h
  rw [List.append_assoc,List.getElem?_append_right (by omega),h1,Nat.sub_self] at h
  simp at h
  exact h.symm
theorem FW {l:List Entry} {k:Nat} {x y:Entry} (hk:k<=l.length):(jg l k x).set k y=l.take k++[y]++l.drop k:=by
  have h1:(l.take k).length=k:=by rw [List.length_take];omega
  unfold jg
  rw [List.append_assoc,List.set_append_right _ _ (by omega),h1,Nat.sub_self]
  simp
theorem FX {l:List Entry} {k:Nat} {y:Entry} (hk:k < l.length):l.set k y=l.take k++[y]++l.drop (k+1):=by
  rw [List.set_eq_take_append_cons_drop,if_pos hk];simp
theorem CG {A B:List Entry} {y:Entry} {k:Nat} (h:A.length=k):lK (A++[y]++B) k (k+1)=A++B:=by
  subst h
  unfold lK
  simp
theorem oy {l:List Entry} {e x y:Entry} {k:Nat} (hu:Up l) (hk:eA l e.aW=k) (hh:gf l e.aW=true) (hx:l[k]?=some x) (hy:y=⟨x.aW,x.sum+e.sum⟩):
    kh l e=(if x.sum+e.sum=0 then lK (l.set k y) k (k+1) else l.set k y,iL (x.sum+e.sum)):=by
  subst hk hy
  obtain ⟨h1,h2⟩:=wZ hu hh hx
  have hlt:=(List.getElem?_eq_some_iff.1 hx).1
  unfold kh hP
  rw [h2,if_pos hh,FX hlt,h1]
  split
  ·rw [CG (vW l)];simp
  ·rfl
theorem ox {l:List Entry} {e x y:Entry} {k:Nat} {r:List Entry} (hu:Up l) (hk:eA l e.aW=k) (hh:gf l e.aW=false) (hr:jg l k ⟨e.aW,0⟩=r) (hx:r[k]?=some x) (hy:y=⟨x.aW,x.sum+e.sum⟩):
    kh l e=(if x.sum+e.sum=0 then lK (r.set k y) k (k+1) else r.set k y,iL (x.sum+e.sum)):=by
  subst hk hr
  have h0:=nI e.aW l
  have h1:=Ck h0 hx
  subst h1 hy
  have h2:=wY hu hh
  unfold kh hP
  rw [h2,FW h0,if_neg (show ¬gf l e.aW=true by rw [hh];exact Bool.false_ne_true)]
  split
  ·rw [CG (vW l)];simp
  ·rfl
theorem Bx {l:List Entry} {k:Nat} {y z:Entry} (h:(l.set k y)[k]?=some z):z=y:=by
  have hlt:=(List.getElem?_eq_some_iff.1 h).1
  rw [List.length_set] at hlt
  rw [List.getElem?_set_self hlt] at h
  exact (Option.some.inj h).symm
theorem oG {l:List Entry} {a:Int} (h:∀ x∈l,-1000000000000<=x.sum/\x.sum<=1000000000000):-1000000000000<=cZ l a/\cZ l a<=1000000000000:=by
  induction l with
  |nil=>unfold cZ;omega
  |cons x l ih=>
    unfold cZ
    split
    ·exact h x List.mem_cons_self
    ·exact ih fun y hy=>h y (List.mem_cons_of_mem _ hy)

theorem IY (l:List Entry) (e:Entry) (hu:Up l) (hl:(l.length+1) * 16<=140737488355328) (hb:∀ x∈l,-1000000000000<=x.sum/\x.sum<=1000000000000) (he:-1000000000000<=e.sum/\e.sum<=1000000000000) (r:List Entry) (g:Bool) (hr:kh l e=(r,g)):cL Try.prog 116 [(.c (.s 0 0 2 l.length)),(.g [(cI e.aW),(cI e.sum)])] [(0,(mG l))] [] (.t [(.c (.s 0 0 2 r.length)),(.c (cB g))]) [(0,(mG r))]:=by
 refine cL.mk 62 [(0,(aC (.s 0 0 2 l.length))),(1,(aG [(cI e.aW),(cI e.sum)]))] 1 Try.func116 rfl rfl rfl rfl rfl rfl rfl rfl rfl ?_
 intro W0 F0 T0 pg
 refine gU 0 rfl (fun hlen0=>?_)
 refine ae aa 3 rfl ?_
 refine aH aa 3 rfl ?_
 obtain ⟨k0,f0,hr0⟩:∃ (k0:Nat) (f0:Bool),(eA l e.aW,gf l e.aW)=(k0,f0):=⟨_,_,rfl⟩
 obtain ⟨hk0,hf0⟩:=Prod.mk.inj hr0
 have hkl:=nI e.aW l
 rw [hk0] at hkl
 refine aP 2 [1,0] (gF 2 [0] (AK l e.aW 120 ([]) (fun x=>HM x e.aW) ID (by first|assumption) (by omega) k0 f0 hr0) IE rfl rfl ⟨⟨_,rfl,.c (.s rfl (by decide) (by first|omega|(simp;done)|(simp;omega)))⟩,⟨_,rfl,.c (.d _)⟩,⟨_,rfl,.c (.fn trivial)⟩,trivial⟩ ⟨rfl,rfl,trivial⟩ trivial rfl rfl rfl rfl) rfl ?_
 refine ad aa 5 rfl ?_
 refine af ?_
 refine ah ?_
 refine ae aa 2 rfl ?_
 refine an rfl (fun hc1=>?_) (fun hc1=>?_)
 ·
  have hc1':=hc1;try simp only [bA,bW] at hc1'
  refine ay ?_
  refine ad aa 5 rfl ?_
  refine aP 3 [2,1,0] (ec (ys:=[(0,(.g [(cI e.aW),(cI 0)]))]) (rows:=([(⟨e.aW,0⟩:Entry)]).map eV) 2 kH rfl (by decide) ⟨⟨rfl,rfl⟩,trivial⟩ rfl rfl rfl rfl) rfl ?_
  obtain ⟨r1,hr1⟩:∃ (r1:List Entry),jg l k0 (⟨e.aW,0⟩:Entry)=r1:=⟨_,rfl⟩
  have hl1:r1.length=l.length+1:=by rw [<-hr1];exact Eb hkl
  refine aP 4 [3,1] (cO (bc [0,2]) (bc [3,2]) (uj l k0 (⟨e.aW,0⟩:Entry) (by first|omega|(simp;done)|(simp;omega)) (by first|omega|(simp;done)|(simp;omega)) r1 hr1) IC rfl rfl ⟨⟨_,rfl,.inl ⟨rfl,rfl⟩⟩,⟨_,rfl,.inr (.c (.d _))⟩,⟨_,rfl,.inl ⟨rfl,rfl⟩⟩,trivial⟩ ⟨rfl,rfl,trivial⟩ rfl rfl rfl rfl rfl rfl trivial ⟨(fun _ _ _ _=>trivial),trivial⟩ rfl rfl rfl rfl) rfl ?_
  refine ad aa 1 rfl ?_
  refine af ?_
  refine ah ?_
  obtain ⟨x1,hx1⟩:=cr (xs:=r1) (i:=k0) (by first|omega|(simp;done)|(simp;omega))
  have hx1q:=Ck hkl (show (jg l k0 ⟨e.aW,0⟩)[k0]?=some x1 by rw [hr1];exact hx1)
  have hx1b:x1.sum=0:=by rw [hx1q]
  refine bd [0,3,6] [3,1] mixed rfl rfl ?_
  refine aF (kn:=[]) aa 2 rfl trivial ?_
  refine aX (n':=4) [25,26] [3] rfl rfl (.inl ⟨(aq.plain rfl),aM.cast (br (i:=k0) rfl rfl rfl Try.underlying44 eB (by first|omega|(simp;done)|(simp;omega)) (by first|omega|(simp;done)|(simp;omega))) rfl⟩) rfl ?_
  refine aF (kn:=[]) aa 1 rfl trivial ?_
  refine aX (n':=4) [28] [3] rfl rfl (.inl ⟨(aq.plain rfl),aM.cast (eJ rfl rfl rfl Try.underlying3 rfl (bz hx1) rfl) rfl⟩) rfl ?_
  refine aF (kn:=[]) aa 2 rfl trivial ?_
  refine aX (n':=4) [29,31] [] rfl rfl (.inl ⟨(aq.plain rfl),aM.cast (aN rfl rfl rfl (aK (by first|omega|(simp;done)|(simp;omega)))) rfl⟩) rfl ?_
  refine aX (n':=4) [25,26] [3] rfl rfl (.inl ⟨(aq.plain rfl),aM.cast (br (i:=k0) rfl rfl rfl Try.underlying44 eB (by first|omega|(simp;done)|(simp;omega)) (by first|omega|(simp;done)|(simp;omega))) rfl⟩) rfl ?_
  refine aF (kn:=[]) aa 1 rfl trivial ?_
  refine bF [3,1] rfl rfl rfl rfl (by kernel_rfl) ?_
  refine gj [3,1] (dW (ds:=[(dI (x1.sum+e.sum))]) rfl rfl rfl rfl rfl fO rfl (Nat.le_of_ble_eq_true rfl) (bz hx1) rfl (eU (x':=(⟨x1.aW,x1.sum+e.sum⟩:Entry)) rfl)) rfl ?_
  refine af ?_
  refine aH aa 2 rfl ?_
  refine aE (br (i:=k0) rfl rfl rfl Try.underlying44 eB (by first|omega|(simp;done)|(simp;omega)) (by first|omega|(simp;done)|(simp;omega))) rfl ?_
  refine ad aa 1 rfl ?_
  obtain ⟨x2,hx2⟩:=cr (xs:=((r1).set k0 (⟨x1.aW,x1.sum+e.sum⟩:Entry))) (i:=k0) (by first|omega|(simp;done)|(simp;omega))
  have hx2e:=Bx hx2
  have hx2s:x2.sum=x1.sum+e.sum:=by rw [hx2e]
  refine aE (eJ rfl rfl rfl Try.underlying3 rfl (bz hx2) rfl) rfl ?_
  refine ad aa 2 rfl ?_
  refine bH (t:=41) rfl (fun hb2=>?_) (fun hb2=>?_)
  ·
   have hb2':=of_decide_eq_true hb2
   refine ad aa 2 rfl ?_
   refine dG (aq.yes rfl rfl rfl) (br (i:=k0) rfl rfl rfl Try.underlying44 eB (by first|omega|(simp;done)|(simp;omega)) (by first|omega|(simp;done)|(simp;omega))) rfl rfl ?_
   refine ad aa 1 rfl ?_
   refine dG (aq.yes rfl rfl rfl) (eJ rfl rfl rfl Try.underlying3 rfl (bz hx2) rfl) rfl rfl ?_
   refine ad aa 3 rfl ?_
   refine af ?_
   refine ah ?_
   refine aH aa 2 rfl ?_
   refine aE (br (i:=k0) rfl rfl rfl Try.underlying44 eB (by first|omega|(simp;done)|(simp;omega)) (by first|omega|(simp;done)|(simp;omega))) rfl ?_
   refine ad aa 1 rfl ?_
   refine aE (eJ rfl rfl rfl Try.underlying3 rfl (bz hx2) rfl) rfl ?_
   refine ad aa 1 rfl ?_
   refine af ?_
   refine an rfl (fun hc3=>?_) (fun hc3=>?_)
   ·
    have hc3':=of_decide_eq_true hc3
    refine iE (st':=⟨[(0,(aC (.s 3 0 2 (((r1).set k0 (⟨x1.aW,x1.sum+e.sum⟩:Entry)).length)))),(3,(aC (.p 1 0 0 0))),(6,(aI (↑k0:Int))),(32,(aI (x1.sum+e.sum))),(34,(aC (.p 3 k0 2 1))),(35,(aC (.s 3 0 2 r1.length))),(36,(aI (↑k0:Int))),(37,(aC (.p 3 k0 2 0))),(38,(aC (.p 3 k0 2 1))),(39,(aI x2.sum)),(40,(aB (decide (x2.sum>=(-1000000000000))))),(41,(aB true)),(42,(aC (.s 3 0 2 r1.length))),(43,(aI (↑k0:Int))),(44,(aC (.p 3 k0 2 0))),(45,(aC (.p 3 k0 2 1))),(46,(aI x2.sum)),(47,(aB (decide (x2.sum<=1000000000000)))),(48,(aB (decide (x2.sum<=1000000000000)))),(8,(aB (decide (x2.sum<=1000000000000)))),(49,(aC (.s 3 0 2 r1.length))),(50,(aI (↑k0:Int))),(51,(aC (.p 3 k0 2 0))),(52,(aC (.p 3 k0 2 1))),(53,(aI x2.sum)),(54,(aB (decide (x2.sum=0))))],[(3,(mG ((r1).set k0 (⟨x1.aW,x1.sum+e.sum⟩:Entry)))),(1,(.box 115 [(cI e.aW),(cI e.sum)]))],4⟩) (aJ.cc id (by refine ⟨?_,?_,?_,?_,?_,?_,?_,?_,?_,?_,?_,?_,?_,?_,?_,?_,?_,?_,?_,?_,?_,?_,?_,?_,?_,?_,trivial⟩<;>first|rfl|(simp only [bn];done)|(congr 3;omega)|(congr 4;omega)|(simp only [bo];rfl)) (by refine ⟨?_,?_,trivial⟩<;>first|rfl|(simp only [bn];done)|(congr 3;omega)|(congr 4;omega)|(simp only [bo];rfl)) rfl) ?_
    refine ay ?_
    refine ad aa 3 rfl ?_
    refine aE (aN rfl rfl rfl (aK (by first|omega|(simp;done)|(simp;omega)))) rfl ?_
    obtain ⟨r2,hr2⟩:∃ (r2:List Entry),lK ((r1).set k0 (⟨x1.aW,x1.sum+e.sum⟩:Entry)) k0 ((k0)+1)=r2:=⟨_,rfl⟩
    refine aP 5 [4,1] (cO (bc [3]) (bc [4]) (js ((r1).set k0 (⟨x1.aW,x1.sum+e.sum⟩:Entry)) k0 ((k0)+1) (by first|omega|(simp;done)|(simp;omega)) (by first|omega|(simp;done)|(simp;omega)) r2 hr2) vQ rfl rfl ⟨⟨_,rfl,.inl ⟨rfl,rfl⟩⟩,⟨_,rfl,.inr (.c (.d _))⟩,⟨_,rfl,.inr (.c (.d _))⟩,trivial⟩ ⟨rfl,trivial⟩ rfl rfl rfl rfl rfl rfl trivial ⟨(fun _ _ _ _=>trivial),trivial⟩ rfl rfl rfl rfl) rfl ?_
    refine ad aa 1 rfl ?_
    refine af ?_
    refine ae aa 4 rfl ?_
    refine aA ?_
    have hX:kh l e=(r2,decide (x2.sum<=1000000000000)):=by
      rw [ox hu hk0 (show gf l e.aW=false by simp_all) hr1 hx1 rfl];unfold iL;rw [if_pos (by omega),hr2];refine Prod.ext rfl ?_;first|(simp;omega)|(simp_all;done)|(simp_all;omega)
    rw [hX] at hr;clear hX
    simp only [Prod.mk.injEq] at hr;obtain ⟨rfl,rfl⟩:=hr
    refine aw aa [4] 1 rfl rfl rfl rfl rfl rfl ?_ ?_
    all_goals first|rfl|(simp [aD];done)|(simp [aD];omega)
   have hc3':=of_decide_eq_false hc3
   refine aU ?_
   refine ae aa 4 rfl ?_
   refine aA ?_
   have hX:kh l e=((r1).set k0 (⟨x1.aW,x1.sum+e.sum⟩:Entry),decide (x2.sum<=1000000000000)):=by
     rw [ox hu hk0 (show gf l e.aW=false by simp_all) hr1 hx1 rfl];unfold iL;rw [if_neg (by omega)];refine Prod.ext rfl ?_;first|(simp;omega)|(simp_all;done)|(simp_all;omega)
   rw [hX] at hr;clear hX
   simp only [Prod.mk.injEq] at hr;obtain ⟨rfl,rfl⟩:=hr
   refine aw aa [3] 1 rfl rfl rfl rfl rfl rfl ?_ ?_
   all_goals first|rfl|(simp [aD];done)|(simp [aD];omega)
  have hb2':=of_decide_eq_false hb2
  refine ad aa 8 rfl ?_
  refine af ?_
  refine ah ?_
  refine aH aa 2 rfl ?_
  refine aE (br (i:=k0) rfl rfl rfl Try.underlying44 eB (by first|omega|(simp;done)|(simp;omega)) (by first|omega|(simp;done)|(simp;omega))) rfl ?_
  refine ad aa 1 rfl ?_
  refine aE (eJ rfl rfl rfl Try.underlying3 rfl (bz hx2) rfl) rfl ?_
  refine ad aa 1 rfl ?_
  refine af ?_
  refine an rfl (fun hc4=>?_) (fun hc4=>?_)
  ·
   have hc4':=of_decide_eq_true hc4
   refine iE (st':=⟨[(0,(aC (.s 3 0 2 (((r1).set k0 (⟨x1.aW,x1.sum+e.sum⟩:Entry)).length)))),(3,(aC (.p 1 0 0 0))),(6,(aI (↑k0:Int))),(32,(aI (x1.sum+e.sum))),(34,(aC (.p 3 k0 2 1))),(35,(aC (.s 3 0 2 r1.length))),(36,(aI (↑k0:Int))),(37,(aC (.p 3 k0 2 0))),(38,(aC (.p 3 k0 2 1))),(39,(aI x2.sum)),(40,(aB (decide (x2.sum>=(-1000000000000))))),(41,(aB false)),(48,(aB false)),(8,(aB false)),(49,(aC (.s 3 0 2 r1.length))),(50,(aI (↑k0:Int))),(51,(aC (.p 3 k0 2 0))),(52,(aC (.p 3 k0 2 1))),(53,(aI x2.sum)),(54,(aB (decide (x2.sum=0))))],[(3,(mG ((r1).set k0 (⟨x1.aW,x1.sum+e.sum⟩:Entry)))),(1,(.box 115 [(cI e.aW),(cI e.sum)]))],4⟩) (aJ.cc id (by refine ⟨?_,?_,?_,?_,?_,?_,?_,?_,?_,?_,?_,?_,?_,?_,?_,?_,?_,?_,?_,?_,trivial⟩<;>first|rfl|(simp only [bn];done)|(congr 3;omega)|(congr 4;omega)|(simp only [bo];rfl)) (by refine ⟨?_,?_,trivial⟩<;>first|rfl|(simp only [bn];done)|(congr 3;omega)|(congr 4;omega)|(simp only [bo];rfl)) rfl) ?_
   refine ay ?_
   refine ad aa 3 rfl ?_
   refine aE (aN rfl rfl rfl (aK (by first|omega|(simp;done)|(simp;omega)))) rfl ?_
   obtain ⟨r3,hr3⟩:∃ (r3:List Entry),lK ((r1).set k0 (⟨x1.aW,x1.sum+e.sum⟩:Entry)) k0 ((k0)+1)=r3:=⟨_,rfl⟩
   refine aP 5 [4,1] (cO (bc [3]) (bc [4]) (js ((r1).set k0 (⟨x1.aW,x1.sum+e.sum⟩:Entry)) k0 ((k0)+1) (by first|omega|(simp;done)|(simp;omega)) (by first|omega|(simp;done)|(simp;omega)) r3 hr3) vQ rfl rfl ⟨⟨_,rfl,.inl ⟨rfl,rfl⟩⟩,⟨_,rfl,.inr (.c (.d _))⟩,⟨_,rfl,.inr (.c (.d _))⟩,trivial⟩ ⟨rfl,trivial⟩ rfl rfl rfl rfl rfl rfl trivial ⟨(fun _ _ _ _=>trivial),trivial⟩ rfl rfl rfl rfl) rfl ?_
   refine ad aa 1 rfl ?_
   refine af ?_
   refine ae aa 4 rfl ?_
   refine aA ?_
   have hX:kh l e=(r3,false):=by
     rw [ox hu hk0 (show gf l e.aW=false by simp_all) hr1 hx1 rfl];unfold iL;rw [if_pos (by omega),hr3];refine Prod.ext rfl ?_;first|(simp;omega)|(simp_all;done)|(simp_all;omega)
   rw [hX] at hr;clear hX
   simp only [Prod.mk.injEq] at hr;obtain ⟨rfl,rfl⟩:=hr
   refine aw aa [4] 1 rfl rfl rfl rfl rfl rfl ?_ ?_
   all_goals first|rfl|(simp [aD];done)|(simp [aD];omega)
  have hc4':=of_decide_eq_false hc4
  refine aU ?_
  refine ae aa 4 rfl ?_
  refine aA ?_
  have hX:kh l e=((r1).set k0 (⟨x1.aW,x1.sum+e.sum⟩:Entry),false):=by
    rw [ox hu hk0 (show gf l e.aW=false by simp_all) hr1 hx1 rfl];unfold iL;rw [if_neg (by omega)];refine Prod.ext rfl ?_;first|(simp;omega)|(simp_all;done)|(simp_all;omega)
  rw [hX] at hr;clear hX
  simp only [Prod.mk.injEq] at hr;obtain ⟨rfl,rfl⟩:=hr
  refine aw aa [3] 1 rfl rfl rfl rfl rfl rfl ?_ ?_
  all_goals first|rfl|(simp [aD];done)|(simp [aD];omega)
 have hc1':=hc1;try simp only [bA,bW] at hc1'
 refine aU ?_
 have hk0lt:k0 < l.length:=by have:=FY (l:=l) (a:=e.aW) (by simp_all);omega
 refine ah ?_
 obtain ⟨x1,hx1⟩:=cr (xs:=l) (i:=k0) (by first|omega|(simp;done)|(simp;omega))
 have hx1b:=hb x1 (List.mem_of_getElem? hx1)
 refine bd [0,3,6] [1,0] mixed rfl rfl ?_
 refine aF (kn:=[]) aa 2 rfl trivial ?_
 refine aX (n':=2) [25,26] [0] rfl rfl (.inl ⟨(aq.plain rfl),aM.cast (br (i:=k0) rfl rfl rfl Try.underlying44 eB (by first|omega|(simp;done)|(simp;omega)) (by first|omega|(simp;done)|(simp;omega))) rfl⟩) rfl ?_
 refine aF (kn:=[]) aa 1 rfl trivial ?_
 refine aX (n':=2) [28] [0] rfl rfl (.inl ⟨(aq.plain rfl),aM.cast (eJ rfl rfl rfl Try.underlying3 rfl (bz hx1) rfl) rfl⟩) rfl ?_
 refine aF (kn:=[]) aa 2 rfl trivial ?_
 refine aX (n':=2) [29,31] [] rfl rfl (.inl ⟨(aq.plain rfl),aM.cast (aN rfl rfl rfl (aK (by first|omega|(simp;done)|(simp;omega)))) rfl⟩) rfl ?_
 refine aX (n':=2) [25,26] [0] rfl rfl (.inl ⟨(aq.plain rfl),aM.cast (br (i:=k0) rfl rfl rfl Try.underlying44 eB (by first|omega|(simp;done)|(simp;omega)) (by first|omega|(simp;done)|(simp;omega))) rfl⟩) rfl ?_
 refine aF (kn:=[]) aa 1 rfl trivial ?_
 refine bF [1,0] rfl rfl rfl rfl (by kernel_rfl) ?_
 refine gj [1,0] (dW (ds:=[(dI (x1.sum+e.sum))]) rfl rfl rfl rfl rfl fO rfl (Nat.le_of_ble_eq_true rfl) (bz hx1) rfl (eU (x':=(⟨x1.aW,x1.sum+e.sum⟩:Entry)) rfl)) rfl ?_
 refine af ?_
 refine aH aa 2 rfl ?_
 refine aE (br (i:=k0) rfl rfl rfl Try.underlying44 eB (by first|omega|(simp;done)|(simp;omega)) (by first|omega|(simp;done)|(simp;omega))) rfl ?_
 refine ad aa 1 rfl ?_
 obtain ⟨x2,hx2⟩:=cr (xs:=((l).set k0 (⟨x1.aW,x1.sum+e.sum⟩:Entry))) (i:=k0) (by first|omega|(simp;done)|(simp;omega))
 have hx2e:=Bx hx2
 have hx2s:x2.sum=x1.sum+e.sum:=by rw [hx2e]
 refine aE (eJ rfl rfl rfl Try.underlying3 rfl (bz hx2) rfl) rfl ?_
 refine ad aa 2 rfl ?_
 refine bH (t:=41) rfl (fun hb5=>?_) (fun hb5=>?_)
 ·
  have hb5':=of_decide_eq_true hb5
  refine ad aa 2 rfl ?_
  refine dG (aq.yes rfl rfl rfl) (br (i:=k0) rfl rfl rfl Try.underlying44 eB (by first|omega|(simp;done)|(simp;omega)) (by first|omega|(simp;done)|(simp;omega))) rfl rfl ?_
  refine ad aa 1 rfl ?_
  refine dG (aq.yes rfl rfl rfl) (eJ rfl rfl rfl Try.underlying3 rfl (bz hx2) rfl) rfl rfl ?_
  refine ad aa 3 rfl ?_
  refine af ?_
  refine ah ?_
  refine aH aa 2 rfl ?_
  refine aE (br (i:=k0) rfl rfl rfl Try.underlying44 eB (by first|omega|(simp;done)|(simp;omega)) (by first|omega|(simp;done)|(simp;omega))) rfl ?_
  refine ad aa 1 rfl ?_
  refine aE (eJ rfl rfl rfl Try.underlying3 rfl (bz hx2) rfl) rfl ?_
  refine ad aa 1 rfl ?_
  refine af ?_
  refine an rfl (fun hc6=>?_) (fun hc6=>?_)
  ·
   have hc6':=of_decide_eq_true hc6
   refine iE (st':=⟨[(0,(aC (.s 0 0 2 (((l).set k0 (⟨x1.aW,x1.sum+e.sum⟩:Entry)).length)))),(3,(aC (.p 1 0 0 0))),(6,(aI (↑k0:Int))),(32,(aI (x1.sum+e.sum))),(34,(aC (.p 0 k0 2 1))),(35,(aC (.s 0 0 2 l.length))),(36,(aI (↑k0:Int))),(37,(aC (.p 0 k0 2 0))),(38,(aC (.p 0 k0 2 1))),(39,(aI x2.sum)),(40,(aB (decide (x2.sum>=(-1000000000000))))),(41,(aB true)),(42,(aC (.s 0 0 2 l.length))),(43,(aI (↑k0:Int))),(44,(aC (.p 0 k0 2 0))),(45,(aC (.p 0 k0 2 1))),(46,(aI x2.sum)),(47,(aB (decide (x2.sum<=1000000000000)))),(48,(aB (decide (x2.sum<=1000000000000)))),(8,(aB (decide (x2.sum<=1000000000000)))),(49,(aC (.s 0 0 2 l.length))),(50,(aI (↑k0:Int))),(51,(aC (.p 0 k0 2 0))),(52,(aC (.p 0 k0 2 1))),(53,(aI x2.sum)),(54,(aB (decide (x2.sum=0))))],[(1,(.box 115 [(cI e.aW),(cI e.sum)])),(0,(mG ((l).set k0 (⟨x1.aW,x1.sum+e.sum⟩:Entry))))],2⟩) (aJ.cc id (by refine ⟨?_,?_,?_,?_,?_,?_,?_,?_,?_,?_,?_,?_,?_,?_,?_,?_,?_,?_,?_,?_,?_,?_,?_,?_,?_,?_,trivial⟩<;>first|rfl|(simp only [bn];done)|(congr 3;omega)|(congr 4;omega)|(simp only [bo];rfl)) (by refine ⟨?_,?_,trivial⟩<;>first|rfl|(simp only [bn];done)|(congr 3;omega)|(congr 4;omega)|(simp only [bo];rfl)) rfl) ?_
   refine ay ?_
   refine ad aa 3 rfl ?_
   refine aE (aN rfl rfl rfl (aK (by first|omega|(simp;done)|(simp;omega)))) rfl ?_
   obtain ⟨r4,hr4⟩:∃ (r4:List Entry),lK ((l).set k0 (⟨x1.aW,x1.sum+e.sum⟩:Entry)) k0 ((k0)+1)=r4:=⟨_,rfl⟩
   refine aP 3 [2,1] (cO id (bc [2]) (js ((l).set k0 (⟨x1.aW,x1.sum+e.sum⟩:Entry)) k0 ((k0)+1) (by first|omega|(simp;done)|(simp;omega)) (by first|omega|(simp;done)|(simp;omega)) r4 hr4) vQ rfl rfl ⟨⟨_,rfl,.inl ⟨rfl,rfl⟩⟩,⟨_,rfl,.inr (.c (.d _))⟩,⟨_,rfl,.inr (.c (.d _))⟩,trivial⟩ ⟨rfl,trivial⟩ rfl rfl rfl rfl rfl rfl trivial ⟨(fun _ _ _ _=>trivial),trivial⟩ rfl rfl rfl rfl) rfl ?_
   refine ad aa 1 rfl ?_
   refine af ?_
   refine ae aa 4 rfl ?_
   refine aA ?_
   have hX:kh l e=(r4,decide (x2.sum<=1000000000000)):=by
     rw [oy hu hk0 (show gf l e.aW=true by simp_all) hx1 rfl];unfold iL;rw [if_pos (by omega),hr4];refine Prod.ext rfl ?_;first|(simp;omega)|(simp_all;done)|(simp_all;omega)
   rw [hX] at hr;clear hX
   simp only [Prod.mk.injEq] at hr;obtain ⟨rfl,rfl⟩:=hr
   refine aw aa [2] 1 rfl rfl rfl rfl rfl rfl ?_ ?_
   all_goals first|rfl|(simp [aD];done)|(simp [aD];omega)
  have hc6':=of_decide_eq_false hc6
  refine aU ?_
  refine ae aa 4 rfl ?_
  refine aA ?_
  have hX:kh l e=((l).set k0 (⟨x1.aW,x1.sum+e.sum⟩:Entry),decide (x2.sum<=1000000000000)):=by
    rw [oy hu hk0 (show gf l e.aW=true by simp_all) hx1 rfl];unfold iL;rw [if_neg (by omega)];refine Prod.ext rfl ?_;first|(simp;omega)|(simp_all;done)|(simp_all;omega)
  rw [hX] at hr;clear hX
  simp only [Prod.mk.injEq] at hr;obtain ⟨rfl,rfl⟩:=hr
  refine aw aa [0] 1 rfl rfl rfl rfl rfl rfl ?_ ?_
  all_goals first|rfl|(simp [aD];done)|(simp [aD];omega)
 have hb5':=of_decide_eq_false hb5
 refine ad aa 8 rfl ?_
 refine af ?_
 refine ah ?_
 refine aH aa 2 rfl ?_
 refine aE (br (i:=k0) rfl rfl rfl Try.underlying44 eB (by first|omega|(simp;done)|(simp;omega)) (by first|omega|(simp;done)|(simp;omega))) rfl ?_
 refine ad aa 1 rfl ?_
 refine aE (eJ rfl rfl rfl Try.underlying3 rfl (bz hx2) rfl) rfl ?_
 refine ad aa 1 rfl ?_
 refine af ?_
 refine an rfl (fun hc7=>?_) (fun hc7=>?_)
 ·
  have hc7':=of_decide_eq_true hc7
  refine iE (st':=⟨[(0,(aC (.s 0 0 2 (((l).set k0 (⟨x1.aW,x1.sum+e.sum⟩:Entry)).length)))),(3,(aC (.p 1 0 0 0))),(6,(aI (↑k0:Int))),(32,(aI (x1.sum+e.sum))),(34,(aC (.p 0 k0 2 1))),(35,(aC (.s 0 0 2 l.length))),(36,(aI (↑k0:Int))),(37,(aC (.p 0 k0 2 0))),(38,(aC (.p 0 k0 2 1))),(39,(aI x2.sum)),(40,(aB (decide (x2.sum>=(-1000000000000))))),(41,(aB false)),(48,(aB false)),(8,(aB false)),(49,(aC (.s 0 0 2 l.length))),(50,(aI (↑k0:Int))),(51,(aC (.p 0 k0 2 0))),(52,(aC (.p 0 k0 2 1))),(53,(aI x2.sum)),(54,(aB (decide (x2.sum=0))))],[(1,(.box 115 [(cI e.aW),(cI e.sum)])),(0,(mG ((l).set k0 (⟨x1.aW,x1.sum+e.sum⟩:Entry))))],2⟩) (aJ.cc id (by refine ⟨?_,?_,?_,?_,?_,?_,?_,?_,?_,?_,?_,?_,?_,?_,?_,?_,?_,?_,?_,?_,trivial⟩<;>first|rfl|(simp only [bn];done)|(congr 3;omega)|(congr 4;omega)|(simp only [bo];rfl)) (by refine ⟨?_,?_,trivial⟩<;>first|rfl|(simp only [bn];done)|(congr 3;omega)|(congr 4;omega)|(simp only [bo];rfl)) rfl) ?_
  refine ay ?_
  refine ad aa 3 rfl ?_
  refine aE (aN rfl rfl rfl (aK (by first|omega|(simp;done)|(simp;omega)))) rfl ?_
  obtain ⟨r5,hr5⟩:∃ (r5:List Entry),lK ((l).set k0 (⟨x1.aW,x1.sum+e.sum⟩:Entry)) k0 ((k0)+1)=r5:=⟨_,rfl⟩
  refine aP 3 [2,1] (cO id (bc [2]) (js ((l).set k0 (⟨x1.aW,x1.sum+e.sum⟩:Entry)) k0 ((k0)+1) (by first|omega|(simp;done)|(simp;omega)) (by first|omega|(simp;done)|(simp;omega)) r5 hr5) vQ rfl rfl ⟨⟨_,rfl,.inl ⟨rfl,rfl⟩⟩,⟨_,rfl,.inr (.c (.d _))⟩,⟨_,rfl,.inr (.c (.d _))⟩,trivial⟩ ⟨rfl,trivial⟩ rfl rfl rfl rfl rfl rfl trivial ⟨(fun _ _ _ _=>trivial),trivial⟩ rfl rfl rfl rfl) rfl ?_
  refine ad aa 1 rfl ?_
  refine af ?_
  refine ae aa 4 rfl ?_
  refine aA ?_
  have hX:kh l e=(r5,false):=by
    rw [oy hu hk0 (show gf l e.aW=true by simp_all) hx1 rfl];unfold iL;rw [if_pos (by omega),hr5];refine Prod.ext rfl ?_;first|(simp;omega)|(simp_all;done)|(simp_all;omega)
  rw [hX] at hr;clear hX
  simp only [Prod.mk.injEq] at hr;obtain ⟨rfl,rfl⟩:=hr
  refine aw aa [2] 1 rfl rfl rfl rfl rfl rfl ?_ ?_
  all_goals first|rfl|(simp [aD];done)|(simp [aD];omega)
 have hc7':=of_decide_eq_false hc7
 refine aU ?_
 refine ae aa 4 rfl ?_
 refine aA ?_
 have hX:kh l e=((l).set k0 (⟨x1.aW,x1.sum+e.sum⟩:Entry),false):=by
   rw [oy hu hk0 (show gf l e.aW=true by simp_all) hx1 rfl];unfold iL;rw [if_neg (by omega)];refine Prod.ext rfl ?_;first|(simp;omega)|(simp_all;done)|(simp_all;omega)
 rw [hX] at hr;clear hX
 simp only [Prod.mk.injEq] at hr;obtain ⟨rfl,rfl⟩:=hr
 refine aw aa [0] 1 rfl rfl rfl rfl rfl rfl ?_ ?_
 all_goals first|rfl|(simp [aD];done)|(simp [aD];omega)
def fC (x:Entry):Prop:=x.aW < 0\/x.aW > 57\/x.sum < -1000000000000\/x.sum > 1000000000000
instance (x:Entry):Decidable (fC x):=by unfold fC;infer_instance
def lN (l:List Entry) (q:Nat):Int:=
 match l[q]? with
 |some x=>if fC x then 3 else if (0 < q/\(l.getD (q - 1) ⟨0,0⟩).aW>=x.aW)\/x.sum=0 then 2 else 0
 |none=>0
def eO:List Entry->Int
 |[]=>0
 |x::l=>x.sum+eO l
def eF (l:List Entry):cV:=if (scan (lN l) 0 l.length).1≠0 then ⟨(scan (lN l) 0 l.length).1,(scan (lN l) 0 l.length).2⟩ else if eO l≠0 then ⟨8,0⟩ else ⟨0,0⟩
theorem Br (x:Entry) (l:List Entry):eO (x::l)=x.sum+eO l:=rfl
theorem nr (l r:List Entry):eO (l++r)=eO l+eO r:=by
 induction l with
 |nil=>simp [eO]
 |cons x l ih=>simp only [List.cons_append,eO,ih];omega
theorem uA {α:Type} {l:List α} {q:Nat} {x:α} (h:l[q]?=some x):l.take (q+1)=l.take q++[x]:=by
 obtain ⟨hlt,rfl⟩:=List.getElem?_eq_some_iff.1 h
 rw [List.take_add_one,List.getElem?_eq_getElem hlt];rfl
theorem jQ {l:List Entry} {q:Nat} {x:Entry} (h:l[q]?=some x):eO (l.take (q+1))=eO (l.take q)+x.sum:=by
 rw [uA h,nr];simp [eO]
def iZ (l:List Entry) (q:Nat):Int:=if q=0 then -1 else (l.getD (q - 1) ⟨0,0⟩).aW
theorem kp {l:List Entry} {q:Nat} {x:Entry} (h:l[q]?=some x):iZ l (q+1)=x.aW:=by
 unfold iZ
 rw [if_neg (by omega),List.getD_eq_getElem?_getD,Nat.add_sub_cancel,h];rfl
theorem lA {l:List Entry} {q:Nat} {x:Entry} (hq:0 < q) (h:l[q - 1]?=some x):iZ l q=x.aW:=by
 unfold iZ
 rw [if_neg (by omega),List.getD_eq_getElem?_getD,h];rfl
theorem iF {l:List Entry} {q:Nat} {x:Entry} (h:l[q]?=some x):lN l q=if fC x then 3 else if (0 < q/\iZ l q>=x.aW)\/x.sum=0 then 2 else 0:=by
 unfold lN
 rw [h]
 by_cases hq:q=0
 ·subst hq;simp
 ·unfold iZ;rw [if_neg hq]
structure jK (l:List Entry):Prop where
 up:Up l
 ok:∀ x∈l,0<=x.aW/\x.aW<=57/\-1000000000000<=x.sum/\x.sum<=1000000000000/\x.sum≠0
theorem Ik {l:List Entry} (h:∀ q x y,l[q]?=some x->l[q+1]?=some y->x.aW < y.aW):Up l:=by
 unfold Up
 induction l with
 |nil=>exact List.Pairwise.nil
 |cons x l ih=>
  have h2:=ih fun q a b ha hb=>h (q+1) a b (by simpa using ha) (by simpa using hb)
  refine List.pairwise_cons.2 ⟨fun y hy=>?_,h2⟩
  cases l with
  |nil=>cases hy
  |cons z l=>
   have hz:=h 0 x z (by simp) (by simp)
   rcases List.mem_cons.1 hy with rfl|hy
   ·exact hz
   ·have:=(List.pairwise_cons.1 h2).1 y hy;omega
theorem Bi {l:List Entry} (h:Up l) {i j:Nat} {x y:Entry} (hij:i < j) (hx:l[i]?=some x) (hy:l[j]?=some y):x.aW < y.aW:=by
 obtain ⟨hi,rfl⟩:=List.getElem?_eq_some_iff.1 hx
 obtain ⟨hj,rfl⟩:=List.getElem?_eq_some_iff.1 hy
 exact List.pairwise_iff_getElem.1 h i j hi hj hij
theorem Bz {l:List Entry}:(scan (lN l) 0 l.length).1=0↔jK l:=by
 rw [ou]
 constructor
 ·intro h
  have at':∀ q x,l[q]?=some x->¬fC x/\¬((0 < q/\iZ l q>=x.aW)\/x.sum=0):=fun q x hx=>by
   have hq:=(List.getElem?_eq_some_iff.1 hx).1
   have h1:=h q (Nat.zero_le _) (by omega)
   rw [iF hx] at h1
   split at h1
   ·cases h1
   ·split at h1
    ·cases h1
    ·exact ⟨by assumption,by assumption⟩
  refine ⟨Ik fun q x y hx hy=>?_,fun x hx=>?_⟩
  ·have h1:=(at' (q+1) y hy).2
   rw [kp hx] at h1
   omega
  ·obtain ⟨q,hq⟩:=List.getElem?_of_mem hx
   have h1:=at' q x hq
   unfold fC at h1
   omega
 ·intro h q _ hq
  obtain ⟨x,hx⟩:∃ x,l[q]?=some x:=⟨_,List.getElem?_eq_getElem (by omega)⟩
  have h1:=h.ok x (List.mem_of_getElem? hx)
  rw [iF hx,if_neg (by unfold fC;omega),if_neg]
  rintro (⟨h2,h3⟩|h2)
  ·obtain ⟨y,hy⟩:∃ y,l[q - 1]?=some y:=⟨_,List.getElem?_eq_getElem (by omega)⟩
   rw [lA h2 hy] at h3
   have:=Bi h.up (by omega:q - 1 < q) hy hx
   omega
  ·exact h1.2.2.2.2 h2
theorem jY {l:List Entry}:(eF l).err=0↔jK l/\eO l=0:=by
 unfold eF
 rw [<-Bz]
 split
 ·rename_i h;constructor
  ·intro h1;exact absurd h1 h
  ·intro h1;exact absurd h1.1 h
 ·rename_i h
  split
  ·rename_i h2;constructor
   ·intro h1;cases h1
   ·intro h1;exact absurd h1.2 h2
  ·rename_i h2;constructor
   ·intro _;exact ⟨by omega,by omega⟩
   ·intro _;rfl
theorem uL {l:List Entry} (h:jK l):l.length<=58:=by
 have key:∀ (q:Nat) (x:Entry),l[q]?=some x->(q:Int)<=x.aW:=by
  intro q
  induction q with
  |zero=>intro x hx;have:=h.ok x (List.mem_of_getElem? hx);omega
  |succ q ih=>
   intro x hx
   have hq:=(List.getElem?_eq_some_iff.1 hx).1
   obtain ⟨y,hy⟩:∃ y,l[q]?=some y:=⟨_,List.getElem?_eq_getElem (by omega)⟩
   have h1:=ih y hy
   have h2:=Bi h.up (by omega:q < q+1) hy hx
   omega
 by_cases hl:l.length=0
 ·omega
 ·obtain ⟨x,hx⟩:∃ x,l[l.length - 1]?=some x:=⟨_,List.getElem?_eq_getElem (by omega)⟩
  have h1:=key _ x hx
  have h2:=h.ok x (List.mem_of_getElem? hx)
  omega
theorem mO {x:Entry} {l:List Entry} {a s:Int} (h:x.aW < a):hP (x::l) a s=x::hP l a s:=by
 unfold hP
 rw [pV h,show eA (x::l) a=eA l a+1 by simp [eA,h]]
 cases gf l a<;>simp
theorem mN {x:Entry} {l:List Entry} {a s:Int} (h:x.aW=a):hP (x::l) a s=(if s=0 then [] else [⟨a,s⟩])++l:=by
 unfold hP
 rw [mY (by omega),show eA (x::l) a=0 by simp [eA];omega]
 simp [h]
theorem oq {x:Entry} {l:List Entry} {a s:Int} (h:a < x.aW):hP (x::l) a s=(if s=0 then [] else [⟨a,s⟩])++x::l:=by
 unfold hP
 rw [mY (by omega),show eA (x::l) a=0 by simp [eA];omega]
 have:¬x.aW=a:=by omega
 simp [this]
theorem oo (a s:Int):hP [] a s=if s=0 then [] else [⟨a,s⟩]:=by simp [hP,eA,gf]
theorem rL {a s:Int}:∀ {l:List Entry} {x:Entry},x∈hP l a s->x∈l\/(x=⟨a,s⟩/\s≠0)
 |[],x,h=>by
  rw [oo] at h
  split at h
  ·cases h
  ·rename_i h0;exact .inr ⟨by simpa using h,h0⟩
 |y::l,x,h=>by
  have one:x∈(if s=0 then [] else [(⟨a,s⟩:Entry)])->x=⟨a,s⟩/\s≠0:=fun h=>by
   split at h
   ·cases h
   ·rename_i h0;exact ⟨by simpa using h,h0⟩
  rcases Int.lt_trichotomy y.aW a with h1|h1|h1
  ·rw [mO h1] at h
   rcases List.mem_cons.1 h with rfl|h
   ·exact .inl List.mem_cons_self
   ·rcases rL h with h|h
    ·exact .inl (List.mem_cons_of_mem _ h)
    ·exact .inr h
  ·rw [mN h1] at h
   rcases List.mem_append.1 h with h|h
   ·exact .inr (one h)
   ·exact .inl (List.mem_cons_of_mem _ h)
  ·rw [oq h1] at h
   rcases List.mem_append.1 h with h|h
   ·exact .inr (one h)
   ·exact .inl h
theorem me {x:Entry} {l:List Entry}:Up (x::l)↔(∀ y∈l,x.aW < y.aW)/\Up l:=List.pairwise_cons
theorem tO {a s:Int}:∀ {l:List Entry},Up l->Up (hP l a s)
 |[],_=>by rw [oo];split;exact List.Pairwise.nil;exact List.pairwise_singleton _ _
 |y::l,h=>by
  obtain ⟨h1,h2⟩:=me.1 h
  rcases Int.lt_trichotomy y.aW a with h3|h3|h3
  ·rw [mO h3]
   refine me.2 ⟨fun z hz=>?_,tO h2⟩
   rcases rL hz with hz|⟨rfl,_⟩
   ·exact h1 z hz
   ·exact h3
  ·rw [mN h3]
   split
   ·exact h2
   ·exact me.2 ⟨fun z hz=>by have:=h1 z hz;show a < z.aW;omega,h2⟩
  ·rw [oq h3]
   split
   ·exact h
   ·exact me.2 ⟨fun z hz=>by
     show a < z.aW
     rcases List.mem_cons.1 hz with rfl|hz
     ·exact h3
     ·have:=h1 z hz;omega,h⟩
theorem rY (a s b:Int) (l:List Entry):cZ ((if s=0 then [] else [⟨a,s⟩])++l) b=if s≠0/\a=b then s else cZ l b:=by
 by_cases h:s=0
 ·simp [h]
 ·simp [h,cZ]
theorem rX {a s b:Int}:∀ {l:List Entry},Up l->cZ (hP l a s) b=if a=b then s else cZ l b
 |[],_=>by
  have:=rY a s b []
  rw [List.append_nil] at this
  rw [oo,this]
  by_cases h:s=0
  ·subst h;simp [cZ]
  ·simp [h]
 |y::l,h=>by
  obtain ⟨h1,h2⟩:=me.1 h
  rcases Int.lt_trichotomy y.aW a with h3|h3|h3
  ·rw [mO h3]
   unfold cZ
   rw [rX h2]
   by_cases h4:y.aW=b
   ·rw [if_pos h4,if_pos h4,if_neg (by omega)]
   ·rw [if_neg h4,if_neg h4]
  ·rw [mN h3,rY]
   by_cases h4:a=b
   ·subst h4
    by_cases h5:s=0
    ·subst h5;simp;exact jD fun z hz=>by have:=h1 z hz;omega
    ·simp [h5]
   ·rw [if_neg (fun h=>h4 h.2),if_neg h4]
    conv=>rhs;unfold cZ
    rw [if_neg (by omega)]
  ·rw [oq h3,rY]
   by_cases h4:a=b
   ·subst h4
    by_cases h5:s=0
    ·subst h5;simp;exact jD fun z hz=>by
      rcases List.mem_cons.1 hz with rfl|hz
      ·exact h3
      ·have:=h1 z hz;omega
    ·simp [h5]
   ·rw [if_neg (fun h=>h4 h.2),if_neg h4]
theorem wb {a s:Int}:∀ {l:List Entry},Up l->eO (hP l a s)=eO l - cZ l a+s
 |[],_=>by
  rw [oo]
  by_cases h:s=0
  ·subst h;simp [eO,cZ]
  ·simp [h,eO,cZ]
 |y::l,h=>by
  obtain ⟨h1,h2⟩:=me.1 h
  have one:eO (if s=0 then [] else [(⟨a,s⟩:Entry)])=s:=by split<;>simp_all [eO]
  rcases Int.lt_trichotomy y.aW a with h3|h3|h3
  ·rw [mO h3]
   unfold eO cZ
   rw [wb h2,if_neg (by omega)];omega
  ·rw [mN h3,nr,one]
   conv=>rhs;unfold eO cZ
   rw [if_pos h3];omega
  ·rw [oq h3,nr,one,jD fun z hz=>by
    rcases List.mem_cons.1 hz with rfl|hz
    ·exact h3
    ·have:=h1 z hz;omega]
   omega
theorem sO {l:List Entry} {a s:Int} (h:jK l) (ha:0<=a/\a<=57) (hs:-1000000000000<=s/\s<=1000000000000):jK (hP l a s):=
 ⟨tO h.up,fun x hx=>by
  rcases rL hx with hx|⟨rfl,h0⟩
  ·exact h.ok x hx
  ·exact ⟨ha.1,ha.2,hs.1,hs.2,h0⟩⟩
def fJ:List Entry->List Entry->Option (List Entry)
 |l,[]=>some l
 |l,e::es=>if iL (cZ l e.aW+e.sum)=true then fJ (hP l e.aW (cZ l e.aW+e.sum)) es else none
def gy (l es:List Entry):List Entry×Int:=
 if (eF l).err≠0 then ([],(eF l).err)
 else if es.length > 10 then ([],5)
 else if ∃ x∈es,fC x then ([],3)
 else if eO es≠0 then ([],8)
 else match fJ l es with
  |some r=>(r,0)
  |none=>([],4)
theorem mZ {s:Int}:iL s=true↔-1000000000000<=s/\s<=1000000000000:=by
 unfold iL;simp only [Bool.and_eq_true,decide_eq_true_eq,ge_iff_le]
theorem qS {l es:List Entry} {q:Nat} {e:Entry} (h:es[q]?=some e):fJ l (es.drop q)=if iL (cZ l e.aW+e.sum)=true then fJ (hP l e.aW (cZ l e.aW+e.sum)) (es.drop (q+1)) else none:=by
 obtain ⟨hq,rfl⟩:=List.getElem?_eq_some_iff.1 h
 rw [List.drop_eq_getElem_cons hq];rfl
theorem pJ:∀ {es l r:List Entry},jK l->(∀ x∈es,¬fC x)->fJ l es=some r->jK r/\eO r=eO l+eO es
 |[],l,r,h,_,hp=>by
  have:l=r:=by simpa [fJ] using hp
  subst this;exact ⟨h,by simp [eO]⟩
 |e::es,l,r,h,hb,hp=>by
  unfold fJ at hp
  split at hp
  ·rename_i hg
   have hg:=mZ.1 hg
   have h1:=hb e List.mem_cons_self
   unfold fC at h1
   obtain ⟨h2,h3⟩:=pJ (sO h (by omega) hg) (fun x hx=>hb x (List.mem_cons_of_mem _ hx)) hp
   refine ⟨h2,?_⟩
   rw [h3,wb h.up,Br]
   omega
  ·cases hp
def mz (a:Int):List Entry->Int
 |[]=>0
 |e::es=>(if e.aW=a then e.sum else 0)+mz a es
theorem ye (a:Int) (e:Entry) (es:List Entry):mz a (e::es)=(if e.aW=a then e.sum else 0)+mz a es:=rfl
theorem sV {a:Int}:∀ {es l r:List Entry},Up l->fJ l es=some r->cZ r a=cZ l a+mz a es
 |[],l,r,h,hp=>by
  have:l=r:=by simpa [fJ] using hp
  subst this;simp [mz]
 |e::es,l,r,h,hp=>by
  unfold fJ at hp
  split at hp
  ·rw [sV (tO h) hp,rX h,ye]
   by_cases hc:e.aW=a
   ·subst hc;simp;omega
   ·simp [hc]
  ·cases hp


theorem rn (l:List Int) (hl:l.length * 8<=140737488355328):Fn Try.prog 95 [(.c (fN l))] (aC (.s 0 0 1 l.length)) [(0,.arr 3 1 (l.map rI))]:=by
 refine Fn.mk' 8 [(0,(aC (fN l)))] Try.func95 rfl rfl rfl rfl ?_
 intro W0 T0
 refine dU 0 rfl (fun hlen0=>?_)
 refine ae aa 1 rfl ?_
 refine ah ?_
 refine aH aa 1 rfl ?_
 refine iM (aq.plain rfl) rfl rfl Try.underlying30 rfl rfl (fun bn1 hbn1=>?_)
 refine af ?_
 refine an rfl (fun hc2=>?_) (fun hc2=>?_)
 ·
  have hc2':=hc2;try simp only [bA,bW] at hc2'
  refine ae aa 1 rfl ?_
  refine aA ?_
  refine ax ?_
  refine dm (aJ.nil 2 3 1 (by decide) rfl) ?_
  refine aw aa [0] 1 rfl rfl rfl rfl rfl rfl ?_ ?_
  ·(have h0:=hbn1 (by assumption);have h1:l=[]:=by (cases l with|nil=>rfl|cons=>simp at h0));subst h1;rfl
  ·(have h0:=hbn1 (by assumption);have h1:l=[]:=by (cases l with|nil=>rfl|cons=>simp at h0));subst h1;rfl
 have hc2':=hc2;try simp only [bA,bW] at hc2'
 refine aU ?_
 refine eZ ?_
 refine aP 1 [0] (ec (ys:=[]) (rows:=(([]:List Int)).map rI) 0 nt rfl (by decide) trivial rfl rfl rfl rfl) rfl ?_
 refine ad aa 1 rfl ?_
 refine aP 2 [1] (dA (m:=l.length) (N:=l.length) (k2:=1) (ys:=(l).map rI) nt rfl rfl rfl rfl rfl rfl (by first|omega|(simp;omega)|(simp;done)) rfl (.d _ _) (by first|omega|(simp;omega)|(simp;done)) (by first|omega|(simp;omega)|(simp;done)) rfl (by decide) (by first|omega|(simp;omega)|(simp;done)) (by first|omega|(simp;omega)|(simp;done))) rfl ?_
 refine ad aa 1 rfl ?_
 refine af ?_
 refine aA ?_
 refine aw aa [1] 1 rfl rfl rfl rfl rfl rfl ?_ ?_
 ·first|rfl|simp [gz,aC]
 ·first|rfl|simp
theorem nU (l:List cg) (hl:l.length * 32<=140737488355328):Fn Try.prog 99 [(.c (gK l))] (aC (.s 0 0 4 l.length)) [(0,.arr 107 4 (l.map iQ))]:=by
 refine Fn.mk' 8 [(0,(aC (gK l)))] Try.func99 rfl rfl rfl rfl ?_
 intro W0 T0
 refine dU 0 rfl (fun hlen0=>?_)
 refine ae aa 1 rfl ?_
 refine ah ?_
 refine aH aa 1 rfl ?_
 refine iM (aq.plain rfl) rfl rfl Try.underlying39 rfl rfl (fun bn1 hbn1=>?_)
 refine af ?_
 refine an rfl (fun hc2=>?_) (fun hc2=>?_)
 ·
  have hc2':=hc2;try simp only [bA,bW] at hc2'
  refine ae aa 1 rfl ?_
  refine aA ?_
  refine ax ?_
  refine dm (aJ.nil 2 107 4 (by decide) rfl) ?_
  refine aw aa [0] 1 rfl rfl rfl rfl rfl rfl ?_ ?_
  ·(have h0:=hbn1 (by assumption);have h1:l=[]:=by (cases l with|nil=>rfl|cons=>simp at h0));subst h1;rfl
  ·(have h0:=hbn1 (by assumption);have h1:l=[]:=by (cases l with|nil=>rfl|cons=>simp at h0));subst h1;rfl
 have hc2':=hc2;try simp only [bA,bW] at hc2'
 refine aU ?_
 refine eZ ?_
 refine aP 1 [0] (ec (ys:=[]) (rows:=(([]:List cg)).map iQ) 0 zK rfl (by decide) trivial rfl rfl rfl rfl) rfl ?_
 refine ad aa 1 rfl ?_
 refine aP 2 [1] (dA (m:=l.length) (N:=l.length) (k2:=1) (ys:=(l).map iQ) zK rfl rfl rfl rfl rfl rfl (by first|omega|(simp;omega)|(simp;done)) rfl (.d _ _) (by first|omega|(simp;omega)|(simp;done)) (by first|omega|(simp;omega)|(simp;done)) rfl (by decide) (by first|omega|(simp;omega)|(simp;done)) (by first|omega|(simp;omega)|(simp;done))) rfl ?_
 refine ad aa 1 rfl ?_
 refine af ?_
 refine aA ?_
 refine aw aa [1] 1 rfl rfl rfl rfl rfl rfl ?_ ?_
 ·first|rfl|simp [gz,aC]
 ·first|rfl|simp
theorem rp (l:List di) (hl:l.length * 16<=140737488355328):Fn Try.prog 114 [(.c (fU l))] (aC (.s 0 0 2 l.length)) [(0,.arr 125 2 (l.map iz))]:=by
 refine Fn.mk' 8 [(0,(aC (fU l)))] Try.func114 rfl rfl rfl rfl ?_
 intro W0 T0
 refine dU 0 rfl (fun hlen0=>?_)
 refine ae aa 1 rfl ?_
 refine ah ?_
 refine aH aa 1 rfl ?_
 refine iM (aq.plain rfl) rfl rfl Try.underlying59 rfl rfl (fun bn1 hbn1=>?_)
 refine af ?_
 refine an rfl (fun hc2=>?_) (fun hc2=>?_)
 ·
  have hc2':=hc2;try simp only [bA,bW] at hc2'
  refine ae aa 1 rfl ?_
  refine aA ?_
  refine ax ?_
  refine dm (aJ.nil 2 125 2 (by decide) rfl) ?_
  refine aw aa [0] 1 rfl rfl rfl rfl rfl rfl ?_ ?_
  ·(have h0:=hbn1 (by assumption);have h1:l=[]:=by (cases l with|nil=>rfl|cons=>simp at h0));subst h1;rfl
  ·(have h0:=hbn1 (by assumption);have h1:l=[]:=by (cases l with|nil=>rfl|cons=>simp at h0));subst h1;rfl
 have hc2':=hc2;try simp only [bA,bW] at hc2'
 refine aU ?_
 refine eZ ?_
 refine aP 1 [0] (ec (ys:=[]) (rows:=(([]:List di)).map iz) 0 py rfl (by decide) trivial rfl rfl rfl rfl) rfl ?_
 refine ad aa 1 rfl ?_
 refine aP 2 [1] (dA (m:=l.length) (N:=l.length) (k2:=1) (ys:=(l).map iz) py rfl rfl rfl rfl rfl rfl (by first|omega|(simp;omega)|(simp;done)) rfl (.d _ _) (by first|omega|(simp;omega)|(simp;done)) (by first|omega|(simp;omega)|(simp;done)) rfl (by decide) (by first|omega|(simp;omega)|(simp;done)) (by first|omega|(simp;omega)|(simp;done))) rfl ?_
 refine ad aa 1 rfl ?_
 refine af ?_
 refine aA ?_
 refine aw aa [1] 1 rfl rfl rfl rfl rfl rfl ?_ ?_
 ·first|rfl|simp [gz,aC]
 ·first|rfl|simp
theorem mF (l:List aS) (hl:l.length * 32<=140737488355328):Fn Try.prog 106 [(.c (dh l))] (aC (.s 0 0 4 l.length)) [(0,.arr 80 4 (l.map fZ))]:=by
 refine Fn.mk' 8 [(0,(aC (dh l)))] Try.func106 rfl rfl rfl rfl ?_
 intro W0 T0
 refine dU 0 rfl (fun hlen0=>?_)
 refine ae aa 1 rfl ?_
 refine ah ?_
 refine aH aa 1 rfl ?_
 refine iM (aq.plain rfl) rfl rfl Try.underlying32 rfl rfl (fun bn1 hbn1=>?_)
 refine af ?_
 refine an rfl (fun hc2=>?_) (fun hc2=>?_)
 ·
  have hc2':=hc2;try simp only [bA,bW] at hc2'
  refine ae aa 1 rfl ?_
  refine aA ?_
  refine ax ?_
  refine dm (aJ.nil 2 80 4 (by decide) rfl) ?_
  refine aw aa [0] 1 rfl rfl rfl rfl rfl rfl ?_ ?_
  ·(have h0:=hbn1 (by assumption);have h1:l=[]:=by (cases l with|nil=>rfl|cons=>simp at h0));subst h1;rfl
  ·(have h0:=hbn1 (by assumption);have h1:l=[]:=by (cases l with|nil=>rfl|cons=>simp at h0));subst h1;rfl
 have hc2':=hc2;try simp only [bA,bW] at hc2'
 refine aU ?_
 refine eZ ?_
 refine aP 1 [0] (ec (ys:=[]) (rows:=(([]:List aS)).map fZ) 0 wj rfl (by decide) trivial rfl rfl rfl rfl) rfl ?_
 refine ad aa 1 rfl ?_
 refine aP 2 [1] (dA (m:=l.length) (N:=l.length) (k2:=1) (ys:=(l).map fZ) wj rfl rfl rfl rfl rfl rfl (by first|omega|(simp;omega)|(simp;done)) rfl (.d _ _) (by first|omega|(simp;omega)|(simp;done)) (by first|omega|(simp;omega)|(simp;done)) rfl (by decide) (by first|omega|(simp;omega)|(simp;done)) (by first|omega|(simp;omega)|(simp;done))) rfl ?_
 refine ad aa 1 rfl ?_
 refine af ?_
 refine aA ?_
 refine aw aa [1] 1 rfl rfl rfl rfl rfl rfl ?_ ?_
 ·first|rfl|simp [gz,aC]
 ·first|rfl|simp
theorem vK (l:List Entry) (hl:l.length * 16<=140737488355328):Fn Try.prog 115 [(.c (dR l))] (aC (.s 0 0 2 l.length)) [(0,.arr 115 2 (l.map eV))]:=by
 refine Fn.mk' 8 [(0,(aC (dR l)))] Try.func115 rfl rfl rfl rfl ?_
 intro W0 T0
 refine dU 0 rfl (fun hlen0=>?_)
 refine ae aa 1 rfl ?_
 refine ah ?_
 refine aH aa 1 rfl ?_
 refine iM (aq.plain rfl) rfl rfl Try.underlying44 rfl rfl (fun bn1 hbn1=>?_)
 refine af ?_
 refine an rfl (fun hc2=>?_) (fun hc2=>?_)
 ·
  have hc2':=hc2;try simp only [bA,bW] at hc2'
  refine ae aa 1 rfl ?_
  refine aA ?_
  refine ax ?_
  refine dm (aJ.nil 2 115 2 (by decide) rfl) ?_
  refine aw aa [0] 1 rfl rfl rfl rfl rfl rfl ?_ ?_
  ·(have h0:=hbn1 (by assumption);have h1:l=[]:=by (cases l with|nil=>rfl|cons=>simp at h0));subst h1;rfl
  ·(have h0:=hbn1 (by assumption);have h1:l=[]:=by (cases l with|nil=>rfl|cons=>simp at h0));subst h1;rfl
 have hc2':=hc2;try simp only [bA,bW] at hc2'
 refine aU ?_
 refine eZ ?_
 refine aP 1 [0] (ec (ys:=[]) (rows:=(([]:List Entry)).map eV) 0 kH rfl (by decide) trivial rfl rfl rfl rfl) rfl ?_
 refine ad aa 1 rfl ?_
 refine aP 2 [1] (dA (m:=l.length) (N:=l.length) (k2:=1) (ys:=(l).map eV) kH rfl rfl rfl rfl rfl rfl (by first|omega|(simp;omega)|(simp;done)) rfl (.d _ _) (by first|omega|(simp;omega)|(simp;done)) (by first|omega|(simp;omega)|(simp;done)) rfl (by decide) (by first|omega|(simp;omega)|(simp;done)) (by first|omega|(simp;omega)|(simp;done))) rfl ?_
 refine ad aa 1 rfl ?_
 refine af ?_
 refine aA ?_
 refine aw aa [1] 1 rfl rfl rfl rfl rfl rfl ?_ ?_
 ·first|rfl|simp [gz,aC]
 ·first|rfl|simp
theorem nS (l:List au) (hl:l.length * 32<=140737488355328):Fn Try.prog 54 [(.c (iw l))] (aC (.s 0 0 4 l.length)) [(0,.arr 83 4 (l.map iA))]:=by
 refine Fn.mk' 8 [(0,(aC (iw l)))] Try.func54 rfl rfl rfl rfl ?_
 intro W0 T0
 refine dU 0 rfl (fun hlen0=>?_)
 refine ae aa 1 rfl ?_
 refine ah ?_
 refine aH aa 1 rfl ?_
 refine iM (aq.plain rfl) rfl rfl Try.underlying42 rfl rfl (fun bn1 hbn1=>?_)
 refine af ?_
 refine an rfl (fun hc2=>?_) (fun hc2=>?_)
 ·
  have hc2':=hc2;try simp only [bA,bW] at hc2'
  refine ae aa 1 rfl ?_
  refine aA ?_
  refine ax ?_
  refine dm (aJ.nil 2 83 4 (by decide) rfl) ?_
  refine aw aa [0] 1 rfl rfl rfl rfl rfl rfl ?_ ?_
  ·(have h0:=hbn1 (by assumption);have h1:l=[]:=by (cases l with|nil=>rfl|cons=>simp at h0));subst h1;rfl
  ·(have h0:=hbn1 (by assumption);have h1:l=[]:=by (cases l with|nil=>rfl|cons=>simp at h0));subst h1;rfl
 have hc2':=hc2;try simp only [bA,bW] at hc2'
 refine aU ?_
 refine eZ ?_
 refine aP 1 [0] (ec (ys:=[]) (rows:=(([]:List au)).map iA) 0 zJ rfl (by decide) trivial rfl rfl rfl rfl) rfl ?_
 refine ad aa 1 rfl ?_
 refine aP 2 [1] (dA (m:=l.length) (N:=l.length) (k2:=1) (ys:=(l).map iA) zJ rfl rfl rfl rfl rfl rfl (by first|omega|(simp;omega)|(simp;done)) rfl (.d _ _) (by first|omega|(simp;omega)|(simp;done)) (by first|omega|(simp;omega)|(simp;done)) rfl (by decide) (by first|omega|(simp;omega)|(simp;done)) (by first|omega|(simp;omega)|(simp;done))) rfl ?_
 refine ad aa 1 rfl ?_
 refine af ?_
 refine aA ?_
 refine aw aa [1] 1 rfl rfl rfl rfl rfl rfl ?_ ?_
 ·first|rfl|simp [gz,aC]
 ·first|rfl|simp


theorem xy (l:List Entry) (f:cV) (hr:eF l=f):Fn Try.prog 33 [(.c (dR l))] (.v (.g [(cI f.err),(cI f.at_)])) []:=by
 refine Fn.mk' 64 [(0,(aC (dR l)))] Try.func33 rfl rfl rfl rfl ?_
 intro W0 T0
 refine dU 0 rfl (fun hlen0=>?_)
 refine ae aa 1 rfl ?_
 refine ae aa 1 rfl ?_
 refine ah ?_
 refine aH aa 1 rfl ?_
 refine aE (cJ rfl rfl rfl rfl rfl Try.underlying44) rfl ?_
 refine ad aa 1 rfl ?_
 refine af ?_
 refine aY ?_
 refine cz (β:=Nat) (fun (q:Nat)=>⟨[(0,(aC (dR l))),(2,(aC (.p 0 0 0 0))),(3,(aI (eO (l.take q)))),(6,(aC (dR l))),(7,(aI (↑l.length:Int))),(8,(aI (↑q:Int)))],[(0,(.box 50 [(cI 0),(cI 0)]))],1⟩) (fun (q:Nat)=>q<=l.length/\scan (lN l) 0 l.length=scan (lN l) q (l.length - q)/\(q:Int) - 1<=iZ l q/\iZ l q<=57/\-1000000000000 * (q:Int)<=eO (l.take q)/\eO (l.take q)<=1000000000000 * (q:Int)) (fun (q:Nat)=>l.length - q) 0 ?_ ?_ ?_
 ·(have h1:iZ l 0=-1:=rfl);(have h2:eO (l.take 0)=0:=rfl);exact ⟨by omega,rfl,by omega,by omega⟩
 ·exact aJ.cc id (by refine ⟨?_,?_,?_,?_,?_,?_,trivial⟩<;>first|rfl|(simp only [bn];done)|(congr 3;omega)|(congr 4;omega)|(simp only [bo];rfl)) (⟨by first|rfl|(simp only [bn];done)|(congr 3;omega)|(congr 4;omega)|(simp only [bo];rfl),trivial⟩) rfl
 rintro q ⟨hi0_0,hi0_1,hi0_2,hi0_3⟩
 refine ae aa 1 rfl ?_
 refine ah ?_
 refine an rfl (fun hc1=>?_) (fun hc1=>?_)
 ·
  have hc1':=of_decide_eq_true hc1
  refine aU ?_
  refine ah ?_
  refine aY ?_
  refine aH aa 1 rfl ?_
  obtain ⟨x1,hx1⟩:=cr (xs:=l) (i:=q) (by first|omega|(simp;done)|(simp;omega))
  refine aE (db (i:=q) rfl rfl rfl Try.underlying44 eB (by first|omega|(simp;done)|(simp;omega)) (bz hx1)) rfl ?_
  refine ad aa 4 rfl ?_
  refine af ?_
  refine ah ?_
  refine aY ?_
  refine cA 13 ((((decide (x1.aW < 0))||(decide (x1.aW>=58)))||(decide (x1.sum < (-1000000000000))))||(decide (x1.sum > 1000000000000))) ?_ ?_
  ·
   refine ay ?_
   refine ad aa 4 rfl ?_
   refine bH (t:=17) rfl (fun hb2=>?_) (fun hb2=>?_)
   ·
    have hb2':=of_decide_eq_true hb2
    refine ad aa 15 rfl ?_
    refine af ?_
    exact aJ.bK 20 rfl rfl (by first|(simp [hb2];done)|(simp_all;done)|(exfalso;simp_all;done)|(simp_all;omega)) rfl
   have hb2':=of_decide_eq_false hb2
   refine ad aa 5 rfl ?_
   refine bH (t:=22) rfl (fun hb3=>?_) (fun hb3=>?_)
   ·
    have hb3':=of_decide_eq_true hb3
    refine ad aa 10 rfl ?_
    refine af ?_
    exact aJ.bK 21 rfl rfl (by first|(simp [hb2,hb3];done)|(simp_all;done)|(exfalso;simp_all;done)|(simp_all;omega)) rfl
   have hb3':=of_decide_eq_false hb3
   refine ad aa 5 rfl ?_
   refine bH (t:=27) rfl (fun hb4=>?_) (fun hb4=>?_)
   ·
    have hb4':=of_decide_eq_true hb4
    refine ad aa 5 rfl ?_
    refine af ?_
    exact aJ.bK 22 rfl rfl (by first|(simp [hb2,hb3,hb4];done)|(simp_all;done)|(exfalso;simp_all;done)|(simp_all;omega)) rfl
   have hb4':=of_decide_eq_false hb4
   refine ad aa 5 rfl ?_
   refine af ?_
   exact aJ.bK 22 rfl rfl (by first|(simp [hb2,hb3,hb4];done)|(simp_all;done)|(exfalso;simp_all;done)|(simp_all;omega)) rfl
  refine an rfl (fun hc5=>?_) (fun hc5=>?_)
  ·
   have hc5':=hc5;try simp only [bA,bW] at hc5'
   refine ae aa 3 rfl ?_
   refine aA ?_
   refine bm ?_
   refine ax ?_
   refine bm ?_
   refine ax ?_
   refine ax ?_
   refine bm ?_
   refine ax ?_
   have hX:eF l=(⟨3,(↑q:Int)⟩:cV):=by
     (have hb:fC x1:=by unfold fC;omega);(have h0:=iI (e:=lN l) (q:=q) (n:=l.length) (by omega) (by rw [iF hx1,if_pos hb]) (by decide:(3:Int)≠0));(unfold eF;rw [hi0_1,h0];rfl)
   rw [hX] at hr;clear hX
   subst hr
   refine aw aa [0] 0 rfl rfl rfl rfl rfl rfl ?_ ?_
   all_goals first|rfl|(simp [aD];done)|(simp [aD];omega)
  have hc5':=hc5;try simp only [bA,bW] at hc5'
  refine ah ?_
  rcases Bool.eq_false_or_eq_true (decide ((↑q:Int) > 0)) with hb6|hb6
  ·
   have hb6':=of_decide_eq_true hb6
   obtain ⟨x2,hx2⟩:=cr (xs:=l) (i:=(q) - 1) (by first|omega|(simp;done)|(simp;omega))
   rcases Bool.eq_false_or_eq_true (decide (x2.aW>=x1.aW)) with hb7|hb7
   ·
    have hb7':=of_decide_eq_true hb7
    refine bd [0,2,3,6,7,8,5,4] [1,0] mixed rfl rfl ?_
    refine aF (kn:=[(36,true)]) aa 5 rfl ⟨hb6,trivial⟩ ?_
    refine aX (n':=2) [39,37] [] rfl rfl (.inl ⟨(aq.yes rfl rfl rfl),aM.cast (aN rfl rfl rfl (aK (by first|omega|(simp;done)|(simp;omega)))) rfl⟩) rfl ?_
    refine aX (n':=2) [38,40,37] [] rfl rfl (.inl ⟨(aq.yes rfl rfl rfl),aM.cast (db (i:=(q) - 1) rfl rfl rfl Try.underlying44 eB (by first|omega|(simp;done)|(simp;omega)) (bz hx2)) rfl⟩) rfl ?_
    refine aF (kn:=[(46,true)]) aa 12 rfl ⟨hb7,trivial⟩ ?_
    refine bF [1,0] rfl rfl rfl rfl (by kernel_rfl) ?_
    refine af ?_
    refine an rfl (fun _=>?_) (fun hno=>by cases hno)
    refine ae aa 3 rfl ?_
    refine aA ?_
    refine bm ?_
    refine ax ?_
    refine bm ?_
    refine ax ?_
    refine ax ?_
    refine bm ?_
    refine ax ?_
    have hX:eF l=(⟨2,(↑q:Int)⟩:cV):=by
      (have hb:¬fC x1:=by unfold fC;omega);(have hla:=lA (by omega) hx2);(have h0:=iI (e:=lN l) (q:=q) (n:=l.length) (by omega) (by rw [iF hx1,if_neg hb,if_pos (by omega)]) (by decide:(2:Int)≠0));(unfold eF;rw [hi0_1,h0];rfl)
    rw [hX] at hr;clear hX
    subst hr
    refine aw aa [0] 0 rfl rfl rfl rfl rfl rfl ?_ ?_
    all_goals first|rfl|(simp [aD];done)|(simp [aD];omega)
   have hb7':=of_decide_eq_false hb7
   refine bd [0,2,3,6,7,8,5,4] [1,0] mixed rfl rfl ?_
   refine aF (kn:=[(36,true)]) aa 5 rfl ⟨hb6,trivial⟩ ?_
   refine aX (n':=2) [39,37] [] rfl rfl (.inl ⟨(aq.yes rfl rfl rfl),aM.cast (aN rfl rfl rfl (aK (by first|omega|(simp;done)|(simp;omega)))) rfl⟩) rfl ?_
   refine aX (n':=2) [38,40,37] [] rfl rfl (.inl ⟨(aq.yes rfl rfl rfl),aM.cast (db (i:=(q) - 1) rfl rfl rfl Try.underlying44 eB (by first|omega|(simp;done)|(simp;omega)) (bz hx2)) rfl⟩) rfl ?_
   refine aF (kn:=[(46,false)]) aa 12 rfl ⟨hb7,trivial⟩ ?_
   refine bF [1,0] rfl rfl rfl rfl (by kernel_rfl) ?_
   refine af ?_
   refine an rfl (fun hc9=>?_) (fun hc9=>?_)
   ·
    have hc9':=of_decide_eq_true hc9
    refine ae aa 3 rfl ?_
    refine aA ?_
    refine bm ?_
    refine ax ?_
    refine bm ?_
    refine ax ?_
    refine ax ?_
    refine bm ?_
    refine ax ?_
    have hX:eF l=(⟨2,(↑q:Int)⟩:cV):=by
      (have hb:¬fC x1:=by unfold fC;omega);(have hla:=lA (by omega) hx2);(have h0:=iI (e:=lN l) (q:=q) (n:=l.length) (by omega) (by rw [iF hx1,if_neg hb,if_pos (by omega)]) (by decide:(2:Int)≠0));(unfold eF;rw [hi0_1,h0];rfl)
    rw [hX] at hr;clear hX
    subst hr
    refine aw aa [0] 0 rfl rfl rfl rfl rfl rfl ?_ ?_
    all_goals first|rfl|(simp [aD];done)|(simp [aD];omega)
   have hc9':=of_decide_eq_false hc9
   refine dg ?_
   refine bq ?_
   refine then_ok ?_
   refine ay ?_
   refine ad aa 3 rfl ?_
   refine aE (aN rfl rfl rfl (aK (by first|omega|(simp;done)|(simp;omega)))) rfl ?_
   refine ad aa 1 rfl ?_
   refine cf ?_
   refine bq ?_
   refine then_ok ?_
   refine ay ?_
   refine aE (aN rfl rfl rfl (aK (by first|omega|(simp;done)|(simp;omega)))) rfl ?_
   refine ad aa 1 rfl ?_
   refine af ?_
   refine ⟨q+1,⟨by omega,by rw [hi0_1];exact nF (by omega) (by have hla:=lA (by omega) hx2;rw [iF hx1,if_neg (by unfold fC;omega),if_neg (by omega)]),by rw [kp hx1];have hla:=lA (by omega) hx2;omega,by rw [kp hx1,jQ hx1];omega⟩,by first|omega|(simp;done)|(simp;omega),aJ.cc id (by refine ⟨?_,?_,?_,?_,?_,?_,trivial⟩<;>first|rfl|(simp only [bn];done)|(congr 3;omega)|(congr 4;omega)|(simp only [bo];rfl)|(rw [jQ hx1];rfl)) (⟨by first|rfl|(simp only [bn];done)|(congr 3;omega)|(congr 4;omega)|(simp only [bo];rfl),trivial⟩) rfl⟩
  have hb6':=of_decide_eq_false hb6
  refine bd [0,2,3,6,7,8,5,4] [1,0] mixed rfl rfl ?_
  refine aF (kn:=[(36,false)]) aa 19 rfl ⟨hb6,trivial⟩ ?_
  refine bF [1,0] rfl rfl rfl rfl (by kernel_rfl) ?_
  refine af ?_
  refine an rfl (fun hc10=>?_) (fun hc10=>?_)
  ·
   have hc10':=of_decide_eq_true hc10
   refine ae aa 3 rfl ?_
   refine aA ?_
   refine bm ?_
   refine ax ?_
   refine bm ?_
   refine ax ?_
   refine ax ?_
   refine bm ?_
   refine ax ?_
   have hX:eF l=(⟨2,(↑q:Int)⟩:cV):=by
     (have hb:¬fC x1:=by unfold fC;omega);(have h0:=iI (e:=lN l) (q:=q) (n:=l.length) (by omega) (by rw [iF hx1,if_neg hb,if_pos (by omega)]) (by decide:(2:Int)≠0));(unfold eF;rw [hi0_1,h0];rfl)
   rw [hX] at hr;clear hX
   subst hr
   refine aw aa [0] 0 rfl rfl rfl rfl rfl rfl ?_ ?_
   all_goals first|rfl|(simp [aD];done)|(simp [aD];omega)
  have hc10':=of_decide_eq_false hc10
  refine dg ?_
  refine bq ?_
  refine then_ok ?_
  refine ay ?_
  refine ad aa 3 rfl ?_
  refine aE (aN rfl rfl rfl (aK (by first|omega|(simp;done)|(simp;omega)))) rfl ?_
  refine ad aa 1 rfl ?_
  refine cf ?_
  refine bq ?_
  refine then_ok ?_
  refine ay ?_
  refine aE (aN rfl rfl rfl (aK (by first|omega|(simp;done)|(simp;omega)))) rfl ?_
  refine ad aa 1 rfl ?_
  refine af ?_
  refine ⟨q+1,⟨by omega,by rw [hi0_1];exact nF (by omega) (by have hla:iZ l q=-1:=(by unfold iZ;rw [if_pos (by omega)]);rw [iF hx1,if_neg (by unfold fC;omega),if_neg (by omega)]),by rw [kp hx1];have hla:iZ l q=-1:=(by unfold iZ;rw [if_pos (by omega)]);omega,by rw [kp hx1,jQ hx1];omega⟩,by first|omega|(simp;done)|(simp;omega),aJ.cc id (by refine ⟨?_,?_,?_,?_,?_,?_,trivial⟩<;>first|rfl|(simp only [bn];done)|(congr 3;omega)|(congr 4;omega)|(simp only [bo];rfl)|(rw [jQ hx1];rfl)) (⟨by first|rfl|(simp only [bn];done)|(congr 3;omega)|(congr 4;omega)|(simp only [bo];rfl),trivial⟩) rfl⟩
 have hc1':=of_decide_eq_false hc1
 refine cp ?_
 refine aR ?_
 refine aR ?_
 refine bM ?_
 refine then_ok ?_
 refine ah ?_
 refine ae aa 2 rfl ?_
 refine an rfl (fun hc11=>?_) (fun hc11=>?_)
 ·
  have hc11':=of_decide_eq_true hc11
  refine ae aa 2 rfl ?_
  refine aA ?_
  refine ax ?_
  have hX:eF l=(⟨8,0⟩:cV):=by
    (obtain rfl:q=l.length:=by omega);rw [List.take_length] at *;(unfold eF;rw [hi0_1,ot (by omega)];rw [if_neg (by decide),if_pos (by omega)])
  rw [hX] at hr;clear hX
  subst hr
  refine aw aa [0] 0 rfl rfl rfl rfl rfl rfl ?_ ?_
  all_goals first|rfl|(simp [aD];done)|(simp [aD];omega)
 have hc11':=of_decide_eq_false hc11
 refine aU ?_
 refine ae aa 2 rfl ?_
 refine aA ?_
 have hX:eF l=(⟨0,0⟩:cV):=by
   (obtain rfl:q=l.length:=by omega);rw [List.take_length] at *;(unfold eF;rw [hi0_1,ot (by omega)];rw [if_neg (by decide),if_neg (by omega)])
 rw [hX] at hr;clear hX
 subst hr
 refine aw aa [0] 0 rfl rfl rfl rfl rfl rfl ?_ ?_
 all_goals first|rfl|(simp [aD];done)|(simp [aD];omega)


theorem vh {l:List Entry} {q:Nat} {x:Entry} {a:Int} (h:l[q]?=some x):cZ (l.drop q) a=if x.aW=a then x.sum else cZ (l.drop (q+1)) a:=by
  obtain ⟨hq,rfl⟩:=List.getElem?_eq_some_iff.1 h
  rw [List.drop_eq_getElem_cons hq];rfl
theorem Cv {l:List Entry} {q:Nat} {a:Int} (h:l.length<=q):cZ (l.drop q) a=0:=by
  rw [List.drop_of_length_le h];rfl

theorem AJ (l:List Entry) (a:Int) (n:Int) (hr:cZ l a=n):Fn Try.prog 34 [(.c (dR l)),(.c (cI a))] (.v (.c (cI n))) []:=by
 refine Fn.mk' 20 [(0,(aC (dR l))),(1,(aI a))] Try.func34 rfl rfl rfl rfl ?_
 intro W0 T0
 refine dU 0 rfl (fun hlen0=>?_)
 refine ae aa 1 rfl ?_
 refine ah ?_
 refine aH aa 1 rfl ?_
 refine aE (cJ rfl rfl rfl rfl rfl Try.underlying44) rfl ?_
 refine ad aa 1 rfl ?_
 refine af ?_
 refine aY ?_
 refine cz (β:=Nat) (fun (q:Nat)=>⟨[(1,(aI a)),(7,(aC (dR l))),(8,(aI (↑l.length:Int))),(9,(aI (↑q:Int)))],[],0⟩) (fun (q:Nat)=>q<=l.length/\cZ l a=cZ (l.drop q) a) (fun (q:Nat)=>l.length - q) 0 ?_ ?_ ?_
 ·exact ⟨by omega,rfl⟩
 ·exact aJ.cc id (by refine ⟨?_,?_,?_,?_,trivial⟩<;>first|rfl|(simp only [bn];done)|(congr 3;omega)|(congr 4;omega)|(simp only [bo];rfl)) (trivial) rfl
 rintro q ⟨hi0_0,hi0_1⟩
 refine ae aa 1 rfl ?_
 refine ah ?_
 refine an rfl (fun hc1=>?_) (fun hc1=>?_)
 ·
  have hc1':=of_decide_eq_true hc1
  refine aU ?_
  refine ah ?_
  refine aY ?_
  refine eZ ?_
  obtain ⟨x1,hx1⟩:=cr (xs:=l) (i:=q) (by first|omega|(simp;done)|(simp;omega))
  refine aE (db (i:=q) rfl rfl rfl Try.underlying44 eB (by first|omega|(simp;done)|(simp;omega)) (bz hx1)) rfl ?_
  refine ad aa 3 rfl ?_
  refine af ?_
  refine ae aa 4 rfl ?_
  refine an rfl (fun hc2=>?_) (fun hc2=>?_)
  ·
   have hc2':=of_decide_eq_true hc2
   refine ae aa 3 rfl ?_
   refine aA ?_
   refine bm ?_
   refine ax ?_
   refine ax ?_
   refine bm ?_
   refine ax ?_
   have hX:cZ l a=x1.sum:=by
     rw [hi0_1,vh hx1,if_pos (by omega)]
   rw [hX] at hr;clear hX
   subst hr
   refine aw aa [] 0 rfl rfl rfl rfl rfl rfl ?_ ?_
   all_goals first|rfl|(simp [aD];done)|(simp [aD];omega)
  have hc2':=of_decide_eq_false hc2
  refine dg ?_
  refine bq ?_
  refine then_ok ?_
  refine ay ?_
  refine aE (aN rfl rfl rfl (aK (by first|omega|(simp;done)|(simp;omega)))) rfl ?_
  refine ad aa 1 rfl ?_
  refine af ?_
  refine ⟨q+1,⟨by omega,by rw [hi0_1,vh hx1,if_neg (by omega)]⟩,by first|omega|(simp;done)|(simp;omega),aJ.cc id (by refine ⟨?_,?_,?_,?_,trivial⟩<;>first|rfl|(simp only [bn];done)|(congr 3;omega)|(congr 4;omega)|(simp only [bo];rfl)) (trivial) rfl⟩
 have hc1':=of_decide_eq_false hc1
 refine cp ?_
 refine aR ?_
 refine aR ?_
 refine bM ?_
 refine then_ok ?_
 refine ae aa 1 rfl ?_
 refine aA ?_
 have hX:cZ l a=0:=by
   rw [hi0_1,Cv (by omega)]
 rw [hX] at hr;clear hX
 subst hr
 refine aw aa [] 0 rfl rfl rfl rfl rfl rfl ?_ ?_
 all_goals first|rfl|(simp [aD];done)|(simp [aD];omega)


theorem wB {l es:List Entry} (h0:(eF l).err=0) (h1:es.length<=10) (h2:∀ x∈es,¬fC x) (h3:eO es=0):gy l es=match fJ l es with
    |some r=>(r,0)
    |none=>([],4):=by
  unfold gy
  rw [if_neg (by omega),if_neg (by omega),if_neg (fun ⟨x,hx,hb⟩=>h2 x hx hb),if_neg (by omega)]
  all_goals (cases fJ l es<;>rfl)
theorem uR {es:List Entry} {q:Nat} (h:∀ x∈es.take q,¬fC x) (hq:es.length<=q):∀ x∈es,¬fC x:=by
  rwa [List.take_of_length_le hq] at h
theorem zX {es:List Entry} {q:Nat} {x:Entry} (h:∀ x∈es.take q,¬fC x) (hx:es[q]?=some x) (hb:¬fC x):∀ x∈es.take (q+1),¬fC x:=by
  rw [uA hx]
  intro y hy
  rcases List.mem_append.1 hy with hy|hy
  ·exact h y hy
  ·rw [List.mem_singleton.1 hy];exact hb
theorem yx {es:List Entry} {q:Nat} (hq:es.length<=q):eO (es.take q)=eO es:=by rw [List.take_of_length_le hq]
theorem FK {l m es:List Entry} {q:Nat} (h:fJ l es=fJ m (es.drop q)) (hq:es.length<=q):fJ l es=some m:=by
  rw [h,List.drop_of_length_le hq];rfl
theorem yn (l es:List Entry) (r:List Entry) (e:Int) (hr:gy l es=(r,e)):Fn Try.prog 111 [(.c (dR l)),(.c (dR es))] (.t [(.c (.s 0 0 2 r.length)),(.c (cI e))]) [(0,(mG r))]:=by
 refine Fn.mk' 75 [(0,(aC (dR l))),(1,(aC (dR es)))] Try.func111 rfl rfl rfl rfl ?_
 intro W0 T0
 refine dU 0 rfl (fun hlen0=>?_)
 refine dU 1 rfl (fun hlen1=>?_)
 refine ae aa 2 rfl ?_
 refine ah ?_
 refine aH aa 1 rfl ?_
 obtain ⟨f0,hr0⟩:∃ (f0:cV),eF l=f0:=⟨_,rfl⟩
 refine aP 0 [] (ch 0 (xy l f0 hr0) Kb rfl rfl ⟨⟨_,rfl,.c (.d _)⟩,trivial⟩ ⟨trivial,trivial,trivial⟩ trivial rfl rfl rfl rfl) rfl ?_
 refine ad aa 2 rfl ?_
 refine af ?_
 refine ae aa 3 rfl ?_
 refine an rfl (fun hc1=>?_) (fun hc1=>?_)
 ·
  have hc1':=of_decide_eq_true hc1
  refine ah ?_
  refine bd [0,1,6] [0] mixed rfl rfl ?_
  refine aF (kn:=[]) aa 4 rfl trivial ?_
  refine bF [0] rfl rfl rfl rfl (by kernel_rfl) ?_
  refine af ?_
  refine aA ?_
  refine ax ?_
  refine dm (aJ.nil 4 115 2 (by decide) rfl) ?_
  have hX:gy l es=(([]:List Entry),f0.err):=by
    unfold gy;rw [if_pos (by rw [hr0];omega),hr0]
  rw [hX] at hr;clear hX
  simp only [Prod.mk.injEq] at hr;obtain ⟨rfl,rfl⟩:=hr
  refine aw aa [1] 1 rfl rfl rfl rfl rfl rfl ?_ ?_
  all_goals first|rfl|(simp [aD];done)|(simp [aD];omega)
 have hc1':=of_decide_eq_false hc1
 refine aU ?_
 refine ah ?_
 refine aH aa 1 rfl ?_
 refine aE (cJ rfl rfl rfl rfl rfl Try.underlying44) rfl ?_
 refine ad aa 1 rfl ?_
 refine af ?_
 refine an rfl (fun hc2=>?_) (fun hc2=>?_)
 ·
  have hc2':=of_decide_eq_true hc2
  refine ae aa 2 rfl ?_
  refine aA ?_
  refine ax ?_
  refine dm (aJ.nil 4 115 2 (by decide) rfl) ?_
  have hX:gy l es=(([]:List Entry),5):=by
    unfold gy;rw [if_neg (by rw [hr0];omega),if_pos (by omega)]
  rw [hX] at hr;clear hX
  simp only [Prod.mk.injEq] at hr;obtain ⟨rfl,rfl⟩:=hr
  refine aw aa [1] 1 rfl rfl rfl rfl rfl rfl ?_ ?_
  all_goals first|rfl|(simp [aD];done)|(simp [aD];omega)
 have hc2':=of_decide_eq_false hc2
 refine aU ?_
 refine ae aa 1 rfl ?_
 refine ah ?_
 refine aH aa 1 rfl ?_
 refine aE (cJ rfl rfl rfl rfl rfl Try.underlying44) rfl ?_
 refine ad aa 1 rfl ?_
 refine af ?_
 refine aY ?_
 refine cz (β:=Nat) (fun (q:Nat)=>⟨[(0,(aC (dR l))),(1,(aC (dR es))),(7,(aI (eO (es.take q)))),(25,(aC (dR es))),(26,(aI (↑es.length:Int))),(27,(aI (↑q:Int)))],[],0⟩) (fun (q:Nat)=>q<=es.length/\(∀ x∈es.take q,¬fC x)/\-1000000000000 * (q:Int)<=eO (es.take q)/\eO (es.take q)<=1000000000000 * (q:Int)) (fun (q:Nat)=>es.length - q) 0 ?_ ?_ ?_
 ·(have h2:eO (es.take 0)=0:=rfl);exact ⟨by omega,by intro x hx;simp at hx,by omega⟩
 ·exact aJ.cc id (by refine ⟨?_,?_,?_,?_,?_,?_,trivial⟩<;>first|rfl|(simp only [bn];done)|(congr 3;omega)|(congr 4;omega)|(simp only [bo];rfl)) (trivial) rfl
 rintro q ⟨hi0_0,hi0_1,hi0_2⟩
 refine ae aa 1 rfl ?_
 refine ah ?_
 refine an rfl (fun hc3=>?_) (fun hc3=>?_)
 ·
  have hc3':=of_decide_eq_true hc3
  refine aU ?_
  refine ah ?_
  refine aY ?_
  refine eZ ?_
  obtain ⟨x1,hx1⟩:=cr (xs:=es) (i:=q) (by first|omega|(simp;done)|(simp;omega))
  refine aE (db (i:=q) rfl rfl rfl Try.underlying44 eB (by first|omega|(simp;done)|(simp;omega)) (bz hx1)) rfl ?_
  refine ad aa 3 rfl ?_
  refine af ?_
  refine ah ?_
  refine cA 48 ((((decide (x1.aW < 0))||(decide (x1.aW>=58)))||(decide (x1.sum < (-1000000000000))))||(decide (x1.sum > 1000000000000))) ?_ ?_
  ·
   refine ay ?_
   refine ad aa 4 rfl ?_
   refine bH (t:=34) rfl (fun hb4=>?_) (fun hb4=>?_)
   ·
    have hb4':=of_decide_eq_true hb4
    refine ad aa 14 rfl ?_
    refine af ?_
    exact aJ.bK 19 rfl rfl (by first|(simp [hb4];done)|(simp_all;done)|(exfalso;simp_all;done)|(simp_all;omega)) rfl
   have hb4':=of_decide_eq_false hb4
   refine ad aa 5 rfl ?_
   refine bH (t:=39) rfl (fun hb5=>?_) (fun hb5=>?_)
   ·
    have hb5':=of_decide_eq_true hb5
    refine ad aa 9 rfl ?_
    refine af ?_
    exact aJ.bK 20 rfl rfl (by first|(simp [hb4,hb5];done)|(simp_all;done)|(exfalso;simp_all;done)|(simp_all;omega)) rfl
   have hb5':=of_decide_eq_false hb5
   refine ad aa 5 rfl ?_
   refine bH (t:=44) rfl (fun hb6=>?_) (fun hb6=>?_)
   ·
    have hb6':=of_decide_eq_true hb6
    refine ad aa 4 rfl ?_
    refine af ?_
    exact aJ.bK 21 rfl rfl (by first|(simp [hb4,hb5,hb6];done)|(simp_all;done)|(exfalso;simp_all;done)|(simp_all;omega)) rfl
   have hb6':=of_decide_eq_false hb6
   refine ad aa 4 rfl ?_
   refine af ?_
   exact aJ.bK 21 rfl rfl (by first|(simp [hb4,hb5,hb6];done)|(simp_all;done)|(exfalso;simp_all;done)|(simp_all;omega)) rfl
  refine an rfl (fun hc7=>?_) (fun hc7=>?_)
  ·
   have hc7':=hc7;try simp only [bA,bW] at hc7'
   refine ae aa 2 rfl ?_
   refine aA ?_
   refine ax ?_
   refine bm ?_
   refine ax ?_
   refine ax ?_
   refine bm ?_
   refine ax ?_
   refine dm (aJ.nil 4 115 2 (by decide) rfl) ?_
   have hX:gy l es=(([]:List Entry),3):=by
     unfold gy;rw [if_neg (by rw [hr0];omega),if_neg (by omega),if_pos ⟨x1,List.mem_of_getElem? hx1,by unfold fC;omega⟩]
   rw [hX] at hr;clear hX
   simp only [Prod.mk.injEq] at hr;obtain ⟨rfl,rfl⟩:=hr
   refine aw aa [1] 1 rfl rfl rfl rfl rfl rfl ?_ ?_
   all_goals first|rfl|(simp [aD];done)|(simp [aD];omega)
  have hc7':=hc7;try simp only [bA,bW] at hc7'
  refine aU ?_
  refine ay ?_
  refine ad aa 3 rfl ?_
  refine aE (aN rfl rfl rfl (aK (by first|omega|(simp;done)|(simp;omega)))) rfl ?_
  refine ad aa 1 rfl ?_
  refine cf ?_
  refine bq ?_
  refine then_ok ?_
  refine ay ?_
  refine aE (aN rfl rfl rfl (aK (by first|omega|(simp;done)|(simp;omega)))) rfl ?_
  refine ad aa 1 rfl ?_
  refine af ?_
  refine ⟨q+1,⟨by omega,zX hi0_1 hx1 (by unfold fC;omega),by rw [jQ hx1];omega⟩,by first|omega|(simp;done)|(simp;omega),aJ.cc id (by refine ⟨?_,?_,?_,?_,?_,?_,trivial⟩<;>first|rfl|(simp only [bn];done)|(congr 3;omega)|(congr 4;omega)|(simp only [bo];rfl)|(rw [jQ hx1];rfl)) (trivial) rfl⟩
 have hc3':=of_decide_eq_false hc3
 refine cp ?_
 refine aR ?_
 refine aR ?_
 refine bM ?_
 refine then_ok ?_
 refine ah ?_
 refine ae aa 2 rfl ?_
 refine an rfl (fun hc8=>?_) (fun hc8=>?_)
 ·
  have hc8':=of_decide_eq_true hc8
  refine ae aa 2 rfl ?_
  refine aA ?_
  refine ax ?_
  refine dm (aJ.nil 4 115 2 (by decide) rfl) ?_
  have hX:gy l es=(([]:List Entry),8):=by
    (have hs:=yx (es:=es) (q:=q) (by omega));(have hnb:=uR hi0_1 (by omega));unfold gy;rw [if_neg (by rw [hr0];omega),if_neg (by omega),if_neg (fun ⟨x,hx,hb⟩=>hnb x hx hb),if_pos (by omega)]
  rw [hX] at hr;clear hX
  simp only [Prod.mk.injEq] at hr;obtain ⟨rfl,rfl⟩:=hr
  refine aw aa [0] 1 rfl rfl rfl rfl rfl rfl ?_ ?_
  all_goals first|rfl|(simp [aD];done)|(simp [aD];omega)
 have hc8':=of_decide_eq_false hc8
 refine aU ?_
 have h0:(eF l).err=0:=by rw [hr0];omega
 have hR:jK l:=(jY.1 h0).1
 have hRl:=uL hR
 have hs:=yx (es:=es) (q:=q) (by omega)
 have hnb:=uR hi0_1 (by omega)
 refine aH aa 1 rfl ?_
 refine aP 1 [0] (ch 0 (vK l (by first|omega|(simp;done)|(simp;omega))) II rfl rfl ⟨⟨_,rfl,.c (.d _)⟩,trivial⟩ trivial ⟨(fun _ _ _ _=>trivial),trivial⟩ rfl rfl rfl rfl) rfl ?_
 refine ad aa 1 rfl ?_
 refine af ?_
 refine ah ?_
 refine aH aa 1 rfl ?_
 refine aE (cJ rfl rfl rfl rfl rfl Try.underlying44) rfl ?_
 refine ad aa 1 rfl ?_
 refine af ?_
 refine aY ?_
 refine cz (β:=Nat×List Entry) (fun (p:Nat×List Entry)=>match p with|(p,m)=>⟨[(0,(aC (dR l))),(1,(aC (dR es))),(7,(aI (eO (es.take q)))),(25,(aC (dR es))),(26,(aI (↑es.length:Int))),(27,(aI (↑q:Int))),(10,(aC (.s 0 0 2 m.length))),(58,(aC (dR es))),(59,(aI (↑es.length:Int))),(60,(aI (↑p:Int)))],[(0,(mG m))],1⟩) (fun (p:Nat×List Entry)=>match p with|(p,m)=>p<=es.length/\jK m/\fJ l es=fJ m (es.drop p)) (fun (p:Nat×List Entry)=>match p with|(p,m)=>es.length - p) (0,l) ?_ ?_ ?_
 ·exact ⟨by omega,hR,rfl⟩
 ·exact aJ.cc id (by refine ⟨?_,?_,?_,?_,?_,?_,?_,?_,?_,?_,trivial⟩<;>first|rfl|(simp only [bn];done)|(congr 3;omega)|(congr 4;omega)|(simp only [bo];rfl)) (⟨by first|rfl|(simp only [bn];done)|(congr 3;omega)|(congr 4;omega)|(simp only [bo];rfl),trivial⟩) rfl
 rintro ⟨p,m⟩ ⟨hi1_0,hi1_1,hi1_2⟩
 refine ae aa 1 rfl ?_
 refine ah ?_
 refine an rfl (fun hc9=>?_) (fun hc9=>?_)
 ·
  have hc9':=of_decide_eq_true hc9
  refine aU ?_
  refine ah ?_
  refine aY ?_
  refine eZ ?_
  obtain ⟨x1,hx1⟩:=cr (xs:=es) (i:=p) (by first|omega|(simp;done)|(simp;omega))
  have hx1n:=hnb x1 (List.mem_of_getElem? hx1)
  have hx1b:0<=x1.aW/\x1.aW<=57/\-1000000000000<=x1.sum/\x1.sum<=1000000000000:=by unfold fC at hx1n;omega
  refine aE (db (i:=p) rfl rfl rfl Try.underlying44 eB (by first|omega|(simp;done)|(simp;omega)) (bz hx1)) rfl ?_
  refine ad aa 3 rfl ?_
  refine af ?_
  refine aH aa 2 rfl ?_
  obtain ⟨r1,g1,hr1⟩:∃ (r1:List Entry) (g1:Bool),kh m x1=(r1,g1):=⟨_,_,rfl⟩
  obtain ⟨hp1,hg1⟩:=Prod.mk.inj hr1
  refine aP 3 [2,1] (cO id (bc [2]) (IY m x1 (by exact (show jK _ by assumption).up) (by (have:=uL (show jK _ by assumption);omega)) (by (intro y hy;have:=(show jK _ by assumption).ok y hy;omega)) (by (unfold fC at *;omega)) r1 g1 hr1) IH rfl rfl ⟨⟨_,rfl,.inl ⟨rfl,rfl⟩⟩,⟨_,rfl,.inr (.g ⟨.d _,.d _,trivial⟩)⟩,trivial⟩ ⟨rfl,trivial⟩ rfl rfl rfl rfl rfl rfl ⟨trivial,trivial,trivial⟩ ⟨(fun _ _ _ _=>trivial),trivial⟩ rfl rfl rfl rfl) rfl ?_
  refine ad aa 5 rfl ?_
  refine af ?_
  refine ah ?_
  refine ae aa 2 rfl ?_
  refine an rfl (fun hc10=>?_) (fun hc10=>?_)
  ·
   have hc10':=hc10;try simp only [bA,bW] at hc10'
   refine ae aa 2 rfl ?_
   refine aA ?_
   refine ax ?_
   refine bm ?_
   refine ax ?_
   refine ax ?_
   refine bm ?_
   refine ax ?_
   refine dm (aJ.nil 4 115 2 (by decide) rfl) ?_
   have hX:gy l es=(([]:List Entry),4):=by
     rw [wB h0 (by omega) hnb (by omega),hi1_2,qS hx1,if_neg (by simp_all)]
   rw [hX] at hr;clear hX
   simp only [Prod.mk.injEq] at hr;obtain ⟨rfl,rfl⟩:=hr
   refine aw aa [3] 1 rfl rfl rfl rfl rfl rfl ?_ ?_
   all_goals first|rfl|(simp [aD];done)|(simp [aD];omega)
  have hc10':=hc10;try simp only [bA,bW] at hc10'
  refine aU ?_
  refine ay ?_
  refine ad aa 2 rfl ?_
  refine cf ?_
  refine bq ?_
  refine then_ok ?_
  refine ay ?_
  refine aE (aN rfl rfl rfl (aK (by first|omega|(simp;done)|(simp;omega)))) rfl ?_
  refine ad aa 1 rfl ?_
  refine af ?_
  refine ⟨(p+1,r1),⟨by omega,by rw [<-hp1];exact sO hi1_1 (by omega) (mZ.1 (by rw [hg1];simp_all)),by rw [hi1_2,qS hx1,if_pos (by rw [hg1];simp_all),hp1]⟩,by first|omega|(simp;done)|(simp;omega),aJ.cc (fun k=>if k=0 then 2 else k) (by refine ⟨?_,?_,?_,?_,?_,?_,?_,?_,?_,?_,trivial⟩<;>first|rfl|(simp only [bn];done)|(congr 3;omega)|(congr 4;omega)|(simp only [bo];rfl)) (⟨by first|rfl|(simp only [bn];done)|(congr 3;omega)|(congr 4;omega)|(simp only [bo];rfl),trivial⟩) rfl⟩
 have hc9':=of_decide_eq_false hc9
 refine cp ?_
 refine aR ?_
 refine aR ?_
 refine bM ?_
 refine then_ok ?_
 refine ae aa 3 rfl ?_
 refine aA ?_
 have hX:gy l es=(m,0):=by
   rw [wB h0 (by omega) hnb (by omega),FK hi1_2 (by omega)]
 rw [hX] at hr;clear hX
 simp only [Prod.mk.injEq] at hr;obtain ⟨rfl,rfl⟩:=hr
 refine aw aa [0] 1 rfl rfl rfl rfl rfl rfl ?_ ?_
 all_goals first|rfl|(simp [aD];done)|(simp [aD];omega)


def iK (l:List Entry) (src dst n:Int):List Entry×Int:=if n < 0\/n > 1000000000000 then ([],3) else gy l [⟨src,0 - n⟩,⟨dst,n⟩]
theorem DQ {l es r : List Entry} (h : gy l es = (r, 0)) : (eF l).err = 0 ∧ es.length ≤ 10 ∧ (∀ x ∈ es, ¬ fC x) ∧ eO es = 0 ∧ fJ l es = some r := by
  unfold gy at h
  split at h
  · rename_i h0; injection h with _ h1; exact absurd h1 h0
  rename_i h0
  split at h
  · injection h with _ h1; cases h1
  rename_i h1
  split at h
  · injection h with _ h1; cases h1
  rename_i h2
  split at h
  · injection h with _ h1; cases h1
  rename_i h3
  split at h
  · rename_i r' hr
    injection h with h4 _
    subst h4
    exact ⟨by omega, by omega, fun x hx hb => h2 ⟨x, hx, hb⟩, by omega, hr⟩
  · injection h with _ h1; cases h1
theorem pE {l es r:List Entry} (h:gy l es=(r,0)) (a:Int):(eF r).err=0/\cZ r a=cZ l a+mz a es:=by
  obtain ⟨h1,h2,h3,h4,h5⟩:=DQ h
  obtain ⟨h6,h7⟩:=jY.1 h1
  obtain ⟨h8,h9⟩:=pJ h6 h3 h5
  exact ⟨jY.2 ⟨h8,by omega⟩,sV h6.up h5⟩

theorem yo (l:List Entry) (src dst n:Int) (r:List Entry) (e:Int) (hr:iK l src dst n=(r,e)):Fn Try.prog 98 [(.c (dR l)),(.c (cI src)),(.c (cI dst)),(.c (cI n))] (.t [(.c (.s 0 0 2 r.length)),(.c (cI e))]) [(0,(mG r))]:=by
 refine Fn.mk' 28 [(0,(aC (dR l))),(1,(aI src)),(2,(aI dst)),(3,(aI n))] Try.func98 rfl rfl rfl rfl ?_
 intro W0 T0
 refine dU 0 rfl (fun hlen0=>?_)
 refine ae aa 2 rfl ?_
 refine ah ?_
 refine cA 15 ((decide (n < 0))||(decide (n > 1000000000000))) ?_ ?_
 ·
  refine ay ?_
  refine ad aa 3 rfl ?_
  refine bH (t:=12) rfl (fun hb1=>?_) (fun hb1=>?_)
  ·
   have hb1':=of_decide_eq_true hb1
   refine ad aa 3 rfl ?_
   refine af ?_
   exact aJ.bK 7 rfl rfl (by first|(simp [hb1];done)|(simp_all;done)|(exfalso;simp_all;done)|(simp_all;omega)) rfl
  have hb1':=of_decide_eq_false hb1
  refine ad aa 3 rfl ?_
  refine af ?_
  exact aJ.bK 7 rfl rfl (by first|(simp [hb1];done)|(simp_all;done)|(exfalso;simp_all;done)|(simp_all;omega)) rfl
 refine an rfl (fun hc2=>?_) (fun hc2=>?_)
 ·
  have hc2':=hc2;try simp only [bA,bW] at hc2'
  refine ae aa 2 rfl ?_
  refine aA ?_
  refine ax ?_
  refine dm (aJ.nil 8 115 2 (by decide) rfl) ?_
  have hX:iK l src dst n=(([]:List Entry),3):=by
    unfold iK;rw [if_pos (by omega)]
  rw [hX] at hr;clear hX
  simp only [Prod.mk.injEq] at hr;obtain ⟨rfl,rfl⟩:=hr
  refine aw aa [0] 1 rfl rfl rfl rfl rfl rfl ?_ ?_
  all_goals first|rfl|(simp [aD];done)|(simp [aD];omega)
 have hc2':=hc2;try simp only [bA,bW] at hc2'
 refine aU ?_
 refine aH aa 3 rfl ?_
 refine aE (tm rfl rfl (aK (by first|omega|(simp;done)|(simp;omega)))) rfl ?_
 refine ad aa 4 rfl ?_
 refine aP 1 [0] (ec (ys:=[(0,(.g [(cI src),(cI (0 - n))])),(1,(.g [(cI dst),(cI n)]))]) (rows:=([(⟨src,0 - n⟩:Entry),(⟨dst,n⟩:Entry)]).map eV) 0 kH rfl (by decide) ⟨⟨rfl,rfl⟩,⟨rfl,rfl⟩,trivial⟩ rfl rfl rfl rfl) rfl ?_
 obtain ⟨r0,e0,hr0⟩:∃ (r0:List Entry) (e0:Int),gy l ([(⟨src,0 - n⟩:Entry),(⟨dst,n⟩:Entry)])=(r0,e0):=⟨_,_,rfl⟩
 refine aP 2 [1,0] (gF 1 [0] (yn l ([(⟨src,0 - n⟩:Entry),(⟨dst,n⟩:Entry)]) r0 e0 hr0) IK rfl rfl ⟨⟨_,rfl,.c (.d _)⟩,⟨_,rfl,.c (.s rfl (by decide) (by first|omega|(simp;done)|(simp;omega)))⟩,trivial⟩ ⟨trivial,rfl,trivial⟩ ⟨(Ag _),trivial⟩ rfl rfl rfl rfl) rfl ?_
 refine ad aa 4 rfl ?_
 refine af ?_
 refine aA ?_
 have hX:iK l src dst n=(r0,e0):=by
   unfold iK;rw [if_neg (by omega)];assumption
 rw [hX] at hr;clear hX
 simp only [Prod.mk.injEq] at hr;obtain ⟨rfl,rfl⟩:=hr
 refine aw aa [1] 1 rfl rfl rfl rfl rfl rfl ?_ ?_
 all_goals first|rfl|(simp [aD];done)|(simp [aD];omega)
end Go.Proofs.Ytegepioggeggaaa.Dev
