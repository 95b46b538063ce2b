/- A part of the proof: Book4, PlBook, Com, Book5, Book6, Book7, Book9. No condition. -/
import Derived.Test.YtegepioggeggaaaD05
set_option linter.unusedVariables false
set_option linter.unusedSimpArgs false
set_option maxHeartbeats 2000000
set_option maxRecDepth 100000
namespace Go.Proofs.Ytegepioggeggaaa.Dev
open Go.RowKit


theorem zd (l:List Entry) (t:Int) (fn:FuncId) (bn:List (List D)) (hp:∀ x:Entry,Fn Try.prog fn ([.g [cI x.aW,cI x.sum],.c (cI t)]++bn.map fun r=>GV.c (.q r 0)) (aI (er x.aW t)) []) (hen:bo Try.prog fn) (hu:Up l) (hl:l.length * 16<=140737488355328) (k:Nat) (f:Bool) (hr:(ef l t,fG l t)=(k,f)):Fn Try.prog 119 [.c (cR 2 (l.map eH)),.c (cI t),.c (.d (.f fn bn))] (.t [.c (cI (k:Int)),.c (cB f)]) []:=by
  obtain ⟨h1,h2⟩:=Prod.mk.inj hr
  exact sV l t fn bn hp hen hu hl (k:Int) f (by unfold uh;rw [h1,h2])
def db:List Entry->Int->Int
  |[],_=>0
  |x::l,a=>if x.aW=a then x.sum else db l a
def iv (l:List Entry) (a s:Int):List Entry:=l.take (ef l a)++(if s=0 then [] else [⟨a,s⟩])++l.drop (if fG l a=true then ef l a+1 else ef l a)
def iz (s:Int):Bool:=decide (s>=-1000000000000) && decide (s<=1000000000000)
def jW (l:List Entry) (e:Entry):List Entry×Bool:=(iv l e.aW (db l e.aW+e.sum),iz (db l e.aW+e.sum))
theorem oZ {x:Entry} {l:List Entry} {a:Int} (h:x.aW < a):fG (x::l) a=fG l a:=by
  have h1:ef (x::l) a=ef l a+1:=by simp [ef,h]
  unfold fG;rw [h1,List.getElem?_cons_succ]
theorem mo {x:Entry} {l:List Entry} {a:Int} (h:¬x.aW < a):fG (x::l) a=decide (x.aW=a):=by
  unfold fG ef;rw [if_neg h];rfl
theorem js {a:Int}:∀ {l:List Entry},(∀ x∈l,a < x.aW)->db l a=0
  |[],_=>rfl
  |x::l,h=>by
    unfold db
    rw [if_neg (by have:=h x List.mem_cons_self;omega)]
    exact js fun y hy=>h y (List.mem_cons_of_mem _ hy)
theorem vH {a : Int} : ∀ {l : List Entry} {x : Entry}, Up l → fG l a = true → l[ef l a]? = some x → x.aW = a ∧ db l a = x.sum
  | [], x, _, _, h => by simp at h
  | y :: l, x, hu, hh, h => by
    obtain ⟨h1, h2⟩ := List.pairwise_cons.1 hu
    by_cases hy : y.aW < a
    · rw [oZ hy] at hh
      unfold ef at h; rw [if_pos hy] at h
      obtain ⟨h3, h4⟩ := vH h2 hh (by simpa using h)
      refine ⟨h3, ?_⟩
      unfold db; rw [if_neg (by omega)]; exact h4
    · rw [mo hy] at hh
      unfold ef at h; rw [if_neg hy] at h
      simp at h hh
      subst h
      exact ⟨hh, by unfold db; rw [if_pos hh]⟩
theorem vG {a : Int} : ∀ {l : List Entry}, Up l → fG l a = false → db l a = 0
  | [], _, _ => rfl
  | y :: l, hu, hh => by
    obtain ⟨h1, h2⟩ := List.pairwise_cons.1 hu
    by_cases hy : y.aW < a
    · rw [oZ hy] at hh
      unfold db; rw [if_neg (by omega)]; exact vG h2 hh
    · rw [mo hy] at hh
      simp at hh
      unfold db; rw [if_neg hh]
      exact js fun x hx => by have := h1 x hx; omega
theorem Ds {a : Int} {l : List Entry} (h : fG l a = true) : ef l a < l.length := by
  by_cases hl : ef l a < l.length
  · exact hl
  · unfold fG at h
    rw [List.getElem?_eq_none (by omega)] at h
    cases h
theorem uO {a:Int} (l:List Entry):(l.take (ef l a)).length=ef l a:=by rw [List.length_take];have:=mT a l;omega
theorem Ak {l:List Entry} {k:Nat} {x y:Entry} (hk:k<=l.length) (h:(iR l k x)[k]?=some y):y=x:=by
  have h1:(l.take k).length=k:=by rw [List.length_take];omega
  unfold iR at h
  rw [List.append_assoc,List.getElem?_append_right (by omega),h1,Nat.sub_self] at h
  simp at h
  exact h.symm
theorem Dq {l:List Entry} {k:Nat} {x y:Entry} (hk:k<=l.length):(iR l k x).set k y=l.take k++[y]++l.drop k:=by
  have h1:(l.take k).length=k:=by rw [List.length_take];omega
  unfold iR
  rw [List.append_assoc,List.set_append_right _ _ (by omega),h1,Nat.sub_self]
  simp
theorem Dr {l:List Entry} {k:Nat} {y:Entry} (hk:k < l.length):l.set k y=l.take k++[y]++l.drop (k+1):=by
  rw [List.set_eq_take_append_cons_drop,if_pos hk];simp
theorem AF {A B:List Entry} {y:Entry} {k:Nat} (h:A.length=k):ld (A++[y]++B) k (k+1)=A++B:=by
  subst h
  unfold ld
  simp
theorem nD {l:List Entry} {e x y:Entry} {k:Nat} (hu:Up l) (hk:ef l e.aW=k) (hh:fG l e.aW=true) (hx:l[k]?=some x) (hy:y=⟨x.aW,x.sum+e.sum⟩):
    jW l e=(if x.sum+e.sum=0 then ld (l.set k y) k (k+1) else l.set k y,iz (x.sum+e.sum)):=by
  subst hk hy
  obtain ⟨h1,h2⟩:=vH hu hh hx
  have hlt:=(List.getElem?_eq_some_iff.1 hx).1
  unfold jW iv
  rw [h2,if_pos hh,Dr hlt,h1]
  split
  ·rw [AF (uO l)];simp
  ·rfl
theorem nC {l:List Entry} {e x y:Entry} {k:Nat} {r:List Entry} (hu:Up l) (hk:ef l e.aW=k) (hh:fG l e.aW=false) (hr:iR l k ⟨e.aW,0⟩=r) (hx:r[k]?=some x) (hy:y=⟨x.aW,x.sum+e.sum⟩):
    jW l e=(if x.sum+e.sum=0 then ld (r.set k y) k (k+1) else r.set k y,iz (x.sum+e.sum)):=by
  subst hk hr
  have h0:=mT e.aW l
  have h1:=Ak h0 hx
  subst h1 hy
  have h2:=vG hu hh
  unfold jW iv
  rw [h2,Dq h0,if_neg (show ¬fG l e.aW=true by rw [hh];exact Bool.false_ne_true)]
  split
  ·rw [AF (uO l)];simp
  ·rfl
theorem zJ {l:List Entry} {k:Nat} {y z:Entry} (h:(l.set k y)[k]?=some z):z=y:=by
  have hlt:=(List.getElem?_eq_some_iff.1 h).1
  rw [List.length_set] at hlt
  rw [List.getElem?_set_self hlt] at h
  exact (Option.some.inj h).symm
theorem yI {l:List Entry} {a:Int} (h:∀ x∈l,-1000000000000<=x.sum/\x.sum<=1000000000000):-1000000000000<=db l a/\db l a<=1000000000000:=by
  induction l with
  |nil=>unfold db;omega
  |cons x l ih=>
    unfold db
    split
    ·exact h x List.mem_cons_self
    ·exact ih fun y hy=>h y (List.mem_cons_of_mem _ hy)

theorem Gq (l:List Entry) (e:Entry) (hu:Up l) (hl:(l.length+1) * 16<=140737488355328) (hb:∀ x∈l,-1000000000000<=x.sum/\x.sum<=1000000000000) (he:-1000000000000<=e.sum/\e.sum<=1000000000000) (r:List Entry) (g:Bool) (hr:jW l e=(r,g)):cM Try.prog 116 [(.c (.s 0 0 2 l.length)),(.g [(cI e.aW),(cI e.sum)])] [(0,(lU l))] [] (.t [(.c (.s 0 0 2 r.length)),(.c (cB g))]) [(0,(lU r))]:=by
 refine cM.mk 62 [(0,(aC (.s 0 0 2 l.length))),(1,(aG [(cI e.aW),(cI e.sum)]))] 1 Try.func116 rfl rfl rfl rfl rfl rfl rfl rfl rfl ?_
 intro W0 F0 T0 pg
 refine gD 0 rfl (fun hlen0=>?_)
 refine ae aa 3 rfl ?_
 refine aH aa 3 rfl ?_
 obtain ⟨k0,f0,hr0⟩:∃ (k0:Nat) (f0:Bool),(ef l e.aW,fG l e.aW)=(k0,f0):=⟨_,_,rfl⟩
 obtain ⟨hk0,hf0⟩:=Prod.mk.inj hr0
 have hkl:=mT e.aW l
 rw [hk0] at hkl
 refine aT 2 [1,0] (ga 2 [0] (zd l e.aW 120 ([]) (fun x=>Fg x e.aW) FW (by first|assumption) (by omega) k0 f0 hr0) FX rfl rfl ⟨⟨_,rfl,.c (.s rfl (by decide) (by first|omega|(simp;done)|(simp;omega)))⟩,⟨_,rfl,.c (.d _)⟩,⟨_,rfl,.c (.fn trivial)⟩,trivial⟩ ⟨rfl,rfl,trivial⟩ trivial rfl rfl rfl rfl) rfl ?_
 refine ad aa 5 rfl ?_
 refine af ?_
 refine ag ?_
 refine ae aa 2 rfl ?_
 refine aj rfl (fun hc1=>?_) (fun hc1=>?_)
 ·
  have hc1':=hc1;try simp only [bx,bV] at hc1'
  refine aw ?_
  refine ad aa 5 rfl ?_
  refine aT 3 [2,1,0] (ec (ys:=[(0,(.g [(cI e.aW),(cI 0)]))]) (rows:=([(⟨e.aW,0⟩:Entry)]).map eH) 2 km rfl (by decide) ⟨⟨rfl,rfl⟩,trivial⟩ rfl rfl rfl rfl) rfl ?_
  obtain ⟨r1,hr1⟩:∃ (r1:List Entry),iR l k0 (⟨e.aW,0⟩:Entry)=r1:=⟨_,rfl⟩
  have hl1:r1.length=l.length+1:=by rw [<-hr1];exact BK hkl
  refine aT 4 [3,1] (cO (bh [0,2]) (bh [3,2]) (sW l k0 (⟨e.aW,0⟩:Entry) (by first|omega|(simp;done)|(simp;omega)) (by first|omega|(simp;done)|(simp;omega)) r1 hr1) FV rfl rfl ⟨⟨_,rfl,.inl ⟨rfl,rfl⟩⟩,⟨_,rfl,.inr (.c (.d _))⟩,⟨_,rfl,.inl ⟨rfl,rfl⟩⟩,trivial⟩ ⟨rfl,rfl,trivial⟩ rfl rfl rfl rfl rfl rfl trivial ⟨(fun _ _ _ _=>trivial),trivial⟩ rfl rfl rfl rfl) rfl ?_
  refine ad aa 1 rfl ?_
  refine af ?_
  refine ag ?_
  obtain ⟨x1,hx1⟩:=cg (xs:=r1) (i:=k0) (by first|omega|(simp;done)|(simp;omega))
  have hx1q:=Ak hkl (show (iR l k0 ⟨e.aW,0⟩)[k0]?=some x1 by rw [hr1];exact hx1)
  have hx1b:x1.sum=0:=by rw [hx1q]
  refine aX [0,3,6] [3,1] mixed rfl rfl ?_
  refine ay (kn:=[]) aa 2 rfl trivial ?_
  refine aP (n':=4) [25,26] [3] rfl rfl (.inl ⟨(ah.plain rfl),aJ.cast (bz (i:=k0) rfl rfl rfl Try.underlying44 dZ (by first|omega|(simp;done)|(simp;omega)) (by first|omega|(simp;done)|(simp;omega))) rfl⟩) rfl ?_
  refine ay (kn:=[]) aa 1 rfl trivial ?_
  refine aP (n':=4) [28] [3] rfl rfl (.inl ⟨(ah.plain rfl),aJ.cast (eQ rfl rfl rfl Try.underlying3 rfl (bj hx1) rfl) rfl⟩) rfl ?_
  refine ay (kn:=[]) aa 2 rfl trivial ?_
  refine aP (n':=4) [29,31] [] rfl rfl (.inl ⟨(ah.plain rfl),aJ.cast (aK rfl rfl rfl (aL (by first|omega|(simp;done)|(simp;omega)))) rfl⟩) rfl ?_
  refine aP (n':=4) [25,26] [3] rfl rfl (.inl ⟨(ah.plain rfl),aJ.cast (bz (i:=k0) rfl rfl rfl Try.underlying44 dZ (by first|omega|(simp;done)|(simp;omega)) (by first|omega|(simp;done)|(simp;omega))) rfl⟩) rfl ?_
  refine ay (kn:=[]) aa 1 rfl trivial ?_
  refine bw [3,1] rfl rfl rfl rfl (by kernel_rfl) ?_
  refine gw [3,1] (dS (ds:=[(dI (x1.sum+e.sum))]) rfl rfl rfl rfl rfl fC rfl (Nat.le_of_ble_eq_true rfl) (bj hx1) rfl (eU (x':=(⟨x1.aW,x1.sum+e.sum⟩:Entry)) rfl)) rfl ?_
  refine af ?_
  refine aH aa 2 rfl ?_
  refine az (bz (i:=k0) rfl rfl rfl Try.underlying44 dZ (by first|omega|(simp;done)|(simp;omega)) (by first|omega|(simp;done)|(simp;omega))) rfl ?_
  refine ad aa 1 rfl ?_
  obtain ⟨x2,hx2⟩:=cg (xs:=((r1).set k0 (⟨x1.aW,x1.sum+e.sum⟩:Entry))) (i:=k0) (by first|omega|(simp;done)|(simp;omega))
  have hx2e:=zJ hx2
  have hx2s:x2.sum=x1.sum+e.sum:=by rw [hx2e]
  refine az (eQ rfl rfl rfl Try.underlying3 rfl (bj hx2) rfl) rfl ?_
  refine ad aa 2 rfl ?_
  refine bK (t:=41) rfl (fun hb2=>?_) (fun hb2=>?_)
  ·
   have hb2':=of_decide_eq_true hb2
   refine ad aa 2 rfl ?_
   refine cD (ah.yes rfl rfl rfl) (bz (i:=k0) rfl rfl rfl Try.underlying44 dZ (by first|omega|(simp;done)|(simp;omega)) (by first|omega|(simp;done)|(simp;omega))) rfl rfl ?_
   refine ad aa 1 rfl ?_
   refine cD (ah.yes rfl rfl rfl) (eQ rfl rfl rfl Try.underlying3 rfl (bj hx2) rfl) rfl rfl ?_
   refine ad aa 3 rfl ?_
   refine af ?_
   refine ag ?_
   refine aH aa 2 rfl ?_
   refine az (bz (i:=k0) rfl rfl rfl Try.underlying44 dZ (by first|omega|(simp;done)|(simp;omega)) (by first|omega|(simp;done)|(simp;omega))) rfl ?_
   refine ad aa 1 rfl ?_
   refine az (eQ rfl rfl rfl Try.underlying3 rfl (bj hx2) rfl) rfl ?_
   refine ad aa 1 rfl ?_
   refine af ?_
   refine aj rfl (fun hc3=>?_) (fun hc3=>?_)
   ·
    have hc3':=of_decide_eq_true hc3
    refine ik (st':=⟨[(0,(aC (.s 3 0 2 (((r1).set k0 (⟨x1.aW,x1.sum+e.sum⟩:Entry)).length)))),(3,(aC (.p 1 0 0 0))),(6,(aI (↑k0:Int))),(32,(aI (x1.sum+e.sum))),(34,(aC (.p 3 k0 2 1))),(35,(aC (.s 3 0 2 r1.length))),(36,(aI (↑k0:Int))),(37,(aC (.p 3 k0 2 0))),(38,(aC (.p 3 k0 2 1))),(39,(aI x2.sum)),(40,(aB (decide (x2.sum>=(-1000000000000))))),(41,(aB true)),(42,(aC (.s 3 0 2 r1.length))),(43,(aI (↑k0:Int))),(44,(aC (.p 3 k0 2 0))),(45,(aC (.p 3 k0 2 1))),(46,(aI x2.sum)),(47,(aB (decide (x2.sum<=1000000000000)))),(48,(aB (decide (x2.sum<=1000000000000)))),(8,(aB (decide (x2.sum<=1000000000000)))),(49,(aC (.s 3 0 2 r1.length))),(50,(aI (↑k0:Int))),(51,(aC (.p 3 k0 2 0))),(52,(aC (.p 3 k0 2 1))),(53,(aI x2.sum)),(54,(aB (decide (x2.sum=0))))],[(3,(lU ((r1).set k0 (⟨x1.aW,x1.sum+e.sum⟩:Entry)))),(1,(.box 115 [(cI e.aW),(cI e.sum)]))],4⟩) (aF.bL id (by refine ⟨?_,?_,?_,?_,?_,?_,?_,?_,?_,?_,?_,?_,?_,?_,?_,?_,?_,?_,?_,?_,?_,?_,?_,?_,?_,?_,trivial⟩<;>first|rfl|(simp only [ba];done)|(congr 3;omega)|(congr 4;omega)|(simp only [bb];rfl)) (by refine ⟨?_,?_,trivial⟩<;>first|rfl|(simp only [ba];done)|(congr 3;omega)|(congr 4;omega)|(simp only [bb];rfl)) rfl) ?_
    refine aw ?_
    refine ad aa 3 rfl ?_
    refine az (aK rfl rfl rfl (aL (by first|omega|(simp;done)|(simp;omega)))) rfl ?_
    obtain ⟨r2,hr2⟩:∃ (r2:List Entry),ld ((r1).set k0 (⟨x1.aW,x1.sum+e.sum⟩:Entry)) k0 ((k0)+1)=r2:=⟨_,rfl⟩
    refine aT 5 [4,1] (cO (bh [3]) (bh [4]) (jf ((r1).set k0 (⟨x1.aW,x1.sum+e.sum⟩:Entry)) k0 ((k0)+1) (by first|omega|(simp;done)|(simp;omega)) (by first|omega|(simp;done)|(simp;omega)) r2 hr2) uJ rfl rfl ⟨⟨_,rfl,.inl ⟨rfl,rfl⟩⟩,⟨_,rfl,.inr (.c (.d _))⟩,⟨_,rfl,.inr (.c (.d _))⟩,trivial⟩ ⟨rfl,trivial⟩ rfl rfl rfl rfl rfl rfl trivial ⟨(fun _ _ _ _=>trivial),trivial⟩ rfl rfl rfl rfl) rfl ?_
    refine ad aa 1 rfl ?_
    refine af ?_
    refine ae aa 4 rfl ?_
    refine aA ?_
    have hX:jW l e=(r2,decide (x2.sum<=1000000000000)):=by
      rw [nC hu hk0 (show fG l e.aW=false by simp_all) hr1 hx1 rfl];unfold iz;rw [if_pos (by omega),hr2];refine Prod.ext rfl ?_;first|(simp;omega)|(simp_all;done)|(simp_all;omega)
    rw [hX] at hr;clear hX
    simp only [Prod.mk.injEq] at hr;obtain ⟨rfl,rfl⟩:=hr
    refine aq aa [4] 1 rfl rfl rfl rfl rfl rfl ?_ ?_
    all_goals first|rfl|(simp [aD];done)|(simp [aD];omega)
   have hc3':=of_decide_eq_false hc3
   refine aQ ?_
   refine ae aa 4 rfl ?_
   refine aA ?_
   have hX:jW l e=((r1).set k0 (⟨x1.aW,x1.sum+e.sum⟩:Entry),decide (x2.sum<=1000000000000)):=by
     rw [nC hu hk0 (show fG l e.aW=false by simp_all) hr1 hx1 rfl];unfold iz;rw [if_neg (by omega)];refine Prod.ext rfl ?_;first|(simp;omega)|(simp_all;done)|(simp_all;omega)
   rw [hX] at hr;clear hX
   simp only [Prod.mk.injEq] at hr;obtain ⟨rfl,rfl⟩:=hr
   refine aq aa [3] 1 rfl rfl rfl rfl rfl rfl ?_ ?_
   all_goals first|rfl|(simp [aD];done)|(simp [aD];omega)
  have hb2':=of_decide_eq_false hb2
  refine ad aa 8 rfl ?_
  refine af ?_
  refine ag ?_
  refine aH aa 2 rfl ?_
  refine az (bz (i:=k0) rfl rfl rfl Try.underlying44 dZ (by first|omega|(simp;done)|(simp;omega)) (by first|omega|(simp;done)|(simp;omega))) rfl ?_
  refine ad aa 1 rfl ?_
  refine az (eQ rfl rfl rfl Try.underlying3 rfl (bj hx2) rfl) rfl ?_
  refine ad aa 1 rfl ?_
  refine af ?_
  refine aj rfl (fun hc4=>?_) (fun hc4=>?_)
  ·
   have hc4':=of_decide_eq_true hc4
   refine ik (st':=⟨[(0,(aC (.s 3 0 2 (((r1).set k0 (⟨x1.aW,x1.sum+e.sum⟩:Entry)).length)))),(3,(aC (.p 1 0 0 0))),(6,(aI (↑k0:Int))),(32,(aI (x1.sum+e.sum))),(34,(aC (.p 3 k0 2 1))),(35,(aC (.s 3 0 2 r1.length))),(36,(aI (↑k0:Int))),(37,(aC (.p 3 k0 2 0))),(38,(aC (.p 3 k0 2 1))),(39,(aI x2.sum)),(40,(aB (decide (x2.sum>=(-1000000000000))))),(41,(aB false)),(48,(aB false)),(8,(aB false)),(49,(aC (.s 3 0 2 r1.length))),(50,(aI (↑k0:Int))),(51,(aC (.p 3 k0 2 0))),(52,(aC (.p 3 k0 2 1))),(53,(aI x2.sum)),(54,(aB (decide (x2.sum=0))))],[(3,(lU ((r1).set k0 (⟨x1.aW,x1.sum+e.sum⟩:Entry)))),(1,(.box 115 [(cI e.aW),(cI e.sum)]))],4⟩) (aF.bL id (by refine ⟨?_,?_,?_,?_,?_,?_,?_,?_,?_,?_,?_,?_,?_,?_,?_,?_,?_,?_,?_,?_,trivial⟩<;>first|rfl|(simp only [ba];done)|(congr 3;omega)|(congr 4;omega)|(simp only [bb];rfl)) (by refine ⟨?_,?_,trivial⟩<;>first|rfl|(simp only [ba];done)|(congr 3;omega)|(congr 4;omega)|(simp only [bb];rfl)) rfl) ?_
   refine aw ?_
   refine ad aa 3 rfl ?_
   refine az (aK rfl rfl rfl (aL (by first|omega|(simp;done)|(simp;omega)))) rfl ?_
   obtain ⟨r3,hr3⟩:∃ (r3:List Entry),ld ((r1).set k0 (⟨x1.aW,x1.sum+e.sum⟩:Entry)) k0 ((k0)+1)=r3:=⟨_,rfl⟩
   refine aT 5 [4,1] (cO (bh [3]) (bh [4]) (jf ((r1).set k0 (⟨x1.aW,x1.sum+e.sum⟩:Entry)) k0 ((k0)+1) (by first|omega|(simp;done)|(simp;omega)) (by first|omega|(simp;done)|(simp;omega)) r3 hr3) uJ rfl rfl ⟨⟨_,rfl,.inl ⟨rfl,rfl⟩⟩,⟨_,rfl,.inr (.c (.d _))⟩,⟨_,rfl,.inr (.c (.d _))⟩,trivial⟩ ⟨rfl,trivial⟩ rfl rfl rfl rfl rfl rfl trivial ⟨(fun _ _ _ _=>trivial),trivial⟩ rfl rfl rfl rfl) rfl ?_
   refine ad aa 1 rfl ?_
   refine af ?_
   refine ae aa 4 rfl ?_
   refine aA ?_
   have hX:jW l e=(r3,false):=by
     rw [nC hu hk0 (show fG l e.aW=false by simp_all) hr1 hx1 rfl];unfold iz;rw [if_pos (by omega),hr3];refine Prod.ext rfl ?_;first|(simp;omega)|(simp_all;done)|(simp_all;omega)
   rw [hX] at hr;clear hX
   simp only [Prod.mk.injEq] at hr;obtain ⟨rfl,rfl⟩:=hr
   refine aq aa [4] 1 rfl rfl rfl rfl rfl rfl ?_ ?_
   all_goals first|rfl|(simp [aD];done)|(simp [aD];omega)
  have hc4':=of_decide_eq_false hc4
  refine aQ ?_
  refine ae aa 4 rfl ?_
  refine aA ?_
  have hX:jW l e=((r1).set k0 (⟨x1.aW,x1.sum+e.sum⟩:Entry),false):=by
    rw [nC hu hk0 (show fG l e.aW=false by simp_all) hr1 hx1 rfl];unfold iz;rw [if_neg (by omega)];refine Prod.ext rfl ?_;first|(simp;omega)|(simp_all;done)|(simp_all;omega)
  rw [hX] at hr;clear hX
  simp only [Prod.mk.injEq] at hr;obtain ⟨rfl,rfl⟩:=hr
  refine aq aa [3] 1 rfl rfl rfl rfl rfl rfl ?_ ?_
  all_goals first|rfl|(simp [aD];done)|(simp [aD];omega)
 have hc1':=hc1;try simp only [bx,bV] at hc1'
 refine aQ ?_
 have hk0lt:k0 < l.length:=by have:=Ds (l:=l) (a:=e.aW) (by simp_all);omega
 refine ag ?_
 obtain ⟨x1,hx1⟩:=cg (xs:=l) (i:=k0) (by first|omega|(simp;done)|(simp;omega))
 have hx1b:=hb x1 (List.mem_of_getElem? hx1)
 refine aX [0,3,6] [1,0] mixed rfl rfl ?_
 refine ay (kn:=[]) aa 2 rfl trivial ?_
 refine aP (n':=2) [25,26] [0] rfl rfl (.inl ⟨(ah.plain rfl),aJ.cast (bz (i:=k0) rfl rfl rfl Try.underlying44 dZ (by first|omega|(simp;done)|(simp;omega)) (by first|omega|(simp;done)|(simp;omega))) rfl⟩) rfl ?_
 refine ay (kn:=[]) aa 1 rfl trivial ?_
 refine aP (n':=2) [28] [0] rfl rfl (.inl ⟨(ah.plain rfl),aJ.cast (eQ rfl rfl rfl Try.underlying3 rfl (bj hx1) rfl) rfl⟩) rfl ?_
 refine ay (kn:=[]) aa 2 rfl trivial ?_
 refine aP (n':=2) [29,31] [] rfl rfl (.inl ⟨(ah.plain rfl),aJ.cast (aK rfl rfl rfl (aL (by first|omega|(simp;done)|(simp;omega)))) rfl⟩) rfl ?_
 refine aP (n':=2) [25,26] [0] rfl rfl (.inl ⟨(ah.plain rfl),aJ.cast (bz (i:=k0) rfl rfl rfl Try.underlying44 dZ (by first|omega|(simp;done)|(simp;omega)) (by first|omega|(simp;done)|(simp;omega))) rfl⟩) rfl ?_
 refine ay (kn:=[]) aa 1 rfl trivial ?_
 refine bw [1,0] rfl rfl rfl rfl (by kernel_rfl) ?_
 refine gw [1,0] (dS (ds:=[(dI (x1.sum+e.sum))]) rfl rfl rfl rfl rfl fC rfl (Nat.le_of_ble_eq_true rfl) (bj hx1) rfl (eU (x':=(⟨x1.aW,x1.sum+e.sum⟩:Entry)) rfl)) rfl ?_
 refine af ?_
 refine aH aa 2 rfl ?_
 refine az (bz (i:=k0) rfl rfl rfl Try.underlying44 dZ (by first|omega|(simp;done)|(simp;omega)) (by first|omega|(simp;done)|(simp;omega))) rfl ?_
 refine ad aa 1 rfl ?_
 obtain ⟨x2,hx2⟩:=cg (xs:=((l).set k0 (⟨x1.aW,x1.sum+e.sum⟩:Entry))) (i:=k0) (by first|omega|(simp;done)|(simp;omega))
 have hx2e:=zJ hx2
 have hx2s:x2.sum=x1.sum+e.sum:=by rw [hx2e]
 refine az (eQ rfl rfl rfl Try.underlying3 rfl (bj hx2) rfl) rfl ?_
 refine ad aa 2 rfl ?_
 refine bK (t:=41) rfl (fun hb5=>?_) (fun hb5=>?_)
 ·
  have hb5':=of_decide_eq_true hb5
  refine ad aa 2 rfl ?_
  refine cD (ah.yes rfl rfl rfl) (bz (i:=k0) rfl rfl rfl Try.underlying44 dZ (by first|omega|(simp;done)|(simp;omega)) (by first|omega|(simp;done)|(simp;omega))) rfl rfl ?_
  refine ad aa 1 rfl ?_
  refine cD (ah.yes rfl rfl rfl) (eQ rfl rfl rfl Try.underlying3 rfl (bj hx2) rfl) rfl rfl ?_
  refine ad aa 3 rfl ?_
  refine af ?_
  refine ag ?_
  refine aH aa 2 rfl ?_
  refine az (bz (i:=k0) rfl rfl rfl Try.underlying44 dZ (by first|omega|(simp;done)|(simp;omega)) (by first|omega|(simp;done)|(simp;omega))) rfl ?_
  refine ad aa 1 rfl ?_
  refine az (eQ rfl rfl rfl Try.underlying3 rfl (bj hx2) rfl) rfl ?_
  refine ad aa 1 rfl ?_
  refine af ?_
  refine aj rfl (fun hc6=>?_) (fun hc6=>?_)
  ·
   have hc6':=of_decide_eq_true hc6
   refine ik (st':=⟨[(0,(aC (.s 0 0 2 (((l).set k0 (⟨x1.aW,x1.sum+e.sum⟩:Entry)).length)))),(3,(aC (.p 1 0 0 0))),(6,(aI (↑k0:Int))),(32,(aI (x1.sum+e.sum))),(34,(aC (.p 0 k0 2 1))),(35,(aC (.s 0 0 2 l.length))),(36,(aI (↑k0:Int))),(37,(aC (.p 0 k0 2 0))),(38,(aC (.p 0 k0 2 1))),(39,(aI x2.sum)),(40,(aB (decide (x2.sum>=(-1000000000000))))),(41,(aB true)),(42,(aC (.s 0 0 2 l.length))),(43,(aI (↑k0:Int))),(44,(aC (.p 0 k0 2 0))),(45,(aC (.p 0 k0 2 1))),(46,(aI x2.sum)),(47,(aB (decide (x2.sum<=1000000000000)))),(48,(aB (decide (x2.sum<=1000000000000)))),(8,(aB (decide (x2.sum<=1000000000000)))),(49,(aC (.s 0 0 2 l.length))),(50,(aI (↑k0:Int))),(51,(aC (.p 0 k0 2 0))),(52,(aC (.p 0 k0 2 1))),(53,(aI x2.sum)),(54,(aB (decide (x2.sum=0))))],[(1,(.box 115 [(cI e.aW),(cI e.sum)])),(0,(lU ((l).set k0 (⟨x1.aW,x1.sum+e.sum⟩:Entry))))],2⟩) (aF.bL id (by refine ⟨?_,?_,?_,?_,?_,?_,?_,?_,?_,?_,?_,?_,?_,?_,?_,?_,?_,?_,?_,?_,?_,?_,?_,?_,?_,?_,trivial⟩<;>first|rfl|(simp only [ba];done)|(congr 3;omega)|(congr 4;omega)|(simp only [bb];rfl)) (by refine ⟨?_,?_,trivial⟩<;>first|rfl|(simp only [ba];done)|(congr 3;omega)|(congr 4;omega)|(simp only [bb];rfl)) rfl) ?_
   refine aw ?_
   refine ad aa 3 rfl ?_
   refine az (aK rfl rfl rfl (aL (by first|omega|(simp;done)|(simp;omega)))) rfl ?_
   obtain ⟨r4,hr4⟩:∃ (r4:List Entry),ld ((l).set k0 (⟨x1.aW,x1.sum+e.sum⟩:Entry)) k0 ((k0)+1)=r4:=⟨_,rfl⟩
   refine aT 3 [2,1] (cO id (bh [2]) (jf ((l).set k0 (⟨x1.aW,x1.sum+e.sum⟩:Entry)) k0 ((k0)+1) (by first|omega|(simp;done)|(simp;omega)) (by first|omega|(simp;done)|(simp;omega)) r4 hr4) uJ rfl rfl ⟨⟨_,rfl,.inl ⟨rfl,rfl⟩⟩,⟨_,rfl,.inr (.c (.d _))⟩,⟨_,rfl,.inr (.c (.d _))⟩,trivial⟩ ⟨rfl,trivial⟩ rfl rfl rfl rfl rfl rfl trivial ⟨(fun _ _ _ _=>trivial),trivial⟩ rfl rfl rfl rfl) rfl ?_
   refine ad aa 1 rfl ?_
   refine af ?_
   refine ae aa 4 rfl ?_
   refine aA ?_
   have hX:jW l e=(r4,decide (x2.sum<=1000000000000)):=by
     rw [nD hu hk0 (show fG l e.aW=true by simp_all) hx1 rfl];unfold iz;rw [if_pos (by omega),hr4];refine Prod.ext rfl ?_;first|(simp;omega)|(simp_all;done)|(simp_all;omega)
   rw [hX] at hr;clear hX
   simp only [Prod.mk.injEq] at hr;obtain ⟨rfl,rfl⟩:=hr
   refine aq aa [2] 1 rfl rfl rfl rfl rfl rfl ?_ ?_
   all_goals first|rfl|(simp [aD];done)|(simp [aD];omega)
  have hc6':=of_decide_eq_false hc6
  refine aQ ?_
  refine ae aa 4 rfl ?_
  refine aA ?_
  have hX:jW l e=((l).set k0 (⟨x1.aW,x1.sum+e.sum⟩:Entry),decide (x2.sum<=1000000000000)):=by
    rw [nD hu hk0 (show fG l e.aW=true by simp_all) hx1 rfl];unfold iz;rw [if_neg (by omega)];refine Prod.ext rfl ?_;first|(simp;omega)|(simp_all;done)|(simp_all;omega)
  rw [hX] at hr;clear hX
  simp only [Prod.mk.injEq] at hr;obtain ⟨rfl,rfl⟩:=hr
  refine aq aa [0] 1 rfl rfl rfl rfl rfl rfl ?_ ?_
  all_goals first|rfl|(simp [aD];done)|(simp [aD];omega)
 have hb5':=of_decide_eq_false hb5
 refine ad aa 8 rfl ?_
 refine af ?_
 refine ag ?_
 refine aH aa 2 rfl ?_
 refine az (bz (i:=k0) rfl rfl rfl Try.underlying44 dZ (by first|omega|(simp;done)|(simp;omega)) (by first|omega|(simp;done)|(simp;omega))) rfl ?_
 refine ad aa 1 rfl ?_
 refine az (eQ rfl rfl rfl Try.underlying3 rfl (bj hx2) rfl) rfl ?_
 refine ad aa 1 rfl ?_
 refine af ?_
 refine aj rfl (fun hc7=>?_) (fun hc7=>?_)
 ·
  have hc7':=of_decide_eq_true hc7
  refine ik (st':=⟨[(0,(aC (.s 0 0 2 (((l).set k0 (⟨x1.aW,x1.sum+e.sum⟩:Entry)).length)))),(3,(aC (.p 1 0 0 0))),(6,(aI (↑k0:Int))),(32,(aI (x1.sum+e.sum))),(34,(aC (.p 0 k0 2 1))),(35,(aC (.s 0 0 2 l.length))),(36,(aI (↑k0:Int))),(37,(aC (.p 0 k0 2 0))),(38,(aC (.p 0 k0 2 1))),(39,(aI x2.sum)),(40,(aB (decide (x2.sum>=(-1000000000000))))),(41,(aB false)),(48,(aB false)),(8,(aB false)),(49,(aC (.s 0 0 2 l.length))),(50,(aI (↑k0:Int))),(51,(aC (.p 0 k0 2 0))),(52,(aC (.p 0 k0 2 1))),(53,(aI x2.sum)),(54,(aB (decide (x2.sum=0))))],[(1,(.box 115 [(cI e.aW),(cI e.sum)])),(0,(lU ((l).set k0 (⟨x1.aW,x1.sum+e.sum⟩:Entry))))],2⟩) (aF.bL id (by refine ⟨?_,?_,?_,?_,?_,?_,?_,?_,?_,?_,?_,?_,?_,?_,?_,?_,?_,?_,?_,?_,trivial⟩<;>first|rfl|(simp only [ba];done)|(congr 3;omega)|(congr 4;omega)|(simp only [bb];rfl)) (by refine ⟨?_,?_,trivial⟩<;>first|rfl|(simp only [ba];done)|(congr 3;omega)|(congr 4;omega)|(simp only [bb];rfl)) rfl) ?_
  refine aw ?_
  refine ad aa 3 rfl ?_
  refine az (aK rfl rfl rfl (aL (by first|omega|(simp;done)|(simp;omega)))) rfl ?_
  obtain ⟨r5,hr5⟩:∃ (r5:List Entry),ld ((l).set k0 (⟨x1.aW,x1.sum+e.sum⟩:Entry)) k0 ((k0)+1)=r5:=⟨_,rfl⟩
  refine aT 3 [2,1] (cO id (bh [2]) (jf ((l).set k0 (⟨x1.aW,x1.sum+e.sum⟩:Entry)) k0 ((k0)+1) (by first|omega|(simp;done)|(simp;omega)) (by first|omega|(simp;done)|(simp;omega)) r5 hr5) uJ rfl rfl ⟨⟨_,rfl,.inl ⟨rfl,rfl⟩⟩,⟨_,rfl,.inr (.c (.d _))⟩,⟨_,rfl,.inr (.c (.d _))⟩,trivial⟩ ⟨rfl,trivial⟩ rfl rfl rfl rfl rfl rfl trivial ⟨(fun _ _ _ _=>trivial),trivial⟩ rfl rfl rfl rfl) rfl ?_
  refine ad aa 1 rfl ?_
  refine af ?_
  refine ae aa 4 rfl ?_
  refine aA ?_
  have hX:jW l e=(r5,false):=by
    rw [nD hu hk0 (show fG l e.aW=true by simp_all) hx1 rfl];unfold iz;rw [if_pos (by omega),hr5];refine Prod.ext rfl ?_;first|(simp;omega)|(simp_all;done)|(simp_all;omega)
  rw [hX] at hr;clear hX
  simp only [Prod.mk.injEq] at hr;obtain ⟨rfl,rfl⟩:=hr
  refine aq aa [2] 1 rfl rfl rfl rfl rfl rfl ?_ ?_
  all_goals first|rfl|(simp [aD];done)|(simp [aD];omega)
 have hc7':=of_decide_eq_false hc7
 refine aQ ?_
 refine ae aa 4 rfl ?_
 refine aA ?_
 have hX:jW l e=((l).set k0 (⟨x1.aW,x1.sum+e.sum⟩:Entry),false):=by
   rw [nD hu hk0 (show fG l e.aW=true by simp_all) hx1 rfl];unfold iz;rw [if_neg (by omega)];refine Prod.ext rfl ?_;first|(simp;omega)|(simp_all;done)|(simp_all;omega)
 rw [hX] at hr;clear hX
 simp only [Prod.mk.injEq] at hr;obtain ⟨rfl,rfl⟩:=hr
 refine aq aa [0] 1 rfl rfl rfl rfl rfl rfl ?_ ?_
 all_goals first|rfl|(simp [aD];done)|(simp [aD];omega)
def fu (x:Entry):Prop:=x.aW < 0\/x.aW > 57\/x.sum < -1000000000000\/x.sum > 1000000000000
instance (x:Entry):Decidable (fu x):=by unfold fu;infer_instance
def lg (l:List Entry) (q:Nat):Int:=
 match l[q]? with
 |some x=>if fu x then 3 else if (0 < q/\(l.getD (q - 1) ⟨0,0⟩).aW>=x.aW)\/x.sum=0 then 2 else 0
 |none=>0
def eD:List Entry->Int
 |[]=>0
 |x::l=>x.sum+eD l
def ek (l:List Entry):dc:=if (scan (lg l) 0 l.length).1≠0 then ⟨(scan (lg l) 0 l.length).1,(scan (lg l) 0 l.length).2⟩ else if eD l≠0 then ⟨8,0⟩ else ⟨0,0⟩
theorem zF (x:Entry) (l:List Entry):eD (x::l)=x.sum+eD l:=rfl
theorem mB (l r:List Entry):eD (l++r)=eD l+eD r:=by
 induction l with
 |nil=>simp [eD]
 |cons x l ih=>simp only [List.cons_append,eD,ih];omega
theorem tg {α:Type} {l:List α} {q:Nat} {x:α} (h:l[q]?=some x):l.take (q+1)=l.take q++[x]:=by
 obtain ⟨hlt,rfl⟩:=List.getElem?_eq_some_iff.1 h
 rw [List.take_add_one,List.getElem?_eq_getElem hlt];rfl
theorem jK {l:List Entry} {q:Nat} {x:Entry} (h:l[q]?=some x):eD (l.take (q+1))=eD (l.take q)+x.sum:=by
 rw [tg h,mB];simp [eD]
def iL (l:List Entry) (q:Nat):Int:=if q=0 then -1 else (l.getD (q - 1) ⟨0,0⟩).aW
theorem ka {l:List Entry} {q:Nat} {x:Entry} (h:l[q]?=some x):iL l (q+1)=x.aW:=by
 unfold iL
 rw [if_neg (by omega),List.getD_eq_getElem?_getD,Nat.add_sub_cancel,h];rfl
theorem kU {l:List Entry} {q:Nat} {x:Entry} (hq:0 < q) (h:l[q - 1]?=some x):iL l q=x.aW:=by
 unfold iL
 rw [if_neg (by omega),List.getD_eq_getElem?_getD,h];rfl
theorem im {l:List Entry} {q:Nat} {x:Entry} (h:l[q]?=some x):lg l q=if fu x then 3 else if (0 < q/\iL l q>=x.aW)\/x.sum=0 then 2 else 0:=by
 unfold lg
 rw [h]
 by_cases hq:q=0
 ·subst hq;simp
 ·unfold iL;rw [if_neg hq]
structure jB (l:List Entry):Prop where
 up:Up l
 ok:∀ x∈l,0<=x.aW/\x.aW<=57/\-1000000000000<=x.sum/\x.sum<=1000000000000/\x.sum≠0
theorem FD {l:List Entry} (h:∀ q x y,l[q]?=some x->l[q+1]?=some y->x.aW < y.aW):Up l:=by
 unfold Up
 induction l with
 |nil=>exact List.Pairwise.nil
 |cons x l ih=>
  have h2:=ih fun q a b ha hb=>h (q+1) a b (by simpa using ha) (by simpa using hb)
  refine List.pairwise_cons.2 ⟨fun y hy=>?_,h2⟩
  cases l with
  |nil=>cases hy
  |cons z l=>
   have hz:=h 0 x z (by simp) (by simp)
   rcases List.mem_cons.1 hy with rfl|hy
   ·exact hz
   ·have:=(List.pairwise_cons.1 h2).1 y hy;omega
theorem zw {l:List Entry} (h:Up l) {i j:Nat} {x y:Entry} (hij:i < j) (hx:l[i]?=some x) (hy:l[j]?=some y):x.aW < y.aW:=by
 obtain ⟨hi,rfl⟩:=List.getElem?_eq_some_iff.1 hx
 obtain ⟨hj,rfl⟩:=List.getElem?_eq_some_iff.1 hy
 exact List.pairwise_iff_getElem.1 h i j hi hj hij
theorem zK {l:List Entry}:(scan (lg l) 0 l.length).1=0↔jB l:=by
 rw [nw]
 constructor
 ·intro h
  have at':∀ q x,l[q]?=some x->¬fu x/\¬((0 < q/\iL l q>=x.aW)\/x.sum=0):=fun q x hx=>by
   have hq:=(List.getElem?_eq_some_iff.1 hx).1
   have h1:=h q (Nat.zero_le _) (by omega)
   rw [im hx] at h1
   split at h1
   ·cases h1
   ·split at h1
    ·cases h1
    ·exact ⟨by assumption,by assumption⟩
  refine ⟨FD fun q x y hx hy=>?_,fun x hx=>?_⟩
  ·have h1:=(at' (q+1) y hy).2
   rw [ka hx] at h1
   omega
  ·obtain ⟨q,hq⟩:=List.getElem?_of_mem hx
   have h1:=at' q x hq
   unfold fu at h1
   omega
 ·intro h q _ hq
  obtain ⟨x,hx⟩:∃ x,l[q]?=some x:=⟨_,List.getElem?_eq_getElem (by omega)⟩
  have h1:=h.ok x (List.mem_of_getElem? hx)
  rw [im hx,if_neg (by unfold fu;omega),if_neg]
  rintro (⟨h2,h3⟩|h2)
  ·obtain ⟨y,hy⟩:∃ y,l[q - 1]?=some y:=⟨_,List.getElem?_eq_getElem (by omega)⟩
   rw [kU h2 hy] at h3
   have:=zw h.up (by omega:q - 1 < q) hy hx
   omega
  ·exact h1.2.2.2.2 h2
theorem lp {l:List Entry}:(ek l).err=0↔jB l/\eD l=0:=by
 unfold ek
 rw [<-zK]
 split
 ·rename_i h;constructor
  ·intro h1;exact absurd h1 h
  ·intro h1;exact absurd h1.1 h
 ·rename_i h
  split
  ·rename_i h2;constructor
   ·intro h1;cases h1
   ·intro h1;exact absurd h1.2 h2
  ·rename_i h2;constructor
   ·intro _;exact ⟨by omega,by omega⟩
   ·intro _;rfl
theorem tz {l:List Entry} (h:jB l):l.length<=58:=by
 have key:∀ (q:Nat) (x:Entry),l[q]?=some x->(q:Int)<=x.aW:=by
  intro q
  induction q with
  |zero=>intro x hx;have:=h.ok x (List.mem_of_getElem? hx);omega
  |succ q ih=>
   intro x hx
   have hq:=(List.getElem?_eq_some_iff.1 hx).1
   obtain ⟨y,hy⟩:∃ y,l[q]?=some y:=⟨_,List.getElem?_eq_getElem (by omega)⟩
   have h1:=ih y hy
   have h2:=zw h.up (by omega:q < q+1) hy hx
   omega
 by_cases hl:l.length=0
 ·omega
 ·obtain ⟨x,hx⟩:∃ x,l[l.length - 1]?=some x:=⟨_,List.getElem?_eq_getElem (by omega)⟩
  have h1:=key _ x hx
  have h2:=h.ok x (List.mem_of_getElem? hx)
  omega
theorem mf {x:Entry} {l:List Entry} {a s:Int} (h:x.aW < a):iv (x::l) a s=x::iv l a s:=by
 unfold iv
 rw [oZ h,show ef (x::l) a=ef l a+1 by simp [ef,h]]
 cases fG l a<;>simp
theorem me {x:Entry} {l:List Entry} {a s:Int} (h:x.aW=a):iv (x::l) a s=(if s=0 then [] else [⟨a,s⟩])++l:=by
 unfold iv
 rw [mo (by omega),show ef (x::l) a=0 by simp [ef];omega]
 simp [h]
theorem nu {x:Entry} {l:List Entry} {a s:Int} (h:a < x.aW):iv (x::l) a s=(if s=0 then [] else [⟨a,s⟩])++x::l:=by
 unfold iv
 rw [mo (by omega),show ef (x::l) a=0 by simp [ef];omega]
 have:¬x.aW=a:=by omega
 simp [this]
theorem nt (a s:Int):iv [] a s=if s=0 then [] else [⟨a,s⟩]:=by simp [iv,ef,fG]
theorem qM {a s:Int}:∀ {l:List Entry} {x:Entry},x∈iv l a s->x∈l\/(x=⟨a,s⟩/\s≠0)
 |[],x,h=>by
  rw [nt] at h
  split at h
  ·cases h
  ·rename_i h0;exact .inr ⟨by simpa using h,h0⟩
 |y::l,x,h=>by
  have one:x∈(if s=0 then [] else [(⟨a,s⟩:Entry)])->x=⟨a,s⟩/\s≠0:=fun h=>by
   split at h
   ·cases h
   ·rename_i h0;exact ⟨by simpa using h,h0⟩
  rcases Int.lt_trichotomy y.aW a with h1|h1|h1
  ·rw [mf h1] at h
   rcases List.mem_cons.1 h with rfl|h
   ·exact .inl List.mem_cons_self
   ·rcases qM h with h|h
    ·exact .inl (List.mem_cons_of_mem _ h)
    ·exact .inr h
  ·rw [me h1] at h
   rcases List.mem_append.1 h with h|h
   ·exact .inr (one h)
   ·exact .inl (List.mem_cons_of_mem _ h)
  ·rw [nu h1] at h
   rcases List.mem_append.1 h with h|h
   ·exact .inr (one h)
   ·exact .inl h
theorem lC {x:Entry} {l:List Entry}:Up (x::l)↔(∀ y∈l,x.aW < y.aW)/\Up l:=List.pairwise_cons
theorem sy {a s:Int}:∀ {l:List Entry},Up l->Up (iv l a s)
 |[],_=>by rw [nt];split;exact List.Pairwise.nil;exact List.pairwise_singleton _ _
 |y::l,h=>by
  obtain ⟨h1,h2⟩:=lC.1 h
  rcases Int.lt_trichotomy y.aW a with h3|h3|h3
  ·rw [mf h3]
   refine lC.2 ⟨fun z hz=>?_,sy h2⟩
   rcases qM hz with hz|⟨rfl,_⟩
   ·exact h1 z hz
   ·exact h3
  ·rw [me h3]
   split
   ·exact h2
   ·exact lC.2 ⟨fun z hz=>by have:=h1 z hz;show a < z.aW;omega,h2⟩
  ·rw [nu h3]
   split
   ·exact h
   ·exact lC.2 ⟨fun z hz=>by
     show a < z.aW
     rcases List.mem_cons.1 hz with rfl|hz
     ·exact h3
     ·have:=h1 z hz;omega,h⟩
theorem qT (a s b:Int) (l:List Entry):db ((if s=0 then [] else [⟨a,s⟩])++l) b=if s≠0/\a=b then s else db l b:=by
 by_cases h:s=0
 ·simp [h]
 ·simp [h,db]
theorem vF {a s b:Int}:∀ {l:List Entry},Up l->db (iv l a s) b=if a=b then s else db l b
 |[],_=>by
  have:=qT a s b []
  rw [List.append_nil] at this
  rw [nt,this]
  by_cases h:s=0
  ·subst h;simp [db]
  ·simp [h]
 |y::l,h=>by
  obtain ⟨h1,h2⟩:=lC.1 h
  rcases Int.lt_trichotomy y.aW a with h3|h3|h3
  ·rw [mf h3]
   unfold db
   rw [vF h2]
   by_cases h4:y.aW=b
   ·rw [if_pos h4,if_pos h4,if_neg (by omega)]
   ·rw [if_neg h4,if_neg h4]
  ·rw [me h3,qT]
   by_cases h4:a=b
   ·subst h4
    by_cases h5:s=0
    ·subst h5;simp;exact js fun z hz=>by have:=h1 z hz;omega
    ·simp [h5]
   ·rw [if_neg (fun h=>h4 h.2),if_neg h4]
    conv=>rhs;unfold db
    rw [if_neg (by omega)]
  ·rw [nu h3,qT]
   by_cases h4:a=b
   ·subst h4
    by_cases h5:s=0
    ·subst h5;simp;exact js fun z hz=>by
      rcases List.mem_cons.1 hz with rfl|hz
      ·exact h3
      ·have:=h1 z hz;omega
    ·simp [h5]
   ·rw [if_neg (fun h=>h4 h.2),if_neg h4]
theorem uT {a s:Int}:∀ {l:List Entry},Up l->eD (iv l a s)=eD l - db l a+s
 |[],_=>by
  rw [nt]
  by_cases h:s=0
  ·subst h;simp [eD,db]
  ·simp [h,eD,db]
 |y::l,h=>by
  obtain ⟨h1,h2⟩:=lC.1 h
  have one:eD (if s=0 then [] else [(⟨a,s⟩:Entry)])=s:=by split<;>simp_all [eD]
  rcases Int.lt_trichotomy y.aW a with h3|h3|h3
  ·rw [mf h3]
   unfold eD db
   rw [uT h2,if_neg (by omega)];omega
  ·rw [me h3,mB,one]
   conv=>rhs;unfold eD db
   rw [if_pos h3];omega
  ·rw [nu h3,mB,one,js fun z hz=>by
    rcases List.mem_cons.1 hz with rfl|hz
    ·exact h3
    ·have:=h1 z hz;omega]
   omega
theorem rz {l:List Entry} {a s:Int} (h:jB l) (ha:0<=a/\a<=57) (hs:-1000000000000<=s/\s<=1000000000000):jB (iv l a s):=
 ⟨sy h.up,fun x hx=>by
  rcases qM hx with hx|⟨rfl,h0⟩
  ·exact h.ok x hx
  ·exact ⟨ha.1,ha.2,hs.1,hs.2,h0⟩⟩
def fL:List Entry->List Entry->Option (List Entry)
 |l,[]=>some l
 |l,e::es=>if iz (db l e.aW+e.sum)=true then fL (iv l e.aW (db l e.aW+e.sum)) es else none
def gp (l es:List Entry):List Entry×Int:=
 if (ek l).err≠0 then ([],(ek l).err)
 else if es.length > 10 then ([],5)
 else if ∃ x∈es,fu x then ([],3)
 else if eD es≠0 then ([],8)
 else match fL l es with
  |some r=>(r,0)
  |none=>([],4)
theorem tU {s:Int}:iz s=true↔-1000000000000<=s/\s<=1000000000000:=by
 unfold iz;simp only [Bool.and_eq_true,decide_eq_true_eq,ge_iff_le]
theorem qg {l es:List Entry} {q:Nat} {e:Entry} (h:es[q]?=some e):fL l (es.drop q)=if iz (db l e.aW+e.sum)=true then fL (iv l e.aW (db l e.aW+e.sum)) (es.drop (q+1)) else none:=by
 obtain ⟨hq,rfl⟩:=List.getElem?_eq_some_iff.1 h
 rw [List.drop_eq_getElem_cons hq];rfl
theorem oP:∀ {es l r:List Entry},jB l->(∀ x∈es,¬fu x)->fL l es=some r->jB r/\eD r=eD l+eD es
 |[],l,r,h,_,hp=>by
  have:l=r:=by simpa [fL] using hp
  subst this;exact ⟨h,by simp [eD]⟩
 |e::es,l,r,h,hb,hp=>by
  unfold fL at hp
  split at hp
  ·rename_i hg
   have hg:=tU.1 hg
   have h1:=hb e List.mem_cons_self
   unfold fu at h1
   obtain ⟨h2,h3⟩:=oP (rz h (by omega) hg) (fun x hx=>hb x (List.mem_cons_of_mem _ hx)) hp
   refine ⟨h2,?_⟩
   rw [h3,uT h.up,zF]
   omega
  ·cases hp
def lN (a:Int):List Entry->Int
 |[]=>0
 |e::es=>(if e.aW=a then e.sum else 0)+lN a es
theorem wP (a:Int) (e:Entry) (es:List Entry):lN a (e::es)=(if e.aW=a then e.sum else 0)+lN a es:=rfl
theorem rH {a:Int}:∀ {es l r:List Entry},Up l->fL l es=some r->db r a=db l a+lN a es
 |[],l,r,h,hp=>by
  have:l=r:=by simpa [fL] using hp
  subst this;simp [lN]
 |e::es,l,r,h,hp=>by
  unfold fL at hp
  split at hp
  ·rw [rH (sy h) hp,vF h,wP]
   by_cases hc:e.aW=a
   ·subst hc;simp;omega
   ·simp [hc]
  ·cases hp


theorem qw (l:List Int) (hl:l.length * 8<=140737488355328):Fn Try.prog 95 [(.c (df l))] (aC (.s 0 0 1 l.length)) [(0,.arr 3 1 (l.map rI))]:=by
 refine Fn.mk' 8 [(0,(aC (df l)))] Try.func95 rfl rfl rfl rfl ?_
 intro W0 T0
 refine dq 0 rfl (fun hlen0=>?_)
 refine ae aa 1 rfl ?_
 refine ag ?_
 refine aH aa 1 rfl ?_
 refine iA (ah.plain rfl) rfl rfl Try.underlying30 rfl rfl (fun bn1 hbn1=>?_)
 refine af ?_
 refine aj rfl (fun hc2=>?_) (fun hc2=>?_)
 ·
  have hc2':=hc2;try simp only [bx,bV] at hc2'
  refine ae aa 1 rfl ?_
  refine aA ?_
  refine ax ?_
  refine dh (aF.nil 2 3 1 (by decide) rfl) ?_
  refine aq aa [0] 1 rfl rfl rfl rfl rfl rfl ?_ ?_
  ·(have h0:=hbn1 (by assumption);have h1:l=[]:=by (cases l with|nil=>rfl|cons=>simp at h0));subst h1;rfl
  ·(have h0:=hbn1 (by assumption);have h1:l=[]:=by (cases l with|nil=>rfl|cons=>simp at h0));subst h1;rfl
 have hc2':=hc2;try simp only [bx,bV] at hc2'
 refine aQ ?_
 refine eK ?_
 refine aT 1 [0] (ec (ys:=[]) (rows:=(([]:List Int)).map rI) 0 ns rfl (by decide) trivial rfl rfl rfl rfl) rfl ?_
 refine ad aa 1 rfl ?_
 refine aT 2 [1] (dE (m:=l.length) (N:=l.length) (k2:=1) (ys:=(l).map rI) ns rfl rfl rfl rfl rfl rfl (by first|omega|(simp;omega)|(simp;done)) rfl (.d _ _) (by first|omega|(simp;omega)|(simp;done)) (by first|omega|(simp;omega)|(simp;done)) rfl (by decide) (by first|omega|(simp;omega)|(simp;done)) (by first|omega|(simp;omega)|(simp;done))) rfl ?_
 refine ad aa 1 rfl ?_
 refine af ?_
 refine aA ?_
 refine aq aa [1] 1 rfl rfl rfl rfl rfl rfl ?_ ?_
 ·first|rfl|simp [fW,aC]
 ·first|rfl|simp
theorem nc (l:List cp) (hl:l.length * 32<=140737488355328):Fn Try.prog 99 [(.c (eb l))] (aC (.s 0 0 4 l.length)) [(0,.arr 107 4 (l.map iG))]:=by
 refine Fn.mk' 8 [(0,(aC (eb l)))] Try.func99 rfl rfl rfl rfl ?_
 intro W0 T0
 refine dq 0 rfl (fun hlen0=>?_)
 refine ae aa 1 rfl ?_
 refine ag ?_
 refine aH aa 1 rfl ?_
 refine iA (ah.plain rfl) rfl rfl Try.underlying39 rfl rfl (fun bn1 hbn1=>?_)
 refine af ?_
 refine aj rfl (fun hc2=>?_) (fun hc2=>?_)
 ·
  have hc2':=hc2;try simp only [bx,bV] at hc2'
  refine ae aa 1 rfl ?_
  refine aA ?_
  refine ax ?_
  refine dh (aF.nil 2 107 4 (by decide) rfl) ?_
  refine aq aa [0] 1 rfl rfl rfl rfl rfl rfl ?_ ?_
  ·(have h0:=hbn1 (by assumption);have h1:l=[]:=by (cases l with|nil=>rfl|cons=>simp at h0));subst h1;rfl
  ·(have h0:=hbn1 (by assumption);have h1:l=[]:=by (cases l with|nil=>rfl|cons=>simp at h0));subst h1;rfl
 have hc2':=hc2;try simp only [bx,bV] at hc2'
 refine aQ ?_
 refine eK ?_
 refine aT 1 [0] (ec (ys:=[]) (rows:=(([]:List cp)).map iG) 0 yk rfl (by decide) trivial rfl rfl rfl rfl) rfl ?_
 refine ad aa 1 rfl ?_
 refine aT 2 [1] (dE (m:=l.length) (N:=l.length) (k2:=1) (ys:=(l).map iG) yk rfl rfl rfl rfl rfl rfl (by first|omega|(simp;omega)|(simp;done)) rfl (.d _ _) (by first|omega|(simp;omega)|(simp;done)) (by first|omega|(simp;omega)|(simp;done)) rfl (by decide) (by first|omega|(simp;omega)|(simp;done)) (by first|omega|(simp;omega)|(simp;done))) rfl ?_
 refine ad aa 1 rfl ?_
 refine af ?_
 refine aA ?_
 refine aq aa [1] 1 rfl rfl rfl rfl rfl rfl ?_ ?_
 ·first|rfl|simp [fW,aC]
 ·first|rfl|simp
theorem qx (l:List de) (hl:l.length * 16<=140737488355328):Fn Try.prog 114 [(.c (eL l))] (aC (.s 0 0 2 l.length)) [(0,.arr 125 2 (l.map ia))]:=by
 refine Fn.mk' 8 [(0,(aC (eL l)))] Try.func114 rfl rfl rfl rfl ?_
 intro W0 T0
 refine dq 0 rfl (fun hlen0=>?_)
 refine ae aa 1 rfl ?_
 refine ag ?_
 refine aH aa 1 rfl ?_
 refine iA (ah.plain rfl) rfl rfl Try.underlying59 rfl rfl (fun bn1 hbn1=>?_)
 refine af ?_
 refine aj rfl (fun hc2=>?_) (fun hc2=>?_)
 ·
  have hc2':=hc2;try simp only [bx,bV] at hc2'
  refine ae aa 1 rfl ?_
  refine aA ?_
  refine ax ?_
  refine dh (aF.nil 2 125 2 (by decide) rfl) ?_
  refine aq aa [0] 1 rfl rfl rfl rfl rfl rfl ?_ ?_
  ·(have h0:=hbn1 (by assumption);have h1:l=[]:=by (cases l with|nil=>rfl|cons=>simp at h0));subst h1;rfl
  ·(have h0:=hbn1 (by assumption);have h1:l=[]:=by (cases l with|nil=>rfl|cons=>simp at h0));subst h1;rfl
 have hc2':=hc2;try simp only [bx,bV] at hc2'
 refine aQ ?_
 refine eK ?_
 refine aT 1 [0] (ec (ys:=[]) (rows:=(([]:List de)).map ia) 0 oH rfl (by decide) trivial rfl rfl rfl rfl) rfl ?_
 refine ad aa 1 rfl ?_
 refine aT 2 [1] (dE (m:=l.length) (N:=l.length) (k2:=1) (ys:=(l).map ia) oH rfl rfl rfl rfl rfl rfl (by first|omega|(simp;omega)|(simp;done)) rfl (.d _ _) (by first|omega|(simp;omega)|(simp;done)) (by first|omega|(simp;omega)|(simp;done)) rfl (by decide) (by first|omega|(simp;omega)|(simp;done)) (by first|omega|(simp;omega)|(simp;done))) rfl ?_
 refine ad aa 1 rfl ?_
 refine af ?_
 refine aA ?_
 refine aq aa [1] 1 rfl rfl rfl rfl rfl rfl ?_ ?_
 ·first|rfl|simp [fW,aC]
 ·first|rfl|simp
theorem lT (l:List bg) (hl:l.length * 32<=140737488355328):Fn Try.prog 106 [(.c (ck l))] (aC (.s 0 0 4 l.length)) [(0,.arr 80 4 (l.map fE))]:=by
 refine Fn.mk' 8 [(0,(aC (ck l)))] Try.func106 rfl rfl rfl rfl ?_
 intro W0 T0
 refine dq 0 rfl (fun hlen0=>?_)
 refine ae aa 1 rfl ?_
 refine ag ?_
 refine aH aa 1 rfl ?_
 refine iA (ah.plain rfl) rfl rfl Try.underlying32 rfl rfl (fun bn1 hbn1=>?_)
 refine af ?_
 refine aj rfl (fun hc2=>?_) (fun hc2=>?_)
 ·
  have hc2':=hc2;try simp only [bx,bV] at hc2'
  refine ae aa 1 rfl ?_
  refine aA ?_
  refine ax ?_
  refine dh (aF.nil 2 80 4 (by decide) rfl) ?_
  refine aq aa [0] 1 rfl rfl rfl rfl rfl rfl ?_ ?_
  ·(have h0:=hbn1 (by assumption);have h1:l=[]:=by (cases l with|nil=>rfl|cons=>simp at h0));subst h1;rfl
  ·(have h0:=hbn1 (by assumption);have h1:l=[]:=by (cases l with|nil=>rfl|cons=>simp at h0));subst h1;rfl
 have hc2':=hc2;try simp only [bx,bV] at hc2'
 refine aQ ?_
 refine eK ?_
 refine aT 1 [0] (ec (ys:=[]) (rows:=(([]:List bg)).map fE) 0 uY rfl (by decide) trivial rfl rfl rfl rfl) rfl ?_
 refine ad aa 1 rfl ?_
 refine aT 2 [1] (dE (m:=l.length) (N:=l.length) (k2:=1) (ys:=(l).map fE) uY rfl rfl rfl rfl rfl rfl (by first|omega|(simp;omega)|(simp;done)) rfl (.d _ _) (by first|omega|(simp;omega)|(simp;done)) (by first|omega|(simp;omega)|(simp;done)) rfl (by decide) (by first|omega|(simp;omega)|(simp;done)) (by first|omega|(simp;omega)|(simp;done))) rfl ?_
 refine ad aa 1 rfl ?_
 refine af ?_
 refine aA ?_
 refine aq aa [1] 1 rfl rfl rfl rfl rfl rfl ?_ ?_
 ·first|rfl|simp [fW,aC]
 ·first|rfl|simp
theorem uD (l:List Entry) (hl:l.length * 16<=140737488355328):Fn Try.prog 115 [(.c (cZ l))] (aC (.s 0 0 2 l.length)) [(0,.arr 115 2 (l.map eH))]:=by
 refine Fn.mk' 8 [(0,(aC (cZ l)))] Try.func115 rfl rfl rfl rfl ?_
 intro W0 T0
 refine dq 0 rfl (fun hlen0=>?_)
 refine ae aa 1 rfl ?_
 refine ag ?_
 refine aH aa 1 rfl ?_
 refine iA (ah.plain rfl) rfl rfl Try.underlying44 rfl rfl (fun bn1 hbn1=>?_)
 refine af ?_
 refine aj rfl (fun hc2=>?_) (fun hc2=>?_)
 ·
  have hc2':=hc2;try simp only [bx,bV] at hc2'
  refine ae aa 1 rfl ?_
  refine aA ?_
  refine ax ?_
  refine dh (aF.nil 2 115 2 (by decide) rfl) ?_
  refine aq aa [0] 1 rfl rfl rfl rfl rfl rfl ?_ ?_
  ·(have h0:=hbn1 (by assumption);have h1:l=[]:=by (cases l with|nil=>rfl|cons=>simp at h0));subst h1;rfl
  ·(have h0:=hbn1 (by assumption);have h1:l=[]:=by (cases l with|nil=>rfl|cons=>simp at h0));subst h1;rfl
 have hc2':=hc2;try simp only [bx,bV] at hc2'
 refine aQ ?_
 refine eK ?_
 refine aT 1 [0] (ec (ys:=[]) (rows:=(([]:List Entry)).map eH) 0 km rfl (by decide) trivial rfl rfl rfl rfl) rfl ?_
 refine ad aa 1 rfl ?_
 refine aT 2 [1] (dE (m:=l.length) (N:=l.length) (k2:=1) (ys:=(l).map eH) km rfl rfl rfl rfl rfl rfl (by first|omega|(simp;omega)|(simp;done)) rfl (.d _ _) (by first|omega|(simp;omega)|(simp;done)) (by first|omega|(simp;omega)|(simp;done)) rfl (by decide) (by first|omega|(simp;omega)|(simp;done)) (by first|omega|(simp;omega)|(simp;done))) rfl ?_
 refine ad aa 1 rfl ?_
 refine af ?_
 refine aA ?_
 refine aq aa [1] 1 rfl rfl rfl rfl rfl rfl ?_ ?_
 ·first|rfl|simp [fW,aC]
 ·first|rfl|simp
theorem mZ (l:List ar) (hl:l.length * 32<=140737488355328):Fn Try.prog 54 [(.c (eG l))] (aC (.s 0 0 4 l.length)) [(0,.arr 83 4 (l.map ib))]:=by
 refine Fn.mk' 8 [(0,(aC (eG l)))] Try.func54 rfl rfl rfl rfl ?_
 intro W0 T0
 refine dq 0 rfl (fun hlen0=>?_)
 refine ae aa 1 rfl ?_
 refine ag ?_
 refine aH aa 1 rfl ?_
 refine iA (ah.plain rfl) rfl rfl Try.underlying42 rfl rfl (fun bn1 hbn1=>?_)
 refine af ?_
 refine aj rfl (fun hc2=>?_) (fun hc2=>?_)
 ·
  have hc2':=hc2;try simp only [bx,bV] at hc2'
  refine ae aa 1 rfl ?_
  refine aA ?_
  refine ax ?_
  refine dh (aF.nil 2 83 4 (by decide) rfl) ?_
  refine aq aa [0] 1 rfl rfl rfl rfl rfl rfl ?_ ?_
  ·(have h0:=hbn1 (by assumption);have h1:l=[]:=by (cases l with|nil=>rfl|cons=>simp at h0));subst h1;rfl
  ·(have h0:=hbn1 (by assumption);have h1:l=[]:=by (cases l with|nil=>rfl|cons=>simp at h0));subst h1;rfl
 have hc2':=hc2;try simp only [bx,bV] at hc2'
 refine aQ ?_
 refine eK ?_
 refine aT 1 [0] (ec (ys:=[]) (rows:=(([]:List ar)).map ib) 0 yj rfl (by decide) trivial rfl rfl rfl rfl) rfl ?_
 refine ad aa 1 rfl ?_
 refine aT 2 [1] (dE (m:=l.length) (N:=l.length) (k2:=1) (ys:=(l).map ib) yj rfl rfl rfl rfl rfl rfl (by first|omega|(simp;omega)|(simp;done)) rfl (.d _ _) (by first|omega|(simp;omega)|(simp;done)) (by first|omega|(simp;omega)|(simp;done)) rfl (by decide) (by first|omega|(simp;omega)|(simp;done)) (by first|omega|(simp;omega)|(simp;done))) rfl ?_
 refine ad aa 1 rfl ?_
 refine af ?_
 refine aA ?_
 refine aq aa [1] 1 rfl rfl rfl rfl rfl rfl ?_ ?_
 ·first|rfl|simp [fW,aC]
 ·first|rfl|simp


theorem pv (l:List Entry) (f:dc) (hr:ek l=f):Fn Try.prog 33 [(.c (cZ l))] (.v (.g [(cI f.err),(cI f.at_)])) []:=by
 refine Fn.mk' 64 [(0,(aC (cZ l)))] Try.func33 rfl rfl rfl rfl ?_
 intro W0 T0
 refine dq 0 rfl (fun hlen0=>?_)
 refine ae aa 1 rfl ?_
 refine ae aa 1 rfl ?_
 refine ag ?_
 refine aH aa 1 rfl ?_
 refine az (bP rfl rfl rfl rfl rfl Try.underlying44) rfl ?_
 refine ad aa 1 rfl ?_
 refine af ?_
 refine aR ?_
 refine ch (β:=Nat) (fun (q:Nat)=>⟨[(0,(aC (cZ l))),(2,(aC (.p 0 0 0 0))),(3,(aI (eD (l.take q)))),(6,(aC (cZ l))),(7,(aI (↑l.length:Int))),(8,(aI (↑q:Int)))],[(0,(.box 50 [(cI 0),(cI 0)]))],1⟩) (fun (q:Nat)=>q<=l.length/\scan (lg l) 0 l.length=scan (lg l) q (l.length - q)/\(q:Int) - 1<=iL l q/\iL l q<=57/\-1000000000000 * (q:Int)<=eD (l.take q)/\eD (l.take q)<=1000000000000 * (q:Int)) (fun (q:Nat)=>l.length - q) 0 ?_ ?_ ?_
 ·(have h1:iL l 0=-1:=rfl);(have h2:eD (l.take 0)=0:=rfl);exact ⟨by omega,rfl,by omega,by omega⟩
 ·exact aF.bL id (by refine ⟨?_,?_,?_,?_,?_,?_,trivial⟩<;>first|rfl|(simp only [ba];done)|(congr 3;omega)|(congr 4;omega)|(simp only [bb];rfl)) (⟨by first|rfl|(simp only [ba];done)|(congr 3;omega)|(congr 4;omega)|(simp only [bb];rfl),trivial⟩) rfl
 rintro q ⟨hi0_0,hi0_1,hi0_2,hi0_3⟩
 refine ae aa 1 rfl ?_
 refine ag ?_
 refine aj rfl (fun hc1=>?_) (fun hc1=>?_)
 ·
  have hc1':=of_decide_eq_true hc1
  refine aQ ?_
  refine ag ?_
  refine aR ?_
  refine aH aa 1 rfl ?_
  obtain ⟨x1,hx1⟩:=cg (xs:=l) (i:=q) (by first|omega|(simp;done)|(simp;omega))
  refine az (bX (i:=q) rfl rfl rfl Try.underlying44 dZ (by first|omega|(simp;done)|(simp;omega)) (bj hx1)) rfl ?_
  refine ad aa 4 rfl ?_
  refine af ?_
  refine ag ?_
  refine aR ?_
  refine cr 13 ((((decide (x1.aW < 0))||(decide (x1.aW>=58)))||(decide (x1.sum < (-1000000000000))))||(decide (x1.sum > 1000000000000))) ?_ ?_
  ·
   refine aw ?_
   refine ad aa 4 rfl ?_
   refine bK (t:=17) rfl (fun hb2=>?_) (fun hb2=>?_)
   ·
    have hb2':=of_decide_eq_true hb2
    refine ad aa 15 rfl ?_
    refine af ?_
    exact aF.bF 20 rfl rfl (by first|(simp [hb2];done)|(simp_all;done)|(exfalso;simp_all;done)|(simp_all;omega)) rfl
   have hb2':=of_decide_eq_false hb2
   refine ad aa 5 rfl ?_
   refine bK (t:=22) rfl (fun hb3=>?_) (fun hb3=>?_)
   ·
    have hb3':=of_decide_eq_true hb3
    refine ad aa 10 rfl ?_
    refine af ?_
    exact aF.bF 21 rfl rfl (by first|(simp [hb2,hb3];done)|(simp_all;done)|(exfalso;simp_all;done)|(simp_all;omega)) rfl
   have hb3':=of_decide_eq_false hb3
   refine ad aa 5 rfl ?_
   refine bK (t:=27) rfl (fun hb4=>?_) (fun hb4=>?_)
   ·
    have hb4':=of_decide_eq_true hb4
    refine ad aa 5 rfl ?_
    refine af ?_
    exact aF.bF 22 rfl rfl (by first|(simp [hb2,hb3,hb4];done)|(simp_all;done)|(exfalso;simp_all;done)|(simp_all;omega)) rfl
   have hb4':=of_decide_eq_false hb4
   refine ad aa 5 rfl ?_
   refine af ?_
   exact aF.bF 22 rfl rfl (by first|(simp [hb2,hb3,hb4];done)|(simp_all;done)|(exfalso;simp_all;done)|(simp_all;omega)) rfl
  refine aj rfl (fun hc5=>?_) (fun hc5=>?_)
  ·
   have hc5':=hc5;try simp only [bx,bV] at hc5'
   refine ae aa 3 rfl ?_
   refine aA ?_
   refine bp ?_
   refine ax ?_
   refine bp ?_
   refine ax ?_
   refine ax ?_
   refine bp ?_
   refine ax ?_
   have hX:ek l=(⟨3,(↑q:Int)⟩:dc):=by
     (have hb:fu x1:=by unfold fu;omega);(have h0:=iw (e:=lg l) (q:=q) (n:=l.length) (by omega) (by rw [im hx1,if_pos hb]) (by decide:(3:Int)≠0));(unfold ek;rw [hi0_1,h0];rfl)
   rw [hX] at hr;clear hX
   subst hr
   refine aq aa [0] 0 rfl rfl rfl rfl rfl rfl ?_ ?_
   all_goals first|rfl|(simp [aD];done)|(simp [aD];omega)
  have hc5':=hc5;try simp only [bx,bV] at hc5'
  refine ag ?_
  rcases Bool.eq_false_or_eq_true (decide ((↑q:Int) > 0)) with hb6|hb6
  ·
   have hb6':=of_decide_eq_true hb6
   obtain ⟨x2,hx2⟩:=cg (xs:=l) (i:=(q) - 1) (by first|omega|(simp;done)|(simp;omega))
   rcases Bool.eq_false_or_eq_true (decide (x2.aW>=x1.aW)) with hb7|hb7
   ·
    have hb7':=of_decide_eq_true hb7
    refine aX [0,2,3,6,7,8,5,4] [1,0] mixed rfl rfl ?_
    refine ay (kn:=[(36,true)]) aa 5 rfl ⟨hb6,trivial⟩ ?_
    refine aP (n':=2) [39,37] [] rfl rfl (.inl ⟨(ah.yes rfl rfl rfl),aJ.cast (aK rfl rfl rfl (aL (by first|omega|(simp;done)|(simp;omega)))) rfl⟩) rfl ?_
    refine aP (n':=2) [38,40,37] [] rfl rfl (.inl ⟨(ah.yes rfl rfl rfl),aJ.cast (bX (i:=(q) - 1) rfl rfl rfl Try.underlying44 dZ (by first|omega|(simp;done)|(simp;omega)) (bj hx2)) rfl⟩) rfl ?_
    refine ay (kn:=[(46,true)]) aa 12 rfl ⟨hb7,trivial⟩ ?_
    refine bw [1,0] rfl rfl rfl rfl (by kernel_rfl) ?_
    refine af ?_
    refine aj rfl (fun _=>?_) (fun hno=>by cases hno)
    refine ae aa 3 rfl ?_
    refine aA ?_
    refine bp ?_
    refine ax ?_
    refine bp ?_
    refine ax ?_
    refine ax ?_
    refine bp ?_
    refine ax ?_
    have hX:ek l=(⟨2,(↑q:Int)⟩:dc):=by
      (have hb:¬fu x1:=by unfold fu;omega);(have hla:=kU (by omega) hx2);(have h0:=iw (e:=lg l) (q:=q) (n:=l.length) (by omega) (by rw [im hx1,if_neg hb,if_pos (by omega)]) (by decide:(2:Int)≠0));(unfold ek;rw [hi0_1,h0];rfl)
    rw [hX] at hr;clear hX
    subst hr
    refine aq aa [0] 0 rfl rfl rfl rfl rfl rfl ?_ ?_
    all_goals first|rfl|(simp [aD];done)|(simp [aD];omega)
   have hb7':=of_decide_eq_false hb7
   refine aX [0,2,3,6,7,8,5,4] [1,0] mixed rfl rfl ?_
   refine ay (kn:=[(36,true)]) aa 5 rfl ⟨hb6,trivial⟩ ?_
   refine aP (n':=2) [39,37] [] rfl rfl (.inl ⟨(ah.yes rfl rfl rfl),aJ.cast (aK rfl rfl rfl (aL (by first|omega|(simp;done)|(simp;omega)))) rfl⟩) rfl ?_
   refine aP (n':=2) [38,40,37] [] rfl rfl (.inl ⟨(ah.yes rfl rfl rfl),aJ.cast (bX (i:=(q) - 1) rfl rfl rfl Try.underlying44 dZ (by first|omega|(simp;done)|(simp;omega)) (bj hx2)) rfl⟩) rfl ?_
   refine ay (kn:=[(46,false)]) aa 12 rfl ⟨hb7,trivial⟩ ?_
   refine bw [1,0] rfl rfl rfl rfl (by kernel_rfl) ?_
   refine af ?_
   refine aj rfl (fun hc9=>?_) (fun hc9=>?_)
   ·
    have hc9':=of_decide_eq_true hc9
    refine ae aa 3 rfl ?_
    refine aA ?_
    refine bp ?_
    refine ax ?_
    refine bp ?_
    refine ax ?_
    refine ax ?_
    refine bp ?_
    refine ax ?_
    have hX:ek l=(⟨2,(↑q:Int)⟩:dc):=by
      (have hb:¬fu x1:=by unfold fu;omega);(have hla:=kU (by omega) hx2);(have h0:=iw (e:=lg l) (q:=q) (n:=l.length) (by omega) (by rw [im hx1,if_neg hb,if_pos (by omega)]) (by decide:(2:Int)≠0));(unfold ek;rw [hi0_1,h0];rfl)
    rw [hX] at hr;clear hX
    subst hr
    refine aq aa [0] 0 rfl rfl rfl rfl rfl rfl ?_ ?_
    all_goals first|rfl|(simp [aD];done)|(simp [aD];omega)
   have hc9':=of_decide_eq_false hc9
   refine cE ?_
   refine bf ?_
   refine then_ok ?_
   refine aw ?_
   refine ad aa 3 rfl ?_
   refine az (aK rfl rfl rfl (aL (by first|omega|(simp;done)|(simp;omega)))) rfl ?_
   refine ad aa 1 rfl ?_
   refine cf ?_
   refine bf ?_
   refine then_ok ?_
   refine aw ?_
   refine az (aK rfl rfl rfl (aL (by first|omega|(simp;done)|(simp;omega)))) rfl ?_
   refine ad aa 1 rfl ?_
   refine af ?_
   refine ⟨q+1,⟨by omega,by rw [hi0_1];exact mP (by omega) (by have hla:=kU (by omega) hx2;rw [im hx1,if_neg (by unfold fu;omega),if_neg (by omega)]),by rw [ka hx1];have hla:=kU (by omega) hx2;omega,by rw [ka hx1,jK hx1];omega⟩,by first|omega|(simp;done)|(simp;omega),aF.bL id (by refine ⟨?_,?_,?_,?_,?_,?_,trivial⟩<;>first|rfl|(simp only [ba];done)|(congr 3;omega)|(congr 4;omega)|(simp only [bb];rfl)|(rw [jK hx1];rfl)) (⟨by first|rfl|(simp only [ba];done)|(congr 3;omega)|(congr 4;omega)|(simp only [bb];rfl),trivial⟩) rfl⟩
  have hb6':=of_decide_eq_false hb6
  refine aX [0,2,3,6,7,8,5,4] [1,0] mixed rfl rfl ?_
  refine ay (kn:=[(36,false)]) aa 19 rfl ⟨hb6,trivial⟩ ?_
  refine bw [1,0] rfl rfl rfl rfl (by kernel_rfl) ?_
  refine af ?_
  refine aj rfl (fun hc10=>?_) (fun hc10=>?_)
  ·
   have hc10':=of_decide_eq_true hc10
   refine ae aa 3 rfl ?_
   refine aA ?_
   refine bp ?_
   refine ax ?_
   refine bp ?_
   refine ax ?_
   refine ax ?_
   refine bp ?_
   refine ax ?_
   have hX:ek l=(⟨2,(↑q:Int)⟩:dc):=by
     (have hb:¬fu x1:=by unfold fu;omega);(have h0:=iw (e:=lg l) (q:=q) (n:=l.length) (by omega) (by rw [im hx1,if_neg hb,if_pos (by omega)]) (by decide:(2:Int)≠0));(unfold ek;rw [hi0_1,h0];rfl)
   rw [hX] at hr;clear hX
   subst hr
   refine aq aa [0] 0 rfl rfl rfl rfl rfl rfl ?_ ?_
   all_goals first|rfl|(simp [aD];done)|(simp [aD];omega)
  have hc10':=of_decide_eq_false hc10
  refine cE ?_
  refine bf ?_
  refine then_ok ?_
  refine aw ?_
  refine ad aa 3 rfl ?_
  refine az (aK rfl rfl rfl (aL (by first|omega|(simp;done)|(simp;omega)))) rfl ?_
  refine ad aa 1 rfl ?_
  refine cf ?_
  refine bf ?_
  refine then_ok ?_
  refine aw ?_
  refine az (aK rfl rfl rfl (aL (by first|omega|(simp;done)|(simp;omega)))) rfl ?_
  refine ad aa 1 rfl ?_
  refine af ?_
  refine ⟨q+1,⟨by omega,by rw [hi0_1];exact mP (by omega) (by have hla:iL l q=-1:=(by unfold iL;rw [if_pos (by omega)]);rw [im hx1,if_neg (by unfold fu;omega),if_neg (by omega)]),by rw [ka hx1];have hla:iL l q=-1:=(by unfold iL;rw [if_pos (by omega)]);omega,by rw [ka hx1,jK hx1];omega⟩,by first|omega|(simp;done)|(simp;omega),aF.bL id (by refine ⟨?_,?_,?_,?_,?_,?_,trivial⟩<;>first|rfl|(simp only [ba];done)|(congr 3;omega)|(congr 4;omega)|(simp only [bb];rfl)|(rw [jK hx1];rfl)) (⟨by first|rfl|(simp only [ba];done)|(congr 3;omega)|(congr 4;omega)|(simp only [bb];rfl),trivial⟩) rfl⟩
 have hc1':=of_decide_eq_false hc1
 refine bT ?_
 refine aN ?_
 refine aN ?_
 refine bA ?_
 refine then_ok ?_
 refine ag ?_
 refine ae aa 2 rfl ?_
 refine aj rfl (fun hc11=>?_) (fun hc11=>?_)
 ·
  have hc11':=of_decide_eq_true hc11
  refine ae aa 2 rfl ?_
  refine aA ?_
  refine ax ?_
  have hX:ek l=(⟨8,0⟩:dc):=by
    (obtain rfl:q=l.length:=by omega);rw [List.take_length] at *;(unfold ek;rw [hi0_1,nv (by omega)];rw [if_neg (by decide),if_pos (by omega)])
  rw [hX] at hr;clear hX
  subst hr
  refine aq aa [0] 0 rfl rfl rfl rfl rfl rfl ?_ ?_
  all_goals first|rfl|(simp [aD];done)|(simp [aD];omega)
 have hc11':=of_decide_eq_false hc11
 refine aQ ?_
 refine ae aa 2 rfl ?_
 refine aA ?_
 have hX:ek l=(⟨0,0⟩:dc):=by
   (obtain rfl:q=l.length:=by omega);rw [List.take_length] at *;(unfold ek;rw [hi0_1,nv (by omega)];rw [if_neg (by decide),if_neg (by omega)])
 rw [hX] at hr;clear hX
 subst hr
 refine aq aa [0] 0 rfl rfl rfl rfl rfl rfl ?_ ?_
 all_goals first|rfl|(simp [aD];done)|(simp [aD];omega)


theorem tX {l:List Entry} {q:Nat} {x:Entry} {a:Int} (h:l[q]?=some x):db (l.drop q) a=if x.aW=a then x.sum else db (l.drop (q+1)) a:=by
  obtain ⟨hq,rfl⟩:=List.getElem?_eq_some_iff.1 h
  rw [List.drop_eq_getElem_cons hq];rfl
theorem Au {l:List Entry} {q:Nat} {a:Int} (h:l.length<=q):db (l.drop q) a=0:=by
  rw [List.drop_of_length_le h];rfl

theorem lA (l:List Entry) (a:Int) (n:Int) (hr:db l a=n):Fn Try.prog 34 [(.c (cZ l)),(.c (cI a))] (.v (.c (cI n))) []:=by
 refine Fn.mk' 20 [(0,(aC (cZ l))),(1,(aI a))] Try.func34 rfl rfl rfl rfl ?_
 intro W0 T0
 refine dq 0 rfl (fun hlen0=>?_)
 refine ae aa 1 rfl ?_
 refine ag ?_
 refine aH aa 1 rfl ?_
 refine az (bP rfl rfl rfl rfl rfl Try.underlying44) rfl ?_
 refine ad aa 1 rfl ?_
 refine af ?_
 refine aR ?_
 refine ch (β:=Nat) (fun (q:Nat)=>⟨[(1,(aI a)),(7,(aC (cZ l))),(8,(aI (↑l.length:Int))),(9,(aI (↑q:Int)))],[],0⟩) (fun (q:Nat)=>q<=l.length/\db l a=db (l.drop q) a) (fun (q:Nat)=>l.length - q) 0 ?_ ?_ ?_
 ·exact ⟨by omega,rfl⟩
 ·exact aF.bL id (by refine ⟨?_,?_,?_,?_,trivial⟩<;>first|rfl|(simp only [ba];done)|(congr 3;omega)|(congr 4;omega)|(simp only [bb];rfl)) (trivial) rfl
 rintro q ⟨hi0_0,hi0_1⟩
 refine ae aa 1 rfl ?_
 refine ag ?_
 refine aj rfl (fun hc1=>?_) (fun hc1=>?_)
 ·
  have hc1':=of_decide_eq_true hc1
  refine aQ ?_
  refine ag ?_
  refine aR ?_
  refine eK ?_
  obtain ⟨x1,hx1⟩:=cg (xs:=l) (i:=q) (by first|omega|(simp;done)|(simp;omega))
  refine az (bX (i:=q) rfl rfl rfl Try.underlying44 dZ (by first|omega|(simp;done)|(simp;omega)) (bj hx1)) rfl ?_
  refine ad aa 3 rfl ?_
  refine af ?_
  refine ae aa 4 rfl ?_
  refine aj rfl (fun hc2=>?_) (fun hc2=>?_)
  ·
   have hc2':=of_decide_eq_true hc2
   refine ae aa 3 rfl ?_
   refine aA ?_
   refine bp ?_
   refine ax ?_
   refine ax ?_
   refine bp ?_
   refine ax ?_
   have hX:db l a=x1.sum:=by
     rw [hi0_1,tX hx1,if_pos (by omega)]
   rw [hX] at hr;clear hX
   subst hr
   refine aq aa [] 0 rfl rfl rfl rfl rfl rfl ?_ ?_
   all_goals first|rfl|(simp [aD];done)|(simp [aD];omega)
  have hc2':=of_decide_eq_false hc2
  refine cE ?_
  refine bf ?_
  refine then_ok ?_
  refine aw ?_
  refine az (aK rfl rfl rfl (aL (by first|omega|(simp;done)|(simp;omega)))) rfl ?_
  refine ad aa 1 rfl ?_
  refine af ?_
  refine ⟨q+1,⟨by omega,by rw [hi0_1,tX hx1,if_neg (by omega)]⟩,by first|omega|(simp;done)|(simp;omega),aF.bL id (by refine ⟨?_,?_,?_,?_,trivial⟩<;>first|rfl|(simp only [ba];done)|(congr 3;omega)|(congr 4;omega)|(simp only [bb];rfl)) (trivial) rfl⟩
 have hc1':=of_decide_eq_false hc1
 refine bT ?_
 refine aN ?_
 refine aN ?_
 refine bA ?_
 refine then_ok ?_
 refine ae aa 1 rfl ?_
 refine aA ?_
 have hX:db l a=0:=by
   rw [hi0_1,Au (by omega)]
 rw [hX] at hr;clear hX
 subst hr
 refine aq aa [] 0 rfl rfl rfl rfl rfl rfl ?_ ?_
 all_goals first|rfl|(simp [aD];done)|(simp [aD];omega)


theorem vj {l es:List Entry} (h0:(ek l).err=0) (h1:es.length<=10) (h2:∀ x∈es,¬fu x) (h3:eD es=0):gp l es=match fL l es with
    |some r=>(r,0)
    |none=>([],4):=by
  unfold gp
  rw [if_neg (by omega),if_neg (by omega),if_neg (fun ⟨x,hx,hb⟩=>h2 x hx hb),if_neg (by omega)]
  all_goals (cases fL l es<;>rfl)
theorem tH {es:List Entry} {q:Nat} (h:∀ x∈es.take q,¬fu x) (hq:es.length<=q):∀ x∈es,¬fu x:=by
  rwa [List.take_of_length_le hq] at h
theorem yw {es:List Entry} {q:Nat} {x:Entry} (h:∀ x∈es.take q,¬fu x) (hx:es[q]?=some x) (hb:¬fu x):∀ x∈es.take (q+1),¬fu x:=by
  rw [tg hx]
  intro y hy
  rcases List.mem_append.1 hy with hy|hy
  ·exact h y hy
  ·rw [List.mem_singleton.1 hy];exact hb
theorem xg {es:List Entry} {q:Nat} (hq:es.length<=q):eD (es.take q)=eD es:=by rw [List.take_of_length_le hq]
theorem Di {l m es:List Entry} {q:Nat} (h:fL l es=fL m (es.drop q)) (hq:es.length<=q):fL l es=some m:=by
  rw [h,List.drop_of_length_le hq];rfl
theorem wY (l es:List Entry) (r:List Entry) (e:Int) (hr:gp l es=(r,e)):Fn Try.prog 111 [(.c (cZ l)),(.c (cZ es))] (.t [(.c (.s 0 0 2 r.length)),(.c (cI e))]) [(0,(lU r))]:=by
 refine Fn.mk' 75 [(0,(aC (cZ l))),(1,(aC (cZ es)))] Try.func111 rfl rfl rfl rfl ?_
 intro W0 T0
 refine dq 0 rfl (fun hlen0=>?_)
 refine dq 1 rfl (fun hlen1=>?_)
 refine ae aa 2 rfl ?_
 refine ag ?_
 refine aH aa 1 rfl ?_
 obtain ⟨f0,hr0⟩:∃ (f0:dc),ek l=f0:=⟨_,rfl⟩
 refine aT 0 [] (bU 0 (pv l f0 hr0) EU rfl rfl ⟨⟨_,rfl,.c (.d _)⟩,trivial⟩ ⟨trivial,trivial,trivial⟩ trivial rfl rfl rfl rfl) rfl ?_
 refine ad aa 2 rfl ?_
 refine af ?_
 refine ae aa 3 rfl ?_
 refine aj rfl (fun hc1=>?_) (fun hc1=>?_)
 ·
  have hc1':=of_decide_eq_true hc1
  refine ag ?_
  refine aX [0,1,6] [0] mixed rfl rfl ?_
  refine ay (kn:=[]) aa 4 rfl trivial ?_
  refine bw [0] rfl rfl rfl rfl (by kernel_rfl) ?_
  refine af ?_
  refine aA ?_
  refine ax ?_
  refine dh (aF.nil 4 115 2 (by decide) rfl) ?_
  have hX:gp l es=(([]:List Entry),f0.err):=by
    unfold gp;rw [if_pos (by rw [hr0];omega),hr0]
  rw [hX] at hr;clear hX
  simp only [Prod.mk.injEq] at hr;obtain ⟨rfl,rfl⟩:=hr
  refine aq aa [1] 1 rfl rfl rfl rfl rfl rfl ?_ ?_
  all_goals first|rfl|(simp [aD];done)|(simp [aD];omega)
 have hc1':=of_decide_eq_false hc1
 refine aQ ?_
 refine ag ?_
 refine aH aa 1 rfl ?_
 refine az (bP rfl rfl rfl rfl rfl Try.underlying44) rfl ?_
 refine ad aa 1 rfl ?_
 refine af ?_
 refine aj rfl (fun hc2=>?_) (fun hc2=>?_)
 ·
  have hc2':=of_decide_eq_true hc2
  refine ae aa 2 rfl ?_
  refine aA ?_
  refine ax ?_
  refine dh (aF.nil 4 115 2 (by decide) rfl) ?_
  have hX:gp l es=(([]:List Entry),5):=by
    unfold gp;rw [if_neg (by rw [hr0];omega),if_pos (by omega)]
  rw [hX] at hr;clear hX
  simp only [Prod.mk.injEq] at hr;obtain ⟨rfl,rfl⟩:=hr
  refine aq aa [1] 1 rfl rfl rfl rfl rfl rfl ?_ ?_
  all_goals first|rfl|(simp [aD];done)|(simp [aD];omega)
 have hc2':=of_decide_eq_false hc2
 refine aQ ?_
 refine ae aa 1 rfl ?_
 refine ag ?_
 refine aH aa 1 rfl ?_
 refine az (bP rfl rfl rfl rfl rfl Try.underlying44) rfl ?_
 refine ad aa 1 rfl ?_
 refine af ?_
 refine aR ?_
 refine ch (β:=Nat) (fun (q:Nat)=>⟨[(0,(aC (cZ l))),(1,(aC (cZ es))),(7,(aI (eD (es.take q)))),(25,(aC (cZ es))),(26,(aI (↑es.length:Int))),(27,(aI (↑q:Int)))],[],0⟩) (fun (q:Nat)=>q<=es.length/\(∀ x∈es.take q,¬fu x)/\-1000000000000 * (q:Int)<=eD (es.take q)/\eD (es.take q)<=1000000000000 * (q:Int)) (fun (q:Nat)=>es.length - q) 0 ?_ ?_ ?_
 ·(have h2:eD (es.take 0)=0:=rfl);exact ⟨by omega,by intro x hx;simp at hx,by omega⟩
 ·exact aF.bL id (by refine ⟨?_,?_,?_,?_,?_,?_,trivial⟩<;>first|rfl|(simp only [ba];done)|(congr 3;omega)|(congr 4;omega)|(simp only [bb];rfl)) (trivial) rfl
 rintro q ⟨hi0_0,hi0_1,hi0_2⟩
 refine ae aa 1 rfl ?_
 refine ag ?_
 refine aj rfl (fun hc3=>?_) (fun hc3=>?_)
 ·
  have hc3':=of_decide_eq_true hc3
  refine aQ ?_
  refine ag ?_
  refine aR ?_
  refine eK ?_
  obtain ⟨x1,hx1⟩:=cg (xs:=es) (i:=q) (by first|omega|(simp;done)|(simp;omega))
  refine az (bX (i:=q) rfl rfl rfl Try.underlying44 dZ (by first|omega|(simp;done)|(simp;omega)) (bj hx1)) rfl ?_
  refine ad aa 3 rfl ?_
  refine af ?_
  refine ag ?_
  refine cr 48 ((((decide (x1.aW < 0))||(decide (x1.aW>=58)))||(decide (x1.sum < (-1000000000000))))||(decide (x1.sum > 1000000000000))) ?_ ?_
  ·
   refine aw ?_
   refine ad aa 4 rfl ?_
   refine bK (t:=34) rfl (fun hb4=>?_) (fun hb4=>?_)
   ·
    have hb4':=of_decide_eq_true hb4
    refine ad aa 14 rfl ?_
    refine af ?_
    exact aF.bF 19 rfl rfl (by first|(simp [hb4];done)|(simp_all;done)|(exfalso;simp_all;done)|(simp_all;omega)) rfl
   have hb4':=of_decide_eq_false hb4
   refine ad aa 5 rfl ?_
   refine bK (t:=39) rfl (fun hb5=>?_) (fun hb5=>?_)
   ·
    have hb5':=of_decide_eq_true hb5
    refine ad aa 9 rfl ?_
    refine af ?_
    exact aF.bF 20 rfl rfl (by first|(simp [hb4,hb5];done)|(simp_all;done)|(exfalso;simp_all;done)|(simp_all;omega)) rfl
   have hb5':=of_decide_eq_false hb5
   refine ad aa 5 rfl ?_
   refine bK (t:=44) rfl (fun hb6=>?_) (fun hb6=>?_)
   ·
    have hb6':=of_decide_eq_true hb6
    refine ad aa 4 rfl ?_
    refine af ?_
    exact aF.bF 21 rfl rfl (by first|(simp [hb4,hb5,hb6];done)|(simp_all;done)|(exfalso;simp_all;done)|(simp_all;omega)) rfl
   have hb6':=of_decide_eq_false hb6
   refine ad aa 4 rfl ?_
   refine af ?_
   exact aF.bF 21 rfl rfl (by first|(simp [hb4,hb5,hb6];done)|(simp_all;done)|(exfalso;simp_all;done)|(simp_all;omega)) rfl
  refine aj rfl (fun hc7=>?_) (fun hc7=>?_)
  ·
   have hc7':=hc7;try simp only [bx,bV] at hc7'
   refine ae aa 2 rfl ?_
   refine aA ?_
   refine ax ?_
   refine bp ?_
   refine ax ?_
   refine ax ?_
   refine bp ?_
   refine ax ?_
   refine dh (aF.nil 4 115 2 (by decide) rfl) ?_
   have hX:gp l es=(([]:List Entry),3):=by
     unfold gp;rw [if_neg (by rw [hr0];omega),if_neg (by omega),if_pos ⟨x1,List.mem_of_getElem? hx1,by unfold fu;omega⟩]
   rw [hX] at hr;clear hX
   simp only [Prod.mk.injEq] at hr;obtain ⟨rfl,rfl⟩:=hr
   refine aq aa [1] 1 rfl rfl rfl rfl rfl rfl ?_ ?_
   all_goals first|rfl|(simp [aD];done)|(simp [aD];omega)
  have hc7':=hc7;try simp only [bx,bV] at hc7'
  refine aQ ?_
  refine aw ?_
  refine ad aa 3 rfl ?_
  refine az (aK rfl rfl rfl (aL (by first|omega|(simp;done)|(simp;omega)))) rfl ?_
  refine ad aa 1 rfl ?_
  refine cf ?_
  refine bf ?_
  refine then_ok ?_
  refine aw ?_
  refine az (aK rfl rfl rfl (aL (by first|omega|(simp;done)|(simp;omega)))) rfl ?_
  refine ad aa 1 rfl ?_
  refine af ?_
  refine ⟨q+1,⟨by omega,yw hi0_1 hx1 (by unfold fu;omega),by rw [jK hx1];omega⟩,by first|omega|(simp;done)|(simp;omega),aF.bL id (by refine ⟨?_,?_,?_,?_,?_,?_,trivial⟩<;>first|rfl|(simp only [ba];done)|(congr 3;omega)|(congr 4;omega)|(simp only [bb];rfl)|(rw [jK hx1];rfl)) (trivial) rfl⟩
 have hc3':=of_decide_eq_false hc3
 refine bT ?_
 refine aN ?_
 refine aN ?_
 refine bA ?_
 refine then_ok ?_
 refine ag ?_
 refine ae aa 2 rfl ?_
 refine aj rfl (fun hc8=>?_) (fun hc8=>?_)
 ·
  have hc8':=of_decide_eq_true hc8
  refine ae aa 2 rfl ?_
  refine aA ?_
  refine ax ?_
  refine dh (aF.nil 4 115 2 (by decide) rfl) ?_
  have hX:gp l es=(([]:List Entry),8):=by
    (have hs:=xg (es:=es) (q:=q) (by omega));(have hnb:=tH hi0_1 (by omega));unfold gp;rw [if_neg (by rw [hr0];omega),if_neg (by omega),if_neg (fun ⟨x,hx,hb⟩=>hnb x hx hb),if_pos (by omega)]
  rw [hX] at hr;clear hX
  simp only [Prod.mk.injEq] at hr;obtain ⟨rfl,rfl⟩:=hr
  refine aq aa [0] 1 rfl rfl rfl rfl rfl rfl ?_ ?_
  all_goals first|rfl|(simp [aD];done)|(simp [aD];omega)
 have hc8':=of_decide_eq_false hc8
 refine aQ ?_
 have h0:(ek l).err=0:=by rw [hr0];omega
 have hR:jB l:=(lp.1 h0).1
 have hRl:=tz hR
 have hs:=xg (es:=es) (q:=q) (by omega)
 have hnb:=tH hi0_1 (by omega)
 refine aH aa 1 rfl ?_
 refine aT 1 [0] (bU 0 (uD l (by first|omega|(simp;done)|(simp;omega))) Gb rfl rfl ⟨⟨_,rfl,.c (.d _)⟩,trivial⟩ trivial ⟨(fun _ _ _ _=>trivial),trivial⟩ rfl rfl rfl rfl) rfl ?_
 refine ad aa 1 rfl ?_
 refine af ?_
 refine ag ?_
 refine aH aa 1 rfl ?_
 refine az (bP rfl rfl rfl rfl rfl Try.underlying44) rfl ?_
 refine ad aa 1 rfl ?_
 refine af ?_
 refine aR ?_
 refine ch (β:=Nat×List Entry) (fun (p:Nat×List Entry)=>match p with|(p,m)=>⟨[(0,(aC (cZ l))),(1,(aC (cZ es))),(7,(aI (eD (es.take q)))),(25,(aC (cZ es))),(26,(aI (↑es.length:Int))),(27,(aI (↑q:Int))),(10,(aC (.s 0 0 2 m.length))),(58,(aC (cZ es))),(59,(aI (↑es.length:Int))),(60,(aI (↑p:Int)))],[(0,(lU m))],1⟩) (fun (p:Nat×List Entry)=>match p with|(p,m)=>p<=es.length/\jB m/\fL l es=fL m (es.drop p)) (fun (p:Nat×List Entry)=>match p with|(p,m)=>es.length - p) (0,l) ?_ ?_ ?_
 ·exact ⟨by omega,hR,rfl⟩
 ·exact aF.bL id (by refine ⟨?_,?_,?_,?_,?_,?_,?_,?_,?_,?_,trivial⟩<;>first|rfl|(simp only [ba];done)|(congr 3;omega)|(congr 4;omega)|(simp only [bb];rfl)) (⟨by first|rfl|(simp only [ba];done)|(congr 3;omega)|(congr 4;omega)|(simp only [bb];rfl),trivial⟩) rfl
 rintro ⟨p,m⟩ ⟨hi1_0,hi1_1,hi1_2⟩
 refine ae aa 1 rfl ?_
 refine ag ?_
 refine aj rfl (fun hc9=>?_) (fun hc9=>?_)
 ·
  have hc9':=of_decide_eq_true hc9
  refine aQ ?_
  refine ag ?_
  refine aR ?_
  refine eK ?_
  obtain ⟨x1,hx1⟩:=cg (xs:=es) (i:=p) (by first|omega|(simp;done)|(simp;omega))
  have hx1n:=hnb x1 (List.mem_of_getElem? hx1)
  have hx1b:0<=x1.aW/\x1.aW<=57/\-1000000000000<=x1.sum/\x1.sum<=1000000000000:=by unfold fu at hx1n;omega
  refine az (bX (i:=p) rfl rfl rfl Try.underlying44 dZ (by first|omega|(simp;done)|(simp;omega)) (bj hx1)) rfl ?_
  refine ad aa 3 rfl ?_
  refine af ?_
  refine aH aa 2 rfl ?_
  obtain ⟨r1,g1,hr1⟩:∃ (r1:List Entry) (g1:Bool),jW m x1=(r1,g1):=⟨_,_,rfl⟩
  obtain ⟨hp1,hg1⟩:=Prod.mk.inj hr1
  refine aT 3 [2,1] (cO id (bh [2]) (Gq m x1 (by exact (show jB _ by assumption).up) (by (have:=tz (show jB _ by assumption);omega)) (by (intro y hy;have:=(show jB _ by assumption).ok y hy;omega)) (by (unfold fu at *;omega)) r1 g1 hr1) Ga rfl rfl ⟨⟨_,rfl,.inl ⟨rfl,rfl⟩⟩,⟨_,rfl,.inr (.g ⟨.d _,.d _,trivial⟩)⟩,trivial⟩ ⟨rfl,trivial⟩ rfl rfl rfl rfl rfl rfl ⟨trivial,trivial,trivial⟩ ⟨(fun _ _ _ _=>trivial),trivial⟩ rfl rfl rfl rfl) rfl ?_
  refine ad aa 5 rfl ?_
  refine af ?_
  refine ag ?_
  refine ae aa 2 rfl ?_
  refine aj rfl (fun hc10=>?_) (fun hc10=>?_)
  ·
   have hc10':=hc10;try simp only [bx,bV] at hc10'
   refine ae aa 2 rfl ?_
   refine aA ?_
   refine ax ?_
   refine bp ?_
   refine ax ?_
   refine ax ?_
   refine bp ?_
   refine ax ?_
   refine dh (aF.nil 4 115 2 (by decide) rfl) ?_
   have hX:gp l es=(([]:List Entry),4):=by
     rw [vj h0 (by omega) hnb (by omega),hi1_2,qg hx1,if_neg (by simp_all)]
   rw [hX] at hr;clear hX
   simp only [Prod.mk.injEq] at hr;obtain ⟨rfl,rfl⟩:=hr
   refine aq aa [3] 1 rfl rfl rfl rfl rfl rfl ?_ ?_
   all_goals first|rfl|(simp [aD];done)|(simp [aD];omega)
  have hc10':=hc10;try simp only [bx,bV] at hc10'
  refine aQ ?_
  refine aw ?_
  refine ad aa 2 rfl ?_
  refine cf ?_
  refine bf ?_
  refine then_ok ?_
  refine aw ?_
  refine az (aK rfl rfl rfl (aL (by first|omega|(simp;done)|(simp;omega)))) rfl ?_
  refine ad aa 1 rfl ?_
  refine af ?_
  refine ⟨(p+1,r1),⟨by omega,by rw [<-hp1];exact rz hi1_1 (by omega) (tU.1 (by rw [hg1];simp_all)),by rw [hi1_2,qg hx1,if_pos (by rw [hg1];simp_all),hp1]⟩,by first|omega|(simp;done)|(simp;omega),aF.bL (fun k=>if k=0 then 2 else k) (by refine ⟨?_,?_,?_,?_,?_,?_,?_,?_,?_,?_,trivial⟩<;>first|rfl|(simp only [ba];done)|(congr 3;omega)|(congr 4;omega)|(simp only [bb];rfl)) (⟨by first|rfl|(simp only [ba];done)|(congr 3;omega)|(congr 4;omega)|(simp only [bb];rfl),trivial⟩) rfl⟩
 have hc9':=of_decide_eq_false hc9
 refine bT ?_
 refine aN ?_
 refine aN ?_
 refine bA ?_
 refine then_ok ?_
 refine ae aa 3 rfl ?_
 refine aA ?_
 have hX:gp l es=(m,0):=by
   rw [vj h0 (by omega) hnb (by omega),Di hi1_2 (by omega)]
 rw [hX] at hr;clear hX
 simp only [Prod.mk.injEq] at hr;obtain ⟨rfl,rfl⟩:=hr
 refine aq aa [0] 1 rfl rfl rfl rfl rfl rfl ?_ ?_
 all_goals first|rfl|(simp [aD];done)|(simp [aD];omega)


def jb (l:List Entry) (src dst n:Int):List Entry×Int:=if n < 0\/n > 1000000000000 then ([],3) else gp l [⟨src,0 - n⟩,⟨dst,n⟩]
theorem BD {l es r : List Entry} (h : gp l es = (r, 0)) : (ek l).err = 0 ∧ es.length ≤ 10 ∧ (∀ x ∈ es, ¬ fu x) ∧ eD es = 0 ∧ fL l es = some r := by
  unfold gp at h
  split at h
  · rename_i h0; injection h with _ h1; exact absurd h1 h0
  rename_i h0
  split at h
  · injection h with _ h1; cases h1
  rename_i h1
  split at h
  · injection h with _ h1; cases h1
  rename_i h2
  split at h
  · injection h with _ h1; cases h1
  rename_i h3
  split at h
  · rename_i r' hr
    injection h with h4 _
    subst h4
    exact ⟨by omega, by omega, fun x hx hb => h2 ⟨x, hx, hb⟩, by omega, hr⟩
  · injection h with _ h1; cases h1
theorem oL {l es r:List Entry} (h:gp l es=(r,0)) (a:Int):(ek r).err=0/\db r a=db l a+lN a es:=by
  obtain ⟨h1,h2,h3,h4,h5⟩:=BD h
  obtain ⟨h6,h7⟩:=lp.1 h1
  obtain ⟨h8,h9⟩:=oP h6 h3 h5
  exact ⟨lp.2 ⟨h8,by omega⟩,rH h6.up h5⟩

theorem wZ (l:List Entry) (src dst n:Int) (r:List Entry) (e:Int) (hr:jb l src dst n=(r,e)):Fn Try.prog 98 [(.c (cZ l)),(.c (cI src)),(.c (cI dst)),(.c (cI n))] (.t [(.c (.s 0 0 2 r.length)),(.c (cI e))]) [(0,(lU r))]:=by
 refine Fn.mk' 28 [(0,(aC (cZ l))),(1,(aI src)),(2,(aI dst)),(3,(aI n))] Try.func98 rfl rfl rfl rfl ?_
 intro W0 T0
 refine dq 0 rfl (fun hlen0=>?_)
 refine ae aa 2 rfl ?_
 refine ag ?_
 refine cr 15 ((decide (n < 0))||(decide (n > 1000000000000))) ?_ ?_
 ·
  refine aw ?_
  refine ad aa 3 rfl ?_
  refine bK (t:=12) rfl (fun hb1=>?_) (fun hb1=>?_)
  ·
   have hb1':=of_decide_eq_true hb1
   refine ad aa 3 rfl ?_
   refine af ?_
   exact aF.bF 7 rfl rfl (by first|(simp [hb1];done)|(simp_all;done)|(exfalso;simp_all;done)|(simp_all;omega)) rfl
  have hb1':=of_decide_eq_false hb1
  refine ad aa 3 rfl ?_
  refine af ?_
  exact aF.bF 7 rfl rfl (by first|(simp [hb1];done)|(simp_all;done)|(exfalso;simp_all;done)|(simp_all;omega)) rfl
 refine aj rfl (fun hc2=>?_) (fun hc2=>?_)
 ·
  have hc2':=hc2;try simp only [bx,bV] at hc2'
  refine ae aa 2 rfl ?_
  refine aA ?_
  refine ax ?_
  refine dh (aF.nil 8 115 2 (by decide) rfl) ?_
  have hX:jb l src dst n=(([]:List Entry),3):=by
    unfold jb;rw [if_pos (by omega)]
  rw [hX] at hr;clear hX
  simp only [Prod.mk.injEq] at hr;obtain ⟨rfl,rfl⟩:=hr
  refine aq aa [0] 1 rfl rfl rfl rfl rfl rfl ?_ ?_
  all_goals first|rfl|(simp [aD];done)|(simp [aD];omega)
 have hc2':=hc2;try simp only [bx,bV] at hc2'
 refine aQ ?_
 refine aH aa 3 rfl ?_
 refine az (pb rfl rfl (aL (by first|omega|(simp;done)|(simp;omega)))) rfl ?_
 refine ad aa 4 rfl ?_
 refine aT 1 [0] (ec (ys:=[(0,(.g [(cI src),(cI (0 - n))])),(1,(.g [(cI dst),(cI n)]))]) (rows:=([(⟨src,0 - n⟩:Entry),(⟨dst,n⟩:Entry)]).map eH) 0 km rfl (by decide) ⟨⟨rfl,rfl⟩,⟨rfl,rfl⟩,trivial⟩ rfl rfl rfl rfl) rfl ?_
 obtain ⟨r0,e0,hr0⟩:∃ (r0:List Entry) (e0:Int),gp l ([(⟨src,0 - n⟩:Entry),(⟨dst,n⟩:Entry)])=(r0,e0):=⟨_,_,rfl⟩
 refine aT 2 [1,0] (ga 1 [0] (wY l ([(⟨src,0 - n⟩:Entry),(⟨dst,n⟩:Entry)]) r0 e0 hr0) Gd rfl rfl ⟨⟨_,rfl,.c (.d _)⟩,⟨_,rfl,.c (.s rfl (by decide) (by first|omega|(simp;done)|(simp;omega)))⟩,trivial⟩ ⟨trivial,rfl,trivial⟩ ⟨(yD _),trivial⟩ rfl rfl rfl rfl) rfl ?_
 refine ad aa 4 rfl ?_
 refine af ?_
 refine aA ?_
 have hX:jb l src dst n=(r0,e0):=by
   unfold jb;rw [if_neg (by omega)];assumption
 rw [hX] at hr;clear hX
 simp only [Prod.mk.injEq] at hr;obtain ⟨rfl,rfl⟩:=hr
 refine aq aa [1] 1 rfl rfl rfl rfl rfl rfl ?_ ?_
 all_goals first|rfl|(simp [aD];done)|(simp [aD];omega)
end Go.Proofs.Ytegepioggeggaaa.Dev
