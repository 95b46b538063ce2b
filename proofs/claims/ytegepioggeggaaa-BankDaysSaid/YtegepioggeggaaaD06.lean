/- A part of the proof: Book4, PlBook, Com, Book5, Book7, Book9, PlSort. No condition. -/
import Derived.Test.YtegepioggeggaaaD05
set_option linter.unusedVariables false
set_option linter.unusedSimpArgs false
set_option maxHeartbeats 2000000
set_option maxRecDepth 100000
namespace Go.Proofs.Ytegepioggeggaaa.Dev
open Go.RowKit


theorem zr (l:List Entry) (t:Int) (fn:FuncId) (bg:List (List D)) (hp:∀ x:Entry,Fn Try.prog fn ([.g [cI x.aV,cI x.sum],.c (cI t)]++bg.map fun r=>GV.c (.q r 0)) (aI (ez x.aV t)) []) (hen:bl Try.prog fn) (hu:Up l) (hl:l.length * 16<=140737488355328) (k:Nat) (f:Bool) (hr:(ef l t,fO l t)=(k,f)):Fn Try.prog 119 [.c (cR 2 (l.map eJ)),.c (cI t),.c (.d (.f fn bg))] (.t [.c (cI (k:Int)),.c (cB f)]) []:=by
  obtain ⟨h1,h2⟩:=Prod.mk.inj hr
  exact tm l t fn bg hp hen hu hl (k:Int) f (by unfold uA;rw [h1,h2])
def jH:List Entry->Int->Int
  |[],_=>0
  |x::l,a=>if x.aV=a then x.sum else jH l a
def iW (l:List Entry) (a s:Int):List Entry:=l.take (ef l a)++(if s=0 then [] else [⟨a,s⟩])++l.drop (if fO l a=true then ef l a+1 else ef l a)
def iF (s:Int):Bool:=decide (s>=-1000000000000) && decide (s<=1000000000000)
def jZ (l:List Entry) (e:Entry):List Entry×Bool:=(iW l e.aV (jH l e.aV+e.sum),iF (jH l e.aV+e.sum))
theorem oU {x:Entry} {l:List Entry} {a:Int} (h:x.aV < a):fO (x::l) a=fO l a:=by
  have h1:ef (x::l) a=ef l a+1:=by simp [ef,h]
  unfold fO;rw [h1,List.getElem?_cons_succ]
theorem mw {x:Entry} {l:List Entry} {a:Int} (h:¬x.aV < a):fO (x::l) a=decide (x.aV=a):=by
  unfold fO ef;rw [if_neg h];rfl
theorem qq {a:Int}:∀ {l:List Entry},(∀ x∈l,a < x.aV)->jH l a=0
  |[],_=>rfl
  |x::l,h=>by
    unfold jH
    rw [if_neg (by have:=h x List.mem_cons_self;omega)]
    exact qq fun y hy=>h y (List.mem_cons_of_mem _ hy)
theorem vZ {a : Int} : ∀ {l : List Entry} {x : Entry}, Up l → fO l a = true → l[ef l a]? = some x → x.aV = a ∧ jH l a = x.sum
  | [], x, _, _, h => by simp at h
  | y :: l, x, hu, hh, h => by
    obtain ⟨h1, h2⟩ := List.pairwise_cons.1 hu
    by_cases hy : y.aV < a
    · rw [oU hy] at hh
      unfold ef at h; rw [if_pos hy] at h
      obtain ⟨h3, h4⟩ := vZ h2 hh (by simpa using h)
      refine ⟨h3, ?_⟩
      unfold jH; rw [if_neg (by omega)]; exact h4
    · rw [mw hy] at hh
      unfold ef at h; rw [if_neg hy] at h
      simp at h hh
      subst h
      exact ⟨hh, by unfold jH; rw [if_pos hh]⟩
theorem vY {a : Int} : ∀ {l : List Entry}, Up l → fO l a = false → jH l a = 0
  | [], _, _ => rfl
  | y :: l, hu, hh => by
    obtain ⟨h1, h2⟩ := List.pairwise_cons.1 hu
    by_cases hy : y.aV < a
    · rw [oU hy] at hh
      unfold jH; rw [if_neg (by omega)]; exact vY h2 hh
    · rw [mw hy] at hh
      simp at hh
      unfold jH; rw [if_neg hh]
      exact qq fun x hx => by have := h1 x hx; omega
theorem En {a : Int} {l : List Entry} (h : fO l a = true) : ef l a < l.length := by
  by_cases hl : ef l a < l.length
  · exact hl
  · unfold fO at h
    rw [List.getElem?_eq_none (by omega)] at h
    cases h
theorem vc {a:Int} (l:List Entry):(l.take (ef l a)).length=ef l a:=by rw [List.length_take];have:=mT a l;omega
theorem AE {l:List Entry} {k:Nat} {x y:Entry} (hk:k<=l.length) (h:(jc l k x)[k]?=some y):y=x:=by
  have h1:(l.take k).length=k:=by rw [List.length_take];omega
  unfold jc at h
  rw [List.append_assoc,List.getElem?_append_right (by omega),h1,Nat.sub_self] at h
  simp at h
  exact h.symm
theorem El {l:List Entry} {k:Nat} {x y:Entry} (hk:k<=l.length):(jc l k x).set k y=l.take k++[y]++l.drop k:=by
  have h1:(l.take k).length=k:=by rw [List.length_take];omega
  unfold jc
  rw [List.append_assoc,List.set_append_right _ _ (by omega),h1,Nat.sub_self]
  simp
theorem Em {l:List Entry} {k:Nat} {y:Entry} (hk:k < l.length):l.set k y=l.take k++[y]++l.drop (k+1):=by
  rw [List.set_eq_take_append_cons_drop,if_pos hk];simp
theorem Bd {A B:List Entry} {y:Entry} {k:Nat} (h:A.length=k):lz (A++[y]++B) k (k+1)=A++B:=by
  subst h
  unfold lz
  simp
theorem nv {l:List Entry} {e x y:Entry} {k:Nat} (hu:Up l) (hk:ef l e.aV=k) (hh:fO l e.aV=true) (hx:l[k]?=some x) (hy:y=⟨x.aV,x.sum+e.sum⟩):
    jZ l e=(if x.sum+e.sum=0 then lz (l.set k y) k (k+1) else l.set k y,iF (x.sum+e.sum)):=by
  subst hk hy
  obtain ⟨h1,h2⟩:=vZ hu hh hx
  have hlt:=(List.getElem?_eq_some_iff.1 hx).1
  unfold jZ iW
  rw [h2,if_pos hh,Em hlt,h1]
  split
  ·rw [Bd (vc l)];simp
  ·rfl
theorem nu {l:List Entry} {e x y:Entry} {k:Nat} {r:List Entry} (hu:Up l) (hk:ef l e.aV=k) (hh:fO l e.aV=false) (hr:jc l k ⟨e.aV,0⟩=r) (hx:r[k]?=some x) (hy:y=⟨x.aV,x.sum+e.sum⟩):
    jZ l e=(if x.sum+e.sum=0 then lz (r.set k y) k (k+1) else r.set k y,iF (x.sum+e.sum)):=by
  subst hk hr
  have h0:=mT e.aV l
  have h1:=AE h0 hx
  subst h1 hy
  have h2:=vY hu hh
  unfold jZ iW
  rw [h2,El h0,if_neg (show ¬fO l e.aV=true by rw [hh];exact Bool.false_ne_true)]
  split
  ·rw [Bd (vc l)];simp
  ·rfl
theorem zV {l:List Entry} {k:Nat} {y z:Entry} (h:(l.set k y)[k]?=some z):z=y:=by
  have hlt:=(List.getElem?_eq_some_iff.1 h).1
  rw [List.length_set] at hlt
  rw [List.getElem?_set_self hlt] at h
  exact (Option.some.inj h).symm
theorem Hk (l:List Entry) (e:Entry) (hu:Up l) (hl:(l.length+1) * 16<=140737488355328) (hb:∀ x∈l,-1000000000000<=x.sum/\x.sum<=1000000000000) (he:-1000000000000<=e.sum/\e.sum<=1000000000000) (r:List Entry) (g:Bool) (hr:jZ l e=(r,g)):cJ Try.prog 116 [(.c (.s 0 0 2 l.length)),(.g [(cI e.aV),(cI e.sum)])] [(0,(mf l))] [] (.t [(.c (.s 0 0 2 r.length)),(.c (cB g))]) [(0,(mf r))]:=by
 refine cJ.mk 62 [(0,(aC (.s 0 0 2 l.length))),(1,(aG [(cI e.aV),(cI e.sum)]))] 1 Try.func116 rfl rfl rfl rfl rfl rfl rfl rfl rfl ?_
 intro W0 F0 T0 pg
 refine gJ 0 rfl (fun hlen0=>?_)
 refine ae aa 3 rfl ?_
 refine aF aa 3 rfl ?_
 obtain ⟨k0,f0,hr0⟩:∃ (k0:Nat) (f0:Bool),(ef l e.aV,fO l e.aV)=(k0,f0):=⟨_,_,rfl⟩
 obtain ⟨hk0,hf0⟩:=Prod.mk.inj hr0
 have hkl:=mT e.aV l
 rw [hk0] at hkl
 refine aQ 2 [1,0] (fe 2 [0] (zr l e.aV 120 ([]) (fun x=>Gd x e.aV) GS (by first|assumption) (by omega) k0 f0 hr0) GU rfl rfl ⟨⟨_,rfl,.c (.s rfl (by decide) (by first|omega|(simp;done)|(simp;omega)))⟩,⟨_,rfl,.c (.d _)⟩,⟨_,rfl,.c (.fn trivial)⟩,trivial⟩ ⟨rfl,rfl,trivial⟩ trivial rfl rfl rfl rfl) rfl ?_
 refine ad aa 5 rfl ?_
 refine af ?_
 refine ag ?_
 refine ae aa 2 rfl ?_
 refine aj rfl (fun hc1=>?_) (fun hc1=>?_)
 ·
  have hc1':=hc1;try simp only [br,bR] at hc1'
  refine ax ?_
  refine ad aa 5 rfl ?_
  refine aQ 3 [2,1,0] (dV (ys:=[(0,(.g [(cI e.aV),(cI 0)]))]) (rows:=([(⟨e.aV,0⟩:Entry)]).map eJ) 2 kx rfl (by decide) ⟨⟨rfl,rfl⟩,trivial⟩ rfl rfl rfl rfl) rfl ?_
  obtain ⟨r1,hr1⟩:∃ (r1:List Entry),jc l k0 (⟨e.aV,0⟩:Entry)=r1:=⟨_,rfl⟩
  have hl1:r1.length=l.length+1:=by rw [<-hr1];exact Cq hkl
  refine aQ 4 [3,1] (cL (bf [0,2]) (bf [3,2]) (tp l k0 (⟨e.aV,0⟩:Entry) (by first|omega|(simp;done)|(simp;omega)) (by first|omega|(simp;done)|(simp;omega)) r1 hr1) GR rfl rfl ⟨⟨_,rfl,.inl ⟨rfl,rfl⟩⟩,⟨_,rfl,.inr (.c (.d _))⟩,⟨_,rfl,.inl ⟨rfl,rfl⟩⟩,trivial⟩ ⟨rfl,rfl,trivial⟩ rfl rfl rfl rfl rfl rfl trivial ⟨(fun _ _ _ _=>trivial),trivial⟩ rfl rfl rfl rfl) rfl ?_
  refine ad aa 1 rfl ?_
  refine af ?_
  refine ag ?_
  obtain ⟨x1,hx1⟩:=cf (xs:=r1) (i:=k0) (by first|omega|(simp;done)|(simp;omega))
  have hx1q:=AE hkl (show (jc l k0 ⟨e.aV,0⟩)[k0]?=some x1 by rw [hr1];exact hx1)
  have hx1b:x1.sum=0:=by rw [hx1q]
  refine aX [0,3,6] [3,1] mixed rfl rfl ?_
  refine aD (kn:=[]) aa 2 rfl trivial ?_
  refine aT (n':=4) [25,26] [3] rfl rfl (.inl ⟨(ak.plain rfl),aK.cast (bz (i:=k0) rfl rfl rfl Try.underlying44 ep (by first|omega|(simp;done)|(simp;omega)) (by first|omega|(simp;done)|(simp;omega))) rfl⟩) rfl ?_
  refine aD (kn:=[]) aa 1 rfl trivial ?_
  refine aT (n':=4) [28] [3] rfl rfl (.inl ⟨(ak.plain rfl),aK.cast (eS rfl rfl rfl Try.underlying3 rfl (bp hx1) rfl) rfl⟩) rfl ?_
  refine aD (kn:=[]) aa 2 rfl trivial ?_
  refine aT (n':=4) [29,31] [] rfl rfl (.inl ⟨(ak.plain rfl),aK.cast (aM rfl rfl rfl (aL (by first|omega|(simp;done)|(simp;omega)))) rfl⟩) rfl ?_
  refine aT (n':=4) [25,26] [3] rfl rfl (.inl ⟨(ak.plain rfl),aK.cast (bz (i:=k0) rfl rfl rfl Try.underlying44 ep (by first|omega|(simp;done)|(simp;omega)) (by first|omega|(simp;done)|(simp;omega))) rfl⟩) rfl ?_
  refine aD (kn:=[]) aa 1 rfl trivial ?_
  refine bA [3,1] rfl rfl rfl rfl (by kernel_rfl) ?_
  refine gj [3,1] (dR (ds:=[(dI (x1.sum+e.sum))]) rfl rfl rfl rfl rfl gF rfl (Nat.le_of_ble_eq_true rfl) (bp hx1) rfl (eX (x':=(⟨x1.aV,x1.sum+e.sum⟩:Entry)) rfl)) rfl ?_
  refine af ?_
  refine aF aa 2 rfl ?_
  refine aA (bz (i:=k0) rfl rfl rfl Try.underlying44 ep (by first|omega|(simp;done)|(simp;omega)) (by first|omega|(simp;done)|(simp;omega))) rfl ?_
  refine ad aa 1 rfl ?_
  obtain ⟨x2,hx2⟩:=cf (xs:=((r1).set k0 (⟨x1.aV,x1.sum+e.sum⟩:Entry))) (i:=k0) (by first|omega|(simp;done)|(simp;omega))
  have hx2e:=zV hx2
  have hx2s:x2.sum=x1.sum+e.sum:=by rw [hx2e]
  refine aA (eS rfl rfl rfl Try.underlying3 rfl (bp hx2) rfl) rfl ?_
  refine ad aa 2 rfl ?_
  refine bE (t:=41) rfl (fun hb2=>?_) (fun hb2=>?_)
  ·
   have hb2':=of_decide_eq_true hb2
   refine ad aa 2 rfl ?_
   refine dA (ak.yes rfl rfl rfl) (bz (i:=k0) rfl rfl rfl Try.underlying44 ep (by first|omega|(simp;done)|(simp;omega)) (by first|omega|(simp;done)|(simp;omega))) rfl rfl ?_
   refine ad aa 1 rfl ?_
   refine dA (ak.yes rfl rfl rfl) (eS rfl rfl rfl Try.underlying3 rfl (bp hx2) rfl) rfl rfl ?_
   refine ad aa 3 rfl ?_
   refine af ?_
   refine ag ?_
   refine aF aa 2 rfl ?_
   refine aA (bz (i:=k0) rfl rfl rfl Try.underlying44 ep (by first|omega|(simp;done)|(simp;omega)) (by first|omega|(simp;done)|(simp;omega))) rfl ?_
   refine ad aa 1 rfl ?_
   refine aA (eS rfl rfl rfl Try.underlying3 rfl (bp hx2) rfl) rfl ?_
   refine ad aa 1 rfl ?_
   refine af ?_
   refine aj rfl (fun hc3=>?_) (fun hc3=>?_)
   ·
    have hc3':=of_decide_eq_true hc3
    refine gI (st':=⟨[(0,(aC (.s 3 0 2 (((r1).set k0 (⟨x1.aV,x1.sum+e.sum⟩:Entry)).length)))),(3,(aC (.p 1 0 0 0))),(6,(aI (↑k0:Int))),(32,(aI (x1.sum+e.sum))),(34,(aC (.p 3 k0 2 1))),(35,(aC (.s 3 0 2 r1.length))),(36,(aI (↑k0:Int))),(37,(aC (.p 3 k0 2 0))),(38,(aC (.p 3 k0 2 1))),(39,(aI x2.sum)),(40,(aB (decide (x2.sum>=(-1000000000000))))),(41,(aB true)),(42,(aC (.s 3 0 2 r1.length))),(43,(aI (↑k0:Int))),(44,(aC (.p 3 k0 2 0))),(45,(aC (.p 3 k0 2 1))),(46,(aI x2.sum)),(47,(aB (decide (x2.sum<=1000000000000)))),(48,(aB (decide (x2.sum<=1000000000000)))),(8,(aB (decide (x2.sum<=1000000000000)))),(49,(aC (.s 3 0 2 r1.length))),(50,(aI (↑k0:Int))),(51,(aC (.p 3 k0 2 0))),(52,(aC (.p 3 k0 2 1))),(53,(aI x2.sum)),(54,(aB (decide (x2.sum=0))))],[(3,(mf ((r1).set k0 (⟨x1.aV,x1.sum+e.sum⟩:Entry)))),(1,(.box 115 [(cI e.aV),(cI e.sum)]))],4⟩) (aH.ca id (by refine ⟨?_,?_,?_,?_,?_,?_,?_,?_,?_,?_,?_,?_,?_,?_,?_,?_,?_,?_,?_,?_,?_,?_,?_,?_,?_,?_,trivial⟩<;>first|rfl|(simp only [bu];done)|(congr 3;omega)|(congr 4;omega)|(simp only [bw];rfl)) (by refine ⟨?_,?_,trivial⟩<;>first|rfl|(simp only [bu];done)|(congr 3;omega)|(congr 4;omega)|(simp only [bw];rfl)) rfl) ?_
    refine ax ?_
    refine ad aa 3 rfl ?_
    refine aA (aM rfl rfl rfl (aL (by first|omega|(simp;done)|(simp;omega)))) rfl ?_
    obtain ⟨r2,hr2⟩:∃ (r2:List Entry),lz ((r1).set k0 (⟨x1.aV,x1.sum+e.sum⟩:Entry)) k0 ((k0)+1)=r2:=⟨_,rfl⟩
    refine aQ 5 [4,1] (cL (bf [3]) (bf [4]) (jk ((r1).set k0 (⟨x1.aV,x1.sum+e.sum⟩:Entry)) k0 ((k0)+1) (by first|omega|(simp;done)|(simp;omega)) (by first|omega|(simp;done)|(simp;omega)) r2 hr2) uV rfl rfl ⟨⟨_,rfl,.inl ⟨rfl,rfl⟩⟩,⟨_,rfl,.inr (.c (.d _))⟩,⟨_,rfl,.inr (.c (.d _))⟩,trivial⟩ ⟨rfl,trivial⟩ rfl rfl rfl rfl rfl rfl trivial ⟨(fun _ _ _ _=>trivial),trivial⟩ rfl rfl rfl rfl) rfl ?_
    refine ad aa 1 rfl ?_
    refine af ?_
    refine ae aa 4 rfl ?_
    refine az ?_
    have hX:jZ l e=(r2,decide (x2.sum<=1000000000000)):=by
      rw [nu hu hk0 (show fO l e.aV=false by simp_all) hr1 hx1 rfl];unfold iF;rw [if_pos (by omega),hr2];refine Prod.ext rfl ?_;first|(simp;omega)|(simp_all;done)|(simp_all;omega)
    rw [hX] at hr;clear hX
    simp only [Prod.mk.injEq] at hr;obtain ⟨rfl,rfl⟩:=hr
    refine al aa [4] 1 rfl rfl rfl rfl rfl rfl ?_ ?_
    all_goals first|rfl|(simp [aw];done)|(simp [aw];omega)
   have hc3':=of_decide_eq_false hc3
   refine aS ?_
   refine ae aa 4 rfl ?_
   refine az ?_
   have hX:jZ l e=((r1).set k0 (⟨x1.aV,x1.sum+e.sum⟩:Entry),decide (x2.sum<=1000000000000)):=by
     rw [nu hu hk0 (show fO l e.aV=false by simp_all) hr1 hx1 rfl];unfold iF;rw [if_neg (by omega)];refine Prod.ext rfl ?_;first|(simp;omega)|(simp_all;done)|(simp_all;omega)
   rw [hX] at hr;clear hX
   simp only [Prod.mk.injEq] at hr;obtain ⟨rfl,rfl⟩:=hr
   refine al aa [3] 1 rfl rfl rfl rfl rfl rfl ?_ ?_
   all_goals first|rfl|(simp [aw];done)|(simp [aw];omega)
  have hb2':=of_decide_eq_false hb2
  refine ad aa 8 rfl ?_
  refine af ?_
  refine ag ?_
  refine aF aa 2 rfl ?_
  refine aA (bz (i:=k0) rfl rfl rfl Try.underlying44 ep (by first|omega|(simp;done)|(simp;omega)) (by first|omega|(simp;done)|(simp;omega))) rfl ?_
  refine ad aa 1 rfl ?_
  refine aA (eS rfl rfl rfl Try.underlying3 rfl (bp hx2) rfl) rfl ?_
  refine ad aa 1 rfl ?_
  refine af ?_
  refine aj rfl (fun hc4=>?_) (fun hc4=>?_)
  ·
   have hc4':=of_decide_eq_true hc4
   refine gI (st':=⟨[(0,(aC (.s 3 0 2 (((r1).set k0 (⟨x1.aV,x1.sum+e.sum⟩:Entry)).length)))),(3,(aC (.p 1 0 0 0))),(6,(aI (↑k0:Int))),(32,(aI (x1.sum+e.sum))),(34,(aC (.p 3 k0 2 1))),(35,(aC (.s 3 0 2 r1.length))),(36,(aI (↑k0:Int))),(37,(aC (.p 3 k0 2 0))),(38,(aC (.p 3 k0 2 1))),(39,(aI x2.sum)),(40,(aB (decide (x2.sum>=(-1000000000000))))),(41,(aB false)),(48,(aB false)),(8,(aB false)),(49,(aC (.s 3 0 2 r1.length))),(50,(aI (↑k0:Int))),(51,(aC (.p 3 k0 2 0))),(52,(aC (.p 3 k0 2 1))),(53,(aI x2.sum)),(54,(aB (decide (x2.sum=0))))],[(3,(mf ((r1).set k0 (⟨x1.aV,x1.sum+e.sum⟩:Entry)))),(1,(.box 115 [(cI e.aV),(cI e.sum)]))],4⟩) (aH.ca id (by refine ⟨?_,?_,?_,?_,?_,?_,?_,?_,?_,?_,?_,?_,?_,?_,?_,?_,?_,?_,?_,?_,trivial⟩<;>first|rfl|(simp only [bu];done)|(congr 3;omega)|(congr 4;omega)|(simp only [bw];rfl)) (by refine ⟨?_,?_,trivial⟩<;>first|rfl|(simp only [bu];done)|(congr 3;omega)|(congr 4;omega)|(simp only [bw];rfl)) rfl) ?_
   refine ax ?_
   refine ad aa 3 rfl ?_
   refine aA (aM rfl rfl rfl (aL (by first|omega|(simp;done)|(simp;omega)))) rfl ?_
   obtain ⟨r3,hr3⟩:∃ (r3:List Entry),lz ((r1).set k0 (⟨x1.aV,x1.sum+e.sum⟩:Entry)) k0 ((k0)+1)=r3:=⟨_,rfl⟩
   refine aQ 5 [4,1] (cL (bf [3]) (bf [4]) (jk ((r1).set k0 (⟨x1.aV,x1.sum+e.sum⟩:Entry)) k0 ((k0)+1) (by first|omega|(simp;done)|(simp;omega)) (by first|omega|(simp;done)|(simp;omega)) r3 hr3) uV rfl rfl ⟨⟨_,rfl,.inl ⟨rfl,rfl⟩⟩,⟨_,rfl,.inr (.c (.d _))⟩,⟨_,rfl,.inr (.c (.d _))⟩,trivial⟩ ⟨rfl,trivial⟩ rfl rfl rfl rfl rfl rfl trivial ⟨(fun _ _ _ _=>trivial),trivial⟩ rfl rfl rfl rfl) rfl ?_
   refine ad aa 1 rfl ?_
   refine af ?_
   refine ae aa 4 rfl ?_
   refine az ?_
   have hX:jZ l e=(r3,false):=by
     rw [nu hu hk0 (show fO l e.aV=false by simp_all) hr1 hx1 rfl];unfold iF;rw [if_pos (by omega),hr3];refine Prod.ext rfl ?_;first|(simp;omega)|(simp_all;done)|(simp_all;omega)
   rw [hX] at hr;clear hX
   simp only [Prod.mk.injEq] at hr;obtain ⟨rfl,rfl⟩:=hr
   refine al aa [4] 1 rfl rfl rfl rfl rfl rfl ?_ ?_
   all_goals first|rfl|(simp [aw];done)|(simp [aw];omega)
  have hc4':=of_decide_eq_false hc4
  refine aS ?_
  refine ae aa 4 rfl ?_
  refine az ?_
  have hX:jZ l e=((r1).set k0 (⟨x1.aV,x1.sum+e.sum⟩:Entry),false):=by
    rw [nu hu hk0 (show fO l e.aV=false by simp_all) hr1 hx1 rfl];unfold iF;rw [if_neg (by omega)];refine Prod.ext rfl ?_;first|(simp;omega)|(simp_all;done)|(simp_all;omega)
  rw [hX] at hr;clear hX
  simp only [Prod.mk.injEq] at hr;obtain ⟨rfl,rfl⟩:=hr
  refine al aa [3] 1 rfl rfl rfl rfl rfl rfl ?_ ?_
  all_goals first|rfl|(simp [aw];done)|(simp [aw];omega)
 have hc1':=hc1;try simp only [br,bR] at hc1'
 refine aS ?_
 have hk0lt:k0 < l.length:=by have:=En (l:=l) (a:=e.aV) (by simp_all);omega
 refine ag ?_
 obtain ⟨x1,hx1⟩:=cf (xs:=l) (i:=k0) (by first|omega|(simp;done)|(simp;omega))
 have hx1b:=hb x1 (List.mem_of_getElem? hx1)
 refine aX [0,3,6] [1,0] mixed rfl rfl ?_
 refine aD (kn:=[]) aa 2 rfl trivial ?_
 refine aT (n':=2) [25,26] [0] rfl rfl (.inl ⟨(ak.plain rfl),aK.cast (bz (i:=k0) rfl rfl rfl Try.underlying44 ep (by first|omega|(simp;done)|(simp;omega)) (by first|omega|(simp;done)|(simp;omega))) rfl⟩) rfl ?_
 refine aD (kn:=[]) aa 1 rfl trivial ?_
 refine aT (n':=2) [28] [0] rfl rfl (.inl ⟨(ak.plain rfl),aK.cast (eS rfl rfl rfl Try.underlying3 rfl (bp hx1) rfl) rfl⟩) rfl ?_
 refine aD (kn:=[]) aa 2 rfl trivial ?_
 refine aT (n':=2) [29,31] [] rfl rfl (.inl ⟨(ak.plain rfl),aK.cast (aM rfl rfl rfl (aL (by first|omega|(simp;done)|(simp;omega)))) rfl⟩) rfl ?_
 refine aT (n':=2) [25,26] [0] rfl rfl (.inl ⟨(ak.plain rfl),aK.cast (bz (i:=k0) rfl rfl rfl Try.underlying44 ep (by first|omega|(simp;done)|(simp;omega)) (by first|omega|(simp;done)|(simp;omega))) rfl⟩) rfl ?_
 refine aD (kn:=[]) aa 1 rfl trivial ?_
 refine bA [1,0] rfl rfl rfl rfl (by kernel_rfl) ?_
 refine gj [1,0] (dR (ds:=[(dI (x1.sum+e.sum))]) rfl rfl rfl rfl rfl gF rfl (Nat.le_of_ble_eq_true rfl) (bp hx1) rfl (eX (x':=(⟨x1.aV,x1.sum+e.sum⟩:Entry)) rfl)) rfl ?_
 refine af ?_
 refine aF aa 2 rfl ?_
 refine aA (bz (i:=k0) rfl rfl rfl Try.underlying44 ep (by first|omega|(simp;done)|(simp;omega)) (by first|omega|(simp;done)|(simp;omega))) rfl ?_
 refine ad aa 1 rfl ?_
 obtain ⟨x2,hx2⟩:=cf (xs:=((l).set k0 (⟨x1.aV,x1.sum+e.sum⟩:Entry))) (i:=k0) (by first|omega|(simp;done)|(simp;omega))
 have hx2e:=zV hx2
 have hx2s:x2.sum=x1.sum+e.sum:=by rw [hx2e]
 refine aA (eS rfl rfl rfl Try.underlying3 rfl (bp hx2) rfl) rfl ?_
 refine ad aa 2 rfl ?_
 refine bE (t:=41) rfl (fun hb5=>?_) (fun hb5=>?_)
 ·
  have hb5':=of_decide_eq_true hb5
  refine ad aa 2 rfl ?_
  refine dA (ak.yes rfl rfl rfl) (bz (i:=k0) rfl rfl rfl Try.underlying44 ep (by first|omega|(simp;done)|(simp;omega)) (by first|omega|(simp;done)|(simp;omega))) rfl rfl ?_
  refine ad aa 1 rfl ?_
  refine dA (ak.yes rfl rfl rfl) (eS rfl rfl rfl Try.underlying3 rfl (bp hx2) rfl) rfl rfl ?_
  refine ad aa 3 rfl ?_
  refine af ?_
  refine ag ?_
  refine aF aa 2 rfl ?_
  refine aA (bz (i:=k0) rfl rfl rfl Try.underlying44 ep (by first|omega|(simp;done)|(simp;omega)) (by first|omega|(simp;done)|(simp;omega))) rfl ?_
  refine ad aa 1 rfl ?_
  refine aA (eS rfl rfl rfl Try.underlying3 rfl (bp hx2) rfl) rfl ?_
  refine ad aa 1 rfl ?_
  refine af ?_
  refine aj rfl (fun hc6=>?_) (fun hc6=>?_)
  ·
   have hc6':=of_decide_eq_true hc6
   refine gI (st':=⟨[(0,(aC (.s 0 0 2 (((l).set k0 (⟨x1.aV,x1.sum+e.sum⟩:Entry)).length)))),(3,(aC (.p 1 0 0 0))),(6,(aI (↑k0:Int))),(32,(aI (x1.sum+e.sum))),(34,(aC (.p 0 k0 2 1))),(35,(aC (.s 0 0 2 l.length))),(36,(aI (↑k0:Int))),(37,(aC (.p 0 k0 2 0))),(38,(aC (.p 0 k0 2 1))),(39,(aI x2.sum)),(40,(aB (decide (x2.sum>=(-1000000000000))))),(41,(aB true)),(42,(aC (.s 0 0 2 l.length))),(43,(aI (↑k0:Int))),(44,(aC (.p 0 k0 2 0))),(45,(aC (.p 0 k0 2 1))),(46,(aI x2.sum)),(47,(aB (decide (x2.sum<=1000000000000)))),(48,(aB (decide (x2.sum<=1000000000000)))),(8,(aB (decide (x2.sum<=1000000000000)))),(49,(aC (.s 0 0 2 l.length))),(50,(aI (↑k0:Int))),(51,(aC (.p 0 k0 2 0))),(52,(aC (.p 0 k0 2 1))),(53,(aI x2.sum)),(54,(aB (decide (x2.sum=0))))],[(1,(.box 115 [(cI e.aV),(cI e.sum)])),(0,(mf ((l).set k0 (⟨x1.aV,x1.sum+e.sum⟩:Entry))))],2⟩) (aH.ca id (by refine ⟨?_,?_,?_,?_,?_,?_,?_,?_,?_,?_,?_,?_,?_,?_,?_,?_,?_,?_,?_,?_,?_,?_,?_,?_,?_,?_,trivial⟩<;>first|rfl|(simp only [bu];done)|(congr 3;omega)|(congr 4;omega)|(simp only [bw];rfl)) (by refine ⟨?_,?_,trivial⟩<;>first|rfl|(simp only [bu];done)|(congr 3;omega)|(congr 4;omega)|(simp only [bw];rfl)) rfl) ?_
   refine ax ?_
   refine ad aa 3 rfl ?_
   refine aA (aM rfl rfl rfl (aL (by first|omega|(simp;done)|(simp;omega)))) rfl ?_
   obtain ⟨r4,hr4⟩:∃ (r4:List Entry),lz ((l).set k0 (⟨x1.aV,x1.sum+e.sum⟩:Entry)) k0 ((k0)+1)=r4:=⟨_,rfl⟩
   refine aQ 3 [2,1] (cL id (bf [2]) (jk ((l).set k0 (⟨x1.aV,x1.sum+e.sum⟩:Entry)) k0 ((k0)+1) (by first|omega|(simp;done)|(simp;omega)) (by first|omega|(simp;done)|(simp;omega)) r4 hr4) uV rfl rfl ⟨⟨_,rfl,.inl ⟨rfl,rfl⟩⟩,⟨_,rfl,.inr (.c (.d _))⟩,⟨_,rfl,.inr (.c (.d _))⟩,trivial⟩ ⟨rfl,trivial⟩ rfl rfl rfl rfl rfl rfl trivial ⟨(fun _ _ _ _=>trivial),trivial⟩ rfl rfl rfl rfl) rfl ?_
   refine ad aa 1 rfl ?_
   refine af ?_
   refine ae aa 4 rfl ?_
   refine az ?_
   have hX:jZ l e=(r4,decide (x2.sum<=1000000000000)):=by
     rw [nv hu hk0 (show fO l e.aV=true by simp_all) hx1 rfl];unfold iF;rw [if_pos (by omega),hr4];refine Prod.ext rfl ?_;first|(simp;omega)|(simp_all;done)|(simp_all;omega)
   rw [hX] at hr;clear hX
   simp only [Prod.mk.injEq] at hr;obtain ⟨rfl,rfl⟩:=hr
   refine al aa [2] 1 rfl rfl rfl rfl rfl rfl ?_ ?_
   all_goals first|rfl|(simp [aw];done)|(simp [aw];omega)
  have hc6':=of_decide_eq_false hc6
  refine aS ?_
  refine ae aa 4 rfl ?_
  refine az ?_
  have hX:jZ l e=((l).set k0 (⟨x1.aV,x1.sum+e.sum⟩:Entry),decide (x2.sum<=1000000000000)):=by
    rw [nv hu hk0 (show fO l e.aV=true by simp_all) hx1 rfl];unfold iF;rw [if_neg (by omega)];refine Prod.ext rfl ?_;first|(simp;omega)|(simp_all;done)|(simp_all;omega)
  rw [hX] at hr;clear hX
  simp only [Prod.mk.injEq] at hr;obtain ⟨rfl,rfl⟩:=hr
  refine al aa [0] 1 rfl rfl rfl rfl rfl rfl ?_ ?_
  all_goals first|rfl|(simp [aw];done)|(simp [aw];omega)
 have hb5':=of_decide_eq_false hb5
 refine ad aa 8 rfl ?_
 refine af ?_
 refine ag ?_
 refine aF aa 2 rfl ?_
 refine aA (bz (i:=k0) rfl rfl rfl Try.underlying44 ep (by first|omega|(simp;done)|(simp;omega)) (by first|omega|(simp;done)|(simp;omega))) rfl ?_
 refine ad aa 1 rfl ?_
 refine aA (eS rfl rfl rfl Try.underlying3 rfl (bp hx2) rfl) rfl ?_
 refine ad aa 1 rfl ?_
 refine af ?_
 refine aj rfl (fun hc7=>?_) (fun hc7=>?_)
 ·
  have hc7':=of_decide_eq_true hc7
  refine gI (st':=⟨[(0,(aC (.s 0 0 2 (((l).set k0 (⟨x1.aV,x1.sum+e.sum⟩:Entry)).length)))),(3,(aC (.p 1 0 0 0))),(6,(aI (↑k0:Int))),(32,(aI (x1.sum+e.sum))),(34,(aC (.p 0 k0 2 1))),(35,(aC (.s 0 0 2 l.length))),(36,(aI (↑k0:Int))),(37,(aC (.p 0 k0 2 0))),(38,(aC (.p 0 k0 2 1))),(39,(aI x2.sum)),(40,(aB (decide (x2.sum>=(-1000000000000))))),(41,(aB false)),(48,(aB false)),(8,(aB false)),(49,(aC (.s 0 0 2 l.length))),(50,(aI (↑k0:Int))),(51,(aC (.p 0 k0 2 0))),(52,(aC (.p 0 k0 2 1))),(53,(aI x2.sum)),(54,(aB (decide (x2.sum=0))))],[(1,(.box 115 [(cI e.aV),(cI e.sum)])),(0,(mf ((l).set k0 (⟨x1.aV,x1.sum+e.sum⟩:Entry))))],2⟩) (aH.ca id (by refine ⟨?_,?_,?_,?_,?_,?_,?_,?_,?_,?_,?_,?_,?_,?_,?_,?_,?_,?_,?_,?_,trivial⟩<;>first|rfl|(simp only [bu];done)|(congr 3;omega)|(congr 4;omega)|(simp only [bw];rfl)) (by refine ⟨?_,?_,trivial⟩<;>first|rfl|(simp only [bu];done)|(congr 3;omega)|(congr 4;omega)|(simp only [bw];rfl)) rfl) ?_
  refine ax ?_
  refine ad aa 3 rfl ?_
  refine aA (aM rfl rfl rfl (aL (by first|omega|(simp;done)|(simp;omega)))) rfl ?_
  obtain ⟨r5,hr5⟩:∃ (r5:List Entry),lz ((l).set k0 (⟨x1.aV,x1.sum+e.sum⟩:Entry)) k0 ((k0)+1)=r5:=⟨_,rfl⟩
  refine aQ 3 [2,1] (cL id (bf [2]) (jk ((l).set k0 (⟨x1.aV,x1.sum+e.sum⟩:Entry)) k0 ((k0)+1) (by first|omega|(simp;done)|(simp;omega)) (by first|omega|(simp;done)|(simp;omega)) r5 hr5) uV rfl rfl ⟨⟨_,rfl,.inl ⟨rfl,rfl⟩⟩,⟨_,rfl,.inr (.c (.d _))⟩,⟨_,rfl,.inr (.c (.d _))⟩,trivial⟩ ⟨rfl,trivial⟩ rfl rfl rfl rfl rfl rfl trivial ⟨(fun _ _ _ _=>trivial),trivial⟩ rfl rfl rfl rfl) rfl ?_
  refine ad aa 1 rfl ?_
  refine af ?_
  refine ae aa 4 rfl ?_
  refine az ?_
  have hX:jZ l e=(r5,false):=by
    rw [nv hu hk0 (show fO l e.aV=true by simp_all) hx1 rfl];unfold iF;rw [if_pos (by omega),hr5];refine Prod.ext rfl ?_;first|(simp;omega)|(simp_all;done)|(simp_all;omega)
  rw [hX] at hr;clear hX
  simp only [Prod.mk.injEq] at hr;obtain ⟨rfl,rfl⟩:=hr
  refine al aa [2] 1 rfl rfl rfl rfl rfl rfl ?_ ?_
  all_goals first|rfl|(simp [aw];done)|(simp [aw];omega)
 have hc7':=of_decide_eq_false hc7
 refine aS ?_
 refine ae aa 4 rfl ?_
 refine az ?_
 have hX:jZ l e=((l).set k0 (⟨x1.aV,x1.sum+e.sum⟩:Entry),false):=by
   rw [nv hu hk0 (show fO l e.aV=true by simp_all) hx1 rfl];unfold iF;rw [if_neg (by omega)];refine Prod.ext rfl ?_;first|(simp;omega)|(simp_all;done)|(simp_all;omega)
 rw [hX] at hr;clear hX
 simp only [Prod.mk.injEq] at hr;obtain ⟨rfl,rfl⟩:=hr
 refine al aa [0] 1 rfl rfl rfl rfl rfl rfl ?_ ?_
 all_goals first|rfl|(simp [aw];done)|(simp [aw];omega)
def fH (x:Entry):Prop:=x.aV < 0\/x.aV > 57\/x.sum < -1000000000000\/x.sum > 1000000000000
instance (x:Entry):Decidable (fH x):=by unfold fH;infer_instance
def lB (l:List Entry) (q:Nat):Int:=
 match l[q]? with
 |some x=>if fH x then 3 else if (0 < q/\(l.getD (q - 1) ⟨0,0⟩).aV>=x.aV)\/x.sum=0 then 2 else 0
 |none=>0
def gz:List Entry->Int
 |[]=>0
 |x::l=>x.sum+gz l
def fx (l:List Entry):cW:=if (scan (lB l) 0 l.length).1≠0 then ⟨(scan (lB l) 0 l.length).1,(scan (lB l) 0 l.length).2⟩ else if gz l≠0 then ⟨8,0⟩ else ⟨0,0⟩
theorem wZ (l r:List Entry):gz (l++r)=gz l+gz r:=by
 induction l with
 |nil=>simp [gz]
 |cons x l ih=>simp only [List.cons_append,gz,ih];omega
theorem tF {α:Type} {l:List α} {q:Nat} {x:α} (h:l[q]?=some x):l.take (q+1)=l.take q++[x]:=by
 obtain ⟨hlt,rfl⟩:=List.getElem?_eq_some_iff.1 h
 rw [List.take_add_one,List.getElem?_eq_getElem hlt];rfl
theorem jI {l:List Entry} {q:Nat} {x:Entry} (h:l[q]?=some x):gz (l.take (q+1))=gz (l.take q)+x.sum:=by
 rw [tF h,wZ];simp [gz]
def iR (l:List Entry) (q:Nat):Int:=if q=0 then -1 else (l.getD (q - 1) ⟨0,0⟩).aV
theorem kg {l:List Entry} {q:Nat} {x:Entry} (h:l[q]?=some x):iR l (q+1)=x.aV:=by
 unfold iR
 rw [if_neg (by omega),List.getD_eq_getElem?_getD,Nat.add_sub_cancel,h];rfl
theorem lh {l:List Entry} {q:Nat} {x:Entry} (hq:0 < q) (h:l[q - 1]?=some x):iR l q=x.aV:=by
 unfold iR
 rw [if_neg (by omega),List.getD_eq_getElem?_getD,h];rfl
theorem iz {l:List Entry} {q:Nat} {x:Entry} (h:l[q]?=some x):lB l q=if fH x then 3 else if (0 < q/\iR l q>=x.aV)\/x.sum=0 then 2 else 0:=by
 unfold lB
 rw [h]
 by_cases hq:q=0
 ·subst hq;simp
 ·unfold iR;rw [if_neg hq]
structure kT (l:List Entry):Prop where
 up:Up l
 ok:∀ x∈l,0<=x.aV/\x.aV<=57/\-1000000000000<=x.sum/\x.sum<=1000000000000/\x.sum≠0
theorem Gz {l:List Entry} (h:∀ q x y,l[q]?=some x->l[q+1]?=some y->x.aV < y.aV):Up l:=by
 unfold Up
 induction l with
 |nil=>exact List.Pairwise.nil
 |cons x l ih=>
  have h2:=ih fun q a b ha hb=>h (q+1) a b (by simpa using ha) (by simpa using hb)
  refine List.pairwise_cons.2 ⟨fun y hy=>?_,h2⟩
  cases l with
  |nil=>cases hy
  |cons z l=>
   have hz:=h 0 x z (by simp) (by simp)
   rcases List.mem_cons.1 hy with rfl|hy
   ·exact hz
   ·have:=(List.pairwise_cons.1 h2).1 y hy;omega
theorem zI {l:List Entry} (h:Up l) {i j:Nat} {x y:Entry} (hij:i < j) (hx:l[i]?=some x) (hy:l[j]?=some y):x.aV < y.aV:=by
 obtain ⟨hi,rfl⟩:=List.getElem?_eq_some_iff.1 hx
 obtain ⟨hj,rfl⟩:=List.getElem?_eq_some_iff.1 hy
 exact List.pairwise_iff_getElem.1 h i j hi hj hij
theorem zW {l:List Entry}:(scan (lB l) 0 l.length).1=0↔kT l:=by
 rw [nr]
 constructor
 ·intro h
  have at':∀ q x,l[q]?=some x->¬fH x/\¬((0 < q/\iR l q>=x.aV)\/x.sum=0):=fun q x hx=>by
   have hq:=(List.getElem?_eq_some_iff.1 hx).1
   have h1:=h q (Nat.zero_le _) (by omega)
   rw [iz hx] at h1
   split at h1
   ·cases h1
   ·split at h1
    ·cases h1
    ·exact ⟨by assumption,by assumption⟩
  refine ⟨Gz fun q x y hx hy=>?_,fun x hx=>?_⟩
  ·have h1:=(at' (q+1) y hy).2
   rw [kg hx] at h1
   omega
  ·obtain ⟨q,hq⟩:=List.getElem?_of_mem hx
   have h1:=at' q x hq
   unfold fH at h1
   omega
 ·intro h q _ hq
  obtain ⟨x,hx⟩:∃ x,l[q]?=some x:=⟨_,List.getElem?_eq_getElem (by omega)⟩
  have h1:=h.ok x (List.mem_of_getElem? hx)
  rw [iz hx,if_neg (by unfold fH;omega),if_neg]
  rintro (⟨h2,h3⟩|h2)
  ·obtain ⟨y,hy⟩:∃ y,l[q - 1]?=some y:=⟨_,List.getElem?_eq_getElem (by omega)⟩
   rw [lh h2 hy] at h3
   have:=zI h.up (by omega:q - 1 < q) hy hx
   omega
  ·exact h1.2.2.2.2 h2
theorem yu {l:List Entry}:(fx l).err=0↔kT l/\gz l=0:=by
 unfold fx
 rw [<-zW]
 split
 ·rename_i h;constructor
  ·intro h1;exact absurd h1 h
  ·intro h1;exact absurd h1.1 h
 ·rename_i h
  split
  ·rename_i h2;constructor
   ·intro h1;cases h1
   ·intro h1;exact absurd h1.2 h2
  ·rename_i h2;constructor
   ·intro _;exact ⟨by omega,by omega⟩
   ·intro _;rfl
theorem tQ {l:List Entry} (h:kT l):l.length<=58:=by
 have key:∀ (q:Nat) (x:Entry),l[q]?=some x->(q:Int)<=x.aV:=by
  intro q
  induction q with
  |zero=>intro x hx;have:=h.ok x (List.mem_of_getElem? hx);omega
  |succ q ih=>
   intro x hx
   have hq:=(List.getElem?_eq_some_iff.1 hx).1
   obtain ⟨y,hy⟩:∃ y,l[q]?=some y:=⟨_,List.getElem?_eq_getElem (by omega)⟩
   have h1:=ih y hy
   have h2:=zI h.up (by omega:q < q+1) hy hx
   omega
 by_cases hl:l.length=0
 ·omega
 ·obtain ⟨x,hx⟩:∃ x,l[l.length - 1]?=some x:=⟨_,List.getElem?_eq_getElem (by omega)⟩
  have h1:=key _ x hx
  have h2:=h.ok x (List.mem_of_getElem? hx)
  omega
theorem tM {x:Entry} {l:List Entry} {a s:Int} (h:x.aV < a):iW (x::l) a s=x::iW l a s:=by
 unfold iW
 rw [oU h,show ef (x::l) a=ef l a+1 by simp [ef,h]]
 cases fO l a<;>simp
theorem tL {x:Entry} {l:List Entry} {a s:Int} (h:x.aV=a):iW (x::l) a s=(if s=0 then [] else [⟨a,s⟩])++l:=by
 unfold iW
 rw [mw (by omega),show ef (x::l) a=0 by simp [ef];omega]
 simp [h]
theorem vr {x:Entry} {l:List Entry} {a s:Int} (h:a < x.aV):iW (x::l) a s=(if s=0 then [] else [⟨a,s⟩])++x::l:=by
 unfold iW
 rw [mw (by omega),show ef (x::l) a=0 by simp [ef];omega]
 have:¬x.aV=a:=by omega
 simp [this]
theorem vq (a s:Int):iW [] a s=if s=0 then [] else [⟨a,s⟩]:=by simp [iW,ef,fO]
theorem qO {a s:Int}:∀ {l:List Entry} {x:Entry},x∈iW l a s->x∈l\/(x=⟨a,s⟩/\s≠0)
 |[],x,h=>by
  rw [vq] at h
  split at h
  ·cases h
  ·rename_i h0;exact .inr ⟨by simpa using h,h0⟩
 |y::l,x,h=>by
  have one:x∈(if s=0 then [] else [(⟨a,s⟩:Entry)])->x=⟨a,s⟩/\s≠0:=fun h=>by
   split at h
   ·cases h
   ·rename_i h0;exact ⟨by simpa using h,h0⟩
  rcases Int.lt_trichotomy y.aV a with h1|h1|h1
  ·rw [tM h1] at h
   rcases List.mem_cons.1 h with rfl|h
   ·exact .inl List.mem_cons_self
   ·rcases qO h with h|h
    ·exact .inl (List.mem_cons_of_mem _ h)
    ·exact .inr h
  ·rw [tL h1] at h
   rcases List.mem_append.1 h with h|h
   ·exact .inr (one h)
   ·exact .inl (List.mem_cons_of_mem _ h)
  ·rw [vr h1] at h
   rcases List.mem_append.1 h with h|h
   ·exact .inr (one h)
   ·exact .inl h
theorem px {x:Entry} {l:List Entry}:Up (x::l)↔(∀ y∈l,x.aV < y.aV)/\Up l:=List.pairwise_cons
theorem xD {a s:Int}:∀ {l:List Entry},Up l->Up (iW l a s)
 |[],_=>by rw [vq];split;exact List.Pairwise.nil;exact List.pairwise_singleton _ _
 |y::l,h=>by
  obtain ⟨h1,h2⟩:=px.1 h
  rcases Int.lt_trichotomy y.aV a with h3|h3|h3
  ·rw [tM h3]
   refine px.2 ⟨fun z hz=>?_,xD h2⟩
   rcases qO hz with hz|⟨rfl,_⟩
   ·exact h1 z hz
   ·exact h3
  ·rw [tL h3]
   split
   ·exact h2
   ·exact px.2 ⟨fun z hz=>by have:=h1 z hz;show a < z.aV;omega,h2⟩
  ·rw [vr h3]
   split
   ·exact h
   ·exact px.2 ⟨fun z hz=>by
     show a < z.aV
     rcases List.mem_cons.1 hz with rfl|hz
     ·exact h3
     ·have:=h1 z hz;omega,h⟩
theorem yE {l:List Entry} {a s:Int} (h:kT l) (ha:0<=a/\a<=57) (hs:-1000000000000<=s/\s<=1000000000000):kT (iW l a s):=
 ⟨xD h.up,fun x hx=>by
  rcases qO hx with hx|⟨rfl,h0⟩
  ·exact h.ok x hx
  ·exact ⟨ha.1,ha.2,hs.1,hs.2,h0⟩⟩
def iY:List Entry->List Entry->Option (List Entry)
 |l,[]=>some l
 |l,e::es=>if iF (jH l e.aV+e.sum)=true then iY (iW l e.aV (jH l e.aV+e.sum)) es else none
def iD (l es:List Entry):List Entry×Int:=
 if (fx l).err≠0 then ([],(fx l).err)
 else if es.length > 10 then ([],5)
 else if ∃ x∈es,fH x then ([],3)
 else if gz es≠0 then ([],8)
 else match iY l es with
  |some r=>(r,0)
  |none=>([],4)
theorem AN {s:Int}:iF s=true↔-1000000000000<=s/\s<=1000000000000:=by
 unfold iF;simp only [Bool.and_eq_true,decide_eq_true_eq,ge_iff_le]
theorem qe {l es:List Entry} {q:Nat} {e:Entry} (h:es[q]?=some e):iY l (es.drop q)=if iF (jH l e.aV+e.sum)=true then iY (iW l e.aV (jH l e.aV+e.sum)) (es.drop (q+1)) else none:=by
 obtain ⟨hq,rfl⟩:=List.getElem?_eq_some_iff.1 h
 rw [List.drop_eq_getElem_cons hq];rfl


theorem qz (l:List Int) (hl:l.length * 8<=140737488355328):Fn Try.prog 95 [(.c (gM l))] (aC (.s 0 0 1 l.length)) [(0,.arr 3 1 (l.map rI))]:=by
 refine Fn.mk' 8 [(0,(aC (gM l)))] Try.func95 rfl rfl rfl rfl ?_
 intro W0 T0
 refine dt 0 rfl (fun hlen0=>?_)
 refine ae aa 1 rfl ?_
 refine ag ?_
 refine aF aa 1 rfl ?_
 refine iG (ak.plain rfl) rfl rfl Try.underlying30 rfl rfl (fun bn1 hbn1=>?_)
 refine af ?_
 refine aj rfl (fun hc2=>?_) (fun hc2=>?_)
 ·
  have hc2':=hc2;try simp only [br,bR] at hc2'
  refine ae aa 1 rfl ?_
  refine az ?_
  refine an ?_
  refine cS (aH.nil 2 3 1 (by decide) rfl) ?_
  refine al aa [0] 1 rfl rfl rfl rfl rfl rfl ?_ ?_
  ·(have h0:=hbn1 (by assumption);have h1:l=[]:=by (cases l with|nil=>rfl|cons=>simp at h0));subst h1;rfl
  ·(have h0:=hbn1 (by assumption);have h1:l=[]:=by (cases l with|nil=>rfl|cons=>simp at h0));subst h1;rfl
 have hc2':=hc2;try simp only [br,bR] at hc2'
 refine aS ?_
 refine eR ?_
 refine aQ 1 [0] (dV (ys:=[]) (rows:=(([]:List Int)).map rI) 0 nm rfl (by decide) trivial rfl rfl rfl rfl) rfl ?_
 refine ad aa 1 rfl ?_
 refine aQ 2 [1] (dw (m:=l.length) (N:=l.length) (k2:=1) (ys:=(l).map rI) nm rfl rfl rfl rfl rfl rfl (by first|omega|(simp;omega)|(simp;done)) rfl (.d _ _) (by first|omega|(simp;omega)|(simp;done)) (by first|omega|(simp;omega)|(simp;done)) rfl (by decide) (by first|omega|(simp;omega)|(simp;done)) (by first|omega|(simp;omega)|(simp;done))) rfl ?_
 refine ad aa 1 rfl ?_
 refine af ?_
 refine az ?_
 refine al aa [1] 1 rfl rfl rfl rfl rfl rfl ?_ ?_
 ·first|rfl|simp [fR,aC]
 ·first|rfl|simp
theorem nc (l:List ch) (hl:l.length * 32<=140737488355328):Fn Try.prog 99 [(.c (iq l))] (aC (.s 0 0 4 l.length)) [(0,.arr 107 4 (l.map iK))]:=by
 refine Fn.mk' 8 [(0,(aC (iq l)))] Try.func99 rfl rfl rfl rfl ?_
 intro W0 T0
 refine dt 0 rfl (fun hlen0=>?_)
 refine ae aa 1 rfl ?_
 refine ag ?_
 refine aF aa 1 rfl ?_
 refine iG (ak.plain rfl) rfl rfl Try.underlying39 rfl rfl (fun bn1 hbn1=>?_)
 refine af ?_
 refine aj rfl (fun hc2=>?_) (fun hc2=>?_)
 ·
  have hc2':=hc2;try simp only [br,bR] at hc2'
  refine ae aa 1 rfl ?_
  refine az ?_
  refine an ?_
  refine cS (aH.nil 2 107 4 (by decide) rfl) ?_
  refine al aa [0] 1 rfl rfl rfl rfl rfl rfl ?_ ?_
  ·(have h0:=hbn1 (by assumption);have h1:l=[]:=by (cases l with|nil=>rfl|cons=>simp at h0));subst h1;rfl
  ·(have h0:=hbn1 (by assumption);have h1:l=[]:=by (cases l with|nil=>rfl|cons=>simp at h0));subst h1;rfl
 have hc2':=hc2;try simp only [br,bR] at hc2'
 refine aS ?_
 refine eR ?_
 refine aQ 1 [0] (dV (ys:=[]) (rows:=(([]:List ch)).map iK) 0 yC rfl (by decide) trivial rfl rfl rfl rfl) rfl ?_
 refine ad aa 1 rfl ?_
 refine aQ 2 [1] (dw (m:=l.length) (N:=l.length) (k2:=1) (ys:=(l).map iK) yC rfl rfl rfl rfl rfl rfl (by first|omega|(simp;omega)|(simp;done)) rfl (.d _ _) (by first|omega|(simp;omega)|(simp;done)) (by first|omega|(simp;omega)|(simp;done)) rfl (by decide) (by first|omega|(simp;omega)|(simp;done)) (by first|omega|(simp;omega)|(simp;done))) rfl ?_
 refine ad aa 1 rfl ?_
 refine af ?_
 refine az ?_
 refine al aa [1] 1 rfl rfl rfl rfl rfl rfl ?_ ?_
 ·first|rfl|simp [fR,aC]
 ·first|rfl|simp
theorem qA (l:List db) (hl:l.length * 16<=140737488355328):Fn Try.prog 114 [(.c (fB l))] (aC (.s 0 0 2 l.length)) [(0,.arr 125 2 (l.map ix))]:=by
 refine Fn.mk' 8 [(0,(aC (fB l)))] Try.func114 rfl rfl rfl rfl ?_
 intro W0 T0
 refine dt 0 rfl (fun hlen0=>?_)
 refine ae aa 1 rfl ?_
 refine ag ?_
 refine aF aa 1 rfl ?_
 refine iG (ak.plain rfl) rfl rfl Try.underlying59 rfl rfl (fun bn1 hbn1=>?_)
 refine af ?_
 refine aj rfl (fun hc2=>?_) (fun hc2=>?_)
 ·
  have hc2':=hc2;try simp only [br,bR] at hc2'
  refine ae aa 1 rfl ?_
  refine az ?_
  refine an ?_
  refine cS (aH.nil 2 125 2 (by decide) rfl) ?_
  refine al aa [0] 1 rfl rfl rfl rfl rfl rfl ?_ ?_
  ·(have h0:=hbn1 (by assumption);have h1:l=[]:=by (cases l with|nil=>rfl|cons=>simp at h0));subst h1;rfl
  ·(have h0:=hbn1 (by assumption);have h1:l=[]:=by (cases l with|nil=>rfl|cons=>simp at h0));subst h1;rfl
 have hc2':=hc2;try simp only [br,bR] at hc2'
 refine aS ?_
 refine eR ?_
 refine aQ 1 [0] (dV (ys:=[]) (rows:=(([]:List db)).map ix) 0 ow rfl (by decide) trivial rfl rfl rfl rfl) rfl ?_
 refine ad aa 1 rfl ?_
 refine aQ 2 [1] (dw (m:=l.length) (N:=l.length) (k2:=1) (ys:=(l).map ix) ow rfl rfl rfl rfl rfl rfl (by first|omega|(simp;omega)|(simp;done)) rfl (.d _ _) (by first|omega|(simp;omega)|(simp;done)) (by first|omega|(simp;omega)|(simp;done)) rfl (by decide) (by first|omega|(simp;omega)|(simp;done)) (by first|omega|(simp;omega)|(simp;done))) rfl ?_
 refine ad aa 1 rfl ?_
 refine af ?_
 refine az ?_
 refine al aa [1] 1 rfl rfl rfl rfl rfl rfl ?_ ?_
 ·first|rfl|simp [fR,aC]
 ·first|rfl|simp
theorem ma (l:List bo) (hl:l.length * 32<=140737488355328):Fn Try.prog 106 [(.c (dj l))] (aC (.s 0 0 4 l.length)) [(0,.arr 80 4 (l.map fM))]:=by
 refine Fn.mk' 8 [(0,(aC (dj l)))] Try.func106 rfl rfl rfl rfl ?_
 intro W0 T0
 refine dt 0 rfl (fun hlen0=>?_)
 refine ae aa 1 rfl ?_
 refine ag ?_
 refine aF aa 1 rfl ?_
 refine iG (ak.plain rfl) rfl rfl Try.underlying32 rfl rfl (fun bn1 hbn1=>?_)
 refine af ?_
 refine aj rfl (fun hc2=>?_) (fun hc2=>?_)
 ·
  have hc2':=hc2;try simp only [br,bR] at hc2'
  refine ae aa 1 rfl ?_
  refine az ?_
  refine an ?_
  refine cS (aH.nil 2 80 4 (by decide) rfl) ?_
  refine al aa [0] 1 rfl rfl rfl rfl rfl rfl ?_ ?_
  ·(have h0:=hbn1 (by assumption);have h1:l=[]:=by (cases l with|nil=>rfl|cons=>simp at h0));subst h1;rfl
  ·(have h0:=hbn1 (by assumption);have h1:l=[]:=by (cases l with|nil=>rfl|cons=>simp at h0));subst h1;rfl
 have hc2':=hc2;try simp only [br,bR] at hc2'
 refine aS ?_
 refine eR ?_
 refine aQ 1 [0] (dV (ys:=[]) (rows:=(([]:List bo)).map fM) 0 vp rfl (by decide) trivial rfl rfl rfl rfl) rfl ?_
 refine ad aa 1 rfl ?_
 refine aQ 2 [1] (dw (m:=l.length) (N:=l.length) (k2:=1) (ys:=(l).map fM) vp rfl rfl rfl rfl rfl rfl (by first|omega|(simp;omega)|(simp;done)) rfl (.d _ _) (by first|omega|(simp;omega)|(simp;done)) (by first|omega|(simp;omega)|(simp;done)) rfl (by decide) (by first|omega|(simp;omega)|(simp;done)) (by first|omega|(simp;omega)|(simp;done))) rfl ?_
 refine ad aa 1 rfl ?_
 refine af ?_
 refine az ?_
 refine al aa [1] 1 rfl rfl rfl rfl rfl rfl ?_ ?_
 ·first|rfl|simp [fR,aC]
 ·first|rfl|simp
theorem uP (l:List Entry) (hl:l.length * 16<=140737488355328):Fn Try.prog 115 [(.c (dW l))] (aC (.s 0 0 2 l.length)) [(0,.arr 115 2 (l.map eJ))]:=by
 refine Fn.mk' 8 [(0,(aC (dW l)))] Try.func115 rfl rfl rfl rfl ?_
 intro W0 T0
 refine dt 0 rfl (fun hlen0=>?_)
 refine ae aa 1 rfl ?_
 refine ag ?_
 refine aF aa 1 rfl ?_
 refine iG (ak.plain rfl) rfl rfl Try.underlying44 rfl rfl (fun bn1 hbn1=>?_)
 refine af ?_
 refine aj rfl (fun hc2=>?_) (fun hc2=>?_)
 ·
  have hc2':=hc2;try simp only [br,bR] at hc2'
  refine ae aa 1 rfl ?_
  refine az ?_
  refine an ?_
  refine cS (aH.nil 2 115 2 (by decide) rfl) ?_
  refine al aa [0] 1 rfl rfl rfl rfl rfl rfl ?_ ?_
  ·(have h0:=hbn1 (by assumption);have h1:l=[]:=by (cases l with|nil=>rfl|cons=>simp at h0));subst h1;rfl
  ·(have h0:=hbn1 (by assumption);have h1:l=[]:=by (cases l with|nil=>rfl|cons=>simp at h0));subst h1;rfl
 have hc2':=hc2;try simp only [br,bR] at hc2'
 refine aS ?_
 refine eR ?_
 refine aQ 1 [0] (dV (ys:=[]) (rows:=(([]:List Entry)).map eJ) 0 kx rfl (by decide) trivial rfl rfl rfl rfl) rfl ?_
 refine ad aa 1 rfl ?_
 refine aQ 2 [1] (dw (m:=l.length) (N:=l.length) (k2:=1) (ys:=(l).map eJ) kx rfl rfl rfl rfl rfl rfl (by first|omega|(simp;omega)|(simp;done)) rfl (.d _ _) (by first|omega|(simp;omega)|(simp;done)) (by first|omega|(simp;omega)|(simp;done)) rfl (by decide) (by first|omega|(simp;omega)|(simp;done)) (by first|omega|(simp;omega)|(simp;done))) rfl ?_
 refine ad aa 1 rfl ?_
 refine af ?_
 refine az ?_
 refine al aa [1] 1 rfl rfl rfl rfl rfl rfl ?_ ?_
 ·first|rfl|simp [fR,aC]
 ·first|rfl|simp
theorem mZ (l:List ah) (hl:l.length * 32<=140737488355328):Fn Try.prog 54 [(.c (gL l))] (aC (.s 0 0 4 l.length)) [(0,.arr 83 4 (l.map fJ))]:=by
 refine Fn.mk' 8 [(0,(aC (gL l)))] Try.func54 rfl rfl rfl rfl ?_
 intro W0 T0
 refine dt 0 rfl (fun hlen0=>?_)
 refine ae aa 1 rfl ?_
 refine ag ?_
 refine aF aa 1 rfl ?_
 refine iG (ak.plain rfl) rfl rfl Try.underlying42 rfl rfl (fun bn1 hbn1=>?_)
 refine af ?_
 refine aj rfl (fun hc2=>?_) (fun hc2=>?_)
 ·
  have hc2':=hc2;try simp only [br,bR] at hc2'
  refine ae aa 1 rfl ?_
  refine az ?_
  refine an ?_
  refine cS (aH.nil 2 83 4 (by decide) rfl) ?_
  refine al aa [0] 1 rfl rfl rfl rfl rfl rfl ?_ ?_
  ·(have h0:=hbn1 (by assumption);have h1:l=[]:=by (cases l with|nil=>rfl|cons=>simp at h0));subst h1;rfl
  ·(have h0:=hbn1 (by assumption);have h1:l=[]:=by (cases l with|nil=>rfl|cons=>simp at h0));subst h1;rfl
 have hc2':=hc2;try simp only [br,bR] at hc2'
 refine aS ?_
 refine eR ?_
 refine aQ 1 [0] (dV (ys:=[]) (rows:=(([]:List ah)).map fJ) 0 ox rfl (by decide) trivial rfl rfl rfl rfl) rfl ?_
 refine ad aa 1 rfl ?_
 refine aQ 2 [1] (dw (m:=l.length) (N:=l.length) (k2:=1) (ys:=(l).map fJ) ox rfl rfl rfl rfl rfl rfl (by first|omega|(simp;omega)|(simp;done)) rfl (.d _ _) (by first|omega|(simp;omega)|(simp;done)) (by first|omega|(simp;omega)|(simp;done)) rfl (by decide) (by first|omega|(simp;omega)|(simp;done)) (by first|omega|(simp;omega)|(simp;done))) rfl ?_
 refine ad aa 1 rfl ?_
 refine af ?_
 refine az ?_
 refine al aa [1] 1 rfl rfl rfl rfl rfl rfl ?_ ?_
 ·first|rfl|simp [fR,aC]
 ·first|rfl|simp


theorem wG (l:List Entry) (f:cW) (hr:fx l=f):Fn Try.prog 33 [(.c (dW l))] (.v (.g [(cI f.err),(cI f.at_)])) []:=by
 refine Fn.mk' 64 [(0,(aC (dW l)))] Try.func33 rfl rfl rfl rfl ?_
 intro W0 T0
 refine dt 0 rfl (fun hlen0=>?_)
 refine ae aa 1 rfl ?_
 refine ae aa 1 rfl ?_
 refine ag ?_
 refine aF aa 1 rfl ?_
 refine aA (cF rfl rfl rfl rfl rfl Try.underlying44) rfl ?_
 refine ad aa 1 rfl ?_
 refine af ?_
 refine aY ?_
 refine cE (β:=Nat) (fun (q:Nat)=>⟨[(0,(aC (dW l))),(2,(aC (.p 0 0 0 0))),(3,(aI (gz (l.take q)))),(6,(aC (dW l))),(7,(aI (↑l.length:Int))),(8,(aI (↑q:Int)))],[(0,(.box 50 [(cI 0),(cI 0)]))],1⟩) (fun (q:Nat)=>q<=l.length/\scan (lB l) 0 l.length=scan (lB l) q (l.length - q)/\(q:Int) - 1<=iR l q/\iR l q<=57/\-1000000000000 * (q:Int)<=gz (l.take q)/\gz (l.take q)<=1000000000000 * (q:Int)) (fun (q:Nat)=>l.length - q) 0 ?_ ?_ ?_
 ·(have h1:iR l 0=-1:=rfl);(have h2:gz (l.take 0)=0:=rfl);exact ⟨by omega,rfl,by omega,by omega⟩
 ·exact aH.ca id (by refine ⟨?_,?_,?_,?_,?_,?_,trivial⟩<;>first|rfl|(simp only [bu];done)|(congr 3;omega)|(congr 4;omega)|(simp only [bw];rfl)) (⟨by first|rfl|(simp only [bu];done)|(congr 3;omega)|(congr 4;omega)|(simp only [bw];rfl),trivial⟩) rfl
 rintro q ⟨hi0_0,hi0_1,hi0_2,hi0_3⟩
 refine ae aa 1 rfl ?_
 refine ag ?_
 refine aj rfl (fun hc1=>?_) (fun hc1=>?_)
 ·
  have hc1':=of_decide_eq_true hc1
  refine aS ?_
  refine ag ?_
  refine aY ?_
  refine aF aa 1 rfl ?_
  obtain ⟨x1,hx1⟩:=cf (xs:=l) (i:=q) (by first|omega|(simp;done)|(simp;omega))
  refine aA (cD (i:=q) rfl rfl rfl Try.underlying44 ep (by first|omega|(simp;done)|(simp;omega)) (bp hx1)) rfl ?_
  refine ad aa 4 rfl ?_
  refine af ?_
  refine ag ?_
  refine aY ?_
  refine cw 13 ((((decide (x1.aV < 0))||(decide (x1.aV>=58)))||(decide (x1.sum < (-1000000000000))))||(decide (x1.sum > 1000000000000))) ?_ ?_
  ·
   refine ax ?_
   refine ad aa 4 rfl ?_
   refine bE (t:=17) rfl (fun hb2=>?_) (fun hb2=>?_)
   ·
    have hb2':=of_decide_eq_true hb2
    refine ad aa 15 rfl ?_
    refine af ?_
    exact aH.bD 20 rfl rfl (by first|(simp [hb2];done)|(simp_all;done)|(exfalso;simp_all;done)|(simp_all;omega)) rfl
   have hb2':=of_decide_eq_false hb2
   refine ad aa 5 rfl ?_
   refine bE (t:=22) rfl (fun hb3=>?_) (fun hb3=>?_)
   ·
    have hb3':=of_decide_eq_true hb3
    refine ad aa 10 rfl ?_
    refine af ?_
    exact aH.bD 21 rfl rfl (by first|(simp [hb2,hb3];done)|(simp_all;done)|(exfalso;simp_all;done)|(simp_all;omega)) rfl
   have hb3':=of_decide_eq_false hb3
   refine ad aa 5 rfl ?_
   refine bE (t:=27) rfl (fun hb4=>?_) (fun hb4=>?_)
   ·
    have hb4':=of_decide_eq_true hb4
    refine ad aa 5 rfl ?_
    refine af ?_
    exact aH.bD 22 rfl rfl (by first|(simp [hb2,hb3,hb4];done)|(simp_all;done)|(exfalso;simp_all;done)|(simp_all;omega)) rfl
   have hb4':=of_decide_eq_false hb4
   refine ad aa 5 rfl ?_
   refine af ?_
   exact aH.bD 22 rfl rfl (by first|(simp [hb2,hb3,hb4];done)|(simp_all;done)|(exfalso;simp_all;done)|(simp_all;omega)) rfl
  refine aj rfl (fun hc5=>?_) (fun hc5=>?_)
  ·
   have hc5':=hc5;try simp only [br,bR] at hc5'
   refine ae aa 3 rfl ?_
   refine az ?_
   refine bc ?_
   refine an ?_
   refine bc ?_
   refine an ?_
   refine an ?_
   refine bc ?_
   refine an ?_
   have hX:fx l=(⟨3,(↑q:Int)⟩:cW):=by
     (have hb:fH x1:=by unfold fH;omega);(have h0:=iC (e:=lB l) (q:=q) (n:=l.length) (by omega) (by rw [iz hx1,if_pos hb]) (by decide:(3:Int)≠0));(unfold fx;rw [hi0_1,h0];rfl)
   rw [hX] at hr;clear hX
   subst hr
   refine al aa [0] 0 rfl rfl rfl rfl rfl rfl ?_ ?_
   all_goals first|rfl|(simp [aw];done)|(simp [aw];omega)
  have hc5':=hc5;try simp only [br,bR] at hc5'
  refine ag ?_
  rcases Bool.eq_false_or_eq_true (decide ((↑q:Int) > 0)) with hb6|hb6
  ·
   have hb6':=of_decide_eq_true hb6
   obtain ⟨x2,hx2⟩:=cf (xs:=l) (i:=(q) - 1) (by first|omega|(simp;done)|(simp;omega))
   rcases Bool.eq_false_or_eq_true (decide (x2.aV>=x1.aV)) with hb7|hb7
   ·
    have hb7':=of_decide_eq_true hb7
    refine aX [0,2,3,6,7,8,5,4] [1,0] mixed rfl rfl ?_
    refine aD (kn:=[(36,true)]) aa 5 rfl ⟨hb6,trivial⟩ ?_
    refine aT (n':=2) [39,37] [] rfl rfl (.inl ⟨(ak.yes rfl rfl rfl),aK.cast (aM rfl rfl rfl (aL (by first|omega|(simp;done)|(simp;omega)))) rfl⟩) rfl ?_
    refine aT (n':=2) [38,40,37] [] rfl rfl (.inl ⟨(ak.yes rfl rfl rfl),aK.cast (cD (i:=(q) - 1) rfl rfl rfl Try.underlying44 ep (by first|omega|(simp;done)|(simp;omega)) (bp hx2)) rfl⟩) rfl ?_
    refine aD (kn:=[(46,true)]) aa 12 rfl ⟨hb7,trivial⟩ ?_
    refine bA [1,0] rfl rfl rfl rfl (by kernel_rfl) ?_
    refine af ?_
    refine aj rfl (fun _=>?_) (fun hno=>by cases hno)
    refine ae aa 3 rfl ?_
    refine az ?_
    refine bc ?_
    refine an ?_
    refine bc ?_
    refine an ?_
    refine an ?_
    refine bc ?_
    refine an ?_
    have hX:fx l=(⟨2,(↑q:Int)⟩:cW):=by
      (have hb:¬fH x1:=by unfold fH;omega);(have hla:=lh (by omega) hx2);(have h0:=iC (e:=lB l) (q:=q) (n:=l.length) (by omega) (by rw [iz hx1,if_neg hb,if_pos (by omega)]) (by decide:(2:Int)≠0));(unfold fx;rw [hi0_1,h0];rfl)
    rw [hX] at hr;clear hX
    subst hr
    refine al aa [0] 0 rfl rfl rfl rfl rfl rfl ?_ ?_
    all_goals first|rfl|(simp [aw];done)|(simp [aw];omega)
   have hb7':=of_decide_eq_false hb7
   refine aX [0,2,3,6,7,8,5,4] [1,0] mixed rfl rfl ?_
   refine aD (kn:=[(36,true)]) aa 5 rfl ⟨hb6,trivial⟩ ?_
   refine aT (n':=2) [39,37] [] rfl rfl (.inl ⟨(ak.yes rfl rfl rfl),aK.cast (aM rfl rfl rfl (aL (by first|omega|(simp;done)|(simp;omega)))) rfl⟩) rfl ?_
   refine aT (n':=2) [38,40,37] [] rfl rfl (.inl ⟨(ak.yes rfl rfl rfl),aK.cast (cD (i:=(q) - 1) rfl rfl rfl Try.underlying44 ep (by first|omega|(simp;done)|(simp;omega)) (bp hx2)) rfl⟩) rfl ?_
   refine aD (kn:=[(46,false)]) aa 12 rfl ⟨hb7,trivial⟩ ?_
   refine bA [1,0] rfl rfl rfl rfl (by kernel_rfl) ?_
   refine af ?_
   refine aj rfl (fun hc9=>?_) (fun hc9=>?_)
   ·
    have hc9':=of_decide_eq_true hc9
    refine ae aa 3 rfl ?_
    refine az ?_
    refine bc ?_
    refine an ?_
    refine bc ?_
    refine an ?_
    refine an ?_
    refine bc ?_
    refine an ?_
    have hX:fx l=(⟨2,(↑q:Int)⟩:cW):=by
      (have hb:¬fH x1:=by unfold fH;omega);(have hla:=lh (by omega) hx2);(have h0:=iC (e:=lB l) (q:=q) (n:=l.length) (by omega) (by rw [iz hx1,if_neg hb,if_pos (by omega)]) (by decide:(2:Int)≠0));(unfold fx;rw [hi0_1,h0];rfl)
    rw [hX] at hr;clear hX
    subst hr
    refine al aa [0] 0 rfl rfl rfl rfl rfl rfl ?_ ?_
    all_goals first|rfl|(simp [aw];done)|(simp [aw];omega)
   have hc9':=of_decide_eq_false hc9
   refine da ?_
   refine bm ?_
   refine then_ok ?_
   refine ax ?_
   refine ad aa 3 rfl ?_
   refine aA (aM rfl rfl rfl (aL (by first|omega|(simp;done)|(simp;omega)))) rfl ?_
   refine ad aa 1 rfl ?_
   refine bZ ?_
   refine bm ?_
   refine then_ok ?_
   refine ax ?_
   refine aA (aM rfl rfl rfl (aL (by first|omega|(simp;done)|(simp;omega)))) rfl ?_
   refine ad aa 1 rfl ?_
   refine af ?_
   refine ⟨q+1,⟨by omega,by rw [hi0_1];exact mR (by omega) (by have hla:=lh (by omega) hx2;rw [iz hx1,if_neg (by unfold fH;omega),if_neg (by omega)]),by rw [kg hx1];have hla:=lh (by omega) hx2;omega,by rw [kg hx1,jI hx1];omega⟩,by first|omega|(simp;done)|(simp;omega),aH.ca id (by refine ⟨?_,?_,?_,?_,?_,?_,trivial⟩<;>first|rfl|(simp only [bu];done)|(congr 3;omega)|(congr 4;omega)|(simp only [bw];rfl)|(rw [jI hx1];rfl)) (⟨by first|rfl|(simp only [bu];done)|(congr 3;omega)|(congr 4;omega)|(simp only [bw];rfl),trivial⟩) rfl⟩
  have hb6':=of_decide_eq_false hb6
  refine aX [0,2,3,6,7,8,5,4] [1,0] mixed rfl rfl ?_
  refine aD (kn:=[(36,false)]) aa 19 rfl ⟨hb6,trivial⟩ ?_
  refine bA [1,0] rfl rfl rfl rfl (by kernel_rfl) ?_
  refine af ?_
  refine aj rfl (fun hc10=>?_) (fun hc10=>?_)
  ·
   have hc10':=of_decide_eq_true hc10
   refine ae aa 3 rfl ?_
   refine az ?_
   refine bc ?_
   refine an ?_
   refine bc ?_
   refine an ?_
   refine an ?_
   refine bc ?_
   refine an ?_
   have hX:fx l=(⟨2,(↑q:Int)⟩:cW):=by
     (have hb:¬fH x1:=by unfold fH;omega);(have h0:=iC (e:=lB l) (q:=q) (n:=l.length) (by omega) (by rw [iz hx1,if_neg hb,if_pos (by omega)]) (by decide:(2:Int)≠0));(unfold fx;rw [hi0_1,h0];rfl)
   rw [hX] at hr;clear hX
   subst hr
   refine al aa [0] 0 rfl rfl rfl rfl rfl rfl ?_ ?_
   all_goals first|rfl|(simp [aw];done)|(simp [aw];omega)
  have hc10':=of_decide_eq_false hc10
  refine da ?_
  refine bm ?_
  refine then_ok ?_
  refine ax ?_
  refine ad aa 3 rfl ?_
  refine aA (aM rfl rfl rfl (aL (by first|omega|(simp;done)|(simp;omega)))) rfl ?_
  refine ad aa 1 rfl ?_
  refine bZ ?_
  refine bm ?_
  refine then_ok ?_
  refine ax ?_
  refine aA (aM rfl rfl rfl (aL (by first|omega|(simp;done)|(simp;omega)))) rfl ?_
  refine ad aa 1 rfl ?_
  refine af ?_
  refine ⟨q+1,⟨by omega,by rw [hi0_1];exact mR (by omega) (by have hla:iR l q=-1:=(by unfold iR;rw [if_pos (by omega)]);rw [iz hx1,if_neg (by unfold fH;omega),if_neg (by omega)]),by rw [kg hx1];have hla:iR l q=-1:=(by unfold iR;rw [if_pos (by omega)]);omega,by rw [kg hx1,jI hx1];omega⟩,by first|omega|(simp;done)|(simp;omega),aH.ca id (by refine ⟨?_,?_,?_,?_,?_,?_,trivial⟩<;>first|rfl|(simp only [bu];done)|(congr 3;omega)|(congr 4;omega)|(simp only [bw];rfl)|(rw [jI hx1];rfl)) (⟨by first|rfl|(simp only [bu];done)|(congr 3;omega)|(congr 4;omega)|(simp only [bw];rfl),trivial⟩) rfl⟩
 have hc1':=of_decide_eq_false hc1
 refine cv ?_
 refine aU ?_
 refine aU ?_
 refine bS ?_
 refine then_ok ?_
 refine ag ?_
 refine ae aa 2 rfl ?_
 refine aj rfl (fun hc11=>?_) (fun hc11=>?_)
 ·
  have hc11':=of_decide_eq_true hc11
  refine ae aa 2 rfl ?_
  refine az ?_
  refine an ?_
  have hX:fx l=(⟨8,0⟩:cW):=by
    (obtain rfl:q=l.length:=by omega);rw [List.take_length] at *;(unfold fx;rw [hi0_1,np (by omega)];rw [if_neg (by decide),if_pos (by omega)])
  rw [hX] at hr;clear hX
  subst hr
  refine al aa [0] 0 rfl rfl rfl rfl rfl rfl ?_ ?_
  all_goals first|rfl|(simp [aw];done)|(simp [aw];omega)
 have hc11':=of_decide_eq_false hc11
 refine aS ?_
 refine ae aa 2 rfl ?_
 refine az ?_
 have hX:fx l=(⟨0,0⟩:cW):=by
   (obtain rfl:q=l.length:=by omega);rw [List.take_length] at *;(unfold fx;rw [hi0_1,np (by omega)];rw [if_neg (by decide),if_neg (by omega)])
 rw [hX] at hr;clear hX
 subst hr
 refine al aa [0] 0 rfl rfl rfl rfl rfl rfl ?_ ?_
 all_goals first|rfl|(simp [aw];done)|(simp [aw];omega)


theorem vE {l es:List Entry} (h0:(fx l).err=0) (h1:es.length<=10) (h2:∀ x∈es,¬fH x) (h3:gz es=0):iD l es=match iY l es with
    |some r=>(r,0)
    |none=>([],4):=by
  unfold iD
  rw [if_neg (by omega),if_neg (by omega),if_neg (fun ⟨x,hx,hb⟩=>h2 x hx hb),if_neg (by omega)]
  all_goals (cases iY l es<;>rfl)
theorem tX {es:List Entry} {q:Nat} (h:∀ x∈es.take q,¬fH x) (hq:es.length<=q):∀ x∈es,¬fH x:=by
  rwa [List.take_of_length_le hq] at h
theorem yQ {es:List Entry} {q:Nat} {x:Entry} (h:∀ x∈es.take q,¬fH x) (hx:es[q]?=some x) (hb:¬fH x):∀ x∈es.take (q+1),¬fH x:=by
  rw [tF hx]
  intro y hy
  rcases List.mem_append.1 hy with hy|hy
  ·exact h y hy
  ·rw [List.mem_singleton.1 hy];exact hb
theorem xB {es:List Entry} {q:Nat} (hq:es.length<=q):gz (es.take q)=gz es:=by rw [List.take_of_length_le hq]
theorem Ec {l m es:List Entry} {q:Nat} (h:iY l es=iY m (es.drop q)) (hq:es.length<=q):iY l es=some m:=by
  rw [h,List.drop_of_length_le hq];rfl
theorem xu (l es:List Entry) (r:List Entry) (e:Int) (hr:iD l es=(r,e)):Fn Try.prog 111 [(.c (dW l)),(.c (dW es))] (.t [(.c (.s 0 0 2 r.length)),(.c (cI e))]) [(0,(mf r))]:=by
 refine Fn.mk' 75 [(0,(aC (dW l))),(1,(aC (dW es)))] Try.func111 rfl rfl rfl rfl ?_
 intro W0 T0
 refine dt 0 rfl (fun hlen0=>?_)
 refine dt 1 rfl (fun hlen1=>?_)
 refine ae aa 2 rfl ?_
 refine ag ?_
 refine aF aa 1 rfl ?_
 obtain ⟨f0,hr0⟩:∃ (f0:cW),fx l=f0:=⟨_,rfl⟩
 refine aQ 0 [] (cb 0 (wG l f0 hr0) Is rfl rfl ⟨⟨_,rfl,.c (.d _)⟩,trivial⟩ ⟨trivial,trivial,trivial⟩ trivial rfl rfl rfl rfl) rfl ?_
 refine ad aa 2 rfl ?_
 refine af ?_
 refine ae aa 3 rfl ?_
 refine aj rfl (fun hc1=>?_) (fun hc1=>?_)
 ·
  have hc1':=of_decide_eq_true hc1
  refine ag ?_
  refine aX [0,1,6] [0] mixed rfl rfl ?_
  refine aD (kn:=[]) aa 4 rfl trivial ?_
  refine bA [0] rfl rfl rfl rfl (by kernel_rfl) ?_
  refine af ?_
  refine az ?_
  refine an ?_
  refine cS (aH.nil 4 115 2 (by decide) rfl) ?_
  have hX:iD l es=(([]:List Entry),f0.err):=by
    unfold iD;rw [if_pos (by rw [hr0];omega),hr0]
  rw [hX] at hr;clear hX
  simp only [Prod.mk.injEq] at hr;obtain ⟨rfl,rfl⟩:=hr
  refine al aa [1] 1 rfl rfl rfl rfl rfl rfl ?_ ?_
  all_goals first|rfl|(simp [aw];done)|(simp [aw];omega)
 have hc1':=of_decide_eq_false hc1
 refine aS ?_
 refine ag ?_
 refine aF aa 1 rfl ?_
 refine aA (cF rfl rfl rfl rfl rfl Try.underlying44) rfl ?_
 refine ad aa 1 rfl ?_
 refine af ?_
 refine aj rfl (fun hc2=>?_) (fun hc2=>?_)
 ·
  have hc2':=of_decide_eq_true hc2
  refine ae aa 2 rfl ?_
  refine az ?_
  refine an ?_
  refine cS (aH.nil 4 115 2 (by decide) rfl) ?_
  have hX:iD l es=(([]:List Entry),5):=by
    unfold iD;rw [if_neg (by rw [hr0];omega),if_pos (by omega)]
  rw [hX] at hr;clear hX
  simp only [Prod.mk.injEq] at hr;obtain ⟨rfl,rfl⟩:=hr
  refine al aa [1] 1 rfl rfl rfl rfl rfl rfl ?_ ?_
  all_goals first|rfl|(simp [aw];done)|(simp [aw];omega)
 have hc2':=of_decide_eq_false hc2
 refine aS ?_
 refine ae aa 1 rfl ?_
 refine ag ?_
 refine aF aa 1 rfl ?_
 refine aA (cF rfl rfl rfl rfl rfl Try.underlying44) rfl ?_
 refine ad aa 1 rfl ?_
 refine af ?_
 refine aY ?_
 refine cE (β:=Nat) (fun (q:Nat)=>⟨[(0,(aC (dW l))),(1,(aC (dW es))),(7,(aI (gz (es.take q)))),(25,(aC (dW es))),(26,(aI (↑es.length:Int))),(27,(aI (↑q:Int)))],[],0⟩) (fun (q:Nat)=>q<=es.length/\(∀ x∈es.take q,¬fH x)/\-1000000000000 * (q:Int)<=gz (es.take q)/\gz (es.take q)<=1000000000000 * (q:Int)) (fun (q:Nat)=>es.length - q) 0 ?_ ?_ ?_
 ·(have h2:gz (es.take 0)=0:=rfl);exact ⟨by omega,by intro x hx;simp at hx,by omega⟩
 ·exact aH.ca id (by refine ⟨?_,?_,?_,?_,?_,?_,trivial⟩<;>first|rfl|(simp only [bu];done)|(congr 3;omega)|(congr 4;omega)|(simp only [bw];rfl)) (trivial) rfl
 rintro q ⟨hi0_0,hi0_1,hi0_2⟩
 refine ae aa 1 rfl ?_
 refine ag ?_
 refine aj rfl (fun hc3=>?_) (fun hc3=>?_)
 ·
  have hc3':=of_decide_eq_true hc3
  refine aS ?_
  refine ag ?_
  refine aY ?_
  refine eR ?_
  obtain ⟨x1,hx1⟩:=cf (xs:=es) (i:=q) (by first|omega|(simp;done)|(simp;omega))
  refine aA (cD (i:=q) rfl rfl rfl Try.underlying44 ep (by first|omega|(simp;done)|(simp;omega)) (bp hx1)) rfl ?_
  refine ad aa 3 rfl ?_
  refine af ?_
  refine ag ?_
  refine cw 48 ((((decide (x1.aV < 0))||(decide (x1.aV>=58)))||(decide (x1.sum < (-1000000000000))))||(decide (x1.sum > 1000000000000))) ?_ ?_
  ·
   refine ax ?_
   refine ad aa 4 rfl ?_
   refine bE (t:=34) rfl (fun hb4=>?_) (fun hb4=>?_)
   ·
    have hb4':=of_decide_eq_true hb4
    refine ad aa 14 rfl ?_
    refine af ?_
    exact aH.bD 19 rfl rfl (by first|(simp [hb4];done)|(simp_all;done)|(exfalso;simp_all;done)|(simp_all;omega)) rfl
   have hb4':=of_decide_eq_false hb4
   refine ad aa 5 rfl ?_
   refine bE (t:=39) rfl (fun hb5=>?_) (fun hb5=>?_)
   ·
    have hb5':=of_decide_eq_true hb5
    refine ad aa 9 rfl ?_
    refine af ?_
    exact aH.bD 20 rfl rfl (by first|(simp [hb4,hb5];done)|(simp_all;done)|(exfalso;simp_all;done)|(simp_all;omega)) rfl
   have hb5':=of_decide_eq_false hb5
   refine ad aa 5 rfl ?_
   refine bE (t:=44) rfl (fun hb6=>?_) (fun hb6=>?_)
   ·
    have hb6':=of_decide_eq_true hb6
    refine ad aa 4 rfl ?_
    refine af ?_
    exact aH.bD 21 rfl rfl (by first|(simp [hb4,hb5,hb6];done)|(simp_all;done)|(exfalso;simp_all;done)|(simp_all;omega)) rfl
   have hb6':=of_decide_eq_false hb6
   refine ad aa 4 rfl ?_
   refine af ?_
   exact aH.bD 21 rfl rfl (by first|(simp [hb4,hb5,hb6];done)|(simp_all;done)|(exfalso;simp_all;done)|(simp_all;omega)) rfl
  refine aj rfl (fun hc7=>?_) (fun hc7=>?_)
  ·
   have hc7':=hc7;try simp only [br,bR] at hc7'
   refine ae aa 2 rfl ?_
   refine az ?_
   refine an ?_
   refine bc ?_
   refine an ?_
   refine an ?_
   refine bc ?_
   refine an ?_
   refine cS (aH.nil 4 115 2 (by decide) rfl) ?_
   have hX:iD l es=(([]:List Entry),3):=by
     unfold iD;rw [if_neg (by rw [hr0];omega),if_neg (by omega),if_pos ⟨x1,List.mem_of_getElem? hx1,by unfold fH;omega⟩]
   rw [hX] at hr;clear hX
   simp only [Prod.mk.injEq] at hr;obtain ⟨rfl,rfl⟩:=hr
   refine al aa [1] 1 rfl rfl rfl rfl rfl rfl ?_ ?_
   all_goals first|rfl|(simp [aw];done)|(simp [aw];omega)
  have hc7':=hc7;try simp only [br,bR] at hc7'
  refine aS ?_
  refine ax ?_
  refine ad aa 3 rfl ?_
  refine aA (aM rfl rfl rfl (aL (by first|omega|(simp;done)|(simp;omega)))) rfl ?_
  refine ad aa 1 rfl ?_
  refine bZ ?_
  refine bm ?_
  refine then_ok ?_
  refine ax ?_
  refine aA (aM rfl rfl rfl (aL (by first|omega|(simp;done)|(simp;omega)))) rfl ?_
  refine ad aa 1 rfl ?_
  refine af ?_
  refine ⟨q+1,⟨by omega,yQ hi0_1 hx1 (by unfold fH;omega),by rw [jI hx1];omega⟩,by first|omega|(simp;done)|(simp;omega),aH.ca id (by refine ⟨?_,?_,?_,?_,?_,?_,trivial⟩<;>first|rfl|(simp only [bu];done)|(congr 3;omega)|(congr 4;omega)|(simp only [bw];rfl)|(rw [jI hx1];rfl)) (trivial) rfl⟩
 have hc3':=of_decide_eq_false hc3
 refine cv ?_
 refine aU ?_
 refine aU ?_
 refine bS ?_
 refine then_ok ?_
 refine ag ?_
 refine ae aa 2 rfl ?_
 refine aj rfl (fun hc8=>?_) (fun hc8=>?_)
 ·
  have hc8':=of_decide_eq_true hc8
  refine ae aa 2 rfl ?_
  refine az ?_
  refine an ?_
  refine cS (aH.nil 4 115 2 (by decide) rfl) ?_
  have hX:iD l es=(([]:List Entry),8):=by
    (have hs:=xB (es:=es) (q:=q) (by omega));(have hnb:=tX hi0_1 (by omega));unfold iD;rw [if_neg (by rw [hr0];omega),if_neg (by omega),if_neg (fun ⟨x,hx,hb⟩=>hnb x hx hb),if_pos (by omega)]
  rw [hX] at hr;clear hX
  simp only [Prod.mk.injEq] at hr;obtain ⟨rfl,rfl⟩:=hr
  refine al aa [0] 1 rfl rfl rfl rfl rfl rfl ?_ ?_
  all_goals first|rfl|(simp [aw];done)|(simp [aw];omega)
 have hc8':=of_decide_eq_false hc8
 refine aS ?_
 have h0:(fx l).err=0:=by rw [hr0];omega
 have hR:kT l:=(yu.1 h0).1
 have hRl:=tQ hR
 have hs:=xB (es:=es) (q:=q) (by omega)
 have hnb:=tX hi0_1 (by omega)
 refine aF aa 1 rfl ?_
 refine aQ 1 [0] (cb 0 (uP l (by first|omega|(simp;done)|(simp;omega))) GZ rfl rfl ⟨⟨_,rfl,.c (.d _)⟩,trivial⟩ trivial ⟨(fun _ _ _ _=>trivial),trivial⟩ rfl rfl rfl rfl) rfl ?_
 refine ad aa 1 rfl ?_
 refine af ?_
 refine ag ?_
 refine aF aa 1 rfl ?_
 refine aA (cF rfl rfl rfl rfl rfl Try.underlying44) rfl ?_
 refine ad aa 1 rfl ?_
 refine af ?_
 refine aY ?_
 refine cE (β:=Nat×List Entry) (fun (p:Nat×List Entry)=>match p with|(p,m)=>⟨[(0,(aC (dW l))),(1,(aC (dW es))),(7,(aI (gz (es.take q)))),(25,(aC (dW es))),(26,(aI (↑es.length:Int))),(27,(aI (↑q:Int))),(10,(aC (.s 0 0 2 m.length))),(58,(aC (dW es))),(59,(aI (↑es.length:Int))),(60,(aI (↑p:Int)))],[(0,(mf m))],1⟩) (fun (p:Nat×List Entry)=>match p with|(p,m)=>p<=es.length/\kT m/\iY l es=iY m (es.drop p)) (fun (p:Nat×List Entry)=>match p with|(p,m)=>es.length - p) (0,l) ?_ ?_ ?_
 ·exact ⟨by omega,hR,rfl⟩
 ·exact aH.ca id (by refine ⟨?_,?_,?_,?_,?_,?_,?_,?_,?_,?_,trivial⟩<;>first|rfl|(simp only [bu];done)|(congr 3;omega)|(congr 4;omega)|(simp only [bw];rfl)) (⟨by first|rfl|(simp only [bu];done)|(congr 3;omega)|(congr 4;omega)|(simp only [bw];rfl),trivial⟩) rfl
 rintro ⟨p,m⟩ ⟨hi1_0,hi1_1,hi1_2⟩
 refine ae aa 1 rfl ?_
 refine ag ?_
 refine aj rfl (fun hc9=>?_) (fun hc9=>?_)
 ·
  have hc9':=of_decide_eq_true hc9
  refine aS ?_
  refine ag ?_
  refine aY ?_
  refine eR ?_
  obtain ⟨x1,hx1⟩:=cf (xs:=es) (i:=p) (by first|omega|(simp;done)|(simp;omega))
  have hx1n:=hnb x1 (List.mem_of_getElem? hx1)
  have hx1b:0<=x1.aV/\x1.aV<=57/\-1000000000000<=x1.sum/\x1.sum<=1000000000000:=by unfold fH at hx1n;omega
  refine aA (cD (i:=p) rfl rfl rfl Try.underlying44 ep (by first|omega|(simp;done)|(simp;omega)) (bp hx1)) rfl ?_
  refine ad aa 3 rfl ?_
  refine af ?_
  refine aF aa 2 rfl ?_
  obtain ⟨r1,g1,hr1⟩:∃ (r1:List Entry) (g1:Bool),jZ m x1=(r1,g1):=⟨_,_,rfl⟩
  obtain ⟨hp1,hg1⟩:=Prod.mk.inj hr1
  refine aQ 3 [2,1] (cL id (bf [2]) (Hk m x1 (by exact (show kT _ by assumption).up) (by (have:=tQ (show kT _ by assumption);omega)) (by (intro y hy;have:=(show kT _ by assumption).ok y hy;omega)) (by (unfold fH at *;omega)) r1 g1 hr1) GY rfl rfl ⟨⟨_,rfl,.inl ⟨rfl,rfl⟩⟩,⟨_,rfl,.inr (.g ⟨.d _,.d _,trivial⟩)⟩,trivial⟩ ⟨rfl,trivial⟩ rfl rfl rfl rfl rfl rfl ⟨trivial,trivial,trivial⟩ ⟨(fun _ _ _ _=>trivial),trivial⟩ rfl rfl rfl rfl) rfl ?_
  refine ad aa 5 rfl ?_
  refine af ?_
  refine ag ?_
  refine ae aa 2 rfl ?_
  refine aj rfl (fun hc10=>?_) (fun hc10=>?_)
  ·
   have hc10':=hc10;try simp only [br,bR] at hc10'
   refine ae aa 2 rfl ?_
   refine az ?_
   refine an ?_
   refine bc ?_
   refine an ?_
   refine an ?_
   refine bc ?_
   refine an ?_
   refine cS (aH.nil 4 115 2 (by decide) rfl) ?_
   have hX:iD l es=(([]:List Entry),4):=by
     rw [vE h0 (by omega) hnb (by omega),hi1_2,qe hx1,if_neg (by simp_all)]
   rw [hX] at hr;clear hX
   simp only [Prod.mk.injEq] at hr;obtain ⟨rfl,rfl⟩:=hr
   refine al aa [3] 1 rfl rfl rfl rfl rfl rfl ?_ ?_
   all_goals first|rfl|(simp [aw];done)|(simp [aw];omega)
  have hc10':=hc10;try simp only [br,bR] at hc10'
  refine aS ?_
  refine ax ?_
  refine ad aa 2 rfl ?_
  refine bZ ?_
  refine bm ?_
  refine then_ok ?_
  refine ax ?_
  refine aA (aM rfl rfl rfl (aL (by first|omega|(simp;done)|(simp;omega)))) rfl ?_
  refine ad aa 1 rfl ?_
  refine af ?_
  refine ⟨(p+1,r1),⟨by omega,by rw [<-hp1];exact yE hi1_1 (by omega) (AN.1 (by rw [hg1];simp_all)),by rw [hi1_2,qe hx1,if_pos (by rw [hg1];simp_all),hp1]⟩,by first|omega|(simp;done)|(simp;omega),aH.ca (fun k=>if k=0 then 2 else k) (by refine ⟨?_,?_,?_,?_,?_,?_,?_,?_,?_,?_,trivial⟩<;>first|rfl|(simp only [bu];done)|(congr 3;omega)|(congr 4;omega)|(simp only [bw];rfl)) (⟨by first|rfl|(simp only [bu];done)|(congr 3;omega)|(congr 4;omega)|(simp only [bw];rfl),trivial⟩) rfl⟩
 have hc9':=of_decide_eq_false hc9
 refine cv ?_
 refine aU ?_
 refine aU ?_
 refine bS ?_
 refine then_ok ?_
 refine ae aa 3 rfl ?_
 refine az ?_
 have hX:iD l es=(m,0):=by
   rw [vE h0 (by omega) hnb (by omega),Ec hi1_2 (by omega)]
 rw [hX] at hr;clear hX
 simp only [Prod.mk.injEq] at hr;obtain ⟨rfl,rfl⟩:=hr
 refine al aa [0] 1 rfl rfl rfl rfl rfl rfl ?_ ?_
 all_goals first|rfl|(simp [aw];done)|(simp [aw];omega)


def ke (l:List Entry) (src dst n:Int):List Entry×Int:=if n < 0\/n > 1000000000000 then ([],3) else iD l [⟨src,0 - n⟩,⟨dst,n⟩]
theorem xv (l:List Entry) (src dst n:Int) (r:List Entry) (e:Int) (hr:ke l src dst n=(r,e)):Fn Try.prog 98 [(.c (dW l)),(.c (cI src)),(.c (cI dst)),(.c (cI n))] (.t [(.c (.s 0 0 2 r.length)),(.c (cI e))]) [(0,(mf r))]:=by
 refine Fn.mk' 28 [(0,(aC (dW l))),(1,(aI src)),(2,(aI dst)),(3,(aI n))] Try.func98 rfl rfl rfl rfl ?_
 intro W0 T0
 refine dt 0 rfl (fun hlen0=>?_)
 refine ae aa 2 rfl ?_
 refine ag ?_
 refine cw 15 ((decide (n < 0))||(decide (n > 1000000000000))) ?_ ?_
 ·
  refine ax ?_
  refine ad aa 3 rfl ?_
  refine bE (t:=12) rfl (fun hb1=>?_) (fun hb1=>?_)
  ·
   have hb1':=of_decide_eq_true hb1
   refine ad aa 3 rfl ?_
   refine af ?_
   exact aH.bD 7 rfl rfl (by first|(simp [hb1];done)|(simp_all;done)|(exfalso;simp_all;done)|(simp_all;omega)) rfl
  have hb1':=of_decide_eq_false hb1
  refine ad aa 3 rfl ?_
  refine af ?_
  exact aH.bD 7 rfl rfl (by first|(simp [hb1];done)|(simp_all;done)|(exfalso;simp_all;done)|(simp_all;omega)) rfl
 refine aj rfl (fun hc2=>?_) (fun hc2=>?_)
 ·
  have hc2':=hc2;try simp only [br,bR] at hc2'
  refine ae aa 2 rfl ?_
  refine az ?_
  refine an ?_
  refine cS (aH.nil 8 115 2 (by decide) rfl) ?_
  have hX:ke l src dst n=(([]:List Entry),3):=by
    unfold ke;rw [if_pos (by omega)]
  rw [hX] at hr;clear hX
  simp only [Prod.mk.injEq] at hr;obtain ⟨rfl,rfl⟩:=hr
  refine al aa [0] 1 rfl rfl rfl rfl rfl rfl ?_ ?_
  all_goals first|rfl|(simp [aw];done)|(simp [aw];omega)
 have hc2':=hc2;try simp only [br,bR] at hc2'
 refine aS ?_
 refine aF aa 3 rfl ?_
 refine aA (sf rfl rfl (aL (by first|omega|(simp;done)|(simp;omega)))) rfl ?_
 refine ad aa 4 rfl ?_
 refine aQ 1 [0] (dV (ys:=[(0,(.g [(cI src),(cI (0 - n))])),(1,(.g [(cI dst),(cI n)]))]) (rows:=([(⟨src,0 - n⟩:Entry),(⟨dst,n⟩:Entry)]).map eJ) 0 kx rfl (by decide) ⟨⟨rfl,rfl⟩,⟨rfl,rfl⟩,trivial⟩ rfl rfl rfl rfl) rfl ?_
 obtain ⟨r0,e0,hr0⟩:∃ (r0:List Entry) (e0:Int),iD l ([(⟨src,0 - n⟩:Entry),(⟨dst,n⟩:Entry)])=(r0,e0):=⟨_,_,rfl⟩
 refine aQ 2 [1,0] (fe 1 [0] (xu l ([(⟨src,0 - n⟩:Entry),(⟨dst,n⟩:Entry)]) r0 e0 hr0) Hb rfl rfl ⟨⟨_,rfl,.c (.d _)⟩,⟨_,rfl,.c (.s rfl (by decide) (by first|omega|(simp;done)|(simp;omega)))⟩,trivial⟩ ⟨trivial,rfl,trivial⟩ ⟨(yV _),trivial⟩ rfl rfl rfl rfl) rfl ?_
 refine ad aa 4 rfl ?_
 refine af ?_
 refine az ?_
 have hX:ke l src dst n=(r0,e0):=by
   unfold ke;rw [if_neg (by omega)];assumption
 rw [hX] at hr;clear hX
 simp only [Prod.mk.injEq] at hr;obtain ⟨rfl,rfl⟩:=hr
 refine al aa [1] 1 rfl rfl rfl rfl rfl rfl ?_ ?_
 all_goals first|rfl|(simp [aw];done)|(simp [aw];omega)
theorem jJ {α:Type}:∀ l:List α,l=[]\/∃ A y,l=A++[y]
 |[]=>.inl rfl
 |x::l=>.inr (by
  rcases jJ l with rfl|⟨A,y,rfl⟩
  ·exact ⟨[],x,rfl⟩
  ·exact ⟨x::A,y,rfl⟩)
def gQ (a b:ah):Bool:=decide (a.aE < b.aE)||(decide (a.aE=b.aE) && decide (a.ba < b.ba))
def fF (a b:ah):Prop:=a.aE < b.aE\/(a.aE=b.aE/\a.ba<=b.ba)
def jX (a b:ah):Bool:=decide (a.aE=b.aE) && decide (a.ba=b.ba)
def eU (l:List ah):Prop:=l.Pairwise fF
def Same (u v:List ah):Prop:=∀ k:ah,u.filter (jX k)=v.filter (jX k)
theorem pH {a b:ah}:gQ a b=true↔(a.aE < b.aE\/(a.aE=b.aE/\a.ba < b.ba)):=by unfold gQ;simp
theorem pI {a b:ah}:gQ a b=false↔fF b a:=by
 unfold gQ fF
 rw [Bool.or_eq_false_iff,decide_eq_false_iff_not,Bool.and_eq_false_iff,decide_eq_false_iff_not,decide_eq_false_iff_not]
 omega
theorem lg {a b:ah} (h:gQ a b=true):fF a b:=by rw [pH] at h;unfold fF;omega
theorem nA (a:ah):fF a a:=by unfold fF;omega
theorem jO {a b c:ah} (h:fF a b) (h':fF b c):fF a c:=by unfold fF at *;omega
theorem vM {a b c:ah} (h:gQ a b=true) (h':fF b c):gQ a c=true:=by rw [pH] at *;unfold fF at *;omega
theorem Ax {a b c:ah} (h:fF a b) (h':gQ b c=true):gQ a c=true:=by rw [pH] at *;unfold fF at *;omega
theorem pA {a b:ah}:jX a b=true↔(a.aE=b.aE/\a.ba=b.ba):=by unfold jX;simp
theorem lH (a:ah):jX a a=true:=by rw [pA];exact ⟨rfl,rfl⟩
theorem Same.refl (u:List ah):Same u u:=fun _=>rfl
theorem Same.symm {u v:List ah} (h:Same u v):Same v u:=fun k=>(h k).symm
theorem Same.trans {u v z:List ah} (h:Same u v) (h':Same v z):Same u z:=fun k=>(h k).trans (h' k)
theorem Same.app {u v u' v':List ah} (h:Same u u') (h':Same v v'):Same (u++v) (u'++v'):=fun k=>by rw [List.filter_append,List.filter_append,h k,h' k]
theorem Same.mem {u v:List ah} (h:Same u v) {x:ah}:x∈u↔x∈v:=by
 have h1:∀ l:List ah,x∈l.filter (jX x)↔x∈l:=fun l=>by simp [lH]
 rw [<-h1 u,<-h1 v,h x]
theorem Same.perm {u v:List ah} (h:Same u v):u.Perm v:=by
 rw [List.perm_iff_count]
 intro x
 rw [<-List.count_filter (p:=jX x) (l:=u) (lH x),<-List.count_filter (p:=jX x) (l:=v) (lH x),h x]
theorem Same.len {u v:List ah} (h:Same u v):u.length=v.length:=h.perm.length_eq
theorem Same.comm {u v:List ah} (h:∀ x∈u,∀ y∈v,gQ y x=true):Same (u++v) (v++u):=fun k=>by
 rw [List.filter_append,List.filter_append]
 by_cases hu:u.filter (jX k)=[]
 ·rw [hu];simp
 ·by_cases hv:v.filter (jX k)=[]
  ·rw [hv];simp
  ·exfalso
   obtain ⟨x,hx⟩:=List.exists_mem_of_ne_nil _ hu
   obtain ⟨y,hy⟩:=List.exists_mem_of_ne_nil _ hv
   rw [List.mem_filter] at hx hy
   have h1:=h x hx.1 y hy.1
   have h2:=pA.1 hx.2
   have h3:=pA.1 hy.2
   rw [pH] at h1
   omega
theorem eU.uniq:∀ {u v:List ah},eU u->eU v->Same u v->u=v
 |[],v,_,_,h=>by have:=h.len;exact (List.eq_nil_of_length_eq_zero this.symm).symm
 |x::u,[],_,_,h=>by have:=h.len;cases this
 |x::u,y::v,hu,hv,h=>by
  obtain ⟨hu1,hu2⟩:=List.pairwise_cons.1 hu
  obtain ⟨hv1,hv2⟩:=List.pairwise_cons.1 hv
  have h1:fF x y:=by
   rcases List.mem_cons.1 (h.mem.2 (List.mem_cons_self (a:=y) (l:=v))) with rfl|hm
   ·exact nA _
   ·exact hu1 y hm
  have h2:fF y x:=by
   rcases List.mem_cons.1 (h.mem.1 (List.mem_cons_self (a:=x) (l:=u))) with rfl|hm
   ·exact nA _
   ·exact hv1 x hm
  have h3:jX x y=true:=by rw [pA];unfold fF at h1 h2;omega
  have h4:=h x
  rw [List.filter_cons,List.filter_cons,if_pos (lH x),if_pos h3] at h4
  obtain ⟨rfl,_⟩:=List.cons.inj h4
  have h5:Same u v:=fun k=>by
   have:=h k
   rw [List.filter_cons,List.filter_cons] at this
   split at this
   ·exact (List.cons.inj this).2
   ·exact this
  rw [eU.uniq hu2 hv2 h5]

def iv (d:List ah) (i j:Nat):List ah:=
 match d[i]?,d[j]? with
 |some x,some y=>(d.set i y).set j x
 |_,_=>d
theorem lT {d:List ah} {i j:Nat} {x y:ah} (hx:d[i]?=some x) (hy:d[j]?=some y):iv d i j=(d.set i y).set j x:=by unfold iv;rw [hx,hy]
theorem mm (d:List ah) (i j:Nat):(iv d i j).length=d.length:=by
 unfold iv;split<;>simp
theorem ot (s t u:List ah) (x y:ah) {i j:Nat} (hi:i=s.length) (hj:j=s.length+1+t.length):iv (s++x::(t++y::u)) i j=s++y::(t++x::u):=by
 subst hi hj
 have h1:(s++x::(t++y::u))[s.length]?=some x:=by simp
 have h2:(s++x::(t++y::u))[s.length+1+t.length]?=some y:=by
  rw [List.getElem?_append_right (by omega),show s.length+1+t.length - s.length=t.length+1 by omega,List.getElem?_cons_succ];simp
 rw [lT h1 h2,List.set_append_right _ _ (Nat.le_refl _),Nat.sub_self,List.set_cons_zero,List.set_append_right _ _ (by omega),show s.length+1+t.length - s.length=t.length+1 by omega,
  List.set_cons_succ,List.set_append_right _ _ (Nat.le_refl _),Nat.sub_self,List.set_cons_zero]
theorem yy (d:List ah) (i j:Nat):iv d i j=iv d j i:=by
 by_cases hij:i=j
 ·subst hij;rfl
 ·unfold iv
  cases hx:d[i]? with
  |none=>cases hy:d[j]?<;>rfl
  |some x=>
   cases hy:d[j]? with
   |none=>rfl
   |some y=>exact List.set_comm _ _ hij
theorem rJ (s t u:List ah) (x y:ah) {i j:Nat} (hi:i=s.length) (hj:j=s.length+1+t.length):iv (s++x::(t++y::u)) j i=s++y::(t++x::u):=by rw [yy];exact ot s t u x y hi hj

structure Part (d y:List ah) (a b:Nat):Prop where
 len:y.length=d.length
 l:y.take a=d.take a
 r:y.drop b=d.drop b
 s:eU ((y.drop a).take (b - a))
 m:Same d y
theorem Part.of {P X C R:List ah} {a b:Nat} (ha:P.length=a) (hb:b=a+X.length) (hs:eU C) (hm:Same X C):Part (P++X++R) (P++C++R) a b:=by
 subst ha hb
 have hl:=hm.len
 refine ⟨by simp [hl],by simp,?_,?_,((Same.refl P).app hm).app (Same.refl R)⟩
 ·have h1:∀ Z:List ah,Z.length=X.length->(P++Z++R).drop (P.length+X.length)=R:=fun Z hz=>by
   rw [<-hz,<-List.length_append,List.drop_left]
  rw [h1 C hl.symm,h1 X rfl]
 ·rw [List.append_assoc,List.drop_left,show P.length+X.length - P.length=C.length by omega,List.take_left];exact hs
theorem parts {d:List ah} {a b:Nat} (h:a<=b) (hb:b<=d.length):d=d.take a++(d.drop a).take (b - a)++d.drop b:=by
 have h1:d.drop b=(d.drop a).drop (b - a):=by rw [List.drop_drop];congr 1;omega
 rw [h1,List.append_assoc,List.take_append_drop,List.take_append_drop]

def jF (a:Nat):Nat->List ah->List ah
 |0,d=>d
 |j+1,d=>
  if a < j+1 then
   match d[j+1]?,d[j]? with
   |some x,some y=>if gQ x y=true then jF a j (iv d (j+1) j) else d
   |_,_=>d
  else d
theorem qU {a j:Nat} {d:List ah} (h:¬a < j):jF a j d=d:=by
 cases j with
 |zero=>rfl
 |succ j=>unfold jF;rw [if_neg h]
theorem oS {a j:Nat} {d:List ah} {x y:ah} (hx:d[j]?=some x) (hy:d[j - 1]?=some y) (h:gQ x y=false):jF a j d=d:=by
 cases j with
 |zero=>rfl
 |succ j=>
  unfold jF
  split
  ·rw [hx,show d[j]?=some y from hy];simp [h]
  ·rfl
theorem yb {a j:Nat} {d:List ah} {x y:ah} (ha:a < j) (hx:d[j]?=some x) (hy:d[j - 1]?=some y) (h:gQ x y=true):jF a j d=jF a (j - 1) (iv d j (j - 1)):=by
 cases j with
 |zero=>omega
 |succ j=>
  conv=>lhs;unfold jF
  rw [if_pos ha,hx,show d[j]?=some y from hy]
  simp only [h,if_true]
  rfl
theorem vT (a:Nat):∀ (j:Nat) (d:List ah),(jF a j d).length=d.length
 |0,d=>rfl
 |j+1,d=>by
  unfold jF
  split
  ·split
   ·split
    ·rw [vT a j,mm]
    ·rfl
   ·rfl
  ·rfl
theorem vU (P:List ah) (x:ah):∀ (n:Nat) (A R:List ah),A.length=n->∃ A1 A2,A=A1++A2/\jF P.length (P.length+n) (P++A++x::R)=P++(A1++x::A2)++R/\(∀ y∈A2,gQ x y=true)/\(∀ A0 y,A1=A0++[y]->fF y x)
 |0,A,R,hA=>by
  obtain rfl:=List.eq_nil_of_length_eq_zero hA
  refine ⟨[],[],rfl,?_,by simp,by simp⟩
  rw [qU (by omega)];simp
 |n+1,A,R,hA=>by
  obtain ⟨A',y,rfl⟩:∃ A' y,A=A'++[y]:=by
   rcases jJ A with rfl|h
   ·cases hA
   ·exact h
  have hn:A'.length=n:=by simpa using hA
  have e1:P++(A'++[y])++x::R=(P++A')++y::([]++x::R):=by simp
  have h1:(P++(A'++[y])++x::R)[P.length+(n+1)]?=some x:=by
   rw [List.getElem?_append_right (by simp;omega),show P.length+(n+1) - (P++(A'++[y])).length=0 by simp;omega];rfl
  have h2:(P++(A'++[y])++x::R)[P.length+(n+1) - 1]?=some y:=by
   rw [e1,List.getElem?_append_right (by simp;omega),show P.length+(n+1) - 1 - (P++A').length=0 by simp;omega];rfl
  cases hc:gQ x y with
  |true=>
   rw [yb (by omega) h1 h2 hc,show P.length+(n+1) - 1=P.length+n by omega,e1,rJ (P++A') [] R y x (by simp;omega) (by simp;omega)]
   obtain ⟨A1,A2,rfl,h3,h4,h5⟩:=vU P x n A' (y::R) hn
   refine ⟨A1,A2++[y],by simp,?_,?_,h5⟩
   ·rw [List.nil_append,h3];simp
   ·intro z hz
    rcases List.mem_append.1 hz with hz|hz
    ·exact h4 z hz
    ·rw [List.mem_singleton.1 hz];exact hc
  |false=>
   rw [oS h1 h2 hc]
   refine ⟨A'++[y],[],by simp,by simp,by simp,fun A0 z hz=>?_⟩
   obtain ⟨_,h⟩:=List.append_inj' hz rfl
   rw [<-List.cons.inj h|>.1]
   exact pI.1 hc
theorem gY {u v:List ah}:eU (u++v)↔eU u/\eU v/\∀ x∈u,∀ y∈v,fF x y:=List.pairwise_append
theorem vk {u:List ah} {y x:ah} (h:eU (u++[y])) (hx:fF y x):∀ z∈u++[y],fF z x:=fun z hz=>by
 rcases List.mem_append.1 hz with hz|hz
 ·exact jO ((gY.1 h).2.2 z hz y (List.mem_singleton.2 rfl)) hx
 ·rw [List.mem_singleton.1 hz];exact hx
theorem Ay {u:List ah} {x:ah} (h:eU u) (hl:∀ A0 y,u=A0++[y]->fF y x):∀ z∈u,fF z x:=by
 rcases jJ u with rfl|⟨A',y,h'⟩
 ·simp
 ·rw [h'] at h ⊢;exact vk h (hl A' y h')
theorem At {A1 A2:List ah} {x:ah} (h:eU (A1++A2)) (h1:∀ z∈A1,fF z x) (h2:∀ z∈A2,gQ x z=true):eU (A1++x::A2)/\Same (A1++A2++[x]) (A1++x::A2):=by
 obtain ⟨s1,s2,s3⟩:=gY.1 h
 refine ⟨gY.2 ⟨s1,List.pairwise_cons.2 ⟨fun y hy=>lg (h2 y hy),s2⟩,fun z hz y hy=>?_⟩,?_⟩
 ·rcases List.mem_cons.1 hy with rfl|hy
  ·exact h1 z hz
  ·exact s3 z hz y hy
 ·have:=(Same.refl A1).app (Same.comm (u:=A2) (v:=[x]) fun y hy z hz=>by rw [List.mem_singleton.1 hz];exact h2 y hy)
  simpa using this
theorem Ej {B1 B2:List ah} {x:ah} (h:eU (B1++B2)) (h1:∀ z∈B1,gQ z x=true) (h2:∀ z∈B2,fF x z):eU (B1++x::B2)/\Same (x::(B1++B2)) (B1++x::B2):=by
 obtain ⟨s1,s2,s3⟩:=gY.1 h
 refine ⟨gY.2 ⟨s1,List.pairwise_cons.2 ⟨h2,s2⟩,fun z hz y hy=>?_⟩,?_⟩
 ·rcases List.mem_cons.1 hy with rfl|hy
  ·exact lg (h1 z hz)
  ·exact s3 z hz y hy
 ·have:=(Same.comm (u:=[x]) (v:=B1) fun y hy z hz=>by rw [List.mem_singleton.1 hy];exact h1 z hz).app (Same.refl B2)
  simpa using this
def js (a:Nat):Nat->List ah->List ah
 |0,d=>d
 |n+1,d=>jF a (a+1+n) (js a n d)
theorem qT (a:Nat):∀ (n:Nat) (d:List ah),(js a n d).length=d.length
 |0,_=>rfl
 |n+1,d=>by unfold js;rw [vT,qT a n]
theorem vQ (P X R:List ah):∀ n,n < X.length->∃ C,js P.length n (P++X++R)=P++C++X.drop (n+1)++R/\eU C/\Same (X.take (n+1)) C
 |0,h=>by
  refine ⟨X.take 1,?_,?_,Same.refl _⟩
  ·unfold js;rw [List.append_assoc P (X.take 1),List.take_append_drop]
  ·cases X with
   |nil=>cases h
   |cons x X=>exact List.pairwise_singleton _ _
 |n+1,h=>by
  obtain ⟨C,h1,h2,h3⟩:=vQ P X R n (by omega)
  have hl:C.length=n+1:=by rw [<-h3.len,List.length_take];omega
  have e1:X.drop (n+1)=X[n+1]::X.drop (n+2):=List.drop_eq_getElem_cons h
  obtain ⟨A1,A2,rfl,h4,h5,h6⟩:=vU P X[n+1] (n+1) C (X.drop (n+2)++R) hl
  have h7:eU A1:=(gY.1 h2).1
  obtain ⟨h8,h9⟩:=At h2 (Ay h7 h6) h5
  refine ⟨A1++X[n+1]::A2,?_,h8,?_⟩
  ·unfold js
   rw [h1,show P.length+1+n=P.length+(n+1) by omega,show P++(A1++A2)++X.drop (n+1)++R=P++(A1++A2)++X[n+1]::(X.drop (n+2)++R) by rw [List.append_assoc _ _ R,e1,List.cons_append],h4]
   simp
  ·rw [List.take_add_one,List.getElem?_eq_getElem h]
   exact (h3.app (Same.refl _)).trans h9
theorem uf {d:List ah} {a b:Nat} (h:a<=b) (hb:b<=d.length):Part d (js a (b - (a+1)) d) a b:=by
 by_cases hab:a=b
 ·subst hab
  rw [show a - (a+1)=0 by omega]
  exact ⟨rfl,rfl,rfl,by rw [Nat.sub_self];exact List.Pairwise.nil,Same.refl _⟩
 ·have e:=parts h hb
  have h1:(d.take a).length=a:=by rw [List.length_take];omega
  have h2:((d.drop a).take (b - a)).length=b - a:=by rw [List.length_take,List.length_drop];omega
  obtain ⟨C,h3,h4,h5⟩:=vQ (d.take a) ((d.drop a).take (b - a)) (d.drop b) (b - (a+1)) (by omega)
  rw [h1] at h3
  rw [<-e,List.drop_of_length_le (l:=(d.drop a).take (b - a)) (by omega),List.append_nil] at h3
  rw [List.take_of_length_le (l:=(d.drop a).take (b - a)) (by omega)] at h5
  have:=Part.of (P:=d.take a) (R:=d.drop b) (a:=a) (b:=b) h1 (by omega) h4 h5
  rwa [<-e,<-h3] at this

def dC (d:List ah) (i j:Nat):Bool:=
 match d[i]?,d[j]? with
 |some x,some y=>gQ x y
 |_,_=>false
theorem gi {d:List ah} {i j:Nat} {x y:ah} (hx:d[i]?=some x) (hy:d[j]?=some y):dC d i j=gQ x y:=by unfold dC;rw [hx,hy]
def fY (p:Nat->Bool) (i j:Nat):Nat:=
 if _h:i < j then if p ((i+j) / 2)=true then fY p ((i+j) / 2+1) j else fY p i ((i+j) / 2) else i
termination_by j - i
theorem eT {p:Nat->Bool} {i j:Nat} (h:¬i < j):fY p i j=i:=by rw [fY,dif_neg h]
theorem DP {p:Nat->Bool} {i j:Nat} (h:i < j) (hp:p ((i+j) / 2)=true):fY p i j=fY p ((i+j) / 2+1) j:=by rw [fY,dif_pos h,if_pos hp]
theorem DQ {p:Nat->Bool} {i j:Nat} (h:i < j) (hp:p ((i+j) / 2)=false):fY p i j=fY p i ((i+j) / 2):=by rw [fY,dif_pos h,if_neg (by rw [hp];exact Bool.false_ne_true)]
theorem kL (p:Nat->Bool):∀ (n i j:Nat),j - i<=n->i<=j->i<=fY p i j/\fY p i j<=j/\(fY p i j=i\/p (fY p i j - 1)=true)/\(fY p i j=j\/p (fY p i j)=false)
 |0,i,j,hn,h=>by rw [eT (by omega)];exact ⟨Nat.le_refl _,h,.inl rfl,.inl (by omega)⟩
 |n+1,i,j,hn,h=>by
  by_cases hij:i < j
  ·cases hp:p ((i+j) / 2) with
   |true=>
    rw [DP hij hp]
    obtain ⟨h1,h2,h3,h4⟩:=kL p n ((i+j) / 2+1) j (by omega) (by omega)
    refine ⟨by omega,h2,?_,h4⟩
    rcases h3 with h3|h3
    ·right;rw [h3,Nat.add_sub_cancel];exact hp
    ·exact .inr h3
   |false=>
    rw [DQ hij hp]
    obtain ⟨h1,h2,h3,h4⟩:=kL p n i ((i+j) / 2) (by omega) (by omega)
    refine ⟨h1,by omega,h3,?_⟩
    rcases h4 with h4|h4
    ·right;rw [h4];exact hp
    ·exact .inr h4
  ·rw [eT hij];exact ⟨Nat.le_refl _,h,.inl rfl,.inl (by omega)⟩
def nV (a:Nat):Nat->List ah->List ah
 |0,d=>d
 |n+1,d=>iv (nV a n d) (a+n) (a+n+1)
def nW (m:Nat):Nat->List ah->List ah
 |0,d=>d
 |n+1,d=>iv (nW m n d) (m - n) (m - n - 1)
theorem xW (a:Nat):∀ (n:Nat) (d:List ah),(nV a n d).length=d.length
 |0,_=>rfl
 |n+1,d=>by unfold nV;rw [mm,xW a n]
theorem xY (m:Nat):∀ (n:Nat) (d:List ah),(nW m n d).length=d.length
 |0,_=>rfl
 |n+1,d=>by unfold nW;rw [mm,xY m n]
theorem xX (P:List ah) (x:ah):∀ (n:Nat) (V R:List ah),V.length=n->nV P.length n (P++x::(V++R))=P++V++x::R
 |0,V,R,h=>by obtain rfl:=List.eq_nil_of_length_eq_zero h;simp [nV]
 |n+1,V,R,h=>by
  rcases jJ V with rfl|⟨V',y,rfl⟩
  ·cases h
  ·have hn:V'.length=n:=by simpa using h
   unfold nV
   rw [show P++x::(V'++[y]++R)=P++x::(V'++(y::R)) by simp,xX P x n V' (y::R) hn]
   have:=ot (P++V') [] R x y (i:=P.length+n) (j:=P.length+n+1) (by simp;omega) (by simp;omega)
   rw [List.nil_append,List.nil_append] at this
   rw [this];simp
theorem xZ (P:List ah) (x:ah) (R:List ah):∀ (n:Nat) (U1 U2:List ah),U2.length=n->nW (P++U1++U2).length n (P++U1++U2++x::R)=P++U1++x::(U2++R)
 |0,U1,U2,h=>by obtain rfl:=List.eq_nil_of_length_eq_zero h;simp [nW]
 |n+1,U1,U2,h=>by
  cases U2 with
  |nil=>cases h
  |cons y U=>
   have hn:U.length=n:=by simpa using h
   unfold nW
   have e1:P++U1++y::U=P++(U1++[y])++U:=by simp
   rw [e1,xZ P x R n (U1++[y]) U hn]
   have:=rJ (P++U1) [] (U++R) y x (i:=(P++(U1++[y])++U).length - n - 1) (j:=(P++(U1++[y])++U).length - n) (by simp;omega) (by simp;omega)
   rw [List.nil_append,List.nil_append] at this
   rw [show P++(U1++[y])++x::(U++R)=P++U1++y::x::(U++R) by simp,this]
   simp
def gw (a b:Nat):Nat->List ah->List ah
 |0,d=>d
 |n+1,d=>iv (gw a b n d) (a+n) (b+n)
theorem iV (a b:Nat):∀ (n:Nat) (d:List ah),(gw a b n d).length=d.length
 |0,_=>rfl
 |n+1,d=>by unfold gw;rw [mm,iV a b n]
theorem ml (p:List ah):∀ (n:Nat) (x q y r:List ah) {b:Nat},x.length=n->y.length=n->b=p.length+n+q.length->gw p.length b n (p++(x++(q++(y++r))))=p++(y++(q++(x++r)))
 |0,x,q,y,r,b,hx,hy,_=>by obtain rfl:=List.eq_nil_of_length_eq_zero hx;obtain rfl:=List.eq_nil_of_length_eq_zero hy;rfl
 |n+1,x,q,y,r,b,hx,hy,hb=>by
  rcases jJ x with rfl|⟨x',x1,rfl⟩
  ·cases hx
  rcases jJ y with rfl|⟨y',y1,rfl⟩
  ·cases hy
  have h1:x'.length=n:=by simpa using hx
  have h2:y'.length=n:=by simpa using hy
  unfold gw
  have:=ml p n x' (x1::q) y' (y1::r) (b:=b) h1 h2 (by simp;omega)
  rw [show p++(x'++[x1]++(q++(y'++[y1]++r)))=p++(x'++(x1::q++(y'++y1::r))) by simp,this]
  have:=ot (p++y') (q++x') r x1 y1 (i:=p.length+n) (j:=b+n) (by simp;omega) (by simp;omega)
  rw [show p++(y'++(x1::q++(x'++y1::r)))=p++y'++x1::(q++x'++y1::r) by simp,this]
  simp
def jm (m:Nat) (i j:Nat) (d:List ah):List ah:=
 if _h:0 < i/\0 < j then
  if i=j then gw (m - i) m i d
  else if i > j then jm m (i - j) j (gw (m - i) m j d)
  else jm m i (j - i) (gw (m - i) (m+j - i) i d)
 else d
termination_by i+j
theorem Ad {m i:Nat} {d:List ah} (hi:0 < i):jm m i i d=gw (m - i) m i d:=by rw [jm,dif_pos ⟨hi,hi⟩,if_pos rfl]
theorem Ac {m i j:Nat} {d:List ah} (hj:0 < j) (h:i > j):jm m i j d=jm m (i - j) j (gw (m - i) m j d):=by rw [jm,dif_pos ⟨by omega,hj⟩,if_neg (by omega),if_pos h]
theorem Ab {m i j:Nat} {d:List ah} (hi:0 < i) (h:i < j):jm m i j d=jm m i (j - i) (gw (m - i) (m+j - i) i d):=by rw [jm,dif_pos ⟨hi,by omega⟩,if_neg (by omega),if_neg (by omega)]
theorem sQ:∀ (n:Nat) (P u v R:List ah) (m:Nat),u.length+v.length<=n->0 < u.length->0 < v.length->m=P.length+u.length->jm m u.length v.length (P++(u++(v++R)))=P++(v++(u++R))
 |0,P,u,v,R,m,hn,hu,hv,hm=>by omega
 |n+1,P,u,v,R,m,hn,hu,hv,hm=>by
  rcases Nat.lt_trichotomy u.length v.length with h|h|h
  ·rw [Ab hu h]
   have e:v=v.take (v.length - u.length)++v.drop (v.length - u.length):=(List.take_append_drop _ _).symm
   have l1:(v.take (v.length - u.length)).length=v.length - u.length:=by rw [List.length_take];omega
   have l2:(v.drop (v.length - u.length)).length=u.length:=by rw [List.length_drop];omega
   generalize hv1:v.take (v.length - u.length)=v1 at e l1
   generalize hv2:v.drop (v.length - u.length)=v2 at e l2
   have h1:=ml P u.length u v1 v2 R (b:=m+v.length - u.length) rfl l2 (by omega)
   rw [show m - u.length=P.length by omega,show P++(u++(v++R))=P++(u++(v1++(v2++R))) by rw [e];simp,h1,<-l1]
   have h2:=sQ n P v2 v1 (u++R) m (by omega) (by omega) (by omega) (by omega)
   rw [l2] at h2
   rw [h2,e];simp
  ·rw [<-h,Ad hu,show m - u.length=P.length by omega]
   have h1:=ml P u.length u [] v R (b:=m) rfl h.symm (by simp;omega)
   simpa using h1
  ·rw [Ac hv h]
   have e:u=u.take v.length++u.drop v.length:=(List.take_append_drop _ _).symm
   have l1:(u.take v.length).length=v.length:=by rw [List.length_take];omega
   have l2:(u.drop v.length).length=u.length - v.length:=by rw [List.length_drop]
   generalize hv1:u.take v.length=u1 at e l1
   generalize hv2:u.drop v.length=u2 at e l2
   have h1:=ml P v.length u1 u2 v R (b:=m) l1 rfl (by omega)
   rw [show m - u.length=P.length by omega,show P++(u++(v++R))=P++(u1++(u2++(v++R))) by rw [e];simp,h1,<-l2]
   have h2:=sQ n (P++v) u2 u1 R m (by omega) (by omega) (by omega) (by simp;omega)
   rw [l1] at h2
   rw [show P++(v++(u2++(u1++R)))=P++v++(u2++(u1++R)) by simp,h2,e];simp
theorem mS:∀ (n m i j:Nat) (d:List ah),i+j<=n->(jm m i j d).length=d.length
 |0,m,i,j,d,h=>by rw [jm,dif_neg (by omega)]
 |n+1,m,i,j,d,h=>by
  rw [jm]
  split
  ·split
   ·rw [iV]
   ·split
    ·rw [mS n _ _ _ _ (by omega),iV]
    ·rw [mS n _ _ _ _ (by omega),iV]
  ·rfl
def ew (d:List ah) (a m b:Nat):Nat:=
 if m > (a+b) / 2 then fY (fun c=>!dC d ((a+b) / 2+m - 1 - c) c) ((a+b) / 2+m - b) ((a+b) / 2)
 else fY (fun c=>!dC d ((a+b) / 2+m - 1 - c) c) a m
def fi (s m e:Nat) (d:List ah):List ah:=if s < m/\m < e then jm m (m - s) (e - m) d else d
def dH:Nat->Nat->Nat->Nat->List ah->List ah
 |0,_,_,_,d=>d
 |f+1,a,m,b,d=>
  if m - a=1 then nV a (fY (fun h=>dC d h a) m b - 1 - a) d
  else if b - m=1 then nW m (m - fY (fun h=>!dC d m h) a m) d
  else
   (fun s=>(fun e=>(fun d1=>(fun d2=>if (a+b) / 2 < e/\e < b then dH f ((a+b) / 2) e b d2 else d2)
    (if a < s/\s < (a+b) / 2 then dH f a s ((a+b) / 2) d1 else d1)) (fi s m e d)) ((a+b) / 2+m - s)) (ew d a m b)
theorem lG (s m e:Nat) (d:List ah):(fi s m e d).length=d.length:=by unfold fi;split;exact mS _ _ _ _ _ (Nat.le_refl _);rfl
theorem eW:∀ (f a m b:Nat) (d:List ah),(dH f a m b d).length=d.length
 |0,_,_,_,_=>rfl
 |f+1,a,m,b,d=>by
  unfold dH
  split
  ·rw [xW]
  ·split
   ·rw [xY]
   ·dsimp only
    split
    ·rw [eW f]
     split
     ·rw [eW f,lG]
     ·rw [lG]
    ·split
     ·rw [eW f,lG]
     ·rw [lG]
end Go.Proofs.Ytegepioggeggaaa.Dev
