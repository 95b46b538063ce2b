/- A part of the proof: Sort7, Day1, Day4, Day5, Bank1, Bank2, Bank3, Clones, Bank4, Bank7. No condition. -/
import Derived.Test.YtegepioggeggaaaD10
import Derived.Test.YtegepioggeggaaaD07
set_option linter.unusedVariables false
set_option linter.unusedSimpArgs false
set_option maxHeartbeats 4000000
set_option maxRecDepth 100000
namespace Go.Proofs.Ytegepioggeggaaa.Dev
open Go.RowKit

theorem vk (d:List ak) (a b:Int) (fn:FuncId) (bd:List (List D)) (hp:∀ x y:ak,Fn Try.prog fn ([.g [cI x.az,cI x.ba,cI x.kind,cI x.sum],.g [cI y.az,cI y.ba,cI y.kind,cI y.sum]]++bd.map fun r=>GV.c (.q r 0)) (aI (gM x y)) []) (hen:bg Try.prog fn) (h1:b<=a+1) (h2:0<=a/\a<=9223372036854775806):Fn Try.prog 72 [(.c (iJ d)),(.c (cI a)),(.c (cI b)),(.c (.d (.f fn bd)))] (.t []) []:=by
 refine Fn.mk' 53 [(0,(aC (iJ d))),(1,(aI a)),(2,(aI b)),(3,(aC (.d (.f fn bd))))] Try.func72 rfl rfl rfl rfl ?_
 intro W0 T0
 refine dF 0 rfl (fun hlen0=>?_)
 refine aE aa 1 rfl ?_
 refine ay (aK rfl rfl rfl (aH (by first|omega|(simp;done)|(simp;omega)))) rfl ?_
 refine ab aa 1 rfl ?_
 refine ae ?_
 refine aW ?_
 refine cw (β:=Nat) (fun (z:Nat)=>⟨[(0,(aC (iJ d))),(1,(aI a)),(2,(aI b)),(3,(aC (.d (.f fn bd)))),(8,(aI (a+1)))],[],0⟩) (fun (z:Nat)=>True) (fun (z:Nat)=>0) 0 ?_ ?_ ?_
 ·trivial
 ·exact aD.bY id (by refine ⟨?_,?_,?_,?_,?_,trivial⟩<;>first|rfl|(simp only [bo];done)|(congr 3;omega)|(congr 4;omega)|(simp only [bp];rfl)) (trivial) rfl
 rintro z _
 refine af ?_
 refine ad aa 3 rfl ?_
 refine ag rfl (fun hc1=>?_) (fun hc1=>?_)
 ·
  have hc1':=of_decide_eq_true hc1
  exfalso;omega
 have hc1':=of_decide_eq_false hc1
 refine cm ?_
 refine aQ ?_
 refine aQ ?_
 refine bO ?_
 refine cG aa [] 0 rfl rfl rfl rfl rfl rfl ?_ ?_
 all_goals first|rfl|(simp [ar];done)|(simp [ar];omega)
theorem zx (d:List ak) (n:Int) (fn:FuncId) (bd:List (List D)) (hp:∀ x y:ak,Fn Try.prog fn ([.g [cI x.az,cI x.ba,cI x.kind,cI x.sum],.g [cI y.az,cI y.ba,cI y.kind,cI y.sum]]++bd.map fun r=>GV.c (.q r 0)) (aI (gM x y)) []) (hen:bg Try.prog fn) (h:n=0):Fn Try.prog 61 [(.c (iJ d)),(.c (cI n)),(.c (.d (.f fn bd)))] (.t []) []:=by
 refine Fn.mk' 63 [(0,(aC (iJ d))),(1,(aI n)),(2,(aC (.d (.f fn bd))))] Try.func61 rfl rfl rfl rfl ?_
 intro W0 T0
 refine dF 0 rfl (fun hlen0=>?_)
 refine ad aa 1 rfl ?_
 refine ad aa 3 rfl ?_
 refine af ?_
 refine aW ?_
 refine cw (β:=Nat) (fun (z:Nat)=>⟨[(0,(aC (iJ d))),(1,(aI n)),(2,(aC (.d (.f fn bd)))),(6,(aI 20)),(7,(aI 0)),(8,(aI 20))],[],0⟩) (fun (z:Nat)=>True) (fun (z:Nat)=>0) 0 ?_ ?_ ?_
 ·trivial
 ·exact aD.bY id (by refine ⟨?_,?_,?_,?_,?_,?_,trivial⟩<;>first|rfl|(simp only [bo];done)|(congr 3;omega)|(congr 4;omega)|(simp only [bp];rfl)) (trivial) rfl
 rintro z _
 refine af ?_
 refine ad aa 3 rfl ?_
 refine ag rfl (fun hc1=>?_) (fun hc1=>?_)
 ·
  have hc1':=of_decide_eq_true hc1
  exfalso;omega
 have hc1':=of_decide_eq_false hc1
 refine cm ?_
 refine aQ ?_
 refine aQ ?_
 refine bO ?_
 refine then_ok ?_
 refine aE aa 4 rfl ?_
 refine aM 0 [] (bP 0 (vk d 0 n fn bd hp hen (by first|omega|(simp;done)|(simp;omega)) (by first|omega|(simp;done)|(simp;omega))) AP rfl rfl ⟨⟨_,rfl,.c (.d _)⟩,⟨_,rfl,.c (.d _)⟩,⟨_,rfl,.c (.d _)⟩,⟨_,rfl,.c (.d _)⟩,trivial⟩ trivial trivial rfl rfl rfl rfl) rfl ?_
 refine ae ?_
 refine aW ?_
 refine cw (β:=Nat) (fun (z:Nat)=>⟨[(0,(aC (iJ d))),(1,(aI n)),(2,(aC (.d (.f fn bd)))),(6,(aI 20))],[],0⟩) (fun (z:Nat)=>True) (fun (z:Nat)=>0) 0 ?_ ?_ ?_
 ·trivial
 ·exact aD.bY id (by refine ⟨?_,?_,?_,?_,trivial⟩<;>first|rfl|(simp only [bo];done)|(congr 3;omega)|(congr 4;omega)|(simp only [bp];rfl)) (trivial) rfl
 rintro z _
 refine af ?_
 refine ad aa 3 rfl ?_
 refine ag rfl (fun hc2=>?_) (fun hc2=>?_)
 ·
  have hc2':=of_decide_eq_true hc2
  exfalso;omega
 have hc2':=of_decide_eq_false hc2
 refine cm ?_
 refine aQ ?_
 refine aQ ?_
 refine bO ?_
 refine cG aa [] 0 rfl rfl rfl rfl rfl rfl ?_ ?_
 all_goals first|rfl|(simp [ar];done)|(simp [ar];omega)
theorem tI (d:List ak) (fn:FuncId) (bd:List (List D)) (hp:∀ x y:ak,Fn Try.prog fn ([.g [cI x.az,cI x.ba,cI x.kind,cI x.sum],.g [cI y.az,cI y.ba,cI y.kind,cI y.sum]]++bd.map fun r=>GV.c (.q r 0)) (aI (gM x y)) []) (hen:bg Try.prog fn) (h:d.length=0):Fn Try.prog 55 [(.c (iJ d)),(.c (.d (.f fn bd)))] (.t []) []:=by
 refine Fn.mk' 9 [(0,(aC (iJ d))),(1,(aC (.d (.f fn bd))))] Try.func55 rfl rfl rfl rfl ?_
 intro W0 T0
 refine dF 0 rfl (fun hlen0=>?_)
 refine aw ?_
 refine ab aa 2 rfl ?_
 refine ay (cY rfl rfl rfl rfl rfl Try.underlying42) rfl ?_
 refine ab aa 1 rfl ?_
 refine aM 0 [] (bP 0 (zx d (↑d.length:Int) fn bd hp hen (by first|omega|(simp;done)|(simp;omega))) DK rfl rfl ⟨⟨_,rfl,.c (.d _)⟩,⟨_,rfl,.c (.d _)⟩,⟨_,rfl,.c (.d _)⟩,trivial⟩ trivial trivial rfl rfl rfl rfl) rfl ?_
 refine bX ?_
 refine cG aa [] 0 rfl rfl rfl rfl rfl rfl ?_ ?_
 all_goals first|rfl|(simp [ar];done)|(simp [ar];omega)
theorem vt (d:List ak) (N:Nat) (fn:FuncId) (bd:List (List D)) (hp:∀ x y:ak,Fn Try.prog fn ([.g [cI x.az,cI x.ba,cI x.kind,cI x.sum],.g [cI y.az,cI y.ba,cI y.kind,cI y.sum]]++bd.map fun r=>GV.c (.q r 0)) (aI (gM x y)) []) (hen:bg Try.prog fn) (hl:d.length * 32<=140737488355328) (hN:N=d.length) (h0_:0 < d.length) (r:List ak) (hr:gi d=r):cA Try.prog 55 [(.c (.s 0 0 4 N)),(.c (.d (.f fn bd)))] [(0,(cK d))] [0] (.t []) [(0,(cK r))]:=by
 refine cA.mk 9 [(0,(aC (.s 0 0 4 N))),(1,(aC (.d (.f fn bd))))] 1 Try.func55 rfl rfl rfl rfl rfl rfl rfl rfl rfl ?_
 intro W0 F0 T0 pg
 refine fK 0 rfl (fun hlen0=>?_)
 refine aw ?_
 refine ab aa 2 rfl ?_
 refine ay (dm rfl rfl rfl rfl rfl Try.underlying42) rfl ?_
 refine ab aa 1 rfl ?_
 obtain ⟨r0,hr0⟩:∃ (r0:List ak),gi d=r0:=⟨_,rfl⟩
 refine aM 1 [0] (dJ id id (zw (↑N:Int) d N N fn bd hp hen (by first|omega|(simp;done)|(simp;omega)) (by first|omega|(simp;done)|(simp;omega)) (by first|omega|(simp;done)|(simp;omega)) (by first|omega|(simp;done)|(simp;omega)) (by first|omega|(simp;done)|(simp;omega)) r0 hr0) DK rfl rfl ⟨⟨_,rfl,.inl ⟨rfl,rfl⟩⟩,⟨_,rfl,.inr (.c (.d _))⟩,⟨_,rfl,.inr (.c (.d _))⟩,trivial⟩ ⟨rfl,trivial⟩ rfl rfl ⟨.inr ⟨_,_,_,rfl,by first|(simp;omega)|(simp only [List.length_map];omega)⟩,trivial⟩ rfl rfl rfl trivial ⟨(fun _ _ _ _=>trivial),trivial⟩ rfl rfl rfl rfl) rfl ?_
 refine bX ?_
 have hX:gi d=r0:=by
   exact hr0
 rw [hX] at hr;clear hX
 subst hr
 refine cG aa [0] 1 rfl rfl rfl rfl rfl rfl ?_ ?_
 all_goals first|rfl|(simp [ar];done)|(simp [ar];omega)
theorem Bm (l:List ak) (hl:l.length * 32<=140737488355328) (r:List ak) (hr:gi l=r):Fn Try.prog 37 [(.c (iJ l))] (.v (.c (.s 0 0 4 r.length))) [(0,(cK r))]:=by
 refine Fn.mk' 9 [(0,(aC (iJ l)))] Try.func37 rfl rfl rfl rfl ?_
 intro W0 T0
 refine dF 0 rfl (fun hlen0=>?_)
 refine ad aa 1 rfl ?_
 refine aE aa 1 rfl ?_
 refine aM 1 [0] (bP 0 (mz l (by first|omega|(simp;done)|(simp;omega))) DM rfl rfl ⟨⟨_,rfl,.c (.d _)⟩,trivial⟩ trivial ⟨(fun _ _ _ _=>trivial),trivial⟩ rfl rfl rfl rfl) rfl ?_
 refine ab aa 1 rfl ?_
 refine ae ?_
 rcases (show l.length=0\/0 < l.length from by omega) with hs1|hs1
 ·
  refine aE aa 1 rfl ?_
  refine aM 1 [0] (fH 1 [0] (tI l 53 ([]) (fun x y=>wQ x y) DN (by first|omega|(simp;done)|(simp;omega))) DL rfl rfl ⟨⟨_,rfl,.c (.s rfl (by decide) (by first|omega|(simp;done)|(simp;omega)))⟩,⟨_,rfl,.c (.fn trivial)⟩,trivial⟩ trivial trivial rfl rfl rfl rfl) rfl ?_
  refine ae ?_
  refine ad aa 2 rfl ?_
  refine ax ?_
  have hX:gi l=l:=by
    exact yz (by assumption)
  rw [hX] at hr;clear hX
  subst hr
  refine al aa [0] 1 rfl rfl rfl rfl rfl rfl ?_ ?_
  all_goals first|rfl|(simp [ar];done)|(simp [ar];omega)
 refine aE aa 1 rfl ?_
 obtain ⟨r0,hr0⟩:∃ (r0:List ak),gi l=r0:=⟨_,rfl⟩
 have hlr0:r0.length=l.length:=by rw [<-hr0];exact sC _
 refine aM 1 [0] (dJ id id (vt l l.length 53 ([]) (fun x y=>wQ x y) DN (by first|omega|(simp;done)|(simp;omega)) (by first|omega|(simp;done)|(simp;omega)) (by first|omega|(simp;done)|(simp;omega)) r0 hr0) DL rfl rfl ⟨⟨_,rfl,.inl ⟨rfl,rfl⟩⟩,⟨_,rfl,.inr (.c (.fn trivial))⟩,trivial⟩ ⟨rfl,trivial⟩ rfl rfl ⟨.inr ⟨_,_,_,rfl,by first|(simp;omega)|(simp only [List.length_map];omega)⟩,trivial⟩ rfl rfl rfl trivial ⟨(fun _ _ _ _=>trivial),trivial⟩ rfl rfl rfl rfl) rfl ?_
 refine ae ?_
 refine ad aa 2 rfl ?_
 refine ax ?_
 have hX:gi l=r0:=by
   exact hr0
 rw [hX] at hr;clear hX
 subst hr
 refine al aa [0] 1 rfl rfl rfl rfl rfl rfl ?_ ?_
 all_goals first|rfl|(simp [ar];done)|(simp [ar];omega)

theorem vS (l:List ak) (f:cX) (hr:ga l=f):Fn Try.prog 31 [(.c (iJ l))] (.v (.g [(cI f.err),(cI f.at_)])) []:=by
 refine Fn.mk' 58 [(0,(aC (iJ l)))] Try.func31 rfl rfl rfl rfl ?_
 intro W0 T0
 refine dF 0 rfl (fun hlen0=>?_)
 refine ad aa 1 rfl ?_
 refine af ?_
 refine aE aa 1 rfl ?_
 refine ay (cY rfl rfl rfl rfl rfl Try.underlying42) rfl ?_
 refine ab aa 1 rfl ?_
 refine ae ?_
 refine ag rfl (fun hc1=>?_) (fun hc1=>?_)
 ·
  have hc1':=of_decide_eq_true hc1
  refine ad aa 2 rfl ?_
  refine ax ?_
  refine an ?_
  have hX:ga l=(⟨5,0⟩:cX):=by
    unfold ga;rw [if_pos (by omega)]
  rw [hX] at hr;clear hX
  subst hr
  refine al aa [0] 0 rfl rfl rfl rfl rfl rfl ?_ ?_
  all_goals first|rfl|(simp [ar];done)|(simp [ar];omega)
 have hc1':=of_decide_eq_false hc1
 refine aP ?_
 refine af ?_
 refine aE aa 1 rfl ?_
 refine ay (cY rfl rfl rfl rfl rfl Try.underlying42) rfl ?_
 refine ab aa 1 rfl ?_
 refine ae ?_
 refine aW ?_
 refine cw (β:=Nat) (fun (q:Nat)=>⟨[(2,(aC (.p 0 0 0 0))),(9,(aC (iJ l))),(10,(aI (↑l.length:Int))),(11,(aI (↑q:Int)))],[(0,(.box 50 [(cI 0),(cI 0)]))],1⟩) (fun (q:Nat)=>q<=l.length/\mb l 0=mb (l.drop q) q) (fun (q:Nat)=>l.length - q) 0 ?_ ?_ ?_
 ·exact ⟨by omega,rfl⟩
 ·exact aD.bY id (by refine ⟨?_,?_,?_,?_,trivial⟩<;>first|rfl|(simp only [bo];done)|(congr 3;omega)|(congr 4;omega)|(simp only [bp];rfl)) (⟨by first|rfl|(simp only [bo];done)|(congr 3;omega)|(congr 4;omega)|(simp only [bp];rfl),trivial⟩) rfl
 rintro q ⟨hi0_0,hi0_1⟩
 refine ad aa 1 rfl ?_
 refine af ?_
 refine ag rfl (fun hc2=>?_) (fun hc2=>?_)
 ·
  have hc2':=of_decide_eq_true hc2
  refine aP ?_
  refine af ?_
  refine aW ?_
  refine aE aa 1 rfl ?_
  obtain ⟨x1,hx1⟩:=cq (xs:=l) (i:=q) (by first|omega|(simp;done)|(simp;omega))
  refine ay (cS (i:=q) rfl rfl rfl Try.underlying42 dk (by first|omega|(simp;done)|(simp;omega)) (bu hx1)) rfl ?_
  refine ab aa 4 rfl ?_
  refine ae ?_
  refine af ?_
  refine cp 23 ((decide (x1.kind < 1))||(decide (x1.kind > 8))) ?_ ?_
  ·
   refine aw ?_
   refine ab aa 4 rfl ?_
   refine bw (t:=19) rfl (fun hb3=>?_) (fun hb3=>?_)
   ·
    have hb3':=of_decide_eq_true hb3
    refine ab aa 4 rfl ?_
    refine ae ?_
    exact aD.bA 9 rfl rfl (by first|(simp [hb3];done)|(simp_all;done)|(exfalso;simp_all;done)|(simp_all;omega)) rfl
   have hb3':=of_decide_eq_false hb3
   refine ab aa 4 rfl ?_
   refine ae ?_
   exact aD.bA 9 rfl rfl (by first|(simp [hb3];done)|(simp_all;done)|(exfalso;simp_all;done)|(simp_all;omega)) rfl
  refine ag rfl (fun hc4=>?_) (fun hc4=>?_)
  ·
   have hc4':=hc4;try simp only [bl,bJ] at hc4'
   refine ad aa 3 rfl ?_
   refine ax ?_
   refine an ?_
   refine bf ?_
   refine an ?_
   refine an ?_
   refine bf ?_
   refine an ?_
   have hX:ga l=(⟨1,(↑q:Int)⟩:cX):=by
     unfold ga;rw [if_neg (by omega),hi0_1,nY hx1,if_pos (by unfold mg;omega)]
   rw [hX] at hr;clear hX
   subst hr
   refine al aa [0] 0 rfl rfl rfl rfl rfl rfl ?_ ?_
   all_goals first|rfl|(simp [ar];done)|(simp [ar];omega)
  have hc4':=hc4;try simp only [bl,bJ] at hc4'
  refine aP ?_
  refine cp 53 ((((((decide (x1.az < 0))||(decide (x1.az>=8)))||(decide (x1.ba < 0)))||(decide (x1.ba>=30)))||(decide (x1.sum < 1)))||(decide (x1.sum > 1000000))) ?_ ?_
  ·
   refine aw ?_
   refine ab aa 4 rfl ?_
   refine bw (t:=29) rfl (fun hb5=>?_) (fun hb5=>?_)
   ·
    have hb5':=of_decide_eq_true hb5
    refine ab aa 24 rfl ?_
    refine ae ?_
    exact aD.bA 29 rfl rfl (by first|(simp [hb5];done)|(simp_all;done)|(exfalso;simp_all;done)|(simp_all;omega)) rfl
   have hb5':=of_decide_eq_false hb5
   refine ab aa 5 rfl ?_
   refine bw (t:=34) rfl (fun hb6=>?_) (fun hb6=>?_)
   ·
    have hb6':=of_decide_eq_true hb6
    refine ab aa 19 rfl ?_
    refine ae ?_
    exact aD.bA 30 rfl rfl (by first|(simp [hb5,hb6];done)|(simp_all;done)|(exfalso;simp_all;done)|(simp_all;omega)) rfl
   have hb6':=of_decide_eq_false hb6
   refine ab aa 5 rfl ?_
   refine bw (t:=39) rfl (fun hb7=>?_) (fun hb7=>?_)
   ·
    have hb7':=of_decide_eq_true hb7
    refine ab aa 14 rfl ?_
    refine ae ?_
    exact aD.bA 31 rfl rfl (by first|(simp [hb5,hb6,hb7];done)|(simp_all;done)|(exfalso;simp_all;done)|(simp_all;omega)) rfl
   have hb7':=of_decide_eq_false hb7
   refine ab aa 5 rfl ?_
   refine bw (t:=44) rfl (fun hb8=>?_) (fun hb8=>?_)
   ·
    have hb8':=of_decide_eq_true hb8
    refine ab aa 9 rfl ?_
    refine ae ?_
    exact aD.bA 32 rfl rfl (by first|(simp [hb5,hb6,hb7,hb8];done)|(simp_all;done)|(exfalso;simp_all;done)|(simp_all;omega)) rfl
   have hb8':=of_decide_eq_false hb8
   refine ab aa 5 rfl ?_
   refine bw (t:=49) rfl (fun hb9=>?_) (fun hb9=>?_)
   ·
    have hb9':=of_decide_eq_true hb9
    refine ab aa 4 rfl ?_
    refine ae ?_
    exact aD.bA 33 rfl rfl (by first|(simp [hb5,hb6,hb7,hb8,hb9];done)|(simp_all;done)|(exfalso;simp_all;done)|(simp_all;omega)) rfl
   have hb9':=of_decide_eq_false hb9
   refine ab aa 4 rfl ?_
   refine ae ?_
   exact aD.bA 33 rfl rfl (by first|(simp [hb5,hb6,hb7,hb8,hb9];done)|(simp_all;done)|(exfalso;simp_all;done)|(simp_all;omega)) rfl
  refine ag rfl (fun hc10=>?_) (fun hc10=>?_)
  ·
   have hc10':=hc10;try simp only [bl,bJ] at hc10'
   refine ad aa 3 rfl ?_
   refine ax ?_
   refine bf ?_
   refine an ?_
   refine an ?_
   refine bf ?_
   refine an ?_
   have hX:ga l=(⟨3,(↑q:Int)⟩:cX):=by
     unfold ga;rw [if_neg (by omega),hi0_1,nY hx1,if_neg (by unfold mg;omega),if_pos (by unfold nt;omega)]
   rw [hX] at hr;clear hX
   subst hr
   refine al aa [0] 0 rfl rfl rfl rfl rfl rfl ?_ ?_
   all_goals first|rfl|(simp [ar];done)|(simp [ar];omega)
  have hc10':=hc10;try simp only [bl,bJ] at hc10'
  refine cW ?_
  refine bn ?_
  refine then_ok ?_
  refine aw ?_
  refine ay (aK rfl rfl rfl (aH (by first|omega|(simp;done)|(simp;omega)))) rfl ?_
  refine ab aa 1 rfl ?_
  refine ae ?_
  refine ⟨q+1,⟨by omega,by rw [hi0_1,nY hx1,if_neg (by unfold mg;omega),if_neg (by unfold nt;omega)]⟩,by first|omega|(simp;done)|(simp;omega),aD.bY id (by refine ⟨?_,?_,?_,?_,trivial⟩<;>first|rfl|(simp only [bo];done)|(congr 3;omega)|(congr 4;omega)|(simp only [bp];rfl)) (⟨by first|rfl|(simp only [bo];done)|(congr 3;omega)|(congr 4;omega)|(simp only [bp];rfl),trivial⟩) rfl⟩
 have hc2':=of_decide_eq_false hc2
 refine cm ?_
 refine aQ ?_
 refine aQ ?_
 refine bO ?_
 refine then_ok ?_
 refine ad aa 2 rfl ?_
 refine ax ?_
 have hX:ga l=(⟨0,0⟩:cX):=by
   unfold ga;rw [if_neg (by omega),hi0_1,yI (by omega)]
 rw [hX] at hr;clear hX
 subst hr
 refine al aa [0] 0 rfl rfl rfl rfl rfl rfl ?_ ?_
 all_goals first|rfl|(simp [ar];done)|(simp [ar];omega)

theorem tl (b:List Int) (N:Nat) (n:Int) (z:Nat) (hN:N=b.length) (hz:z<=8) (hl:b.length+z<=1000000) (r:List Int) (hr:b++lM n z=r):cA Try.prog 109 [(.c (.s 0 0 1 N)),(.c (cI n)),(.c (cI (↑z:Int)))] [(0,(wX b))] [] (.v (.c (.s 0 0 1 r.length))) [(0,(wX r))]:=by
 refine cA.mk 23 [(0,(aC (.s 0 0 1 N))),(1,(aI n)),(2,(aI (↑z:Int)))] 1 Try.func109 rfl rfl rfl rfl rfl rfl rfl rfl rfl ?_
 intro W0 F0 T0 pg
 refine fK 0 rfl (fun hlen0=>?_)
 refine ad aa 1 rfl ?_
 refine af ?_
 refine aE aa 1 rfl ?_
 refine ay (aK rfl rfl rfl (aH (by first|omega|(simp;done)|(simp;omega)))) rfl ?_
 refine ab aa 1 rfl ?_
 refine ae ?_
 refine aW ?_
 refine cw (β:=Nat×List Int) (fun (p:Nat×List Int)=>match p with|(k,m)=>⟨[(0,(aC (.s 0 0 1 m.length))),(1,(aI n)),(6,(aC cN)),(7,(aI ((↑k:Int) - 1)))],[(0,(wX m))],1⟩) (fun (p:Nat×List Int)=>match p with|(k,m)=>k<=z/\m++lM n k=b++lM n z/\m.length+k=b.length+z) (fun (p:Nat×List Int)=>match p with|(k,m)=>k) (z,b) ?_ ?_ ?_
 ·exact ⟨by omega,rfl,rfl⟩
 ·exact aD.bY id (by refine ⟨?_,?_,?_,?_,trivial⟩<;>first|rfl|(simp only [bo];done)|(congr 3;omega)|(congr 4;omega)|(simp only [bp];rfl)|(first|exact cC rfl (by omega)|exact gO rfl (by omega))) (⟨by first|rfl|(simp only [bo];done)|(congr 3;omega)|(congr 4;omega)|(simp only [bp];rfl),trivial⟩) rfl
 rintro ⟨k,m⟩ ⟨hi0_0,hi0_1,hi0_2⟩
 refine af ?_
 refine ad aa 2 rfl ?_
 refine ag rfl (fun hc1=>?_) (fun hc1=>?_)
 ·
  have hc1':=of_decide_eq_true hc1
  refine aP ?_
  refine af ?_
  refine aW ?_
  refine aw ?_
  refine ab aa 3 rfl ?_
  refine ay (aK rfl rfl rfl (aH (by first|omega|(simp;done)|(simp;omega)))) rfl ?_
  refine ay (Dk rfl rfl rfl (by first|omega|(simp;done)|(simp;omega)) rfl (Ft (k:=k) (by omega) rfl)) rfl ?_
  refine ay (fe rfl rfl (by rw [Try.underlying3];rfl) Try.underlying5 my) rfl ?_
  refine aM 2 [1,0] (dv (ys:=[(0,(.c (.d (.v (.int .u8 ((n / 256 ^ (k - 1)) % 256))))))]) (rows:=([(n / 256 ^ (k - 1)) % 256]).map nB) 1 ug rfl (by decide) ⟨⟨rfl,rfl⟩,trivial⟩ rfl rfl rfl rfl) rfl ?_
  refine aM 3 [2,1] (dd (m:=1) (N:=m.length+1) (k2:=2) (ys:=([(n / 256 ^ (k - 1)) % 256]).map nB) ug rfl rfl rfl rfl rfl rfl (by first|omega|(simp;done)|(simp;omega)) rfl (.s rfl (by first|omega|(simp;done)|(simp;omega))) (by first|omega|(simp;done)|(simp;omega)) (by first|omega|(simp;done)|(simp;omega)) eP (by decide) (by first|omega|(simp;done)|(simp;omega)) (by first|omega|(simp;done)|(simp;omega))) rfl ?_
  refine ab aa 1 rfl ?_
  refine bX ?_
  refine bn ?_
  refine then_ok ?_
  refine aw ?_
  refine ab aa 1 rfl ?_
  refine ay (aK rfl rfl rfl (aH (by first|omega|(simp;done)|(simp;omega)))) rfl ?_
  refine ab aa 1 rfl ?_
  refine ae ?_
  refine ⟨(k - 1,m++([(n / 256 ^ (k - 1)) % 256])),⟨by omega,by rw [<-hi0_1,Bn (k:=k) (by omega),List.append_assoc];rfl,by simp only [List.length_append,List.length_cons,List.length_nil];omega⟩,by first|omega|(simp;done)|(simp;omega),aD.bY (fun k=>if k=0 then 2 else k) (by refine ⟨?_,?_,?_,?_,trivial⟩<;>first|rfl|(simp only [bo];done)|(congr 3;omega)|(congr 4;omega)|(simp only [bp];rfl)|(first|exact cC rfl (by omega)|exact gO rfl (by simp only [List.length_append,List.length_cons,List.length_nil];omega))) (⟨by first|rfl|(simp only [bo];done)|(congr 3;omega)|(congr 4;omega)|(simp only [bp];rfl),trivial⟩) rfl⟩
 have hc1':=of_decide_eq_false hc1
 refine cm ?_
 refine aQ ?_
 refine aQ ?_
 refine bO ?_
 refine then_ok ?_
 refine ad aa 2 rfl ?_
 refine ax ?_
 have hX:b++lM n z=m:=by
   (obtain rfl:k=0:=by omega);rw [<-hi0_1];simp [lM]
 rw [hX] at hr;clear hX
 subst hr
 refine al aa [0] 1 rfl rfl rfl rfl rfl rfl ?_ ?_
 all_goals first|rfl|(simp [ar];done)|(simp [ar];omega)

theorem vT (l:List ak) (hl:l.length * 32<=140737488355328) (x:List Int) (f:cX) (hr:jD l=(x,f)):Fn Try.prog 92 [(.c (iJ l))] (.t [(.c (.s 0 0 1 x.length)),(.g [(cI f.err),(cI f.at_)])]) [(0,(wX x))]:=by
 refine Fn.mk' 50 [(0,(aC (iJ l)))] Try.func92 rfl rfl rfl rfl ?_
 intro W0 T0
 refine dF 0 rfl (fun hlen0=>?_)
 refine ad aa 2 rfl ?_
 refine af ?_
 refine aE aa 1 rfl ?_
 obtain ⟨f0,hr0⟩:∃ (f0:cX),ga l=f0:=⟨_,rfl⟩
 refine aM 1 [0] (bP 1 (vS l f0 hr0) Gd rfl rfl ⟨⟨_,rfl,.c (.d _)⟩,trivial⟩ ⟨trivial,trivial,trivial⟩ trivial rfl rfl rfl rfl) rfl ?_
 refine ab aa 2 rfl ?_
 refine ae ?_
 refine ad aa 3 rfl ?_
 refine ag rfl (fun hc1=>?_) (fun hc1=>?_)
 ·
  have hc1':=of_decide_eq_true hc1
  refine af ?_
  refine bc [0,3,4] [1,0] mixed rfl rfl ?_
  refine aA (kn:=[]) aa 2 rfl trivial ?_
  refine bC [1,0] rfl rfl rfl rfl (by kernel_rfl) ?_
  refine ab aa 1 rfl ?_
  refine ae ?_
  refine ax ?_
  refine an ?_
  refine cT (aD.nil 2 5 1 (by decide) rfl) ?_
  have hX:jD l=(([]:List Int),f0):=by
    unfold jD;rw [if_neg (by rw [hr0];omega),hr0]
  rw [hX] at hr;clear hX
  simp only [Prod.mk.injEq] at hr;obtain ⟨rfl,rfl⟩:=hr
  refine al aa [2,0] 1 rfl rfl rfl rfl rfl rfl ?_ ?_
  all_goals first|rfl|(simp [ar];done)|(simp [ar];omega)
 have hc1':=of_decide_eq_false hc1
 refine aP ?_
 have hw:(ga l).err=0:=by rw [hr0];omega
 have hok:=yh.1 hw
 refine aE aa 1 rfl ?_
 refine ay (cY rfl rfl rfl rfl rfl Try.underlying42) rfl ?_
 refine ay (fe rfl rfl (by rw [Try.underlying3];rfl) Try.underlying5 my) rfl ?_
 refine aM 3 [2,1,0] (dv (ys:=[(0,(.c (.d (.v (.int .u8 ((↑l.length:Int) % 256))))))]) (rows:=([(↑l.length:Int) % 256]).map nB) 2 ug rfl (by decide) ⟨⟨rfl,rfl⟩,trivial⟩ rfl rfl rfl rfl) rfl ?_
 refine ab aa 1 rfl ?_
 refine ae ?_
 refine ad aa 1 rfl ?_
 refine af ?_
 refine aE aa 1 rfl ?_
 obtain ⟨r1,hr1⟩:∃ (r1:List ak),gi l=r1:=⟨_,rfl⟩
 have hlr:r1.length=l.length:=by rw [<-hr1];exact sC _
 have hrok:∀ x∈r1,wx x:=fun x hx=>hok.2 x ((mL l).mem.2 (by rw [hr1];exact hx))
 refine aM 4 [3,2,1,0] (bP 3 (Bm l (by first|omega|(simp;done)|(simp;omega)) r1 hr1) Gb rfl rfl ⟨⟨_,rfl,.c (.d _)⟩,trivial⟩ trivial ⟨(fun _ _ _ _=>trivial),trivial⟩ rfl rfl rfl rfl) rfl ?_
 refine ay (dm rfl rfl rfl rfl rfl Try.underlying42) rfl ?_
 refine ab aa 1 rfl ?_
 refine ae ?_
 refine aW ?_
 refine cw (β:=Nat×List Int×Int) (fun (p:Nat×List Int×Int)=>match p with|(q,m,all)=>⟨[(2,(aC cN)),(3,(aC (.p 0 0 0 0))),(5,(aC (.s 2 0 1 m.length))),(6,(aI all)),(20,(aC (.s 3 0 4 r1.length))),(21,(aI (↑r1.length:Int))),(22,(aI (↑q:Int)))],[(3,(cK r1)),(2,(wX m)),(0,(.box 50 [(cI 0),(cI 0)]))],4⟩) (fun (p:Nat×List Int×Int)=>match p with|(q,m,all)=>q<=r1.length/\m=lH l (r1.take q)/\all=kY (r1.take q)/\0<=all/\all<=1000000 * (q:Int)) (fun (p:Nat×List Int×Int)=>match p with|(q,m,all)=>r1.length - q) (0,[(↑l.length:Int) % 256],0) ?_ ?_ ?_
 ·exact ⟨by omega,by simp [lH],rfl,by omega⟩
 ·exact aD.bY id (by refine ⟨?_,?_,?_,?_,?_,?_,?_,trivial⟩<;>first|rfl|(simp only [bo];done)|(congr 3;omega)|(congr 4;omega)|(simp only [bp];rfl)) (by refine ⟨?_,?_,?_,trivial⟩<;>first|rfl|(simp only [bo];done)|(congr 3;omega)|(congr 4;omega)|(simp only [bp];rfl)) rfl
 rintro ⟨q,m,all⟩ ⟨hi0_0,hi0_1,hi0_2,hi0_3⟩
 have hml:m.length=1+6 * q:=by rw [hi0_1,ze,List.length_take];omega
 refine ad aa 1 rfl ?_
 refine af ?_
 refine ag rfl (fun hc2=>?_) (fun hc2=>?_)
 ·
  have hc2':=of_decide_eq_true hc2
  refine aP ?_
  refine af ?_
  refine aW ?_
  refine eN ?_
  refine ay (br (i:=q) rfl rfl rfl Try.underlying42 dk (by first|omega|(simp;done)|(simp;omega)) (by first|omega|(simp;done)|(simp;omega))) rfl ?_
  obtain ⟨x1,hx1⟩:=cq (xs:=r1) (i:=q) (by first|omega|(simp;done)|(simp;omega))
  have hx1b:=Et (hrok x1 (List.mem_of_getElem? hx1))
  refine ay (dc rfl rfl rfl Try.underlying83 rfl dk (bu hx1) rfl) rfl ?_
  refine ab aa 2 rfl ?_
  refine ae ?_
  refine af ?_
  obtain ⟨r2,hr2⟩:∃ (r2:List Int),(m++([x1.az % 256,x1.ba % 256,x1.kind % 256]))++lM x1.sum 3=r2:=⟨_,rfl⟩
  have hlr2:r2.length=m.length+6:=by rw [<-hr2];simp [oY]
  refine bc [2,3,5,6,20,21,22,8] [4,3,2,0] mixed rfl rfl ?_
  refine aA (kn:=[]) aa 3 rfl trivial ?_
  refine aT (n':=5) [28] [] rfl rfl (.inl ⟨(ah.plain rfl),aJ.cast (fe rfl rfl (by rw [Try.underlying3];rfl) Try.underlying5 my) rfl⟩) rfl ?_
  refine aA (kn:=[]) aa 2 rfl trivial ?_
  refine aT (n':=5) [31] [] rfl rfl (.inl ⟨(ah.plain rfl),aJ.cast (fe rfl rfl (by rw [Try.underlying3];rfl) Try.underlying5 my) rfl⟩) rfl ?_
  refine aA (kn:=[]) aa 2 rfl trivial ?_
  refine aT (n':=5) [34] [] rfl rfl (.inl ⟨(ah.plain rfl),aJ.cast (fe rfl rfl (by rw [Try.underlying3];rfl) Try.underlying5 my) rfl⟩) rfl ?_
  refine aT (n':=6) [29,32,35] [] rfl rfl (.inl ⟨(ah.plain rfl),aJ.cast (dv (ys:=[(0,(.c (.d (.v (.int .u8 (x1.az % 256)))))),(1,(.c (.d (.v (.int .u8 (x1.ba % 256)))))),(2,(.c (.d (.v (.int .u8 (x1.kind % 256))))))]) (rows:=([x1.az % 256,x1.ba % 256,x1.kind % 256]).map nB) 5 ug rfl (by decide) ⟨⟨rfl,rfl⟩,⟨rfl,rfl⟩,⟨rfl,rfl⟩,trivial⟩ rfl rfl rfl rfl) rfl⟩) rfl ?_
  refine aT (n':=7) [26,36] [5,2] rfl rfl (.inl ⟨(ah.plain rfl),aJ.cast (dd (m:=3) (N:=m.length+3) (k2:=6) (ys:=([x1.az % 256,x1.ba % 256,x1.kind % 256]).map nB) ug rfl rfl rfl rfl rfl rfl (by first|omega|(simp;done)|(simp;omega)) rfl (.s rfl (by first|omega|(simp;done)|(simp;omega))) (by first|omega|(simp;done)|(simp;omega)) (by first|omega|(simp;done)|(simp;omega)) eP (by decide) (by first|omega|(simp;done)|(simp;omega)) (by first|omega|(simp;done)|(simp;omega))) rfl⟩) rfl ?_
  refine aA (kn:=[]) aa 2 rfl trivial ?_
  refine aT (n':=8) [37,39] [6] rfl rfl (.inl ⟨(ah.plain rfl),aJ.cast (cE (aX [6]) (aX [7]) (tl (m++([x1.az % 256,x1.ba % 256,x1.kind % 256])) (m.length+3) x1.sum 3 (by first|omega|(simp;done)|(simp;omega)) (by first|omega|(simp;done)|(simp;omega)) (by first|omega|(simp;done)|(simp;omega)) r2 hr2) BK rfl rfl ⟨⟨_,rfl,.inl ⟨rfl,rfl⟩⟩,⟨_,rfl,.inr (.c (.d _))⟩,⟨_,rfl,.inr (.c (.d _))⟩,trivial⟩ ⟨rfl,trivial⟩ rfl rfl rfl rfl rfl rfl trivial ⟨(fun _ _ _ _=>trivial),trivial⟩ rfl rfl rfl rfl) rfl⟩) rfl ?_
  refine bC [7,4,3,0] rfl rfl rfl rfl (by kernel_rfl) ?_
  refine ab aa 1 rfl ?_
  refine ae ?_
  refine aw ?_
  refine ab aa 3 rfl ?_
  refine ay (aK rfl rfl rfl (aH (by first|omega|(simp;done)|(simp;omega)))) rfl ?_
  refine ab aa 1 rfl ?_
  refine bX ?_
  refine bn ?_
  refine then_ok ?_
  refine aw ?_
  refine ay (aK rfl rfl rfl (aH (by first|omega|(simp;done)|(simp;omega)))) rfl ?_
  refine ab aa 1 rfl ?_
  refine ae ?_
  refine ⟨(q+1,r2,all+x1.sum),⟨by omega,by rw [xB hx1,<-hi0_1,<-hr2];simp [uw],by rw [yv hx1,<-hi0_2],by omega⟩,by first|omega|(simp;done)|(simp;omega),aD.bY (fun k=>if k=2 then 7 else k) (by refine ⟨?_,?_,?_,?_,?_,?_,?_,trivial⟩<;>first|rfl|(simp only [bo];done)|(congr 3;omega)|(congr 4;omega)|(simp only [bp];rfl)|(first|exact cC rfl (by omega)|exact gO rfl (by simp only [List.length_append,List.length_take,List.length_drop,List.length_cons,List.length_nil];omega))) (by refine ⟨?_,?_,?_,trivial⟩<;>first|rfl|(simp only [bo];done)|(congr 3;omega)|(congr 4;omega)|(simp only [bp];rfl)) rfl⟩
 have hc2':=of_decide_eq_false hc2
 refine cm ?_
 refine aQ ?_
 refine aQ ?_
 refine bO ?_
 refine then_ok ?_
 refine aE aa 2 rfl ?_
 obtain ⟨r3,hr3⟩:∃ (r3:List Int),m++lM all 4=r3:=⟨_,rfl⟩
 have hlr3:r3.length=m.length+4:=by rw [<-hr3];simp [oY]
 refine aM 5 [4,3,0] (cE (aX [2]) (aX [4]) (tl m m.length all 4 (by first|omega|(simp;done)|(simp;omega)) (by first|omega|(simp;done)|(simp;omega)) (by first|omega|(simp;done)|(simp;omega)) r3 hr3) BK rfl rfl ⟨⟨_,rfl,.inl ⟨rfl,rfl⟩⟩,⟨_,rfl,.inr (.c (.d _))⟩,⟨_,rfl,.inr (.c (.d _))⟩,trivial⟩ ⟨rfl,trivial⟩ rfl rfl rfl rfl rfl rfl trivial ⟨(fun _ _ _ _=>trivial),trivial⟩ rfl rfl rfl rfl) rfl ?_
 refine ab aa 3 rfl ?_
 refine ae ?_
 refine ax ?_
 have hX:jD l=(r3,(⟨0,0⟩:cX)):=by
   have ht:r1.take q=r1:=List.take_of_length_le (by omega)
   rw [ht] at hi0_1 hi0_2
   unfold jD
   rw [if_pos hw,hr1,<-hi0_1,<-hi0_2]
   rw [hr3]
 rw [hX] at hr;clear hX
 simp only [Prod.mk.injEq] at hr;obtain ⟨rfl,rfl⟩:=hr
 refine al aa [4,0] 1 rfl rfl rfl rfl rfl rfl ?_ ?_
 all_goals first|rfl|(simp [ar];done)|(simp [ar];omega)

theorem jA (x:Nat->Value) (hx:∀ i,(x i).oneCell'=true) (e err:Int) (e2:Int) (hr:dw e err=e2):cA Try.prog 87 [(.c (.p 0 0 0 0)),(.c (cI err))] [(0,(.box 147 ((bb x).set 19 (cI e))))] [0] (.v (.c (cB (decide (¬e2=0))))) [(0,(.box 147 ((bb x).set 19 (cI e2))))]:=by
 refine cA.mk 19 [(0,(aC (.p 0 0 0 0))),(1,(aI err))] 1 Try.func87 rfl rfl rfl rfl rfl rfl rfl rfl rfl ?_
 intro W0 F0 T0 pg
 refine ad aa 1 rfl ?_
 refine af ?_
 refine ad aa 5 rfl ?_
 refine ag rfl (fun hc1=>?_) (fun hc1=>?_)
 ·
  have hc1':=of_decide_eq_true hc1
  refine aw ?_
  refine ab aa 5 rfl ?_
  refine ae ?_
  refine ad aa 6 rfl ?_
  refine ax ?_
  have hX:dw e err=err:=by
    (unfold dw;try dsimp only);(repeat' split)<;>first|rfl|omega|(exfalso;omega)|(subst_vars;rfl)|(simp_all;done)|(simp_all;omega)
  rw [hX] at hr;clear hX
  subst hr
  refine al aa [0] 1 rfl rfl rfl rfl rfl rfl ?_ ?_
  all_goals first|rfl|(simp [ar,aU,bb];done)|(simp [ar,aU,bb];omega)
 have hc1':=of_decide_eq_false hc1
 refine aP ?_
 refine ad aa 6 rfl ?_
 refine ax ?_
 have hX:dw e err=e:=by
   (unfold dw;try dsimp only);(repeat' split)<;>first|rfl|omega|(exfalso;omega)|(subst_vars;rfl)|(simp_all;done)|(simp_all;omega)
 rw [hX] at hr;clear hX
 subst hr
 refine al aa [0] 1 rfl rfl rfl rfl rfl rfl ?_ ?_
 all_goals first|rfl|(simp [ar,aU,bb];done)|(simp [ar,aU,bb];omega)

theorem iR (x:Nat->Value) (hx:∀ i,(x i).oneCell'=true) (l:List Entry) (e src dst n:Int) (l2:List Entry) (e2:Int) (hr:dM l e src dst n=(l2,e2)):cA Try.prog 76 [(.c (.p 0 0 0 0)),(.c (cI src)),(.c (cI dst)),(.c (cI n))] [(0,(.box 147 (((bb x).set 18 (dP l)).set 19 (cI e))))] [0] (.t []) [(0,(.box 147 (((bb x).set 18 (dP l2)).set 19 (cI e2))))]:=by
 refine cA.mk 31 [(0,(aC (.p 0 0 0 0))),(1,(aI src)),(2,(aI dst)),(3,(aI n))] 1 Try.func76 rfl rfl rfl rfl rfl rfl rfl rfl rfl ?_
 intro W0 F0 T0 pg
 refine aE aa 8 rfl ?_
 obtain ⟨r0,e0,hr0⟩:∃ (r0:List Entry) (e0:Int),iA l src dst n=(r0,e0):=⟨_,_,rfl⟩
 refine aM 1 [0] (bP 1 (Fn.frozen (av':=(.t [(.c (dP r0)),(.c (cI e0))])) (vV l src dst n r0 e0 hr0) ⟨.inr ⟨_,_,_,_,_,rfl,rfl,rfl,by simp⟩,.inl ⟨_,rfl,rfl⟩,trivial⟩) FC rfl rfl ⟨⟨_,rfl,.c (.d _)⟩,⟨_,rfl,.c (.d _)⟩,⟨_,rfl,.c (.d _)⟩,⟨_,rfl,.c (.d _)⟩,trivial⟩ ⟨trivial,trivial,trivial⟩ trivial rfl rfl rfl rfl) rfl ?_
 refine ab aa 5 rfl ?_
 refine ae ?_
 refine aE aa 2 rfl ?_
 obtain ⟨e21,hr1⟩:∃ (e21:Int),dw e e0=e21:=⟨_,rfl⟩
 refine aM 1 [0] (cf id id (ms:=(dq.set 19 (some (cI e)))) (ms':=(dq.set 19 (some (cI e21)))) (fun x hx=>jA x hx e e0 e21 hr1) nm rfl rfl ⟨⟨_,rfl,.inl ⟨rfl,rfl⟩⟩,⟨_,rfl,.inr (.c (.d _))⟩,trivial⟩ rfl rfl rfl rfl rfl rfl rfl trivial rfl rfl rfl rfl rfl rfl rfl rfl rfl rfl rfl rfl rfl) rfl ?_
 refine ab aa 1 rfl ?_
 refine ae ?_
 refine ag rfl (fun hc1=>?_) (fun hc1=>?_)
 ·
  have hc1':=hc1;try simp only [bl,bJ] at hc1'
  refine aw ?_
  refine ab aa 6 rfl ?_
  refine bX ?_
  have hX:dM l e src dst n=(r0,e21):=by
    unfold dM;simp only [hr0,hr1];(repeat' split)<;>first|rfl|omega|(exfalso;omega)|(simp_all;done)|(simp_all;omega)
  rw [hX] at hr;clear hX
  simp only [Prod.mk.injEq] at hr;obtain ⟨rfl,rfl⟩:=hr
  refine cG aa [0] 1 rfl rfl rfl rfl rfl rfl ?_ ?_
  all_goals first|rfl|(simp [ar,aU,bb];done)|(simp [ar,aU,bb];omega)
 have hc1':=hc1;try simp only [bl,bJ] at hc1'
 refine cW ?_
 have hX:dM l e src dst n=(l,e21):=by
   unfold dM;simp only [hr0,hr1];(repeat' split)<;>first|rfl|omega|(exfalso;omega)|(simp_all;done)|(simp_all;omega)
 rw [hX] at hr;clear hX
 simp only [Prod.mk.injEq] at hr;obtain ⟨rfl,rfl⟩:=hr
 refine cG aa [0] 1 rfl rfl rfl rfl rfl rfl ?_ ?_
 all_goals first|rfl|(simp [ar,aU,bb];done)|(simp [ar,aU,bb];omega)
theorem iC (x:Nat->Value) (hx:∀ i,(x i).oneCell'=true) (l:List bD) (e k held bx:Int) (hk:0<=k/\k < l.length) (l2:List bD) (e2:Int) (hr:cz l e k held bx=(l2,e2)):cA Try.prog 75 [(.c (.p 0 0 0 0)),(.c (cI k)),(.c (cI held)),(.c (cI bx))] [(0,(.box 147 (((bb x).set 2 (.s 1 0 6 l.length)).set 19 (cI e)))),(1,(dK l))] [0] (.t []) [(0,(.box 147 (((bb x).set 2 (.s 1 0 6 l2.length)).set 19 (cI e2)))),(1,(dK l2))]:=by
 refine cA.mk 36 [(0,(aC (.p 0 0 0 0))),(1,(aI k)),(2,(aI held)),(3,(aI bx))] 2 Try.func75 rfl rfl rfl rfl rfl rfl rfl rfl rfl ?_
 intro W0 F0 T0 pg
 refine aE aa 6 rfl ?_
 refine ay (br (i:=Int.toNat (k)) rfl rfl rfl Try.underlying29 iH (by first|omega|(simp;done)|(simp;omega)) (by first|omega|(simp;done)|(simp;omega))) rfl ?_
 obtain ⟨x1,hx1⟩:=cq (xs:=l) (i:=Int.toNat (k)) (by first|omega|(simp;done)|(simp;omega))
 refine ay (dc rfl rfl rfl Try.underlying61 rfl iH (bu hx1) rfl) rfl ?_
 refine ab aa 2 rfl ?_
 obtain ⟨xr0,e0,hr0⟩:∃ (xr0:bD) (e0:Int),dQ x1 held bx=(xr0,e0):=⟨_,_,rfl⟩
 refine aM 2 [0,1] (bP 2 (Fn.frozen (av':=(.t [(.g [(cI xr0.bx),(cI xr0.held),(cI xr0.bZ.aO),(cI xr0.bZ.count),(cI xr0.bZ.sum),(fj xr0.cM)]),(.c (cI e0))])) (vm x1 held bx xr0 e0 hr0) ⟨⟨.inl ⟨_,rfl,rfl⟩,.inl ⟨_,rfl,rfl⟩,.inl ⟨_,rfl,rfl⟩,.inl ⟨_,rfl,rfl⟩,.inl ⟨_,rfl,rfl⟩,.inr ⟨_,_,_,_,_,rfl,rfl,rfl,by simp⟩,trivial⟩,.inl ⟨_,rfl,rfl⟩,trivial⟩) FD rfl rfl ⟨⟨_,rfl,.g ⟨.d _,.d _,.d _,.d _,.d _,.d _,trivial⟩⟩,⟨_,rfl,.c (.d _)⟩,⟨_,rfl,.c (.d _)⟩,trivial⟩ ⟨⟨trivial,trivial,trivial,trivial,trivial,trivial,trivial⟩,trivial,trivial⟩ trivial rfl rfl rfl rfl) rfl ?_
 refine ab aa 6 rfl ?_
 refine ae ?_
 refine aE aa 2 rfl ?_
 obtain ⟨e21,hr1⟩:∃ (e21:Int),dw e e0=e21:=⟨_,rfl⟩
 refine aM 3 [0,2,1] (cf id id (ms:=(dq.set 19 (some (cI e)))) (ms':=(dq.set 19 (some (cI e21)))) (fun x hx=>jA x hx e e0 e21 hr1) nm rfl rfl ⟨⟨_,rfl,.inl ⟨rfl,rfl⟩⟩,⟨_,rfl,.inr (.c (.d _))⟩,trivial⟩ rfl rfl rfl rfl rfl rfl rfl trivial rfl rfl rfl rfl rfl rfl rfl rfl rfl rfl rfl rfl rfl) rfl ?_
 refine ab aa 1 rfl ?_
 refine ae ?_
 refine ag rfl (fun hc1=>?_) (fun hc1=>?_)
 ·
  have hc1':=hc1;try simp only [bl,bJ] at hc1'
  refine bc [0,1,8] [0,2,1] mixed rfl rfl ?_
  refine aA (kn:=[]) aa 7 rfl trivial ?_
  refine aT (n':=3) [32,33] [1] rfl rfl (.inl ⟨(ah.plain rfl),aJ.cast (br (i:=Int.toNat (k)) rfl rfl rfl Try.underlying29 iH (by first|omega|(simp;done)|(simp;omega)) (by first|omega|(simp;done)|(simp;omega))) rfl⟩) rfl ?_
  refine bC [0,2,1] rfl rfl rfl rfl (by kernel_rfl) ?_
  refine fV [0,2,1] (dH (ds:=[(dI xr0.bx),(dI xr0.held),(dI xr0.bZ.aO),(dI xr0.bZ.count),(dI xr0.bZ.sum),(DS xr0.cM)]) rfl rfl rfl rfl rfl iH rfl (Nat.le_of_ble_eq_true rfl) (bu hx1) rfl (eG (x':=xr0) rfl)) rfl ?_
  refine bX ?_
  have hX:cz l e k held bx=((l).set (Int.toNat (k)) xr0,e21):=by
    rw [nR hx1];simp only [hr0,hr1];(repeat' split)<;>first|rfl|omega|(exfalso;omega)|(simp_all;done)|(simp_all;omega)
  rw [hX] at hr;clear hX
  simp only [Prod.mk.injEq] at hr;obtain ⟨rfl,rfl⟩:=hr
  refine cG aa [0,1] 2 rfl rfl rfl rfl rfl rfl ?_ ?_
  all_goals first|rfl|(simp [ar,aU,bb];done)|(simp [ar,aU,bb];omega)
 have hc1':=hc1;try simp only [bl,bJ] at hc1'
 refine cW ?_
 have hX:cz l e k held bx=(l,e21):=by
   rw [nR hx1];simp only [hr0,hr1];(repeat' split)<;>first|rfl|omega|(exfalso;omega)|(simp_all;done)|(simp_all;omega)
 rw [hX] at hr;clear hX
 simp only [Prod.mk.injEq] at hr;obtain ⟨rfl,rfl⟩:=hr
 refine cG aa [0,1] 2 rfl rfl rfl rfl rfl rfl ?_ ?_
 all_goals first|rfl|(simp [ar,aU,bb];done)|(simp [ar,aU,bb];omega)
theorem DY (x:Nat->Value) (hx:∀ i,(x i).oneCell'=true) (l:List ak) (e:Int) (r:ak) (hl:l.length<=100) (l2:List ak) (e2:Int) (hr:iz l e r=(l2,e2)):cA Try.prog 83 [(.c (.p 0 0 0 0)),(.g [(cI r.az),(cI r.ba),(cI r.kind),(cI r.sum)])] [(0,(.box 147 (((bb x).set 16 (.s 1 0 4 l.length)).set 19 (cI e)))),(1,(cK l))] [0] (.t []) [(0,(.box 147 (((bb x).set 16 (.s 1 0 4 l2.length)).set 19 (cI e2)))),(1,(cK l2))]:=by
 refine cA.mk 25 [(0,(aC (.p 0 0 0 0))),(1,(aG [(cI r.az),(cI r.ba),(cI r.kind),(cI r.sum)]))] 2 Try.func83 rfl rfl rfl rfl rfl rfl rfl rfl rfl ?_
 intro W0 F0 T0 pg
 refine ad aa 1 rfl ?_
 refine af ?_
 refine aE aa 5 rfl ?_
 refine ay (dm rfl rfl rfl rfl rfl Try.underlying42) rfl ?_
 refine ab aa 1 rfl ?_
 refine ae ?_
 refine ag rfl (fun hc1=>?_) (fun hc1=>?_)
 ·
  have hc1':=of_decide_eq_true hc1
  refine aE aa 1 rfl ?_
  obtain ⟨e20,hr0⟩:∃ (e20:Int),dw e 5=e20:=⟨_,rfl⟩
  refine aM 3 [0,2,1] (cf id id (ms:=(dq.set 19 (some (cI e)))) (ms':=(dq.set 19 (some (cI e20)))) (fun x hx=>jA x hx e 5 e20 hr0) nm rfl rfl ⟨⟨_,rfl,.inl ⟨rfl,rfl⟩⟩,⟨_,rfl,.inr (.c (.d _))⟩,trivial⟩ rfl rfl rfl rfl rfl rfl rfl trivial rfl rfl rfl rfl rfl rfl rfl rfl rfl rfl rfl rfl rfl) rfl ?_
  refine ae ?_
  refine ax ?_
  refine an ?_
  have hX:iz l e r=(l,e20):=by
    unfold iz;first|(rw [if_pos (by omega),hr0];done)|(rw [if_neg (by omega)];done)
  rw [hX] at hr;clear hX
  simp only [Prod.mk.injEq] at hr;obtain ⟨rfl,rfl⟩:=hr
  refine al aa [0,1] 2 rfl rfl rfl rfl rfl rfl ?_ ?_
  all_goals first|rfl|(simp [ar,aU,bb];done)|(simp [ar,aU,bb];omega)
 have hc1':=of_decide_eq_false hc1
 refine aP ?_
 refine bc [0,3] [2,0,1] mixed rfl rfl ?_
 refine aA (kn:=[]) aa 7 rfl trivial ?_
 refine aT (n':=4) [19] [] rfl rfl (.inl ⟨(ah.plain rfl),aJ.cast (dv (ys:=[(0,(.g [(cI r.az),(cI r.ba),(cI r.kind),(cI r.sum)]))]) (rows:=([r]).map gK) 3 xg rfl (by decide) ⟨⟨rfl,rfl⟩,trivial⟩ rfl rfl rfl rfl) rfl⟩) rfl ?_
 refine aT (n':=5) [18,20] [3,1] rfl rfl (.inl ⟨(ah.plain rfl),aJ.cast (dd (m:=1) (N:=l.length+1) (k2:=4) (ys:=([r]).map gK) xg rfl rfl rfl rfl rfl rfl (by first|omega|(simp;done)|(simp;omega)) rfl (.s rfl (by first|omega|(simp;done)|(simp;omega))) (by first|omega|(simp;done)|(simp;omega)) (by first|omega|(simp;done)|(simp;omega)) eP (by decide) (by first|omega|(simp;done)|(simp;omega)) (by first|omega|(simp;done)|(simp;omega))) rfl⟩) rfl ?_
 refine aA (kn:=[]) aa 3 rfl trivial ?_
 refine bC [4,2,0] rfl rfl rfl rfl (by kernel_rfl) ?_
 refine ab aa 1 rfl ?_
 refine bX ?_
 have hX:iz l e r=(l++([r]),e):=by
   unfold iz;first|(rw [if_pos (by omega),hr0];done)|(rw [if_neg (by omega)];done)
 rw [hX] at hr;clear hX
 simp only [Prod.mk.injEq] at hr;obtain ⟨rfl,rfl⟩:=hr
 refine cG aa [0,4] 2 rfl rfl rfl rfl rfl rfl ?_ ?_
 all_goals first|rfl|(simp [ar,aU,bb];done)|(simp [ar,aU,bb];omega)

theorem sa (x:Nat->Value) (hx:∀ i,(x i).oneCell'=true) (s:bV) (e:Int) (t:bj) (hI:∀ t∈s.kept,fz t.number) (s2:bV) (e2:Int) (hr:eA s e t=(s2,e2)):cA Try.prog 82 [(.c (.p 0 0 0 0)),(.c (cI 0)),(.g [(cI t.number),(cI t.kind),(cI t.ba),(cI t.sum)])] [(0,(.box 147 ((((bb x).set 5 (cI s.bW)).set 6 (de s.kept)).set 19 (cI e))))] [0] (.t []) [(0,(.box 147 ((((bb x).set 5 (cI s2.bW)).set 6 (de s2.kept)).set 19 (cI e2))))]:=by
 refine cA.mk 31 [(0,(aC (.p 0 0 0 0))),(1,(aI 0)),(2,(aG [(cI t.number),(cI t.kind),(cI t.ba),(cI t.sum)]))] 1 Try.func82 rfl rfl rfl rfl rfl rfl rfl rfl rfl ?_
 intro W0 F0 T0 pg
 refine ad aa 1 rfl ?_
 refine af ?_
 obtain ⟨xr0,e0,hr0⟩:∃ (xr0:bV) (e0:Int),gf s t=(xr0,e0):=⟨_,_,rfl⟩
 refine cZ [0,1,5] [1,0] mixed rfl rfl ?_
 refine bQ (kn:=[]) aa 5 rfl trivial ?_
 refine bU (n':=2) [13,10] [0] rfl rfl (.inl ⟨(ah.plain rfl),aJ.cast (dj (i:=0) rfl rfl rfl Try.underlying35 lV rfl (by decide)) rfl⟩) rfl ?_
 refine bQ (kn:=[]) aa 2 rfl trivial ?_
 refine bU (n':=2) [15,16] [] rfl rfl (.inl ⟨(ah.plain rfl),aJ.cast (bP 2 (Fn.frozen (av':=(.t [(.g [(cI xr0.bW),(de xr0.kept)]),(.c (cI e0))])) (rm s t (by first|assumption|exact jO (by assumption) (by omega)|exact ja (by assumption) (by assumption)|(simp [fz];done)) xr0 e0 hr0) ⟨⟨.inl ⟨_,rfl,rfl⟩,.inr ⟨_,_,_,_,_,rfl,rfl,rfl,by simp⟩,trivial⟩,.inl ⟨_,rfl,rfl⟩,trivial⟩) BN rfl rfl ⟨⟨_,rfl,.g ⟨.d _,.d _,trivial⟩⟩,⟨_,rfl,.g ⟨.d _,.d _,.d _,.d _,trivial⟩⟩,trivial⟩ ⟨⟨trivial,trivial,trivial⟩,trivial,trivial⟩ trivial rfl rfl rfl rfl) rfl⟩) rfl ?_
 refine bQ (n':=3) (kn:=[]) aa 6 rfl trivial ?_
 refine dL [0,1,6,7] [2,0] rfl rfl (by kernel_rfl) ?_
 refine then_ok ?_
 refine aE aa 2 rfl ?_
 obtain ⟨e21,hr1⟩:∃ (e21:Int),dw e e0=e21:=⟨_,rfl⟩
 refine aM 3 [0,2] (cf id id (ms:=(dq.set 19 (some (cI e)))) (ms':=(dq.set 19 (some (cI e21)))) (fun x hx=>jA x hx e e0 e21 hr1) nm rfl rfl ⟨⟨_,rfl,.inl ⟨rfl,rfl⟩⟩,⟨_,rfl,.inr (.c (.d _))⟩,trivial⟩ rfl rfl rfl rfl rfl rfl rfl trivial rfl rfl rfl rfl rfl rfl rfl rfl rfl rfl rfl rfl rfl) rfl ?_
 refine ab aa 1 rfl ?_
 refine ae ?_
 refine ag rfl (fun hc1=>?_) (fun hc1=>?_)
 ·
  have hc1':=hc1;try simp only [bl,bJ] at hc1'
  refine bc [0,1,6] [0,2] mixed rfl rfl ?_
  refine aA (kn:=[]) aa 6 rfl trivial ?_
  refine aT (n':=3) [29,25] [0] rfl rfl (.inl ⟨(ah.plain rfl),aJ.cast (dj (i:=0) rfl rfl rfl Try.underlying35 lV rfl (by decide)) rfl⟩) rfl ?_
  refine bC [0,2] rfl rfl rfl rfl (by kernel_rfl) ?_
  refine ab aa 1 rfl ?_
  refine bX ?_
  have hX:eA s e t=(xr0,e21):=by
    unfold eA;simp only [hr0,hr1];(repeat' split)<;>first|rfl|omega|(exfalso;omega)|(simp_all;done)|(simp_all;omega)
  rw [hX] at hr;clear hX
  simp only [Prod.mk.injEq] at hr;obtain ⟨rfl,rfl⟩:=hr
  refine cG aa [0] 1 rfl rfl rfl rfl rfl rfl ?_ ?_
  all_goals first|rfl|(simp [ar,aU,bb];done)|(simp [ar,aU,bb];omega)
 have hc1':=hc1;try simp only [bl,bJ] at hc1'
 refine cW ?_
 have hX:eA s e t=(s,e21):=by
   unfold eA;simp only [hr0,hr1];(repeat' split)<;>first|rfl|omega|(exfalso;omega)|(simp_all;done)|(simp_all;omega)
 rw [hX] at hr;clear hX
 simp only [Prod.mk.injEq] at hr;obtain ⟨rfl,rfl⟩:=hr
 refine cG aa [0] 1 rfl rfl rfl rfl rfl rfl ?_ ?_
 all_goals first|rfl|(simp [ar,aU,bb];done)|(simp [ar,aU,bb];omega)
theorem Cx (x:Nat->Value) (hx:∀ i,(x i).oneCell'=true) (s:bV) (e:Int) (t:bj) (hI:∀ t∈s.kept,fz t.number) (s2:bV) (e2:Int) (hr:eA s e t=(s2,e2)):cA Try.prog 82 [(.c (.p 0 0 0 0)),(.c (cI 1)),(.g [(cI t.number),(cI t.kind),(cI t.ba),(cI t.sum)])] [(0,(.box 147 ((((bb x).set 7 (cI s.bW)).set 8 (de s.kept)).set 19 (cI e))))] [0] (.t []) [(0,(.box 147 ((((bb x).set 7 (cI s2.bW)).set 8 (de s2.kept)).set 19 (cI e2))))]:=by
 refine cA.mk 31 [(0,(aC (.p 0 0 0 0))),(1,(aI 1)),(2,(aG [(cI t.number),(cI t.kind),(cI t.ba),(cI t.sum)]))] 1 Try.func82 rfl rfl rfl rfl rfl rfl rfl rfl rfl ?_
 intro W0 F0 T0 pg
 refine ad aa 1 rfl ?_
 refine af ?_
 obtain ⟨xr0,e0,hr0⟩:∃ (xr0:bV) (e0:Int),gf s t=(xr0,e0):=⟨_,_,rfl⟩
 refine cZ [0,1,5] [1,0] mixed rfl rfl ?_
 refine bQ (kn:=[]) aa 5 rfl trivial ?_
 refine bU (n':=2) [13,10] [0] rfl rfl (.inl ⟨(ah.plain rfl),aJ.cast (dj (i:=1) rfl rfl rfl Try.underlying35 lV rfl (by decide)) rfl⟩) rfl ?_
 refine bQ (kn:=[]) aa 2 rfl trivial ?_
 refine bU (n':=2) [15,16] [] rfl rfl (.inl ⟨(ah.plain rfl),aJ.cast (bP 2 (Fn.frozen (av':=(.t [(.g [(cI xr0.bW),(de xr0.kept)]),(.c (cI e0))])) (rm s t (by first|assumption|exact jO (by assumption) (by omega)|exact ja (by assumption) (by assumption)|(simp [fz];done)) xr0 e0 hr0) ⟨⟨.inl ⟨_,rfl,rfl⟩,.inr ⟨_,_,_,_,_,rfl,rfl,rfl,by simp⟩,trivial⟩,.inl ⟨_,rfl,rfl⟩,trivial⟩) BN rfl rfl ⟨⟨_,rfl,.g ⟨.d _,.d _,trivial⟩⟩,⟨_,rfl,.g ⟨.d _,.d _,.d _,.d _,trivial⟩⟩,trivial⟩ ⟨⟨trivial,trivial,trivial⟩,trivial,trivial⟩ trivial rfl rfl rfl rfl) rfl⟩) rfl ?_
 refine bQ (n':=3) (kn:=[]) aa 6 rfl trivial ?_
 refine dL [0,1,6,7] [2,0] rfl rfl (by kernel_rfl) ?_
 refine then_ok ?_
 refine aE aa 2 rfl ?_
 obtain ⟨e21,hr1⟩:∃ (e21:Int),dw e e0=e21:=⟨_,rfl⟩
 refine aM 3 [0,2] (cf id id (ms:=(dq.set 19 (some (cI e)))) (ms':=(dq.set 19 (some (cI e21)))) (fun x hx=>jA x hx e e0 e21 hr1) nm rfl rfl ⟨⟨_,rfl,.inl ⟨rfl,rfl⟩⟩,⟨_,rfl,.inr (.c (.d _))⟩,trivial⟩ rfl rfl rfl rfl rfl rfl rfl trivial rfl rfl rfl rfl rfl rfl rfl rfl rfl rfl rfl rfl rfl) rfl ?_
 refine ab aa 1 rfl ?_
 refine ae ?_
 refine ag rfl (fun hc1=>?_) (fun hc1=>?_)
 ·
  have hc1':=hc1;try simp only [bl,bJ] at hc1'
  refine bc [0,1,6] [0,2] mixed rfl rfl ?_
  refine aA (kn:=[]) aa 6 rfl trivial ?_
  refine aT (n':=3) [29,25] [0] rfl rfl (.inl ⟨(ah.plain rfl),aJ.cast (dj (i:=1) rfl rfl rfl Try.underlying35 lV rfl (by decide)) rfl⟩) rfl ?_
  refine bC [0,2] rfl rfl rfl rfl (by kernel_rfl) ?_
  refine ab aa 1 rfl ?_
  refine bX ?_
  have hX:eA s e t=(xr0,e21):=by
    unfold eA;simp only [hr0,hr1];(repeat' split)<;>first|rfl|omega|(exfalso;omega)|(simp_all;done)|(simp_all;omega)
  rw [hX] at hr;clear hX
  simp only [Prod.mk.injEq] at hr;obtain ⟨rfl,rfl⟩:=hr
  refine cG aa [0] 1 rfl rfl rfl rfl rfl rfl ?_ ?_
  all_goals first|rfl|(simp [ar,aU,bb];done)|(simp [ar,aU,bb];omega)
 have hc1':=hc1;try simp only [bl,bJ] at hc1'
 refine cW ?_
 have hX:eA s e t=(s,e21):=by
   unfold eA;simp only [hr0,hr1];(repeat' split)<;>first|rfl|omega|(exfalso;omega)|(simp_all;done)|(simp_all;omega)
 rw [hX] at hr;clear hX
 simp only [Prod.mk.injEq] at hr;obtain ⟨rfl,rfl⟩:=hr
 refine cG aa [0] 1 rfl rfl rfl rfl rfl rfl ?_ ?_
 all_goals first|rfl|(simp [ar,aU,bb];done)|(simp [ar,aU,bb];omega)
theorem zu (x:Nat->Value) (hx:∀ i,(x i).oneCell'=true) (aq:List bB) (due:List Int) (ao:List bD) (book:List Entry) (e:Int) (t:bj) (ht:0<=t.ba/\t.ba < aq.length) (hA:∀ a∈aq,0<=a.aL/\a.aL < ao.length/\0<=a.az/\a.az < due.length) (hc:ao.length<=8) (hd:due.length<=8) (due2:List Int) (cards2:List bD) (book2:List Entry) (e2:Int) (hr:ez aq due ao book e t=(due2,cards2,book2,e2)):cA Try.prog 89 [(.c (.p 0 0 0 0)),(.g [(cI t.number),(cI t.kind),(cI t.ba),(cI t.sum)])] [(0,(.box 147 ((((((bb x).set 2 (.s 1 0 6 ao.length)).set 3 (.s 2 0 1 due.length)).set 4 (.s 3 0 8 aq.length)).set 18 (dP book)).set 19 (cI e)))),(1,(dK ao)),(2,(dC due)),(3,(dS aq))] [0] (.t []) [(0,(.box 147 ((((((bb x).set 2 (.s 1 0 6 cards2.length)).set 3 (.s 2 0 1 due2.length)).set 4 (.s 3 0 8 aq.length)).set 18 (dP book2)).set 19 (cI e2)))),(1,(dK cards2)),(2,(dC due2)),(3,(dS aq))]:=by
 refine cA.mk 77 [(0,(aC (.p 0 0 0 0))),(1,(aG [(cI t.number),(cI t.kind),(cI t.ba),(cI t.sum)]))] 4 Try.func89 rfl rfl rfl rfl rfl rfl rfl rfl rfl ?_
 intro W0 F0 T0 pg
 refine ad aa 1 rfl ?_
 refine af ?_
 obtain ⟨x1,hx1⟩:=cq (xs:=aq) (i:=Int.toNat (t.ba)) (by first|omega|(simp;done)|(simp;omega))
 have hx1A:=hA x1 (List.mem_of_getElem? hx1)
 refine bc [0,3] [4,0,1,2,3] mixed rfl rfl ?_
 refine aA (kn:=[]) aa 7 rfl trivial ?_
 refine aT (n':=5) [11,13] [3] rfl rfl (.inl ⟨(ah.plain rfl),aJ.cast (br (i:=Int.toNat (t.ba)) rfl rfl rfl Try.underlying31 lU (by first|omega|(simp;done)|(simp;omega)) (by first|omega|(simp;done)|(simp;omega))) rfl⟩) rfl ?_
 refine aT (n':=5) [14] [3] rfl rfl (.inl ⟨(ah.plain rfl),aJ.cast (dc rfl rfl rfl Try.underlying67 rfl lU (bu hx1) rfl) rfl⟩) rfl ?_
 refine aA (n':=6) (kn:=[]) aa 1 rfl trivial ?_
 refine bC [5,4,0,1,2,3] rfl rfl rfl rfl (by kernel_rfl) ?_
 refine ab aa 1 rfl ?_
 refine ae ?_
 refine af ?_
 refine bc [0,3,4] [5,4,0,1,2,3] mixed rfl rfl ?_
 refine aA (kn:=[]) aa 2 rfl trivial ?_
 refine aT (n':=6) [17] [] rfl rfl (.inl ⟨(ah.plain rfl),aJ.cast (aK rfl rfl rfl (aH (by first|omega|(simp;done)|(simp;omega)))) rfl⟩) rfl ?_
 refine aA (kn:=[]) aa 2 rfl trivial ?_
 refine aT (n':=6) [20] [] rfl rfl (.inl ⟨(ah.plain rfl),aJ.cast (aK rfl rfl rfl (aH (by first|omega|(simp;done)|(simp;omega)))) rfl⟩) rfl ?_
 refine aA (kn:=[]) aa 2 rfl trivial ?_
 refine bC [5,4,0,1,2,3] rfl rfl rfl rfl (by kernel_rfl) ?_
 refine ae ?_
 refine ad aa 2 rfl ?_
 refine aW ?_
 refine ad aa 2 rfl ?_
 refine ag rfl (fun hc1=>?_) (fun hc1=>?_)
 ·
  have hc1':=of_decide_eq_true hc1
  refine af ?_
  obtain ⟨x2,hx2⟩:=cq (xs:=due) (i:=Int.toNat (x1.az)) (by first|omega|(simp;done)|(simp;omega))
  refine bc [0,3,4,5] [5,4,0,1,2,3] mixed rfl rfl ?_
  refine aA (kn:=[]) aa 7 rfl trivial ?_
  refine aT (n':=6) [30,32] [2] rfl rfl (.inl ⟨(ah.plain rfl),aJ.cast (br (i:=Int.toNat (x1.az)) rfl rfl rfl Try.underlying30 fX (by first|omega|(simp;done)|(simp;omega)) (by first|omega|(simp;done)|(simp;omega))) rfl⟩) rfl ?_
  refine aT (n':=6) [33] [2] rfl rfl (.inl ⟨(ah.plain rfl),aJ.cast (eB rfl rfl rfl Try.underlying3 rfl (bu hx2) rfl) rfl⟩) rfl ?_
  refine aA (kn:=[]) aa 3 rfl trivial ?_
  refine aT (n':=6) [30,32] [2] rfl rfl (.inl ⟨(ah.plain rfl),aJ.cast (br (i:=Int.toNat (x1.az)) rfl rfl rfl Try.underlying30 fX (by first|omega|(simp;done)|(simp;omega)) (by first|omega|(simp;done)|(simp;omega))) rfl⟩) rfl ?_
  refine bC [5,4,0,1,2,3] rfl rfl rfl rfl (by kernel_rfl) ?_
  refine fV [5,4,0,1,2,3] (dH (ds:=[(dI (IntKind.i64.wrap (x2+t.sum)))]) rfl rfl rfl rfl rfl fX rfl (Nat.le_of_ble_eq_true rfl) (bu hx2) rfl (eG (x':=(IntKind.i64.wrap (x2+t.sum))) rfl)) rfl ?_
  refine ae ?_
  refine fq (k:=0) (q:=3) (c':=(.s 2 0 1 (((due).set (Int.toNat (x1.az)) (IntKind.i64.wrap (x2+t.sum))).length))) rfl rfl (by first|rfl|(simp;done)|(congr 1;omega)) rfl ?_
  refine aw ?_
  refine ab aa 4 rfl ?_
  obtain ⟨l20,e20,hr0⟩:∃ (l20:List Entry) (e20:Int),dM book e 1 (50+x1.az) t.sum=(l20,e20):=⟨_,_,rfl⟩
  refine aM 6 [0,5,4,1,2,3] (cf id id (ms:=((dq.set 18 (some (dP book))).set 19 (some (cI e)))) (ms':=((dq.set 18 (some (dP l20))).set 19 (some (cI e20)))) (fun x hx=>iR x hx book e 1 (50+x1.az) t.sum l20 e20 hr0) mf rfl rfl ⟨⟨_,rfl,.inl ⟨rfl,rfl⟩⟩,⟨_,rfl,.inr (.c (.d _))⟩,⟨_,rfl,.inr (.c (.d _))⟩,⟨_,rfl,.inr (.c (.d _))⟩,trivial⟩ rfl rfl rfl rfl rfl rfl rfl trivial rfl rfl rfl rfl rfl rfl rfl rfl rfl rfl rfl rfl rfl) rfl ?_
  refine bX ?_
  refine bn ?_
  have hX:ez aq due ao book e t=((due).set (Int.toNat (x1.az)) (IntKind.i64.wrap (x2+t.sum)),ao,l20,e20):=by
    unfold ez;rw [hx1];dsimp only;simp only [List.getD_eq_getElem?_getD,hx2,Option.getD_some,hr0];(repeat' split)<;>first|rfl|omega|(exfalso;omega)|(simp_all;done)|(simp_all;omega)
  rw [hX] at hr;clear hX
  simp only [Prod.mk.injEq] at hr;obtain ⟨rfl,rfl,rfl,rfl⟩:=hr
  refine cG aa [0,1,2,3] 4 rfl rfl rfl rfl rfl rfl ?_ ?_
  all_goals first|rfl|(simp [ar,aU,bb];done)|(simp [ar,aU,bb];omega)
 have hc1':=of_decide_eq_false hc1
 refine ad aa 2 rfl ?_
 refine ag rfl (fun hc2=>?_) (fun hc2=>?_)
 ·
  have hc2':=of_decide_eq_true hc2
  refine aE aa 5 rfl ?_
  obtain ⟨l21,e21,hr1⟩:∃ (l21:List bD) (e21:Int),cz ao e x1.aL 0 t.sum=(l21,e21):=⟨_,_,rfl⟩
  refine aM 7 [0,6,5,4,2,3] (cf id (aX [0,6]) (ms:=((dq.set 2 (some (.s 1 0 6 ao.length))).set 19 (some (cI e)))) (ms':=((dq.set 2 (some (.s 1 0 6 l21.length))).set 19 (some (cI e21)))) (fun x hx=>iC x hx ao e x1.aL 0 t.sum (by first|omega|(simp;done)|(simp;omega)) l21 e21 hr1) nn rfl rfl ⟨⟨_,rfl,.inl ⟨rfl,rfl⟩⟩,⟨_,rfl,.inr (.c (.d _))⟩,⟨_,rfl,.inr (.c (.d _))⟩,⟨_,rfl,.inr (.c (.d _))⟩,trivial⟩ rfl rfl rfl rfl rfl rfl rfl ⟨rfl,trivial⟩ rfl rfl rfl rfl rfl rfl rfl rfl rfl rfl rfl rfl rfl) rfl ?_
  refine ae ?_
  refine aw ?_
  refine ab aa 4 rfl ?_
  obtain ⟨l22,e22,hr2⟩:∃ (l22:List Entry) (e22:Int),dM book e21 1 (10+x1.aL) t.sum=(l22,e22):=⟨_,_,rfl⟩
  refine aM 7 [0,6,5,4,2,3] (cf id id (ms:=((dq.set 18 (some (dP book))).set 19 (some (cI e21)))) (ms':=((dq.set 18 (some (dP l22))).set 19 (some (cI e22)))) (fun x hx=>iR x hx book e21 1 (10+x1.aL) t.sum l22 e22 hr2) mf rfl rfl ⟨⟨_,rfl,.inl ⟨rfl,rfl⟩⟩,⟨_,rfl,.inr (.c (.d _))⟩,⟨_,rfl,.inr (.c (.d _))⟩,⟨_,rfl,.inr (.c (.d _))⟩,trivial⟩ rfl rfl rfl rfl rfl rfl rfl trivial rfl rfl rfl rfl rfl rfl rfl rfl rfl rfl rfl rfl rfl) rfl ?_
  refine bX ?_
  refine bn ?_
  have hX:ez aq due ao book e t=(due,l21,l22,e22):=by
    unfold ez;rw [hx1];dsimp only;simp only [List.getD_eq_getElem?_getD,Option.getD_some,hr1,hr2];(repeat' split)<;>first|rfl|omega|(exfalso;omega)|(simp_all;done)|(simp_all;omega)
  rw [hX] at hr;clear hX
  simp only [Prod.mk.injEq] at hr;obtain ⟨rfl,rfl,rfl,rfl⟩:=hr
  refine cG aa [0,6,2,3] 4 rfl rfl rfl rfl rfl rfl ?_ ?_
  all_goals first|rfl|(simp [ar,aU,bb];done)|(simp [ar,aU,bb];omega)
 have hc2':=of_decide_eq_false hc2
 refine ad aa 2 rfl ?_
 refine ag rfl (fun hc3=>?_) (fun hc3=>?_)
 ·
  have hc3':=of_decide_eq_true hc3
  refine af ?_
  obtain ⟨x2,hx2⟩:=cq (xs:=due) (i:=Int.toNat (x1.az)) (by first|omega|(simp;done)|(simp;omega))
  refine bc [0,3,4,5] [5,4,0,1,2,3] mixed rfl rfl ?_
  refine aA (kn:=[]) aa 7 rfl trivial ?_
  refine aT (n':=6) [63,65] [2] rfl rfl (.inl ⟨(ah.plain rfl),aJ.cast (br (i:=Int.toNat (x1.az)) rfl rfl rfl Try.underlying30 fX (by first|omega|(simp;done)|(simp;omega)) (by first|omega|(simp;done)|(simp;omega))) rfl⟩) rfl ?_
  refine aT (n':=6) [66] [2] rfl rfl (.inl ⟨(ah.plain rfl),aJ.cast (eB rfl rfl rfl Try.underlying3 rfl (bu hx2) rfl) rfl⟩) rfl ?_
  refine aA (kn:=[]) aa 3 rfl trivial ?_
  refine aT (n':=6) [63,65] [2] rfl rfl (.inl ⟨(ah.plain rfl),aJ.cast (br (i:=Int.toNat (x1.az)) rfl rfl rfl Try.underlying30 fX (by first|omega|(simp;done)|(simp;omega)) (by first|omega|(simp;done)|(simp;omega))) rfl⟩) rfl ?_
  refine bC [5,4,0,1,2,3] rfl rfl rfl rfl (by kernel_rfl) ?_
  refine fV [5,4,0,1,2,3] (dH (ds:=[(dI (IntKind.i64.wrap (x2 - t.sum)))]) rfl rfl rfl rfl rfl fX rfl (Nat.le_of_ble_eq_true rfl) (bu hx2) rfl (eG (x':=(IntKind.i64.wrap (x2 - t.sum))) rfl)) rfl ?_
  refine ae ?_
  refine fq (k:=0) (q:=3) (c':=(.s 2 0 1 (((due).set (Int.toNat (x1.az)) (IntKind.i64.wrap (x2 - t.sum))).length))) rfl rfl (by first|rfl|(simp;done)|(congr 1;omega)) rfl ?_
  refine aw ?_
  refine ab aa 4 rfl ?_
  obtain ⟨l23,e23,hr3⟩:∃ (l23:List Entry) (e23:Int),dM book e (50+x1.az) 2 t.sum=(l23,e23):=⟨_,_,rfl⟩
  refine aM 6 [0,5,4,1,2,3] (cf id id (ms:=((dq.set 18 (some (dP book))).set 19 (some (cI e)))) (ms':=((dq.set 18 (some (dP l23))).set 19 (some (cI e23)))) (fun x hx=>iR x hx book e (50+x1.az) 2 t.sum l23 e23 hr3) mf rfl rfl ⟨⟨_,rfl,.inl ⟨rfl,rfl⟩⟩,⟨_,rfl,.inr (.c (.d _))⟩,⟨_,rfl,.inr (.c (.d _))⟩,⟨_,rfl,.inr (.c (.d _))⟩,trivial⟩ rfl rfl rfl rfl rfl rfl rfl trivial rfl rfl rfl rfl rfl rfl rfl rfl rfl rfl rfl rfl rfl) rfl ?_
  refine bX ?_
  refine bn ?_
  have hX:ez aq due ao book e t=((due).set (Int.toNat (x1.az)) (IntKind.i64.wrap (x2 - t.sum)),ao,l23,e23):=by
    unfold ez;rw [hx1];dsimp only;simp only [List.getD_eq_getElem?_getD,hx2,Option.getD_some,hr3];(repeat' split)<;>first|rfl|omega|(exfalso;omega)|(simp_all;done)|(simp_all;omega)
  rw [hX] at hr;clear hX
  simp only [Prod.mk.injEq] at hr;obtain ⟨rfl,rfl,rfl,rfl⟩:=hr
  refine cG aa [0,1,2,3] 4 rfl rfl rfl rfl rfl rfl ?_ ?_
  all_goals first|rfl|(simp [ar,aU,bb];done)|(simp [ar,aU,bb];omega)
 have hc3':=of_decide_eq_false hc3
 refine cW ?_
 refine bn ?_
 have hX:ez aq due ao book e t=(due,ao,book,e):=by
   unfold ez;rw [hx1];dsimp only;simp only [List.getD_eq_getElem?_getD,Option.getD_some,hx1];(repeat' split)<;>first|rfl|omega|(exfalso;omega)|(simp_all;done)|(simp_all;omega)
 rw [hX] at hr;clear hX
 simp only [Prod.mk.injEq] at hr;obtain ⟨rfl,rfl,rfl,rfl⟩:=hr
 refine cG aa [0,1,2,3] 4 rfl rfl rfl rfl rfl rfl ?_ ?_
 all_goals first|rfl|(simp [ar,aU,bb];done)|(simp [ar,aU,bb];omega)

theorem vw (l:List bB) (hl:l.length * 64<=140737488355328):Fn Try.prog 96 [(.c (yl l))] (aC (.s 0 0 8 l.length)) [(0,.arr 67 8 (l.map ix))]:=by
 refine Fn.mk' 8 [(0,(aC (yl l)))] Try.func96 rfl rfl rfl rfl ?_
 intro W0 T0
 refine dF 0 rfl (fun hlen0=>?_)
 refine ad aa 1 rfl ?_
 refine af ?_
 refine aE aa 1 rfl ?_
 refine hG (ah.plain rfl) rfl rfl Try.underlying31 rfl rfl (fun bn1 hbn1=>?_)
 refine ae ?_
 refine ag rfl (fun hc2=>?_) (fun hc2=>?_)
 ·
  have hc2':=hc2;try simp only [bl,bJ] at hc2'
  refine ad aa 1 rfl ?_
  refine ax ?_
  refine an ?_
  refine cT (aD.nil 2 67 8 (by decide) rfl) ?_
  refine al aa [0] 1 rfl rfl rfl rfl rfl rfl ?_ ?_
  ·(have h0:=hbn1 (by assumption);have h1:l=[]:=by (cases l with|nil=>rfl|cons=>simp at h0));subst h1;rfl
  ·(have h0:=hbn1 (by assumption);have h1:l=[]:=by (cases l with|nil=>rfl|cons=>simp at h0));subst h1;rfl
 have hc2':=hc2;try simp only [bl,bJ] at hc2'
 refine aP ?_
 refine eN ?_
 refine aM 1 [0] (dv (ys:=[]) (rows:=(([]:List bB)).map ix) 0 rF rfl (by decide) trivial rfl rfl rfl rfl) rfl ?_
 refine ab aa 1 rfl ?_
 refine aM 2 [1] (dd (m:=l.length) (N:=l.length) (k2:=1) (ys:=(l).map ix) rF rfl rfl rfl rfl rfl rfl (by first|omega|(simp;omega)|(simp;done)) rfl (.d _ _) (by first|omega|(simp;omega)|(simp;done)) (by first|omega|(simp;omega)|(simp;done)) rfl (by decide) (by first|omega|(simp;omega)|(simp;done)) (by first|omega|(simp;omega)|(simp;done))) rfl ?_
 refine ab aa 1 rfl ?_
 refine ae ?_
 refine ax ?_
 refine al aa [1] 1 rfl rfl rfl rfl rfl rfl ?_ ?_
 ·first|rfl|simp [fD,aC]
 ·first|rfl|simp
theorem mA (l:List cc) (hl:l.length * 40<=140737488355328):Fn Try.prog 85 [(.c (ej l))] (aC (.s 0 0 5 l.length)) [(0,.arr 113 5 (l.map fc))]:=by
 refine Fn.mk' 8 [(0,(aC (ej l)))] Try.func85 rfl rfl rfl rfl ?_
 intro W0 T0
 refine dF 0 rfl (fun hlen0=>?_)
 refine ad aa 1 rfl ?_
 refine af ?_
 refine aE aa 1 rfl ?_
 refine hG (ah.plain rfl) rfl rfl Try.underlying37 rfl rfl (fun bn1 hbn1=>?_)
 refine ae ?_
 refine ag rfl (fun hc2=>?_) (fun hc2=>?_)
 ·
  have hc2':=hc2;try simp only [bl,bJ] at hc2'
  refine ad aa 1 rfl ?_
  refine ax ?_
  refine an ?_
  refine cT (aD.nil 2 113 5 (by decide) rfl) ?_
  refine al aa [0] 1 rfl rfl rfl rfl rfl rfl ?_ ?_
  ·(have h0:=hbn1 (by assumption);have h1:l=[]:=by (cases l with|nil=>rfl|cons=>simp at h0));subst h1;rfl
  ·(have h0:=hbn1 (by assumption);have h1:l=[]:=by (cases l with|nil=>rfl|cons=>simp at h0));subst h1;rfl
 have hc2':=hc2;try simp only [bl,bJ] at hc2'
 refine aP ?_
 refine eN ?_
 refine aM 1 [0] (dv (ys:=[]) (rows:=(([]:List cc)).map fc) 0 lX rfl (by decide) trivial rfl rfl rfl rfl) rfl ?_
 refine ab aa 1 rfl ?_
 refine aM 2 [1] (dd (m:=l.length) (N:=l.length) (k2:=1) (ys:=(l).map fc) lX rfl rfl rfl rfl rfl rfl (by first|omega|(simp;omega)|(simp;done)) rfl (.d _ _) (by first|omega|(simp;omega)|(simp;done)) (by first|omega|(simp;omega)|(simp;done)) rfl (by decide) (by first|omega|(simp;omega)|(simp;done)) (by first|omega|(simp;omega)|(simp;done))) rfl ?_
 refine ab aa 1 rfl ?_
 refine ae ?_
 refine ax ?_
 refine al aa [1] 1 rfl rfl rfl rfl rfl rfl ?_ ?_
 ·first|rfl|simp [fD,aC]
 ·first|rfl|simp
theorem vv (l:List (List D)) (hl:l.length * 64<=140737488355328):Fn Try.prog 94 [(.c (cR 6 ((l).map id)))] (aC (.s 0 0 6 l.length)) [(0,.arr 61 6 (l.map id))]:=by
 refine Fn.mk' 8 [(0,(aC (cR 6 ((l).map id))))] Try.func94 rfl rfl rfl rfl ?_
 intro W0 T0
 refine dF 0 rfl (fun hlen0=>?_)
 refine ad aa 1 rfl ?_
 refine af ?_
 refine aE aa 1 rfl ?_
 refine hG (ah.plain rfl) rfl rfl Try.underlying29 rfl rfl (fun bn1 hbn1=>?_)
 refine ae ?_
 refine ag rfl (fun hc2=>?_) (fun hc2=>?_)
 ·
  have hc2':=hc2;try simp only [bl,bJ] at hc2'
  refine ad aa 1 rfl ?_
  refine ax ?_
  refine an ?_
  refine cT (aD.nil 2 61 6 (by decide) rfl) ?_
  refine al aa [0] 1 rfl rfl rfl rfl rfl rfl ?_ ?_
  ·(have h0:=hbn1 (by assumption);have h1:l=[]:=by (cases l with|nil=>rfl|cons=>simp at h0));subst h1;rfl
  ·(have h0:=hbn1 (by assumption);have h1:l=[]:=by (cases l with|nil=>rfl|cons=>simp at h0));subst h1;rfl
 have hc2':=hc2;try simp only [bl,bJ] at hc2'
 refine aP ?_
 refine eN ?_
 refine aM 1 [0] (dv (ys:=[]) (rows:=(([]:List (List D))).map id) 0 xi rfl (by decide) trivial rfl rfl rfl rfl) rfl ?_
 refine ab aa 1 rfl ?_
 refine aM 2 [1] (dd (m:=l.length) (N:=0+l.length) (k2:=1) (ys:=(l).map id) xi rfl rfl rfl rfl rfl rfl (by first|omega|(simp;omega)|(simp;done)) rfl (.d _ _) (by first|omega|(simp;omega)|(simp;done)) (by first|omega|(simp;omega)|(simp;done)) eP (by decide) (by first|omega|(simp;omega)|(simp;done)) (by first|omega|(simp;omega)|(simp;done))) rfl ?_
 refine ab aa 1 rfl ?_
 refine ae ?_
 refine ax ?_
 refine al aa [1] 1 rfl rfl rfl rfl rfl rfl ?_ ?_
 ·first|rfl|simp [fD,aC]
 ·first|rfl|simp

theorem jS (v w:Value) (b:Bk) (l1:b.ao.length<=8) (l2:b.due.length<=8) (l3:b.aq.length<=30) (l4:b.aS.length<=100):cA Try.prog 74 [(.c (.p 0 0 0 0))] [(0,(.box 98 (aU b 1 2 3 4 (.d (.v v)) (.d (.v w))))),(1,(dK b.ao)),(2,(dC b.due)),(3,(dS b.aq)),(4,(cK b.aS))] [0] (.v (.c (.p 1 0 0 0))) [(0,(.box 98 (aU b 2 3 4 5 (.d (.v v)) (.d (.v w))))),(1,(.box 147 (aU b 6 7 8 9 (.d (.v v)) (cI 0)))),(2,(dK b.ao)),(3,(dC b.due)),(4,(dS b.aq)),(5,(cK b.aS)),(6,(dK b.ao)),(7,(dC b.due)),(8,(dS b.aq)),(9,(cK b.aS))]:=by
 refine cA.mk 51 [(0,(aC (.p 0 0 0 0)))] 5 Try.func74 rfl rfl rfl rfl rfl rfl rfl rfl rfl ?_
 intro W0 F0 T0 pg
 refine ad aa 1 rfl ?_
 refine ad aa 7 rfl ?_
 refine af ?_
 refine cZ [0,3] [5,0,1,2,3,4] mixed rfl rfl ?_
 refine bQ (kn:=[]) aa 9 rfl trivial ?_
 refine bU (n':=7) [18] [1] rfl rfl (.inl ⟨(ah.plain rfl),aJ.cast (AJ 6 (fun l hl=>vv l (by rw [hl];first|omega|(simp;done)|(simp;omega))) FF rfl rfl rfl rfl rfl (by simp)) rfl⟩) rfl ?_
 refine bQ (kn:=[]) aa 5 rfl trivial ?_
 refine bU (n':=8) [24] [2] rfl rfl (.inl ⟨(ah.plain rfl),aJ.cast (fH 7 [2] (pF b.due (by first|omega|(simp;done)|(simp;omega))) DA rfl rfl ⟨⟨_,rfl,.c (.s rfl (by decide) (by first|omega|(simp;done)|(simp;omega)))⟩,trivial⟩ trivial ⟨(De _),trivial⟩ rfl rfl rfl rfl) rfl⟩) rfl ?_
 refine bQ (kn:=[]) aa 5 rfl trivial ?_
 refine bU (n':=9) [30] [3] rfl rfl (.inl ⟨(ah.plain rfl),aJ.cast (fH 8 [3] (vw b.aq (by first|omega|(simp;done)|(simp;omega))) FE rfl rfl ⟨⟨_,rfl,.c (.s rfl (by decide) (by first|omega|(simp;done)|(simp;omega)))⟩,trivial⟩ trivial ⟨(yY _),trivial⟩ rfl rfl rfl rfl) rfl⟩) rfl ?_
 refine bQ (kn:=[]) aa 5 rfl trivial ?_
 refine bU (n':=10) [36] [4] rfl rfl (.inl ⟨(ah.plain rfl),aJ.cast (fH 9 [4] (mz b.aS (by first|omega|(simp;done)|(simp;omega))) DM rfl rfl ⟨⟨_,rfl,.c (.s rfl (by decide) (by first|omega|(simp;done)|(simp;omega)))⟩,trivial⟩ trivial ⟨(vJ _),trivial⟩ rfl rfl rfl rfl) rfl⟩) rfl ?_
 refine bQ (kn:=[]) aa 16 rfl trivial ?_
 refine dL [3] [5,9,8,7,6,0,1,2,3,4] rfl rfl (by kernel_rfl) ?_
 refine then_ok ?_
 refine ad aa 2 rfl ?_
 refine ax ?_
 refine al aa [0,5,1,2,3,4,6,7,8,9] 10 rfl rfl rfl rfl rfl rfl ?_ ?_
 all_goals first|rfl|(simp [ar,aU,bb];done)|(simp [ar,aU,bb];omega)
theorem fb (v w:Value) (b c:Bk) (e:Int) (he:e=0):cA Try.prog 77 [(.c (.p 0 0 0 0)),(.c (.p 1 0 0 0))] [(0,(.box 98 (aU b 2 3 4 5 (.d (.v v)) (.d (.v w))))),(1,(.box 147 (aU c 6 7 8 9 (.d (.v v)) (cI e)))),(2,(dK b.ao)),(3,(dC b.due)),(4,(dS b.aq)),(5,(cK b.aS)),(6,(dK c.ao)),(7,(dC c.due)),(8,(dS c.aq)),(9,(cK c.aS))] [0] (.v (.c (cI e))) [(0,(.box 98 (aU c 1 2 3 4 (.d (.v v)) (.d (.v w))))),(1,(dK c.ao)),(2,(dC c.due)),(3,(dS c.aq)),(4,(cK c.aS))]:=by
 refine cA.mk 21 [(0,(aC (.p 0 0 0 0))),(1,(aC (.p 1 0 0 0)))] 10 Try.func77 rfl rfl rfl rfl rfl rfl rfl rfl rfl ?_
 intro W0 F0 T0 pg
 refine ad aa 1 rfl ?_
 refine af ?_
 refine ad aa 5 rfl ?_
 refine ag rfl (fun hc1=>?_) (fun hc1=>?_)
 ·
  have hc1':=of_decide_eq_true hc1
  refine aw ?_
  refine ab aa 8 rfl ?_
  refine ae ?_
  refine ad aa 5 rfl ?_
  refine ax ?_
  refine al aa [0,6,7,8,9] 5 rfl rfl rfl rfl rfl rfl ?_ ?_
  all_goals first|rfl|(simp [ar,aU,bb];done)|(simp [ar,aU,bb];omega)
 have hc1':=of_decide_eq_false hc1
 (exfalso;simp_all)
theorem fN (v w:Value) (b c:Bk) (e:Int) (he:¬e=0):cA Try.prog 77 [(.c (.p 0 0 0 0)),(.c (.p 1 0 0 0))] [(0,(.box 98 (aU b 2 3 4 5 (.d (.v v)) (.d (.v w))))),(1,(.box 147 (aU c 6 7 8 9 (.d (.v v)) (cI e)))),(2,(dK b.ao)),(3,(dC b.due)),(4,(dS b.aq)),(5,(cK b.aS)),(6,(dK c.ao)),(7,(dC c.due)),(8,(dS c.aq)),(9,(cK c.aS))] [0] (.v (.c (cI e))) [(0,(.box 98 (aU b 1 2 3 4 (.d (.v v)) (.d (.v w))))),(1,(dK b.ao)),(2,(dC b.due)),(3,(dS b.aq)),(4,(cK b.aS))]:=by
 refine cA.mk 21 [(0,(aC (.p 0 0 0 0))),(1,(aC (.p 1 0 0 0)))] 10 Try.func77 rfl rfl rfl rfl rfl rfl rfl rfl rfl ?_
 intro W0 F0 T0 pg
 refine ad aa 1 rfl ?_
 refine af ?_
 refine ad aa 5 rfl ?_
 refine ag rfl (fun hc1=>?_) (fun hc1=>?_)
 ·
  have hc1':=of_decide_eq_true hc1
  (exfalso;simp_all)
 have hc1':=of_decide_eq_false hc1
 refine aP ?_
 refine ad aa 5 rfl ?_
 refine ax ?_
 refine al aa [0,2,3,4,5] 5 rfl rfl rfl rfl rfl rfl ?_ ?_
 all_goals first|rfl|(simp [ar,aU,bb];done)|(simp [ar,aU,bb];omega)

theorem Bi (x:Nat->Value) (hx:∀ i,(x i).oneCell'=true) (s0 s1:bV) (n0 n1:Int) (w0 w1:List cc) (idn kind az move sum:Int) (l0:w0.length<=60) (l1:w1.length<=60) (m0:s0.kept.length<=40) (m1:s1.kept.length<=40) (v0:List cc) (v1:List cc) (a2:Answer) (hr:eK s0 s1 n0 n1 w0 w1 (⟨idn,kind,0,az,move,sum⟩:aV)=(v0,v1,a2)):cA Try.prog 66 [(.c (.p 0 0 0 0)),(.c (.q (cP (⟨idn,kind,0,az,move,sum⟩:aV)) 0))] [(0,(.box 98 (((((((((bb x).set 5 (cI s0.bW)).set 6 (de s0.kept)).set 7 (cI s1.bW)).set 8 (de s1.kept)).set 9 (cI n0)).set 10 (cI n1)).set 11 (ej w0)).set 12 (ej w1))))] [0] (.v (.g [cI a2.err,cI a2.ba])) [(0,(.box 98 (((((((((bb x).set 5 (cI s0.bW)).set 6 (de s0.kept)).set 7 (cI s1.bW)).set 8 (de s1.kept)).set 9 (cI n0)).set 10 (cI n1)).set 11 (ej v0)).set 12 (ej v1))))]:=by
 refine cA.Dc 83 [(0,(aC (.p 0 0 0 0))),(1,(aC (.q (cP (⟨idn,kind,0,az,move,sum⟩:aV)) 0)))] 1 Try.func66 rfl rfl rfl rfl rfl rfl rfl rfl rfl ?_
 intro W0 F0 T0 pg hF
 have hF0:∀ b,F0 b->(pg 0).g=b:=fun b hb=>by obtain ⟨k,hk,h⟩:=hF b hb;rw [List.mem_singleton.1 hk] at h;exact h
 refine ad aa 1 rfl ?_
 refine af ?_
 refine cp 20 (false) ?_ ?_
 ·
  refine aw ?_
  refine ab aa 4 rfl ?_
  refine ay (aK rfl rfl rfl (show _=some (Value.bool false) from rfl)) rfl ?_
  refine ab aa 7 rfl ?_
  refine ae ?_
  exact aD.bA 12 rfl rfl (by first|(simp [];done)|(simp_all;done)|(exfalso;simp_all;done)|(simp_all;omega)) rfl
 refine ag rfl (fun hno=>by cases hno) (fun _=>?_)
 refine aP ?_
 refine ad aa 6 rfl ?_
 refine aE aa 5 rfl ?_
 refine ay (dj (i:=1) rfl rfl rfl Try.underlying38 ku rfl (by decide)) rfl ?_
 refine ab aa 1 rfl ?_
 refine aM 3 [2,1,0] (bP 2 (mA w1 (by first|omega|(simp;done)|(simp;omega))) DF rfl rfl ⟨⟨_,rfl,.c (.d _)⟩,trivial⟩ trivial ⟨(fun _ _ _ _=>trivial),trivial⟩ rfl rfl rfl rfl) rfl ?_
 refine ab aa 1 rfl ?_
 refine ae ?_
 refine af ?_
 refine af ?_
 refine bc [0,1,4,5,6] [2,1,0] mixed rfl rfl ?_
 refine aA (kn:=[]) aa 8 rfl trivial ?_
 refine aT (n':=3) [42,39] [0] rfl rfl (.inl ⟨(ah.plain rfl),aJ.cast (dj (i:=0) rfl rfl rfl Try.underlying35 lV rfl (by decide)) rfl⟩) rfl ?_
 refine aA (kn:=[]) aa 2 rfl trivial ?_
 refine aT (n':=3) [45] [] rfl rfl (.inl ⟨(ah.plain rfl),aJ.cast (cY rfl rfl rfl rfl rfl Try.underlying32) rfl⟩) rfl ?_
 refine aA (kn:=[]) aa 1 rfl trivial ?_
 refine bC [2,1,0] rfl rfl rfl rfl (by kernel_rfl) ?_
 refine ae ?_
 refine aW ?_
 refine cw (β:=Nat×List cc) (fun (p:Nat×List cc)=>match p with|(q,m)=>⟨[(0,(aC (.p 0 0 0 0))),(1,(aC (.q (cP (⟨idn,kind,0,az,move,sum⟩:aV)) 0))),(4,(aC (.p 1 0 0 0))),(5,(aI 1)),(6,(aC (.s 2 0 5 m.length))),(45,(aC (de s0.kept))),(46,(aI (↑s0.kept.length:Int))),(47,(aI (↑q:Int)))],[(2,(Ef m)),(1,(.box 65 [(cI 0),(cI 0)])),(0,(.box 98 (((((((((bb x).set 5 (cI s0.bW)).set 6 (de s0.kept)).set 7 (cI s1.bW)).set 8 (de s1.kept)).set 9 (cI n0)).set 10 (cI n1)).set 11 (ej w0)).set 12 (ej w1))))],3⟩) (fun (p:Nat×List cc)=>match p with|(q,m)=>q<=s0.kept.length/\m=w1++(s0.kept.take q).map (fun t=>(⟨t,-1⟩:cc))) (fun (p:Nat×List cc)=>match p with|(q,m)=>s0.kept.length - q) (0,w1) ?_ ?_ ?_
 ·exact ⟨by omega,by simp⟩
 ·exact aD.bY id (by refine ⟨?_,?_,?_,?_,?_,?_,?_,?_,trivial⟩<;>first|rfl|(simp only [bo];done)|(congr 3;omega)|(congr 4;omega)|(simp only [bp];rfl)) (by refine ⟨?_,?_,?_,trivial⟩<;>first|rfl|(simp only [bo];done)|(congr 3;omega)|(congr 4;omega)|(simp only [bp];rfl)) rfl
 rintro ⟨q,m⟩ ⟨hi0_0,hi0_1⟩
 have hml:m.length=w1.length+q:=by rw [hi0_1];simp;omega
 refine ad aa 1 rfl ?_
 refine af ?_
 refine ag rfl (fun hc2=>?_) (fun hc2=>?_)
 ·
  have hc2':=of_decide_eq_true hc2
  refine aP ?_
  refine af ?_
  refine aW ?_
  refine eN ?_
  obtain ⟨x1,hx1⟩:=cq (xs:=s0.kept) (i:=q) (by first|omega|(simp;done)|(simp;omega))
  refine ay (cS (i:=q) rfl rfl rfl Try.underlying32 lT (by first|omega|(simp;done)|(simp;omega)) (bu hx1)) rfl ?_
  refine ab aa 3 rfl ?_
  refine ae ?_
  refine aw ?_
  refine ab aa 3 rfl ?_
  refine aM 5 [4,3,2,1,0] (dv (ys:=[(0,(.g [(cI x1.number),(cI x1.kind),(cI x1.ba),(cI x1.sum),(cI (-1))]))]) (rows:=([(⟨x1,(-1)⟩:cc)]).map fc) 4 lX rfl (by decide) ⟨⟨rfl,rfl⟩,trivial⟩ rfl rfl rfl rfl) rfl ?_
  refine aM 6 [5,4,3,1,0] (dd (m:=1) (N:=m.length+1) (k2:=5) (ys:=([(⟨x1,(-1)⟩:cc)]).map fc) lX rfl rfl rfl rfl rfl rfl (by first|omega|(simp;done)|(simp;omega)) rfl (.s rfl (by first|omega|(simp;done)|(simp;omega))) (by first|omega|(simp;done)|(simp;omega)) (by first|omega|(simp;done)|(simp;omega)) eP (by decide) (by first|omega|(simp;done)|(simp;omega)) (by first|omega|(simp;done)|(simp;omega))) rfl ?_
  refine ab aa 1 rfl ?_
  refine bX ?_
  refine bn ?_
  refine then_ok ?_
  refine aw ?_
  refine ay (aK rfl rfl rfl (aH (by first|omega|(simp;done)|(simp;omega)))) rfl ?_
  refine ab aa 1 rfl ?_
  refine ae ?_
  refine ⟨(q+1,m++([(⟨x1,(-1)⟩:cc)])),⟨by omega,by rw [List.take_add_one,hx1,List.map_append,<-List.append_assoc,<-hi0_1];rfl⟩,by first|omega|(simp;done)|(simp;omega),aD.bY (fun k=>if k=2 then 5 else k) (by refine ⟨?_,?_,?_,?_,?_,?_,?_,?_,trivial⟩<;>first|rfl|(simp only [bo];done)|(congr 3;omega)|(congr 4;omega)|(simp only [bp];rfl)|(first|exact cC rfl (by omega)|exact gO rfl (by simp only [List.length_append,List.length_cons,List.length_nil];omega))) (by refine ⟨?_,?_,?_,trivial⟩<;>first|rfl|(simp only [bo];done)|(congr 3;omega)|(congr 4;omega)|(simp only [bp];rfl)) rfl⟩
 have hc2':=of_decide_eq_false hc2
 refine cm ?_
 refine aQ ?_
 refine aQ ?_
 refine bO ?_
 refine then_ok ?_
 refine af ?_
 refine bc [0,1,4,5,6,45,46,47] [2,1,0] mixed rfl rfl ?_
 refine aA (kn:=[]) aa 9 rfl trivial ?_
 refine aT (n':=3) [65,62] [0] rfl rfl (.inl ⟨(ah.plain rfl),aJ.cast (dj (i:=0) rfl rfl rfl Try.underlying36 fX rfl (by decide)) rfl⟩) rfl ?_
 refine aA (kn:=[]) aa 2 rfl trivial ?_
 refine aT (n':=4) [68] [] rfl rfl (.inl ⟨(ah.plain rfl),aJ.cast (dv (ys:=[(0,(.g [(cI 0),(cI 0),(cI 0),(cI 0),(cI n0)]))]) (rows:=([(⟨(⟨0,0,0,0⟩:bj),n0⟩:cc)]).map fc) 3 lX rfl (by decide) ⟨⟨rfl,rfl⟩,trivial⟩ rfl rfl rfl rfl) rfl⟩) rfl ?_
 refine aT (n':=5) [57,69] [3,2] rfl rfl (.inl ⟨(ah.plain rfl),aJ.cast (dd (m:=1) (N:=m.length+1) (k2:=4) (ys:=([(⟨(⟨0,0,0,0⟩:bj),n0⟩:cc)]).map fc) lX rfl rfl rfl rfl rfl rfl (by first|omega|(simp;done)|(simp;omega)) rfl (.s rfl (by first|omega|(simp;done)|(simp;omega))) (by first|omega|(simp;done)|(simp;omega)) (by first|omega|(simp;done)|(simp;omega)) eP (by decide) (by first|omega|(simp;done)|(simp;omega)) (by first|omega|(simp;done)|(simp;omega))) rfl⟩) rfl ?_
 refine bC [4,1,0] rfl rfl rfl rfl (by kernel_rfl) ?_
 refine ab aa 1 rfl ?_
 refine ae ?_
 refine af ?_
 refine aE aa 1 rfl ?_
 refine ay (dm rfl rfl rfl rfl rfl Try.underlying37) rfl ?_
 refine ab aa 1 rfl ?_
 refine ae ?_
 refine ag rfl (fun hc3=>?_) (fun hc3=>?_)
 ·
  have hc3':=of_decide_eq_true hc3
  refine ad aa 2 rfl ?_
  refine ax ?_
  refine an ?_
  have hX:eK s0 s1 n0 n1 w0 w1 (⟨idn,kind,0,az,move,sum⟩:aV)=(w0,w1,(⟨5,0⟩:Answer)):=by
    (have ht:s0.kept.take q=s0.kept:=List.take_of_length_le (by omega));rw [ht] at hi0_1;unfold eK;dsimp only;rw [if_pos rfl];unfold jo lD;rw [<-hi0_1];first|rw [if_pos (by simp;omega)]|rw [if_neg (by simp;omega)]
  rw [hX] at hr;clear hX
  simp only [Prod.mk.injEq] at hr;obtain ⟨rfl,rfl,rfl⟩:=hr
  refine al aa [0,1] 1 rfl rfl rfl rfl rfl rfl ?_ ?_
  all_goals first|rfl|(simp [ar,aU,bb];done)|(simp [ar,aU,bb];omega)
 have hc3':=of_decide_eq_false hc3
 refine aP ?_
 refine rD (s':=[(0,(aC (.p 0 0 0 0))),(1,(aC (.q (cP (⟨idn,kind,0,az,move,sum⟩:aV)) 0))),(4,(aC (.p 1 0 0 0))),(5,(aI 1)),(6,(aC (ej (m++([(⟨(⟨0,0,0,0⟩:bj),n0⟩:cc)]))))),(45,(aC (de s0.kept))),(46,(aI (↑s0.kept.length:Int))),(47,(aI (↑q:Int))),(70,(aC (ej (m++([(⟨(⟨0,0,0,0⟩:bj),n0⟩:cc)]))))),(71,(aC (ej (m++([(⟨(⟨0,0,0,0⟩:bj),n0⟩:cc)]))))),(72,(aI (↑(m.length+1):Int))),(73,(aB (decide ((↑(m.length+1):Int) > 60))))]) (h':=[(1,(.box 65 [(cI 0),(cI 0)])),(0,(.box 98 (((((((((bb x).set 5 (cI s0.bW)).set 6 (de s0.kept)).set 7 (cI s1.bW)).set 8 (de s1.kept)).set 9 (cI n0)).set 10 (cI n1)).set 11 (ej w0)).set 12 (ej w1))))]) hF0 4 rfl rfl ⟨⟨_,rfl,.inl ⟨rfl,rfl⟩⟩,⟨_,rfl,.inl ⟨rfl,rfl⟩⟩,⟨_,rfl,.inl ⟨rfl,rfl⟩⟩,⟨_,rfl,.inl ⟨rfl,rfl⟩⟩,⟨_,rfl,.inr ⟨_,_,rfl,rfl,.s rfl (by decide) (by first|omega|(simp;done)|(simp;omega))⟩⟩,⟨_,rfl,.inl ⟨rfl,rfl⟩⟩,⟨_,rfl,.inl ⟨rfl,rfl⟩⟩,⟨_,rfl,.inl ⟨rfl,rfl⟩⟩,⟨_,rfl,.inr ⟨_,_,rfl,rfl,.s rfl (by decide) (by first|omega|(simp;done)|(simp;omega))⟩⟩,⟨_,rfl,.inr ⟨_,_,rfl,rfl,.s rfl (by decide) (by first|omega|(simp;done)|(simp;omega))⟩⟩,⟨_,rfl,.inl ⟨rfl,rfl⟩⟩,⟨_,rfl,.inl ⟨rfl,rfl⟩⟩,trivial⟩ ⟨rfl,rfl,trivial⟩ rfl ?_
 refine aE aa 6 rfl ?_
 refine ay (dj (i:=1) rfl rfl rfl Try.underlying38 ku rfl (by decide)) rfl ?_
 refine ab aa 1 rfl ?_
 refine ae ?_
 refine ad aa 2 rfl ?_
 refine ax ?_
 have hX:eK s0 s1 n0 n1 w0 w1 (⟨idn,kind,0,az,move,sum⟩:aV)=(w0,m++([(⟨(⟨0,0,0,0⟩:bj),n0⟩:cc)]),(⟨0,0⟩:Answer)):=by
   (have ht:s0.kept.take q=s0.kept:=List.take_of_length_le (by omega));rw [ht] at hi0_1;unfold eK;dsimp only;rw [if_pos rfl];unfold jo lD;rw [<-hi0_1];first|rw [if_pos (by simp;omega)]|rw [if_neg (by simp;omega)]
 rw [hX] at hr;clear hX
 simp only [Prod.mk.injEq] at hr;obtain ⟨rfl,rfl,rfl⟩:=hr
 refine al aa [0,1] 1 rfl rfl rfl rfl rfl rfl ?_ ?_
 all_goals first|rfl|(simp [ar,aU,bb];done)|(simp [ar,aU,bb];omega)
theorem Bh (x:Nat->Value) (hx:∀ i,(x i).oneCell'=true) (s0 s1:bV) (n0 n1:Int) (w0 w1:List cc) (idn kind az move sum:Int) (l0:w0.length<=60) (l1:w1.length<=60) (m0:s0.kept.length<=40) (m1:s1.kept.length<=40) (v0:List cc) (v1:List cc) (a2:Answer) (hr:eK s0 s1 n0 n1 w0 w1 (⟨idn,kind,1,az,move,sum⟩:aV)=(v0,v1,a2)):cA Try.prog 66 [(.c (.p 0 0 0 0)),(.c (.q (cP (⟨idn,kind,1,az,move,sum⟩:aV)) 0))] [(0,(.box 98 (((((((((bb x).set 5 (cI s0.bW)).set 6 (de s0.kept)).set 7 (cI s1.bW)).set 8 (de s1.kept)).set 9 (cI n0)).set 10 (cI n1)).set 11 (ej w0)).set 12 (ej w1))))] [0] (.v (.g [cI a2.err,cI a2.ba])) [(0,(.box 98 (((((((((bb x).set 5 (cI s0.bW)).set 6 (de s0.kept)).set 7 (cI s1.bW)).set 8 (de s1.kept)).set 9 (cI n0)).set 10 (cI n1)).set 11 (ej v0)).set 12 (ej v1))))]:=by
 refine cA.Dc 83 [(0,(aC (.p 0 0 0 0))),(1,(aC (.q (cP (⟨idn,kind,1,az,move,sum⟩:aV)) 0)))] 1 Try.func66 rfl rfl rfl rfl rfl rfl rfl rfl rfl ?_
 intro W0 F0 T0 pg hF
 have hF0:∀ b,F0 b->(pg 0).g=b:=fun b hb=>by obtain ⟨k,hk,h⟩:=hF b hb;rw [List.mem_singleton.1 hk] at h;exact h
 refine ad aa 1 rfl ?_
 refine af ?_
 refine cp 20 (false) ?_ ?_
 ·
  refine aw ?_
  refine ab aa 4 rfl ?_
  refine ay (aK rfl rfl rfl (show _=some (Value.bool true) from rfl)) rfl ?_
  refine ab aa 5 rfl ?_
  refine dD (ah.yes rfl rfl rfl) (aK rfl rfl rfl (show _=some (Value.bool false) from rfl)) rfl rfl ?_
  refine ab aa 1 rfl ?_
  refine ae ?_
  exact aD.bA 12 rfl rfl (by first|(simp [];done)|(simp_all;done)|(exfalso;simp_all;done)|(simp_all;omega)) rfl
 refine ag rfl (fun hno=>by cases hno) (fun _=>?_)
 refine aP ?_
 refine ad aa 6 rfl ?_
 refine aE aa 5 rfl ?_
 refine ay (dj (i:=0) rfl rfl rfl Try.underlying38 ku rfl (by decide)) rfl ?_
 refine ab aa 1 rfl ?_
 refine aM 3 [2,1,0] (bP 2 (mA w0 (by first|omega|(simp;done)|(simp;omega))) DF rfl rfl ⟨⟨_,rfl,.c (.d _)⟩,trivial⟩ trivial ⟨(fun _ _ _ _=>trivial),trivial⟩ rfl rfl rfl rfl) rfl ?_
 refine ab aa 1 rfl ?_
 refine ae ?_
 refine af ?_
 refine af ?_
 refine bc [0,1,4,5,6] [2,1,0] mixed rfl rfl ?_
 refine aA (kn:=[]) aa 8 rfl trivial ?_
 refine aT (n':=3) [42,39] [0] rfl rfl (.inl ⟨(ah.plain rfl),aJ.cast (dj (i:=1) rfl rfl rfl Try.underlying35 lV rfl (by decide)) rfl⟩) rfl ?_
 refine aA (kn:=[]) aa 2 rfl trivial ?_
 refine aT (n':=3) [45] [] rfl rfl (.inl ⟨(ah.plain rfl),aJ.cast (cY rfl rfl rfl rfl rfl Try.underlying32) rfl⟩) rfl ?_
 refine aA (kn:=[]) aa 1 rfl trivial ?_
 refine bC [2,1,0] rfl rfl rfl rfl (by kernel_rfl) ?_
 refine ae ?_
 refine aW ?_
 refine cw (β:=Nat×List cc) (fun (p:Nat×List cc)=>match p with|(q,m)=>⟨[(0,(aC (.p 0 0 0 0))),(1,(aC (.q (cP (⟨idn,kind,1,az,move,sum⟩:aV)) 0))),(4,(aC (.p 1 0 0 0))),(5,(aI 0)),(6,(aC (.s 2 0 5 m.length))),(45,(aC (de s1.kept))),(46,(aI (↑s1.kept.length:Int))),(47,(aI (↑q:Int)))],[(2,(Ef m)),(1,(.box 65 [(cI 0),(cI 0)])),(0,(.box 98 (((((((((bb x).set 5 (cI s0.bW)).set 6 (de s0.kept)).set 7 (cI s1.bW)).set 8 (de s1.kept)).set 9 (cI n0)).set 10 (cI n1)).set 11 (ej w0)).set 12 (ej w1))))],3⟩) (fun (p:Nat×List cc)=>match p with|(q,m)=>q<=s1.kept.length/\m=w0++(s1.kept.take q).map (fun t=>(⟨t,-1⟩:cc))) (fun (p:Nat×List cc)=>match p with|(q,m)=>s1.kept.length - q) (0,w0) ?_ ?_ ?_
 ·exact ⟨by omega,by simp⟩
 ·exact aD.bY id (by refine ⟨?_,?_,?_,?_,?_,?_,?_,?_,trivial⟩<;>first|rfl|(simp only [bo];done)|(congr 3;omega)|(congr 4;omega)|(simp only [bp];rfl)) (by refine ⟨?_,?_,?_,trivial⟩<;>first|rfl|(simp only [bo];done)|(congr 3;omega)|(congr 4;omega)|(simp only [bp];rfl)) rfl
 rintro ⟨q,m⟩ ⟨hi0_0,hi0_1⟩
 have hml:m.length=w0.length+q:=by rw [hi0_1];simp;omega
 refine ad aa 1 rfl ?_
 refine af ?_
 refine ag rfl (fun hc2=>?_) (fun hc2=>?_)
 ·
  have hc2':=of_decide_eq_true hc2
  refine aP ?_
  refine af ?_
  refine aW ?_
  refine eN ?_
  obtain ⟨x1,hx1⟩:=cq (xs:=s1.kept) (i:=q) (by first|omega|(simp;done)|(simp;omega))
  refine ay (cS (i:=q) rfl rfl rfl Try.underlying32 lT (by first|omega|(simp;done)|(simp;omega)) (bu hx1)) rfl ?_
  refine ab aa 3 rfl ?_
  refine ae ?_
  refine aw ?_
  refine ab aa 3 rfl ?_
  refine aM 5 [4,3,2,1,0] (dv (ys:=[(0,(.g [(cI x1.number),(cI x1.kind),(cI x1.ba),(cI x1.sum),(cI (-1))]))]) (rows:=([(⟨x1,(-1)⟩:cc)]).map fc) 4 lX rfl (by decide) ⟨⟨rfl,rfl⟩,trivial⟩ rfl rfl rfl rfl) rfl ?_
  refine aM 6 [5,4,3,1,0] (dd (m:=1) (N:=m.length+1) (k2:=5) (ys:=([(⟨x1,(-1)⟩:cc)]).map fc) lX rfl rfl rfl rfl rfl rfl (by first|omega|(simp;done)|(simp;omega)) rfl (.s rfl (by first|omega|(simp;done)|(simp;omega))) (by first|omega|(simp;done)|(simp;omega)) (by first|omega|(simp;done)|(simp;omega)) eP (by decide) (by first|omega|(simp;done)|(simp;omega)) (by first|omega|(simp;done)|(simp;omega))) rfl ?_
  refine ab aa 1 rfl ?_
  refine bX ?_
  refine bn ?_
  refine then_ok ?_
  refine aw ?_
  refine ay (aK rfl rfl rfl (aH (by first|omega|(simp;done)|(simp;omega)))) rfl ?_
  refine ab aa 1 rfl ?_
  refine ae ?_
  refine ⟨(q+1,m++([(⟨x1,(-1)⟩:cc)])),⟨by omega,by rw [List.take_add_one,hx1,List.map_append,<-List.append_assoc,<-hi0_1];rfl⟩,by first|omega|(simp;done)|(simp;omega),aD.bY (fun k=>if k=2 then 5 else k) (by refine ⟨?_,?_,?_,?_,?_,?_,?_,?_,trivial⟩<;>first|rfl|(simp only [bo];done)|(congr 3;omega)|(congr 4;omega)|(simp only [bp];rfl)|(first|exact cC rfl (by omega)|exact gO rfl (by simp only [List.length_append,List.length_cons,List.length_nil];omega))) (by refine ⟨?_,?_,?_,trivial⟩<;>first|rfl|(simp only [bo];done)|(congr 3;omega)|(congr 4;omega)|(simp only [bp];rfl)) rfl⟩
 have hc2':=of_decide_eq_false hc2
 refine cm ?_
 refine aQ ?_
 refine aQ ?_
 refine bO ?_
 refine then_ok ?_
 refine af ?_
 refine bc [0,1,4,5,6,45,46,47] [2,1,0] mixed rfl rfl ?_
 refine aA (kn:=[]) aa 9 rfl trivial ?_
 refine aT (n':=3) [65,62] [0] rfl rfl (.inl ⟨(ah.plain rfl),aJ.cast (dj (i:=1) rfl rfl rfl Try.underlying36 fX rfl (by decide)) rfl⟩) rfl ?_
 refine aA (kn:=[]) aa 2 rfl trivial ?_
 refine aT (n':=4) [68] [] rfl rfl (.inl ⟨(ah.plain rfl),aJ.cast (dv (ys:=[(0,(.g [(cI 0),(cI 0),(cI 0),(cI 0),(cI n1)]))]) (rows:=([(⟨(⟨0,0,0,0⟩:bj),n1⟩:cc)]).map fc) 3 lX rfl (by decide) ⟨⟨rfl,rfl⟩,trivial⟩ rfl rfl rfl rfl) rfl⟩) rfl ?_
 refine aT (n':=5) [57,69] [3,2] rfl rfl (.inl ⟨(ah.plain rfl),aJ.cast (dd (m:=1) (N:=m.length+1) (k2:=4) (ys:=([(⟨(⟨0,0,0,0⟩:bj),n1⟩:cc)]).map fc) lX rfl rfl rfl rfl rfl rfl (by first|omega|(simp;done)|(simp;omega)) rfl (.s rfl (by first|omega|(simp;done)|(simp;omega))) (by first|omega|(simp;done)|(simp;omega)) (by first|omega|(simp;done)|(simp;omega)) eP (by decide) (by first|omega|(simp;done)|(simp;omega)) (by first|omega|(simp;done)|(simp;omega))) rfl⟩) rfl ?_
 refine bC [4,1,0] rfl rfl rfl rfl (by kernel_rfl) ?_
 refine ab aa 1 rfl ?_
 refine ae ?_
 refine af ?_
 refine aE aa 1 rfl ?_
 refine ay (dm rfl rfl rfl rfl rfl Try.underlying37) rfl ?_
 refine ab aa 1 rfl ?_
 refine ae ?_
 refine ag rfl (fun hc3=>?_) (fun hc3=>?_)
 ·
  have hc3':=of_decide_eq_true hc3
  refine ad aa 2 rfl ?_
  refine ax ?_
  refine an ?_
  have hX:eK s0 s1 n0 n1 w0 w1 (⟨idn,kind,1,az,move,sum⟩:aV)=(w0,w1,(⟨5,0⟩:Answer)):=by
    (have ht:s1.kept.take q=s1.kept:=List.take_of_length_le (by omega));rw [ht] at hi0_1;unfold eK;dsimp only;rw [if_neg (by decide),if_pos rfl];unfold jo lD;rw [<-hi0_1];first|rw [if_pos (by simp;omega)]|rw [if_neg (by simp;omega)]
  rw [hX] at hr;clear hX
  simp only [Prod.mk.injEq] at hr;obtain ⟨rfl,rfl,rfl⟩:=hr
  refine al aa [0,1] 1 rfl rfl rfl rfl rfl rfl ?_ ?_
  all_goals first|rfl|(simp [ar,aU,bb];done)|(simp [ar,aU,bb];omega)
 have hc3':=of_decide_eq_false hc3
 refine aP ?_
 refine rD (s':=[(0,(aC (.p 0 0 0 0))),(1,(aC (.q (cP (⟨idn,kind,1,az,move,sum⟩:aV)) 0))),(4,(aC (.p 1 0 0 0))),(5,(aI 0)),(6,(aC (ej (m++([(⟨(⟨0,0,0,0⟩:bj),n1⟩:cc)]))))),(45,(aC (de s1.kept))),(46,(aI (↑s1.kept.length:Int))),(47,(aI (↑q:Int))),(70,(aC (ej (m++([(⟨(⟨0,0,0,0⟩:bj),n1⟩:cc)]))))),(71,(aC (ej (m++([(⟨(⟨0,0,0,0⟩:bj),n1⟩:cc)]))))),(72,(aI (↑(m.length+1):Int))),(73,(aB (decide ((↑(m.length+1):Int) > 60))))]) (h':=[(1,(.box 65 [(cI 0),(cI 0)])),(0,(.box 98 (((((((((bb x).set 5 (cI s0.bW)).set 6 (de s0.kept)).set 7 (cI s1.bW)).set 8 (de s1.kept)).set 9 (cI n0)).set 10 (cI n1)).set 11 (ej w0)).set 12 (ej w1))))]) hF0 4 rfl rfl ⟨⟨_,rfl,.inl ⟨rfl,rfl⟩⟩,⟨_,rfl,.inl ⟨rfl,rfl⟩⟩,⟨_,rfl,.inl ⟨rfl,rfl⟩⟩,⟨_,rfl,.inl ⟨rfl,rfl⟩⟩,⟨_,rfl,.inr ⟨_,_,rfl,rfl,.s rfl (by decide) (by first|omega|(simp;done)|(simp;omega))⟩⟩,⟨_,rfl,.inl ⟨rfl,rfl⟩⟩,⟨_,rfl,.inl ⟨rfl,rfl⟩⟩,⟨_,rfl,.inl ⟨rfl,rfl⟩⟩,⟨_,rfl,.inr ⟨_,_,rfl,rfl,.s rfl (by decide) (by first|omega|(simp;done)|(simp;omega))⟩⟩,⟨_,rfl,.inr ⟨_,_,rfl,rfl,.s rfl (by decide) (by first|omega|(simp;done)|(simp;omega))⟩⟩,⟨_,rfl,.inl ⟨rfl,rfl⟩⟩,⟨_,rfl,.inl ⟨rfl,rfl⟩⟩,trivial⟩ ⟨rfl,rfl,trivial⟩ rfl ?_
 refine aE aa 6 rfl ?_
 refine ay (dj (i:=0) rfl rfl rfl Try.underlying38 ku rfl (by decide)) rfl ?_
 refine ab aa 1 rfl ?_
 refine ae ?_
 refine ad aa 2 rfl ?_
 refine ax ?_
 have hX:eK s0 s1 n0 n1 w0 w1 (⟨idn,kind,1,az,move,sum⟩:aV)=(m++([(⟨(⟨0,0,0,0⟩:bj),n1⟩:cc)]),w1,(⟨0,0⟩:Answer)):=by
   (have ht:s1.kept.take q=s1.kept:=List.take_of_length_le (by omega));rw [ht] at hi0_1;unfold eK;dsimp only;rw [if_neg (by decide),if_pos rfl];unfold jo lD;rw [<-hi0_1];first|rw [if_pos (by simp;omega)]|rw [if_neg (by simp;omega)]
 rw [hX] at hr;clear hX
 simp only [Prod.mk.injEq] at hr;obtain ⟨rfl,rfl,rfl⟩:=hr
 refine al aa [0,1] 1 rfl rfl rfl rfl rfl rfl ?_ ?_
 all_goals first|rfl|(simp [ar,aU,bb];done)|(simp [ar,aU,bb];omega)
theorem Bg (x:Nat->Value) (hx:∀ i,(x i).oneCell'=true) (s0 s1:bV) (n0 n1:Int) (w0 w1:List cc) (d:aV) (l0:w0.length<=60) (l1:w1.length<=60) (m0:s0.kept.length<=40) (m1:s1.kept.length<=40) (hn:¬d.n=0/\¬d.n=1) (v0:List cc) (v1:List cc) (a2:Answer) (hr:eK s0 s1 n0 n1 w0 w1 d=(v0,v1,a2)):cA Try.prog 66 [(.c (.p 0 0 0 0)),(.c (.q (cP d) 0))] [(0,(.box 98 (((((((((bb x).set 5 (cI s0.bW)).set 6 (de s0.kept)).set 7 (cI s1.bW)).set 8 (de s1.kept)).set 9 (cI n0)).set 10 (cI n1)).set 11 (ej w0)).set 12 (ej w1))))] [0] (.v (.g [cI a2.err,cI a2.ba])) [(0,(.box 98 (((((((((bb x).set 5 (cI s0.bW)).set 6 (de s0.kept)).set 7 (cI s1.bW)).set 8 (de s1.kept)).set 9 (cI n0)).set 10 (cI n1)).set 11 (ej v0)).set 12 (ej v1))))]:=by
 refine cA.Dc 83 [(0,(aC (.p 0 0 0 0))),(1,(aC (.q (cP d) 0)))] 1 Try.func66 rfl rfl rfl rfl rfl rfl rfl rfl rfl ?_
 intro W0 F0 T0 pg hF
 have hF0:∀ b,F0 b->(pg 0).g=b:=fun b hb=>by obtain ⟨k,hk,h⟩:=hF b hb;rw [List.mem_singleton.1 hk] at h;exact h
 refine ad aa 1 rfl ?_
 refine af ?_
 refine cp 20 ((decide (¬d.n=0)) && (decide (¬d.n=1))) ?_ ?_
 ·
  refine aw ?_
  refine ab aa 6 rfl ?_
  refine bw (t:=14) rfl (fun hb1=>?_) (fun hb1=>?_)
  ·
   have hb1':=of_decide_eq_true hb1
   refine ab aa 6 rfl ?_
   refine ae ?_
   exact aD.bA 13 rfl rfl (by first|(simp [hb1];done)|(simp_all;done)|(exfalso;simp_all;done)|(simp_all;omega)) rfl
  have hb1':=of_decide_eq_false hb1
  refine ab aa 6 rfl ?_
  refine ae ?_
  exact aD.bA 13 rfl rfl (by first|(simp [hb1];done)|(simp_all;done)|(exfalso;simp_all;done)|(simp_all;omega)) rfl
 refine ag rfl (fun hc2=>?_) (fun hc2=>?_)
 ·
  have hc2':=hc2;try simp only [bl,bJ] at hc2'
  refine ad aa 2 rfl ?_
  refine ax ?_
  refine an ?_
  have hX:eK s0 s1 n0 n1 w0 w1 d=(w0,w1,(⟨6,0⟩:Answer)):=by
    unfold eK;rw [if_neg hn.1,if_neg hn.2]
  rw [hX] at hr;clear hX
  simp only [Prod.mk.injEq] at hr;obtain ⟨rfl,rfl,rfl⟩:=hr
  refine al aa [0,1] 1 rfl rfl rfl rfl rfl rfl ?_ ?_
  all_goals first|rfl|(simp [ar,aU,bb];done)|(simp [ar,aU,bb];omega)
 have hc2':=hc2;try simp only [bl,bJ] at hc2'
 (exfalso;simp at *;omega)
theorem DW (x:Nat->Value) (hx:∀ i,(x i).oneCell'=true) (aS:List ak) (days:List (List Int)) (l0:aS.length<=100) (l1:days.length<=1000) (today2:List ak) (days2:List (List Int)) (a2:Answer) (hr:iy aS days=(today2,days2,a2)):cA Try.prog 69 [(.c (.p 0 0 0 0))] [(0,(.box 98 (((bb x).set 16 (.s 1 0 4 aS.length)).set 17 (.s 2 0 1 days.length)))),(1,(cK aS)),(2,(pJ days))] [0] (.v (.g [cI a2.err,cI a2.ba])) [(0,(.box 98 (((bb x).set 16 (.s 1 0 4 today2.length)).set 17 (.s 2 0 1 days2.length)))),(1,(cK today2)),(2,(pJ days2))]:=by
 refine cA.mk 37 [(0,(aC (.p 0 0 0 0)))] 3 Try.func69 rfl rfl rfl rfl rfl rfl rfl rfl rfl ?_
 intro W0 F0 T0 pg
 refine ad aa 1 rfl ?_
 refine aE aa 5 rfl ?_
 obtain ⟨xr0,f0,hr0⟩:∃ (xr0:List Int) (f0:cX),jD aS=(xr0,f0):=⟨_,_,rfl⟩
 refine Ek (av':=(.t [(.c (CH xr0)),(.g [(cI f0.err),(cI f0.at_)])])) (ah.plain rfl) (fH 4 [1] (vT aS (by first|omega|(simp;done)|(simp;omega)) xr0 f0 hr0) FG rfl rfl ⟨⟨_,rfl,.c (.s rfl (by decide) (by first|omega|(simp;done)|(simp;omega)))⟩,trivial⟩ ⟨trivial,⟨rfl,rfl,trivial⟩,trivial⟩ ⟨(Ci _),trivial⟩ rfl rfl rfl rfl) ⟨.inr ⟨_,_,_,_,_,rfl,rfl,rfl,by simp⟩,⟨.inl ⟨_,rfl,rfl⟩,.inl ⟨_,rfl,rfl⟩,trivial⟩,trivial⟩ rfl rfl rfl ?_
 refine ab aa 6 rfl ?_
 refine ae ?_
 refine af ?_
 refine ad aa 3 rfl ?_
 refine ag rfl (fun hc1=>?_) (fun hc1=>?_)
 ·
  have hc1':=of_decide_eq_true hc1
  refine ad aa 4 rfl ?_
  refine ax ?_
  refine an ?_
  have hX:iy aS days=(aS,days,(⟨f0.err,0⟩:Answer)):=by
    unfold iy;simp only [hr0];(repeat' split)<;>first|rfl|omega|(simp_all;done)
  rw [hX] at hr;clear hX
  simp only [Prod.mk.injEq] at hr;obtain ⟨rfl,rfl,rfl⟩:=hr
  refine al aa [0,1,2,3] 3 rfl rfl rfl rfl rfl rfl ?_ ?_
  all_goals first|rfl|(simp [ar,aU,bb];done)|(simp [ar,aU,bb];omega)
 have hc1':=of_decide_eq_false hc1
 refine aP ?_
 refine aE aa 7 rfl ?_
 refine aM 6 [5,4,3,0,1,2] (dv (ys:=[(0,(.c (CH xr0)))]) (rows:=([xr0]).map rO) 5 CN rfl (by decide) ⟨⟨rfl,rfl⟩,trivial⟩ rfl rfl rfl rfl) rfl ?_
 refine aM 7 [6,5,4,3,0,1] (dd (m:=1) (N:=days.length+1) (k2:=6) (ys:=([xr0]).map rO) CN rfl rfl rfl rfl rfl rfl (by first|omega|(simp;done)|(simp;omega)) rfl (.s rfl (by first|omega|(simp;done)|(simp;omega))) (by first|omega|(simp;done)|(simp;omega)) (by first|omega|(simp;done)|(simp;omega)) eP (by decide) (by first|omega|(simp;done)|(simp;omega)) (by first|omega|(simp;done)|(simp;omega))) rfl ?_
 refine ab aa 4 rfl ?_
 refine ae ?_
 refine fq (k:=0) (q:=17) (c':=(.s 6 0 1 ((days++([xr0])).length))) rfl rfl (by first|rfl|(simp;done)|(congr 1;omega)) rfl ?_
 refine ad aa 5 rfl ?_
 refine ad aa 2 rfl ?_
 refine ax ?_
 refine cb 0 16 83 4 rfl rfl rfl ?_
 have hX:iy aS days=(([]:List ak),days++([xr0]),(⟨0,0⟩:Answer)):=by
   unfold iy;simp only [hr0];(repeat' split)<;>first|rfl|omega|(simp_all;done)
 rw [hX] at hr;clear hX
 simp only [Prod.mk.injEq] at hr;obtain ⟨rfl,rfl,rfl⟩:=hr
 refine al aa [0,7,6,3] 3 rfl rfl rfl rfl rfl rfl ?_ ?_
 all_goals first|rfl|(simp [ar,aU,bb];done)|(simp [ar,aU,bb];omega)
end Go.Proofs.Ytegepioggeggaaa.Dev
