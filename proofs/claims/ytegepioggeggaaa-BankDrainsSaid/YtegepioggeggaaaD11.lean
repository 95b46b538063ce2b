/- A part of the proof: Sort7, Day1, Day4, Day5, Bank1, Bank2, Bank3, Clones, Bank4, Bank7. No condition. -/
import Derived.Test.YtegepioggeggaaaD10
set_option linter.unusedVariables false
set_option linter.unusedSimpArgs false
set_option maxHeartbeats 4000000
set_option maxRecDepth 100000
namespace Go.Proofs.Ytegepioggeggaaa.Dev
open Go.RowKit

theorem xu (d:List au) (a b:Int) (fn:FuncId) (bh:List (List D)) (hp:∀ x y:au,Fn Try.prog fn ([.g [cI x.az,cI x.ba,cI x.kind,cI x.sum],.g [cI y.az,cI y.ba,cI y.kind,cI y.sum]]++bh.map fun r=>GV.c (.q r 0)) (aI (iB x y)) []) (hen:bp Try.prog fn) (h1:b<=a+1) (h2:0<=a/\a<=9223372036854775806):Fn Try.prog 72 [(.c (iw d)),(.c (cI a)),(.c (cI b)),(.c (.d (.f fn bh)))] (.t []) []:=by
 refine Fn.mk' 53 [(0,(aC (iw d))),(1,(aI a)),(2,(aI b)),(3,(aC (.d (.f fn bh))))] Try.func72 rfl rfl rfl rfl ?_
 intro W0 T0
 refine dU 0 rfl (fun hlen0=>?_)
 refine aH aa 1 rfl ?_
 refine aE (aN rfl rfl rfl (aK (by first|omega|(simp;done)|(simp;omega)))) rfl ?_
 refine ad aa 1 rfl ?_
 refine af ?_
 refine aY ?_
 refine cz (β:=Nat) (fun (z:Nat)=>⟨[(0,(aC (iw d))),(1,(aI a)),(2,(aI b)),(3,(aC (.d (.f fn bh)))),(8,(aI (a+1)))],[],0⟩) (fun (z:Nat)=>True) (fun (z:Nat)=>0) 0 ?_ ?_ ?_
 ·trivial
 ·exact aJ.cc id (by refine ⟨?_,?_,?_,?_,?_,trivial⟩<;>first|rfl|(simp only [bn];done)|(congr 3;omega)|(congr 4;omega)|(simp only [bo];rfl)) (trivial) rfl
 rintro z _
 refine ah ?_
 refine ae aa 3 rfl ?_
 refine an rfl (fun hc1=>?_) (fun hc1=>?_)
 ·
  have hc1':=of_decide_eq_true hc1
  exfalso;omega
 have hc1':=of_decide_eq_false hc1
 refine cp ?_
 refine aR ?_
 refine aR ?_
 refine bM ?_
 refine cP aa [] 0 rfl rfl rfl rfl rfl rfl ?_ ?_
 all_goals first|rfl|(simp [aD];done)|(simp [aD];omega)
theorem CM (d:List au) (n:Int) (fn:FuncId) (bh:List (List D)) (hp:∀ x y:au,Fn Try.prog fn ([.g [cI x.az,cI x.ba,cI x.kind,cI x.sum],.g [cI y.az,cI y.ba,cI y.kind,cI y.sum]]++bh.map fun r=>GV.c (.q r 0)) (aI (iB x y)) []) (hen:bp Try.prog fn) (h:n=0):Fn Try.prog 61 [(.c (iw d)),(.c (cI n)),(.c (.d (.f fn bh)))] (.t []) []:=by
 refine Fn.mk' 63 [(0,(aC (iw d))),(1,(aI n)),(2,(aC (.d (.f fn bh))))] Try.func61 rfl rfl rfl rfl ?_
 intro W0 T0
 refine dU 0 rfl (fun hlen0=>?_)
 refine ae aa 1 rfl ?_
 refine ae aa 3 rfl ?_
 refine ah ?_
 refine aY ?_
 refine cz (β:=Nat) (fun (z:Nat)=>⟨[(0,(aC (iw d))),(1,(aI n)),(2,(aC (.d (.f fn bh)))),(6,(aI 20)),(7,(aI 0)),(8,(aI 20))],[],0⟩) (fun (z:Nat)=>True) (fun (z:Nat)=>0) 0 ?_ ?_ ?_
 ·trivial
 ·exact aJ.cc id (by refine ⟨?_,?_,?_,?_,?_,?_,trivial⟩<;>first|rfl|(simp only [bn];done)|(congr 3;omega)|(congr 4;omega)|(simp only [bo];rfl)) (trivial) rfl
 rintro z _
 refine ah ?_
 refine ae aa 3 rfl ?_
 refine an rfl (fun hc1=>?_) (fun hc1=>?_)
 ·
  have hc1':=of_decide_eq_true hc1
  exfalso;omega
 have hc1':=of_decide_eq_false hc1
 refine cp ?_
 refine aR ?_
 refine aR ?_
 refine bM ?_
 refine then_ok ?_
 refine aH aa 4 rfl ?_
 refine aP 0 [] (ch 0 (xu d 0 n fn bh hp hen (by first|omega|(simp;done)|(simp;omega)) (by first|omega|(simp;done)|(simp;omega))) Eu rfl rfl ⟨⟨_,rfl,.c (.d _)⟩,⟨_,rfl,.c (.d _)⟩,⟨_,rfl,.c (.d _)⟩,⟨_,rfl,.c (.d _)⟩,trivial⟩ trivial trivial rfl rfl rfl rfl) rfl ?_
 refine af ?_
 refine aY ?_
 refine cz (β:=Nat) (fun (z:Nat)=>⟨[(0,(aC (iw d))),(1,(aI n)),(2,(aC (.d (.f fn bh)))),(6,(aI 20))],[],0⟩) (fun (z:Nat)=>True) (fun (z:Nat)=>0) 0 ?_ ?_ ?_
 ·trivial
 ·exact aJ.cc id (by refine ⟨?_,?_,?_,?_,trivial⟩<;>first|rfl|(simp only [bn];done)|(congr 3;omega)|(congr 4;omega)|(simp only [bo];rfl)) (trivial) rfl
 rintro z _
 refine ah ?_
 refine ae aa 3 rfl ?_
 refine an rfl (fun hc2=>?_) (fun hc2=>?_)
 ·
  have hc2':=of_decide_eq_true hc2
  exfalso;omega
 have hc2':=of_decide_eq_false hc2
 refine cp ?_
 refine aR ?_
 refine aR ?_
 refine bM ?_
 refine cP aa [] 0 rfl rfl rfl rfl rfl rfl ?_ ?_
 all_goals first|rfl|(simp [aD];done)|(simp [aD];omega)
theorem vJ (d:List au) (fn:FuncId) (bh:List (List D)) (hp:∀ x y:au,Fn Try.prog fn ([.g [cI x.az,cI x.ba,cI x.kind,cI x.sum],.g [cI y.az,cI y.ba,cI y.kind,cI y.sum]]++bh.map fun r=>GV.c (.q r 0)) (aI (iB x y)) []) (hen:bp Try.prog fn) (h:d.length=0):Fn Try.prog 55 [(.c (iw d)),(.c (.d (.f fn bh)))] (.t []) []:=by
 refine Fn.mk' 9 [(0,(aC (iw d))),(1,(aC (.d (.f fn bh))))] Try.func55 rfl rfl rfl rfl ?_
 intro W0 T0
 refine dU 0 rfl (fun hlen0=>?_)
 refine ay ?_
 refine ad aa 2 rfl ?_
 refine aE (cJ rfl rfl rfl rfl rfl Try.underlying42) rfl ?_
 refine ad aa 1 rfl ?_
 refine aP 0 [] (ch 0 (CM d (↑d.length:Int) fn bh hp hen (by first|omega|(simp;done)|(simp;omega))) Hy rfl rfl ⟨⟨_,rfl,.c (.d _)⟩,⟨_,rfl,.c (.d _)⟩,⟨_,rfl,.c (.d _)⟩,trivial⟩ trivial trivial rfl rfl rfl rfl) rfl ?_
 refine cf ?_
 refine cP aa [] 0 rfl rfl rfl rfl rfl rfl ?_ ?_
 all_goals first|rfl|(simp [aD];done)|(simp [aD];omega)
theorem xB (d:List au) (N:Nat) (fn:FuncId) (bh:List (List D)) (hp:∀ x y:au,Fn Try.prog fn ([.g [cI x.az,cI x.ba,cI x.kind,cI x.sum],.g [cI y.az,cI y.ba,cI y.kind,cI y.sum]]++bh.map fun r=>GV.c (.q r 0)) (aI (iB x y)) []) (hen:bp Try.prog fn) (hl:d.length * 32<=140737488355328) (hN:N=d.length) (h0_:0 < d.length) (r:List au) (hr:gY d=r):cL Try.prog 55 [(.c (.s 0 0 4 N)),(.c (.d (.f fn bh)))] [(0,(cU d))] [0] (.t []) [(0,(cU r))]:=by
 refine cL.mk 9 [(0,(aC (.s 0 0 4 N))),(1,(aC (.d (.f fn bh))))] 1 Try.func55 rfl rfl rfl rfl rfl rfl rfl rfl rfl ?_
 intro W0 F0 T0 pg
 refine gU 0 rfl (fun hlen0=>?_)
 refine ay ?_
 refine ad aa 2 rfl ?_
 refine aE (dH rfl rfl rfl rfl rfl Try.underlying42) rfl ?_
 refine ad aa 1 rfl ?_
 obtain ⟨r0,hr0⟩:∃ (r0:List au),gY d=r0:=⟨_,rfl⟩
 refine aP 1 [0] (ej id id (CL (↑N:Int) d N N fn bh hp hen (by first|omega|(simp;done)|(simp;omega)) (by first|omega|(simp;done)|(simp;omega)) (by first|omega|(simp;done)|(simp;omega)) (by first|omega|(simp;done)|(simp;omega)) (by first|omega|(simp;done)|(simp;omega)) r0 hr0) Hy rfl rfl ⟨⟨_,rfl,.inl ⟨rfl,rfl⟩⟩,⟨_,rfl,.inr (.c (.d _))⟩,⟨_,rfl,.inr (.c (.d _))⟩,trivial⟩ ⟨rfl,trivial⟩ rfl rfl ⟨.inr ⟨_,_,_,rfl,by first|(simp;omega)|(simp only [List.length_map];omega)⟩,trivial⟩ rfl rfl rfl trivial ⟨(fun _ _ _ _=>trivial),trivial⟩ rfl rfl rfl rfl) rfl ?_
 refine cf ?_
 have hX:gY d=r0:=by
   exact hr0
 rw [hX] at hr;clear hX
 subst hr
 refine cP aa [0] 1 rfl rfl rfl rfl rfl rfl ?_ ?_
 all_goals first|rfl|(simp [aD];done)|(simp [aD];omega)
theorem EN (l:List au) (hl:l.length * 32<=140737488355328) (r:List au) (hr:gY l=r):Fn Try.prog 37 [(.c (iw l))] (.v (.c (.s 0 0 4 r.length))) [(0,(cU r))]:=by
 refine Fn.mk' 9 [(0,(aC (iw l)))] Try.func37 rfl rfl rfl rfl ?_
 intro W0 T0
 refine dU 0 rfl (fun hlen0=>?_)
 refine ae aa 1 rfl ?_
 refine aH aa 1 rfl ?_
 refine aP 1 [0] (ch 0 (nS l (by first|omega|(simp;done)|(simp;omega))) HA rfl rfl ⟨⟨_,rfl,.c (.d _)⟩,trivial⟩ trivial ⟨(fun _ _ _ _=>trivial),trivial⟩ rfl rfl rfl rfl) rfl ?_
 refine ad aa 1 rfl ?_
 refine af ?_
 rcases (show l.length=0\/0 < l.length from by omega) with hs1|hs1
 ·
  refine aH aa 1 rfl ?_
  refine aP 1 [0] (gF 1 [0] (vJ l 53 ([]) (fun x y=>zl x y) HB (by first|omega|(simp;done)|(simp;omega))) Hz rfl rfl ⟨⟨_,rfl,.c (.s rfl (by decide) (by first|omega|(simp;done)|(simp;omega)))⟩,⟨_,rfl,.c (.fn trivial)⟩,trivial⟩ trivial trivial rfl rfl rfl rfl) rfl ?_
  refine af ?_
  refine ae aa 2 rfl ?_
  refine aA ?_
  have hX:gY l=l:=by
    exact Bw (by assumption)
  rw [hX] at hr;clear hX
  subst hr
  refine aw aa [0] 1 rfl rfl rfl rfl rfl rfl ?_ ?_
  all_goals first|rfl|(simp [aD];done)|(simp [aD];omega)
 refine aH aa 1 rfl ?_
 obtain ⟨r0,hr0⟩:∃ (r0:List au),gY l=r0:=⟨_,rfl⟩
 have hlr0:r0.length=l.length:=by rw [<-hr0];exact uH _
 refine aP 1 [0] (ej id id (xB l l.length 53 ([]) (fun x y=>zl x y) HB (by first|omega|(simp;done)|(simp;omega)) (by first|omega|(simp;done)|(simp;omega)) (by first|omega|(simp;done)|(simp;omega)) r0 hr0) Hz rfl rfl ⟨⟨_,rfl,.inl ⟨rfl,rfl⟩⟩,⟨_,rfl,.inr (.c (.fn trivial))⟩,trivial⟩ ⟨rfl,trivial⟩ rfl rfl ⟨.inr ⟨_,_,_,rfl,by first|(simp;omega)|(simp only [List.length_map];omega)⟩,trivial⟩ rfl rfl rfl trivial ⟨(fun _ _ _ _=>trivial),trivial⟩ rfl rfl rfl rfl) rfl ?_
 refine af ?_
 refine ae aa 2 rfl ?_
 refine aA ?_
 have hX:gY l=r0:=by
   exact hr0
 rw [hX] at hr;clear hX
 subst hr
 refine aw aa [0] 1 rfl rfl rfl rfl rfl rfl ?_ ?_
 all_goals first|rfl|(simp [aD];done)|(simp [aD];omega)

theorem yl (l:List au) (f:cV) (hr:gV l=f):Fn Try.prog 31 [(.c (iw l))] (.v (.g [(cI f.err),(cI f.at_)])) []:=by
 refine Fn.mk' 58 [(0,(aC (iw l)))] Try.func31 rfl rfl rfl rfl ?_
 intro W0 T0
 refine dU 0 rfl (fun hlen0=>?_)
 refine ae aa 1 rfl ?_
 refine ah ?_
 refine aH aa 1 rfl ?_
 refine aE (cJ rfl rfl rfl rfl rfl Try.underlying42) rfl ?_
 refine ad aa 1 rfl ?_
 refine af ?_
 refine an rfl (fun hc1=>?_) (fun hc1=>?_)
 ·
  have hc1':=of_decide_eq_true hc1
  refine ae aa 2 rfl ?_
  refine aA ?_
  refine ax ?_
  have hX:gV l=(⟨5,0⟩:cV):=by
    unfold gV;rw [if_pos (by omega)]
  rw [hX] at hr;clear hX
  subst hr
  refine aw aa [0] 0 rfl rfl rfl rfl rfl rfl ?_ ?_
  all_goals first|rfl|(simp [aD];done)|(simp [aD];omega)
 have hc1':=of_decide_eq_false hc1
 refine aU ?_
 refine ah ?_
 refine aH aa 1 rfl ?_
 refine aE (cJ rfl rfl rfl rfl rfl Try.underlying42) rfl ?_
 refine ad aa 1 rfl ?_
 refine af ?_
 refine aY ?_
 refine cz (β:=Nat) (fun (q:Nat)=>⟨[(2,(aC (.p 0 0 0 0))),(9,(aC (iw l))),(10,(aI (↑l.length:Int))),(11,(aI (↑q:Int)))],[(0,(.box 50 [(cI 0),(cI 0)]))],1⟩) (fun (q:Nat)=>q<=l.length/\nw l 0=nw (l.drop q) q) (fun (q:Nat)=>l.length - q) 0 ?_ ?_ ?_
 ·exact ⟨by omega,rfl⟩
 ·exact aJ.cc id (by refine ⟨?_,?_,?_,?_,trivial⟩<;>first|rfl|(simp only [bn];done)|(congr 3;omega)|(congr 4;omega)|(simp only [bo];rfl)) (⟨by first|rfl|(simp only [bn];done)|(congr 3;omega)|(congr 4;omega)|(simp only [bo];rfl),trivial⟩) rfl
 rintro q ⟨hi0_0,hi0_1⟩
 refine ae aa 1 rfl ?_
 refine ah ?_
 refine an rfl (fun hc2=>?_) (fun hc2=>?_)
 ·
  have hc2':=of_decide_eq_true hc2
  refine aU ?_
  refine ah ?_
  refine aY ?_
  refine aH aa 1 rfl ?_
  obtain ⟨x1,hx1⟩:=cr (xs:=l) (i:=q) (by first|omega|(simp;done)|(simp;omega))
  refine aE (db (i:=q) rfl rfl rfl Try.underlying42 dK (by first|omega|(simp;done)|(simp;omega)) (bz hx1)) rfl ?_
  refine ad aa 4 rfl ?_
  refine af ?_
  refine ah ?_
  refine cA 23 ((decide (x1.kind < 1))||(decide (x1.kind > 8))) ?_ ?_
  ·
   refine ay ?_
   refine ad aa 4 rfl ?_
   refine bH (t:=19) rfl (fun hb3=>?_) (fun hb3=>?_)
   ·
    have hb3':=of_decide_eq_true hb3
    refine ad aa 4 rfl ?_
    refine af ?_
    exact aJ.bK 9 rfl rfl (by first|(simp [hb3];done)|(simp_all;done)|(exfalso;simp_all;done)|(simp_all;omega)) rfl
   have hb3':=of_decide_eq_false hb3
   refine ad aa 4 rfl ?_
   refine af ?_
   exact aJ.bK 9 rfl rfl (by first|(simp [hb3];done)|(simp_all;done)|(exfalso;simp_all;done)|(simp_all;omega)) rfl
  refine an rfl (fun hc4=>?_) (fun hc4=>?_)
  ·
   have hc4':=hc4;try simp only [bA,bW] at hc4'
   refine ae aa 3 rfl ?_
   refine aA ?_
   refine ax ?_
   refine bm ?_
   refine ax ?_
   refine ax ?_
   refine bm ?_
   refine ax ?_
   have hX:gV l=(⟨1,(↑q:Int)⟩:cV):=by
     unfold gV;rw [if_neg (by omega),hi0_1,pI hx1,if_pos (by unfold nA;omega)]
   rw [hX] at hr;clear hX
   subst hr
   refine aw aa [0] 0 rfl rfl rfl rfl rfl rfl ?_ ?_
   all_goals first|rfl|(simp [aD];done)|(simp [aD];omega)
  have hc4':=hc4;try simp only [bA,bW] at hc4'
  refine aU ?_
  refine cA 53 ((((((decide (x1.az < 0))||(decide (x1.az>=8)))||(decide (x1.ba < 0)))||(decide (x1.ba>=30)))||(decide (x1.sum < 1)))||(decide (x1.sum > 1000000))) ?_ ?_
  ·
   refine ay ?_
   refine ad aa 4 rfl ?_
   refine bH (t:=29) rfl (fun hb5=>?_) (fun hb5=>?_)
   ·
    have hb5':=of_decide_eq_true hb5
    refine ad aa 24 rfl ?_
    refine af ?_
    exact aJ.bK 29 rfl rfl (by first|(simp [hb5];done)|(simp_all;done)|(exfalso;simp_all;done)|(simp_all;omega)) rfl
   have hb5':=of_decide_eq_false hb5
   refine ad aa 5 rfl ?_
   refine bH (t:=34) rfl (fun hb6=>?_) (fun hb6=>?_)
   ·
    have hb6':=of_decide_eq_true hb6
    refine ad aa 19 rfl ?_
    refine af ?_
    exact aJ.bK 30 rfl rfl (by first|(simp [hb5,hb6];done)|(simp_all;done)|(exfalso;simp_all;done)|(simp_all;omega)) rfl
   have hb6':=of_decide_eq_false hb6
   refine ad aa 5 rfl ?_
   refine bH (t:=39) rfl (fun hb7=>?_) (fun hb7=>?_)
   ·
    have hb7':=of_decide_eq_true hb7
    refine ad aa 14 rfl ?_
    refine af ?_
    exact aJ.bK 31 rfl rfl (by first|(simp [hb5,hb6,hb7];done)|(simp_all;done)|(exfalso;simp_all;done)|(simp_all;omega)) rfl
   have hb7':=of_decide_eq_false hb7
   refine ad aa 5 rfl ?_
   refine bH (t:=44) rfl (fun hb8=>?_) (fun hb8=>?_)
   ·
    have hb8':=of_decide_eq_true hb8
    refine ad aa 9 rfl ?_
    refine af ?_
    exact aJ.bK 32 rfl rfl (by first|(simp [hb5,hb6,hb7,hb8];done)|(simp_all;done)|(exfalso;simp_all;done)|(simp_all;omega)) rfl
   have hb8':=of_decide_eq_false hb8
   refine ad aa 5 rfl ?_
   refine bH (t:=49) rfl (fun hb9=>?_) (fun hb9=>?_)
   ·
    have hb9':=of_decide_eq_true hb9
    refine ad aa 4 rfl ?_
    refine af ?_
    exact aJ.bK 33 rfl rfl (by first|(simp [hb5,hb6,hb7,hb8,hb9];done)|(simp_all;done)|(exfalso;simp_all;done)|(simp_all;omega)) rfl
   have hb9':=of_decide_eq_false hb9
   refine ad aa 4 rfl ?_
   refine af ?_
   exact aJ.bK 33 rfl rfl (by first|(simp [hb5,hb6,hb7,hb8,hb9];done)|(simp_all;done)|(exfalso;simp_all;done)|(simp_all;omega)) rfl
  refine an rfl (fun hc10=>?_) (fun hc10=>?_)
  ·
   have hc10':=hc10;try simp only [bA,bW] at hc10'
   refine ae aa 3 rfl ?_
   refine aA ?_
   refine bm ?_
   refine ax ?_
   refine ax ?_
   refine bm ?_
   refine ax ?_
   have hX:gV l=(⟨3,(↑q:Int)⟩:cV):=by
     unfold gV;rw [if_neg (by omega),hi0_1,pI hx1,if_neg (by unfold nA;omega),if_pos (by unfold oT;omega)]
   rw [hX] at hr;clear hX
   subst hr
   refine aw aa [0] 0 rfl rfl rfl rfl rfl rfl ?_ ?_
   all_goals first|rfl|(simp [aD];done)|(simp [aD];omega)
  have hc10':=hc10;try simp only [bA,bW] at hc10'
  refine dg ?_
  refine bq ?_
  refine then_ok ?_
  refine ay ?_
  refine aE (aN rfl rfl rfl (aK (by first|omega|(simp;done)|(simp;omega)))) rfl ?_
  refine ad aa 1 rfl ?_
  refine af ?_
  refine ⟨q+1,⟨by omega,by rw [hi0_1,pI hx1,if_neg (by unfold nA;omega),if_neg (by unfold oT;omega)]⟩,by first|omega|(simp;done)|(simp;omega),aJ.cc id (by refine ⟨?_,?_,?_,?_,trivial⟩<;>first|rfl|(simp only [bn];done)|(congr 3;omega)|(congr 4;omega)|(simp only [bo];rfl)) (⟨by first|rfl|(simp only [bn];done)|(congr 3;omega)|(congr 4;omega)|(simp only [bo];rfl),trivial⟩) rfl⟩
 have hc2':=of_decide_eq_false hc2
 refine cp ?_
 refine aR ?_
 refine aR ?_
 refine bM ?_
 refine then_ok ?_
 refine ae aa 2 rfl ?_
 refine aA ?_
 have hX:gV l=(⟨0,0⟩:cV):=by
   unfold gV;rw [if_neg (by omega),hi0_1,BG (by omega)]
 rw [hX] at hr;clear hX
 subst hr
 refine aw aa [0] 0 rfl rfl rfl rfl rfl rfl ?_ ?_
 all_goals first|rfl|(simp [aD];done)|(simp [aD];omega)

theorem vu (b:List Int) (N:Nat) (n:Int) (z:Nat) (hN:N=b.length) (hz:z<=8) (hl:b.length+z<=1000000) (r:List Int) (hr:b++nf n z=r):cL Try.prog 109 [(.c (.s 0 0 1 N)),(.c (cI n)),(.c (cI (↑z:Int)))] [(0,(zu b))] [] (.v (.c (.s 0 0 1 r.length))) [(0,(zu r))]:=by
 refine cL.mk 23 [(0,(aC (.s 0 0 1 N))),(1,(aI n)),(2,(aI (↑z:Int)))] 1 Try.func109 rfl rfl rfl rfl rfl rfl rfl rfl rfl ?_
 intro W0 F0 T0 pg
 refine gU 0 rfl (fun hlen0=>?_)
 refine ae aa 1 rfl ?_
 refine ah ?_
 refine aH aa 1 rfl ?_
 refine aE (aN rfl rfl rfl (aK (by first|omega|(simp;done)|(simp;omega)))) rfl ?_
 refine ad aa 1 rfl ?_
 refine af ?_
 refine aY ?_
 refine cz (β:=Nat×List Int) (fun (p:Nat×List Int)=>match p with|(k,m)=>⟨[(0,(aC (.s 0 0 1 m.length))),(1,(aI n)),(6,(aC cN)),(7,(aI ((↑k:Int) - 1)))],[(0,(zu m))],1⟩) (fun (p:Nat×List Int)=>match p with|(k,m)=>k<=z/\m++nf n k=b++nf n z/\m.length+k=b.length+z) (fun (p:Nat×List Int)=>match p with|(k,m)=>k) (z,b) ?_ ?_ ?_
 ·exact ⟨by omega,rfl,rfl⟩
 ·exact aJ.cc id (by refine ⟨?_,?_,?_,?_,trivial⟩<;>first|rfl|(simp only [bn];done)|(congr 3;omega)|(congr 4;omega)|(simp only [bo];rfl)|(first|exact cD rfl (by omega)|exact fy rfl (by omega))) (⟨by first|rfl|(simp only [bn];done)|(congr 3;omega)|(congr 4;omega)|(simp only [bo];rfl),trivial⟩) rfl
 rintro ⟨k,m⟩ ⟨hi0_0,hi0_1,hi0_2⟩
 refine ah ?_
 refine ae aa 2 rfl ?_
 refine an rfl (fun hc1=>?_) (fun hc1=>?_)
 ·
  have hc1':=of_decide_eq_true hc1
  refine aU ?_
  refine ah ?_
  refine aY ?_
  refine ay ?_
  refine ad aa 3 rfl ?_
  refine aE (aN rfl rfl rfl (aK (by first|omega|(simp;done)|(simp;omega)))) rfl ?_
  refine aE (GZ rfl rfl rfl (by first|omega|(simp;done)|(simp;omega)) rfl (Jr (k:=k) (by omega) rfl)) rfl ?_
  refine aE (fQ rfl rfl (by rw [Try.underlying3];rfl) Try.underlying5 nR) rfl ?_
  refine aP 2 [1,0] (ec (ys:=[(0,(.c (.d (.v (.int .u8 ((n / 256 ^ (k - 1)) % 256))))))]) (rows:=([(n / 256 ^ (k - 1)) % 256]).map pb) 1 wi rfl (by decide) ⟨⟨rfl,rfl⟩,trivial⟩ rfl rfl rfl rfl) rfl ?_
  refine aP 3 [2,1] (dA (m:=1) (N:=m.length+1) (k2:=2) (ys:=([(n / 256 ^ (k - 1)) % 256]).map pb) wi rfl rfl rfl rfl rfl rfl (by first|omega|(simp;done)|(simp;omega)) rfl (.s rfl (by first|omega|(simp;done)|(simp;omega))) (by first|omega|(simp;done)|(simp;omega)) (by first|omega|(simp;done)|(simp;omega)) fK (by decide) (by first|omega|(simp;done)|(simp;omega)) (by first|omega|(simp;done)|(simp;omega))) rfl ?_
  refine ad aa 1 rfl ?_
  refine cf ?_
  refine bq ?_
  refine then_ok ?_
  refine ay ?_
  refine ad aa 1 rfl ?_
  refine aE (aN rfl rfl rfl (aK (by first|omega|(simp;done)|(simp;omega)))) rfl ?_
  refine ad aa 1 rfl ?_
  refine af ?_
  refine ⟨(k - 1,m++([(n / 256 ^ (k - 1)) % 256])),⟨by omega,by rw [<-hi0_1,EO (k:=k) (by omega),List.append_assoc];rfl,by simp only [List.length_append,List.length_cons,List.length_nil];omega⟩,by first|omega|(simp;done)|(simp;omega),aJ.cc (fun k=>if k=0 then 2 else k) (by refine ⟨?_,?_,?_,?_,trivial⟩<;>first|rfl|(simp only [bn];done)|(congr 3;omega)|(congr 4;omega)|(simp only [bo];rfl)|(first|exact cD rfl (by omega)|exact fy rfl (by simp only [List.length_append,List.length_cons,List.length_nil];omega))) (⟨by first|rfl|(simp only [bn];done)|(congr 3;omega)|(congr 4;omega)|(simp only [bo];rfl),trivial⟩) rfl⟩
 have hc1':=of_decide_eq_false hc1
 refine cp ?_
 refine aR ?_
 refine aR ?_
 refine bM ?_
 refine then_ok ?_
 refine ae aa 2 rfl ?_
 refine aA ?_
 have hX:b++nf n z=m:=by
   (obtain rfl:k=0:=by omega);rw [<-hi0_1];simp [nf]
 rw [hX] at hr;clear hX
 subst hr
 refine aw aa [0] 1 rfl rfl rfl rfl rfl rfl ?_ ?_
 all_goals first|rfl|(simp [aD];done)|(simp [aD];omega)

theorem ym (l:List au) (hl:l.length * 32<=140737488355328) (x:List Int) (f:cV) (hr:jh l=(x,f)):Fn Try.prog 92 [(.c (iw l))] (.t [(.c (.s 0 0 1 x.length)),(.g [(cI f.err),(cI f.at_)])]) [(0,(zu x))]:=by
 refine Fn.mk' 50 [(0,(aC (iw l)))] Try.func92 rfl rfl rfl rfl ?_
 intro W0 T0
 refine dU 0 rfl (fun hlen0=>?_)
 refine ae aa 2 rfl ?_
 refine ah ?_
 refine aH aa 1 rfl ?_
 obtain ⟨f0,hr0⟩:∃ (f0:cV),gV l=f0:=⟨_,rfl⟩
 refine aP 1 [0] (ch 1 (yl l f0 hr0) Kc rfl rfl ⟨⟨_,rfl,.c (.d _)⟩,trivial⟩ ⟨trivial,trivial,trivial⟩ trivial rfl rfl rfl rfl) rfl ?_
 refine ad aa 2 rfl ?_
 refine af ?_
 refine ae aa 3 rfl ?_
 refine an rfl (fun hc1=>?_) (fun hc1=>?_)
 ·
  have hc1':=of_decide_eq_true hc1
  refine ah ?_
  refine bd [0,3,4] [1,0] mixed rfl rfl ?_
  refine aF (kn:=[]) aa 2 rfl trivial ?_
  refine bF [1,0] rfl rfl rfl rfl (by kernel_rfl) ?_
  refine ad aa 1 rfl ?_
  refine af ?_
  refine aA ?_
  refine ax ?_
  refine dm (aJ.nil 2 5 1 (by decide) rfl) ?_
  have hX:jh l=(([]:List Int),f0):=by
    unfold jh;rw [if_neg (by rw [hr0];omega),hr0]
  rw [hX] at hr;clear hX
  simp only [Prod.mk.injEq] at hr;obtain ⟨rfl,rfl⟩:=hr
  refine aw aa [2,0] 1 rfl rfl rfl rfl rfl rfl ?_ ?_
  all_goals first|rfl|(simp [aD];done)|(simp [aD];omega)
 have hc1':=of_decide_eq_false hc1
 refine aU ?_
 have hw:(gV l).err=0:=by rw [hr0];omega
 have hok:=Bb.1 hw
 refine aH aa 1 rfl ?_
 refine aE (cJ rfl rfl rfl rfl rfl Try.underlying42) rfl ?_
 refine aE (fQ rfl rfl (by rw [Try.underlying3];rfl) Try.underlying5 nR) rfl ?_
 refine aP 3 [2,1,0] (ec (ys:=[(0,(.c (.d (.v (.int .u8 ((↑l.length:Int) % 256))))))]) (rows:=([(↑l.length:Int) % 256]).map pb) 2 wi rfl (by decide) ⟨⟨rfl,rfl⟩,trivial⟩ rfl rfl rfl rfl) rfl ?_
 refine ad aa 1 rfl ?_
 refine af ?_
 refine ae aa 1 rfl ?_
 refine ah ?_
 refine aH aa 1 rfl ?_
 obtain ⟨r1,hr1⟩:∃ (r1:List au),gY l=r1:=⟨_,rfl⟩
 have hlr:r1.length=l.length:=by rw [<-hr1];exact uH _
 have hrok:∀ x∈r1,yO x:=fun x hx=>hok.2 x ((oh l).mem.2 (by rw [hr1];exact hx))
 refine aP 4 [3,2,1,0] (ch 3 (EN l (by first|omega|(simp;done)|(simp;omega)) r1 hr1) JZ rfl rfl ⟨⟨_,rfl,.c (.d _)⟩,trivial⟩ trivial ⟨(fun _ _ _ _=>trivial),trivial⟩ rfl rfl rfl rfl) rfl ?_
 refine aE (dH rfl rfl rfl rfl rfl Try.underlying42) rfl ?_
 refine ad aa 1 rfl ?_
 refine af ?_
 refine aY ?_
 refine cz (β:=Nat×List Int×Int) (fun (p:Nat×List Int×Int)=>match p with|(q,m,all)=>⟨[(2,(aC cN)),(3,(aC (.p 0 0 0 0))),(5,(aC (.s 2 0 1 m.length))),(6,(aI all)),(20,(aC (.s 3 0 4 r1.length))),(21,(aI (↑r1.length:Int))),(22,(aI (↑q:Int)))],[(3,(cU r1)),(2,(zu m)),(0,(.box 50 [(cI 0),(cI 0)]))],4⟩) (fun (p:Nat×List Int×Int)=>match p with|(q,m,all)=>q<=r1.length/\m=mX l (r1.take q)/\all=mu (r1.take q)/\0<=all/\all<=1000000 * (q:Int)) (fun (p:Nat×List Int×Int)=>match p with|(q,m,all)=>r1.length - q) (0,[(↑l.length:Int) % 256],0) ?_ ?_ ?_
 ·exact ⟨by omega,by simp [mX],rfl,by omega⟩
 ·exact aJ.cc id (by refine ⟨?_,?_,?_,?_,?_,?_,?_,trivial⟩<;>first|rfl|(simp only [bn];done)|(congr 3;omega)|(congr 4;omega)|(simp only [bo];rfl)) (by refine ⟨?_,?_,?_,trivial⟩<;>first|rfl|(simp only [bn];done)|(congr 3;omega)|(congr 4;omega)|(simp only [bo];rfl)) rfl
 rintro ⟨q,m,all⟩ ⟨hi0_0,hi0_1,hi0_2,hi0_3⟩
 have hml:m.length=1+6 * q:=by rw [hi0_1,Cp,List.length_take];omega
 refine ae aa 1 rfl ?_
 refine ah ?_
 refine an rfl (fun hc2=>?_) (fun hc2=>?_)
 ·
  have hc2':=of_decide_eq_true hc2
  refine aU ?_
  refine ah ?_
  refine aY ?_
  refine eZ ?_
  refine aE (br (i:=q) rfl rfl rfl Try.underlying42 dK (by first|omega|(simp;done)|(simp;omega)) (by first|omega|(simp;done)|(simp;omega))) rfl ?_
  obtain ⟨x1,hx1⟩:=cr (xs:=r1) (i:=q) (by first|omega|(simp;done)|(simp;omega))
  have hx1b:=Ip (hrok x1 (List.mem_of_getElem? hx1))
  refine aE (dy rfl rfl rfl Try.underlying83 rfl dK (bz hx1) rfl) rfl ?_
  refine ad aa 2 rfl ?_
  refine af ?_
  refine ah ?_
  obtain ⟨r2,hr2⟩:∃ (r2:List Int),(m++([x1.az % 256,x1.ba % 256,x1.kind % 256]))++nf x1.sum 3=r2:=⟨_,rfl⟩
  have hlr2:r2.length=m.length+6:=by rw [<-hr2];simp [qF]
  refine bd [2,3,5,6,20,21,22,8] [4,3,2,0] mixed rfl rfl ?_
  refine aF (kn:=[]) aa 3 rfl trivial ?_
  refine aX (n':=5) [28] [] rfl rfl (.inl ⟨(aq.plain rfl),aM.cast (fQ rfl rfl (by rw [Try.underlying3];rfl) Try.underlying5 nR) rfl⟩) rfl ?_
  refine aF (kn:=[]) aa 2 rfl trivial ?_
  refine aX (n':=5) [31] [] rfl rfl (.inl ⟨(aq.plain rfl),aM.cast (fQ rfl rfl (by rw [Try.underlying3];rfl) Try.underlying5 nR) rfl⟩) rfl ?_
  refine aF (kn:=[]) aa 2 rfl trivial ?_
  refine aX (n':=5) [34] [] rfl rfl (.inl ⟨(aq.plain rfl),aM.cast (fQ rfl rfl (by rw [Try.underlying3];rfl) Try.underlying5 nR) rfl⟩) rfl ?_
  refine aX (n':=6) [29,32,35] [] rfl rfl (.inl ⟨(aq.plain rfl),aM.cast (ec (ys:=[(0,(.c (.d (.v (.int .u8 (x1.az % 256)))))),(1,(.c (.d (.v (.int .u8 (x1.ba % 256)))))),(2,(.c (.d (.v (.int .u8 (x1.kind % 256))))))]) (rows:=([x1.az % 256,x1.ba % 256,x1.kind % 256]).map pb) 5 wi rfl (by decide) ⟨⟨rfl,rfl⟩,⟨rfl,rfl⟩,⟨rfl,rfl⟩,trivial⟩ rfl rfl rfl rfl) rfl⟩) rfl ?_
  refine aX (n':=7) [26,36] [5,2] rfl rfl (.inl ⟨(aq.plain rfl),aM.cast (dA (m:=3) (N:=m.length+3) (k2:=6) (ys:=([x1.az % 256,x1.ba % 256,x1.kind % 256]).map pb) wi rfl rfl rfl rfl rfl rfl (by first|omega|(simp;done)|(simp;omega)) rfl (.s rfl (by first|omega|(simp;done)|(simp;omega))) (by first|omega|(simp;done)|(simp;omega)) (by first|omega|(simp;done)|(simp;omega)) fK (by decide) (by first|omega|(simp;done)|(simp;omega)) (by first|omega|(simp;done)|(simp;omega))) rfl⟩) rfl ?_
  refine aF (kn:=[]) aa 2 rfl trivial ?_
  refine aX (n':=8) [37,39] [6] rfl rfl (.inl ⟨(aq.plain rfl),aM.cast (cO (bc [6]) (bc [7]) (vu (m++([x1.az % 256,x1.ba % 256,x1.kind % 256])) (m.length+3) x1.sum 3 (by first|omega|(simp;done)|(simp;omega)) (by first|omega|(simp;done)|(simp;omega)) (by first|omega|(simp;done)|(simp;omega)) r2 hr2) Fs rfl rfl ⟨⟨_,rfl,.inl ⟨rfl,rfl⟩⟩,⟨_,rfl,.inr (.c (.d _))⟩,⟨_,rfl,.inr (.c (.d _))⟩,trivial⟩ ⟨rfl,trivial⟩ rfl rfl rfl rfl rfl rfl trivial ⟨(fun _ _ _ _=>trivial),trivial⟩ rfl rfl rfl rfl) rfl⟩) rfl ?_
  refine bF [7,4,3,0] rfl rfl rfl rfl (by kernel_rfl) ?_
  refine ad aa 1 rfl ?_
  refine af ?_
  refine ay ?_
  refine ad aa 3 rfl ?_
  refine aE (aN rfl rfl rfl (aK (by first|omega|(simp;done)|(simp;omega)))) rfl ?_
  refine ad aa 1 rfl ?_
  refine cf ?_
  refine bq ?_
  refine then_ok ?_
  refine ay ?_
  refine aE (aN rfl rfl rfl (aK (by first|omega|(simp;done)|(simp;omega)))) rfl ?_
  refine ad aa 1 rfl ?_
  refine af ?_
  refine ⟨(q+1,r2,all+x1.sum),⟨by omega,by rw [Ah hx1,<-hi0_1,<-hr2];simp [wz],by rw [Bq hx1,<-hi0_2],by omega⟩,by first|omega|(simp;done)|(simp;omega),aJ.cc (fun k=>if k=2 then 7 else k) (by refine ⟨?_,?_,?_,?_,?_,?_,?_,trivial⟩<;>first|rfl|(simp only [bn];done)|(congr 3;omega)|(congr 4;omega)|(simp only [bo];rfl)|(first|exact cD rfl (by omega)|exact fy rfl (by simp only [List.length_append,List.length_take,List.length_drop,List.length_cons,List.length_nil];omega))) (by refine ⟨?_,?_,?_,trivial⟩<;>first|rfl|(simp only [bn];done)|(congr 3;omega)|(congr 4;omega)|(simp only [bo];rfl)) rfl⟩
 have hc2':=of_decide_eq_false hc2
 refine cp ?_
 refine aR ?_
 refine aR ?_
 refine bM ?_
 refine then_ok ?_
 refine aH aa 2 rfl ?_
 obtain ⟨r3,hr3⟩:∃ (r3:List Int),m++nf all 4=r3:=⟨_,rfl⟩
 have hlr3:r3.length=m.length+4:=by rw [<-hr3];simp [qF]
 refine aP 5 [4,3,0] (cO (bc [2]) (bc [4]) (vu m m.length all 4 (by first|omega|(simp;done)|(simp;omega)) (by first|omega|(simp;done)|(simp;omega)) (by first|omega|(simp;done)|(simp;omega)) r3 hr3) Fs rfl rfl ⟨⟨_,rfl,.inl ⟨rfl,rfl⟩⟩,⟨_,rfl,.inr (.c (.d _))⟩,⟨_,rfl,.inr (.c (.d _))⟩,trivial⟩ ⟨rfl,trivial⟩ rfl rfl rfl rfl rfl rfl trivial ⟨(fun _ _ _ _=>trivial),trivial⟩ rfl rfl rfl rfl) rfl ?_
 refine ad aa 3 rfl ?_
 refine af ?_
 refine aA ?_
 have hX:jh l=(r3,(⟨0,0⟩:cV)):=by
   have ht:r1.take q=r1:=List.take_of_length_le (by omega)
   rw [ht] at hi0_1 hi0_2
   unfold jh
   rw [if_pos hw,hr1,<-hi0_1,<-hi0_2]
   rw [hr3]
 rw [hX] at hr;clear hX
 simp only [Prod.mk.injEq] at hr;obtain ⟨rfl,rfl⟩:=hr
 refine aw aa [4,0] 1 rfl rfl rfl rfl rfl rfl ?_ ?_
 all_goals first|rfl|(simp [aD];done)|(simp [aD];omega)

theorem kz (x:Nat->Value) (hx:∀ i,(x i).oneCell'=true) (e err:Int) (e2:Int) (hr:dN e err=e2):cL Try.prog 87 [(.c (.p 0 0 0 0)),(.c (cI err))] [(0,(.box 147 ((bg x).set 19 (cI e))))] [0] (.v (.c (cB (decide (¬e2=0))))) [(0,(.box 147 ((bg x).set 19 (cI e2))))]:=by
 refine cL.mk 19 [(0,(aC (.p 0 0 0 0))),(1,(aI err))] 1 Try.func87 rfl rfl rfl rfl rfl rfl rfl rfl rfl ?_
 intro W0 F0 T0 pg
 refine ae aa 1 rfl ?_
 refine ah ?_
 refine ae aa 5 rfl ?_
 refine an rfl (fun hc1=>?_) (fun hc1=>?_)
 ·
  have hc1':=of_decide_eq_true hc1
  refine ay ?_
  refine ad aa 5 rfl ?_
  refine af ?_
  refine ae aa 6 rfl ?_
  refine aA ?_
  have hX:dN e err=err:=by
    (unfold dN;try dsimp only);(repeat' split)<;>first|rfl|omega|(exfalso;omega)|(subst_vars;rfl)|(simp_all;done)|(simp_all;omega)
  rw [hX] at hr;clear hX
  subst hr
  refine aw aa [0] 1 rfl rfl rfl rfl rfl rfl ?_ ?_
  all_goals first|rfl|(simp [aD,aZ,bg];done)|(simp [aD,aZ,bg];omega)
 have hc1':=of_decide_eq_false hc1
 refine aU ?_
 refine ae aa 6 rfl ?_
 refine aA ?_
 have hX:dN e err=e:=by
   (unfold dN;try dsimp only);(repeat' split)<;>first|rfl|omega|(exfalso;omega)|(subst_vars;rfl)|(simp_all;done)|(simp_all;omega)
 rw [hX] at hr;clear hX
 subst hr
 refine aw aa [0] 1 rfl rfl rfl rfl rfl rfl ?_ ?_
 all_goals first|rfl|(simp [aD,aZ,bg];done)|(simp [aD,aZ,bg];omega)

theorem jF (x:Nat->Value) (hx:∀ i,(x i).oneCell'=true) (l:List Entry) (e src dst n:Int) (l2:List Entry) (e2:Int) (hr:dL l e src dst n=(l2,e2)):cL Try.prog 76 [(.c (.p 0 0 0 0)),(.c (cI src)),(.c (cI dst)),(.c (cI n))] [(0,(.box 147 (((bg x).set 18 (dR l)).set 19 (cI e))))] [0] (.t []) [(0,(.box 147 (((bg x).set 18 (dR l2)).set 19 (cI e2))))]:=by
 refine cL.mk 31 [(0,(aC (.p 0 0 0 0))),(1,(aI src)),(2,(aI dst)),(3,(aI n))] 1 Try.func76 rfl rfl rfl rfl rfl rfl rfl rfl rfl ?_
 intro W0 F0 T0 pg
 refine aH aa 8 rfl ?_
 obtain ⟨r0,e0,hr0⟩:∃ (r0:List Entry) (e0:Int),iK l src dst n=(r0,e0):=⟨_,_,rfl⟩
 refine aP 1 [0] (ch 1 (Fn.frozen (av':=(.t [(.c (dR r0)),(.c (cI e0))])) (yo l src dst n r0 e0 hr0) ⟨.inr ⟨_,_,_,_,_,rfl,rfl,rfl,by simp⟩,.inl ⟨_,rfl,rfl⟩,trivial⟩) JA rfl rfl ⟨⟨_,rfl,.c (.d _)⟩,⟨_,rfl,.c (.d _)⟩,⟨_,rfl,.c (.d _)⟩,⟨_,rfl,.c (.d _)⟩,trivial⟩ ⟨trivial,trivial,trivial⟩ trivial rfl rfl rfl rfl) rfl ?_
 refine ad aa 5 rfl ?_
 refine af ?_
 refine aH aa 2 rfl ?_
 obtain ⟨e21,hr1⟩:∃ (e21:Int),dN e e0=e21:=⟨_,rfl⟩
 refine aP 1 [0] (cw id id (ms:=(dO.set 19 (some (cI e)))) (ms':=(dO.set 19 (some (cI e21)))) (fun x hx=>kz x hx e e0 e21 hr1) oM rfl rfl ⟨⟨_,rfl,.inl ⟨rfl,rfl⟩⟩,⟨_,rfl,.inr (.c (.d _))⟩,trivial⟩ rfl rfl rfl rfl rfl rfl rfl trivial rfl rfl rfl rfl rfl rfl rfl rfl rfl rfl rfl rfl rfl) rfl ?_
 refine ad aa 1 rfl ?_
 refine af ?_
 refine an rfl (fun hc1=>?_) (fun hc1=>?_)
 ·
  have hc1':=hc1;try simp only [bA,bW] at hc1'
  refine ay ?_
  refine ad aa 6 rfl ?_
  refine cf ?_
  have hX:dL l e src dst n=(r0,e21):=by
    unfold dL;simp only [hr0,hr1];(repeat' split)<;>first|rfl|omega|(exfalso;omega)|(simp_all;done)|(simp_all;omega)
  rw [hX] at hr;clear hX
  simp only [Prod.mk.injEq] at hr;obtain ⟨rfl,rfl⟩:=hr
  refine cP aa [0] 1 rfl rfl rfl rfl rfl rfl ?_ ?_
  all_goals first|rfl|(simp [aD,aZ,bg];done)|(simp [aD,aZ,bg];omega)
 have hc1':=hc1;try simp only [bA,bW] at hc1'
 refine dg ?_
 have hX:dL l e src dst n=(l,e21):=by
   unfold dL;simp only [hr0,hr1];(repeat' split)<;>first|rfl|omega|(exfalso;omega)|(simp_all;done)|(simp_all;omega)
 rw [hX] at hr;clear hX
 simp only [Prod.mk.injEq] at hr;obtain ⟨rfl,rfl⟩:=hr
 refine cP aa [0] 1 rfl rfl rfl rfl rfl rfl ?_ ?_
 all_goals first|rfl|(simp [aD,aZ,bg];done)|(simp [aD,aZ,bg];omega)
theorem jr (x:Nat->Value) (hx:∀ i,(x i).oneCell'=true) (l:List bD) (e k held bB:Int) (hk:0<=k/\k < l.length) (l2:List bD) (e2:Int) (hr:cE l e k held bB=(l2,e2)):cL Try.prog 75 [(.c (.p 0 0 0 0)),(.c (cI k)),(.c (cI held)),(.c (cI bB))] [(0,(.box 147 (((bg x).set 2 (.s 1 0 6 l.length)).set 19 (cI e)))),(1,(ek l))] [0] (.t []) [(0,(.box 147 (((bg x).set 2 (.s 1 0 6 l2.length)).set 19 (cI e2)))),(1,(ek l2))]:=by
 refine cL.mk 36 [(0,(aC (.p 0 0 0 0))),(1,(aI k)),(2,(aI held)),(3,(aI bB))] 2 Try.func75 rfl rfl rfl rfl rfl rfl rfl rfl rfl ?_
 intro W0 F0 T0 pg
 refine aH aa 6 rfl ?_
 refine aE (br (i:=Int.toNat (k)) rfl rfl rfl Try.underlying29 jx (by first|omega|(simp;done)|(simp;omega)) (by first|omega|(simp;done)|(simp;omega))) rfl ?_
 obtain ⟨x1,hx1⟩:=cr (xs:=l) (i:=Int.toNat (k)) (by first|omega|(simp;done)|(simp;omega))
 refine aE (dy rfl rfl rfl Try.underlying61 rfl jx (bz hx1) rfl) rfl ?_
 refine ad aa 2 rfl ?_
 obtain ⟨xr0,e0,hr0⟩:∃ (xr0:bD) (e0:Int),eo x1 held bB=(xr0,e0):=⟨_,_,rfl⟩
 refine aP 2 [0,1] (ch 2 (Fn.frozen (av':=(.t [(.g [(cI xr0.bB),(cI xr0.held),(cI xr0.cv.cM),(cI xr0.cv.count),(cI xr0.cv.sum),(fU xr0.de)]),(.c (cI e0))])) (xv x1 held bB xr0 e0 hr0) ⟨⟨.inl ⟨_,rfl,rfl⟩,.inl ⟨_,rfl,rfl⟩,.inl ⟨_,rfl,rfl⟩,.inl ⟨_,rfl,rfl⟩,.inl ⟨_,rfl,rfl⟩,.inr ⟨_,_,_,_,_,rfl,rfl,rfl,by simp⟩,trivial⟩,.inl ⟨_,rfl,rfl⟩,trivial⟩) JB rfl rfl ⟨⟨_,rfl,.g ⟨.d _,.d _,.d _,.d _,.d _,.d _,trivial⟩⟩,⟨_,rfl,.c (.d _)⟩,⟨_,rfl,.c (.d _)⟩,trivial⟩ ⟨⟨trivial,trivial,trivial,trivial,trivial,trivial,trivial⟩,trivial,trivial⟩ trivial rfl rfl rfl rfl) rfl ?_
 refine ad aa 6 rfl ?_
 refine af ?_
 refine aH aa 2 rfl ?_
 obtain ⟨e21,hr1⟩:∃ (e21:Int),dN e e0=e21:=⟨_,rfl⟩
 refine aP 3 [0,2,1] (cw id id (ms:=(dO.set 19 (some (cI e)))) (ms':=(dO.set 19 (some (cI e21)))) (fun x hx=>kz x hx e e0 e21 hr1) oM rfl rfl ⟨⟨_,rfl,.inl ⟨rfl,rfl⟩⟩,⟨_,rfl,.inr (.c (.d _))⟩,trivial⟩ rfl rfl rfl rfl rfl rfl rfl trivial rfl rfl rfl rfl rfl rfl rfl rfl rfl rfl rfl rfl rfl) rfl ?_
 refine ad aa 1 rfl ?_
 refine af ?_
 refine an rfl (fun hc1=>?_) (fun hc1=>?_)
 ·
  have hc1':=hc1;try simp only [bA,bW] at hc1'
  refine bd [0,1,8] [0,2,1] mixed rfl rfl ?_
  refine aF (kn:=[]) aa 7 rfl trivial ?_
  refine aX (n':=3) [32,33] [1] rfl rfl (.inl ⟨(aq.plain rfl),aM.cast (br (i:=Int.toNat (k)) rfl rfl rfl Try.underlying29 jx (by first|omega|(simp;done)|(simp;omega)) (by first|omega|(simp;done)|(simp;omega))) rfl⟩) rfl ?_
  refine bF [0,2,1] rfl rfl rfl rfl (by kernel_rfl) ?_
  refine gj [0,2,1] (dW (ds:=[(dI xr0.bB),(dI xr0.held),(dI xr0.cv.cM),(dI xr0.cv.count),(dI xr0.cv.sum),(HI xr0.de)]) rfl rfl rfl rfl rfl jx rfl (Nat.le_of_ble_eq_true rfl) (bz hx1) rfl (eU (x':=xr0) rfl)) rfl ?_
  refine cf ?_
  have hX:cE l e k held bB=((l).set (Int.toNat (k)) xr0,e21):=by
    rw [pz hx1];simp only [hr0,hr1];(repeat' split)<;>first|rfl|omega|(exfalso;omega)|(simp_all;done)|(simp_all;omega)
  rw [hX] at hr;clear hX
  simp only [Prod.mk.injEq] at hr;obtain ⟨rfl,rfl⟩:=hr
  refine cP aa [0,1] 2 rfl rfl rfl rfl rfl rfl ?_ ?_
  all_goals first|rfl|(simp [aD,aZ,bg];done)|(simp [aD,aZ,bg];omega)
 have hc1':=hc1;try simp only [bA,bW] at hc1'
 refine dg ?_
 have hX:cE l e k held bB=(l,e21):=by
   rw [pz hx1];simp only [hr0,hr1];(repeat' split)<;>first|rfl|omega|(exfalso;omega)|(simp_all;done)|(simp_all;omega)
 rw [hX] at hr;clear hX
 simp only [Prod.mk.injEq] at hr;obtain ⟨rfl,rfl⟩:=hr
 refine cP aa [0,1] 2 rfl rfl rfl rfl rfl rfl ?_ ?_
 all_goals first|rfl|(simp [aD,aZ,bg];done)|(simp [aD,aZ,bg];omega)
theorem HP (x:Nat->Value) (hx:∀ i,(x i).oneCell'=true) (l:List au) (e:Int) (r:au) (hl:l.length<=100) (l2:List au) (e2:Int) (hr:jn l e r=(l2,e2)):cL Try.prog 83 [(.c (.p 0 0 0 0)),(.g [(cI r.az),(cI r.ba),(cI r.kind),(cI r.sum)])] [(0,(.box 147 (((bg x).set 16 (.s 1 0 4 l.length)).set 19 (cI e)))),(1,(cU l))] [0] (.t []) [(0,(.box 147 (((bg x).set 16 (.s 1 0 4 l2.length)).set 19 (cI e2)))),(1,(cU l2))]:=by
 refine cL.mk 25 [(0,(aC (.p 0 0 0 0))),(1,(aG [(cI r.az),(cI r.ba),(cI r.kind),(cI r.sum)]))] 2 Try.func83 rfl rfl rfl rfl rfl rfl rfl rfl rfl ?_
 intro W0 F0 T0 pg
 refine ae aa 1 rfl ?_
 refine ah ?_
 refine aH aa 5 rfl ?_
 refine aE (dH rfl rfl rfl rfl rfl Try.underlying42) rfl ?_
 refine ad aa 1 rfl ?_
 refine af ?_
 refine an rfl (fun hc1=>?_) (fun hc1=>?_)
 ·
  have hc1':=of_decide_eq_true hc1
  refine aH aa 1 rfl ?_
  obtain ⟨e20,hr0⟩:∃ (e20:Int),dN e 5=e20:=⟨_,rfl⟩
  refine aP 3 [0,2,1] (cw id id (ms:=(dO.set 19 (some (cI e)))) (ms':=(dO.set 19 (some (cI e20)))) (fun x hx=>kz x hx e 5 e20 hr0) oM rfl rfl ⟨⟨_,rfl,.inl ⟨rfl,rfl⟩⟩,⟨_,rfl,.inr (.c (.d _))⟩,trivial⟩ rfl rfl rfl rfl rfl rfl rfl trivial rfl rfl rfl rfl rfl rfl rfl rfl rfl rfl rfl rfl rfl) rfl ?_
  refine af ?_
  refine aA ?_
  refine ax ?_
  have hX:jn l e r=(l,e20):=by
    unfold jn;first|(rw [if_pos (by omega),hr0];done)|(rw [if_neg (by omega)];done)
  rw [hX] at hr;clear hX
  simp only [Prod.mk.injEq] at hr;obtain ⟨rfl,rfl⟩:=hr
  refine aw aa [0,1] 2 rfl rfl rfl rfl rfl rfl ?_ ?_
  all_goals first|rfl|(simp [aD,aZ,bg];done)|(simp [aD,aZ,bg];omega)
 have hc1':=of_decide_eq_false hc1
 refine aU ?_
 refine bd [0,3] [2,0,1] mixed rfl rfl ?_
 refine aF (kn:=[]) aa 7 rfl trivial ?_
 refine aX (n':=4) [19] [] rfl rfl (.inl ⟨(aq.plain rfl),aM.cast (ec (ys:=[(0,(.g [(cI r.az),(cI r.ba),(cI r.kind),(cI r.sum)]))]) (rows:=([r]).map iA) 3 zJ rfl (by decide) ⟨⟨rfl,rfl⟩,trivial⟩ rfl rfl rfl rfl) rfl⟩) rfl ?_
 refine aX (n':=5) [18,20] [3,1] rfl rfl (.inl ⟨(aq.plain rfl),aM.cast (dA (m:=1) (N:=l.length+1) (k2:=4) (ys:=([r]).map iA) zJ rfl rfl rfl rfl rfl rfl (by first|omega|(simp;done)|(simp;omega)) rfl (.s rfl (by first|omega|(simp;done)|(simp;omega))) (by first|omega|(simp;done)|(simp;omega)) (by first|omega|(simp;done)|(simp;omega)) fK (by decide) (by first|omega|(simp;done)|(simp;omega)) (by first|omega|(simp;done)|(simp;omega))) rfl⟩) rfl ?_
 refine aF (kn:=[]) aa 3 rfl trivial ?_
 refine bF [4,2,0] rfl rfl rfl rfl (by kernel_rfl) ?_
 refine ad aa 1 rfl ?_
 refine cf ?_
 have hX:jn l e r=(l++([r]),e):=by
   unfold jn;first|(rw [if_pos (by omega),hr0];done)|(rw [if_neg (by omega)];done)
 rw [hX] at hr;clear hX
 simp only [Prod.mk.injEq] at hr;obtain ⟨rfl,rfl⟩:=hr
 refine cP aa [0,4] 2 rfl rfl rfl rfl rfl rfl ?_ ?_
 all_goals first|rfl|(simp [aD,aZ,bg];done)|(simp [aD,aZ,bg];omega)

theorem uh (x:Nat->Value) (hx:∀ i,(x i).oneCell'=true) (s:bO) (e:Int) (t:aS) (hI:∀ t∈s.kept,fA t.number) (s2:bO) (e2:Int) (hr:fb s e t=(s2,e2)):cL Try.prog 82 [(.c (.p 0 0 0 0)),(.c (cI 0)),(.g [(cI t.number),(cI t.kind),(cI t.ba),(cI t.sum)])] [(0,(.box 147 ((((bg x).set 5 (cI s.bG)).set 6 (dh s.kept)).set 19 (cI e))))] [0] (.t []) [(0,(.box 147 ((((bg x).set 5 (cI s2.bG)).set 6 (dh s2.kept)).set 19 (cI e2))))]:=by
 refine cL.mk 31 [(0,(aC (.p 0 0 0 0))),(1,(aI 0)),(2,(aG [(cI t.number),(cI t.kind),(cI t.ba),(cI t.sum)]))] 1 Try.func82 rfl rfl rfl rfl rfl rfl rfl rfl rfl ?_
 intro W0 F0 T0 pg
 refine ae aa 1 rfl ?_
 refine ah ?_
 obtain ⟨xr0,e0,hr0⟩:∃ (xr0:bO) (e0:Int),gX s t=(xr0,e0):=⟨_,_,rfl⟩
 refine dr [0,1,5] [1,0] mixed rfl rfl ?_
 refine bU (kn:=[]) aa 5 rfl trivial ?_
 refine ca (n':=2) [13,10] [0] rfl rfl (.inl ⟨(aq.plain rfl),aM.cast (df (i:=0) rfl rfl rfl Try.underlying35 kb rfl (by decide)) rfl⟩) rfl ?_
 refine bU (kn:=[]) aa 2 rfl trivial ?_
 refine ca (n':=2) [15,16] [] rfl rfl (.inl ⟨(aq.plain rfl),aM.cast (ch 2 (Fn.frozen (av':=(.t [(.g [(cI xr0.bG),(dh xr0.kept)]),(.c (cI e0))])) (tw s t (by first|assumption|exact kQ (by assumption) (by omega)|exact jO (by assumption) (by assumption)|(simp [fA];done)) xr0 e0 hr0) ⟨⟨.inl ⟨_,rfl,rfl⟩,.inr ⟨_,_,_,_,_,rfl,rfl,rfl,by simp⟩,trivial⟩,.inl ⟨_,rfl,rfl⟩,trivial⟩) Fv rfl rfl ⟨⟨_,rfl,.g ⟨.d _,.d _,trivial⟩⟩,⟨_,rfl,.g ⟨.d _,.d _,.d _,.d _,trivial⟩⟩,trivial⟩ ⟨⟨trivial,trivial,trivial⟩,trivial,trivial⟩ trivial rfl rfl rfl rfl) rfl⟩) rfl ?_
 refine bU (n':=3) (kn:=[]) aa 6 rfl trivial ?_
 refine ef [0,1,6,7] [2,0] rfl rfl (by kernel_rfl) ?_
 refine then_ok ?_
 refine aH aa 2 rfl ?_
 obtain ⟨e21,hr1⟩:∃ (e21:Int),dN e e0=e21:=⟨_,rfl⟩
 refine aP 3 [0,2] (cw id id (ms:=(dO.set 19 (some (cI e)))) (ms':=(dO.set 19 (some (cI e21)))) (fun x hx=>kz x hx e e0 e21 hr1) oM rfl rfl ⟨⟨_,rfl,.inl ⟨rfl,rfl⟩⟩,⟨_,rfl,.inr (.c (.d _))⟩,trivial⟩ rfl rfl rfl rfl rfl rfl rfl trivial rfl rfl rfl rfl rfl rfl rfl rfl rfl rfl rfl rfl rfl) rfl ?_
 refine ad aa 1 rfl ?_
 refine af ?_
 refine an rfl (fun hc1=>?_) (fun hc1=>?_)
 ·
  have hc1':=hc1;try simp only [bA,bW] at hc1'
  refine bd [0,1,6] [0,2] mixed rfl rfl ?_
  refine aF (kn:=[]) aa 6 rfl trivial ?_
  refine aX (n':=3) [29,25] [0] rfl rfl (.inl ⟨(aq.plain rfl),aM.cast (df (i:=0) rfl rfl rfl Try.underlying35 kb rfl (by decide)) rfl⟩) rfl ?_
  refine bF [0,2] rfl rfl rfl rfl (by kernel_rfl) ?_
  refine ad aa 1 rfl ?_
  refine cf ?_
  have hX:fb s e t=(xr0,e21):=by
    unfold fb;simp only [hr0,hr1];(repeat' split)<;>first|rfl|omega|(exfalso;omega)|(simp_all;done)|(simp_all;omega)
  rw [hX] at hr;clear hX
  simp only [Prod.mk.injEq] at hr;obtain ⟨rfl,rfl⟩:=hr
  refine cP aa [0] 1 rfl rfl rfl rfl rfl rfl ?_ ?_
  all_goals first|rfl|(simp [aD,aZ,bg];done)|(simp [aD,aZ,bg];omega)
 have hc1':=hc1;try simp only [bA,bW] at hc1'
 refine dg ?_
 have hX:fb s e t=(s,e21):=by
   unfold fb;simp only [hr0,hr1];(repeat' split)<;>first|rfl|omega|(exfalso;omega)|(simp_all;done)|(simp_all;omega)
 rw [hX] at hr;clear hX
 simp only [Prod.mk.injEq] at hr;obtain ⟨rfl,rfl⟩:=hr
 refine cP aa [0] 1 rfl rfl rfl rfl rfl rfl ?_ ?_
 all_goals first|rfl|(simp [aD,aZ,bg];done)|(simp [aD,aZ,bg];omega)
theorem Gk (x:Nat->Value) (hx:∀ i,(x i).oneCell'=true) (s:bO) (e:Int) (t:aS) (hI:∀ t∈s.kept,fA t.number) (s2:bO) (e2:Int) (hr:fb s e t=(s2,e2)):cL Try.prog 82 [(.c (.p 0 0 0 0)),(.c (cI 1)),(.g [(cI t.number),(cI t.kind),(cI t.ba),(cI t.sum)])] [(0,(.box 147 ((((bg x).set 7 (cI s.bG)).set 8 (dh s.kept)).set 19 (cI e))))] [0] (.t []) [(0,(.box 147 ((((bg x).set 7 (cI s2.bG)).set 8 (dh s2.kept)).set 19 (cI e2))))]:=by
 refine cL.mk 31 [(0,(aC (.p 0 0 0 0))),(1,(aI 1)),(2,(aG [(cI t.number),(cI t.kind),(cI t.ba),(cI t.sum)]))] 1 Try.func82 rfl rfl rfl rfl rfl rfl rfl rfl rfl ?_
 intro W0 F0 T0 pg
 refine ae aa 1 rfl ?_
 refine ah ?_
 obtain ⟨xr0,e0,hr0⟩:∃ (xr0:bO) (e0:Int),gX s t=(xr0,e0):=⟨_,_,rfl⟩
 refine dr [0,1,5] [1,0] mixed rfl rfl ?_
 refine bU (kn:=[]) aa 5 rfl trivial ?_
 refine ca (n':=2) [13,10] [0] rfl rfl (.inl ⟨(aq.plain rfl),aM.cast (df (i:=1) rfl rfl rfl Try.underlying35 kb rfl (by decide)) rfl⟩) rfl ?_
 refine bU (kn:=[]) aa 2 rfl trivial ?_
 refine ca (n':=2) [15,16] [] rfl rfl (.inl ⟨(aq.plain rfl),aM.cast (ch 2 (Fn.frozen (av':=(.t [(.g [(cI xr0.bG),(dh xr0.kept)]),(.c (cI e0))])) (tw s t (by first|assumption|exact kQ (by assumption) (by omega)|exact jO (by assumption) (by assumption)|(simp [fA];done)) xr0 e0 hr0) ⟨⟨.inl ⟨_,rfl,rfl⟩,.inr ⟨_,_,_,_,_,rfl,rfl,rfl,by simp⟩,trivial⟩,.inl ⟨_,rfl,rfl⟩,trivial⟩) Fv rfl rfl ⟨⟨_,rfl,.g ⟨.d _,.d _,trivial⟩⟩,⟨_,rfl,.g ⟨.d _,.d _,.d _,.d _,trivial⟩⟩,trivial⟩ ⟨⟨trivial,trivial,trivial⟩,trivial,trivial⟩ trivial rfl rfl rfl rfl) rfl⟩) rfl ?_
 refine bU (n':=3) (kn:=[]) aa 6 rfl trivial ?_
 refine ef [0,1,6,7] [2,0] rfl rfl (by kernel_rfl) ?_
 refine then_ok ?_
 refine aH aa 2 rfl ?_
 obtain ⟨e21,hr1⟩:∃ (e21:Int),dN e e0=e21:=⟨_,rfl⟩
 refine aP 3 [0,2] (cw id id (ms:=(dO.set 19 (some (cI e)))) (ms':=(dO.set 19 (some (cI e21)))) (fun x hx=>kz x hx e e0 e21 hr1) oM rfl rfl ⟨⟨_,rfl,.inl ⟨rfl,rfl⟩⟩,⟨_,rfl,.inr (.c (.d _))⟩,trivial⟩ rfl rfl rfl rfl rfl rfl rfl trivial rfl rfl rfl rfl rfl rfl rfl rfl rfl rfl rfl rfl rfl) rfl ?_
 refine ad aa 1 rfl ?_
 refine af ?_
 refine an rfl (fun hc1=>?_) (fun hc1=>?_)
 ·
  have hc1':=hc1;try simp only [bA,bW] at hc1'
  refine bd [0,1,6] [0,2] mixed rfl rfl ?_
  refine aF (kn:=[]) aa 6 rfl trivial ?_
  refine aX (n':=3) [29,25] [0] rfl rfl (.inl ⟨(aq.plain rfl),aM.cast (df (i:=1) rfl rfl rfl Try.underlying35 kb rfl (by decide)) rfl⟩) rfl ?_
  refine bF [0,2] rfl rfl rfl rfl (by kernel_rfl) ?_
  refine ad aa 1 rfl ?_
  refine cf ?_
  have hX:fb s e t=(xr0,e21):=by
    unfold fb;simp only [hr0,hr1];(repeat' split)<;>first|rfl|omega|(exfalso;omega)|(simp_all;done)|(simp_all;omega)
  rw [hX] at hr;clear hX
  simp only [Prod.mk.injEq] at hr;obtain ⟨rfl,rfl⟩:=hr
  refine cP aa [0] 1 rfl rfl rfl rfl rfl rfl ?_ ?_
  all_goals first|rfl|(simp [aD,aZ,bg];done)|(simp [aD,aZ,bg];omega)
 have hc1':=hc1;try simp only [bA,bW] at hc1'
 refine dg ?_
 have hX:fb s e t=(s,e21):=by
   unfold fb;simp only [hr0,hr1];(repeat' split)<;>first|rfl|omega|(exfalso;omega)|(simp_all;done)|(simp_all;omega)
 rw [hX] at hr;clear hX
 simp only [Prod.mk.injEq] at hr;obtain ⟨rfl,rfl⟩:=hr
 refine cP aa [0] 1 rfl rfl rfl rfl rfl rfl ?_ ?_
 all_goals first|rfl|(simp [aD,aZ,bg];done)|(simp [aD,aZ,bg];omega)
theorem CJ (x:Nat->Value) (hx:∀ i,(x i).oneCell'=true) (aj:List bl) (due:List Int) (ag:List bD) (book:List Entry) (e:Int) (t:aS) (ht:0<=t.ba/\t.ba < aj.length) (hA:∀ a∈aj,0<=a.aO/\a.aO < ag.length/\0<=a.az/\a.az < due.length) (hc:ag.length<=8) (hd:due.length<=8) (due2:List Int) (cards2:List bD) (book2:List Entry) (e2:Int) (hr:dv aj due ag book e t=(due2,cards2,book2,e2)):cL Try.prog 89 [(.c (.p 0 0 0 0)),(.g [(cI t.number),(cI t.kind),(cI t.ba),(cI t.sum)])] [(0,(.box 147 ((((((bg x).set 2 (.s 1 0 6 ag.length)).set 3 (.s 2 0 1 due.length)).set 4 (.s 3 0 8 aj.length)).set 18 (dR book)).set 19 (cI e)))),(1,(ek ag)),(2,(dS due)),(3,(ep aj))] [0] (.t []) [(0,(.box 147 ((((((bg x).set 2 (.s 1 0 6 cards2.length)).set 3 (.s 2 0 1 due2.length)).set 4 (.s 3 0 8 aj.length)).set 18 (dR book2)).set 19 (cI e2)))),(1,(ek cards2)),(2,(dS due2)),(3,(ep aj))]:=by
 refine cL.mk 77 [(0,(aC (.p 0 0 0 0))),(1,(aG [(cI t.number),(cI t.kind),(cI t.ba),(cI t.sum)]))] 4 Try.func89 rfl rfl rfl rfl rfl rfl rfl rfl rfl ?_
 intro W0 F0 T0 pg
 refine ae aa 1 rfl ?_
 refine ah ?_
 obtain ⟨x1,hx1⟩:=cr (xs:=aj) (i:=Int.toNat (t.ba)) (by first|omega|(simp;done)|(simp;omega))
 have hx1A:=hA x1 (List.mem_of_getElem? hx1)
 refine bd [0,3] [4,0,1,2,3] mixed rfl rfl ?_
 refine aF (kn:=[]) aa 7 rfl trivial ?_
 refine aX (n':=5) [11,13] [3] rfl rfl (.inl ⟨(aq.plain rfl),aM.cast (br (i:=Int.toNat (t.ba)) rfl rfl rfl Try.underlying31 mq (by first|omega|(simp;done)|(simp;omega)) (by first|omega|(simp;done)|(simp;omega))) rfl⟩) rfl ?_
 refine aX (n':=5) [14] [3] rfl rfl (.inl ⟨(aq.plain rfl),aM.cast (dy rfl rfl rfl Try.underlying67 rfl mq (bz hx1) rfl) rfl⟩) rfl ?_
 refine aF (n':=6) (kn:=[]) aa 1 rfl trivial ?_
 refine bF [5,4,0,1,2,3] rfl rfl rfl rfl (by kernel_rfl) ?_
 refine ad aa 1 rfl ?_
 refine af ?_
 refine ah ?_
 refine bd [0,3,4] [5,4,0,1,2,3] mixed rfl rfl ?_
 refine aF (kn:=[]) aa 2 rfl trivial ?_
 refine aX (n':=6) [17] [] rfl rfl (.inl ⟨(aq.plain rfl),aM.cast (aN rfl rfl rfl (aK (by first|omega|(simp;done)|(simp;omega)))) rfl⟩) rfl ?_
 refine aF (kn:=[]) aa 2 rfl trivial ?_
 refine aX (n':=6) [20] [] rfl rfl (.inl ⟨(aq.plain rfl),aM.cast (aN rfl rfl rfl (aK (by first|omega|(simp;done)|(simp;omega)))) rfl⟩) rfl ?_
 refine aF (kn:=[]) aa 2 rfl trivial ?_
 refine bF [5,4,0,1,2,3] rfl rfl rfl rfl (by kernel_rfl) ?_
 refine af ?_
 refine ae aa 2 rfl ?_
 refine aY ?_
 refine ae aa 2 rfl ?_
 refine an rfl (fun hc1=>?_) (fun hc1=>?_)
 ·
  have hc1':=of_decide_eq_true hc1
  refine ah ?_
  obtain ⟨x2,hx2⟩:=cr (xs:=due) (i:=Int.toNat (x1.az)) (by first|omega|(simp;done)|(simp;omega))
  refine bd [0,3,4,5] [5,4,0,1,2,3] mixed rfl rfl ?_
  refine aF (kn:=[]) aa 7 rfl trivial ?_
  refine aX (n':=6) [30,32] [2] rfl rfl (.inl ⟨(aq.plain rfl),aM.cast (br (i:=Int.toNat (x1.az)) rfl rfl rfl Try.underlying30 fO (by first|omega|(simp;done)|(simp;omega)) (by first|omega|(simp;done)|(simp;omega))) rfl⟩) rfl ?_
  refine aX (n':=6) [33] [2] rfl rfl (.inl ⟨(aq.plain rfl),aM.cast (eJ rfl rfl rfl Try.underlying3 rfl (bz hx2) rfl) rfl⟩) rfl ?_
  refine aF (kn:=[]) aa 3 rfl trivial ?_
  refine aX (n':=6) [30,32] [2] rfl rfl (.inl ⟨(aq.plain rfl),aM.cast (br (i:=Int.toNat (x1.az)) rfl rfl rfl Try.underlying30 fO (by first|omega|(simp;done)|(simp;omega)) (by first|omega|(simp;done)|(simp;omega))) rfl⟩) rfl ?_
  refine bF [5,4,0,1,2,3] rfl rfl rfl rfl (by kernel_rfl) ?_
  refine gj [5,4,0,1,2,3] (dW (ds:=[(dI (IntKind.i64.wrap (x2+t.sum)))]) rfl rfl rfl rfl rfl fO rfl (Nat.le_of_ble_eq_true rfl) (bz hx2) rfl (eU (x':=(IntKind.i64.wrap (x2+t.sum))) rfl)) rfl ?_
  refine af ?_
  refine ga (k:=0) (q:=3) (c':=(.s 2 0 1 (((due).set (Int.toNat (x1.az)) (IntKind.i64.wrap (x2+t.sum))).length))) rfl rfl (by first|rfl|(simp;done)|(congr 1;omega)) rfl ?_
  refine ay ?_
  refine ad aa 4 rfl ?_
  obtain ⟨l20,e20,hr0⟩:∃ (l20:List Entry) (e20:Int),dL book e 1 (50+x1.az) t.sum=(l20,e20):=⟨_,_,rfl⟩
  refine aP 6 [0,5,4,1,2,3] (cw id id (ms:=((dO.set 18 (some (dR book))).set 19 (some (cI e)))) (ms':=((dO.set 18 (some (dR l20))).set 19 (some (cI e20)))) (fun x hx=>jF x hx book e 1 (50+x1.az) t.sum l20 e20 hr0) nz rfl rfl ⟨⟨_,rfl,.inl ⟨rfl,rfl⟩⟩,⟨_,rfl,.inr (.c (.d _))⟩,⟨_,rfl,.inr (.c (.d _))⟩,⟨_,rfl,.inr (.c (.d _))⟩,trivial⟩ rfl rfl rfl rfl rfl rfl rfl trivial rfl rfl rfl rfl rfl rfl rfl rfl rfl rfl rfl rfl rfl) rfl ?_
  refine cf ?_
  refine bq ?_
  have hX:dv aj due ag book e t=((due).set (Int.toNat (x1.az)) (IntKind.i64.wrap (x2+t.sum)),ag,l20,e20):=by
    unfold dv;rw [hx1];dsimp only;simp only [List.getD_eq_getElem?_getD,hx2,Option.getD_some,hr0];(repeat' split)<;>first|rfl|omega|(exfalso;omega)|(simp_all;done)|(simp_all;omega)
  rw [hX] at hr;clear hX
  simp only [Prod.mk.injEq] at hr;obtain ⟨rfl,rfl,rfl,rfl⟩:=hr
  refine cP aa [0,1,2,3] 4 rfl rfl rfl rfl rfl rfl ?_ ?_
  all_goals first|rfl|(simp [aD,aZ,bg];done)|(simp [aD,aZ,bg];omega)
 have hc1':=of_decide_eq_false hc1
 refine ae aa 2 rfl ?_
 refine an rfl (fun hc2=>?_) (fun hc2=>?_)
 ·
  have hc2':=of_decide_eq_true hc2
  refine aH aa 5 rfl ?_
  obtain ⟨l21,e21,hr1⟩:∃ (l21:List bD) (e21:Int),cE ag e x1.aO 0 t.sum=(l21,e21):=⟨_,_,rfl⟩
  refine aP 7 [0,6,5,4,2,3] (cw id (bc [0,6]) (ms:=((dO.set 2 (some (.s 1 0 6 ag.length))).set 19 (some (cI e)))) (ms':=((dO.set 2 (some (.s 1 0 6 l21.length))).set 19 (some (cI e21)))) (fun x hx=>jr x hx ag e x1.aO 0 t.sum (by first|omega|(simp;done)|(simp;omega)) l21 e21 hr1) oN rfl rfl ⟨⟨_,rfl,.inl ⟨rfl,rfl⟩⟩,⟨_,rfl,.inr (.c (.d _))⟩,⟨_,rfl,.inr (.c (.d _))⟩,⟨_,rfl,.inr (.c (.d _))⟩,trivial⟩ rfl rfl rfl rfl rfl rfl rfl ⟨rfl,trivial⟩ rfl rfl rfl rfl rfl rfl rfl rfl rfl rfl rfl rfl rfl) rfl ?_
  refine af ?_
  refine ay ?_
  refine ad aa 4 rfl ?_
  obtain ⟨l22,e22,hr2⟩:∃ (l22:List Entry) (e22:Int),dL book e21 1 (10+x1.aO) t.sum=(l22,e22):=⟨_,_,rfl⟩
  refine aP 7 [0,6,5,4,2,3] (cw id id (ms:=((dO.set 18 (some (dR book))).set 19 (some (cI e21)))) (ms':=((dO.set 18 (some (dR l22))).set 19 (some (cI e22)))) (fun x hx=>jF x hx book e21 1 (10+x1.aO) t.sum l22 e22 hr2) nz rfl rfl ⟨⟨_,rfl,.inl ⟨rfl,rfl⟩⟩,⟨_,rfl,.inr (.c (.d _))⟩,⟨_,rfl,.inr (.c (.d _))⟩,⟨_,rfl,.inr (.c (.d _))⟩,trivial⟩ rfl rfl rfl rfl rfl rfl rfl trivial rfl rfl rfl rfl rfl rfl rfl rfl rfl rfl rfl rfl rfl) rfl ?_
  refine cf ?_
  refine bq ?_
  have hX:dv aj due ag book e t=(due,l21,l22,e22):=by
    unfold dv;rw [hx1];dsimp only;simp only [List.getD_eq_getElem?_getD,Option.getD_some,hr1,hr2];(repeat' split)<;>first|rfl|omega|(exfalso;omega)|(simp_all;done)|(simp_all;omega)
  rw [hX] at hr;clear hX
  simp only [Prod.mk.injEq] at hr;obtain ⟨rfl,rfl,rfl,rfl⟩:=hr
  refine cP aa [0,6,2,3] 4 rfl rfl rfl rfl rfl rfl ?_ ?_
  all_goals first|rfl|(simp [aD,aZ,bg];done)|(simp [aD,aZ,bg];omega)
 have hc2':=of_decide_eq_false hc2
 refine ae aa 2 rfl ?_
 refine an rfl (fun hc3=>?_) (fun hc3=>?_)
 ·
  have hc3':=of_decide_eq_true hc3
  refine ah ?_
  obtain ⟨x2,hx2⟩:=cr (xs:=due) (i:=Int.toNat (x1.az)) (by first|omega|(simp;done)|(simp;omega))
  refine bd [0,3,4,5] [5,4,0,1,2,3] mixed rfl rfl ?_
  refine aF (kn:=[]) aa 7 rfl trivial ?_
  refine aX (n':=6) [63,65] [2] rfl rfl (.inl ⟨(aq.plain rfl),aM.cast (br (i:=Int.toNat (x1.az)) rfl rfl rfl Try.underlying30 fO (by first|omega|(simp;done)|(simp;omega)) (by first|omega|(simp;done)|(simp;omega))) rfl⟩) rfl ?_
  refine aX (n':=6) [66] [2] rfl rfl (.inl ⟨(aq.plain rfl),aM.cast (eJ rfl rfl rfl Try.underlying3 rfl (bz hx2) rfl) rfl⟩) rfl ?_
  refine aF (kn:=[]) aa 3 rfl trivial ?_
  refine aX (n':=6) [63,65] [2] rfl rfl (.inl ⟨(aq.plain rfl),aM.cast (br (i:=Int.toNat (x1.az)) rfl rfl rfl Try.underlying30 fO (by first|omega|(simp;done)|(simp;omega)) (by first|omega|(simp;done)|(simp;omega))) rfl⟩) rfl ?_
  refine bF [5,4,0,1,2,3] rfl rfl rfl rfl (by kernel_rfl) ?_
  refine gj [5,4,0,1,2,3] (dW (ds:=[(dI (IntKind.i64.wrap (x2 - t.sum)))]) rfl rfl rfl rfl rfl fO rfl (Nat.le_of_ble_eq_true rfl) (bz hx2) rfl (eU (x':=(IntKind.i64.wrap (x2 - t.sum))) rfl)) rfl ?_
  refine af ?_
  refine ga (k:=0) (q:=3) (c':=(.s 2 0 1 (((due).set (Int.toNat (x1.az)) (IntKind.i64.wrap (x2 - t.sum))).length))) rfl rfl (by first|rfl|(simp;done)|(congr 1;omega)) rfl ?_
  refine ay ?_
  refine ad aa 4 rfl ?_
  obtain ⟨l23,e23,hr3⟩:∃ (l23:List Entry) (e23:Int),dL book e (50+x1.az) 2 t.sum=(l23,e23):=⟨_,_,rfl⟩
  refine aP 6 [0,5,4,1,2,3] (cw id id (ms:=((dO.set 18 (some (dR book))).set 19 (some (cI e)))) (ms':=((dO.set 18 (some (dR l23))).set 19 (some (cI e23)))) (fun x hx=>jF x hx book e (50+x1.az) 2 t.sum l23 e23 hr3) nz rfl rfl ⟨⟨_,rfl,.inl ⟨rfl,rfl⟩⟩,⟨_,rfl,.inr (.c (.d _))⟩,⟨_,rfl,.inr (.c (.d _))⟩,⟨_,rfl,.inr (.c (.d _))⟩,trivial⟩ rfl rfl rfl rfl rfl rfl rfl trivial rfl rfl rfl rfl rfl rfl rfl rfl rfl rfl rfl rfl rfl) rfl ?_
  refine cf ?_
  refine bq ?_
  have hX:dv aj due ag book e t=((due).set (Int.toNat (x1.az)) (IntKind.i64.wrap (x2 - t.sum)),ag,l23,e23):=by
    unfold dv;rw [hx1];dsimp only;simp only [List.getD_eq_getElem?_getD,hx2,Option.getD_some,hr3];(repeat' split)<;>first|rfl|omega|(exfalso;omega)|(simp_all;done)|(simp_all;omega)
  rw [hX] at hr;clear hX
  simp only [Prod.mk.injEq] at hr;obtain ⟨rfl,rfl,rfl,rfl⟩:=hr
  refine cP aa [0,1,2,3] 4 rfl rfl rfl rfl rfl rfl ?_ ?_
  all_goals first|rfl|(simp [aD,aZ,bg];done)|(simp [aD,aZ,bg];omega)
 have hc3':=of_decide_eq_false hc3
 refine dg ?_
 refine bq ?_
 have hX:dv aj due ag book e t=(due,ag,book,e):=by
   unfold dv;rw [hx1];dsimp only;simp only [List.getD_eq_getElem?_getD,Option.getD_some,hx1];(repeat' split)<;>first|rfl|omega|(exfalso;omega)|(simp_all;done)|(simp_all;omega)
 rw [hX] at hr;clear hX
 simp only [Prod.mk.injEq] at hr;obtain ⟨rfl,rfl,rfl,rfl⟩:=hr
 refine cP aa [0,1,2,3] 4 rfl rfl rfl rfl rfl rfl ?_ ?_
 all_goals first|rfl|(simp [aD,aZ,bg];done)|(simp [aD,aZ,bg];omega)

theorem xE (l:List bl) (hl:l.length * 64<=140737488355328):Fn Try.prog 96 [(.c (mJ l))] (aC (.s 0 0 8 l.length)) [(0,.arr 67 8 (l.map jm))]:=by
 refine Fn.mk' 8 [(0,(aC (mJ l)))] Try.func96 rfl rfl rfl rfl ?_
 intro W0 T0
 refine dU 0 rfl (fun hlen0=>?_)
 refine ae aa 1 rfl ?_
 refine ah ?_
 refine aH aa 1 rfl ?_
 refine iM (aq.plain rfl) rfl rfl Try.underlying31 rfl rfl (fun bn1 hbn1=>?_)
 refine af ?_
 refine an rfl (fun hc2=>?_) (fun hc2=>?_)
 ·
  have hc2':=hc2;try simp only [bA,bW] at hc2'
  refine ae aa 1 rfl ?_
  refine aA ?_
  refine ax ?_
  refine dm (aJ.nil 2 67 8 (by decide) rfl) ?_
  refine aw aa [0] 1 rfl rfl rfl rfl rfl rfl ?_ ?_
  ·(have h0:=hbn1 (by assumption);have h1:l=[]:=by (cases l with|nil=>rfl|cons=>simp at h0));subst h1;rfl
  ·(have h0:=hbn1 (by assumption);have h1:l=[]:=by (cases l with|nil=>rfl|cons=>simp at h0));subst h1;rfl
 have hc2':=hc2;try simp only [bA,bW] at hc2'
 refine aU ?_
 refine eZ ?_
 refine aP 1 [0] (ec (ys:=[]) (rows:=(([]:List bl)).map jm) 0 tN rfl (by decide) trivial rfl rfl rfl rfl) rfl ?_
 refine ad aa 1 rfl ?_
 refine aP 2 [1] (dA (m:=l.length) (N:=l.length) (k2:=1) (ys:=(l).map jm) tN rfl rfl rfl rfl rfl rfl (by first|omega|(simp;omega)|(simp;done)) rfl (.d _ _) (by first|omega|(simp;omega)|(simp;done)) (by first|omega|(simp;omega)|(simp;done)) rfl (by decide) (by first|omega|(simp;omega)|(simp;done)) (by first|omega|(simp;omega)|(simp;done))) rfl ?_
 refine ad aa 1 rfl ?_
 refine af ?_
 refine aA ?_
 refine aw aa [1] 1 rfl rfl rfl rfl rfl rfl ?_ ?_
 ·first|rfl|simp [gz,aC]
 ·first|rfl|simp
theorem nT (l:List bS) (hl:l.length * 40<=140737488355328):Fn Try.prog 85 [(.c (ed l))] (aC (.s 0 0 5 l.length)) [(0,.arr 113 5 (l.map fP))]:=by
 refine Fn.mk' 8 [(0,(aC (ed l)))] Try.func85 rfl rfl rfl rfl ?_
 intro W0 T0
 refine dU 0 rfl (fun hlen0=>?_)
 refine ae aa 1 rfl ?_
 refine ah ?_
 refine aH aa 1 rfl ?_
 refine iM (aq.plain rfl) rfl rfl Try.underlying37 rfl rfl (fun bn1 hbn1=>?_)
 refine af ?_
 refine an rfl (fun hc2=>?_) (fun hc2=>?_)
 ·
  have hc2':=hc2;try simp only [bA,bW] at hc2'
  refine ae aa 1 rfl ?_
  refine aA ?_
  refine ax ?_
  refine dm (aJ.nil 2 113 5 (by decide) rfl) ?_
  refine aw aa [0] 1 rfl rfl rfl rfl rfl rfl ?_ ?_
  ·(have h0:=hbn1 (by assumption);have h1:l=[]:=by (cases l with|nil=>rfl|cons=>simp at h0));subst h1;rfl
  ·(have h0:=hbn1 (by assumption);have h1:l=[]:=by (cases l with|nil=>rfl|cons=>simp at h0));subst h1;rfl
 have hc2':=hc2;try simp only [bA,bW] at hc2'
 refine aU ?_
 refine eZ ?_
 refine aP 1 [0] (ec (ys:=[]) (rows:=(([]:List bS)).map fP) 0 ns rfl (by decide) trivial rfl rfl rfl rfl) rfl ?_
 refine ad aa 1 rfl ?_
 refine aP 2 [1] (dA (m:=l.length) (N:=l.length) (k2:=1) (ys:=(l).map fP) ns rfl rfl rfl rfl rfl rfl (by first|omega|(simp;omega)|(simp;done)) rfl (.d _ _) (by first|omega|(simp;omega)|(simp;done)) (by first|omega|(simp;omega)|(simp;done)) rfl (by decide) (by first|omega|(simp;omega)|(simp;done)) (by first|omega|(simp;omega)|(simp;done))) rfl ?_
 refine ad aa 1 rfl ?_
 refine af ?_
 refine aA ?_
 refine aw aa [1] 1 rfl rfl rfl rfl rfl rfl ?_ ?_
 ·first|rfl|simp [gz,aC]
 ·first|rfl|simp
theorem xD (l:List (List D)) (hl:l.length * 64<=140737488355328):Fn Try.prog 94 [(.c (cR 6 ((l).map id)))] (aC (.s 0 0 6 l.length)) [(0,.arr 61 6 (l.map id))]:=by
 refine Fn.mk' 8 [(0,(aC (cR 6 ((l).map id))))] Try.func94 rfl rfl rfl rfl ?_
 intro W0 T0
 refine dU 0 rfl (fun hlen0=>?_)
 refine ae aa 1 rfl ?_
 refine ah ?_
 refine aH aa 1 rfl ?_
 refine iM (aq.plain rfl) rfl rfl Try.underlying29 rfl rfl (fun bn1 hbn1=>?_)
 refine af ?_
 refine an rfl (fun hc2=>?_) (fun hc2=>?_)
 ·
  have hc2':=hc2;try simp only [bA,bW] at hc2'
  refine ae aa 1 rfl ?_
  refine aA ?_
  refine ax ?_
  refine dm (aJ.nil 2 61 6 (by decide) rfl) ?_
  refine aw aa [0] 1 rfl rfl rfl rfl rfl rfl ?_ ?_
  ·(have h0:=hbn1 (by assumption);have h1:l=[]:=by (cases l with|nil=>rfl|cons=>simp at h0));subst h1;rfl
  ·(have h0:=hbn1 (by assumption);have h1:l=[]:=by (cases l with|nil=>rfl|cons=>simp at h0));subst h1;rfl
 have hc2':=hc2;try simp only [bA,bW] at hc2'
 refine aU ?_
 refine eZ ?_
 refine aP 1 [0] (ec (ys:=[]) (rows:=(([]:List (List D))).map id) 0 zL rfl (by decide) trivial rfl rfl rfl rfl) rfl ?_
 refine ad aa 1 rfl ?_
 refine aP 2 [1] (dA (m:=l.length) (N:=0+l.length) (k2:=1) (ys:=(l).map id) zL rfl rfl rfl rfl rfl rfl (by first|omega|(simp;omega)|(simp;done)) rfl (.d _ _) (by first|omega|(simp;omega)|(simp;done)) (by first|omega|(simp;omega)|(simp;done)) fK (by decide) (by first|omega|(simp;omega)|(simp;done)) (by first|omega|(simp;omega)|(simp;done))) rfl ?_
 refine ad aa 1 rfl ?_
 refine af ?_
 refine aA ?_
 refine aw aa [1] 1 rfl rfl rfl rfl rfl rfl ?_ ?_
 ·first|rfl|simp [gz,aC]
 ·first|rfl|simp

theorem kW (v w:Value) (b:Bk) (l1:b.ag.length<=8) (l2:b.due.length<=8) (l3:b.aj.length<=30) (l4:b.aQ.length<=100):cL Try.prog 74 [(.c (.p 0 0 0 0))] [(0,(.box 98 (aZ b 1 2 3 4 (.d (.v v)) (.d (.v w))))),(1,(ek b.ag)),(2,(dS b.due)),(3,(ep b.aj)),(4,(cU b.aQ))] [0] (.v (.c (.p 1 0 0 0))) [(0,(.box 98 (aZ b 2 3 4 5 (.d (.v v)) (.d (.v w))))),(1,(.box 147 (aZ b 6 7 8 9 (.d (.v v)) (cI 0)))),(2,(ek b.ag)),(3,(dS b.due)),(4,(ep b.aj)),(5,(cU b.aQ)),(6,(ek b.ag)),(7,(dS b.due)),(8,(ep b.aj)),(9,(cU b.aQ))]:=by
 refine cL.mk 51 [(0,(aC (.p 0 0 0 0)))] 5 Try.func74 rfl rfl rfl rfl rfl rfl rfl rfl rfl ?_
 intro W0 F0 T0 pg
 refine ae aa 1 rfl ?_
 refine ae aa 7 rfl ?_
 refine ah ?_
 refine dr [0,3] [5,0,1,2,3,4] mixed rfl rfl ?_
 refine bU (kn:=[]) aa 9 rfl trivial ?_
 refine ca (n':=7) [18] [1] rfl rfl (.inl ⟨(aq.plain rfl),aM.cast (Eo 6 (fun l hl=>xD l (by rw [hl];first|omega|(simp;done)|(simp;omega))) JD rfl rfl rfl rfl rfl (by simp)) rfl⟩) rfl ?_
 refine bU (kn:=[]) aa 5 rfl trivial ?_
 refine ca (n':=8) [24] [2] rfl rfl (.inl ⟨(aq.plain rfl),aM.cast (gF 7 [2] (rn b.due (by first|omega|(simp;done)|(simp;omega))) Ho rfl rfl ⟨⟨_,rfl,.c (.s rfl (by decide) (by first|omega|(simp;done)|(simp;omega)))⟩,trivial⟩ trivial ⟨(GR _),trivial⟩ rfl rfl rfl rfl) rfl⟩) rfl ?_
 refine bU (kn:=[]) aa 5 rfl trivial ?_
 refine ca (n':=9) [30] [3] rfl rfl (.inl ⟨(aq.plain rfl),aM.cast (gF 8 [3] (xE b.aj (by first|omega|(simp;done)|(simp;omega))) JC rfl rfl ⟨⟨_,rfl,.c (.s rfl (by decide) (by first|omega|(simp;done)|(simp;omega)))⟩,trivial⟩ trivial ⟨(Cj _),trivial⟩ rfl rfl rfl rfl) rfl⟩) rfl ?_
 refine bU (kn:=[]) aa 5 rfl trivial ?_
 refine ca (n':=10) [36] [4] rfl rfl (.inl ⟨(aq.plain rfl),aM.cast (gF 9 [4] (nS b.aQ (by first|omega|(simp;done)|(simp;omega))) HA rfl rfl ⟨⟨_,rfl,.c (.s rfl (by decide) (by first|omega|(simp;done)|(simp;omega)))⟩,trivial⟩ trivial ⟨(yc _),trivial⟩ rfl rfl rfl rfl) rfl⟩) rfl ?_
 refine bU (kn:=[]) aa 16 rfl trivial ?_
 refine ef [3] [5,9,8,7,6,0,1,2,3,4] rfl rfl (by kernel_rfl) ?_
 refine then_ok ?_
 refine ae aa 2 rfl ?_
 refine aA ?_
 refine aw aa [0,5,1,2,3,4,6,7,8,9] 10 rfl rfl rfl rfl rfl rfl ?_ ?_
 all_goals first|rfl|(simp [aD,aZ,bg];done)|(simp [aD,aZ,bg];omega)
theorem fM (v w:Value) (b c:Bk) (e:Int) (he:e=0):cL Try.prog 77 [(.c (.p 0 0 0 0)),(.c (.p 1 0 0 0))] [(0,(.box 98 (aZ b 2 3 4 5 (.d (.v v)) (.d (.v w))))),(1,(.box 147 (aZ c 6 7 8 9 (.d (.v v)) (cI e)))),(2,(ek b.ag)),(3,(dS b.due)),(4,(ep b.aj)),(5,(cU b.aQ)),(6,(ek c.ag)),(7,(dS c.due)),(8,(ep c.aj)),(9,(cU c.aQ))] [0] (.v (.c (cI e))) [(0,(.box 98 (aZ c 1 2 3 4 (.d (.v v)) (.d (.v w))))),(1,(ek c.ag)),(2,(dS c.due)),(3,(ep c.aj)),(4,(cU c.aQ))]:=by
 refine cL.mk 21 [(0,(aC (.p 0 0 0 0))),(1,(aC (.p 1 0 0 0)))] 10 Try.func77 rfl rfl rfl rfl rfl rfl rfl rfl rfl ?_
 intro W0 F0 T0 pg
 refine ae aa 1 rfl ?_
 refine ah ?_
 refine ae aa 5 rfl ?_
 refine an rfl (fun hc1=>?_) (fun hc1=>?_)
 ·
  have hc1':=of_decide_eq_true hc1
  refine ay ?_
  refine ad aa 8 rfl ?_
  refine af ?_
  refine ae aa 5 rfl ?_
  refine aA ?_
  refine aw aa [0,6,7,8,9] 5 rfl rfl rfl rfl rfl rfl ?_ ?_
  all_goals first|rfl|(simp [aD,aZ,bg];done)|(simp [aD,aZ,bg];omega)
 have hc1':=of_decide_eq_false hc1
 (exfalso;simp_all)
theorem gI (v w:Value) (b c:Bk) (e:Int) (he:¬e=0):cL Try.prog 77 [(.c (.p 0 0 0 0)),(.c (.p 1 0 0 0))] [(0,(.box 98 (aZ b 2 3 4 5 (.d (.v v)) (.d (.v w))))),(1,(.box 147 (aZ c 6 7 8 9 (.d (.v v)) (cI e)))),(2,(ek b.ag)),(3,(dS b.due)),(4,(ep b.aj)),(5,(cU b.aQ)),(6,(ek c.ag)),(7,(dS c.due)),(8,(ep c.aj)),(9,(cU c.aQ))] [0] (.v (.c (cI e))) [(0,(.box 98 (aZ b 1 2 3 4 (.d (.v v)) (.d (.v w))))),(1,(ek b.ag)),(2,(dS b.due)),(3,(ep b.aj)),(4,(cU b.aQ))]:=by
 refine cL.mk 21 [(0,(aC (.p 0 0 0 0))),(1,(aC (.p 1 0 0 0)))] 10 Try.func77 rfl rfl rfl rfl rfl rfl rfl rfl rfl ?_
 intro W0 F0 T0 pg
 refine ae aa 1 rfl ?_
 refine ah ?_
 refine ae aa 5 rfl ?_
 refine an rfl (fun hc1=>?_) (fun hc1=>?_)
 ·
  have hc1':=of_decide_eq_true hc1
  (exfalso;simp_all)
 have hc1':=of_decide_eq_false hc1
 refine aU ?_
 refine ae aa 5 rfl ?_
 refine aA ?_
 refine aw aa [0,2,3,4,5] 5 rfl rfl rfl rfl rfl rfl ?_ ?_
 all_goals first|rfl|(simp [aD,aZ,bg];done)|(simp [aD,aZ,bg];omega)

theorem EK (x:Nat->Value) (hx:∀ i,(x i).oneCell'=true) (s0 s1:bO) (n0 n1:Int) (w0 w1:List bS) (idn kind az move sum:Int) (l0:w0.length<=60) (l1:w1.length<=60) (m0:s0.kept.length<=40) (m1:s1.kept.length<=40) (v0:List bS) (v1:List bS) (a2:Answer) (hr:dQ s0 s1 n0 n1 w0 w1 (⟨idn,kind,0,az,move,sum⟩:aV)=(v0,v1,a2)):cL Try.prog 66 [(.c (.p 0 0 0 0)),(.c (.q (cX (⟨idn,kind,0,az,move,sum⟩:aV)) 0))] [(0,(.box 98 (((((((((bg x).set 5 (cI s0.bG)).set 6 (dh s0.kept)).set 7 (cI s1.bG)).set 8 (dh s1.kept)).set 9 (cI n0)).set 10 (cI n1)).set 11 (ed w0)).set 12 (ed w1))))] [0] (.v (.g [cI a2.err,cI a2.ba])) [(0,(.box 98 (((((((((bg x).set 5 (cI s0.bG)).set 6 (dh s0.kept)).set 7 (cI s1.bG)).set 8 (dh s1.kept)).set 9 (cI n0)).set 10 (cI n1)).set 11 (ed v0)).set 12 (ed v1))))]:=by
 refine cL.GO 83 [(0,(aC (.p 0 0 0 0))),(1,(aC (.q (cX (⟨idn,kind,0,az,move,sum⟩:aV)) 0)))] 1 Try.func66 rfl rfl rfl rfl rfl rfl rfl rfl rfl ?_
 intro W0 F0 T0 pg hF
 have hF0:∀ b,F0 b->(pg 0).g=b:=fun b hb=>by obtain ⟨k,hk,h⟩:=hF b hb;rw [List.mem_singleton.1 hk] at h;exact h
 refine ae aa 1 rfl ?_
 refine ah ?_
 refine cA 20 (false) ?_ ?_
 ·
  refine ay ?_
  refine ad aa 4 rfl ?_
  refine aE (aN rfl rfl rfl (show _=some (Value.bool false) from rfl)) rfl ?_
  refine ad aa 7 rfl ?_
  refine af ?_
  exact aJ.bK 12 rfl rfl (by first|(simp [];done)|(simp_all;done)|(exfalso;simp_all;done)|(simp_all;omega)) rfl
 refine an rfl (fun hno=>by cases hno) (fun _=>?_)
 refine aU ?_
 refine ae aa 6 rfl ?_
 refine aH aa 5 rfl ?_
 refine aE (df (i:=1) rfl rfl rfl Try.underlying38 ka rfl (by decide)) rfl ?_
 refine ad aa 1 rfl ?_
 refine aP 3 [2,1,0] (ch 2 (nT w1 (by first|omega|(simp;done)|(simp;omega))) Ht rfl rfl ⟨⟨_,rfl,.c (.d _)⟩,trivial⟩ trivial ⟨(fun _ _ _ _=>trivial),trivial⟩ rfl rfl rfl rfl) rfl ?_
 refine ad aa 1 rfl ?_
 refine af ?_
 refine ah ?_
 refine ah ?_
 refine bd [0,1,4,5,6] [2,1,0] mixed rfl rfl ?_
 refine aF (kn:=[]) aa 8 rfl trivial ?_
 refine aX (n':=3) [42,39] [0] rfl rfl (.inl ⟨(aq.plain rfl),aM.cast (df (i:=0) rfl rfl rfl Try.underlying35 kb rfl (by decide)) rfl⟩) rfl ?_
 refine aF (kn:=[]) aa 2 rfl trivial ?_
 refine aX (n':=3) [45] [] rfl rfl (.inl ⟨(aq.plain rfl),aM.cast (cJ rfl rfl rfl rfl rfl Try.underlying32) rfl⟩) rfl ?_
 refine aF (kn:=[]) aa 1 rfl trivial ?_
 refine bF [2,1,0] rfl rfl rfl rfl (by kernel_rfl) ?_
 refine af ?_
 refine aY ?_
 refine cz (β:=Nat×List bS) (fun (p:Nat×List bS)=>match p with|(q,m)=>⟨[(0,(aC (.p 0 0 0 0))),(1,(aC (.q (cX (⟨idn,kind,0,az,move,sum⟩:aV)) 0))),(4,(aC (.p 1 0 0 0))),(5,(aI 1)),(6,(aC (.s 2 0 5 m.length))),(45,(aC (dh s0.kept))),(46,(aI (↑s0.kept.length:Int))),(47,(aI (↑q:Int)))],[(2,(HY m)),(1,(.box 65 [(cI 0),(cI 0)])),(0,(.box 98 (((((((((bg x).set 5 (cI s0.bG)).set 6 (dh s0.kept)).set 7 (cI s1.bG)).set 8 (dh s1.kept)).set 9 (cI n0)).set 10 (cI n1)).set 11 (ed w0)).set 12 (ed w1))))],3⟩) (fun (p:Nat×List bS)=>match p with|(q,m)=>q<=s0.kept.length/\m=w1++(s0.kept.take q).map (fun t=>(⟨t,-1⟩:bS))) (fun (p:Nat×List bS)=>match p with|(q,m)=>s0.kept.length - q) (0,w1) ?_ ?_ ?_
 ·exact ⟨by omega,by simp⟩
 ·exact aJ.cc id (by refine ⟨?_,?_,?_,?_,?_,?_,?_,?_,trivial⟩<;>first|rfl|(simp only [bn];done)|(congr 3;omega)|(congr 4;omega)|(simp only [bo];rfl)) (by refine ⟨?_,?_,?_,trivial⟩<;>first|rfl|(simp only [bn];done)|(congr 3;omega)|(congr 4;omega)|(simp only [bo];rfl)) rfl
 rintro ⟨q,m⟩ ⟨hi0_0,hi0_1⟩
 have hml:m.length=w1.length+q:=by rw [hi0_1];simp;omega
 refine ae aa 1 rfl ?_
 refine ah ?_
 refine an rfl (fun hc2=>?_) (fun hc2=>?_)
 ·
  have hc2':=of_decide_eq_true hc2
  refine aU ?_
  refine ah ?_
  refine aY ?_
  refine eZ ?_
  obtain ⟨x1,hx1⟩:=cr (xs:=s0.kept) (i:=q) (by first|omega|(simp;done)|(simp;omega))
  refine aE (db (i:=q) rfl rfl rfl Try.underlying32 np (by first|omega|(simp;done)|(simp;omega)) (bz hx1)) rfl ?_
  refine ad aa 3 rfl ?_
  refine af ?_
  refine ay ?_
  refine ad aa 3 rfl ?_
  refine aP 5 [4,3,2,1,0] (ec (ys:=[(0,(.g [(cI x1.number),(cI x1.kind),(cI x1.ba),(cI x1.sum),(cI (-1))]))]) (rows:=([(⟨x1,(-1)⟩:bS)]).map fP) 4 ns rfl (by decide) ⟨⟨rfl,rfl⟩,trivial⟩ rfl rfl rfl rfl) rfl ?_
  refine aP 6 [5,4,3,1,0] (dA (m:=1) (N:=m.length+1) (k2:=5) (ys:=([(⟨x1,(-1)⟩:bS)]).map fP) ns rfl rfl rfl rfl rfl rfl (by first|omega|(simp;done)|(simp;omega)) rfl (.s rfl (by first|omega|(simp;done)|(simp;omega))) (by first|omega|(simp;done)|(simp;omega)) (by first|omega|(simp;done)|(simp;omega)) fK (by decide) (by first|omega|(simp;done)|(simp;omega)) (by first|omega|(simp;done)|(simp;omega))) rfl ?_
  refine ad aa 1 rfl ?_
  refine cf ?_
  refine bq ?_
  refine then_ok ?_
  refine ay ?_
  refine aE (aN rfl rfl rfl (aK (by first|omega|(simp;done)|(simp;omega)))) rfl ?_
  refine ad aa 1 rfl ?_
  refine af ?_
  refine ⟨(q+1,m++([(⟨x1,(-1)⟩:bS)])),⟨by omega,by rw [List.take_add_one,hx1,List.map_append,<-List.append_assoc,<-hi0_1];rfl⟩,by first|omega|(simp;done)|(simp;omega),aJ.cc (fun k=>if k=2 then 5 else k) (by refine ⟨?_,?_,?_,?_,?_,?_,?_,?_,trivial⟩<;>first|rfl|(simp only [bn];done)|(congr 3;omega)|(congr 4;omega)|(simp only [bo];rfl)|(first|exact cD rfl (by omega)|exact fy rfl (by simp only [List.length_append,List.length_cons,List.length_nil];omega))) (by refine ⟨?_,?_,?_,trivial⟩<;>first|rfl|(simp only [bn];done)|(congr 3;omega)|(congr 4;omega)|(simp only [bo];rfl)) rfl⟩
 have hc2':=of_decide_eq_false hc2
 refine cp ?_
 refine aR ?_
 refine aR ?_
 refine bM ?_
 refine then_ok ?_
 refine ah ?_
 refine bd [0,1,4,5,6,45,46,47] [2,1,0] mixed rfl rfl ?_
 refine aF (kn:=[]) aa 9 rfl trivial ?_
 refine aX (n':=3) [65,62] [0] rfl rfl (.inl ⟨(aq.plain rfl),aM.cast (df (i:=0) rfl rfl rfl Try.underlying36 fO rfl (by decide)) rfl⟩) rfl ?_
 refine aF (kn:=[]) aa 2 rfl trivial ?_
 refine aX (n':=4) [68] [] rfl rfl (.inl ⟨(aq.plain rfl),aM.cast (ec (ys:=[(0,(.g [(cI 0),(cI 0),(cI 0),(cI 0),(cI n0)]))]) (rows:=([(⟨(⟨0,0,0,0⟩:aS),n0⟩:bS)]).map fP) 3 ns rfl (by decide) ⟨⟨rfl,rfl⟩,trivial⟩ rfl rfl rfl rfl) rfl⟩) rfl ?_
 refine aX (n':=5) [57,69] [3,2] rfl rfl (.inl ⟨(aq.plain rfl),aM.cast (dA (m:=1) (N:=m.length+1) (k2:=4) (ys:=([(⟨(⟨0,0,0,0⟩:aS),n0⟩:bS)]).map fP) ns rfl rfl rfl rfl rfl rfl (by first|omega|(simp;done)|(simp;omega)) rfl (.s rfl (by first|omega|(simp;done)|(simp;omega))) (by first|omega|(simp;done)|(simp;omega)) (by first|omega|(simp;done)|(simp;omega)) fK (by decide) (by first|omega|(simp;done)|(simp;omega)) (by first|omega|(simp;done)|(simp;omega))) rfl⟩) rfl ?_
 refine bF [4,1,0] rfl rfl rfl rfl (by kernel_rfl) ?_
 refine ad aa 1 rfl ?_
 refine af ?_
 refine ah ?_
 refine aH aa 1 rfl ?_
 refine aE (dH rfl rfl rfl rfl rfl Try.underlying37) rfl ?_
 refine ad aa 1 rfl ?_
 refine af ?_
 refine an rfl (fun hc3=>?_) (fun hc3=>?_)
 ·
  have hc3':=of_decide_eq_true hc3
  refine ae aa 2 rfl ?_
  refine aA ?_
  refine ax ?_
  have hX:dQ s0 s1 n0 n1 w0 w1 (⟨idn,kind,0,az,move,sum⟩:aV)=(w0,w1,(⟨5,0⟩:Answer)):=by
    (have ht:s0.kept.take q=s0.kept:=List.take_of_length_le (by omega));rw [ht] at hi0_1;unfold dQ;dsimp only;rw [if_pos rfl];unfold gZ gr;rw [<-hi0_1];first|rw [if_pos (by simp;omega)]|rw [if_neg (by simp;omega)]
  rw [hX] at hr;clear hX
  simp only [Prod.mk.injEq] at hr;obtain ⟨rfl,rfl,rfl⟩:=hr
  refine aw aa [0,1] 1 rfl rfl rfl rfl rfl rfl ?_ ?_
  all_goals first|rfl|(simp [aD,aZ,bg];done)|(simp [aD,aZ,bg];omega)
 have hc3':=of_decide_eq_false hc3
 refine aU ?_
 refine tL (s':=[(0,(aC (.p 0 0 0 0))),(1,(aC (.q (cX (⟨idn,kind,0,az,move,sum⟩:aV)) 0))),(4,(aC (.p 1 0 0 0))),(5,(aI 1)),(6,(aC (ed (m++([(⟨(⟨0,0,0,0⟩:aS),n0⟩:bS)]))))),(45,(aC (dh s0.kept))),(46,(aI (↑s0.kept.length:Int))),(47,(aI (↑q:Int))),(70,(aC (ed (m++([(⟨(⟨0,0,0,0⟩:aS),n0⟩:bS)]))))),(71,(aC (ed (m++([(⟨(⟨0,0,0,0⟩:aS),n0⟩:bS)]))))),(72,(aI (↑(m.length+1):Int))),(73,(aB (decide ((↑(m.length+1):Int) > 60))))]) (h':=[(1,(.box 65 [(cI 0),(cI 0)])),(0,(.box 98 (((((((((bg x).set 5 (cI s0.bG)).set 6 (dh s0.kept)).set 7 (cI s1.bG)).set 8 (dh s1.kept)).set 9 (cI n0)).set 10 (cI n1)).set 11 (ed w0)).set 12 (ed w1))))]) hF0 4 rfl rfl ⟨⟨_,rfl,.inl ⟨rfl,rfl⟩⟩,⟨_,rfl,.inl ⟨rfl,rfl⟩⟩,⟨_,rfl,.inl ⟨rfl,rfl⟩⟩,⟨_,rfl,.inl ⟨rfl,rfl⟩⟩,⟨_,rfl,.inr ⟨_,_,rfl,rfl,.s rfl (by decide) (by first|omega|(simp;done)|(simp;omega))⟩⟩,⟨_,rfl,.inl ⟨rfl,rfl⟩⟩,⟨_,rfl,.inl ⟨rfl,rfl⟩⟩,⟨_,rfl,.inl ⟨rfl,rfl⟩⟩,⟨_,rfl,.inr ⟨_,_,rfl,rfl,.s rfl (by decide) (by first|omega|(simp;done)|(simp;omega))⟩⟩,⟨_,rfl,.inr ⟨_,_,rfl,rfl,.s rfl (by decide) (by first|omega|(simp;done)|(simp;omega))⟩⟩,⟨_,rfl,.inl ⟨rfl,rfl⟩⟩,⟨_,rfl,.inl ⟨rfl,rfl⟩⟩,trivial⟩ ⟨rfl,rfl,trivial⟩ rfl ?_
 refine aH aa 6 rfl ?_
 refine aE (df (i:=1) rfl rfl rfl Try.underlying38 ka rfl (by decide)) rfl ?_
 refine ad aa 1 rfl ?_
 refine af ?_
 refine ae aa 2 rfl ?_
 refine aA ?_
 have hX:dQ s0 s1 n0 n1 w0 w1 (⟨idn,kind,0,az,move,sum⟩:aV)=(w0,m++([(⟨(⟨0,0,0,0⟩:aS),n0⟩:bS)]),(⟨0,0⟩:Answer)):=by
   (have ht:s0.kept.take q=s0.kept:=List.take_of_length_le (by omega));rw [ht] at hi0_1;unfold dQ;dsimp only;rw [if_pos rfl];unfold gZ gr;rw [<-hi0_1];first|rw [if_pos (by simp;omega)]|rw [if_neg (by simp;omega)]
 rw [hX] at hr;clear hX
 simp only [Prod.mk.injEq] at hr;obtain ⟨rfl,rfl,rfl⟩:=hr
 refine aw aa [0,1] 1 rfl rfl rfl rfl rfl rfl ?_ ?_
 all_goals first|rfl|(simp [aD,aZ,bg];done)|(simp [aD,aZ,bg];omega)
theorem EJ (x:Nat->Value) (hx:∀ i,(x i).oneCell'=true) (s0 s1:bO) (n0 n1:Int) (w0 w1:List bS) (idn kind az move sum:Int) (l0:w0.length<=60) (l1:w1.length<=60) (m0:s0.kept.length<=40) (m1:s1.kept.length<=40) (v0:List bS) (v1:List bS) (a2:Answer) (hr:dQ s0 s1 n0 n1 w0 w1 (⟨idn,kind,1,az,move,sum⟩:aV)=(v0,v1,a2)):cL Try.prog 66 [(.c (.p 0 0 0 0)),(.c (.q (cX (⟨idn,kind,1,az,move,sum⟩:aV)) 0))] [(0,(.box 98 (((((((((bg x).set 5 (cI s0.bG)).set 6 (dh s0.kept)).set 7 (cI s1.bG)).set 8 (dh s1.kept)).set 9 (cI n0)).set 10 (cI n1)).set 11 (ed w0)).set 12 (ed w1))))] [0] (.v (.g [cI a2.err,cI a2.ba])) [(0,(.box 98 (((((((((bg x).set 5 (cI s0.bG)).set 6 (dh s0.kept)).set 7 (cI s1.bG)).set 8 (dh s1.kept)).set 9 (cI n0)).set 10 (cI n1)).set 11 (ed v0)).set 12 (ed v1))))]:=by
 refine cL.GO 83 [(0,(aC (.p 0 0 0 0))),(1,(aC (.q (cX (⟨idn,kind,1,az,move,sum⟩:aV)) 0)))] 1 Try.func66 rfl rfl rfl rfl rfl rfl rfl rfl rfl ?_
 intro W0 F0 T0 pg hF
 have hF0:∀ b,F0 b->(pg 0).g=b:=fun b hb=>by obtain ⟨k,hk,h⟩:=hF b hb;rw [List.mem_singleton.1 hk] at h;exact h
 refine ae aa 1 rfl ?_
 refine ah ?_
 refine cA 20 (false) ?_ ?_
 ·
  refine ay ?_
  refine ad aa 4 rfl ?_
  refine aE (aN rfl rfl rfl (show _=some (Value.bool true) from rfl)) rfl ?_
  refine ad aa 5 rfl ?_
  refine dG (aq.yes rfl rfl rfl) (aN rfl rfl rfl (show _=some (Value.bool false) from rfl)) rfl rfl ?_
  refine ad aa 1 rfl ?_
  refine af ?_
  exact aJ.bK 12 rfl rfl (by first|(simp [];done)|(simp_all;done)|(exfalso;simp_all;done)|(simp_all;omega)) rfl
 refine an rfl (fun hno=>by cases hno) (fun _=>?_)
 refine aU ?_
 refine ae aa 6 rfl ?_
 refine aH aa 5 rfl ?_
 refine aE (df (i:=0) rfl rfl rfl Try.underlying38 ka rfl (by decide)) rfl ?_
 refine ad aa 1 rfl ?_
 refine aP 3 [2,1,0] (ch 2 (nT w0 (by first|omega|(simp;done)|(simp;omega))) Ht rfl rfl ⟨⟨_,rfl,.c (.d _)⟩,trivial⟩ trivial ⟨(fun _ _ _ _=>trivial),trivial⟩ rfl rfl rfl rfl) rfl ?_
 refine ad aa 1 rfl ?_
 refine af ?_
 refine ah ?_
 refine ah ?_
 refine bd [0,1,4,5,6] [2,1,0] mixed rfl rfl ?_
 refine aF (kn:=[]) aa 8 rfl trivial ?_
 refine aX (n':=3) [42,39] [0] rfl rfl (.inl ⟨(aq.plain rfl),aM.cast (df (i:=1) rfl rfl rfl Try.underlying35 kb rfl (by decide)) rfl⟩) rfl ?_
 refine aF (kn:=[]) aa 2 rfl trivial ?_
 refine aX (n':=3) [45] [] rfl rfl (.inl ⟨(aq.plain rfl),aM.cast (cJ rfl rfl rfl rfl rfl Try.underlying32) rfl⟩) rfl ?_
 refine aF (kn:=[]) aa 1 rfl trivial ?_
 refine bF [2,1,0] rfl rfl rfl rfl (by kernel_rfl) ?_
 refine af ?_
 refine aY ?_
 refine cz (β:=Nat×List bS) (fun (p:Nat×List bS)=>match p with|(q,m)=>⟨[(0,(aC (.p 0 0 0 0))),(1,(aC (.q (cX (⟨idn,kind,1,az,move,sum⟩:aV)) 0))),(4,(aC (.p 1 0 0 0))),(5,(aI 0)),(6,(aC (.s 2 0 5 m.length))),(45,(aC (dh s1.kept))),(46,(aI (↑s1.kept.length:Int))),(47,(aI (↑q:Int)))],[(2,(HY m)),(1,(.box 65 [(cI 0),(cI 0)])),(0,(.box 98 (((((((((bg x).set 5 (cI s0.bG)).set 6 (dh s0.kept)).set 7 (cI s1.bG)).set 8 (dh s1.kept)).set 9 (cI n0)).set 10 (cI n1)).set 11 (ed w0)).set 12 (ed w1))))],3⟩) (fun (p:Nat×List bS)=>match p with|(q,m)=>q<=s1.kept.length/\m=w0++(s1.kept.take q).map (fun t=>(⟨t,-1⟩:bS))) (fun (p:Nat×List bS)=>match p with|(q,m)=>s1.kept.length - q) (0,w0) ?_ ?_ ?_
 ·exact ⟨by omega,by simp⟩
 ·exact aJ.cc id (by refine ⟨?_,?_,?_,?_,?_,?_,?_,?_,trivial⟩<;>first|rfl|(simp only [bn];done)|(congr 3;omega)|(congr 4;omega)|(simp only [bo];rfl)) (by refine ⟨?_,?_,?_,trivial⟩<;>first|rfl|(simp only [bn];done)|(congr 3;omega)|(congr 4;omega)|(simp only [bo];rfl)) rfl
 rintro ⟨q,m⟩ ⟨hi0_0,hi0_1⟩
 have hml:m.length=w0.length+q:=by rw [hi0_1];simp;omega
 refine ae aa 1 rfl ?_
 refine ah ?_
 refine an rfl (fun hc2=>?_) (fun hc2=>?_)
 ·
  have hc2':=of_decide_eq_true hc2
  refine aU ?_
  refine ah ?_
  refine aY ?_
  refine eZ ?_
  obtain ⟨x1,hx1⟩:=cr (xs:=s1.kept) (i:=q) (by first|omega|(simp;done)|(simp;omega))
  refine aE (db (i:=q) rfl rfl rfl Try.underlying32 np (by first|omega|(simp;done)|(simp;omega)) (bz hx1)) rfl ?_
  refine ad aa 3 rfl ?_
  refine af ?_
  refine ay ?_
  refine ad aa 3 rfl ?_
  refine aP 5 [4,3,2,1,0] (ec (ys:=[(0,(.g [(cI x1.number),(cI x1.kind),(cI x1.ba),(cI x1.sum),(cI (-1))]))]) (rows:=([(⟨x1,(-1)⟩:bS)]).map fP) 4 ns rfl (by decide) ⟨⟨rfl,rfl⟩,trivial⟩ rfl rfl rfl rfl) rfl ?_
  refine aP 6 [5,4,3,1,0] (dA (m:=1) (N:=m.length+1) (k2:=5) (ys:=([(⟨x1,(-1)⟩:bS)]).map fP) ns rfl rfl rfl rfl rfl rfl (by first|omega|(simp;done)|(simp;omega)) rfl (.s rfl (by first|omega|(simp;done)|(simp;omega))) (by first|omega|(simp;done)|(simp;omega)) (by first|omega|(simp;done)|(simp;omega)) fK (by decide) (by first|omega|(simp;done)|(simp;omega)) (by first|omega|(simp;done)|(simp;omega))) rfl ?_
  refine ad aa 1 rfl ?_
  refine cf ?_
  refine bq ?_
  refine then_ok ?_
  refine ay ?_
  refine aE (aN rfl rfl rfl (aK (by first|omega|(simp;done)|(simp;omega)))) rfl ?_
  refine ad aa 1 rfl ?_
  refine af ?_
  refine ⟨(q+1,m++([(⟨x1,(-1)⟩:bS)])),⟨by omega,by rw [List.take_add_one,hx1,List.map_append,<-List.append_assoc,<-hi0_1];rfl⟩,by first|omega|(simp;done)|(simp;omega),aJ.cc (fun k=>if k=2 then 5 else k) (by refine ⟨?_,?_,?_,?_,?_,?_,?_,?_,trivial⟩<;>first|rfl|(simp only [bn];done)|(congr 3;omega)|(congr 4;omega)|(simp only [bo];rfl)|(first|exact cD rfl (by omega)|exact fy rfl (by simp only [List.length_append,List.length_cons,List.length_nil];omega))) (by refine ⟨?_,?_,?_,trivial⟩<;>first|rfl|(simp only [bn];done)|(congr 3;omega)|(congr 4;omega)|(simp only [bo];rfl)) rfl⟩
 have hc2':=of_decide_eq_false hc2
 refine cp ?_
 refine aR ?_
 refine aR ?_
 refine bM ?_
 refine then_ok ?_
 refine ah ?_
 refine bd [0,1,4,5,6,45,46,47] [2,1,0] mixed rfl rfl ?_
 refine aF (kn:=[]) aa 9 rfl trivial ?_
 refine aX (n':=3) [65,62] [0] rfl rfl (.inl ⟨(aq.plain rfl),aM.cast (df (i:=1) rfl rfl rfl Try.underlying36 fO rfl (by decide)) rfl⟩) rfl ?_
 refine aF (kn:=[]) aa 2 rfl trivial ?_
 refine aX (n':=4) [68] [] rfl rfl (.inl ⟨(aq.plain rfl),aM.cast (ec (ys:=[(0,(.g [(cI 0),(cI 0),(cI 0),(cI 0),(cI n1)]))]) (rows:=([(⟨(⟨0,0,0,0⟩:aS),n1⟩:bS)]).map fP) 3 ns rfl (by decide) ⟨⟨rfl,rfl⟩,trivial⟩ rfl rfl rfl rfl) rfl⟩) rfl ?_
 refine aX (n':=5) [57,69] [3,2] rfl rfl (.inl ⟨(aq.plain rfl),aM.cast (dA (m:=1) (N:=m.length+1) (k2:=4) (ys:=([(⟨(⟨0,0,0,0⟩:aS),n1⟩:bS)]).map fP) ns rfl rfl rfl rfl rfl rfl (by first|omega|(simp;done)|(simp;omega)) rfl (.s rfl (by first|omega|(simp;done)|(simp;omega))) (by first|omega|(simp;done)|(simp;omega)) (by first|omega|(simp;done)|(simp;omega)) fK (by decide) (by first|omega|(simp;done)|(simp;omega)) (by first|omega|(simp;done)|(simp;omega))) rfl⟩) rfl ?_
 refine bF [4,1,0] rfl rfl rfl rfl (by kernel_rfl) ?_
 refine ad aa 1 rfl ?_
 refine af ?_
 refine ah ?_
 refine aH aa 1 rfl ?_
 refine aE (dH rfl rfl rfl rfl rfl Try.underlying37) rfl ?_
 refine ad aa 1 rfl ?_
 refine af ?_
 refine an rfl (fun hc3=>?_) (fun hc3=>?_)
 ·
  have hc3':=of_decide_eq_true hc3
  refine ae aa 2 rfl ?_
  refine aA ?_
  refine ax ?_
  have hX:dQ s0 s1 n0 n1 w0 w1 (⟨idn,kind,1,az,move,sum⟩:aV)=(w0,w1,(⟨5,0⟩:Answer)):=by
    (have ht:s1.kept.take q=s1.kept:=List.take_of_length_le (by omega));rw [ht] at hi0_1;unfold dQ;dsimp only;rw [if_neg (by decide),if_pos rfl];unfold gZ gr;rw [<-hi0_1];first|rw [if_pos (by simp;omega)]|rw [if_neg (by simp;omega)]
  rw [hX] at hr;clear hX
  simp only [Prod.mk.injEq] at hr;obtain ⟨rfl,rfl,rfl⟩:=hr
  refine aw aa [0,1] 1 rfl rfl rfl rfl rfl rfl ?_ ?_
  all_goals first|rfl|(simp [aD,aZ,bg];done)|(simp [aD,aZ,bg];omega)
 have hc3':=of_decide_eq_false hc3
 refine aU ?_
 refine tL (s':=[(0,(aC (.p 0 0 0 0))),(1,(aC (.q (cX (⟨idn,kind,1,az,move,sum⟩:aV)) 0))),(4,(aC (.p 1 0 0 0))),(5,(aI 0)),(6,(aC (ed (m++([(⟨(⟨0,0,0,0⟩:aS),n1⟩:bS)]))))),(45,(aC (dh s1.kept))),(46,(aI (↑s1.kept.length:Int))),(47,(aI (↑q:Int))),(70,(aC (ed (m++([(⟨(⟨0,0,0,0⟩:aS),n1⟩:bS)]))))),(71,(aC (ed (m++([(⟨(⟨0,0,0,0⟩:aS),n1⟩:bS)]))))),(72,(aI (↑(m.length+1):Int))),(73,(aB (decide ((↑(m.length+1):Int) > 60))))]) (h':=[(1,(.box 65 [(cI 0),(cI 0)])),(0,(.box 98 (((((((((bg x).set 5 (cI s0.bG)).set 6 (dh s0.kept)).set 7 (cI s1.bG)).set 8 (dh s1.kept)).set 9 (cI n0)).set 10 (cI n1)).set 11 (ed w0)).set 12 (ed w1))))]) hF0 4 rfl rfl ⟨⟨_,rfl,.inl ⟨rfl,rfl⟩⟩,⟨_,rfl,.inl ⟨rfl,rfl⟩⟩,⟨_,rfl,.inl ⟨rfl,rfl⟩⟩,⟨_,rfl,.inl ⟨rfl,rfl⟩⟩,⟨_,rfl,.inr ⟨_,_,rfl,rfl,.s rfl (by decide) (by first|omega|(simp;done)|(simp;omega))⟩⟩,⟨_,rfl,.inl ⟨rfl,rfl⟩⟩,⟨_,rfl,.inl ⟨rfl,rfl⟩⟩,⟨_,rfl,.inl ⟨rfl,rfl⟩⟩,⟨_,rfl,.inr ⟨_,_,rfl,rfl,.s rfl (by decide) (by first|omega|(simp;done)|(simp;omega))⟩⟩,⟨_,rfl,.inr ⟨_,_,rfl,rfl,.s rfl (by decide) (by first|omega|(simp;done)|(simp;omega))⟩⟩,⟨_,rfl,.inl ⟨rfl,rfl⟩⟩,⟨_,rfl,.inl ⟨rfl,rfl⟩⟩,trivial⟩ ⟨rfl,rfl,trivial⟩ rfl ?_
 refine aH aa 6 rfl ?_
 refine aE (df (i:=0) rfl rfl rfl Try.underlying38 ka rfl (by decide)) rfl ?_
 refine ad aa 1 rfl ?_
 refine af ?_
 refine ae aa 2 rfl ?_
 refine aA ?_
 have hX:dQ s0 s1 n0 n1 w0 w1 (⟨idn,kind,1,az,move,sum⟩:aV)=(m++([(⟨(⟨0,0,0,0⟩:aS),n1⟩:bS)]),w1,(⟨0,0⟩:Answer)):=by
   (have ht:s1.kept.take q=s1.kept:=List.take_of_length_le (by omega));rw [ht] at hi0_1;unfold dQ;dsimp only;rw [if_neg (by decide),if_pos rfl];unfold gZ gr;rw [<-hi0_1];first|rw [if_pos (by simp;omega)]|rw [if_neg (by simp;omega)]
 rw [hX] at hr;clear hX
 simp only [Prod.mk.injEq] at hr;obtain ⟨rfl,rfl,rfl⟩:=hr
 refine aw aa [0,1] 1 rfl rfl rfl rfl rfl rfl ?_ ?_
 all_goals first|rfl|(simp [aD,aZ,bg];done)|(simp [aD,aZ,bg];omega)
theorem EI (x:Nat->Value) (hx:∀ i,(x i).oneCell'=true) (s0 s1:bO) (n0 n1:Int) (w0 w1:List bS) (d:aV) (l0:w0.length<=60) (l1:w1.length<=60) (m0:s0.kept.length<=40) (m1:s1.kept.length<=40) (hn:¬d.n=0/\¬d.n=1) (v0:List bS) (v1:List bS) (a2:Answer) (hr:dQ s0 s1 n0 n1 w0 w1 d=(v0,v1,a2)):cL Try.prog 66 [(.c (.p 0 0 0 0)),(.c (.q (cX d) 0))] [(0,(.box 98 (((((((((bg x).set 5 (cI s0.bG)).set 6 (dh s0.kept)).set 7 (cI s1.bG)).set 8 (dh s1.kept)).set 9 (cI n0)).set 10 (cI n1)).set 11 (ed w0)).set 12 (ed w1))))] [0] (.v (.g [cI a2.err,cI a2.ba])) [(0,(.box 98 (((((((((bg x).set 5 (cI s0.bG)).set 6 (dh s0.kept)).set 7 (cI s1.bG)).set 8 (dh s1.kept)).set 9 (cI n0)).set 10 (cI n1)).set 11 (ed v0)).set 12 (ed v1))))]:=by
 refine cL.GO 83 [(0,(aC (.p 0 0 0 0))),(1,(aC (.q (cX d) 0)))] 1 Try.func66 rfl rfl rfl rfl rfl rfl rfl rfl rfl ?_
 intro W0 F0 T0 pg hF
 have hF0:∀ b,F0 b->(pg 0).g=b:=fun b hb=>by obtain ⟨k,hk,h⟩:=hF b hb;rw [List.mem_singleton.1 hk] at h;exact h
 refine ae aa 1 rfl ?_
 refine ah ?_
 refine cA 20 ((decide (¬d.n=0)) && (decide (¬d.n=1))) ?_ ?_
 ·
  refine ay ?_
  refine ad aa 6 rfl ?_
  refine bH (t:=14) rfl (fun hb1=>?_) (fun hb1=>?_)
  ·
   have hb1':=of_decide_eq_true hb1
   refine ad aa 6 rfl ?_
   refine af ?_
   exact aJ.bK 13 rfl rfl (by first|(simp [hb1];done)|(simp_all;done)|(exfalso;simp_all;done)|(simp_all;omega)) rfl
  have hb1':=of_decide_eq_false hb1
  refine ad aa 6 rfl ?_
  refine af ?_
  exact aJ.bK 13 rfl rfl (by first|(simp [hb1];done)|(simp_all;done)|(exfalso;simp_all;done)|(simp_all;omega)) rfl
 refine an rfl (fun hc2=>?_) (fun hc2=>?_)
 ·
  have hc2':=hc2;try simp only [bA,bW] at hc2'
  refine ae aa 2 rfl ?_
  refine aA ?_
  refine ax ?_
  have hX:dQ s0 s1 n0 n1 w0 w1 d=(w0,w1,(⟨6,0⟩:Answer)):=by
    unfold dQ;rw [if_neg hn.1,if_neg hn.2]
  rw [hX] at hr;clear hX
  simp only [Prod.mk.injEq] at hr;obtain ⟨rfl,rfl,rfl⟩:=hr
  refine aw aa [0,1] 1 rfl rfl rfl rfl rfl rfl ?_ ?_
  all_goals first|rfl|(simp [aD,aZ,bg];done)|(simp [aD,aZ,bg];omega)
 have hc2':=hc2;try simp only [bA,bW] at hc2'
 (exfalso;simp at *;omega)
theorem HN (x:Nat->Value) (hx:∀ i,(x i).oneCell'=true) (aQ:List au) (days:List (List Int)) (l0:aQ.length<=100) (l1:days.length<=1000) (today2:List au) (days2:List (List Int)) (a2:Answer) (hr:fS aQ days=(today2,days2,a2)):cL Try.prog 69 [(.c (.p 0 0 0 0))] [(0,(.box 98 (((bg x).set 16 (.s 1 0 4 aQ.length)).set 17 (.s 2 0 1 days.length)))),(1,(cU aQ)),(2,(ru days))] [0] (.v (.g [cI a2.err,cI a2.ba])) [(0,(.box 98 (((bg x).set 16 (.s 1 0 4 today2.length)).set 17 (.s 2 0 1 days2.length)))),(1,(cU today2)),(2,(ru days2))]:=by
 refine cL.mk 37 [(0,(aC (.p 0 0 0 0)))] 3 Try.func69 rfl rfl rfl rfl rfl rfl rfl rfl rfl ?_
 intro W0 F0 T0 pg
 refine ae aa 1 rfl ?_
 refine aH aa 5 rfl ?_
 obtain ⟨xr0,f0,hr0⟩:∃ (xr0:List Int) (f0:cV),jh aQ=(xr0,f0):=⟨_,_,rfl⟩
 refine Ig (av':=(.t [(.c (Gu xr0)),(.g [(cI f0.err),(cI f0.at_)])])) (aq.plain rfl) (gF 4 [1] (ym aQ (by first|omega|(simp;done)|(simp;omega)) xr0 f0 hr0) JE rfl rfl ⟨⟨_,rfl,.c (.s rfl (by decide) (by first|omega|(simp;done)|(simp;omega)))⟩,trivial⟩ ⟨trivial,⟨rfl,rfl,trivial⟩,trivial⟩ ⟨(FV _),trivial⟩ rfl rfl rfl rfl) ⟨.inr ⟨_,_,_,_,_,rfl,rfl,rfl,by simp⟩,⟨.inl ⟨_,rfl,rfl⟩,.inl ⟨_,rfl,rfl⟩,trivial⟩,trivial⟩ rfl rfl rfl ?_
 refine ad aa 6 rfl ?_
 refine af ?_
 refine ah ?_
 refine ae aa 3 rfl ?_
 refine an rfl (fun hc1=>?_) (fun hc1=>?_)
 ·
  have hc1':=of_decide_eq_true hc1
  refine ae aa 4 rfl ?_
  refine aA ?_
  refine ax ?_
  have hX:fS aQ days=(aQ,days,(⟨f0.err,0⟩:Answer)):=by
    unfold fS;simp only [hr0];(repeat' split)<;>first|rfl|omega|(simp_all;done)
  rw [hX] at hr;clear hX
  simp only [Prod.mk.injEq] at hr;obtain ⟨rfl,rfl,rfl⟩:=hr
  refine aw aa [0,1,2,3] 3 rfl rfl rfl rfl rfl rfl ?_ ?_
  all_goals first|rfl|(simp [aD,aZ,bg];done)|(simp [aD,aZ,bg];omega)
 have hc1':=of_decide_eq_false hc1
 refine aU ?_
 refine aH aa 7 rfl ?_
 refine aP 6 [5,4,3,0,1,2] (ec (ys:=[(0,(.c (Gu xr0)))]) (rows:=([xr0]).map tW) 5 GA rfl (by decide) ⟨⟨rfl,rfl⟩,trivial⟩ rfl rfl rfl rfl) rfl ?_
 refine aP 7 [6,5,4,3,0,1] (dA (m:=1) (N:=days.length+1) (k2:=6) (ys:=([xr0]).map tW) GA rfl rfl rfl rfl rfl rfl (by first|omega|(simp;done)|(simp;omega)) rfl (.s rfl (by first|omega|(simp;done)|(simp;omega))) (by first|omega|(simp;done)|(simp;omega)) (by first|omega|(simp;done)|(simp;omega)) fK (by decide) (by first|omega|(simp;done)|(simp;omega)) (by first|omega|(simp;done)|(simp;omega))) rfl ?_
 refine ad aa 4 rfl ?_
 refine af ?_
 refine ga (k:=0) (q:=17) (c':=(.s 6 0 1 ((days++([xr0])).length))) rfl rfl (by first|rfl|(simp;done)|(congr 1;omega)) rfl ?_
 refine ae aa 5 rfl ?_
 refine ae aa 2 rfl ?_
 refine aA ?_
 refine cu 0 16 83 4 rfl rfl rfl ?_
 have hX:fS aQ days=(([]:List au),days++([xr0]),(⟨0,0⟩:Answer)):=by
   unfold fS;simp only [hr0];(repeat' split)<;>first|rfl|omega|(simp_all;done)
 rw [hX] at hr;clear hX
 simp only [Prod.mk.injEq] at hr;obtain ⟨rfl,rfl,rfl⟩:=hr
 refine aw aa [0,7,6,3] 3 rfl rfl rfl rfl rfl rfl ?_ ?_
 all_goals first|rfl|(simp [aD,aZ,bg];done)|(simp [aD,aZ,bg];omega)
end Go.Proofs.Ytegepioggeggaaa.Dev
