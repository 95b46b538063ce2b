/- A part of the proof: Sort7, Day1, Day4, Day5, Bank1, Bank2, Bank3, Clones, Bank4, Bank7. No condition. -/
import Derived.Test.YtegepioggeggaaaD10
import Derived.Test.YtegepioggeggaaaD08
set_option linter.unusedVariables false
set_option linter.unusedSimpArgs false
set_option maxHeartbeats 4000000
set_option maxRecDepth 100000
namespace Go.Proofs.Ytegepioggeggaaa.Dev
open Go.RowKit

theorem vO (d:List an) (a b:Int) (fn:FuncId) (bc:List (List D)) (hp:∀ x y:an,Fn Try.prog fn ([.g [cI x.ax,cI x.ba,cI x.kind,cI x.sum],.g [cI y.ax,cI y.ba,cI y.kind,cI y.sum]]++bc.map fun r=>GV.c (.q r 0)) (aI (gY x y)) []) (hen:bf Try.prog fn) (h1:b<=a+1) (h2:0<=a/\a<=9223372036854775806):Fn Try.prog 72 [(.c (iB d)),(.c (cI a)),(.c (cI b)),(.c (.d (.f fn bc)))] (.t []) []:=by
 refine Fn.mk' 53 [(0,(aC (iB d))),(1,(aI a)),(2,(aI b)),(3,(aC (.d (.f fn bc))))] Try.func72 rfl rfl rfl rfl ?_
 intro W0 T0
 refine dG 0 rfl (fun hlen0=>?_)
 refine az aa 1 rfl ?_
 refine ay (aM rfl rfl rfl (aH (by first|omega|(simp;done)|(simp;omega)))) rfl ?_
 refine ab aa 1 rfl ?_
 refine ae ?_
 refine aV ?_
 refine cx (β:=Nat) (fun (z:Nat)=>⟨[(0,(aC (iB d))),(1,(aI a)),(2,(aI b)),(3,(aC (.d (.f fn bc)))),(8,(aI (a+1)))],[],0⟩) (fun (z:Nat)=>True) (fun (z:Nat)=>0) 0 ?_ ?_ ?_
 ·trivial
 ·exact aD.bY id (by refine ⟨?_,?_,?_,?_,?_,trivial⟩<;>first|rfl|(simp only [bn];done)|(congr 3;omega)|(congr 4;omega)|(simp only [bo];rfl)) (trivial) rfl
 rintro z _
 refine af ?_
 refine ad aa 3 rfl ?_
 refine ag rfl (fun hc1=>?_) (fun hc1=>?_)
 ·
  have hc1':=of_decide_eq_true hc1
  exfalso;omega
 have hc1':=of_decide_eq_false hc1
 refine cp ?_
 refine aR ?_
 refine aR ?_
 refine bQ ?_
 refine cE aa [] 0 rfl rfl rfl rfl rfl rfl ?_ ?_
 all_goals first|rfl|(simp [au];done)|(simp [au];omega)
theorem At (d:List an) (n:Int) (fn:FuncId) (bc:List (List D)) (hp:∀ x y:an,Fn Try.prog fn ([.g [cI x.ax,cI x.ba,cI x.kind,cI x.sum],.g [cI y.ax,cI y.ba,cI y.kind,cI y.sum]]++bc.map fun r=>GV.c (.q r 0)) (aI (gY x y)) []) (hen:bf Try.prog fn) (h:n=0):Fn Try.prog 61 [(.c (iB d)),(.c (cI n)),(.c (.d (.f fn bc)))] (.t []) []:=by
 refine Fn.mk' 63 [(0,(aC (iB d))),(1,(aI n)),(2,(aC (.d (.f fn bc))))] Try.func61 rfl rfl rfl rfl ?_
 intro W0 T0
 refine dG 0 rfl (fun hlen0=>?_)
 refine ad aa 1 rfl ?_
 refine ad aa 3 rfl ?_
 refine af ?_
 refine aV ?_
 refine cx (β:=Nat) (fun (z:Nat)=>⟨[(0,(aC (iB d))),(1,(aI n)),(2,(aC (.d (.f fn bc)))),(6,(aI 20)),(7,(aI 0)),(8,(aI 20))],[],0⟩) (fun (z:Nat)=>True) (fun (z:Nat)=>0) 0 ?_ ?_ ?_
 ·trivial
 ·exact aD.bY id (by refine ⟨?_,?_,?_,?_,?_,?_,trivial⟩<;>first|rfl|(simp only [bn];done)|(congr 3;omega)|(congr 4;omega)|(simp only [bo];rfl)) (trivial) rfl
 rintro z _
 refine af ?_
 refine ad aa 3 rfl ?_
 refine ag rfl (fun hc1=>?_) (fun hc1=>?_)
 ·
  have hc1':=of_decide_eq_true hc1
  exfalso;omega
 have hc1':=of_decide_eq_false hc1
 refine cp ?_
 refine aR ?_
 refine aR ?_
 refine bQ ?_
 refine then_ok ?_
 refine az aa 4 rfl ?_
 refine aL 0 [] (bJ 0 (vO d 0 n fn bc hp hen (by first|omega|(simp;done)|(simp;omega)) (by first|omega|(simp;done)|(simp;omega))) BS rfl rfl ⟨⟨_,rfl,.c (.d _)⟩,⟨_,rfl,.c (.d _)⟩,⟨_,rfl,.c (.d _)⟩,⟨_,rfl,.c (.d _)⟩,trivial⟩ trivial trivial rfl rfl rfl rfl) rfl ?_
 refine ae ?_
 refine aV ?_
 refine cx (β:=Nat) (fun (z:Nat)=>⟨[(0,(aC (iB d))),(1,(aI n)),(2,(aC (.d (.f fn bc)))),(6,(aI 20))],[],0⟩) (fun (z:Nat)=>True) (fun (z:Nat)=>0) 0 ?_ ?_ ?_
 ·trivial
 ·exact aD.bY id (by refine ⟨?_,?_,?_,?_,trivial⟩<;>first|rfl|(simp only [bn];done)|(congr 3;omega)|(congr 4;omega)|(simp only [bo];rfl)) (trivial) rfl
 rintro z _
 refine af ?_
 refine ad aa 3 rfl ?_
 refine ag rfl (fun hc2=>?_) (fun hc2=>?_)
 ·
  have hc2':=of_decide_eq_true hc2
  exfalso;omega
 have hc2':=of_decide_eq_false hc2
 refine cp ?_
 refine aR ?_
 refine aR ?_
 refine bQ ?_
 refine cE aa [] 0 rfl rfl rfl rfl rfl rfl ?_ ?_
 all_goals first|rfl|(simp [au];done)|(simp [au];omega)
theorem ue (d:List an) (fn:FuncId) (bc:List (List D)) (hp:∀ x y:an,Fn Try.prog fn ([.g [cI x.ax,cI x.ba,cI x.kind,cI x.sum],.g [cI y.ax,cI y.ba,cI y.kind,cI y.sum]]++bc.map fun r=>GV.c (.q r 0)) (aI (gY x y)) []) (hen:bf Try.prog fn) (h:d.length=0):Fn Try.prog 55 [(.c (iB d)),(.c (.d (.f fn bc)))] (.t []) []:=by
 refine Fn.mk' 9 [(0,(aC (iB d))),(1,(aC (.d (.f fn bc))))] Try.func55 rfl rfl rfl rfl ?_
 intro W0 T0
 refine dG 0 rfl (fun hlen0=>?_)
 refine aw ?_
 refine ab aa 2 rfl ?_
 refine ay (cT rfl rfl rfl rfl rfl Try.underlying42) rfl ?_
 refine ab aa 1 rfl ?_
 refine aL 0 [] (bJ 0 (At d (↑d.length:Int) fn bc hp hen (by first|omega|(simp;done)|(simp;omega))) EM rfl rfl ⟨⟨_,rfl,.c (.d _)⟩,⟨_,rfl,.c (.d _)⟩,⟨_,rfl,.c (.d _)⟩,trivial⟩ trivial trivial rfl rfl rfl rfl) rfl ?_
 refine bZ ?_
 refine cE aa [] 0 rfl rfl rfl rfl rfl rfl ?_ ?_
 all_goals first|rfl|(simp [au];done)|(simp [au];omega)
theorem vW (d:List an) (N:Nat) (fn:FuncId) (bc:List (List D)) (hp:∀ x y:an,Fn Try.prog fn ([.g [cI x.ax,cI x.ba,cI x.kind,cI x.sum],.g [cI y.ax,cI y.ba,cI y.kind,cI y.sum]]++bc.map fun r=>GV.c (.q r 0)) (aI (gY x y)) []) (hen:bf Try.prog fn) (hl:d.length * 32<=140737488355328) (hN:N=d.length) (h0_:0 < d.length) (r:List an) (hr:gp d=r):cA Try.prog 55 [(.c (.s 0 0 4 N)),(.c (.d (.f fn bc)))] [(0,(cH d))] [0] (.t []) [(0,(cH r))]:=by
 refine cA.mk 9 [(0,(aC (.s 0 0 4 N))),(1,(aC (.d (.f fn bc))))] 1 Try.func55 rfl rfl rfl rfl rfl rfl rfl rfl rfl ?_
 intro W0 F0 T0 pg
 refine fQ 0 rfl (fun hlen0=>?_)
 refine aw ?_
 refine ab aa 2 rfl ?_
 refine ay (dr rfl rfl rfl rfl rfl Try.underlying42) rfl ?_
 refine ab aa 1 rfl ?_
 obtain ⟨r0,hr0⟩:∃ (r0:List an),gp d=r0:=⟨_,rfl⟩
 refine aL 1 [0] (dQ id id (As (↑N:Int) d N N fn bc hp hen (by first|omega|(simp;done)|(simp;omega)) (by first|omega|(simp;done)|(simp;omega)) (by first|omega|(simp;done)|(simp;omega)) (by first|omega|(simp;done)|(simp;omega)) (by first|omega|(simp;done)|(simp;omega)) r0 hr0) EM rfl rfl ⟨⟨_,rfl,.inl ⟨rfl,rfl⟩⟩,⟨_,rfl,.inr (.c (.d _))⟩,⟨_,rfl,.inr (.c (.d _))⟩,trivial⟩ ⟨rfl,trivial⟩ rfl rfl ⟨.inr ⟨_,_,_,rfl,by first|(simp;omega)|(simp only [List.length_map];omega)⟩,trivial⟩ rfl rfl rfl trivial ⟨(fun _ _ _ _=>trivial),trivial⟩ rfl rfl rfl rfl) rfl ?_
 refine bZ ?_
 have hX:gp d=r0:=by
   exact hr0
 rw [hX] at hr;clear hX
 subst hr
 refine cE aa [0] 1 rfl rfl rfl rfl rfl rfl ?_ ?_
 all_goals first|rfl|(simp [au];done)|(simp [au];omega)
theorem Cp (l:List an) (hl:l.length * 32<=140737488355328) (r:List an) (hr:gp l=r):Fn Try.prog 37 [(.c (iB l))] (.v (.c (.s 0 0 4 r.length))) [(0,(cH r))]:=by
 refine Fn.mk' 9 [(0,(aC (iB l)))] Try.func37 rfl rfl rfl rfl ?_
 intro W0 T0
 refine dG 0 rfl (fun hlen0=>?_)
 refine ad aa 1 rfl ?_
 refine az aa 1 rfl ?_
 refine aL 1 [0] (bJ 0 (mL l (by first|omega|(simp;done)|(simp;omega))) EO rfl rfl ⟨⟨_,rfl,.c (.d _)⟩,trivial⟩ trivial ⟨(fun _ _ _ _=>trivial),trivial⟩ rfl rfl rfl rfl) rfl ?_
 refine ab aa 1 rfl ?_
 refine ae ?_
 rcases (show l.length=0\/0 < l.length from by omega) with hs1|hs1
 ·
  refine az aa 1 rfl ?_
  refine aL 1 [0] (fP 1 [0] (ue l 53 ([]) (fun x y=>xH x y) EP (by first|omega|(simp;done)|(simp;omega))) EN rfl rfl ⟨⟨_,rfl,.c (.s rfl (by decide) (by first|omega|(simp;done)|(simp;omega)))⟩,⟨_,rfl,.c (.fn trivial)⟩,trivial⟩ trivial trivial rfl rfl rfl rfl) rfl ?_
  refine ae ?_
  refine ad aa 2 rfl ?_
  refine ar ?_
  have hX:gp l=l:=by
    exact zp (by assumption)
  rw [hX] at hr;clear hX
  subst hr
  refine ah aa [0] 1 rfl rfl rfl rfl rfl rfl ?_ ?_
  all_goals first|rfl|(simp [au];done)|(simp [au];omega)
 refine az aa 1 rfl ?_
 obtain ⟨r0,hr0⟩:∃ (r0:List an),gp l=r0:=⟨_,rfl⟩
 have hlr0:r0.length=l.length:=by rw [<-hr0];exact sU _
 refine aL 1 [0] (dQ id id (vW l l.length 53 ([]) (fun x y=>xH x y) EP (by first|omega|(simp;done)|(simp;omega)) (by first|omega|(simp;done)|(simp;omega)) (by first|omega|(simp;done)|(simp;omega)) r0 hr0) EN rfl rfl ⟨⟨_,rfl,.inl ⟨rfl,rfl⟩⟩,⟨_,rfl,.inr (.c (.fn trivial))⟩,trivial⟩ ⟨rfl,trivial⟩ rfl rfl ⟨.inr ⟨_,_,_,rfl,by first|(simp;omega)|(simp only [List.length_map];omega)⟩,trivial⟩ rfl rfl rfl trivial ⟨(fun _ _ _ _=>trivial),trivial⟩ rfl rfl rfl rfl) rfl ?_
 refine ae ?_
 refine ad aa 2 rfl ?_
 refine ar ?_
 have hX:gp l=r0:=by
   exact hr0
 rw [hX] at hr;clear hX
 subst hr
 refine ah aa [0] 1 rfl rfl rfl rfl rfl rfl ?_ ?_
 all_goals first|rfl|(simp [au];done)|(simp [au];omega)

theorem wN (l:List an) (f:cP) (hr:gl l=f):Fn Try.prog 31 [(.c (iB l))] (.v (.g [(cI f.err),(cI f.at_)])) []:=by
 refine Fn.mk' 58 [(0,(aC (iB l)))] Try.func31 rfl rfl rfl rfl ?_
 intro W0 T0
 refine dG 0 rfl (fun hlen0=>?_)
 refine ad aa 1 rfl ?_
 refine af ?_
 refine az aa 1 rfl ?_
 refine ay (cT rfl rfl rfl rfl rfl Try.underlying42) rfl ?_
 refine ab aa 1 rfl ?_
 refine ae ?_
 refine ag rfl (fun hc1=>?_) (fun hc1=>?_)
 ·
  have hc1':=of_decide_eq_true hc1
  refine ad aa 2 rfl ?_
  refine ar ?_
  refine ao ?_
  have hX:gl l=(⟨5,0⟩:cP):=by
    unfold gl;rw [if_pos (by omega)]
  rw [hX] at hr;clear hX
  subst hr
  refine ah aa [0] 0 rfl rfl rfl rfl rfl rfl ?_ ?_
  all_goals first|rfl|(simp [au];done)|(simp [au];omega)
 have hc1':=of_decide_eq_false hc1
 refine aP ?_
 refine af ?_
 refine az aa 1 rfl ?_
 refine ay (cT rfl rfl rfl rfl rfl Try.underlying42) rfl ?_
 refine ab aa 1 rfl ?_
 refine ae ?_
 refine aV ?_
 refine cx (β:=Nat) (fun (q:Nat)=>⟨[(2,(aC (.p 0 0 0 0))),(9,(aC (iB l))),(10,(aI (↑l.length:Int))),(11,(aI (↑q:Int)))],[(0,(.box 50 [(cI 0),(cI 0)]))],1⟩) (fun (q:Nat)=>q<=l.length/\mo l 0=mo (l.drop q) q) (fun (q:Nat)=>l.length - q) 0 ?_ ?_ ?_
 ·exact ⟨by omega,rfl⟩
 ·exact aD.bY id (by refine ⟨?_,?_,?_,?_,trivial⟩<;>first|rfl|(simp only [bn];done)|(congr 3;omega)|(congr 4;omega)|(simp only [bo];rfl)) (⟨by first|rfl|(simp only [bn];done)|(congr 3;omega)|(congr 4;omega)|(simp only [bo];rfl),trivial⟩) rfl
 rintro q ⟨hi0_0,hi0_1⟩
 refine ad aa 1 rfl ?_
 refine af ?_
 refine ag rfl (fun hc2=>?_) (fun hc2=>?_)
 ·
  have hc2':=of_decide_eq_true hc2
  refine aP ?_
  refine af ?_
  refine aV ?_
  refine az aa 1 rfl ?_
  obtain ⟨x1,hx1⟩:=ch (xs:=l) (i:=q) (by first|omega|(simp;done)|(simp;omega))
  refine ay (cQ (i:=q) rfl rfl rfl Try.underlying42 dq (by first|omega|(simp;done)|(simp;omega)) (bw hx1)) rfl ?_
  refine ab aa 4 rfl ?_
  refine ae ?_
  refine af ?_
  refine cq 23 ((decide (x1.kind < 1))||(decide (x1.kind > 8))) ?_ ?_
  ·
   refine aw ?_
   refine ab aa 4 rfl ?_
   refine bA (t:=19) rfl (fun hb3=>?_) (fun hb3=>?_)
   ·
    have hb3':=of_decide_eq_true hb3
    refine ab aa 4 rfl ?_
    refine ae ?_
    exact aD.bG 9 rfl rfl (by first|(simp [hb3];done)|(simp_all;done)|(exfalso;simp_all;done)|(simp_all;omega)) rfl
   have hb3':=of_decide_eq_false hb3
   refine ab aa 4 rfl ?_
   refine ae ?_
   exact aD.bG 9 rfl rfl (by first|(simp [hb3];done)|(simp_all;done)|(exfalso;simp_all;done)|(simp_all;omega)) rfl
  refine ag rfl (fun hc4=>?_) (fun hc4=>?_)
  ·
   have hc4':=hc4;try simp only [bm,bM] at hc4'
   refine ad aa 3 rfl ?_
   refine ar ?_
   refine ao ?_
   refine bg ?_
   refine ao ?_
   refine ao ?_
   refine bg ?_
   refine ao ?_
   have hX:gl l=(⟨1,(↑q:Int)⟩:cP):=by
     unfold gl;rw [if_neg (by omega),hi0_1,ov hx1,if_pos (by unfold mu;omega)]
   rw [hX] at hr;clear hX
   subst hr
   refine ah aa [0] 0 rfl rfl rfl rfl rfl rfl ?_ ?_
   all_goals first|rfl|(simp [au];done)|(simp [au];omega)
  have hc4':=hc4;try simp only [bm,bM] at hc4'
  refine aP ?_
  refine cq 53 ((((((decide (x1.ax < 0))||(decide (x1.ax>=8)))||(decide (x1.ba < 0)))||(decide (x1.ba>=30)))||(decide (x1.sum < 1)))||(decide (x1.sum > 1000000))) ?_ ?_
  ·
   refine aw ?_
   refine ab aa 4 rfl ?_
   refine bA (t:=29) rfl (fun hb5=>?_) (fun hb5=>?_)
   ·
    have hb5':=of_decide_eq_true hb5
    refine ab aa 24 rfl ?_
    refine ae ?_
    exact aD.bG 29 rfl rfl (by first|(simp [hb5];done)|(simp_all;done)|(exfalso;simp_all;done)|(simp_all;omega)) rfl
   have hb5':=of_decide_eq_false hb5
   refine ab aa 5 rfl ?_
   refine bA (t:=34) rfl (fun hb6=>?_) (fun hb6=>?_)
   ·
    have hb6':=of_decide_eq_true hb6
    refine ab aa 19 rfl ?_
    refine ae ?_
    exact aD.bG 30 rfl rfl (by first|(simp [hb5,hb6];done)|(simp_all;done)|(exfalso;simp_all;done)|(simp_all;omega)) rfl
   have hb6':=of_decide_eq_false hb6
   refine ab aa 5 rfl ?_
   refine bA (t:=39) rfl (fun hb7=>?_) (fun hb7=>?_)
   ·
    have hb7':=of_decide_eq_true hb7
    refine ab aa 14 rfl ?_
    refine ae ?_
    exact aD.bG 31 rfl rfl (by first|(simp [hb5,hb6,hb7];done)|(simp_all;done)|(exfalso;simp_all;done)|(simp_all;omega)) rfl
   have hb7':=of_decide_eq_false hb7
   refine ab aa 5 rfl ?_
   refine bA (t:=44) rfl (fun hb8=>?_) (fun hb8=>?_)
   ·
    have hb8':=of_decide_eq_true hb8
    refine ab aa 9 rfl ?_
    refine ae ?_
    exact aD.bG 32 rfl rfl (by first|(simp [hb5,hb6,hb7,hb8];done)|(simp_all;done)|(exfalso;simp_all;done)|(simp_all;omega)) rfl
   have hb8':=of_decide_eq_false hb8
   refine ab aa 5 rfl ?_
   refine bA (t:=49) rfl (fun hb9=>?_) (fun hb9=>?_)
   ·
    have hb9':=of_decide_eq_true hb9
    refine ab aa 4 rfl ?_
    refine ae ?_
    exact aD.bG 33 rfl rfl (by first|(simp [hb5,hb6,hb7,hb8,hb9];done)|(simp_all;done)|(exfalso;simp_all;done)|(simp_all;omega)) rfl
   have hb9':=of_decide_eq_false hb9
   refine ab aa 4 rfl ?_
   refine ae ?_
   exact aD.bG 33 rfl rfl (by first|(simp [hb5,hb6,hb7,hb8,hb9];done)|(simp_all;done)|(exfalso;simp_all;done)|(simp_all;omega)) rfl
  refine ag rfl (fun hc10=>?_) (fun hc10=>?_)
  ·
   have hc10':=hc10;try simp only [bm,bM] at hc10'
   refine ad aa 3 rfl ?_
   refine ar ?_
   refine bg ?_
   refine ao ?_
   refine ao ?_
   refine bg ?_
   refine ao ?_
   have hX:gl l=(⟨3,(↑q:Int)⟩:cP):=by
     unfold gl;rw [if_neg (by omega),hi0_1,ov hx1,if_neg (by unfold mu;omega),if_pos (by unfold nG;omega)]
   rw [hX] at hr;clear hX
   subst hr
   refine ah aa [0] 0 rfl rfl rfl rfl rfl rfl ?_ ?_
   all_goals first|rfl|(simp [au];done)|(simp [au];omega)
  have hc10':=hc10;try simp only [bm,bM] at hc10'
  refine cU ?_
  refine bp ?_
  refine then_ok ?_
  refine aw ?_
  refine ay (aM rfl rfl rfl (aH (by first|omega|(simp;done)|(simp;omega)))) rfl ?_
  refine ab aa 1 rfl ?_
  refine ae ?_
  refine ⟨q+1,⟨by omega,by rw [hi0_1,ov hx1,if_neg (by unfold mu;omega),if_neg (by unfold nG;omega)]⟩,by first|omega|(simp;done)|(simp;omega),aD.bY id (by refine ⟨?_,?_,?_,?_,trivial⟩<;>first|rfl|(simp only [bn];done)|(congr 3;omega)|(congr 4;omega)|(simp only [bo];rfl)) (⟨by first|rfl|(simp only [bn];done)|(congr 3;omega)|(congr 4;omega)|(simp only [bo];rfl),trivial⟩) rfl⟩
 have hc2':=of_decide_eq_false hc2
 refine cp ?_
 refine aR ?_
 refine aR ?_
 refine bQ ?_
 refine then_ok ?_
 refine ad aa 2 rfl ?_
 refine ar ?_
 have hX:gl l=(⟨0,0⟩:cP):=by
   unfold gl;rw [if_neg (by omega),hi0_1,zA (by omega)]
 rw [hX] at hr;clear hX
 subst hr
 refine ah aa [0] 0 rfl rfl rfl rfl rfl rfl ?_ ?_
 all_goals first|rfl|(simp [au];done)|(simp [au];omega)

theorem tN (b:List Int) (N:Nat) (n:Int) (z:Nat) (hN:N=b.length) (hz:z<=8) (hl:b.length+z<=1000000) (r:List Int) (hr:b++lX n z=r):cA Try.prog 109 [(.c (.s 0 0 1 N)),(.c (cI n)),(.c (cI (↑z:Int)))] [(0,(xP b))] [] (.v (.c (.s 0 0 1 r.length))) [(0,(xP r))]:=by
 refine cA.mk 23 [(0,(aC (.s 0 0 1 N))),(1,(aI n)),(2,(aI (↑z:Int)))] 1 Try.func109 rfl rfl rfl rfl rfl rfl rfl rfl rfl ?_
 intro W0 F0 T0 pg
 refine fQ 0 rfl (fun hlen0=>?_)
 refine ad aa 1 rfl ?_
 refine af ?_
 refine az aa 1 rfl ?_
 refine ay (aM rfl rfl rfl (aH (by first|omega|(simp;done)|(simp;omega)))) rfl ?_
 refine ab aa 1 rfl ?_
 refine ae ?_
 refine aV ?_
 refine cx (β:=Nat×List Int) (fun (p:Nat×List Int)=>match p with|(k,m)=>⟨[(0,(aC (.s 0 0 1 m.length))),(1,(aI n)),(6,(aC cN)),(7,(aI ((↑k:Int) - 1)))],[(0,(xP m))],1⟩) (fun (p:Nat×List Int)=>match p with|(k,m)=>k<=z/\m++lX n k=b++lX n z/\m.length+k=b.length+z) (fun (p:Nat×List Int)=>match p with|(k,m)=>k) (z,b) ?_ ?_ ?_
 ·exact ⟨by omega,rfl,rfl⟩
 ·exact aD.bY id (by refine ⟨?_,?_,?_,?_,trivial⟩<;>first|rfl|(simp only [bn];done)|(congr 3;omega)|(congr 4;omega)|(simp only [bo];rfl)|(first|exact cJ rfl (by omega)|exact iJ rfl (by omega))) (⟨by first|rfl|(simp only [bn];done)|(congr 3;omega)|(congr 4;omega)|(simp only [bo];rfl),trivial⟩) rfl
 rintro ⟨k,m⟩ ⟨hi0_0,hi0_1,hi0_2⟩
 refine af ?_
 refine ad aa 2 rfl ?_
 refine ag rfl (fun hc1=>?_) (fun hc1=>?_)
 ·
  have hc1':=of_decide_eq_true hc1
  refine aP ?_
  refine af ?_
  refine aV ?_
  refine aw ?_
  refine ab aa 3 rfl ?_
  refine ay (aM rfl rfl rfl (aH (by first|omega|(simp;done)|(simp;omega)))) rfl ?_
  refine ay (El rfl rfl rfl (by first|omega|(simp;done)|(simp;omega)) rfl (Gv (k:=k) (by omega) rfl)) rfl ?_
  refine ay (fk rfl rfl (by rw [Try.underlying3];rfl) Try.underlying5 mJ) rfl ?_
  refine aL 2 [1,0] (dz (ys:=[(0,(.c (.d (.v (.int .u8 ((n / 256 ^ (k - 1)) % 256))))))]) (rows:=([(n / 256 ^ (k - 1)) % 256]).map nO) 1 uH rfl (by decide) ⟨⟨rfl,rfl⟩,trivial⟩ rfl rfl rfl rfl) rfl ?_
  refine aL 3 [2,1] (da (m:=1) (N:=m.length+1) (k2:=2) (ys:=([(n / 256 ^ (k - 1)) % 256]).map nO) uH rfl rfl rfl rfl rfl rfl (by first|omega|(simp;done)|(simp;omega)) rfl (.s rfl (by first|omega|(simp;done)|(simp;omega))) (by first|omega|(simp;done)|(simp;omega)) (by first|omega|(simp;done)|(simp;omega)) eP (by decide) (by first|omega|(simp;done)|(simp;omega)) (by first|omega|(simp;done)|(simp;omega))) rfl ?_
  refine ab aa 1 rfl ?_
  refine bZ ?_
  refine bp ?_
  refine then_ok ?_
  refine aw ?_
  refine ab aa 1 rfl ?_
  refine ay (aM rfl rfl rfl (aH (by first|omega|(simp;done)|(simp;omega)))) rfl ?_
  refine ab aa 1 rfl ?_
  refine ae ?_
  refine ⟨(k - 1,m++([(n / 256 ^ (k - 1)) % 256])),⟨by omega,by rw [<-hi0_1,Cq (k:=k) (by omega),List.append_assoc];rfl,by simp only [List.length_append,List.length_cons,List.length_nil];omega⟩,by first|omega|(simp;done)|(simp;omega),aD.bY (fun k=>if k=0 then 2 else k) (by refine ⟨?_,?_,?_,?_,trivial⟩<;>first|rfl|(simp only [bn];done)|(congr 3;omega)|(congr 4;omega)|(simp only [bo];rfl)|(first|exact cJ rfl (by omega)|exact iJ rfl (by simp only [List.length_append,List.length_cons,List.length_nil];omega))) (⟨by first|rfl|(simp only [bn];done)|(congr 3;omega)|(congr 4;omega)|(simp only [bo];rfl),trivial⟩) rfl⟩
 have hc1':=of_decide_eq_false hc1
 refine cp ?_
 refine aR ?_
 refine aR ?_
 refine bQ ?_
 refine then_ok ?_
 refine ad aa 2 rfl ?_
 refine ar ?_
 have hX:b++lX n z=m:=by
   (obtain rfl:k=0:=by omega);rw [<-hi0_1];simp [lX]
 rw [hX] at hr;clear hX
 subst hr
 refine ah aa [0] 1 rfl rfl rfl rfl rfl rfl ?_ ?_
 all_goals first|rfl|(simp [au];done)|(simp [au];omega)

theorem wO (l:List an) (hl:l.length * 32<=140737488355328) (x:List Int) (f:cP) (hr:jK l=(x,f)):Fn Try.prog 92 [(.c (iB l))] (.t [(.c (.s 0 0 1 x.length)),(.g [(cI f.err),(cI f.at_)])]) [(0,(xP x))]:=by
 refine Fn.mk' 50 [(0,(aC (iB l)))] Try.func92 rfl rfl rfl rfl ?_
 intro W0 T0
 refine dG 0 rfl (fun hlen0=>?_)
 refine ad aa 2 rfl ?_
 refine af ?_
 refine az aa 1 rfl ?_
 obtain ⟨f0,hr0⟩:∃ (f0:cP),gl l=f0:=⟨_,rfl⟩
 refine aL 1 [0] (bJ 1 (wN l f0 hr0) Hh rfl rfl ⟨⟨_,rfl,.c (.d _)⟩,trivial⟩ ⟨trivial,trivial,trivial⟩ trivial rfl rfl rfl rfl) rfl ?_
 refine ab aa 2 rfl ?_
 refine ae ?_
 refine ad aa 3 rfl ?_
 refine ag rfl (fun hc1=>?_) (fun hc1=>?_)
 ·
  have hc1':=of_decide_eq_true hc1
  refine af ?_
  refine bb [0,3,4] [1,0] mixed rfl rfl ?_
  refine aA (kn:=[]) aa 2 rfl trivial ?_
  refine bB [1,0] rfl rfl rfl rfl (by kernel_rfl) ?_
  refine ab aa 1 rfl ?_
  refine ae ?_
  refine ar ?_
  refine ao ?_
  refine cV (aD.nil 2 5 1 (by decide) rfl) ?_
  have hX:jK l=(([]:List Int),f0):=by
    unfold jK;rw [if_neg (by rw [hr0];omega),hr0]
  rw [hX] at hr;clear hX
  simp only [Prod.mk.injEq] at hr;obtain ⟨rfl,rfl⟩:=hr
  refine ah aa [2,0] 1 rfl rfl rfl rfl rfl rfl ?_ ?_
  all_goals first|rfl|(simp [au];done)|(simp [au];omega)
 have hc1':=of_decide_eq_false hc1
 refine aP ?_
 have hw:(gl l).err=0:=by rw [hr0];omega
 have hok:=yX.1 hw
 refine az aa 1 rfl ?_
 refine ay (cT rfl rfl rfl rfl rfl Try.underlying42) rfl ?_
 refine ay (fk rfl rfl (by rw [Try.underlying3];rfl) Try.underlying5 mJ) rfl ?_
 refine aL 3 [2,1,0] (dz (ys:=[(0,(.c (.d (.v (.int .u8 ((↑l.length:Int) % 256))))))]) (rows:=([(↑l.length:Int) % 256]).map nO) 2 uH rfl (by decide) ⟨⟨rfl,rfl⟩,trivial⟩ rfl rfl rfl rfl) rfl ?_
 refine ab aa 1 rfl ?_
 refine ae ?_
 refine ad aa 1 rfl ?_
 refine af ?_
 refine az aa 1 rfl ?_
 obtain ⟨r1,hr1⟩:∃ (r1:List an),gp l=r1:=⟨_,rfl⟩
 have hlr:r1.length=l.length:=by rw [<-hr1];exact sU _
 have hrok:∀ x∈r1,xl x:=fun x hx=>hok.2 x ((mW l).mem.2 (by rw [hr1];exact hx))
 refine aL 4 [3,2,1,0] (bJ 3 (Cp l (by first|omega|(simp;done)|(simp;omega)) r1 hr1) Hf rfl rfl ⟨⟨_,rfl,.c (.d _)⟩,trivial⟩ trivial ⟨(fun _ _ _ _=>trivial),trivial⟩ rfl rfl rfl rfl) rfl ?_
 refine ay (dr rfl rfl rfl rfl rfl Try.underlying42) rfl ?_
 refine ab aa 1 rfl ?_
 refine ae ?_
 refine aV ?_
 refine cx (β:=Nat×List Int×Int) (fun (p:Nat×List Int×Int)=>match p with|(q,m,all)=>⟨[(2,(aC cN)),(3,(aC (.p 0 0 0 0))),(5,(aC (.s 2 0 1 m.length))),(6,(aI all)),(20,(aC (.s 3 0 4 r1.length))),(21,(aI (↑r1.length:Int))),(22,(aI (↑q:Int)))],[(3,(cH r1)),(2,(xP m)),(0,(.box 50 [(cI 0),(cI 0)]))],4⟩) (fun (p:Nat×List Int×Int)=>match p with|(q,m,all)=>q<=r1.length/\m=lS l (r1.take q)/\all=lp (r1.take q)/\0<=all/\all<=1000000 * (q:Int)) (fun (p:Nat×List Int×Int)=>match p with|(q,m,all)=>r1.length - q) (0,[(↑l.length:Int) % 256],0) ?_ ?_ ?_
 ·exact ⟨by omega,by simp [lS],rfl,by omega⟩
 ·exact aD.bY id (by refine ⟨?_,?_,?_,?_,?_,?_,?_,trivial⟩<;>first|rfl|(simp only [bn];done)|(congr 3;omega)|(congr 4;omega)|(simp only [bo];rfl)) (by refine ⟨?_,?_,?_,trivial⟩<;>first|rfl|(simp only [bn];done)|(congr 3;omega)|(congr 4;omega)|(simp only [bo];rfl)) rfl
 rintro ⟨q,m,all⟩ ⟨hi0_0,hi0_1,hi0_2,hi0_3⟩
 have hml:m.length=1+6 * q:=by rw [hi0_1,zY,List.length_take];omega
 refine ad aa 1 rfl ?_
 refine af ?_
 refine ag rfl (fun hc2=>?_) (fun hc2=>?_)
 ·
  have hc2':=of_decide_eq_true hc2
  refine aP ?_
  refine af ?_
  refine aV ?_
  refine eE ?_
  refine ay (bq (i:=q) rfl rfl rfl Try.underlying42 dq (by first|omega|(simp;done)|(simp;omega)) (by first|omega|(simp;done)|(simp;omega))) rfl ?_
  obtain ⟨x1,hx1⟩:=ch (xs:=r1) (i:=q) (by first|omega|(simp;done)|(simp;omega))
  have hx1b:=Fy (hrok x1 (List.mem_of_getElem? hx1))
  refine ay (dg rfl rfl rfl Try.underlying83 rfl dq (bw hx1) rfl) rfl ?_
  refine ab aa 2 rfl ?_
  refine ae ?_
  refine af ?_
  obtain ⟨r2,hr2⟩:∃ (r2:List Int),(m++([x1.ax % 256,x1.ba % 256,x1.kind % 256]))++lX x1.sum 3=r2:=⟨_,rfl⟩
  have hlr2:r2.length=m.length+6:=by rw [<-hr2];simp [pn]
  refine bb [2,3,5,6,20,21,22,8] [4,3,2,0] mixed rfl rfl ?_
  refine aA (kn:=[]) aa 3 rfl trivial ?_
  refine aT (n':=5) [28] [] rfl rfl (.inl ⟨(ak.plain rfl),aK.cast (fk rfl rfl (by rw [Try.underlying3];rfl) Try.underlying5 mJ) rfl⟩) rfl ?_
  refine aA (kn:=[]) aa 2 rfl trivial ?_
  refine aT (n':=5) [31] [] rfl rfl (.inl ⟨(ak.plain rfl),aK.cast (fk rfl rfl (by rw [Try.underlying3];rfl) Try.underlying5 mJ) rfl⟩) rfl ?_
  refine aA (kn:=[]) aa 2 rfl trivial ?_
  refine aT (n':=5) [34] [] rfl rfl (.inl ⟨(ak.plain rfl),aK.cast (fk rfl rfl (by rw [Try.underlying3];rfl) Try.underlying5 mJ) rfl⟩) rfl ?_
  refine aT (n':=6) [29,32,35] [] rfl rfl (.inl ⟨(ak.plain rfl),aK.cast (dz (ys:=[(0,(.c (.d (.v (.int .u8 (x1.ax % 256)))))),(1,(.c (.d (.v (.int .u8 (x1.ba % 256)))))),(2,(.c (.d (.v (.int .u8 (x1.kind % 256))))))]) (rows:=([x1.ax % 256,x1.ba % 256,x1.kind % 256]).map nO) 5 uH rfl (by decide) ⟨⟨rfl,rfl⟩,⟨rfl,rfl⟩,⟨rfl,rfl⟩,trivial⟩ rfl rfl rfl rfl) rfl⟩) rfl ?_
  refine aT (n':=7) [26,36] [5,2] rfl rfl (.inl ⟨(ak.plain rfl),aK.cast (da (m:=3) (N:=m.length+3) (k2:=6) (ys:=([x1.ax % 256,x1.ba % 256,x1.kind % 256]).map nO) uH rfl rfl rfl rfl rfl rfl (by first|omega|(simp;done)|(simp;omega)) rfl (.s rfl (by first|omega|(simp;done)|(simp;omega))) (by first|omega|(simp;done)|(simp;omega)) (by first|omega|(simp;done)|(simp;omega)) eP (by decide) (by first|omega|(simp;done)|(simp;omega)) (by first|omega|(simp;done)|(simp;omega))) rfl⟩) rfl ?_
  refine aA (kn:=[]) aa 2 rfl trivial ?_
  refine aT (n':=8) [37,39] [6] rfl rfl (.inl ⟨(ak.plain rfl),aK.cast (cv (aU [6]) (aU [7]) (tN (m++([x1.ax % 256,x1.ba % 256,x1.kind % 256])) (m.length+3) x1.sum 3 (by first|omega|(simp;done)|(simp;omega)) (by first|omega|(simp;done)|(simp;omega)) (by first|omega|(simp;done)|(simp;omega)) r2 hr2) CO rfl rfl ⟨⟨_,rfl,.inl ⟨rfl,rfl⟩⟩,⟨_,rfl,.inr (.c (.d _))⟩,⟨_,rfl,.inr (.c (.d _))⟩,trivial⟩ ⟨rfl,trivial⟩ rfl rfl rfl rfl rfl rfl trivial ⟨(fun _ _ _ _=>trivial),trivial⟩ rfl rfl rfl rfl) rfl⟩) rfl ?_
  refine bB [7,4,3,0] rfl rfl rfl rfl (by kernel_rfl) ?_
  refine ab aa 1 rfl ?_
  refine ae ?_
  refine aw ?_
  refine ab aa 3 rfl ?_
  refine ay (aM rfl rfl rfl (aH (by first|omega|(simp;done)|(simp;omega)))) rfl ?_
  refine ab aa 1 rfl ?_
  refine bZ ?_
  refine bp ?_
  refine then_ok ?_
  refine aw ?_
  refine ay (aM rfl rfl rfl (aH (by first|omega|(simp;done)|(simp;omega)))) rfl ?_
  refine ab aa 1 rfl ?_
  refine ae ?_
  refine ⟨(q+1,r2,all+x1.sum),⟨by omega,by rw [yp hx1,<-hi0_1,<-hr2];simp [uT],by rw [zl hx1,<-hi0_2],by omega⟩,by first|omega|(simp;done)|(simp;omega),aD.bY (fun k=>if k=2 then 7 else k) (by refine ⟨?_,?_,?_,?_,?_,?_,?_,trivial⟩<;>first|rfl|(simp only [bn];done)|(congr 3;omega)|(congr 4;omega)|(simp only [bo];rfl)|(first|exact cJ rfl (by omega)|exact iJ rfl (by simp only [List.length_append,List.length_take,List.length_drop,List.length_cons,List.length_nil];omega))) (by refine ⟨?_,?_,?_,trivial⟩<;>first|rfl|(simp only [bn];done)|(congr 3;omega)|(congr 4;omega)|(simp only [bo];rfl)) rfl⟩
 have hc2':=of_decide_eq_false hc2
 refine cp ?_
 refine aR ?_
 refine aR ?_
 refine bQ ?_
 refine then_ok ?_
 refine az aa 2 rfl ?_
 obtain ⟨r3,hr3⟩:∃ (r3:List Int),m++lX all 4=r3:=⟨_,rfl⟩
 have hlr3:r3.length=m.length+4:=by rw [<-hr3];simp [pn]
 refine aL 5 [4,3,0] (cv (aU [2]) (aU [4]) (tN m m.length all 4 (by first|omega|(simp;done)|(simp;omega)) (by first|omega|(simp;done)|(simp;omega)) (by first|omega|(simp;done)|(simp;omega)) r3 hr3) CO rfl rfl ⟨⟨_,rfl,.inl ⟨rfl,rfl⟩⟩,⟨_,rfl,.inr (.c (.d _))⟩,⟨_,rfl,.inr (.c (.d _))⟩,trivial⟩ ⟨rfl,trivial⟩ rfl rfl rfl rfl rfl rfl trivial ⟨(fun _ _ _ _=>trivial),trivial⟩ rfl rfl rfl rfl) rfl ?_
 refine ab aa 3 rfl ?_
 refine ae ?_
 refine ar ?_
 have hX:jK l=(r3,(⟨0,0⟩:cP)):=by
   have ht:r1.take q=r1:=List.take_of_length_le (by omega)
   rw [ht] at hi0_1 hi0_2
   unfold jK
   rw [if_pos hw,hr1,<-hi0_1,<-hi0_2]
   rw [hr3]
 rw [hX] at hr;clear hX
 simp only [Prod.mk.injEq] at hr;obtain ⟨rfl,rfl⟩:=hr
 refine ah aa [4,0] 1 rfl rfl rfl rfl rfl rfl ?_ ?_
 all_goals first|rfl|(simp [au];done)|(simp [au];omega)

theorem jI (x:Nat->Value) (hx:∀ i,(x i).oneCell'=true) (e err:Int) (e2:Int) (hr:dv e err=e2):cA Try.prog 87 [(.c (.p 0 0 0 0)),(.c (cI err))] [(0,(.box 147 ((aZ x).set 19 (cI e))))] [0] (.v (.c (cB (decide (¬e2=0))))) [(0,(.box 147 ((aZ x).set 19 (cI e2))))]:=by
 refine cA.mk 19 [(0,(aC (.p 0 0 0 0))),(1,(aI err))] 1 Try.func87 rfl rfl rfl rfl rfl rfl rfl rfl rfl ?_
 intro W0 F0 T0 pg
 refine ad aa 1 rfl ?_
 refine af ?_
 refine ad aa 5 rfl ?_
 refine ag rfl (fun hc1=>?_) (fun hc1=>?_)
 ·
  have hc1':=of_decide_eq_true hc1
  refine aw ?_
  refine ab aa 5 rfl ?_
  refine ae ?_
  refine ad aa 6 rfl ?_
  refine ar ?_
  have hX:dv e err=err:=by
    (unfold dv;try dsimp only);(repeat' split)<;>first|rfl|omega|(exfalso;omega)|(subst_vars;rfl)|(simp_all;done)|(simp_all;omega)
  rw [hX] at hr;clear hX
  subst hr
  refine ah aa [0] 1 rfl rfl rfl rfl rfl rfl ?_ ?_
  all_goals first|rfl|(simp [au,aS,aZ];done)|(simp [au,aS,aZ];omega)
 have hc1':=of_decide_eq_false hc1
 refine aP ?_
 refine ad aa 6 rfl ?_
 refine ar ?_
 have hX:dv e err=e:=by
   (unfold dv;try dsimp only);(repeat' split)<;>first|rfl|omega|(exfalso;omega)|(subst_vars;rfl)|(simp_all;done)|(simp_all;omega)
 rw [hX] at hr;clear hX
 subst hr
 refine ah aa [0] 1 rfl rfl rfl rfl rfl rfl ?_ ?_
 all_goals first|rfl|(simp [au,aS,aZ];done)|(simp [au,aS,aZ];omega)

theorem jh (x:Nat->Value) (hx:∀ i,(x i).oneCell'=true) (l:List Entry) (e src dst n:Int) (l2:List Entry) (e2:Int) (hr:dT l e src dst n=(l2,e2)):cA Try.prog 76 [(.c (.p 0 0 0 0)),(.c (cI src)),(.c (cI dst)),(.c (cI n))] [(0,(.box 147 (((aZ x).set 18 (dM l)).set 19 (cI e))))] [0] (.t []) [(0,(.box 147 (((aZ x).set 18 (dM l2)).set 19 (cI e2))))]:=by
 refine cA.mk 31 [(0,(aC (.p 0 0 0 0))),(1,(aI src)),(2,(aI dst)),(3,(aI n))] 1 Try.func76 rfl rfl rfl rfl rfl rfl rfl rfl rfl ?_
 intro W0 F0 T0 pg
 refine az aa 8 rfl ?_
 obtain ⟨r0,e0,hr0⟩:∃ (r0:List Entry) (e0:Int),iQ l src dst n=(r0,e0):=⟨_,_,rfl⟩
 refine aL 1 [0] (bJ 1 (Fn.frozen (av':=(.t [(.c (dM r0)),(.c (cI e0))])) (wQ l src dst n r0 e0 hr0) ⟨.inr ⟨_,_,_,_,_,rfl,rfl,rfl,by simp⟩,.inl ⟨_,rfl,rfl⟩,trivial⟩) GF rfl rfl ⟨⟨_,rfl,.c (.d _)⟩,⟨_,rfl,.c (.d _)⟩,⟨_,rfl,.c (.d _)⟩,⟨_,rfl,.c (.d _)⟩,trivial⟩ ⟨trivial,trivial,trivial⟩ trivial rfl rfl rfl rfl) rfl ?_
 refine ab aa 5 rfl ?_
 refine ae ?_
 refine az aa 2 rfl ?_
 obtain ⟨e21,hr1⟩:∃ (e21:Int),dv e e0=e21:=⟨_,rfl⟩
 refine aL 1 [0] (cg id id (ms:=(dw.set 19 (some (cI e)))) (ms':=(dw.set 19 (some (cI e21)))) (fun x hx=>jI x hx e e0 e21 hr1) nv rfl rfl ⟨⟨_,rfl,.inl ⟨rfl,rfl⟩⟩,⟨_,rfl,.inr (.c (.d _))⟩,trivial⟩ rfl rfl rfl rfl rfl rfl rfl trivial rfl rfl rfl rfl rfl rfl rfl rfl rfl rfl rfl rfl rfl) rfl ?_
 refine ab aa 1 rfl ?_
 refine ae ?_
 refine ag rfl (fun hc1=>?_) (fun hc1=>?_)
 ·
  have hc1':=hc1;try simp only [bm,bM] at hc1'
  refine aw ?_
  refine ab aa 6 rfl ?_
  refine bZ ?_
  have hX:dT l e src dst n=(r0,e21):=by
    unfold dT;simp only [hr0,hr1];(repeat' split)<;>first|rfl|omega|(exfalso;omega)|(simp_all;done)|(simp_all;omega)
  rw [hX] at hr;clear hX
  simp only [Prod.mk.injEq] at hr;obtain ⟨rfl,rfl⟩:=hr
  refine cE aa [0] 1 rfl rfl rfl rfl rfl rfl ?_ ?_
  all_goals first|rfl|(simp [au,aS,aZ];done)|(simp [au,aS,aZ];omega)
 have hc1':=hc1;try simp only [bm,bM] at hc1'
 refine cU ?_
 have hX:dT l e src dst n=(l,e21):=by
   unfold dT;simp only [hr0,hr1];(repeat' split)<;>first|rfl|omega|(exfalso;omega)|(simp_all;done)|(simp_all;omega)
 rw [hX] at hr;clear hX
 simp only [Prod.mk.injEq] at hr;obtain ⟨rfl,rfl⟩:=hr
 refine cE aa [0] 1 rfl rfl rfl rfl rfl rfl ?_ ?_
 all_goals first|rfl|(simp [au,aS,aZ];done)|(simp [au,aS,aZ];omega)
theorem iT (x:Nat->Value) (hx:∀ i,(x i).oneCell'=true) (l:List bx) (e k held bj:Int) (hk:0<=k/\k < l.length) (l2:List bx) (e2:Int) (hr:cz l e k held bj=(l2,e2)):cA Try.prog 75 [(.c (.p 0 0 0 0)),(.c (cI k)),(.c (cI held)),(.c (cI bj))] [(0,(.box 147 (((aZ x).set 2 (.s 1 0 6 l.length)).set 19 (cI e)))),(1,(dR l))] [0] (.t []) [(0,(.box 147 (((aZ x).set 2 (.s 1 0 6 l2.length)).set 19 (cI e2)))),(1,(dR l2))]:=by
 refine cA.mk 36 [(0,(aC (.p 0 0 0 0))),(1,(aI k)),(2,(aI held)),(3,(aI bj))] 2 Try.func75 rfl rfl rfl rfl rfl rfl rfl rfl rfl ?_
 intro W0 F0 T0 pg
 refine az aa 6 rfl ?_
 refine ay (bq (i:=Int.toNat (k)) rfl rfl rfl Try.underlying29 hY (by first|omega|(simp;done)|(simp;omega)) (by first|omega|(simp;done)|(simp;omega))) rfl ?_
 obtain ⟨x1,hx1⟩:=ch (xs:=l) (i:=Int.toNat (k)) (by first|omega|(simp;done)|(simp;omega))
 refine ay (dg rfl rfl rfl Try.underlying61 rfl hY (bw hx1) rfl) rfl ?_
 refine ab aa 2 rfl ?_
 obtain ⟨xr0,e0,hr0⟩:∃ (xr0:bx) (e0:Int),dW x1 held bj=(xr0,e0):=⟨_,_,rfl⟩
 refine aL 2 [0,1] (bJ 2 (Fn.frozen (av':=(.t [(.g [(cI xr0.bj),(cI xr0.held),(cI xr0.bX.cK),(cI xr0.bX.count),(cI xr0.bX.sum),(fq xr0.cD)]),(.c (cI e0))])) (vP x1 held bj xr0 e0 hr0) ⟨⟨.inl ⟨_,rfl,rfl⟩,.inl ⟨_,rfl,rfl⟩,.inl ⟨_,rfl,rfl⟩,.inl ⟨_,rfl,rfl⟩,.inl ⟨_,rfl,rfl⟩,.inr ⟨_,_,_,_,_,rfl,rfl,rfl,by simp⟩,trivial⟩,.inl ⟨_,rfl,rfl⟩,trivial⟩) GG rfl rfl ⟨⟨_,rfl,.g ⟨.d _,.d _,.d _,.d _,.d _,.d _,trivial⟩⟩,⟨_,rfl,.c (.d _)⟩,⟨_,rfl,.c (.d _)⟩,trivial⟩ ⟨⟨trivial,trivial,trivial,trivial,trivial,trivial,trivial⟩,trivial,trivial⟩ trivial rfl rfl rfl rfl) rfl ?_
 refine ab aa 6 rfl ?_
 refine ae ?_
 refine az aa 2 rfl ?_
 obtain ⟨e21,hr1⟩:∃ (e21:Int),dv e e0=e21:=⟨_,rfl⟩
 refine aL 3 [0,2,1] (cg id id (ms:=(dw.set 19 (some (cI e)))) (ms':=(dw.set 19 (some (cI e21)))) (fun x hx=>jI x hx e e0 e21 hr1) nv rfl rfl ⟨⟨_,rfl,.inl ⟨rfl,rfl⟩⟩,⟨_,rfl,.inr (.c (.d _))⟩,trivial⟩ rfl rfl rfl rfl rfl rfl rfl trivial rfl rfl rfl rfl rfl rfl rfl rfl rfl rfl rfl rfl rfl) rfl ?_
 refine ab aa 1 rfl ?_
 refine ae ?_
 refine ag rfl (fun hc1=>?_) (fun hc1=>?_)
 ·
  have hc1':=hc1;try simp only [bm,bM] at hc1'
  refine bb [0,1,8] [0,2,1] mixed rfl rfl ?_
  refine aA (kn:=[]) aa 7 rfl trivial ?_
  refine aT (n':=3) [32,33] [1] rfl rfl (.inl ⟨(ak.plain rfl),aK.cast (bq (i:=Int.toNat (k)) rfl rfl rfl Try.underlying29 hY (by first|omega|(simp;done)|(simp;omega)) (by first|omega|(simp;done)|(simp;omega))) rfl⟩) rfl ?_
  refine bB [0,2,1] rfl rfl rfl rfl (by kernel_rfl) ?_
  refine gf [0,2,1] (dP (ds:=[(dI xr0.bj),(dI xr0.held),(dI xr0.bX.cK),(dI xr0.bX.count),(dI xr0.bX.sum),(EV xr0.cD)]) rfl rfl rfl rfl rfl hY rfl (Nat.le_of_ble_eq_true rfl) (bw hx1) rfl (eL (x':=xr0) rfl)) rfl ?_
  refine bZ ?_
  have hX:cz l e k held bj=((l).set (Int.toNat (k)) xr0,e21):=by
    rw [oe hx1];simp only [hr0,hr1];(repeat' split)<;>first|rfl|omega|(exfalso;omega)|(simp_all;done)|(simp_all;omega)
  rw [hX] at hr;clear hX
  simp only [Prod.mk.injEq] at hr;obtain ⟨rfl,rfl⟩:=hr
  refine cE aa [0,1] 2 rfl rfl rfl rfl rfl rfl ?_ ?_
  all_goals first|rfl|(simp [au,aS,aZ];done)|(simp [au,aS,aZ];omega)
 have hc1':=hc1;try simp only [bm,bM] at hc1'
 refine cU ?_
 have hX:cz l e k held bj=(l,e21):=by
   rw [oe hx1];simp only [hr0,hr1];(repeat' split)<;>first|rfl|omega|(exfalso;omega)|(simp_all;done)|(simp_all;omega)
 rw [hX] at hr;clear hX
 simp only [Prod.mk.injEq] at hr;obtain ⟨rfl,rfl⟩:=hr
 refine cE aa [0,1] 2 rfl rfl rfl rfl rfl rfl ?_ ?_
 all_goals first|rfl|(simp [au,aS,aZ];done)|(simp [au,aS,aZ];omega)
theorem Fb (x:Nat->Value) (hx:∀ i,(x i).oneCell'=true) (l:List an) (e:Int) (r:an) (hl:l.length<=100) (l2:List an) (e2:Int) (hr:gE l e r=(l2,e2)):cA Try.prog 83 [(.c (.p 0 0 0 0)),(.g [(cI r.ax),(cI r.ba),(cI r.kind),(cI r.sum)])] [(0,(.box 147 (((aZ x).set 16 (.s 1 0 4 l.length)).set 19 (cI e)))),(1,(cH l))] [0] (.t []) [(0,(.box 147 (((aZ x).set 16 (.s 1 0 4 l2.length)).set 19 (cI e2)))),(1,(cH l2))]:=by
 refine cA.mk 25 [(0,(aC (.p 0 0 0 0))),(1,(aG [(cI r.ax),(cI r.ba),(cI r.kind),(cI r.sum)]))] 2 Try.func83 rfl rfl rfl rfl rfl rfl rfl rfl rfl ?_
 intro W0 F0 T0 pg
 refine ad aa 1 rfl ?_
 refine af ?_
 refine az aa 5 rfl ?_
 refine ay (dr rfl rfl rfl rfl rfl Try.underlying42) rfl ?_
 refine ab aa 1 rfl ?_
 refine ae ?_
 refine ag rfl (fun hc1=>?_) (fun hc1=>?_)
 ·
  have hc1':=of_decide_eq_true hc1
  refine az aa 1 rfl ?_
  obtain ⟨e20,hr0⟩:∃ (e20:Int),dv e 5=e20:=⟨_,rfl⟩
  refine aL 3 [0,2,1] (cg id id (ms:=(dw.set 19 (some (cI e)))) (ms':=(dw.set 19 (some (cI e20)))) (fun x hx=>jI x hx e 5 e20 hr0) nv rfl rfl ⟨⟨_,rfl,.inl ⟨rfl,rfl⟩⟩,⟨_,rfl,.inr (.c (.d _))⟩,trivial⟩ rfl rfl rfl rfl rfl rfl rfl trivial rfl rfl rfl rfl rfl rfl rfl rfl rfl rfl rfl rfl rfl) rfl ?_
  refine ae ?_
  refine ar ?_
  refine ao ?_
  have hX:gE l e r=(l,e20):=by
    unfold gE;first|(rw [if_pos (by omega),hr0];done)|(rw [if_neg (by omega)];done)
  rw [hX] at hr;clear hX
  simp only [Prod.mk.injEq] at hr;obtain ⟨rfl,rfl⟩:=hr
  refine ah aa [0,1] 2 rfl rfl rfl rfl rfl rfl ?_ ?_
  all_goals first|rfl|(simp [au,aS,aZ];done)|(simp [au,aS,aZ];omega)
 have hc1':=of_decide_eq_false hc1
 refine aP ?_
 refine bb [0,3] [2,0,1] mixed rfl rfl ?_
 refine aA (kn:=[]) aa 7 rfl trivial ?_
 refine aT (n':=4) [19] [] rfl rfl (.inl ⟨(ak.plain rfl),aK.cast (dz (ys:=[(0,(.g [(cI r.ax),(cI r.ba),(cI r.kind),(cI r.sum)]))]) (rows:=([r]).map gV) 3 xY rfl (by decide) ⟨⟨rfl,rfl⟩,trivial⟩ rfl rfl rfl rfl) rfl⟩) rfl ?_
 refine aT (n':=5) [18,20] [3,1] rfl rfl (.inl ⟨(ak.plain rfl),aK.cast (da (m:=1) (N:=l.length+1) (k2:=4) (ys:=([r]).map gV) xY rfl rfl rfl rfl rfl rfl (by first|omega|(simp;done)|(simp;omega)) rfl (.s rfl (by first|omega|(simp;done)|(simp;omega))) (by first|omega|(simp;done)|(simp;omega)) (by first|omega|(simp;done)|(simp;omega)) eP (by decide) (by first|omega|(simp;done)|(simp;omega)) (by first|omega|(simp;done)|(simp;omega))) rfl⟩) rfl ?_
 refine aA (kn:=[]) aa 3 rfl trivial ?_
 refine bB [4,2,0] rfl rfl rfl rfl (by kernel_rfl) ?_
 refine ab aa 1 rfl ?_
 refine bZ ?_
 have hX:gE l e r=(l++([r]),e):=by
   unfold gE;first|(rw [if_pos (by omega),hr0];done)|(rw [if_neg (by omega)];done)
 rw [hX] at hr;clear hX
 simp only [Prod.mk.injEq] at hr;obtain ⟨rfl,rfl⟩:=hr
 refine cE aa [0,4] 2 rfl rfl rfl rfl rfl rfl ?_ ?_
 all_goals first|rfl|(simp [au,aS,aZ];done)|(simp [au,aS,aZ];omega)

theorem sF (x:Nat->Value) (hx:∀ i,(x i).oneCell'=true) (s:bR) (e:Int) (t:aW) (hI:∀ t∈s.kept,fG t.number) (s2:bR) (e2:Int) (hr:eA s e t=(s2,e2)):cA Try.prog 82 [(.c (.p 0 0 0 0)),(.c (cI 0)),(.g [(cI t.number),(cI t.kind),(cI t.ba),(cI t.sum)])] [(0,(.box 147 ((((aZ x).set 5 (cI s.bE)).set 6 (dc s.kept)).set 19 (cI e))))] [0] (.t []) [(0,(.box 147 ((((aZ x).set 5 (cI s2.bE)).set 6 (dc s2.kept)).set 19 (cI e2))))]:=by
 refine cA.mk 31 [(0,(aC (.p 0 0 0 0))),(1,(aI 0)),(2,(aG [(cI t.number),(cI t.kind),(cI t.ba),(cI t.sum)]))] 1 Try.func82 rfl rfl rfl rfl rfl rfl rfl rfl rfl ?_
 intro W0 F0 T0 pg
 refine ad aa 1 rfl ?_
 refine af ?_
 obtain ⟨xr0,e0,hr0⟩:∃ (xr0:bR) (e0:Int),fu s t=(xr0,e0):=⟨_,_,rfl⟩
 refine db [0,1,5] [1,0] mixed rfl rfl ?_
 refine bT (kn:=[]) aa 5 rfl trivial ?_
 refine bW (n':=2) [13,10] [0] rfl rfl (.inl ⟨(ak.plain rfl),aK.cast (dn (i:=0) rfl rfl rfl Try.underlying35 mg rfl (by decide)) rfl⟩) rfl ?_
 refine bT (kn:=[]) aa 2 rfl trivial ?_
 refine bW (n':=2) [15,16] [] rfl rfl (.inl ⟨(ak.plain rfl),aK.cast (bJ 2 (Fn.frozen (av':=(.t [(.g [(cI xr0.bE),(dc xr0.kept)]),(.c (cI e0))])) (rF s t (by first|assumption|exact jY (by assumption) (by omega)|exact jn (by assumption) (by assumption)|(simp [fG];done)) xr0 e0 hr0) ⟨⟨.inl ⟨_,rfl,rfl⟩,.inr ⟨_,_,_,_,_,rfl,rfl,rfl,by simp⟩,trivial⟩,.inl ⟨_,rfl,rfl⟩,trivial⟩) CR rfl rfl ⟨⟨_,rfl,.g ⟨.d _,.d _,trivial⟩⟩,⟨_,rfl,.g ⟨.d _,.d _,.d _,.d _,trivial⟩⟩,trivial⟩ ⟨⟨trivial,trivial,trivial⟩,trivial,trivial⟩ trivial rfl rfl rfl rfl) rfl⟩) rfl ?_
 refine bT (n':=3) (kn:=[]) aa 6 rfl trivial ?_
 refine dS [0,1,6,7] [2,0] rfl rfl (by kernel_rfl) ?_
 refine then_ok ?_
 refine az aa 2 rfl ?_
 obtain ⟨e21,hr1⟩:∃ (e21:Int),dv e e0=e21:=⟨_,rfl⟩
 refine aL 3 [0,2] (cg id id (ms:=(dw.set 19 (some (cI e)))) (ms':=(dw.set 19 (some (cI e21)))) (fun x hx=>jI x hx e e0 e21 hr1) nv rfl rfl ⟨⟨_,rfl,.inl ⟨rfl,rfl⟩⟩,⟨_,rfl,.inr (.c (.d _))⟩,trivial⟩ rfl rfl rfl rfl rfl rfl rfl trivial rfl rfl rfl rfl rfl rfl rfl rfl rfl rfl rfl rfl rfl) rfl ?_
 refine ab aa 1 rfl ?_
 refine ae ?_
 refine ag rfl (fun hc1=>?_) (fun hc1=>?_)
 ·
  have hc1':=hc1;try simp only [bm,bM] at hc1'
  refine bb [0,1,6] [0,2] mixed rfl rfl ?_
  refine aA (kn:=[]) aa 6 rfl trivial ?_
  refine aT (n':=3) [29,25] [0] rfl rfl (.inl ⟨(ak.plain rfl),aK.cast (dn (i:=0) rfl rfl rfl Try.underlying35 mg rfl (by decide)) rfl⟩) rfl ?_
  refine bB [0,2] rfl rfl rfl rfl (by kernel_rfl) ?_
  refine ab aa 1 rfl ?_
  refine bZ ?_
  have hX:eA s e t=(xr0,e21):=by
    unfold eA;simp only [hr0,hr1];(repeat' split)<;>first|rfl|omega|(exfalso;omega)|(simp_all;done)|(simp_all;omega)
  rw [hX] at hr;clear hX
  simp only [Prod.mk.injEq] at hr;obtain ⟨rfl,rfl⟩:=hr
  refine cE aa [0] 1 rfl rfl rfl rfl rfl rfl ?_ ?_
  all_goals first|rfl|(simp [au,aS,aZ];done)|(simp [au,aS,aZ];omega)
 have hc1':=hc1;try simp only [bm,bM] at hc1'
 refine cU ?_
 have hX:eA s e t=(s,e21):=by
   unfold eA;simp only [hr0,hr1];(repeat' split)<;>first|rfl|omega|(exfalso;omega)|(simp_all;done)|(simp_all;omega)
 rw [hX] at hr;clear hX
 simp only [Prod.mk.injEq] at hr;obtain ⟨rfl,rfl⟩:=hr
 refine cE aa [0] 1 rfl rfl rfl rfl rfl rfl ?_ ?_
 all_goals first|rfl|(simp [au,aS,aZ];done)|(simp [au,aS,aZ];omega)
theorem DC (x:Nat->Value) (hx:∀ i,(x i).oneCell'=true) (s:bR) (e:Int) (t:aW) (hI:∀ t∈s.kept,fG t.number) (s2:bR) (e2:Int) (hr:eA s e t=(s2,e2)):cA Try.prog 82 [(.c (.p 0 0 0 0)),(.c (cI 1)),(.g [(cI t.number),(cI t.kind),(cI t.ba),(cI t.sum)])] [(0,(.box 147 ((((aZ x).set 7 (cI s.bE)).set 8 (dc s.kept)).set 19 (cI e))))] [0] (.t []) [(0,(.box 147 ((((aZ x).set 7 (cI s2.bE)).set 8 (dc s2.kept)).set 19 (cI e2))))]:=by
 refine cA.mk 31 [(0,(aC (.p 0 0 0 0))),(1,(aI 1)),(2,(aG [(cI t.number),(cI t.kind),(cI t.ba),(cI t.sum)]))] 1 Try.func82 rfl rfl rfl rfl rfl rfl rfl rfl rfl ?_
 intro W0 F0 T0 pg
 refine ad aa 1 rfl ?_
 refine af ?_
 obtain ⟨xr0,e0,hr0⟩:∃ (xr0:bR) (e0:Int),fu s t=(xr0,e0):=⟨_,_,rfl⟩
 refine db [0,1,5] [1,0] mixed rfl rfl ?_
 refine bT (kn:=[]) aa 5 rfl trivial ?_
 refine bW (n':=2) [13,10] [0] rfl rfl (.inl ⟨(ak.plain rfl),aK.cast (dn (i:=1) rfl rfl rfl Try.underlying35 mg rfl (by decide)) rfl⟩) rfl ?_
 refine bT (kn:=[]) aa 2 rfl trivial ?_
 refine bW (n':=2) [15,16] [] rfl rfl (.inl ⟨(ak.plain rfl),aK.cast (bJ 2 (Fn.frozen (av':=(.t [(.g [(cI xr0.bE),(dc xr0.kept)]),(.c (cI e0))])) (rF s t (by first|assumption|exact jY (by assumption) (by omega)|exact jn (by assumption) (by assumption)|(simp [fG];done)) xr0 e0 hr0) ⟨⟨.inl ⟨_,rfl,rfl⟩,.inr ⟨_,_,_,_,_,rfl,rfl,rfl,by simp⟩,trivial⟩,.inl ⟨_,rfl,rfl⟩,trivial⟩) CR rfl rfl ⟨⟨_,rfl,.g ⟨.d _,.d _,trivial⟩⟩,⟨_,rfl,.g ⟨.d _,.d _,.d _,.d _,trivial⟩⟩,trivial⟩ ⟨⟨trivial,trivial,trivial⟩,trivial,trivial⟩ trivial rfl rfl rfl rfl) rfl⟩) rfl ?_
 refine bT (n':=3) (kn:=[]) aa 6 rfl trivial ?_
 refine dS [0,1,6,7] [2,0] rfl rfl (by kernel_rfl) ?_
 refine then_ok ?_
 refine az aa 2 rfl ?_
 obtain ⟨e21,hr1⟩:∃ (e21:Int),dv e e0=e21:=⟨_,rfl⟩
 refine aL 3 [0,2] (cg id id (ms:=(dw.set 19 (some (cI e)))) (ms':=(dw.set 19 (some (cI e21)))) (fun x hx=>jI x hx e e0 e21 hr1) nv rfl rfl ⟨⟨_,rfl,.inl ⟨rfl,rfl⟩⟩,⟨_,rfl,.inr (.c (.d _))⟩,trivial⟩ rfl rfl rfl rfl rfl rfl rfl trivial rfl rfl rfl rfl rfl rfl rfl rfl rfl rfl rfl rfl rfl) rfl ?_
 refine ab aa 1 rfl ?_
 refine ae ?_
 refine ag rfl (fun hc1=>?_) (fun hc1=>?_)
 ·
  have hc1':=hc1;try simp only [bm,bM] at hc1'
  refine bb [0,1,6] [0,2] mixed rfl rfl ?_
  refine aA (kn:=[]) aa 6 rfl trivial ?_
  refine aT (n':=3) [29,25] [0] rfl rfl (.inl ⟨(ak.plain rfl),aK.cast (dn (i:=1) rfl rfl rfl Try.underlying35 mg rfl (by decide)) rfl⟩) rfl ?_
  refine bB [0,2] rfl rfl rfl rfl (by kernel_rfl) ?_
  refine ab aa 1 rfl ?_
  refine bZ ?_
  have hX:eA s e t=(xr0,e21):=by
    unfold eA;simp only [hr0,hr1];(repeat' split)<;>first|rfl|omega|(exfalso;omega)|(simp_all;done)|(simp_all;omega)
  rw [hX] at hr;clear hX
  simp only [Prod.mk.injEq] at hr;obtain ⟨rfl,rfl⟩:=hr
  refine cE aa [0] 1 rfl rfl rfl rfl rfl rfl ?_ ?_
  all_goals first|rfl|(simp [au,aS,aZ];done)|(simp [au,aS,aZ];omega)
 have hc1':=hc1;try simp only [bm,bM] at hc1'
 refine cU ?_
 have hX:eA s e t=(s,e21):=by
   unfold eA;simp only [hr0,hr1];(repeat' split)<;>first|rfl|omega|(exfalso;omega)|(simp_all;done)|(simp_all;omega)
 rw [hX] at hr;clear hX
 simp only [Prod.mk.injEq] at hr;obtain ⟨rfl,rfl⟩:=hr
 refine cE aa [0] 1 rfl rfl rfl rfl rfl rfl ?_ ?_
 all_goals first|rfl|(simp [au,aS,aZ];done)|(simp [au,aS,aZ];omega)
theorem Aq (x:Nat->Value) (hx:∀ i,(x i).oneCell'=true) (aq:List bz) (due:List Int) (aj:List bx) (book:List Entry) (e:Int) (t:aW) (ht:0<=t.ba/\t.ba < aq.length) (hA:∀ a∈aq,0<=a.aJ/\a.aJ < aj.length/\0<=a.ax/\a.ax < due.length) (hc:aj.length<=8) (hd:due.length<=8) (due2:List Int) (cards2:List bx) (book2:List Entry) (e2:Int) (hr:dY aq due aj book e t=(due2,cards2,book2,e2)):cA Try.prog 89 [(.c (.p 0 0 0 0)),(.g [(cI t.number),(cI t.kind),(cI t.ba),(cI t.sum)])] [(0,(.box 147 ((((((aZ x).set 2 (.s 1 0 6 aj.length)).set 3 (.s 2 0 1 due.length)).set 4 (.s 3 0 8 aq.length)).set 18 (dM book)).set 19 (cI e)))),(1,(dR aj)),(2,(dL due)),(3,(dX aq))] [0] (.t []) [(0,(.box 147 ((((((aZ x).set 2 (.s 1 0 6 cards2.length)).set 3 (.s 2 0 1 due2.length)).set 4 (.s 3 0 8 aq.length)).set 18 (dM book2)).set 19 (cI e2)))),(1,(dR cards2)),(2,(dL due2)),(3,(dX aq))]:=by
 refine cA.mk 77 [(0,(aC (.p 0 0 0 0))),(1,(aG [(cI t.number),(cI t.kind),(cI t.ba),(cI t.sum)]))] 4 Try.func89 rfl rfl rfl rfl rfl rfl rfl rfl rfl ?_
 intro W0 F0 T0 pg
 refine ad aa 1 rfl ?_
 refine af ?_
 obtain ⟨x1,hx1⟩:=ch (xs:=aq) (i:=Int.toNat (t.ba)) (by first|omega|(simp;done)|(simp;omega))
 have hx1A:=hA x1 (List.mem_of_getElem? hx1)
 refine bb [0,3] [4,0,1,2,3] mixed rfl rfl ?_
 refine aA (kn:=[]) aa 7 rfl trivial ?_
 refine aT (n':=5) [11,13] [3] rfl rfl (.inl ⟨(ak.plain rfl),aK.cast (bq (i:=Int.toNat (t.ba)) rfl rfl rfl Try.underlying31 mf (by first|omega|(simp;done)|(simp;omega)) (by first|omega|(simp;done)|(simp;omega))) rfl⟩) rfl ?_
 refine aT (n':=5) [14] [3] rfl rfl (.inl ⟨(ak.plain rfl),aK.cast (dg rfl rfl rfl Try.underlying67 rfl mf (bw hx1) rfl) rfl⟩) rfl ?_
 refine aA (n':=6) (kn:=[]) aa 1 rfl trivial ?_
 refine bB [5,4,0,1,2,3] rfl rfl rfl rfl (by kernel_rfl) ?_
 refine ab aa 1 rfl ?_
 refine ae ?_
 refine af ?_
 refine bb [0,3,4] [5,4,0,1,2,3] mixed rfl rfl ?_
 refine aA (kn:=[]) aa 2 rfl trivial ?_
 refine aT (n':=6) [17] [] rfl rfl (.inl ⟨(ak.plain rfl),aK.cast (aM rfl rfl rfl (aH (by first|omega|(simp;done)|(simp;omega)))) rfl⟩) rfl ?_
 refine aA (kn:=[]) aa 2 rfl trivial ?_
 refine aT (n':=6) [20] [] rfl rfl (.inl ⟨(ak.plain rfl),aK.cast (aM rfl rfl rfl (aH (by first|omega|(simp;done)|(simp;omega)))) rfl⟩) rfl ?_
 refine aA (kn:=[]) aa 2 rfl trivial ?_
 refine bB [5,4,0,1,2,3] rfl rfl rfl rfl (by kernel_rfl) ?_
 refine ae ?_
 refine ad aa 2 rfl ?_
 refine aV ?_
 refine ad aa 2 rfl ?_
 refine ag rfl (fun hc1=>?_) (fun hc1=>?_)
 ·
  have hc1':=of_decide_eq_true hc1
  refine af ?_
  obtain ⟨x2,hx2⟩:=ch (xs:=due) (i:=Int.toNat (x1.ax)) (by first|omega|(simp;done)|(simp;omega))
  refine bb [0,3,4,5] [5,4,0,1,2,3] mixed rfl rfl ?_
  refine aA (kn:=[]) aa 7 rfl trivial ?_
  refine aT (n':=6) [30,32] [2] rfl rfl (.inl ⟨(ak.plain rfl),aK.cast (bq (i:=Int.toNat (x1.ax)) rfl rfl rfl Try.underlying30 fK (by first|omega|(simp;done)|(simp;omega)) (by first|omega|(simp;done)|(simp;omega))) rfl⟩) rfl ?_
  refine aT (n':=6) [33] [2] rfl rfl (.inl ⟨(ak.plain rfl),aK.cast (eG rfl rfl rfl Try.underlying3 rfl (bw hx2) rfl) rfl⟩) rfl ?_
  refine aA (kn:=[]) aa 3 rfl trivial ?_
  refine aT (n':=6) [30,32] [2] rfl rfl (.inl ⟨(ak.plain rfl),aK.cast (bq (i:=Int.toNat (x1.ax)) rfl rfl rfl Try.underlying30 fK (by first|omega|(simp;done)|(simp;omega)) (by first|omega|(simp;done)|(simp;omega))) rfl⟩) rfl ?_
  refine bB [5,4,0,1,2,3] rfl rfl rfl rfl (by kernel_rfl) ?_
  refine gf [5,4,0,1,2,3] (dP (ds:=[(dI (IntKind.i64.wrap (x2+t.sum)))]) rfl rfl rfl rfl rfl fK rfl (Nat.le_of_ble_eq_true rfl) (bw hx2) rfl (eL (x':=(IntKind.i64.wrap (x2+t.sum))) rfl)) rfl ?_
  refine ae ?_
  refine fy (k:=0) (q:=3) (c':=(.s 2 0 1 (((due).set (Int.toNat (x1.ax)) (IntKind.i64.wrap (x2+t.sum))).length))) rfl rfl (by first|rfl|(simp;done)|(congr 1;omega)) rfl ?_
  refine aw ?_
  refine ab aa 4 rfl ?_
  obtain ⟨l20,e20,hr0⟩:∃ (l20:List Entry) (e20:Int),dT book e 1 (50+x1.ax) t.sum=(l20,e20):=⟨_,_,rfl⟩
  refine aL 6 [0,5,4,1,2,3] (cg id id (ms:=((dw.set 18 (some (dM book))).set 19 (some (cI e)))) (ms':=((dw.set 18 (some (dM l20))).set 19 (some (cI e20)))) (fun x hx=>jh x hx book e 1 (50+x1.ax) t.sum l20 e20 hr0) mr rfl rfl ⟨⟨_,rfl,.inl ⟨rfl,rfl⟩⟩,⟨_,rfl,.inr (.c (.d _))⟩,⟨_,rfl,.inr (.c (.d _))⟩,⟨_,rfl,.inr (.c (.d _))⟩,trivial⟩ rfl rfl rfl rfl rfl rfl rfl trivial rfl rfl rfl rfl rfl rfl rfl rfl rfl rfl rfl rfl rfl) rfl ?_
  refine bZ ?_
  refine bp ?_
  have hX:dY aq due aj book e t=((due).set (Int.toNat (x1.ax)) (IntKind.i64.wrap (x2+t.sum)),aj,l20,e20):=by
    unfold dY;rw [hx1];dsimp only;simp only [List.getD_eq_getElem?_getD,hx2,Option.getD_some,hr0];(repeat' split)<;>first|rfl|omega|(exfalso;omega)|(simp_all;done)|(simp_all;omega)
  rw [hX] at hr;clear hX
  simp only [Prod.mk.injEq] at hr;obtain ⟨rfl,rfl,rfl,rfl⟩:=hr
  refine cE aa [0,1,2,3] 4 rfl rfl rfl rfl rfl rfl ?_ ?_
  all_goals first|rfl|(simp [au,aS,aZ];done)|(simp [au,aS,aZ];omega)
 have hc1':=of_decide_eq_false hc1
 refine ad aa 2 rfl ?_
 refine ag rfl (fun hc2=>?_) (fun hc2=>?_)
 ·
  have hc2':=of_decide_eq_true hc2
  refine az aa 5 rfl ?_
  obtain ⟨l21,e21,hr1⟩:∃ (l21:List bx) (e21:Int),cz aj e x1.aJ 0 t.sum=(l21,e21):=⟨_,_,rfl⟩
  refine aL 7 [0,6,5,4,2,3] (cg id (aU [0,6]) (ms:=((dw.set 2 (some (.s 1 0 6 aj.length))).set 19 (some (cI e)))) (ms':=((dw.set 2 (some (.s 1 0 6 l21.length))).set 19 (some (cI e21)))) (fun x hx=>iT x hx aj e x1.aJ 0 t.sum (by first|omega|(simp;done)|(simp;omega)) l21 e21 hr1) nw rfl rfl ⟨⟨_,rfl,.inl ⟨rfl,rfl⟩⟩,⟨_,rfl,.inr (.c (.d _))⟩,⟨_,rfl,.inr (.c (.d _))⟩,⟨_,rfl,.inr (.c (.d _))⟩,trivial⟩ rfl rfl rfl rfl rfl rfl rfl ⟨rfl,trivial⟩ rfl rfl rfl rfl rfl rfl rfl rfl rfl rfl rfl rfl rfl) rfl ?_
  refine ae ?_
  refine aw ?_
  refine ab aa 4 rfl ?_
  obtain ⟨l22,e22,hr2⟩:∃ (l22:List Entry) (e22:Int),dT book e21 1 (10+x1.aJ) t.sum=(l22,e22):=⟨_,_,rfl⟩
  refine aL 7 [0,6,5,4,2,3] (cg id id (ms:=((dw.set 18 (some (dM book))).set 19 (some (cI e21)))) (ms':=((dw.set 18 (some (dM l22))).set 19 (some (cI e22)))) (fun x hx=>jh x hx book e21 1 (10+x1.aJ) t.sum l22 e22 hr2) mr rfl rfl ⟨⟨_,rfl,.inl ⟨rfl,rfl⟩⟩,⟨_,rfl,.inr (.c (.d _))⟩,⟨_,rfl,.inr (.c (.d _))⟩,⟨_,rfl,.inr (.c (.d _))⟩,trivial⟩ rfl rfl rfl rfl rfl rfl rfl trivial rfl rfl rfl rfl rfl rfl rfl rfl rfl rfl rfl rfl rfl) rfl ?_
  refine bZ ?_
  refine bp ?_
  have hX:dY aq due aj book e t=(due,l21,l22,e22):=by
    unfold dY;rw [hx1];dsimp only;simp only [List.getD_eq_getElem?_getD,Option.getD_some,hr1,hr2];(repeat' split)<;>first|rfl|omega|(exfalso;omega)|(simp_all;done)|(simp_all;omega)
  rw [hX] at hr;clear hX
  simp only [Prod.mk.injEq] at hr;obtain ⟨rfl,rfl,rfl,rfl⟩:=hr
  refine cE aa [0,6,2,3] 4 rfl rfl rfl rfl rfl rfl ?_ ?_
  all_goals first|rfl|(simp [au,aS,aZ];done)|(simp [au,aS,aZ];omega)
 have hc2':=of_decide_eq_false hc2
 refine ad aa 2 rfl ?_
 refine ag rfl (fun hc3=>?_) (fun hc3=>?_)
 ·
  have hc3':=of_decide_eq_true hc3
  refine af ?_
  obtain ⟨x2,hx2⟩:=ch (xs:=due) (i:=Int.toNat (x1.ax)) (by first|omega|(simp;done)|(simp;omega))
  refine bb [0,3,4,5] [5,4,0,1,2,3] mixed rfl rfl ?_
  refine aA (kn:=[]) aa 7 rfl trivial ?_
  refine aT (n':=6) [63,65] [2] rfl rfl (.inl ⟨(ak.plain rfl),aK.cast (bq (i:=Int.toNat (x1.ax)) rfl rfl rfl Try.underlying30 fK (by first|omega|(simp;done)|(simp;omega)) (by first|omega|(simp;done)|(simp;omega))) rfl⟩) rfl ?_
  refine aT (n':=6) [66] [2] rfl rfl (.inl ⟨(ak.plain rfl),aK.cast (eG rfl rfl rfl Try.underlying3 rfl (bw hx2) rfl) rfl⟩) rfl ?_
  refine aA (kn:=[]) aa 3 rfl trivial ?_
  refine aT (n':=6) [63,65] [2] rfl rfl (.inl ⟨(ak.plain rfl),aK.cast (bq (i:=Int.toNat (x1.ax)) rfl rfl rfl Try.underlying30 fK (by first|omega|(simp;done)|(simp;omega)) (by first|omega|(simp;done)|(simp;omega))) rfl⟩) rfl ?_
  refine bB [5,4,0,1,2,3] rfl rfl rfl rfl (by kernel_rfl) ?_
  refine gf [5,4,0,1,2,3] (dP (ds:=[(dI (IntKind.i64.wrap (x2 - t.sum)))]) rfl rfl rfl rfl rfl fK rfl (Nat.le_of_ble_eq_true rfl) (bw hx2) rfl (eL (x':=(IntKind.i64.wrap (x2 - t.sum))) rfl)) rfl ?_
  refine ae ?_
  refine fy (k:=0) (q:=3) (c':=(.s 2 0 1 (((due).set (Int.toNat (x1.ax)) (IntKind.i64.wrap (x2 - t.sum))).length))) rfl rfl (by first|rfl|(simp;done)|(congr 1;omega)) rfl ?_
  refine aw ?_
  refine ab aa 4 rfl ?_
  obtain ⟨l23,e23,hr3⟩:∃ (l23:List Entry) (e23:Int),dT book e (50+x1.ax) 2 t.sum=(l23,e23):=⟨_,_,rfl⟩
  refine aL 6 [0,5,4,1,2,3] (cg id id (ms:=((dw.set 18 (some (dM book))).set 19 (some (cI e)))) (ms':=((dw.set 18 (some (dM l23))).set 19 (some (cI e23)))) (fun x hx=>jh x hx book e (50+x1.ax) 2 t.sum l23 e23 hr3) mr rfl rfl ⟨⟨_,rfl,.inl ⟨rfl,rfl⟩⟩,⟨_,rfl,.inr (.c (.d _))⟩,⟨_,rfl,.inr (.c (.d _))⟩,⟨_,rfl,.inr (.c (.d _))⟩,trivial⟩ rfl rfl rfl rfl rfl rfl rfl trivial rfl rfl rfl rfl rfl rfl rfl rfl rfl rfl rfl rfl rfl) rfl ?_
  refine bZ ?_
  refine bp ?_
  have hX:dY aq due aj book e t=((due).set (Int.toNat (x1.ax)) (IntKind.i64.wrap (x2 - t.sum)),aj,l23,e23):=by
    unfold dY;rw [hx1];dsimp only;simp only [List.getD_eq_getElem?_getD,hx2,Option.getD_some,hr3];(repeat' split)<;>first|rfl|omega|(exfalso;omega)|(simp_all;done)|(simp_all;omega)
  rw [hX] at hr;clear hX
  simp only [Prod.mk.injEq] at hr;obtain ⟨rfl,rfl,rfl,rfl⟩:=hr
  refine cE aa [0,1,2,3] 4 rfl rfl rfl rfl rfl rfl ?_ ?_
  all_goals first|rfl|(simp [au,aS,aZ];done)|(simp [au,aS,aZ];omega)
 have hc3':=of_decide_eq_false hc3
 refine cU ?_
 refine bp ?_
 have hX:dY aq due aj book e t=(due,aj,book,e):=by
   unfold dY;rw [hx1];dsimp only;simp only [List.getD_eq_getElem?_getD,Option.getD_some,hx1];(repeat' split)<;>first|rfl|omega|(exfalso;omega)|(simp_all;done)|(simp_all;omega)
 rw [hX] at hr;clear hX
 simp only [Prod.mk.injEq] at hr;obtain ⟨rfl,rfl,rfl,rfl⟩:=hr
 refine cE aa [0,1,2,3] 4 rfl rfl rfl rfl rfl rfl ?_ ?_
 all_goals first|rfl|(simp [au,aS,aZ];done)|(simp [au,aS,aZ];omega)

theorem vZ (l:List bz) (hl:l.length * 64<=140737488355328):Fn Try.prog 96 [(.c (uw l))] (aC (.s 0 0 8 l.length)) [(0,.arr 67 8 (l.map iO))]:=by
 refine Fn.mk' 8 [(0,(aC (uw l)))] Try.func96 rfl rfl rfl rfl ?_
 intro W0 T0
 refine dG 0 rfl (fun hlen0=>?_)
 refine ad aa 1 rfl ?_
 refine af ?_
 refine az aa 1 rfl ?_
 refine ie (ak.plain rfl) rfl rfl Try.underlying31 rfl rfl (fun bn1 hbn1=>?_)
 refine ae ?_
 refine ag rfl (fun hc2=>?_) (fun hc2=>?_)
 ·
  have hc2':=hc2;try simp only [bm,bM] at hc2'
  refine ad aa 1 rfl ?_
  refine ar ?_
  refine ao ?_
  refine cV (aD.nil 2 67 8 (by decide) rfl) ?_
  refine ah aa [0] 1 rfl rfl rfl rfl rfl rfl ?_ ?_
  ·(have h0:=hbn1 (by assumption);have h1:l=[]:=by (cases l with|nil=>rfl|cons=>simp at h0));subst h1;rfl
  ·(have h0:=hbn1 (by assumption);have h1:l=[]:=by (cases l with|nil=>rfl|cons=>simp at h0));subst h1;rfl
 have hc2':=hc2;try simp only [bm,bM] at hc2'
 refine aP ?_
 refine eE ?_
 refine aL 1 [0] (dz (ys:=[]) (rows:=(([]:List bz)).map iO) 0 rZ rfl (by decide) trivial rfl rfl rfl rfl) rfl ?_
 refine ab aa 1 rfl ?_
 refine aL 2 [1] (da (m:=l.length) (N:=l.length) (k2:=1) (ys:=(l).map iO) rZ rfl rfl rfl rfl rfl rfl (by first|omega|(simp;omega)|(simp;done)) rfl (.d _ _) (by first|omega|(simp;omega)|(simp;done)) (by first|omega|(simp;omega)|(simp;done)) rfl (by decide) (by first|omega|(simp;omega)|(simp;done)) (by first|omega|(simp;omega)|(simp;done))) rfl ?_
 refine ab aa 1 rfl ?_
 refine ae ?_
 refine ar ?_
 refine ah aa [1] 1 rfl rfl rfl rfl rfl rfl ?_ ?_
 ·first|rfl|simp [fL,aC]
 ·first|rfl|simp
theorem mM (l:List bV) (hl:l.length * 40<=140737488355328):Fn Try.prog 85 [(.c (ed l))] (aC (.s 0 0 5 l.length)) [(0,.arr 113 5 (l.map fj))]:=by
 refine Fn.mk' 8 [(0,(aC (ed l)))] Try.func85 rfl rfl rfl rfl ?_
 intro W0 T0
 refine dG 0 rfl (fun hlen0=>?_)
 refine ad aa 1 rfl ?_
 refine af ?_
 refine az aa 1 rfl ?_
 refine ie (ak.plain rfl) rfl rfl Try.underlying37 rfl rfl (fun bn1 hbn1=>?_)
 refine ae ?_
 refine ag rfl (fun hc2=>?_) (fun hc2=>?_)
 ·
  have hc2':=hc2;try simp only [bm,bM] at hc2'
  refine ad aa 1 rfl ?_
  refine ar ?_
  refine ao ?_
  refine cV (aD.nil 2 113 5 (by decide) rfl) ?_
  refine ah aa [0] 1 rfl rfl rfl rfl rfl rfl ?_ ?_
  ·(have h0:=hbn1 (by assumption);have h1:l=[]:=by (cases l with|nil=>rfl|cons=>simp at h0));subst h1;rfl
  ·(have h0:=hbn1 (by assumption);have h1:l=[]:=by (cases l with|nil=>rfl|cons=>simp at h0));subst h1;rfl
 have hc2':=hc2;try simp only [bm,bM] at hc2'
 refine aP ?_
 refine eE ?_
 refine aL 1 [0] (dz (ys:=[]) (rows:=(([]:List bV)).map fj) 0 mj rfl (by decide) trivial rfl rfl rfl rfl) rfl ?_
 refine ab aa 1 rfl ?_
 refine aL 2 [1] (da (m:=l.length) (N:=l.length) (k2:=1) (ys:=(l).map fj) mj rfl rfl rfl rfl rfl rfl (by first|omega|(simp;omega)|(simp;done)) rfl (.d _ _) (by first|omega|(simp;omega)|(simp;done)) (by first|omega|(simp;omega)|(simp;done)) rfl (by decide) (by first|omega|(simp;omega)|(simp;done)) (by first|omega|(simp;omega)|(simp;done))) rfl ?_
 refine ab aa 1 rfl ?_
 refine ae ?_
 refine ar ?_
 refine ah aa [1] 1 rfl rfl rfl rfl rfl rfl ?_ ?_
 ·first|rfl|simp [fL,aC]
 ·first|rfl|simp
theorem vY (l:List (List D)) (hl:l.length * 64<=140737488355328):Fn Try.prog 94 [(.c (cR 6 ((l).map id)))] (aC (.s 0 0 6 l.length)) [(0,.arr 61 6 (l.map id))]:=by
 refine Fn.mk' 8 [(0,(aC (cR 6 ((l).map id))))] Try.func94 rfl rfl rfl rfl ?_
 intro W0 T0
 refine dG 0 rfl (fun hlen0=>?_)
 refine ad aa 1 rfl ?_
 refine af ?_
 refine az aa 1 rfl ?_
 refine ie (ak.plain rfl) rfl rfl Try.underlying29 rfl rfl (fun bn1 hbn1=>?_)
 refine ae ?_
 refine ag rfl (fun hc2=>?_) (fun hc2=>?_)
 ·
  have hc2':=hc2;try simp only [bm,bM] at hc2'
  refine ad aa 1 rfl ?_
  refine ar ?_
  refine ao ?_
  refine cV (aD.nil 2 61 6 (by decide) rfl) ?_
  refine ah aa [0] 1 rfl rfl rfl rfl rfl rfl ?_ ?_
  ·(have h0:=hbn1 (by assumption);have h1:l=[]:=by (cases l with|nil=>rfl|cons=>simp at h0));subst h1;rfl
  ·(have h0:=hbn1 (by assumption);have h1:l=[]:=by (cases l with|nil=>rfl|cons=>simp at h0));subst h1;rfl
 have hc2':=hc2;try simp only [bm,bM] at hc2'
 refine aP ?_
 refine eE ?_
 refine aL 1 [0] (dz (ys:=[]) (rows:=(([]:List (List D))).map id) 0 ya rfl (by decide) trivial rfl rfl rfl rfl) rfl ?_
 refine ab aa 1 rfl ?_
 refine aL 2 [1] (da (m:=l.length) (N:=0+l.length) (k2:=1) (ys:=(l).map id) ya rfl rfl rfl rfl rfl rfl (by first|omega|(simp;omega)|(simp;done)) rfl (.d _ _) (by first|omega|(simp;omega)|(simp;done)) (by first|omega|(simp;omega)|(simp;done)) eP (by decide) (by first|omega|(simp;omega)|(simp;done)) (by first|omega|(simp;omega)|(simp;done))) rfl ?_
 refine ab aa 1 rfl ?_
 refine ae ?_
 refine ar ?_
 refine ah aa [1] 1 rfl rfl rfl rfl rfl rfl ?_ ?_
 ·first|rfl|simp [fL,aC]
 ·first|rfl|simp

theorem kc (v w:Value) (b:Bk) (l1:b.aj.length<=8) (l2:b.due.length<=8) (l3:b.aq.length<=30) (l4:b.aN.length<=100):cA Try.prog 74 [(.c (.p 0 0 0 0))] [(0,(.box 98 (aS b 1 2 3 4 (.d (.v v)) (.d (.v w))))),(1,(dR b.aj)),(2,(dL b.due)),(3,(dX b.aq)),(4,(cH b.aN))] [0] (.v (.c (.p 1 0 0 0))) [(0,(.box 98 (aS b 2 3 4 5 (.d (.v v)) (.d (.v w))))),(1,(.box 147 (aS b 6 7 8 9 (.d (.v v)) (cI 0)))),(2,(dR b.aj)),(3,(dL b.due)),(4,(dX b.aq)),(5,(cH b.aN)),(6,(dR b.aj)),(7,(dL b.due)),(8,(dX b.aq)),(9,(cH b.aN))]:=by
 refine cA.mk 51 [(0,(aC (.p 0 0 0 0)))] 5 Try.func74 rfl rfl rfl rfl rfl rfl rfl rfl rfl ?_
 intro W0 F0 T0 pg
 refine ad aa 1 rfl ?_
 refine ad aa 7 rfl ?_
 refine af ?_
 refine db [0,3] [5,0,1,2,3,4] mixed rfl rfl ?_
 refine bT (kn:=[]) aa 9 rfl trivial ?_
 refine bW (n':=7) [18] [1] rfl rfl (.inl ⟨(ak.plain rfl),aK.cast (BN 6 (fun l hl=>vY l (by rw [hl];first|omega|(simp;done)|(simp;omega))) GI rfl rfl rfl rfl rfl (by simp)) rfl⟩) rfl ?_
 refine bT (kn:=[]) aa 5 rfl trivial ?_
 refine bW (n':=8) [24] [2] rfl rfl (.inl ⟨(ak.plain rfl),aK.cast (fP 7 [2] (pP b.due (by first|omega|(simp;done)|(simp;omega))) EB rfl rfl ⟨⟨_,rfl,.c (.s rfl (by decide) (by first|omega|(simp;done)|(simp;omega)))⟩,trivial⟩ trivial ⟨(Ef _),trivial⟩ rfl rfl rfl rfl) rfl⟩) rfl ?_
 refine bT (kn:=[]) aa 5 rfl trivial ?_
 refine bW (n':=9) [30] [3] rfl rfl (.inl ⟨(ak.plain rfl),aK.cast (fP 8 [3] (vZ b.aq (by first|omega|(simp;done)|(simp;omega))) GH rfl rfl ⟨⟨_,rfl,.c (.s rfl (by decide) (by first|omega|(simp;done)|(simp;omega)))⟩,trivial⟩ trivial ⟨(zS _),trivial⟩ rfl rfl rfl rfl) rfl⟩) rfl ?_
 refine bT (kn:=[]) aa 5 rfl trivial ?_
 refine bW (n':=10) [36] [4] rfl rfl (.inl ⟨(ak.plain rfl),aK.cast (fP 9 [4] (mL b.aN (by first|omega|(simp;done)|(simp;omega))) EO rfl rfl ⟨⟨_,rfl,.c (.s rfl (by decide) (by first|omega|(simp;done)|(simp;omega)))⟩,trivial⟩ trivial ⟨(wC _),trivial⟩ rfl rfl rfl rfl) rfl⟩) rfl ?_
 refine bT (kn:=[]) aa 16 rfl trivial ?_
 refine dS [3] [5,9,8,7,6,0,1,2,3,4] rfl rfl (by kernel_rfl) ?_
 refine then_ok ?_
 refine ad aa 2 rfl ?_
 refine ar ?_
 refine ah aa [0,5,1,2,3,4,6,7,8,9] 10 rfl rfl rfl rfl rfl rfl ?_ ?_
 all_goals first|rfl|(simp [au,aS,aZ];done)|(simp [au,aS,aZ];omega)
theorem fg (v w:Value) (b c:Bk) (e:Int) (he:e=0):cA Try.prog 77 [(.c (.p 0 0 0 0)),(.c (.p 1 0 0 0))] [(0,(.box 98 (aS b 2 3 4 5 (.d (.v v)) (.d (.v w))))),(1,(.box 147 (aS c 6 7 8 9 (.d (.v v)) (cI e)))),(2,(dR b.aj)),(3,(dL b.due)),(4,(dX b.aq)),(5,(cH b.aN)),(6,(dR c.aj)),(7,(dL c.due)),(8,(dX c.aq)),(9,(cH c.aN))] [0] (.v (.c (cI e))) [(0,(.box 98 (aS c 1 2 3 4 (.d (.v v)) (.d (.v w))))),(1,(dR c.aj)),(2,(dL c.due)),(3,(dX c.aq)),(4,(cH c.aN))]:=by
 refine cA.mk 21 [(0,(aC (.p 0 0 0 0))),(1,(aC (.p 1 0 0 0)))] 10 Try.func77 rfl rfl rfl rfl rfl rfl rfl rfl rfl ?_
 intro W0 F0 T0 pg
 refine ad aa 1 rfl ?_
 refine af ?_
 refine ad aa 5 rfl ?_
 refine ag rfl (fun hc1=>?_) (fun hc1=>?_)
 ·
  have hc1':=of_decide_eq_true hc1
  refine aw ?_
  refine ab aa 8 rfl ?_
  refine ae ?_
  refine ad aa 5 rfl ?_
  refine ar ?_
  refine ah aa [0,6,7,8,9] 5 rfl rfl rfl rfl rfl rfl ?_ ?_
  all_goals first|rfl|(simp [au,aS,aZ];done)|(simp [au,aS,aZ];omega)
 have hc1':=of_decide_eq_false hc1
 (exfalso;simp_all)
theorem fT (v w:Value) (b c:Bk) (e:Int) (he:¬e=0):cA Try.prog 77 [(.c (.p 0 0 0 0)),(.c (.p 1 0 0 0))] [(0,(.box 98 (aS b 2 3 4 5 (.d (.v v)) (.d (.v w))))),(1,(.box 147 (aS c 6 7 8 9 (.d (.v v)) (cI e)))),(2,(dR b.aj)),(3,(dL b.due)),(4,(dX b.aq)),(5,(cH b.aN)),(6,(dR c.aj)),(7,(dL c.due)),(8,(dX c.aq)),(9,(cH c.aN))] [0] (.v (.c (cI e))) [(0,(.box 98 (aS b 1 2 3 4 (.d (.v v)) (.d (.v w))))),(1,(dR b.aj)),(2,(dL b.due)),(3,(dX b.aq)),(4,(cH b.aN))]:=by
 refine cA.mk 21 [(0,(aC (.p 0 0 0 0))),(1,(aC (.p 1 0 0 0)))] 10 Try.func77 rfl rfl rfl rfl rfl rfl rfl rfl rfl ?_
 intro W0 F0 T0 pg
 refine ad aa 1 rfl ?_
 refine af ?_
 refine ad aa 5 rfl ?_
 refine ag rfl (fun hc1=>?_) (fun hc1=>?_)
 ·
  have hc1':=of_decide_eq_true hc1
  (exfalso;simp_all)
 have hc1':=of_decide_eq_false hc1
 refine aP ?_
 refine ad aa 5 rfl ?_
 refine ar ?_
 refine ah aa [0,2,3,4,5] 5 rfl rfl rfl rfl rfl rfl ?_ ?_
 all_goals first|rfl|(simp [au,aS,aZ];done)|(simp [au,aS,aZ];omega)

theorem Cm (x:Nat->Value) (hx:∀ i,(x i).oneCell'=true) (s0 s1:bR) (n0 n1:Int) (w0 w1:List bV) (idn kind ax move sum:Int) (l0:w0.length<=60) (l1:w1.length<=60) (m0:s0.kept.length<=40) (m1:s1.kept.length<=40) (v0:List bV) (v1:List bV) (a2:Answer) (hr:ez s0 s1 n0 n1 w0 w1 (⟨idn,kind,0,ax,move,sum⟩:aE)=(v0,v1,a2)):cA Try.prog 66 [(.c (.p 0 0 0 0)),(.c (.q (cG (⟨idn,kind,0,ax,move,sum⟩:aE)) 0))] [(0,(.box 98 (((((((((aZ x).set 5 (cI s0.bE)).set 6 (dc s0.kept)).set 7 (cI s1.bE)).set 8 (dc s1.kept)).set 9 (cI n0)).set 10 (cI n1)).set 11 (ed w0)).set 12 (ed w1))))] [0] (.v (.g [cI a2.err,cI a2.ba])) [(0,(.box 98 (((((((((aZ x).set 5 (cI s0.bE)).set 6 (dc s0.kept)).set 7 (cI s1.bE)).set 8 (dc s1.kept)).set 9 (cI n0)).set 10 (cI n1)).set 11 (ed v0)).set 12 (ed v1))))]:=by
 refine cA.Ed 83 [(0,(aC (.p 0 0 0 0))),(1,(aC (.q (cG (⟨idn,kind,0,ax,move,sum⟩:aE)) 0)))] 1 Try.func66 rfl rfl rfl rfl rfl rfl rfl rfl rfl ?_
 intro W0 F0 T0 pg hF
 have hF0:∀ b,F0 b->(pg 0).g=b:=fun b hb=>by obtain ⟨k,hk,h⟩:=hF b hb;rw [List.mem_singleton.1 hk] at h;exact h
 refine ad aa 1 rfl ?_
 refine af ?_
 refine cq 20 (false) ?_ ?_
 ·
  refine aw ?_
  refine ab aa 4 rfl ?_
  refine ay (aM rfl rfl rfl (show _=some (Value.bool false) from rfl)) rfl ?_
  refine ab aa 7 rfl ?_
  refine ae ?_
  exact aD.bG 12 rfl rfl (by first|(simp [];done)|(simp_all;done)|(exfalso;simp_all;done)|(simp_all;omega)) rfl
 refine ag rfl (fun hno=>by cases hno) (fun _=>?_)
 refine aP ?_
 refine ad aa 6 rfl ?_
 refine az aa 5 rfl ?_
 refine ay (dn (i:=1) rfl rfl rfl Try.underlying38 kI rfl (by decide)) rfl ?_
 refine ab aa 1 rfl ?_
 refine aL 3 [2,1,0] (bJ 2 (mM w1 (by first|omega|(simp;done)|(simp;omega))) EH rfl rfl ⟨⟨_,rfl,.c (.d _)⟩,trivial⟩ trivial ⟨(fun _ _ _ _=>trivial),trivial⟩ rfl rfl rfl rfl) rfl ?_
 refine ab aa 1 rfl ?_
 refine ae ?_
 refine af ?_
 refine af ?_
 refine bb [0,1,4,5,6] [2,1,0] mixed rfl rfl ?_
 refine aA (kn:=[]) aa 8 rfl trivial ?_
 refine aT (n':=3) [42,39] [0] rfl rfl (.inl ⟨(ak.plain rfl),aK.cast (dn (i:=0) rfl rfl rfl Try.underlying35 mg rfl (by decide)) rfl⟩) rfl ?_
 refine aA (kn:=[]) aa 2 rfl trivial ?_
 refine aT (n':=3) [45] [] rfl rfl (.inl ⟨(ak.plain rfl),aK.cast (cT rfl rfl rfl rfl rfl Try.underlying32) rfl⟩) rfl ?_
 refine aA (kn:=[]) aa 1 rfl trivial ?_
 refine bB [2,1,0] rfl rfl rfl rfl (by kernel_rfl) ?_
 refine ae ?_
 refine aV ?_
 refine cx (β:=Nat×List bV) (fun (p:Nat×List bV)=>match p with|(q,m)=>⟨[(0,(aC (.p 0 0 0 0))),(1,(aC (.q (cG (⟨idn,kind,0,ax,move,sum⟩:aE)) 0))),(4,(aC (.p 1 0 0 0))),(5,(aI 1)),(6,(aC (.s 2 0 5 m.length))),(45,(aC (dc s0.kept))),(46,(aI (↑s0.kept.length:Int))),(47,(aI (↑q:Int)))],[(2,(Fj m)),(1,(.box 65 [(cI 0),(cI 0)])),(0,(.box 98 (((((((((aZ x).set 5 (cI s0.bE)).set 6 (dc s0.kept)).set 7 (cI s1.bE)).set 8 (dc s1.kept)).set 9 (cI n0)).set 10 (cI n1)).set 11 (ed w0)).set 12 (ed w1))))],3⟩) (fun (p:Nat×List bV)=>match p with|(q,m)=>q<=s0.kept.length/\m=w1++(s0.kept.take q).map (fun t=>(⟨t,-1⟩:bV))) (fun (p:Nat×List bV)=>match p with|(q,m)=>s0.kept.length - q) (0,w1) ?_ ?_ ?_
 ·exact ⟨by omega,by simp⟩
 ·exact aD.bY id (by refine ⟨?_,?_,?_,?_,?_,?_,?_,?_,trivial⟩<;>first|rfl|(simp only [bn];done)|(congr 3;omega)|(congr 4;omega)|(simp only [bo];rfl)) (by refine ⟨?_,?_,?_,trivial⟩<;>first|rfl|(simp only [bn];done)|(congr 3;omega)|(congr 4;omega)|(simp only [bo];rfl)) rfl
 rintro ⟨q,m⟩ ⟨hi0_0,hi0_1⟩
 have hml:m.length=w1.length+q:=by rw [hi0_1];simp;omega
 refine ad aa 1 rfl ?_
 refine af ?_
 refine ag rfl (fun hc2=>?_) (fun hc2=>?_)
 ·
  have hc2':=of_decide_eq_true hc2
  refine aP ?_
  refine af ?_
  refine aV ?_
  refine eE ?_
  obtain ⟨x1,hx1⟩:=ch (xs:=s0.kept) (i:=q) (by first|omega|(simp;done)|(simp;omega))
  refine ay (cQ (i:=q) rfl rfl rfl Try.underlying32 me (by first|omega|(simp;done)|(simp;omega)) (bw hx1)) rfl ?_
  refine ab aa 3 rfl ?_
  refine ae ?_
  refine aw ?_
  refine ab aa 3 rfl ?_
  refine aL 5 [4,3,2,1,0] (dz (ys:=[(0,(.g [(cI x1.number),(cI x1.kind),(cI x1.ba),(cI x1.sum),(cI (-1))]))]) (rows:=([(⟨x1,(-1)⟩:bV)]).map fj) 4 mj rfl (by decide) ⟨⟨rfl,rfl⟩,trivial⟩ rfl rfl rfl rfl) rfl ?_
  refine aL 6 [5,4,3,1,0] (da (m:=1) (N:=m.length+1) (k2:=5) (ys:=([(⟨x1,(-1)⟩:bV)]).map fj) mj rfl rfl rfl rfl rfl rfl (by first|omega|(simp;done)|(simp;omega)) rfl (.s rfl (by first|omega|(simp;done)|(simp;omega))) (by first|omega|(simp;done)|(simp;omega)) (by first|omega|(simp;done)|(simp;omega)) eP (by decide) (by first|omega|(simp;done)|(simp;omega)) (by first|omega|(simp;done)|(simp;omega))) rfl ?_
  refine ab aa 1 rfl ?_
  refine bZ ?_
  refine bp ?_
  refine then_ok ?_
  refine aw ?_
  refine ay (aM rfl rfl rfl (aH (by first|omega|(simp;done)|(simp;omega)))) rfl ?_
  refine ab aa 1 rfl ?_
  refine ae ?_
  refine ⟨(q+1,m++([(⟨x1,(-1)⟩:bV)])),⟨by omega,by rw [List.take_add_one,hx1,List.map_append,<-List.append_assoc,<-hi0_1];rfl⟩,by first|omega|(simp;done)|(simp;omega),aD.bY (fun k=>if k=2 then 5 else k) (by refine ⟨?_,?_,?_,?_,?_,?_,?_,?_,trivial⟩<;>first|rfl|(simp only [bn];done)|(congr 3;omega)|(congr 4;omega)|(simp only [bo];rfl)|(first|exact cJ rfl (by omega)|exact iJ rfl (by simp only [List.length_append,List.length_cons,List.length_nil];omega))) (by refine ⟨?_,?_,?_,trivial⟩<;>first|rfl|(simp only [bn];done)|(congr 3;omega)|(congr 4;omega)|(simp only [bo];rfl)) rfl⟩
 have hc2':=of_decide_eq_false hc2
 refine cp ?_
 refine aR ?_
 refine aR ?_
 refine bQ ?_
 refine then_ok ?_
 refine af ?_
 refine bb [0,1,4,5,6,45,46,47] [2,1,0] mixed rfl rfl ?_
 refine aA (kn:=[]) aa 9 rfl trivial ?_
 refine aT (n':=3) [65,62] [0] rfl rfl (.inl ⟨(ak.plain rfl),aK.cast (dn (i:=0) rfl rfl rfl Try.underlying36 fK rfl (by decide)) rfl⟩) rfl ?_
 refine aA (kn:=[]) aa 2 rfl trivial ?_
 refine aT (n':=4) [68] [] rfl rfl (.inl ⟨(ak.plain rfl),aK.cast (dz (ys:=[(0,(.g [(cI 0),(cI 0),(cI 0),(cI 0),(cI n0)]))]) (rows:=([(⟨(⟨0,0,0,0⟩:aW),n0⟩:bV)]).map fj) 3 mj rfl (by decide) ⟨⟨rfl,rfl⟩,trivial⟩ rfl rfl rfl rfl) rfl⟩) rfl ?_
 refine aT (n':=5) [57,69] [3,2] rfl rfl (.inl ⟨(ak.plain rfl),aK.cast (da (m:=1) (N:=m.length+1) (k2:=4) (ys:=([(⟨(⟨0,0,0,0⟩:aW),n0⟩:bV)]).map fj) mj rfl rfl rfl rfl rfl rfl (by first|omega|(simp;done)|(simp;omega)) rfl (.s rfl (by first|omega|(simp;done)|(simp;omega))) (by first|omega|(simp;done)|(simp;omega)) (by first|omega|(simp;done)|(simp;omega)) eP (by decide) (by first|omega|(simp;done)|(simp;omega)) (by first|omega|(simp;done)|(simp;omega))) rfl⟩) rfl ?_
 refine bB [4,1,0] rfl rfl rfl rfl (by kernel_rfl) ?_
 refine ab aa 1 rfl ?_
 refine ae ?_
 refine af ?_
 refine az aa 1 rfl ?_
 refine ay (dr rfl rfl rfl rfl rfl Try.underlying37) rfl ?_
 refine ab aa 1 rfl ?_
 refine ae ?_
 refine ag rfl (fun hc3=>?_) (fun hc3=>?_)
 ·
  have hc3':=of_decide_eq_true hc3
  refine ad aa 2 rfl ?_
  refine ar ?_
  refine ao ?_
  have hX:ez s0 s1 n0 n1 w0 w1 (⟨idn,kind,0,ax,move,sum⟩:aE)=(w0,w1,(⟨5,0⟩:Answer)):=by
    (have ht:s0.kept.take q=s0.kept:=List.take_of_length_le (by omega));rw [ht] at hi0_1;unfold ez;dsimp only;rw [if_pos rfl];unfold hZ gD;rw [<-hi0_1];first|rw [if_pos (by simp;omega)]|rw [if_neg (by simp;omega)]
  rw [hX] at hr;clear hX
  simp only [Prod.mk.injEq] at hr;obtain ⟨rfl,rfl,rfl⟩:=hr
  refine ah aa [0,1] 1 rfl rfl rfl rfl rfl rfl ?_ ?_
  all_goals first|rfl|(simp [au,aS,aZ];done)|(simp [au,aS,aZ];omega)
 have hc3':=of_decide_eq_false hc3
 refine aP ?_
 refine rX (s':=[(0,(aC (.p 0 0 0 0))),(1,(aC (.q (cG (⟨idn,kind,0,ax,move,sum⟩:aE)) 0))),(4,(aC (.p 1 0 0 0))),(5,(aI 1)),(6,(aC (ed (m++([(⟨(⟨0,0,0,0⟩:aW),n0⟩:bV)]))))),(45,(aC (dc s0.kept))),(46,(aI (↑s0.kept.length:Int))),(47,(aI (↑q:Int))),(70,(aC (ed (m++([(⟨(⟨0,0,0,0⟩:aW),n0⟩:bV)]))))),(71,(aC (ed (m++([(⟨(⟨0,0,0,0⟩:aW),n0⟩:bV)]))))),(72,(aI (↑(m.length+1):Int))),(73,(aB (decide ((↑(m.length+1):Int) > 60))))]) (h':=[(1,(.box 65 [(cI 0),(cI 0)])),(0,(.box 98 (((((((((aZ x).set 5 (cI s0.bE)).set 6 (dc s0.kept)).set 7 (cI s1.bE)).set 8 (dc s1.kept)).set 9 (cI n0)).set 10 (cI n1)).set 11 (ed w0)).set 12 (ed w1))))]) hF0 4 rfl rfl ⟨⟨_,rfl,.inl ⟨rfl,rfl⟩⟩,⟨_,rfl,.inl ⟨rfl,rfl⟩⟩,⟨_,rfl,.inl ⟨rfl,rfl⟩⟩,⟨_,rfl,.inl ⟨rfl,rfl⟩⟩,⟨_,rfl,.inr ⟨_,_,rfl,rfl,.s rfl (by decide) (by first|omega|(simp;done)|(simp;omega))⟩⟩,⟨_,rfl,.inl ⟨rfl,rfl⟩⟩,⟨_,rfl,.inl ⟨rfl,rfl⟩⟩,⟨_,rfl,.inl ⟨rfl,rfl⟩⟩,⟨_,rfl,.inr ⟨_,_,rfl,rfl,.s rfl (by decide) (by first|omega|(simp;done)|(simp;omega))⟩⟩,⟨_,rfl,.inr ⟨_,_,rfl,rfl,.s rfl (by decide) (by first|omega|(simp;done)|(simp;omega))⟩⟩,⟨_,rfl,.inl ⟨rfl,rfl⟩⟩,⟨_,rfl,.inl ⟨rfl,rfl⟩⟩,trivial⟩ ⟨rfl,rfl,trivial⟩ rfl ?_
 refine az aa 6 rfl ?_
 refine ay (dn (i:=1) rfl rfl rfl Try.underlying38 kI rfl (by decide)) rfl ?_
 refine ab aa 1 rfl ?_
 refine ae ?_
 refine ad aa 2 rfl ?_
 refine ar ?_
 have hX:ez s0 s1 n0 n1 w0 w1 (⟨idn,kind,0,ax,move,sum⟩:aE)=(w0,m++([(⟨(⟨0,0,0,0⟩:aW),n0⟩:bV)]),(⟨0,0⟩:Answer)):=by
   (have ht:s0.kept.take q=s0.kept:=List.take_of_length_le (by omega));rw [ht] at hi0_1;unfold ez;dsimp only;rw [if_pos rfl];unfold hZ gD;rw [<-hi0_1];first|rw [if_pos (by simp;omega)]|rw [if_neg (by simp;omega)]
 rw [hX] at hr;clear hX
 simp only [Prod.mk.injEq] at hr;obtain ⟨rfl,rfl,rfl⟩:=hr
 refine ah aa [0,1] 1 rfl rfl rfl rfl rfl rfl ?_ ?_
 all_goals first|rfl|(simp [au,aS,aZ];done)|(simp [au,aS,aZ];omega)
theorem Cl (x:Nat->Value) (hx:∀ i,(x i).oneCell'=true) (s0 s1:bR) (n0 n1:Int) (w0 w1:List bV) (idn kind ax move sum:Int) (l0:w0.length<=60) (l1:w1.length<=60) (m0:s0.kept.length<=40) (m1:s1.kept.length<=40) (v0:List bV) (v1:List bV) (a2:Answer) (hr:ez s0 s1 n0 n1 w0 w1 (⟨idn,kind,1,ax,move,sum⟩:aE)=(v0,v1,a2)):cA Try.prog 66 [(.c (.p 0 0 0 0)),(.c (.q (cG (⟨idn,kind,1,ax,move,sum⟩:aE)) 0))] [(0,(.box 98 (((((((((aZ x).set 5 (cI s0.bE)).set 6 (dc s0.kept)).set 7 (cI s1.bE)).set 8 (dc s1.kept)).set 9 (cI n0)).set 10 (cI n1)).set 11 (ed w0)).set 12 (ed w1))))] [0] (.v (.g [cI a2.err,cI a2.ba])) [(0,(.box 98 (((((((((aZ x).set 5 (cI s0.bE)).set 6 (dc s0.kept)).set 7 (cI s1.bE)).set 8 (dc s1.kept)).set 9 (cI n0)).set 10 (cI n1)).set 11 (ed v0)).set 12 (ed v1))))]:=by
 refine cA.Ed 83 [(0,(aC (.p 0 0 0 0))),(1,(aC (.q (cG (⟨idn,kind,1,ax,move,sum⟩:aE)) 0)))] 1 Try.func66 rfl rfl rfl rfl rfl rfl rfl rfl rfl ?_
 intro W0 F0 T0 pg hF
 have hF0:∀ b,F0 b->(pg 0).g=b:=fun b hb=>by obtain ⟨k,hk,h⟩:=hF b hb;rw [List.mem_singleton.1 hk] at h;exact h
 refine ad aa 1 rfl ?_
 refine af ?_
 refine cq 20 (false) ?_ ?_
 ·
  refine aw ?_
  refine ab aa 4 rfl ?_
  refine ay (aM rfl rfl rfl (show _=some (Value.bool true) from rfl)) rfl ?_
  refine ab aa 5 rfl ?_
  refine dF (ak.yes rfl rfl rfl) (aM rfl rfl rfl (show _=some (Value.bool false) from rfl)) rfl rfl ?_
  refine ab aa 1 rfl ?_
  refine ae ?_
  exact aD.bG 12 rfl rfl (by first|(simp [];done)|(simp_all;done)|(exfalso;simp_all;done)|(simp_all;omega)) rfl
 refine ag rfl (fun hno=>by cases hno) (fun _=>?_)
 refine aP ?_
 refine ad aa 6 rfl ?_
 refine az aa 5 rfl ?_
 refine ay (dn (i:=0) rfl rfl rfl Try.underlying38 kI rfl (by decide)) rfl ?_
 refine ab aa 1 rfl ?_
 refine aL 3 [2,1,0] (bJ 2 (mM w0 (by first|omega|(simp;done)|(simp;omega))) EH rfl rfl ⟨⟨_,rfl,.c (.d _)⟩,trivial⟩ trivial ⟨(fun _ _ _ _=>trivial),trivial⟩ rfl rfl rfl rfl) rfl ?_
 refine ab aa 1 rfl ?_
 refine ae ?_
 refine af ?_
 refine af ?_
 refine bb [0,1,4,5,6] [2,1,0] mixed rfl rfl ?_
 refine aA (kn:=[]) aa 8 rfl trivial ?_
 refine aT (n':=3) [42,39] [0] rfl rfl (.inl ⟨(ak.plain rfl),aK.cast (dn (i:=1) rfl rfl rfl Try.underlying35 mg rfl (by decide)) rfl⟩) rfl ?_
 refine aA (kn:=[]) aa 2 rfl trivial ?_
 refine aT (n':=3) [45] [] rfl rfl (.inl ⟨(ak.plain rfl),aK.cast (cT rfl rfl rfl rfl rfl Try.underlying32) rfl⟩) rfl ?_
 refine aA (kn:=[]) aa 1 rfl trivial ?_
 refine bB [2,1,0] rfl rfl rfl rfl (by kernel_rfl) ?_
 refine ae ?_
 refine aV ?_
 refine cx (β:=Nat×List bV) (fun (p:Nat×List bV)=>match p with|(q,m)=>⟨[(0,(aC (.p 0 0 0 0))),(1,(aC (.q (cG (⟨idn,kind,1,ax,move,sum⟩:aE)) 0))),(4,(aC (.p 1 0 0 0))),(5,(aI 0)),(6,(aC (.s 2 0 5 m.length))),(45,(aC (dc s1.kept))),(46,(aI (↑s1.kept.length:Int))),(47,(aI (↑q:Int)))],[(2,(Fj m)),(1,(.box 65 [(cI 0),(cI 0)])),(0,(.box 98 (((((((((aZ x).set 5 (cI s0.bE)).set 6 (dc s0.kept)).set 7 (cI s1.bE)).set 8 (dc s1.kept)).set 9 (cI n0)).set 10 (cI n1)).set 11 (ed w0)).set 12 (ed w1))))],3⟩) (fun (p:Nat×List bV)=>match p with|(q,m)=>q<=s1.kept.length/\m=w0++(s1.kept.take q).map (fun t=>(⟨t,-1⟩:bV))) (fun (p:Nat×List bV)=>match p with|(q,m)=>s1.kept.length - q) (0,w0) ?_ ?_ ?_
 ·exact ⟨by omega,by simp⟩
 ·exact aD.bY id (by refine ⟨?_,?_,?_,?_,?_,?_,?_,?_,trivial⟩<;>first|rfl|(simp only [bn];done)|(congr 3;omega)|(congr 4;omega)|(simp only [bo];rfl)) (by refine ⟨?_,?_,?_,trivial⟩<;>first|rfl|(simp only [bn];done)|(congr 3;omega)|(congr 4;omega)|(simp only [bo];rfl)) rfl
 rintro ⟨q,m⟩ ⟨hi0_0,hi0_1⟩
 have hml:m.length=w0.length+q:=by rw [hi0_1];simp;omega
 refine ad aa 1 rfl ?_
 refine af ?_
 refine ag rfl (fun hc2=>?_) (fun hc2=>?_)
 ·
  have hc2':=of_decide_eq_true hc2
  refine aP ?_
  refine af ?_
  refine aV ?_
  refine eE ?_
  obtain ⟨x1,hx1⟩:=ch (xs:=s1.kept) (i:=q) (by first|omega|(simp;done)|(simp;omega))
  refine ay (cQ (i:=q) rfl rfl rfl Try.underlying32 me (by first|omega|(simp;done)|(simp;omega)) (bw hx1)) rfl ?_
  refine ab aa 3 rfl ?_
  refine ae ?_
  refine aw ?_
  refine ab aa 3 rfl ?_
  refine aL 5 [4,3,2,1,0] (dz (ys:=[(0,(.g [(cI x1.number),(cI x1.kind),(cI x1.ba),(cI x1.sum),(cI (-1))]))]) (rows:=([(⟨x1,(-1)⟩:bV)]).map fj) 4 mj rfl (by decide) ⟨⟨rfl,rfl⟩,trivial⟩ rfl rfl rfl rfl) rfl ?_
  refine aL 6 [5,4,3,1,0] (da (m:=1) (N:=m.length+1) (k2:=5) (ys:=([(⟨x1,(-1)⟩:bV)]).map fj) mj rfl rfl rfl rfl rfl rfl (by first|omega|(simp;done)|(simp;omega)) rfl (.s rfl (by first|omega|(simp;done)|(simp;omega))) (by first|omega|(simp;done)|(simp;omega)) (by first|omega|(simp;done)|(simp;omega)) eP (by decide) (by first|omega|(simp;done)|(simp;omega)) (by first|omega|(simp;done)|(simp;omega))) rfl ?_
  refine ab aa 1 rfl ?_
  refine bZ ?_
  refine bp ?_
  refine then_ok ?_
  refine aw ?_
  refine ay (aM rfl rfl rfl (aH (by first|omega|(simp;done)|(simp;omega)))) rfl ?_
  refine ab aa 1 rfl ?_
  refine ae ?_
  refine ⟨(q+1,m++([(⟨x1,(-1)⟩:bV)])),⟨by omega,by rw [List.take_add_one,hx1,List.map_append,<-List.append_assoc,<-hi0_1];rfl⟩,by first|omega|(simp;done)|(simp;omega),aD.bY (fun k=>if k=2 then 5 else k) (by refine ⟨?_,?_,?_,?_,?_,?_,?_,?_,trivial⟩<;>first|rfl|(simp only [bn];done)|(congr 3;omega)|(congr 4;omega)|(simp only [bo];rfl)|(first|exact cJ rfl (by omega)|exact iJ rfl (by simp only [List.length_append,List.length_cons,List.length_nil];omega))) (by refine ⟨?_,?_,?_,trivial⟩<;>first|rfl|(simp only [bn];done)|(congr 3;omega)|(congr 4;omega)|(simp only [bo];rfl)) rfl⟩
 have hc2':=of_decide_eq_false hc2
 refine cp ?_
 refine aR ?_
 refine aR ?_
 refine bQ ?_
 refine then_ok ?_
 refine af ?_
 refine bb [0,1,4,5,6,45,46,47] [2,1,0] mixed rfl rfl ?_
 refine aA (kn:=[]) aa 9 rfl trivial ?_
 refine aT (n':=3) [65,62] [0] rfl rfl (.inl ⟨(ak.plain rfl),aK.cast (dn (i:=1) rfl rfl rfl Try.underlying36 fK rfl (by decide)) rfl⟩) rfl ?_
 refine aA (kn:=[]) aa 2 rfl trivial ?_
 refine aT (n':=4) [68] [] rfl rfl (.inl ⟨(ak.plain rfl),aK.cast (dz (ys:=[(0,(.g [(cI 0),(cI 0),(cI 0),(cI 0),(cI n1)]))]) (rows:=([(⟨(⟨0,0,0,0⟩:aW),n1⟩:bV)]).map fj) 3 mj rfl (by decide) ⟨⟨rfl,rfl⟩,trivial⟩ rfl rfl rfl rfl) rfl⟩) rfl ?_
 refine aT (n':=5) [57,69] [3,2] rfl rfl (.inl ⟨(ak.plain rfl),aK.cast (da (m:=1) (N:=m.length+1) (k2:=4) (ys:=([(⟨(⟨0,0,0,0⟩:aW),n1⟩:bV)]).map fj) mj rfl rfl rfl rfl rfl rfl (by first|omega|(simp;done)|(simp;omega)) rfl (.s rfl (by first|omega|(simp;done)|(simp;omega))) (by first|omega|(simp;done)|(simp;omega)) (by first|omega|(simp;done)|(simp;omega)) eP (by decide) (by first|omega|(simp;done)|(simp;omega)) (by first|omega|(simp;done)|(simp;omega))) rfl⟩) rfl ?_
 refine bB [4,1,0] rfl rfl rfl rfl (by kernel_rfl) ?_
 refine ab aa 1 rfl ?_
 refine ae ?_
 refine af ?_
 refine az aa 1 rfl ?_
 refine ay (dr rfl rfl rfl rfl rfl Try.underlying37) rfl ?_
 refine ab aa 1 rfl ?_
 refine ae ?_
 refine ag rfl (fun hc3=>?_) (fun hc3=>?_)
 ·
  have hc3':=of_decide_eq_true hc3
  refine ad aa 2 rfl ?_
  refine ar ?_
  refine ao ?_
  have hX:ez s0 s1 n0 n1 w0 w1 (⟨idn,kind,1,ax,move,sum⟩:aE)=(w0,w1,(⟨5,0⟩:Answer)):=by
    (have ht:s1.kept.take q=s1.kept:=List.take_of_length_le (by omega));rw [ht] at hi0_1;unfold ez;dsimp only;rw [if_neg (by decide),if_pos rfl];unfold hZ gD;rw [<-hi0_1];first|rw [if_pos (by simp;omega)]|rw [if_neg (by simp;omega)]
  rw [hX] at hr;clear hX
  simp only [Prod.mk.injEq] at hr;obtain ⟨rfl,rfl,rfl⟩:=hr
  refine ah aa [0,1] 1 rfl rfl rfl rfl rfl rfl ?_ ?_
  all_goals first|rfl|(simp [au,aS,aZ];done)|(simp [au,aS,aZ];omega)
 have hc3':=of_decide_eq_false hc3
 refine aP ?_
 refine rX (s':=[(0,(aC (.p 0 0 0 0))),(1,(aC (.q (cG (⟨idn,kind,1,ax,move,sum⟩:aE)) 0))),(4,(aC (.p 1 0 0 0))),(5,(aI 0)),(6,(aC (ed (m++([(⟨(⟨0,0,0,0⟩:aW),n1⟩:bV)]))))),(45,(aC (dc s1.kept))),(46,(aI (↑s1.kept.length:Int))),(47,(aI (↑q:Int))),(70,(aC (ed (m++([(⟨(⟨0,0,0,0⟩:aW),n1⟩:bV)]))))),(71,(aC (ed (m++([(⟨(⟨0,0,0,0⟩:aW),n1⟩:bV)]))))),(72,(aI (↑(m.length+1):Int))),(73,(aB (decide ((↑(m.length+1):Int) > 60))))]) (h':=[(1,(.box 65 [(cI 0),(cI 0)])),(0,(.box 98 (((((((((aZ x).set 5 (cI s0.bE)).set 6 (dc s0.kept)).set 7 (cI s1.bE)).set 8 (dc s1.kept)).set 9 (cI n0)).set 10 (cI n1)).set 11 (ed w0)).set 12 (ed w1))))]) hF0 4 rfl rfl ⟨⟨_,rfl,.inl ⟨rfl,rfl⟩⟩,⟨_,rfl,.inl ⟨rfl,rfl⟩⟩,⟨_,rfl,.inl ⟨rfl,rfl⟩⟩,⟨_,rfl,.inl ⟨rfl,rfl⟩⟩,⟨_,rfl,.inr ⟨_,_,rfl,rfl,.s rfl (by decide) (by first|omega|(simp;done)|(simp;omega))⟩⟩,⟨_,rfl,.inl ⟨rfl,rfl⟩⟩,⟨_,rfl,.inl ⟨rfl,rfl⟩⟩,⟨_,rfl,.inl ⟨rfl,rfl⟩⟩,⟨_,rfl,.inr ⟨_,_,rfl,rfl,.s rfl (by decide) (by first|omega|(simp;done)|(simp;omega))⟩⟩,⟨_,rfl,.inr ⟨_,_,rfl,rfl,.s rfl (by decide) (by first|omega|(simp;done)|(simp;omega))⟩⟩,⟨_,rfl,.inl ⟨rfl,rfl⟩⟩,⟨_,rfl,.inl ⟨rfl,rfl⟩⟩,trivial⟩ ⟨rfl,rfl,trivial⟩ rfl ?_
 refine az aa 6 rfl ?_
 refine ay (dn (i:=0) rfl rfl rfl Try.underlying38 kI rfl (by decide)) rfl ?_
 refine ab aa 1 rfl ?_
 refine ae ?_
 refine ad aa 2 rfl ?_
 refine ar ?_
 have hX:ez s0 s1 n0 n1 w0 w1 (⟨idn,kind,1,ax,move,sum⟩:aE)=(m++([(⟨(⟨0,0,0,0⟩:aW),n1⟩:bV)]),w1,(⟨0,0⟩:Answer)):=by
   (have ht:s1.kept.take q=s1.kept:=List.take_of_length_le (by omega));rw [ht] at hi0_1;unfold ez;dsimp only;rw [if_neg (by decide),if_pos rfl];unfold hZ gD;rw [<-hi0_1];first|rw [if_pos (by simp;omega)]|rw [if_neg (by simp;omega)]
 rw [hX] at hr;clear hX
 simp only [Prod.mk.injEq] at hr;obtain ⟨rfl,rfl,rfl⟩:=hr
 refine ah aa [0,1] 1 rfl rfl rfl rfl rfl rfl ?_ ?_
 all_goals first|rfl|(simp [au,aS,aZ];done)|(simp [au,aS,aZ];omega)
theorem Ck (x:Nat->Value) (hx:∀ i,(x i).oneCell'=true) (s0 s1:bR) (n0 n1:Int) (w0 w1:List bV) (d:aE) (l0:w0.length<=60) (l1:w1.length<=60) (m0:s0.kept.length<=40) (m1:s1.kept.length<=40) (hn:¬d.n=0/\¬d.n=1) (v0:List bV) (v1:List bV) (a2:Answer) (hr:ez s0 s1 n0 n1 w0 w1 d=(v0,v1,a2)):cA Try.prog 66 [(.c (.p 0 0 0 0)),(.c (.q (cG d) 0))] [(0,(.box 98 (((((((((aZ x).set 5 (cI s0.bE)).set 6 (dc s0.kept)).set 7 (cI s1.bE)).set 8 (dc s1.kept)).set 9 (cI n0)).set 10 (cI n1)).set 11 (ed w0)).set 12 (ed w1))))] [0] (.v (.g [cI a2.err,cI a2.ba])) [(0,(.box 98 (((((((((aZ x).set 5 (cI s0.bE)).set 6 (dc s0.kept)).set 7 (cI s1.bE)).set 8 (dc s1.kept)).set 9 (cI n0)).set 10 (cI n1)).set 11 (ed v0)).set 12 (ed v1))))]:=by
 refine cA.Ed 83 [(0,(aC (.p 0 0 0 0))),(1,(aC (.q (cG d) 0)))] 1 Try.func66 rfl rfl rfl rfl rfl rfl rfl rfl rfl ?_
 intro W0 F0 T0 pg hF
 have hF0:∀ b,F0 b->(pg 0).g=b:=fun b hb=>by obtain ⟨k,hk,h⟩:=hF b hb;rw [List.mem_singleton.1 hk] at h;exact h
 refine ad aa 1 rfl ?_
 refine af ?_
 refine cq 20 ((decide (¬d.n=0)) && (decide (¬d.n=1))) ?_ ?_
 ·
  refine aw ?_
  refine ab aa 6 rfl ?_
  refine bA (t:=14) rfl (fun hb1=>?_) (fun hb1=>?_)
  ·
   have hb1':=of_decide_eq_true hb1
   refine ab aa 6 rfl ?_
   refine ae ?_
   exact aD.bG 13 rfl rfl (by first|(simp [hb1];done)|(simp_all;done)|(exfalso;simp_all;done)|(simp_all;omega)) rfl
  have hb1':=of_decide_eq_false hb1
  refine ab aa 6 rfl ?_
  refine ae ?_
  exact aD.bG 13 rfl rfl (by first|(simp [hb1];done)|(simp_all;done)|(exfalso;simp_all;done)|(simp_all;omega)) rfl
 refine ag rfl (fun hc2=>?_) (fun hc2=>?_)
 ·
  have hc2':=hc2;try simp only [bm,bM] at hc2'
  refine ad aa 2 rfl ?_
  refine ar ?_
  refine ao ?_
  have hX:ez s0 s1 n0 n1 w0 w1 d=(w0,w1,(⟨6,0⟩:Answer)):=by
    unfold ez;rw [if_neg hn.1,if_neg hn.2]
  rw [hX] at hr;clear hX
  simp only [Prod.mk.injEq] at hr;obtain ⟨rfl,rfl,rfl⟩:=hr
  refine ah aa [0,1] 1 rfl rfl rfl rfl rfl rfl ?_ ?_
  all_goals first|rfl|(simp [au,aS,aZ];done)|(simp [au,aS,aZ];omega)
 have hc2':=hc2;try simp only [bm,bM] at hc2'
 (exfalso;simp at *;omega)
theorem EZ (x:Nat->Value) (hx:∀ i,(x i).oneCell'=true) (aN:List an) (days:List (List Int)) (l0:aN.length<=100) (l1:days.length<=1000) (today2:List an) (days2:List (List Int)) (a2:Answer) (hr:iP aN days=(today2,days2,a2)):cA Try.prog 69 [(.c (.p 0 0 0 0))] [(0,(.box 98 (((aZ x).set 16 (.s 1 0 4 aN.length)).set 17 (.s 2 0 1 days.length)))),(1,(cH aN)),(2,(pS days))] [0] (.v (.g [cI a2.err,cI a2.ba])) [(0,(.box 98 (((aZ x).set 16 (.s 1 0 4 today2.length)).set 17 (.s 2 0 1 days2.length)))),(1,(cH today2)),(2,(pS days2))]:=by
 refine cA.mk 37 [(0,(aC (.p 0 0 0 0)))] 3 Try.func69 rfl rfl rfl rfl rfl rfl rfl rfl rfl ?_
 intro W0 F0 T0 pg
 refine ad aa 1 rfl ?_
 refine az aa 5 rfl ?_
 obtain ⟨xr0,f0,hr0⟩:∃ (xr0:List Int) (f0:cP),jK aN=(xr0,f0):=⟨_,_,rfl⟩
 refine Fp (av':=(.t [(.c (DJ xr0)),(.g [(cI f0.err),(cI f0.at_)])])) (ak.plain rfl) (fP 4 [1] (wO aN (by first|omega|(simp;done)|(simp;omega)) xr0 f0 hr0) GJ rfl rfl ⟨⟨_,rfl,.c (.s rfl (by decide) (by first|omega|(simp;done)|(simp;omega)))⟩,trivial⟩ ⟨trivial,⟨rfl,rfl,trivial⟩,trivial⟩ ⟨(Dk _),trivial⟩ rfl rfl rfl rfl) ⟨.inr ⟨_,_,_,_,_,rfl,rfl,rfl,by simp⟩,⟨.inl ⟨_,rfl,rfl⟩,.inl ⟨_,rfl,rfl⟩,trivial⟩,trivial⟩ rfl rfl rfl ?_
 refine ab aa 6 rfl ?_
 refine ae ?_
 refine af ?_
 refine ad aa 3 rfl ?_
 refine ag rfl (fun hc1=>?_) (fun hc1=>?_)
 ·
  have hc1':=of_decide_eq_true hc1
  refine ad aa 4 rfl ?_
  refine ar ?_
  refine ao ?_
  have hX:iP aN days=(aN,days,(⟨f0.err,0⟩:Answer)):=by
    unfold iP;simp only [hr0];(repeat' split)<;>first|rfl|omega|(simp_all;done)
  rw [hX] at hr;clear hX
  simp only [Prod.mk.injEq] at hr;obtain ⟨rfl,rfl,rfl⟩:=hr
  refine ah aa [0,1,2,3] 3 rfl rfl rfl rfl rfl rfl ?_ ?_
  all_goals first|rfl|(simp [au,aS,aZ];done)|(simp [au,aS,aZ];omega)
 have hc1':=of_decide_eq_false hc1
 refine aP ?_
 refine az aa 7 rfl ?_
 refine aL 6 [5,4,3,0,1,2] (dz (ys:=[(0,(.c (DJ xr0)))]) (rows:=([xr0]).map sj) 5 DP rfl (by decide) ⟨⟨rfl,rfl⟩,trivial⟩ rfl rfl rfl rfl) rfl ?_
 refine aL 7 [6,5,4,3,0,1] (da (m:=1) (N:=days.length+1) (k2:=6) (ys:=([xr0]).map sj) DP rfl rfl rfl rfl rfl rfl (by first|omega|(simp;done)|(simp;omega)) rfl (.s rfl (by first|omega|(simp;done)|(simp;omega))) (by first|omega|(simp;done)|(simp;omega)) (by first|omega|(simp;done)|(simp;omega)) eP (by decide) (by first|omega|(simp;done)|(simp;omega)) (by first|omega|(simp;done)|(simp;omega))) rfl ?_
 refine ab aa 4 rfl ?_
 refine ae ?_
 refine fy (k:=0) (q:=17) (c':=(.s 6 0 1 ((days++([xr0])).length))) rfl rfl (by first|rfl|(simp;done)|(congr 1;omega)) rfl ?_
 refine ad aa 5 rfl ?_
 refine ad aa 2 rfl ?_
 refine ar ?_
 refine cf 0 16 83 4 rfl rfl rfl ?_
 have hX:iP aN days=(([]:List an),days++([xr0]),(⟨0,0⟩:Answer)):=by
   unfold iP;simp only [hr0];(repeat' split)<;>first|rfl|omega|(simp_all;done)
 rw [hX] at hr;clear hX
 simp only [Prod.mk.injEq] at hr;obtain ⟨rfl,rfl,rfl⟩:=hr
 refine ah aa [0,7,6,3] 3 rfl rfl rfl rfl rfl rfl ?_ ?_
 all_goals first|rfl|(simp [au,aS,aZ];done)|(simp [au,aS,aZ];omega)
end Go.Proofs.Ytegepioggeggaaa.Dev
