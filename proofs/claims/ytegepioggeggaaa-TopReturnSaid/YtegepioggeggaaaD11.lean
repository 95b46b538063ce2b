/- A part of the proof: Sort7, Day1, Day4, Day5, Bank1, Bank2, Bank3, Clones, Bank4, Bank7. No condition. -/
import Derived.Test.YtegepioggeggaaaD10
import Derived.Test.YtegepioggeggaaaD08
set_option linter.unusedVariables false
set_option linter.unusedSimpArgs false
set_option maxHeartbeats 4000000
set_option maxRecDepth 100000
namespace Go.Proofs.Ytegepioggeggaaa.Dev
open Go.RowKit

theorem vT (d:List aj) (a b:Int) (fn:FuncId) (bc:List (List D)) (hp:∀ x y:aj,Fn Try.prog fn ([.g [cI x.ax,cI x.ba,cI x.kind,cI x.sum],.g [cI y.ax,cI y.ba,cI y.kind,cI y.sum]]++bc.map fun r=>GV.c (.q r 0)) (aI (gW x y)) []) (hen:bd Try.prog fn) (h1:b<=a+1) (h2:0<=a/\a<=9223372036854775806):Fn Try.prog 72 [(.c (jf d)),(.c (cI a)),(.c (cI b)),(.c (.d (.f fn bc)))] (.t []) []:=by
 refine Fn.mk' 53 [(0,(aC (jf d))),(1,(aI a)),(2,(aI b)),(3,(aC (.d (.f fn bc))))] Try.func72 rfl rfl rfl rfl ?_
 intro W0 T0
 refine dH 0 rfl (fun hlen0=>?_)
 refine az aa 1 rfl ?_
 refine ay (aK rfl rfl rfl (aF (by first|omega|(simp;done)|(simp;omega)))) rfl ?_
 refine ab aa 1 rfl ?_
 refine ae ?_
 refine aV ?_
 refine cv (β:=Nat) (fun (z:Nat)=>⟨[(0,(aC (jf d))),(1,(aI a)),(2,(aI b)),(3,(aC (.d (.f fn bc)))),(8,(aI (a+1)))],[],0⟩) (fun (z:Nat)=>True) (fun (z:Nat)=>0) 0 ?_ ?_ ?_
 ·trivial
 ·exact aD.bZ id (by refine ⟨?_,?_,?_,?_,?_,trivial⟩<;>first|rfl|(simp only [bn];done)|(congr 3;omega)|(congr 4;omega)|(simp only [bo];rfl)) (trivial) rfl
 rintro z _
 refine af ?_
 refine ad aa 3 rfl ?_
 refine ag rfl (fun hc1=>?_) (fun hc1=>?_)
 ·
  have hc1':=of_decide_eq_true hc1
  exfalso;omega
 have hc1':=of_decide_eq_false hc1
 refine cm ?_
 refine aQ ?_
 refine aQ ?_
 refine bO ?_
 refine cE aa [] 0 rfl rfl rfl rfl rfl rfl ?_ ?_
 all_goals first|rfl|(simp [au];done)|(simp [au];omega)
theorem Aw (d:List aj) (n:Int) (fn:FuncId) (bc:List (List D)) (hp:∀ x y:aj,Fn Try.prog fn ([.g [cI x.ax,cI x.ba,cI x.kind,cI x.sum],.g [cI y.ax,cI y.ba,cI y.kind,cI y.sum]]++bc.map fun r=>GV.c (.q r 0)) (aI (gW x y)) []) (hen:bd Try.prog fn) (h:n=0):Fn Try.prog 61 [(.c (jf d)),(.c (cI n)),(.c (.d (.f fn bc)))] (.t []) []:=by
 refine Fn.mk' 63 [(0,(aC (jf d))),(1,(aI n)),(2,(aC (.d (.f fn bc))))] Try.func61 rfl rfl rfl rfl ?_
 intro W0 T0
 refine dH 0 rfl (fun hlen0=>?_)
 refine ad aa 1 rfl ?_
 refine ad aa 3 rfl ?_
 refine af ?_
 refine aV ?_
 refine cv (β:=Nat) (fun (z:Nat)=>⟨[(0,(aC (jf d))),(1,(aI n)),(2,(aC (.d (.f fn bc)))),(6,(aI 20)),(7,(aI 0)),(8,(aI 20))],[],0⟩) (fun (z:Nat)=>True) (fun (z:Nat)=>0) 0 ?_ ?_ ?_
 ·trivial
 ·exact aD.bZ id (by refine ⟨?_,?_,?_,?_,?_,?_,trivial⟩<;>first|rfl|(simp only [bn];done)|(congr 3;omega)|(congr 4;omega)|(simp only [bo];rfl)) (trivial) rfl
 rintro z _
 refine af ?_
 refine ad aa 3 rfl ?_
 refine ag rfl (fun hc1=>?_) (fun hc1=>?_)
 ·
  have hc1':=of_decide_eq_true hc1
  exfalso;omega
 have hc1':=of_decide_eq_false hc1
 refine cm ?_
 refine aQ ?_
 refine aQ ?_
 refine bO ?_
 refine then_ok ?_
 refine az aa 4 rfl ?_
 refine aL 0 [] (bM 0 (vT d 0 n fn bc hp hen (by first|omega|(simp;done)|(simp;omega)) (by first|omega|(simp;done)|(simp;omega))) BZ rfl rfl ⟨⟨_,rfl,.c (.d _)⟩,⟨_,rfl,.c (.d _)⟩,⟨_,rfl,.c (.d _)⟩,⟨_,rfl,.c (.d _)⟩,trivial⟩ trivial trivial rfl rfl rfl rfl) rfl ?_
 refine ae ?_
 refine aV ?_
 refine cv (β:=Nat) (fun (z:Nat)=>⟨[(0,(aC (jf d))),(1,(aI n)),(2,(aC (.d (.f fn bc)))),(6,(aI 20))],[],0⟩) (fun (z:Nat)=>True) (fun (z:Nat)=>0) 0 ?_ ?_ ?_
 ·trivial
 ·exact aD.bZ id (by refine ⟨?_,?_,?_,?_,trivial⟩<;>first|rfl|(simp only [bn];done)|(congr 3;omega)|(congr 4;omega)|(simp only [bo];rfl)) (trivial) rfl
 rintro z _
 refine af ?_
 refine ad aa 3 rfl ?_
 refine ag rfl (fun hc2=>?_) (fun hc2=>?_)
 ·
  have hc2':=of_decide_eq_true hc2
  exfalso;omega
 have hc2':=of_decide_eq_false hc2
 refine cm ?_
 refine aQ ?_
 refine aQ ?_
 refine bO ?_
 refine cE aa [] 0 rfl rfl rfl rfl rfl rfl ?_ ?_
 all_goals first|rfl|(simp [au];done)|(simp [au];omega)
theorem uj (d:List aj) (fn:FuncId) (bc:List (List D)) (hp:∀ x y:aj,Fn Try.prog fn ([.g [cI x.ax,cI x.ba,cI x.kind,cI x.sum],.g [cI y.ax,cI y.ba,cI y.kind,cI y.sum]]++bc.map fun r=>GV.c (.q r 0)) (aI (gW x y)) []) (hen:bd Try.prog fn) (h:d.length=0):Fn Try.prog 55 [(.c (jf d)),(.c (.d (.f fn bc)))] (.t []) []:=by
 refine Fn.mk' 9 [(0,(aC (jf d))),(1,(aC (.d (.f fn bc))))] Try.func55 rfl rfl rfl rfl ?_
 intro W0 T0
 refine dH 0 rfl (fun hlen0=>?_)
 refine aw ?_
 refine ab aa 2 rfl ?_
 refine ay (cO rfl rfl rfl rfl rfl Try.underlying42) rfl ?_
 refine ab aa 1 rfl ?_
 refine aL 0 [] (bM 0 (Aw d (↑d.length:Int) fn bc hp hen (by first|omega|(simp;done)|(simp;omega))) EU rfl rfl ⟨⟨_,rfl,.c (.d _)⟩,⟨_,rfl,.c (.d _)⟩,⟨_,rfl,.c (.d _)⟩,trivial⟩ trivial trivial rfl rfl rfl rfl) rfl ?_
 refine bX ?_
 refine cE aa [] 0 rfl rfl rfl rfl rfl rfl ?_ ?_
 all_goals first|rfl|(simp [au];done)|(simp [au];omega)
theorem wb (d:List aj) (N:Nat) (fn:FuncId) (bc:List (List D)) (hp:∀ x y:aj,Fn Try.prog fn ([.g [cI x.ax,cI x.ba,cI x.kind,cI x.sum],.g [cI y.ax,cI y.ba,cI y.kind,cI y.sum]]++bc.map fun r=>GV.c (.q r 0)) (aI (gW x y)) []) (hen:bd Try.prog fn) (hl:d.length * 32<=140737488355328) (hN:N=d.length) (h0_:0 < d.length) (r:List aj) (hr:gn d=r):cC Try.prog 55 [(.c (.s 0 0 4 N)),(.c (.d (.f fn bc)))] [(0,(cG d))] [0] (.t []) [(0,(cG r))]:=by
 refine cC.mk 9 [(0,(aC (.s 0 0 4 N))),(1,(aC (.d (.f fn bc))))] 1 Try.func55 rfl rfl rfl rfl rfl rfl rfl rfl rfl ?_
 intro W0 F0 T0 pg
 refine fP 0 rfl (fun hlen0=>?_)
 refine aw ?_
 refine ab aa 2 rfl ?_
 refine ay (dp rfl rfl rfl rfl rfl Try.underlying42) rfl ?_
 refine ab aa 1 rfl ?_
 obtain ⟨r0,hr0⟩:∃ (r0:List aj),gn d=r0:=⟨_,rfl⟩
 refine aL 1 [0] (dN id id (Av (↑N:Int) d N N fn bc hp hen (by first|omega|(simp;done)|(simp;omega)) (by first|omega|(simp;done)|(simp;omega)) (by first|omega|(simp;done)|(simp;omega)) (by first|omega|(simp;done)|(simp;omega)) (by first|omega|(simp;done)|(simp;omega)) r0 hr0) EU rfl rfl ⟨⟨_,rfl,.inl ⟨rfl,rfl⟩⟩,⟨_,rfl,.inr (.c (.d _))⟩,⟨_,rfl,.inr (.c (.d _))⟩,trivial⟩ ⟨rfl,trivial⟩ rfl rfl ⟨.inr ⟨_,_,_,rfl,by first|(simp;omega)|(simp only [List.length_map];omega)⟩,trivial⟩ rfl rfl rfl trivial ⟨(fun _ _ _ _=>trivial),trivial⟩ rfl rfl rfl rfl) rfl ?_
 refine bX ?_
 have hX:gn d=r0:=by
   exact hr0
 rw [hX] at hr;clear hX
 subst hr
 refine cE aa [0] 1 rfl rfl rfl rfl rfl rfl ?_ ?_
 all_goals first|rfl|(simp [au];done)|(simp [au];omega)
theorem Cu (l:List aj) (hl:l.length * 32<=140737488355328) (r:List aj) (hr:gn l=r):Fn Try.prog 37 [(.c (jf l))] (.v (.c (.s 0 0 4 r.length))) [(0,(cG r))]:=by
 refine Fn.mk' 9 [(0,(aC (jf l)))] Try.func37 rfl rfl rfl rfl ?_
 intro W0 T0
 refine dH 0 rfl (fun hlen0=>?_)
 refine ad aa 1 rfl ?_
 refine az aa 1 rfl ?_
 refine aL 1 [0] (bM 0 (mQ l (by first|omega|(simp;done)|(simp;omega))) EW rfl rfl ⟨⟨_,rfl,.c (.d _)⟩,trivial⟩ trivial ⟨(fun _ _ _ _=>trivial),trivial⟩ rfl rfl rfl rfl) rfl ?_
 refine ab aa 1 rfl ?_
 refine ae ?_
 rcases (show l.length=0\/0 < l.length from by omega) with hs1|hs1
 ·
  refine az aa 1 rfl ?_
  refine aL 1 [0] (fO 1 [0] (uj l 53 ([]) (fun x y=>xN x y) EX (by first|omega|(simp;done)|(simp;omega))) EV rfl rfl ⟨⟨_,rfl,.c (.s rfl (by decide) (by first|omega|(simp;done)|(simp;omega)))⟩,⟨_,rfl,.c (.fn trivial)⟩,trivial⟩ trivial trivial rfl rfl rfl rfl) rfl ?_
  refine ae ?_
  refine ad aa 2 rfl ?_
  refine ar ?_
  have hX:gn l=l:=by
    exact zu (by assumption)
  rw [hX] at hr;clear hX
  subst hr
  refine ah aa [0] 1 rfl rfl rfl rfl rfl rfl ?_ ?_
  all_goals first|rfl|(simp [au];done)|(simp [au];omega)
 refine az aa 1 rfl ?_
 obtain ⟨r0,hr0⟩:∃ (r0:List aj),gn l=r0:=⟨_,rfl⟩
 have hlr0:r0.length=l.length:=by rw [<-hr0];exact sY _
 refine aL 1 [0] (dN id id (wb l l.length 53 ([]) (fun x y=>xN x y) EX (by first|omega|(simp;done)|(simp;omega)) (by first|omega|(simp;done)|(simp;omega)) (by first|omega|(simp;done)|(simp;omega)) r0 hr0) EV rfl rfl ⟨⟨_,rfl,.inl ⟨rfl,rfl⟩⟩,⟨_,rfl,.inr (.c (.fn trivial))⟩,trivial⟩ ⟨rfl,trivial⟩ rfl rfl ⟨.inr ⟨_,_,_,rfl,by first|(simp;omega)|(simp only [List.length_map];omega)⟩,trivial⟩ rfl rfl rfl trivial ⟨(fun _ _ _ _=>trivial),trivial⟩ rfl rfl rfl rfl) rfl ?_
 refine ae ?_
 refine ad aa 2 rfl ?_
 refine ar ?_
 have hX:gn l=r0:=by
   exact hr0
 rw [hX] at hr;clear hX
 subst hr
 refine ah aa [0] 1 rfl rfl rfl rfl rfl rfl ?_ ?_
 all_goals first|rfl|(simp [au];done)|(simp [au];omega)

theorem wR (l:List aj) (f:cT) (hr:gk l=f):Fn Try.prog 31 [(.c (jf l))] (.v (.g [(cI f.err),(cI f.at_)])) []:=by
 refine Fn.mk' 58 [(0,(aC (jf l)))] Try.func31 rfl rfl rfl rfl ?_
 intro W0 T0
 refine dH 0 rfl (fun hlen0=>?_)
 refine ad aa 1 rfl ?_
 refine af ?_
 refine az aa 1 rfl ?_
 refine ay (cO rfl rfl rfl rfl rfl Try.underlying42) rfl ?_
 refine ab aa 1 rfl ?_
 refine ae ?_
 refine ag rfl (fun hc1=>?_) (fun hc1=>?_)
 ·
  have hc1':=of_decide_eq_true hc1
  refine ad aa 2 rfl ?_
  refine ar ?_
  refine ao ?_
  have hX:gk l=(⟨5,0⟩:cT):=by
    unfold gk;rw [if_pos (by omega)]
  rw [hX] at hr;clear hX
  subst hr
  refine ah aa [0] 0 rfl rfl rfl rfl rfl rfl ?_ ?_
  all_goals first|rfl|(simp [au];done)|(simp [au];omega)
 have hc1':=of_decide_eq_false hc1
 refine aP ?_
 refine af ?_
 refine az aa 1 rfl ?_
 refine ay (cO rfl rfl rfl rfl rfl Try.underlying42) rfl ?_
 refine ab aa 1 rfl ?_
 refine ae ?_
 refine aV ?_
 refine cv (β:=Nat) (fun (q:Nat)=>⟨[(2,(aC (.p 0 0 0 0))),(9,(aC (jf l))),(10,(aI (↑l.length:Int))),(11,(aI (↑q:Int)))],[(0,(.box 50 [(cI 0),(cI 0)]))],1⟩) (fun (q:Nat)=>q<=l.length/\mw l 0=mw (l.drop q) q) (fun (q:Nat)=>l.length - q) 0 ?_ ?_ ?_
 ·exact ⟨by omega,rfl⟩
 ·exact aD.bZ id (by refine ⟨?_,?_,?_,?_,trivial⟩<;>first|rfl|(simp only [bn];done)|(congr 3;omega)|(congr 4;omega)|(simp only [bo];rfl)) (⟨by first|rfl|(simp only [bn];done)|(congr 3;omega)|(congr 4;omega)|(simp only [bo];rfl),trivial⟩) rfl
 rintro q ⟨hi0_0,hi0_1⟩
 refine ad aa 1 rfl ?_
 refine af ?_
 refine ag rfl (fun hc2=>?_) (fun hc2=>?_)
 ·
  have hc2':=of_decide_eq_true hc2
  refine aP ?_
  refine af ?_
  refine aV ?_
  refine az aa 1 rfl ?_
  obtain ⟨x1,hx1⟩:=cp (xs:=l) (i:=q) (by first|omega|(simp;done)|(simp;omega))
  refine ay (cU (i:=q) rfl rfl rfl Try.underlying42 dm (by first|omega|(simp;done)|(simp;omega)) (bw hx1)) rfl ?_
  refine ab aa 4 rfl ?_
  refine ae ?_
  refine af ?_
  refine cq 23 ((decide (x1.kind < 1))||(decide (x1.kind > 8))) ?_ ?_
  ·
   refine aw ?_
   refine ab aa 4 rfl ?_
   refine bA (t:=19) rfl (fun hb3=>?_) (fun hb3=>?_)
   ·
    have hb3':=of_decide_eq_true hb3
    refine ab aa 4 rfl ?_
    refine ae ?_
    exact aD.bD 9 rfl rfl (by first|(simp [hb3];done)|(simp_all;done)|(exfalso;simp_all;done)|(simp_all;omega)) rfl
   have hb3':=of_decide_eq_false hb3
   refine ab aa 4 rfl ?_
   refine ae ?_
   exact aD.bD 9 rfl rfl (by first|(simp [hb3];done)|(simp_all;done)|(exfalso;simp_all;done)|(simp_all;omega)) rfl
  refine ag rfl (fun hc4=>?_) (fun hc4=>?_)
  ·
   have hc4':=hc4;try simp only [bm,bL] at hc4'
   refine ad aa 3 rfl ?_
   refine ar ?_
   refine ao ?_
   refine bg ?_
   refine ao ?_
   refine ao ?_
   refine bg ?_
   refine ao ?_
   have hX:gk l=(⟨1,(↑q:Int)⟩:cT):=by
     unfold gk;rw [if_neg (by omega),hi0_1,oA hx1,if_pos (by unfold mB;omega)]
   rw [hX] at hr;clear hX
   subst hr
   refine ah aa [0] 0 rfl rfl rfl rfl rfl rfl ?_ ?_
   all_goals first|rfl|(simp [au];done)|(simp [au];omega)
  have hc4':=hc4;try simp only [bm,bL] at hc4'
  refine aP ?_
  refine cq 53 ((((((decide (x1.ax < 0))||(decide (x1.ax>=8)))||(decide (x1.ba < 0)))||(decide (x1.ba>=30)))||(decide (x1.sum < 1)))||(decide (x1.sum > 1000000))) ?_ ?_
  ·
   refine aw ?_
   refine ab aa 4 rfl ?_
   refine bA (t:=29) rfl (fun hb5=>?_) (fun hb5=>?_)
   ·
    have hb5':=of_decide_eq_true hb5
    refine ab aa 24 rfl ?_
    refine ae ?_
    exact aD.bD 29 rfl rfl (by first|(simp [hb5];done)|(simp_all;done)|(exfalso;simp_all;done)|(simp_all;omega)) rfl
   have hb5':=of_decide_eq_false hb5
   refine ab aa 5 rfl ?_
   refine bA (t:=34) rfl (fun hb6=>?_) (fun hb6=>?_)
   ·
    have hb6':=of_decide_eq_true hb6
    refine ab aa 19 rfl ?_
    refine ae ?_
    exact aD.bD 30 rfl rfl (by first|(simp [hb5,hb6];done)|(simp_all;done)|(exfalso;simp_all;done)|(simp_all;omega)) rfl
   have hb6':=of_decide_eq_false hb6
   refine ab aa 5 rfl ?_
   refine bA (t:=39) rfl (fun hb7=>?_) (fun hb7=>?_)
   ·
    have hb7':=of_decide_eq_true hb7
    refine ab aa 14 rfl ?_
    refine ae ?_
    exact aD.bD 31 rfl rfl (by first|(simp [hb5,hb6,hb7];done)|(simp_all;done)|(exfalso;simp_all;done)|(simp_all;omega)) rfl
   have hb7':=of_decide_eq_false hb7
   refine ab aa 5 rfl ?_
   refine bA (t:=44) rfl (fun hb8=>?_) (fun hb8=>?_)
   ·
    have hb8':=of_decide_eq_true hb8
    refine ab aa 9 rfl ?_
    refine ae ?_
    exact aD.bD 32 rfl rfl (by first|(simp [hb5,hb6,hb7,hb8];done)|(simp_all;done)|(exfalso;simp_all;done)|(simp_all;omega)) rfl
   have hb8':=of_decide_eq_false hb8
   refine ab aa 5 rfl ?_
   refine bA (t:=49) rfl (fun hb9=>?_) (fun hb9=>?_)
   ·
    have hb9':=of_decide_eq_true hb9
    refine ab aa 4 rfl ?_
    refine ae ?_
    exact aD.bD 33 rfl rfl (by first|(simp [hb5,hb6,hb7,hb8,hb9];done)|(simp_all;done)|(exfalso;simp_all;done)|(simp_all;omega)) rfl
   have hb9':=of_decide_eq_false hb9
   refine ab aa 4 rfl ?_
   refine ae ?_
   exact aD.bD 33 rfl rfl (by first|(simp [hb5,hb6,hb7,hb8,hb9];done)|(simp_all;done)|(exfalso;simp_all;done)|(simp_all;omega)) rfl
  refine ag rfl (fun hc10=>?_) (fun hc10=>?_)
  ·
   have hc10':=hc10;try simp only [bm,bL] at hc10'
   refine ad aa 3 rfl ?_
   refine ar ?_
   refine bg ?_
   refine ao ?_
   refine ao ?_
   refine bg ?_
   refine ao ?_
   have hX:gk l=(⟨3,(↑q:Int)⟩:cT):=by
     unfold gk;rw [if_neg (by omega),hi0_1,oA hx1,if_neg (by unfold mB;omega),if_pos (by unfold nK;omega)]
   rw [hX] at hr;clear hX
   subst hr
   refine ah aa [0] 0 rfl rfl rfl rfl rfl rfl ?_ ?_
   all_goals first|rfl|(simp [au];done)|(simp [au];omega)
  have hc10':=hc10;try simp only [bm,bL] at hc10'
  refine cV ?_
  refine bl ?_
  refine then_ok ?_
  refine aw ?_
  refine ay (aK rfl rfl rfl (aF (by first|omega|(simp;done)|(simp;omega)))) rfl ?_
  refine ab aa 1 rfl ?_
  refine ae ?_
  refine ⟨q+1,⟨by omega,by rw [hi0_1,oA hx1,if_neg (by unfold mB;omega),if_neg (by unfold nK;omega)]⟩,by first|omega|(simp;done)|(simp;omega),aD.bZ id (by refine ⟨?_,?_,?_,?_,trivial⟩<;>first|rfl|(simp only [bn];done)|(congr 3;omega)|(congr 4;omega)|(simp only [bo];rfl)) (⟨by first|rfl|(simp only [bn];done)|(congr 3;omega)|(congr 4;omega)|(simp only [bo];rfl),trivial⟩) rfl⟩
 have hc2':=of_decide_eq_false hc2
 refine cm ?_
 refine aQ ?_
 refine aQ ?_
 refine bO ?_
 refine then_ok ?_
 refine ad aa 2 rfl ?_
 refine ar ?_
 have hX:gk l=(⟨0,0⟩:cT):=by
   unfold gk;rw [if_neg (by omega),hi0_1,zF (by omega)]
 rw [hX] at hr;clear hX
 subst hr
 refine ah aa [0] 0 rfl rfl rfl rfl rfl rfl ?_ ?_
 all_goals first|rfl|(simp [au];done)|(simp [au];omega)

theorem tS (b:List Int) (N:Nat) (n:Int) (z:Nat) (hN:N=b.length) (hz:z<=8) (hl:b.length+z<=1000000) (r:List Int) (hr:b++ma n z=r):cC Try.prog 109 [(.c (.s 0 0 1 N)),(.c (cI n)),(.c (cI (↑z:Int)))] [(0,(xU b))] [] (.v (.c (.s 0 0 1 r.length))) [(0,(xU r))]:=by
 refine cC.mk 23 [(0,(aC (.s 0 0 1 N))),(1,(aI n)),(2,(aI (↑z:Int)))] 1 Try.func109 rfl rfl rfl rfl rfl rfl rfl rfl rfl ?_
 intro W0 F0 T0 pg
 refine fP 0 rfl (fun hlen0=>?_)
 refine ad aa 1 rfl ?_
 refine af ?_
 refine az aa 1 rfl ?_
 refine ay (aK rfl rfl rfl (aF (by first|omega|(simp;done)|(simp;omega)))) rfl ?_
 refine ab aa 1 rfl ?_
 refine ae ?_
 refine aV ?_
 refine cv (β:=Nat×List Int) (fun (p:Nat×List Int)=>match p with|(k,m)=>⟨[(0,(aC (.s 0 0 1 m.length))),(1,(aI n)),(6,(aC cN)),(7,(aI ((↑k:Int) - 1)))],[(0,(xU m))],1⟩) (fun (p:Nat×List Int)=>match p with|(k,m)=>k<=z/\m++ma n k=b++ma n z/\m.length+k=b.length+z) (fun (p:Nat×List Int)=>match p with|(k,m)=>k) (z,b) ?_ ?_ ?_
 ·exact ⟨by omega,rfl,rfl⟩
 ·exact aD.bZ id (by refine ⟨?_,?_,?_,?_,trivial⟩<;>first|rfl|(simp only [bn];done)|(congr 3;omega)|(congr 4;omega)|(simp only [bo];rfl)|(first|exact cA rfl (by omega)|exact gy rfl (by omega))) (⟨by first|rfl|(simp only [bn];done)|(congr 3;omega)|(congr 4;omega)|(simp only [bo];rfl),trivial⟩) rfl
 rintro ⟨k,m⟩ ⟨hi0_0,hi0_1,hi0_2⟩
 refine af ?_
 refine ad aa 2 rfl ?_
 refine ag rfl (fun hc1=>?_) (fun hc1=>?_)
 ·
  have hc1':=of_decide_eq_true hc1
  refine aP ?_
  refine af ?_
  refine aV ?_
  refine aw ?_
  refine ab aa 3 rfl ?_
  refine ay (aK rfl rfl rfl (aF (by first|omega|(simp;done)|(simp;omega)))) rfl ?_
  refine ay (Et rfl rfl rfl (by first|omega|(simp;done)|(simp;omega)) rfl (GD (k:=k) (by omega) rfl)) rfl ?_
  refine ay (fk rfl rfl (by rw [Try.underlying3];rfl) Try.underlying5 mP) rfl ?_
  refine aL 2 [1,0] (dC (ys:=[(0,(.c (.d (.v (.int .u8 ((n / 256 ^ (k - 1)) % 256))))))]) (rows:=([(n / 256 ^ (k - 1)) % 256]).map nT) 1 uL rfl (by decide) ⟨⟨rfl,rfl⟩,trivial⟩ rfl rfl rfl rfl) rfl ?_
  refine aL 3 [2,1] (db (m:=1) (N:=m.length+1) (k2:=2) (ys:=([(n / 256 ^ (k - 1)) % 256]).map nT) uL rfl rfl rfl rfl rfl rfl (by first|omega|(simp;done)|(simp;omega)) rfl (.s rfl (by first|omega|(simp;done)|(simp;omega))) (by first|omega|(simp;done)|(simp;omega)) (by first|omega|(simp;done)|(simp;omega)) eT (by decide) (by first|omega|(simp;done)|(simp;omega)) (by first|omega|(simp;done)|(simp;omega))) rfl ?_
  refine ab aa 1 rfl ?_
  refine bX ?_
  refine bl ?_
  refine then_ok ?_
  refine aw ?_
  refine ab aa 1 rfl ?_
  refine ay (aK rfl rfl rfl (aF (by first|omega|(simp;done)|(simp;omega)))) rfl ?_
  refine ab aa 1 rfl ?_
  refine ae ?_
  refine ⟨(k - 1,m++([(n / 256 ^ (k - 1)) % 256])),⟨by omega,by rw [<-hi0_1,Cv (k:=k) (by omega),List.append_assoc];rfl,by simp only [List.length_append,List.length_cons,List.length_nil];omega⟩,by first|omega|(simp;done)|(simp;omega),aD.bZ (fun k=>if k=0 then 2 else k) (by refine ⟨?_,?_,?_,?_,trivial⟩<;>first|rfl|(simp only [bn];done)|(congr 3;omega)|(congr 4;omega)|(simp only [bo];rfl)|(first|exact cA rfl (by omega)|exact gy rfl (by simp only [List.length_append,List.length_cons,List.length_nil];omega))) (⟨by first|rfl|(simp only [bn];done)|(congr 3;omega)|(congr 4;omega)|(simp only [bo];rfl),trivial⟩) rfl⟩
 have hc1':=of_decide_eq_false hc1
 refine cm ?_
 refine aQ ?_
 refine aQ ?_
 refine bO ?_
 refine then_ok ?_
 refine ad aa 2 rfl ?_
 refine ar ?_
 have hX:b++ma n z=m:=by
   (obtain rfl:k=0:=by omega);rw [<-hi0_1];simp [ma]
 rw [hX] at hr;clear hX
 subst hr
 refine ah aa [0] 1 rfl rfl rfl rfl rfl rfl ?_ ?_
 all_goals first|rfl|(simp [au];done)|(simp [au];omega)

theorem wS (l:List aj) (hl:l.length * 32<=140737488355328) (x:List Int) (f:cT) (hr:jQ l=(x,f)):Fn Try.prog 92 [(.c (jf l))] (.t [(.c (.s 0 0 1 x.length)),(.g [(cI f.err),(cI f.at_)])]) [(0,(xU x))]:=by
 refine Fn.mk' 50 [(0,(aC (jf l)))] Try.func92 rfl rfl rfl rfl ?_
 intro W0 T0
 refine dH 0 rfl (fun hlen0=>?_)
 refine ad aa 2 rfl ?_
 refine af ?_
 refine az aa 1 rfl ?_
 obtain ⟨f0,hr0⟩:∃ (f0:cT),gk l=f0:=⟨_,rfl⟩
 refine aL 1 [0] (bM 1 (wR l f0 hr0) Hp rfl rfl ⟨⟨_,rfl,.c (.d _)⟩,trivial⟩ ⟨trivial,trivial,trivial⟩ trivial rfl rfl rfl rfl) rfl ?_
 refine ab aa 2 rfl ?_
 refine ae ?_
 refine ad aa 3 rfl ?_
 refine ag rfl (fun hc1=>?_) (fun hc1=>?_)
 ·
  have hc1':=of_decide_eq_true hc1
  refine af ?_
  refine bb [0,3,4] [1,0] mixed rfl rfl ?_
  refine aA (kn:=[]) aa 2 rfl trivial ?_
  refine bB [1,0] rfl rfl rfl rfl (by kernel_rfl) ?_
  refine ab aa 1 rfl ?_
  refine ae ?_
  refine ar ?_
  refine ao ?_
  refine cP (aD.nil 2 5 1 (by decide) rfl) ?_
  have hX:jQ l=(([]:List Int),f0):=by
    unfold jQ;rw [if_neg (by rw [hr0];omega),hr0]
  rw [hX] at hr;clear hX
  simp only [Prod.mk.injEq] at hr;obtain ⟨rfl,rfl⟩:=hr
  refine ah aa [2,0] 1 rfl rfl rfl rfl rfl rfl ?_ ?_
  all_goals first|rfl|(simp [au];done)|(simp [au];omega)
 have hc1':=of_decide_eq_false hc1
 refine aP ?_
 have hw:(gk l).err=0:=by rw [hr0];omega
 have hok:=zc.1 hw
 refine az aa 1 rfl ?_
 refine ay (cO rfl rfl rfl rfl rfl Try.underlying42) rfl ?_
 refine ay (fk rfl rfl (by rw [Try.underlying3];rfl) Try.underlying5 mP) rfl ?_
 refine aL 3 [2,1,0] (dC (ys:=[(0,(.c (.d (.v (.int .u8 ((↑l.length:Int) % 256))))))]) (rows:=([(↑l.length:Int) % 256]).map nT) 2 uL rfl (by decide) ⟨⟨rfl,rfl⟩,trivial⟩ rfl rfl rfl rfl) rfl ?_
 refine ab aa 1 rfl ?_
 refine ae ?_
 refine ad aa 1 rfl ?_
 refine af ?_
 refine az aa 1 rfl ?_
 obtain ⟨r1,hr1⟩:∃ (r1:List aj),gn l=r1:=⟨_,rfl⟩
 have hlr:r1.length=l.length:=by rw [<-hr1];exact sY _
 have hrok:∀ x∈r1,xu x:=fun x hx=>hok.2 x ((nc l).mem.2 (by rw [hr1];exact hx))
 refine aL 4 [3,2,1,0] (bM 3 (Cu l (by first|omega|(simp;done)|(simp;omega)) r1 hr1) Hn rfl rfl ⟨⟨_,rfl,.c (.d _)⟩,trivial⟩ trivial ⟨(fun _ _ _ _=>trivial),trivial⟩ rfl rfl rfl rfl) rfl ?_
 refine ay (dp rfl rfl rfl rfl rfl Try.underlying42) rfl ?_
 refine ab aa 1 rfl ?_
 refine ae ?_
 refine aV ?_
 refine cv (β:=Nat×List Int×Int) (fun (p:Nat×List Int×Int)=>match p with|(q,m,all)=>⟨[(2,(aC cN)),(3,(aC (.p 0 0 0 0))),(5,(aC (.s 2 0 1 m.length))),(6,(aI all)),(20,(aC (.s 3 0 4 r1.length))),(21,(aI (↑r1.length:Int))),(22,(aI (↑q:Int)))],[(3,(cG r1)),(2,(xU m)),(0,(.box 50 [(cI 0),(cI 0)]))],4⟩) (fun (p:Nat×List Int×Int)=>match p with|(q,m,all)=>q<=r1.length/\m=lU l (r1.take q)/\all=lr (r1.take q)/\0<=all/\all<=1000000 * (q:Int)) (fun (p:Nat×List Int×Int)=>match p with|(q,m,all)=>r1.length - q) (0,[(↑l.length:Int) % 256],0) ?_ ?_ ?_
 ·exact ⟨by omega,by simp [lU],rfl,by omega⟩
 ·exact aD.bZ id (by refine ⟨?_,?_,?_,?_,?_,?_,?_,trivial⟩<;>first|rfl|(simp only [bn];done)|(congr 3;omega)|(congr 4;omega)|(simp only [bo];rfl)) (by refine ⟨?_,?_,?_,trivial⟩<;>first|rfl|(simp only [bn];done)|(congr 3;omega)|(congr 4;omega)|(simp only [bo];rfl)) rfl
 rintro ⟨q,m,all⟩ ⟨hi0_0,hi0_1,hi0_2,hi0_3⟩
 have hml:m.length=1+6 * q:=by rw [hi0_1,Ab,List.length_take];omega
 refine ad aa 1 rfl ?_
 refine af ?_
 refine ag rfl (fun hc2=>?_) (fun hc2=>?_)
 ·
  have hc2':=of_decide_eq_true hc2
  refine aP ?_
  refine af ?_
  refine aV ?_
  refine eJ ?_
  refine ay (bq (i:=q) rfl rfl rfl Try.underlying42 dm (by first|omega|(simp;done)|(simp;omega)) (by first|omega|(simp;done)|(simp;omega))) rfl ?_
  obtain ⟨x1,hx1⟩:=cp (xs:=r1) (i:=q) (by first|omega|(simp;done)|(simp;omega))
  have hx1b:=FG (hrok x1 (List.mem_of_getElem? hx1))
  refine ay (da rfl rfl rfl Try.underlying83 rfl dm (bw hx1) rfl) rfl ?_
  refine ab aa 2 rfl ?_
  refine ae ?_
  refine af ?_
  obtain ⟨r2,hr2⟩:∃ (r2:List Int),(m++([x1.ax % 256,x1.ba % 256,x1.kind % 256]))++ma x1.sum 3=r2:=⟨_,rfl⟩
  have hlr2:r2.length=m.length+6:=by rw [<-hr2];simp [px]
  refine bb [2,3,5,6,20,21,22,8] [4,3,2,0] mixed rfl rfl ?_
  refine aA (kn:=[]) aa 3 rfl trivial ?_
  refine aU (n':=5) [28] [] rfl rfl (.inl ⟨(al.plain rfl),aH.cast (fk rfl rfl (by rw [Try.underlying3];rfl) Try.underlying5 mP) rfl⟩) rfl ?_
  refine aA (kn:=[]) aa 2 rfl trivial ?_
  refine aU (n':=5) [31] [] rfl rfl (.inl ⟨(al.plain rfl),aH.cast (fk rfl rfl (by rw [Try.underlying3];rfl) Try.underlying5 mP) rfl⟩) rfl ?_
  refine aA (kn:=[]) aa 2 rfl trivial ?_
  refine aU (n':=5) [34] [] rfl rfl (.inl ⟨(al.plain rfl),aH.cast (fk rfl rfl (by rw [Try.underlying3];rfl) Try.underlying5 mP) rfl⟩) rfl ?_
  refine aU (n':=6) [29,32,35] [] rfl rfl (.inl ⟨(al.plain rfl),aH.cast (dC (ys:=[(0,(.c (.d (.v (.int .u8 (x1.ax % 256)))))),(1,(.c (.d (.v (.int .u8 (x1.ba % 256)))))),(2,(.c (.d (.v (.int .u8 (x1.kind % 256))))))]) (rows:=([x1.ax % 256,x1.ba % 256,x1.kind % 256]).map nT) 5 uL rfl (by decide) ⟨⟨rfl,rfl⟩,⟨rfl,rfl⟩,⟨rfl,rfl⟩,trivial⟩ rfl rfl rfl rfl) rfl⟩) rfl ?_
  refine aU (n':=7) [26,36] [5,2] rfl rfl (.inl ⟨(al.plain rfl),aH.cast (db (m:=3) (N:=m.length+3) (k2:=6) (ys:=([x1.ax % 256,x1.ba % 256,x1.kind % 256]).map nT) uL rfl rfl rfl rfl rfl rfl (by first|omega|(simp;done)|(simp;omega)) rfl (.s rfl (by first|omega|(simp;done)|(simp;omega))) (by first|omega|(simp;done)|(simp;omega)) (by first|omega|(simp;done)|(simp;omega)) eT (by decide) (by first|omega|(simp;done)|(simp;omega)) (by first|omega|(simp;done)|(simp;omega))) rfl⟩) rfl ?_
  refine aA (kn:=[]) aa 2 rfl trivial ?_
  refine aU (n':=8) [37,39] [6] rfl rfl (.inl ⟨(al.plain rfl),aH.cast (cw (aW [6]) (aW [7]) (tS (m++([x1.ax % 256,x1.ba % 256,x1.kind % 256])) (m.length+3) x1.sum 3 (by first|omega|(simp;done)|(simp;omega)) (by first|omega|(simp;done)|(simp;omega)) (by first|omega|(simp;done)|(simp;omega)) r2 hr2) CQ rfl rfl ⟨⟨_,rfl,.inl ⟨rfl,rfl⟩⟩,⟨_,rfl,.inr (.c (.d _))⟩,⟨_,rfl,.inr (.c (.d _))⟩,trivial⟩ ⟨rfl,trivial⟩ rfl rfl rfl rfl rfl rfl trivial ⟨(fun _ _ _ _=>trivial),trivial⟩ rfl rfl rfl rfl) rfl⟩) rfl ?_
  refine bB [7,4,3,0] rfl rfl rfl rfl (by kernel_rfl) ?_
  refine ab aa 1 rfl ?_
  refine ae ?_
  refine aw ?_
  refine ab aa 3 rfl ?_
  refine ay (aK rfl rfl rfl (aF (by first|omega|(simp;done)|(simp;omega)))) rfl ?_
  refine ab aa 1 rfl ?_
  refine bX ?_
  refine bl ?_
  refine then_ok ?_
  refine aw ?_
  refine ay (aK rfl rfl rfl (aF (by first|omega|(simp;done)|(simp;omega)))) rfl ?_
  refine ab aa 1 rfl ?_
  refine ae ?_
  refine ⟨(q+1,r2,all+x1.sum),⟨by omega,by rw [yx hx1,<-hi0_1,<-hr2];simp [uX],by rw [zp hx1,<-hi0_2],by omega⟩,by first|omega|(simp;done)|(simp;omega),aD.bZ (fun k=>if k=2 then 7 else k) (by refine ⟨?_,?_,?_,?_,?_,?_,?_,trivial⟩<;>first|rfl|(simp only [bn];done)|(congr 3;omega)|(congr 4;omega)|(simp only [bo];rfl)|(first|exact cA rfl (by omega)|exact gy rfl (by simp only [List.length_append,List.length_take,List.length_drop,List.length_cons,List.length_nil];omega))) (by refine ⟨?_,?_,?_,trivial⟩<;>first|rfl|(simp only [bn];done)|(congr 3;omega)|(congr 4;omega)|(simp only [bo];rfl)) rfl⟩
 have hc2':=of_decide_eq_false hc2
 refine cm ?_
 refine aQ ?_
 refine aQ ?_
 refine bO ?_
 refine then_ok ?_
 refine az aa 2 rfl ?_
 obtain ⟨r3,hr3⟩:∃ (r3:List Int),m++ma all 4=r3:=⟨_,rfl⟩
 have hlr3:r3.length=m.length+4:=by rw [<-hr3];simp [px]
 refine aL 5 [4,3,0] (cw (aW [2]) (aW [4]) (tS m m.length all 4 (by first|omega|(simp;done)|(simp;omega)) (by first|omega|(simp;done)|(simp;omega)) (by first|omega|(simp;done)|(simp;omega)) r3 hr3) CQ rfl rfl ⟨⟨_,rfl,.inl ⟨rfl,rfl⟩⟩,⟨_,rfl,.inr (.c (.d _))⟩,⟨_,rfl,.inr (.c (.d _))⟩,trivial⟩ ⟨rfl,trivial⟩ rfl rfl rfl rfl rfl rfl trivial ⟨(fun _ _ _ _=>trivial),trivial⟩ rfl rfl rfl rfl) rfl ?_
 refine ab aa 3 rfl ?_
 refine ae ?_
 refine ar ?_
 have hX:jQ l=(r3,(⟨0,0⟩:cT)):=by
   have ht:r1.take q=r1:=List.take_of_length_le (by omega)
   rw [ht] at hi0_1 hi0_2
   unfold jQ
   rw [if_pos hw,hr1,<-hi0_1,<-hi0_2]
   rw [hr3]
 rw [hX] at hr;clear hX
 simp only [Prod.mk.injEq] at hr;obtain ⟨rfl,rfl⟩:=hr
 refine ah aa [4,0] 1 rfl rfl rfl rfl rfl rfl ?_ ?_
 all_goals first|rfl|(simp [au];done)|(simp [au];omega)

theorem jO (x:Nat->Value) (hx:∀ i,(x i).oneCell'=true) (e err:Int) (e2:Int) (hr:dt e err=e2):cC Try.prog 87 [(.c (.p 0 0 0 0)),(.c (cI err))] [(0,(.box 147 ((aX x).set 19 (cI e))))] [0] (.v (.c (cB (decide (¬e2=0))))) [(0,(.box 147 ((aX x).set 19 (cI e2))))]:=by
 refine cC.mk 19 [(0,(aC (.p 0 0 0 0))),(1,(aI err))] 1 Try.func87 rfl rfl rfl rfl rfl rfl rfl rfl rfl ?_
 intro W0 F0 T0 pg
 refine ad aa 1 rfl ?_
 refine af ?_
 refine ad aa 5 rfl ?_
 refine ag rfl (fun hc1=>?_) (fun hc1=>?_)
 ·
  have hc1':=of_decide_eq_true hc1
  refine aw ?_
  refine ab aa 5 rfl ?_
  refine ae ?_
  refine ad aa 6 rfl ?_
  refine ar ?_
  have hX:dt e err=err:=by
    (unfold dt;try dsimp only);(repeat' split)<;>first|rfl|omega|(exfalso;omega)|(subst_vars;rfl)|(simp_all;done)|(simp_all;omega)
  rw [hX] at hr;clear hX
  subst hr
  refine ah aa [0] 1 rfl rfl rfl rfl rfl rfl ?_ ?_
  all_goals first|rfl|(simp [au,aT,aX];done)|(simp [au,aT,aX];omega)
 have hc1':=of_decide_eq_false hc1
 refine aP ?_
 refine ad aa 6 rfl ?_
 refine ar ?_
 have hX:dt e err=e:=by
   (unfold dt;try dsimp only);(repeat' split)<;>first|rfl|omega|(exfalso;omega)|(subst_vars;rfl)|(simp_all;done)|(simp_all;omega)
 rw [hX] at hr;clear hX
 subst hr
 refine ah aa [0] 1 rfl rfl rfl rfl rfl rfl ?_ ?_
 all_goals first|rfl|(simp [au,aT,aX];done)|(simp [au,aT,aX];omega)

theorem jk (x:Nat->Value) (hx:∀ i,(x i).oneCell'=true) (l:List Entry) (e src dst n:Int) (l2:List Entry) (e2:Int) (hr:dQ l e src dst n=(l2,e2)):cC Try.prog 76 [(.c (.p 0 0 0 0)),(.c (cI src)),(.c (cI dst)),(.c (cI n))] [(0,(.box 147 (((aX x).set 18 (dT l)).set 19 (cI e))))] [0] (.t []) [(0,(.box 147 (((aX x).set 18 (dT l2)).set 19 (cI e2))))]:=by
 refine cC.mk 31 [(0,(aC (.p 0 0 0 0))),(1,(aI src)),(2,(aI dst)),(3,(aI n))] 1 Try.func76 rfl rfl rfl rfl rfl rfl rfl rfl rfl ?_
 intro W0 F0 T0 pg
 refine az aa 8 rfl ?_
 obtain ⟨r0,e0,hr0⟩:∃ (r0:List Entry) (e0:Int),iU l src dst n=(r0,e0):=⟨_,_,rfl⟩
 refine aL 1 [0] (bM 1 (Fn.frozen (av':=(.t [(.c (dT r0)),(.c (cI e0))])) (wU l src dst n r0 e0 hr0) ⟨.inr ⟨_,_,_,_,_,rfl,rfl,rfl,by simp⟩,.inl ⟨_,rfl,rfl⟩,trivial⟩) GN rfl rfl ⟨⟨_,rfl,.c (.d _)⟩,⟨_,rfl,.c (.d _)⟩,⟨_,rfl,.c (.d _)⟩,⟨_,rfl,.c (.d _)⟩,trivial⟩ ⟨trivial,trivial,trivial⟩ trivial rfl rfl rfl rfl) rfl ?_
 refine ab aa 5 rfl ?_
 refine ae ?_
 refine az aa 2 rfl ?_
 obtain ⟨e21,hr1⟩:∃ (e21:Int),dt e e0=e21:=⟨_,rfl⟩
 refine aL 1 [0] (cg id id (ms:=(du.set 19 (some (cI e)))) (ms':=(du.set 19 (some (cI e21)))) (fun x hx=>jO x hx e e0 e21 hr1) nD rfl rfl ⟨⟨_,rfl,.inl ⟨rfl,rfl⟩⟩,⟨_,rfl,.inr (.c (.d _))⟩,trivial⟩ rfl rfl rfl rfl rfl rfl rfl trivial rfl rfl rfl rfl rfl rfl rfl rfl rfl rfl rfl rfl rfl) rfl ?_
 refine ab aa 1 rfl ?_
 refine ae ?_
 refine ag rfl (fun hc1=>?_) (fun hc1=>?_)
 ·
  have hc1':=hc1;try simp only [bm,bL] at hc1'
  refine aw ?_
  refine ab aa 6 rfl ?_
  refine bX ?_
  have hX:dQ l e src dst n=(r0,e21):=by
    unfold dQ;simp only [hr0,hr1];(repeat' split)<;>first|rfl|omega|(exfalso;omega)|(simp_all;done)|(simp_all;omega)
  rw [hX] at hr;clear hX
  simp only [Prod.mk.injEq] at hr;obtain ⟨rfl,rfl⟩:=hr
  refine cE aa [0] 1 rfl rfl rfl rfl rfl rfl ?_ ?_
  all_goals first|rfl|(simp [au,aT,aX];done)|(simp [au,aT,aX];omega)
 have hc1':=hc1;try simp only [bm,bL] at hc1'
 refine cV ?_
 have hX:dQ l e src dst n=(l,e21):=by
   unfold dQ;simp only [hr0,hr1];(repeat' split)<;>first|rfl|omega|(exfalso;omega)|(simp_all;done)|(simp_all;omega)
 rw [hX] at hr;clear hX
 simp only [Prod.mk.injEq] at hr;obtain ⟨rfl,rfl⟩:=hr
 refine cE aa [0] 1 rfl rfl rfl rfl rfl rfl ?_ ?_
 all_goals first|rfl|(simp [au,aT,aX];done)|(simp [au,aT,aX];omega)
theorem iW (x:Nat->Value) (hx:∀ i,(x i).oneCell'=true) (l:List bx) (e k held bf:Int) (hk:0<=k/\k < l.length) (l2:List bx) (e2:Int) (hr:cx l e k held bf=(l2,e2)):cC Try.prog 75 [(.c (.p 0 0 0 0)),(.c (cI k)),(.c (cI held)),(.c (cI bf))] [(0,(.box 147 (((aX x).set 2 (.s 1 0 6 l.length)).set 19 (cI e)))),(1,(dO l))] [0] (.t []) [(0,(.box 147 (((aX x).set 2 (.s 1 0 6 l2.length)).set 19 (cI e2)))),(1,(dO l2))]:=by
 refine cC.mk 36 [(0,(aC (.p 0 0 0 0))),(1,(aI k)),(2,(aI held)),(3,(aI bf))] 2 Try.func75 rfl rfl rfl rfl rfl rfl rfl rfl rfl ?_
 intro W0 F0 T0 pg
 refine az aa 6 rfl ?_
 refine ay (bq (i:=Int.toNat (k)) rfl rfl rfl Try.underlying29 iB (by first|omega|(simp;done)|(simp;omega)) (by first|omega|(simp;done)|(simp;omega))) rfl ?_
 obtain ⟨x1,hx1⟩:=cp (xs:=l) (i:=Int.toNat (k)) (by first|omega|(simp;done)|(simp;omega))
 refine ay (da rfl rfl rfl Try.underlying61 rfl iB (bw hx1) rfl) rfl ?_
 refine ab aa 2 rfl ?_
 obtain ⟨xr0,e0,hr0⟩:∃ (xr0:bx) (e0:Int),dU x1 held bf=(xr0,e0):=⟨_,_,rfl⟩
 refine aL 2 [0,1] (bM 2 (Fn.frozen (av':=(.t [(.g [(cI xr0.bf),(cI xr0.held),(cI xr0.bY.cH),(cI xr0.bY.count),(cI xr0.bY.sum),(ft xr0.cD)]),(.c (cI e0))])) (vV x1 held bf xr0 e0 hr0) ⟨⟨.inl ⟨_,rfl,rfl⟩,.inl ⟨_,rfl,rfl⟩,.inl ⟨_,rfl,rfl⟩,.inl ⟨_,rfl,rfl⟩,.inl ⟨_,rfl,rfl⟩,.inr ⟨_,_,_,_,_,rfl,rfl,rfl,by simp⟩,trivial⟩,.inl ⟨_,rfl,rfl⟩,trivial⟩) GO rfl rfl ⟨⟨_,rfl,.g ⟨.d _,.d _,.d _,.d _,.d _,.d _,trivial⟩⟩,⟨_,rfl,.c (.d _)⟩,⟨_,rfl,.c (.d _)⟩,trivial⟩ ⟨⟨trivial,trivial,trivial,trivial,trivial,trivial,trivial⟩,trivial,trivial⟩ trivial rfl rfl rfl rfl) rfl ?_
 refine ab aa 6 rfl ?_
 refine ae ?_
 refine az aa 2 rfl ?_
 obtain ⟨e21,hr1⟩:∃ (e21:Int),dt e e0=e21:=⟨_,rfl⟩
 refine aL 3 [0,2,1] (cg id id (ms:=(du.set 19 (some (cI e)))) (ms':=(du.set 19 (some (cI e21)))) (fun x hx=>jO x hx e e0 e21 hr1) nD rfl rfl ⟨⟨_,rfl,.inl ⟨rfl,rfl⟩⟩,⟨_,rfl,.inr (.c (.d _))⟩,trivial⟩ rfl rfl rfl rfl rfl rfl rfl trivial rfl rfl rfl rfl rfl rfl rfl rfl rfl rfl rfl rfl rfl) rfl ?_
 refine ab aa 1 rfl ?_
 refine ae ?_
 refine ag rfl (fun hc1=>?_) (fun hc1=>?_)
 ·
  have hc1':=hc1;try simp only [bm,bL] at hc1'
  refine bb [0,1,8] [0,2,1] mixed rfl rfl ?_
  refine aA (kn:=[]) aa 7 rfl trivial ?_
  refine aU (n':=3) [32,33] [1] rfl rfl (.inl ⟨(al.plain rfl),aH.cast (bq (i:=Int.toNat (k)) rfl rfl rfl Try.underlying29 iB (by first|omega|(simp;done)|(simp;omega)) (by first|omega|(simp;done)|(simp;omega))) rfl⟩) rfl ?_
  refine bB [0,2,1] rfl rfl rfl rfl (by kernel_rfl) ?_
  refine gf [0,2,1] (dM (ds:=[(dI xr0.bf),(dI xr0.held),(dI xr0.bY.cH),(dI xr0.bY.count),(dI xr0.bY.sum),(Fc xr0.cD)]) rfl rfl rfl rfl rfl iB rfl (Nat.le_of_ble_eq_true rfl) (bw hx1) rfl (eL (x':=xr0) rfl)) rfl ?_
  refine bX ?_
  have hX:cx l e k held bf=((l).set (Int.toNat (k)) xr0,e21):=by
    rw [ot hx1];simp only [hr0,hr1];(repeat' split)<;>first|rfl|omega|(exfalso;omega)|(simp_all;done)|(simp_all;omega)
  rw [hX] at hr;clear hX
  simp only [Prod.mk.injEq] at hr;obtain ⟨rfl,rfl⟩:=hr
  refine cE aa [0,1] 2 rfl rfl rfl rfl rfl rfl ?_ ?_
  all_goals first|rfl|(simp [au,aT,aX];done)|(simp [au,aT,aX];omega)
 have hc1':=hc1;try simp only [bm,bL] at hc1'
 refine cV ?_
 have hX:cx l e k held bf=(l,e21):=by
   rw [ot hx1];simp only [hr0,hr1];(repeat' split)<;>first|rfl|omega|(exfalso;omega)|(simp_all;done)|(simp_all;omega)
 rw [hX] at hr;clear hX
 simp only [Prod.mk.injEq] at hr;obtain ⟨rfl,rfl⟩:=hr
 refine cE aa [0,1] 2 rfl rfl rfl rfl rfl rfl ?_ ?_
 all_goals first|rfl|(simp [au,aT,aX];done)|(simp [au,aT,aX];omega)
theorem Fj (x:Nat->Value) (hx:∀ i,(x i).oneCell'=true) (l:List aj) (e:Int) (r:aj) (hl:l.length<=100) (l2:List aj) (e2:Int) (hr:im l e r=(l2,e2)):cC Try.prog 83 [(.c (.p 0 0 0 0)),(.g [(cI r.ax),(cI r.ba),(cI r.kind),(cI r.sum)])] [(0,(.box 147 (((aX x).set 16 (.s 1 0 4 l.length)).set 19 (cI e)))),(1,(cG l))] [0] (.t []) [(0,(.box 147 (((aX x).set 16 (.s 1 0 4 l2.length)).set 19 (cI e2)))),(1,(cG l2))]:=by
 refine cC.mk 25 [(0,(aC (.p 0 0 0 0))),(1,(aG [(cI r.ax),(cI r.ba),(cI r.kind),(cI r.sum)]))] 2 Try.func83 rfl rfl rfl rfl rfl rfl rfl rfl rfl ?_
 intro W0 F0 T0 pg
 refine ad aa 1 rfl ?_
 refine af ?_
 refine az aa 5 rfl ?_
 refine ay (dp rfl rfl rfl rfl rfl Try.underlying42) rfl ?_
 refine ab aa 1 rfl ?_
 refine ae ?_
 refine ag rfl (fun hc1=>?_) (fun hc1=>?_)
 ·
  have hc1':=of_decide_eq_true hc1
  refine az aa 1 rfl ?_
  obtain ⟨e20,hr0⟩:∃ (e20:Int),dt e 5=e20:=⟨_,rfl⟩
  refine aL 3 [0,2,1] (cg id id (ms:=(du.set 19 (some (cI e)))) (ms':=(du.set 19 (some (cI e20)))) (fun x hx=>jO x hx e 5 e20 hr0) nD rfl rfl ⟨⟨_,rfl,.inl ⟨rfl,rfl⟩⟩,⟨_,rfl,.inr (.c (.d _))⟩,trivial⟩ rfl rfl rfl rfl rfl rfl rfl trivial rfl rfl rfl rfl rfl rfl rfl rfl rfl rfl rfl rfl rfl) rfl ?_
  refine ae ?_
  refine ar ?_
  refine ao ?_
  have hX:im l e r=(l,e20):=by
    unfold im;first|(rw [if_pos (by omega),hr0];done)|(rw [if_neg (by omega)];done)
  rw [hX] at hr;clear hX
  simp only [Prod.mk.injEq] at hr;obtain ⟨rfl,rfl⟩:=hr
  refine ah aa [0,1] 2 rfl rfl rfl rfl rfl rfl ?_ ?_
  all_goals first|rfl|(simp [au,aT,aX];done)|(simp [au,aT,aX];omega)
 have hc1':=of_decide_eq_false hc1
 refine aP ?_
 refine bb [0,3] [2,0,1] mixed rfl rfl ?_
 refine aA (kn:=[]) aa 7 rfl trivial ?_
 refine aU (n':=4) [19] [] rfl rfl (.inl ⟨(al.plain rfl),aH.cast (dC (ys:=[(0,(.g [(cI r.ax),(cI r.ba),(cI r.kind),(cI r.sum)]))]) (rows:=([r]).map gT) 3 yd rfl (by decide) ⟨⟨rfl,rfl⟩,trivial⟩ rfl rfl rfl rfl) rfl⟩) rfl ?_
 refine aU (n':=5) [18,20] [3,1] rfl rfl (.inl ⟨(al.plain rfl),aH.cast (db (m:=1) (N:=l.length+1) (k2:=4) (ys:=([r]).map gT) yd rfl rfl rfl rfl rfl rfl (by first|omega|(simp;done)|(simp;omega)) rfl (.s rfl (by first|omega|(simp;done)|(simp;omega))) (by first|omega|(simp;done)|(simp;omega)) (by first|omega|(simp;done)|(simp;omega)) eT (by decide) (by first|omega|(simp;done)|(simp;omega)) (by first|omega|(simp;done)|(simp;omega))) rfl⟩) rfl ?_
 refine aA (kn:=[]) aa 3 rfl trivial ?_
 refine bB [4,2,0] rfl rfl rfl rfl (by kernel_rfl) ?_
 refine ab aa 1 rfl ?_
 refine bX ?_
 have hX:im l e r=(l++([r]),e):=by
   unfold im;first|(rw [if_pos (by omega),hr0];done)|(rw [if_neg (by omega)];done)
 rw [hX] at hr;clear hX
 simp only [Prod.mk.injEq] at hr;obtain ⟨rfl,rfl⟩:=hr
 refine cE aa [0,4] 2 rfl rfl rfl rfl rfl rfl ?_ ?_
 all_goals first|rfl|(simp [au,aT,aX];done)|(simp [au,aT,aX];omega)

theorem sJ (x:Nat->Value) (hx:∀ i,(x i).oneCell'=true) (s:bP) (e:Int) (t:aR) (hI:∀ t∈s.kept,fF t.number) (s2:bP) (e2:Int) (hr:eA s e t=(s2,e2)):cC Try.prog 82 [(.c (.p 0 0 0 0)),(.c (cI 0)),(.g [(cI t.number),(cI t.kind),(cI t.ba),(cI t.sum)])] [(0,(.box 147 ((((aX x).set 5 (cI s.bF)).set 6 (dd s.kept)).set 19 (cI e))))] [0] (.t []) [(0,(.box 147 ((((aX x).set 5 (cI s2.bF)).set 6 (dd s2.kept)).set 19 (cI e2))))]:=by
 refine cC.mk 31 [(0,(aC (.p 0 0 0 0))),(1,(aI 0)),(2,(aG [(cI t.number),(cI t.kind),(cI t.ba),(cI t.sum)]))] 1 Try.func82 rfl rfl rfl rfl rfl rfl rfl rfl rfl ?_
 intro W0 F0 T0 pg
 refine ad aa 1 rfl ?_
 refine af ?_
 obtain ⟨xr0,e0,hr0⟩:∃ (xr0:bP) (e0:Int),fr s t=(xr0,e0):=⟨_,_,rfl⟩
 refine cW [0,1,5] [1,0] mixed rfl rfl ?_
 refine bR (kn:=[]) aa 5 rfl trivial ?_
 refine bV (n':=2) [13,10] [0] rfl rfl (.inl ⟨(al.plain rfl),aH.cast (di (i:=0) rfl rfl rfl Try.underlying35 mm rfl (by decide)) rfl⟩) rfl ?_
 refine bR (kn:=[]) aa 2 rfl trivial ?_
 refine bV (n':=2) [15,16] [] rfl rfl (.inl ⟨(al.plain rfl),aH.cast (bM 2 (Fn.frozen (av':=(.t [(.g [(cI xr0.bF),(dd xr0.kept)]),(.c (cI e0))])) (rN s t (by first|assumption|exact kd (by assumption) (by omega)|exact jq (by assumption) (by assumption)|(simp [fF];done)) xr0 e0 hr0) ⟨⟨.inl ⟨_,rfl,rfl⟩,.inr ⟨_,_,_,_,_,rfl,rfl,rfl,by simp⟩,trivial⟩,.inl ⟨_,rfl,rfl⟩,trivial⟩) CU rfl rfl ⟨⟨_,rfl,.g ⟨.d _,.d _,trivial⟩⟩,⟨_,rfl,.g ⟨.d _,.d _,.d _,.d _,trivial⟩⟩,trivial⟩ ⟨⟨trivial,trivial,trivial⟩,trivial,trivial⟩ trivial rfl rfl rfl rfl) rfl⟩) rfl ?_
 refine bR (n':=3) (kn:=[]) aa 6 rfl trivial ?_
 refine dP [0,1,6,7] [2,0] rfl rfl (by kernel_rfl) ?_
 refine then_ok ?_
 refine az aa 2 rfl ?_
 obtain ⟨e21,hr1⟩:∃ (e21:Int),dt e e0=e21:=⟨_,rfl⟩
 refine aL 3 [0,2] (cg id id (ms:=(du.set 19 (some (cI e)))) (ms':=(du.set 19 (some (cI e21)))) (fun x hx=>jO x hx e e0 e21 hr1) nD rfl rfl ⟨⟨_,rfl,.inl ⟨rfl,rfl⟩⟩,⟨_,rfl,.inr (.c (.d _))⟩,trivial⟩ rfl rfl rfl rfl rfl rfl rfl trivial rfl rfl rfl rfl rfl rfl rfl rfl rfl rfl rfl rfl rfl) rfl ?_
 refine ab aa 1 rfl ?_
 refine ae ?_
 refine ag rfl (fun hc1=>?_) (fun hc1=>?_)
 ·
  have hc1':=hc1;try simp only [bm,bL] at hc1'
  refine bb [0,1,6] [0,2] mixed rfl rfl ?_
  refine aA (kn:=[]) aa 6 rfl trivial ?_
  refine aU (n':=3) [29,25] [0] rfl rfl (.inl ⟨(al.plain rfl),aH.cast (di (i:=0) rfl rfl rfl Try.underlying35 mm rfl (by decide)) rfl⟩) rfl ?_
  refine bB [0,2] rfl rfl rfl rfl (by kernel_rfl) ?_
  refine ab aa 1 rfl ?_
  refine bX ?_
  have hX:eA s e t=(xr0,e21):=by
    unfold eA;simp only [hr0,hr1];(repeat' split)<;>first|rfl|omega|(exfalso;omega)|(simp_all;done)|(simp_all;omega)
  rw [hX] at hr;clear hX
  simp only [Prod.mk.injEq] at hr;obtain ⟨rfl,rfl⟩:=hr
  refine cE aa [0] 1 rfl rfl rfl rfl rfl rfl ?_ ?_
  all_goals first|rfl|(simp [au,aT,aX];done)|(simp [au,aT,aX];omega)
 have hc1':=hc1;try simp only [bm,bL] at hc1'
 refine cV ?_
 have hX:eA s e t=(s,e21):=by
   unfold eA;simp only [hr0,hr1];(repeat' split)<;>first|rfl|omega|(exfalso;omega)|(simp_all;done)|(simp_all;omega)
 rw [hX] at hr;clear hX
 simp only [Prod.mk.injEq] at hr;obtain ⟨rfl,rfl⟩:=hr
 refine cE aa [0] 1 rfl rfl rfl rfl rfl rfl ?_ ?_
 all_goals first|rfl|(simp [au,aT,aX];done)|(simp [au,aT,aX];omega)
theorem DG (x:Nat->Value) (hx:∀ i,(x i).oneCell'=true) (s:bP) (e:Int) (t:aR) (hI:∀ t∈s.kept,fF t.number) (s2:bP) (e2:Int) (hr:eA s e t=(s2,e2)):cC Try.prog 82 [(.c (.p 0 0 0 0)),(.c (cI 1)),(.g [(cI t.number),(cI t.kind),(cI t.ba),(cI t.sum)])] [(0,(.box 147 ((((aX x).set 7 (cI s.bF)).set 8 (dd s.kept)).set 19 (cI e))))] [0] (.t []) [(0,(.box 147 ((((aX x).set 7 (cI s2.bF)).set 8 (dd s2.kept)).set 19 (cI e2))))]:=by
 refine cC.mk 31 [(0,(aC (.p 0 0 0 0))),(1,(aI 1)),(2,(aG [(cI t.number),(cI t.kind),(cI t.ba),(cI t.sum)]))] 1 Try.func82 rfl rfl rfl rfl rfl rfl rfl rfl rfl ?_
 intro W0 F0 T0 pg
 refine ad aa 1 rfl ?_
 refine af ?_
 obtain ⟨xr0,e0,hr0⟩:∃ (xr0:bP) (e0:Int),fr s t=(xr0,e0):=⟨_,_,rfl⟩
 refine cW [0,1,5] [1,0] mixed rfl rfl ?_
 refine bR (kn:=[]) aa 5 rfl trivial ?_
 refine bV (n':=2) [13,10] [0] rfl rfl (.inl ⟨(al.plain rfl),aH.cast (di (i:=1) rfl rfl rfl Try.underlying35 mm rfl (by decide)) rfl⟩) rfl ?_
 refine bR (kn:=[]) aa 2 rfl trivial ?_
 refine bV (n':=2) [15,16] [] rfl rfl (.inl ⟨(al.plain rfl),aH.cast (bM 2 (Fn.frozen (av':=(.t [(.g [(cI xr0.bF),(dd xr0.kept)]),(.c (cI e0))])) (rN s t (by first|assumption|exact kd (by assumption) (by omega)|exact jq (by assumption) (by assumption)|(simp [fF];done)) xr0 e0 hr0) ⟨⟨.inl ⟨_,rfl,rfl⟩,.inr ⟨_,_,_,_,_,rfl,rfl,rfl,by simp⟩,trivial⟩,.inl ⟨_,rfl,rfl⟩,trivial⟩) CU rfl rfl ⟨⟨_,rfl,.g ⟨.d _,.d _,trivial⟩⟩,⟨_,rfl,.g ⟨.d _,.d _,.d _,.d _,trivial⟩⟩,trivial⟩ ⟨⟨trivial,trivial,trivial⟩,trivial,trivial⟩ trivial rfl rfl rfl rfl) rfl⟩) rfl ?_
 refine bR (n':=3) (kn:=[]) aa 6 rfl trivial ?_
 refine dP [0,1,6,7] [2,0] rfl rfl (by kernel_rfl) ?_
 refine then_ok ?_
 refine az aa 2 rfl ?_
 obtain ⟨e21,hr1⟩:∃ (e21:Int),dt e e0=e21:=⟨_,rfl⟩
 refine aL 3 [0,2] (cg id id (ms:=(du.set 19 (some (cI e)))) (ms':=(du.set 19 (some (cI e21)))) (fun x hx=>jO x hx e e0 e21 hr1) nD rfl rfl ⟨⟨_,rfl,.inl ⟨rfl,rfl⟩⟩,⟨_,rfl,.inr (.c (.d _))⟩,trivial⟩ rfl rfl rfl rfl rfl rfl rfl trivial rfl rfl rfl rfl rfl rfl rfl rfl rfl rfl rfl rfl rfl) rfl ?_
 refine ab aa 1 rfl ?_
 refine ae ?_
 refine ag rfl (fun hc1=>?_) (fun hc1=>?_)
 ·
  have hc1':=hc1;try simp only [bm,bL] at hc1'
  refine bb [0,1,6] [0,2] mixed rfl rfl ?_
  refine aA (kn:=[]) aa 6 rfl trivial ?_
  refine aU (n':=3) [29,25] [0] rfl rfl (.inl ⟨(al.plain rfl),aH.cast (di (i:=1) rfl rfl rfl Try.underlying35 mm rfl (by decide)) rfl⟩) rfl ?_
  refine bB [0,2] rfl rfl rfl rfl (by kernel_rfl) ?_
  refine ab aa 1 rfl ?_
  refine bX ?_
  have hX:eA s e t=(xr0,e21):=by
    unfold eA;simp only [hr0,hr1];(repeat' split)<;>first|rfl|omega|(exfalso;omega)|(simp_all;done)|(simp_all;omega)
  rw [hX] at hr;clear hX
  simp only [Prod.mk.injEq] at hr;obtain ⟨rfl,rfl⟩:=hr
  refine cE aa [0] 1 rfl rfl rfl rfl rfl rfl ?_ ?_
  all_goals first|rfl|(simp [au,aT,aX];done)|(simp [au,aT,aX];omega)
 have hc1':=hc1;try simp only [bm,bL] at hc1'
 refine cV ?_
 have hX:eA s e t=(s,e21):=by
   unfold eA;simp only [hr0,hr1];(repeat' split)<;>first|rfl|omega|(exfalso;omega)|(simp_all;done)|(simp_all;omega)
 rw [hX] at hr;clear hX
 simp only [Prod.mk.injEq] at hr;obtain ⟨rfl,rfl⟩:=hr
 refine cE aa [0] 1 rfl rfl rfl rfl rfl rfl ?_ ?_
 all_goals first|rfl|(simp [au,aT,aX];done)|(simp [au,aT,aX];omega)
theorem At (x:Nat->Value) (hx:∀ i,(x i).oneCell'=true) (aq:List bz) (due:List Int) (an:List bx) (book:List Entry) (e:Int) (t:aR) (ht:0<=t.ba/\t.ba < aq.length) (hA:∀ a∈aq,0<=a.aJ/\a.aJ < an.length/\0<=a.ax/\a.ax < due.length) (hc:an.length<=8) (hd:due.length<=8) (due2:List Int) (cards2:List bx) (book2:List Entry) (e2:Int) (hr:dX aq due an book e t=(due2,cards2,book2,e2)):cC Try.prog 89 [(.c (.p 0 0 0 0)),(.g [(cI t.number),(cI t.kind),(cI t.ba),(cI t.sum)])] [(0,(.box 147 ((((((aX x).set 2 (.s 1 0 6 an.length)).set 3 (.s 2 0 1 due.length)).set 4 (.s 3 0 8 aq.length)).set 18 (dT book)).set 19 (cI e)))),(1,(dO an)),(2,(dG due)),(3,(dV aq))] [0] (.t []) [(0,(.box 147 ((((((aX x).set 2 (.s 1 0 6 cards2.length)).set 3 (.s 2 0 1 due2.length)).set 4 (.s 3 0 8 aq.length)).set 18 (dT book2)).set 19 (cI e2)))),(1,(dO cards2)),(2,(dG due2)),(3,(dV aq))]:=by
 refine cC.mk 77 [(0,(aC (.p 0 0 0 0))),(1,(aG [(cI t.number),(cI t.kind),(cI t.ba),(cI t.sum)]))] 4 Try.func89 rfl rfl rfl rfl rfl rfl rfl rfl rfl ?_
 intro W0 F0 T0 pg
 refine ad aa 1 rfl ?_
 refine af ?_
 obtain ⟨x1,hx1⟩:=cp (xs:=aq) (i:=Int.toNat (t.ba)) (by first|omega|(simp;done)|(simp;omega))
 have hx1A:=hA x1 (List.mem_of_getElem? hx1)
 refine bb [0,3] [4,0,1,2,3] mixed rfl rfl ?_
 refine aA (kn:=[]) aa 7 rfl trivial ?_
 refine aU (n':=5) [11,13] [3] rfl rfl (.inl ⟨(al.plain rfl),aH.cast (bq (i:=Int.toNat (t.ba)) rfl rfl rfl Try.underlying31 ml (by first|omega|(simp;done)|(simp;omega)) (by first|omega|(simp;done)|(simp;omega))) rfl⟩) rfl ?_
 refine aU (n':=5) [14] [3] rfl rfl (.inl ⟨(al.plain rfl),aH.cast (da rfl rfl rfl Try.underlying67 rfl ml (bw hx1) rfl) rfl⟩) rfl ?_
 refine aA (n':=6) (kn:=[]) aa 1 rfl trivial ?_
 refine bB [5,4,0,1,2,3] rfl rfl rfl rfl (by kernel_rfl) ?_
 refine ab aa 1 rfl ?_
 refine ae ?_
 refine af ?_
 refine bb [0,3,4] [5,4,0,1,2,3] mixed rfl rfl ?_
 refine aA (kn:=[]) aa 2 rfl trivial ?_
 refine aU (n':=6) [17] [] rfl rfl (.inl ⟨(al.plain rfl),aH.cast (aK rfl rfl rfl (aF (by first|omega|(simp;done)|(simp;omega)))) rfl⟩) rfl ?_
 refine aA (kn:=[]) aa 2 rfl trivial ?_
 refine aU (n':=6) [20] [] rfl rfl (.inl ⟨(al.plain rfl),aH.cast (aK rfl rfl rfl (aF (by first|omega|(simp;done)|(simp;omega)))) rfl⟩) rfl ?_
 refine aA (kn:=[]) aa 2 rfl trivial ?_
 refine bB [5,4,0,1,2,3] rfl rfl rfl rfl (by kernel_rfl) ?_
 refine ae ?_
 refine ad aa 2 rfl ?_
 refine aV ?_
 refine ad aa 2 rfl ?_
 refine ag rfl (fun hc1=>?_) (fun hc1=>?_)
 ·
  have hc1':=of_decide_eq_true hc1
  refine af ?_
  obtain ⟨x2,hx2⟩:=cp (xs:=due) (i:=Int.toNat (x1.ax)) (by first|omega|(simp;done)|(simp;omega))
  refine bb [0,3,4,5] [5,4,0,1,2,3] mixed rfl rfl ?_
  refine aA (kn:=[]) aa 7 rfl trivial ?_
  refine aU (n':=6) [30,32] [2] rfl rfl (.inl ⟨(al.plain rfl),aH.cast (bq (i:=Int.toNat (x1.ax)) rfl rfl rfl Try.underlying30 fJ (by first|omega|(simp;done)|(simp;omega)) (by first|omega|(simp;done)|(simp;omega))) rfl⟩) rfl ?_
  refine aU (n':=6) [33] [2] rfl rfl (.inl ⟨(al.plain rfl),aH.cast (eG rfl rfl rfl Try.underlying3 rfl (bw hx2) rfl) rfl⟩) rfl ?_
  refine aA (kn:=[]) aa 3 rfl trivial ?_
  refine aU (n':=6) [30,32] [2] rfl rfl (.inl ⟨(al.plain rfl),aH.cast (bq (i:=Int.toNat (x1.ax)) rfl rfl rfl Try.underlying30 fJ (by first|omega|(simp;done)|(simp;omega)) (by first|omega|(simp;done)|(simp;omega))) rfl⟩) rfl ?_
  refine bB [5,4,0,1,2,3] rfl rfl rfl rfl (by kernel_rfl) ?_
  refine gf [5,4,0,1,2,3] (dM (ds:=[(dI (IntKind.i64.wrap (x2+t.sum)))]) rfl rfl rfl rfl rfl fJ rfl (Nat.le_of_ble_eq_true rfl) (bw hx2) rfl (eL (x':=(IntKind.i64.wrap (x2+t.sum))) rfl)) rfl ?_
  refine ae ?_
  refine fx (k:=0) (q:=3) (c':=(.s 2 0 1 (((due).set (Int.toNat (x1.ax)) (IntKind.i64.wrap (x2+t.sum))).length))) rfl rfl (by first|rfl|(simp;done)|(congr 1;omega)) rfl ?_
  refine aw ?_
  refine ab aa 4 rfl ?_
  obtain ⟨l20,e20,hr0⟩:∃ (l20:List Entry) (e20:Int),dQ book e 1 (50+x1.ax) t.sum=(l20,e20):=⟨_,_,rfl⟩
  refine aL 6 [0,5,4,1,2,3] (cg id id (ms:=((du.set 18 (some (dT book))).set 19 (some (cI e)))) (ms':=((du.set 18 (some (dT l20))).set 19 (some (cI e20)))) (fun x hx=>jk x hx book e 1 (50+x1.ax) t.sum l20 e20 hr0) mz rfl rfl ⟨⟨_,rfl,.inl ⟨rfl,rfl⟩⟩,⟨_,rfl,.inr (.c (.d _))⟩,⟨_,rfl,.inr (.c (.d _))⟩,⟨_,rfl,.inr (.c (.d _))⟩,trivial⟩ rfl rfl rfl rfl rfl rfl rfl trivial rfl rfl rfl rfl rfl rfl rfl rfl rfl rfl rfl rfl rfl) rfl ?_
  refine bX ?_
  refine bl ?_
  have hX:dX aq due an book e t=((due).set (Int.toNat (x1.ax)) (IntKind.i64.wrap (x2+t.sum)),an,l20,e20):=by
    unfold dX;rw [hx1];dsimp only;simp only [List.getD_eq_getElem?_getD,hx2,Option.getD_some,hr0];(repeat' split)<;>first|rfl|omega|(exfalso;omega)|(simp_all;done)|(simp_all;omega)
  rw [hX] at hr;clear hX
  simp only [Prod.mk.injEq] at hr;obtain ⟨rfl,rfl,rfl,rfl⟩:=hr
  refine cE aa [0,1,2,3] 4 rfl rfl rfl rfl rfl rfl ?_ ?_
  all_goals first|rfl|(simp [au,aT,aX];done)|(simp [au,aT,aX];omega)
 have hc1':=of_decide_eq_false hc1
 refine ad aa 2 rfl ?_
 refine ag rfl (fun hc2=>?_) (fun hc2=>?_)
 ·
  have hc2':=of_decide_eq_true hc2
  refine az aa 5 rfl ?_
  obtain ⟨l21,e21,hr1⟩:∃ (l21:List bx) (e21:Int),cx an e x1.aJ 0 t.sum=(l21,e21):=⟨_,_,rfl⟩
  refine aL 7 [0,6,5,4,2,3] (cg id (aW [0,6]) (ms:=((du.set 2 (some (.s 1 0 6 an.length))).set 19 (some (cI e)))) (ms':=((du.set 2 (some (.s 1 0 6 l21.length))).set 19 (some (cI e21)))) (fun x hx=>iW x hx an e x1.aJ 0 t.sum (by first|omega|(simp;done)|(simp;omega)) l21 e21 hr1) nE rfl rfl ⟨⟨_,rfl,.inl ⟨rfl,rfl⟩⟩,⟨_,rfl,.inr (.c (.d _))⟩,⟨_,rfl,.inr (.c (.d _))⟩,⟨_,rfl,.inr (.c (.d _))⟩,trivial⟩ rfl rfl rfl rfl rfl rfl rfl ⟨rfl,trivial⟩ rfl rfl rfl rfl rfl rfl rfl rfl rfl rfl rfl rfl rfl) rfl ?_
  refine ae ?_
  refine aw ?_
  refine ab aa 4 rfl ?_
  obtain ⟨l22,e22,hr2⟩:∃ (l22:List Entry) (e22:Int),dQ book e21 1 (10+x1.aJ) t.sum=(l22,e22):=⟨_,_,rfl⟩
  refine aL 7 [0,6,5,4,2,3] (cg id id (ms:=((du.set 18 (some (dT book))).set 19 (some (cI e21)))) (ms':=((du.set 18 (some (dT l22))).set 19 (some (cI e22)))) (fun x hx=>jk x hx book e21 1 (10+x1.aJ) t.sum l22 e22 hr2) mz rfl rfl ⟨⟨_,rfl,.inl ⟨rfl,rfl⟩⟩,⟨_,rfl,.inr (.c (.d _))⟩,⟨_,rfl,.inr (.c (.d _))⟩,⟨_,rfl,.inr (.c (.d _))⟩,trivial⟩ rfl rfl rfl rfl rfl rfl rfl trivial rfl rfl rfl rfl rfl rfl rfl rfl rfl rfl rfl rfl rfl) rfl ?_
  refine bX ?_
  refine bl ?_
  have hX:dX aq due an book e t=(due,l21,l22,e22):=by
    unfold dX;rw [hx1];dsimp only;simp only [List.getD_eq_getElem?_getD,Option.getD_some,hr1,hr2];(repeat' split)<;>first|rfl|omega|(exfalso;omega)|(simp_all;done)|(simp_all;omega)
  rw [hX] at hr;clear hX
  simp only [Prod.mk.injEq] at hr;obtain ⟨rfl,rfl,rfl,rfl⟩:=hr
  refine cE aa [0,6,2,3] 4 rfl rfl rfl rfl rfl rfl ?_ ?_
  all_goals first|rfl|(simp [au,aT,aX];done)|(simp [au,aT,aX];omega)
 have hc2':=of_decide_eq_false hc2
 refine ad aa 2 rfl ?_
 refine ag rfl (fun hc3=>?_) (fun hc3=>?_)
 ·
  have hc3':=of_decide_eq_true hc3
  refine af ?_
  obtain ⟨x2,hx2⟩:=cp (xs:=due) (i:=Int.toNat (x1.ax)) (by first|omega|(simp;done)|(simp;omega))
  refine bb [0,3,4,5] [5,4,0,1,2,3] mixed rfl rfl ?_
  refine aA (kn:=[]) aa 7 rfl trivial ?_
  refine aU (n':=6) [63,65] [2] rfl rfl (.inl ⟨(al.plain rfl),aH.cast (bq (i:=Int.toNat (x1.ax)) rfl rfl rfl Try.underlying30 fJ (by first|omega|(simp;done)|(simp;omega)) (by first|omega|(simp;done)|(simp;omega))) rfl⟩) rfl ?_
  refine aU (n':=6) [66] [2] rfl rfl (.inl ⟨(al.plain rfl),aH.cast (eG rfl rfl rfl Try.underlying3 rfl (bw hx2) rfl) rfl⟩) rfl ?_
  refine aA (kn:=[]) aa 3 rfl trivial ?_
  refine aU (n':=6) [63,65] [2] rfl rfl (.inl ⟨(al.plain rfl),aH.cast (bq (i:=Int.toNat (x1.ax)) rfl rfl rfl Try.underlying30 fJ (by first|omega|(simp;done)|(simp;omega)) (by first|omega|(simp;done)|(simp;omega))) rfl⟩) rfl ?_
  refine bB [5,4,0,1,2,3] rfl rfl rfl rfl (by kernel_rfl) ?_
  refine gf [5,4,0,1,2,3] (dM (ds:=[(dI (IntKind.i64.wrap (x2 - t.sum)))]) rfl rfl rfl rfl rfl fJ rfl (Nat.le_of_ble_eq_true rfl) (bw hx2) rfl (eL (x':=(IntKind.i64.wrap (x2 - t.sum))) rfl)) rfl ?_
  refine ae ?_
  refine fx (k:=0) (q:=3) (c':=(.s 2 0 1 (((due).set (Int.toNat (x1.ax)) (IntKind.i64.wrap (x2 - t.sum))).length))) rfl rfl (by first|rfl|(simp;done)|(congr 1;omega)) rfl ?_
  refine aw ?_
  refine ab aa 4 rfl ?_
  obtain ⟨l23,e23,hr3⟩:∃ (l23:List Entry) (e23:Int),dQ book e (50+x1.ax) 2 t.sum=(l23,e23):=⟨_,_,rfl⟩
  refine aL 6 [0,5,4,1,2,3] (cg id id (ms:=((du.set 18 (some (dT book))).set 19 (some (cI e)))) (ms':=((du.set 18 (some (dT l23))).set 19 (some (cI e23)))) (fun x hx=>jk x hx book e (50+x1.ax) 2 t.sum l23 e23 hr3) mz rfl rfl ⟨⟨_,rfl,.inl ⟨rfl,rfl⟩⟩,⟨_,rfl,.inr (.c (.d _))⟩,⟨_,rfl,.inr (.c (.d _))⟩,⟨_,rfl,.inr (.c (.d _))⟩,trivial⟩ rfl rfl rfl rfl rfl rfl rfl trivial rfl rfl rfl rfl rfl rfl rfl rfl rfl rfl rfl rfl rfl) rfl ?_
  refine bX ?_
  refine bl ?_
  have hX:dX aq due an book e t=((due).set (Int.toNat (x1.ax)) (IntKind.i64.wrap (x2 - t.sum)),an,l23,e23):=by
    unfold dX;rw [hx1];dsimp only;simp only [List.getD_eq_getElem?_getD,hx2,Option.getD_some,hr3];(repeat' split)<;>first|rfl|omega|(exfalso;omega)|(simp_all;done)|(simp_all;omega)
  rw [hX] at hr;clear hX
  simp only [Prod.mk.injEq] at hr;obtain ⟨rfl,rfl,rfl,rfl⟩:=hr
  refine cE aa [0,1,2,3] 4 rfl rfl rfl rfl rfl rfl ?_ ?_
  all_goals first|rfl|(simp [au,aT,aX];done)|(simp [au,aT,aX];omega)
 have hc3':=of_decide_eq_false hc3
 refine cV ?_
 refine bl ?_
 have hX:dX aq due an book e t=(due,an,book,e):=by
   unfold dX;rw [hx1];dsimp only;simp only [List.getD_eq_getElem?_getD,Option.getD_some,hx1];(repeat' split)<;>first|rfl|omega|(exfalso;omega)|(simp_all;done)|(simp_all;omega)
 rw [hX] at hr;clear hX
 simp only [Prod.mk.injEq] at hr;obtain ⟨rfl,rfl,rfl,rfl⟩:=hr
 refine cE aa [0,1,2,3] 4 rfl rfl rfl rfl rfl rfl ?_ ?_
 all_goals first|rfl|(simp [au,aT,aX];done)|(simp [au,aT,aX];omega)

theorem wg (l:List bz) (hl:l.length * 64<=140737488355328):Fn Try.prog 96 [(.c (zg l))] (aC (.s 0 0 8 l.length)) [(0,.arr 67 8 (l.map iS))]:=by
 refine Fn.mk' 8 [(0,(aC (zg l)))] Try.func96 rfl rfl rfl rfl ?_
 intro W0 T0
 refine dH 0 rfl (fun hlen0=>?_)
 refine ad aa 1 rfl ?_
 refine af ?_
 refine az aa 1 rfl ?_
 refine ir (al.plain rfl) rfl rfl Try.underlying31 rfl rfl (fun bn1 hbn1=>?_)
 refine ae ?_
 refine ag rfl (fun hc2=>?_) (fun hc2=>?_)
 ·
  have hc2':=hc2;try simp only [bm,bL] at hc2'
  refine ad aa 1 rfl ?_
  refine ar ?_
  refine ao ?_
  refine cP (aD.nil 2 67 8 (by decide) rfl) ?_
  refine ah aa [0] 1 rfl rfl rfl rfl rfl rfl ?_ ?_
  ·(have h0:=hbn1 (by assumption);have h1:l=[]:=by (cases l with|nil=>rfl|cons=>simp at h0));subst h1;rfl
  ·(have h0:=hbn1 (by assumption);have h1:l=[]:=by (cases l with|nil=>rfl|cons=>simp at h0));subst h1;rfl
 have hc2':=hc2;try simp only [bm,bL] at hc2'
 refine aP ?_
 refine eJ ?_
 refine aL 1 [0] (dC (ys:=[]) (rows:=(([]:List bz)).map iS) 0 se rfl (by decide) trivial rfl rfl rfl rfl) rfl ?_
 refine ab aa 1 rfl ?_
 refine aL 2 [1] (db (m:=l.length) (N:=l.length) (k2:=1) (ys:=(l).map iS) se rfl rfl rfl rfl rfl rfl (by first|omega|(simp;omega)|(simp;done)) rfl (.d _ _) (by first|omega|(simp;omega)|(simp;done)) (by first|omega|(simp;omega)|(simp;done)) rfl (by decide) (by first|omega|(simp;omega)|(simp;done)) (by first|omega|(simp;omega)|(simp;done))) rfl ?_
 refine ab aa 1 rfl ?_
 refine ae ?_
 refine ar ?_
 refine ah aa [1] 1 rfl rfl rfl rfl rfl rfl ?_ ?_
 ·first|rfl|simp [fK,aC]
 ·first|rfl|simp
theorem mR (l:List bU) (hl:l.length * 40<=140737488355328):Fn Try.prog 85 [(.c (eo l))] (aC (.s 0 0 5 l.length)) [(0,.arr 113 5 (l.map fj))]:=by
 refine Fn.mk' 8 [(0,(aC (eo l)))] Try.func85 rfl rfl rfl rfl ?_
 intro W0 T0
 refine dH 0 rfl (fun hlen0=>?_)
 refine ad aa 1 rfl ?_
 refine af ?_
 refine az aa 1 rfl ?_
 refine ir (al.plain rfl) rfl rfl Try.underlying37 rfl rfl (fun bn1 hbn1=>?_)
 refine ae ?_
 refine ag rfl (fun hc2=>?_) (fun hc2=>?_)
 ·
  have hc2':=hc2;try simp only [bm,bL] at hc2'
  refine ad aa 1 rfl ?_
  refine ar ?_
  refine ao ?_
  refine cP (aD.nil 2 113 5 (by decide) rfl) ?_
  refine ah aa [0] 1 rfl rfl rfl rfl rfl rfl ?_ ?_
  ·(have h0:=hbn1 (by assumption);have h1:l=[]:=by (cases l with|nil=>rfl|cons=>simp at h0));subst h1;rfl
  ·(have h0:=hbn1 (by assumption);have h1:l=[]:=by (cases l with|nil=>rfl|cons=>simp at h0));subst h1;rfl
 have hc2':=hc2;try simp only [bm,bL] at hc2'
 refine aP ?_
 refine eJ ?_
 refine aL 1 [0] (dC (ys:=[]) (rows:=(([]:List bU)).map fj) 0 mo rfl (by decide) trivial rfl rfl rfl rfl) rfl ?_
 refine ab aa 1 rfl ?_
 refine aL 2 [1] (db (m:=l.length) (N:=l.length) (k2:=1) (ys:=(l).map fj) mo rfl rfl rfl rfl rfl rfl (by first|omega|(simp;omega)|(simp;done)) rfl (.d _ _) (by first|omega|(simp;omega)|(simp;done)) (by first|omega|(simp;omega)|(simp;done)) rfl (by decide) (by first|omega|(simp;omega)|(simp;done)) (by first|omega|(simp;omega)|(simp;done))) rfl ?_
 refine ab aa 1 rfl ?_
 refine ae ?_
 refine ar ?_
 refine ah aa [1] 1 rfl rfl rfl rfl rfl rfl ?_ ?_
 ·first|rfl|simp [fK,aC]
 ·first|rfl|simp
theorem we (l:List (List D)) (hl:l.length * 64<=140737488355328):Fn Try.prog 94 [(.c (cR 6 ((l).map id)))] (aC (.s 0 0 6 l.length)) [(0,.arr 61 6 (l.map id))]:=by
 refine Fn.mk' 8 [(0,(aC (cR 6 ((l).map id))))] Try.func94 rfl rfl rfl rfl ?_
 intro W0 T0
 refine dH 0 rfl (fun hlen0=>?_)
 refine ad aa 1 rfl ?_
 refine af ?_
 refine az aa 1 rfl ?_
 refine ir (al.plain rfl) rfl rfl Try.underlying29 rfl rfl (fun bn1 hbn1=>?_)
 refine ae ?_
 refine ag rfl (fun hc2=>?_) (fun hc2=>?_)
 ·
  have hc2':=hc2;try simp only [bm,bL] at hc2'
  refine ad aa 1 rfl ?_
  refine ar ?_
  refine ao ?_
  refine cP (aD.nil 2 61 6 (by decide) rfl) ?_
  refine ah aa [0] 1 rfl rfl rfl rfl rfl rfl ?_ ?_
  ·(have h0:=hbn1 (by assumption);have h1:l=[]:=by (cases l with|nil=>rfl|cons=>simp at h0));subst h1;rfl
  ·(have h0:=hbn1 (by assumption);have h1:l=[]:=by (cases l with|nil=>rfl|cons=>simp at h0));subst h1;rfl
 have hc2':=hc2;try simp only [bm,bL] at hc2'
 refine aP ?_
 refine eJ ?_
 refine aL 1 [0] (dC (ys:=[]) (rows:=(([]:List (List D))).map id) 0 yf rfl (by decide) trivial rfl rfl rfl rfl) rfl ?_
 refine ab aa 1 rfl ?_
 refine aL 2 [1] (db (m:=l.length) (N:=0+l.length) (k2:=1) (ys:=(l).map id) yf rfl rfl rfl rfl rfl rfl (by first|omega|(simp;omega)|(simp;done)) rfl (.d _ _) (by first|omega|(simp;omega)|(simp;done)) (by first|omega|(simp;omega)|(simp;done)) eT (by decide) (by first|omega|(simp;omega)|(simp;done)) (by first|omega|(simp;omega)|(simp;done))) rfl ?_
 refine ab aa 1 rfl ?_
 refine ae ?_
 refine ar ?_
 refine ah aa [1] 1 rfl rfl rfl rfl rfl rfl ?_ ?_
 ·first|rfl|simp [fK,aC]
 ·first|rfl|simp

theorem kh (v w:Value) (b:Bk) (l1:b.an.length<=8) (l2:b.due.length<=8) (l3:b.aq.length<=30) (l4:b.aO.length<=100):cC Try.prog 74 [(.c (.p 0 0 0 0))] [(0,(.box 98 (aT b 1 2 3 4 (.d (.v v)) (.d (.v w))))),(1,(dO b.an)),(2,(dG b.due)),(3,(dV b.aq)),(4,(cG b.aO))] [0] (.v (.c (.p 1 0 0 0))) [(0,(.box 98 (aT b 2 3 4 5 (.d (.v v)) (.d (.v w))))),(1,(.box 147 (aT b 6 7 8 9 (.d (.v v)) (cI 0)))),(2,(dO b.an)),(3,(dG b.due)),(4,(dV b.aq)),(5,(cG b.aO)),(6,(dO b.an)),(7,(dG b.due)),(8,(dV b.aq)),(9,(cG b.aO))]:=by
 refine cC.mk 51 [(0,(aC (.p 0 0 0 0)))] 5 Try.func74 rfl rfl rfl rfl rfl rfl rfl rfl rfl ?_
 intro W0 F0 T0 pg
 refine ad aa 1 rfl ?_
 refine ad aa 7 rfl ?_
 refine af ?_
 refine cW [0,3] [5,0,1,2,3,4] mixed rfl rfl ?_
 refine bR (kn:=[]) aa 9 rfl trivial ?_
 refine bV (n':=7) [18] [1] rfl rfl (.inl ⟨(al.plain rfl),aH.cast (BS 6 (fun l hl=>we l (by rw [hl];first|omega|(simp;done)|(simp;omega))) GQ rfl rfl rfl rfl rfl (by simp)) rfl⟩) rfl ?_
 refine bR (kn:=[]) aa 5 rfl trivial ?_
 refine bV (n':=8) [24] [2] rfl rfl (.inl ⟨(al.plain rfl),aH.cast (fO 7 [2] (pV b.due (by first|omega|(simp;done)|(simp;omega))) EJ rfl rfl ⟨⟨_,rfl,.c (.s rfl (by decide) (by first|omega|(simp;done)|(simp;omega)))⟩,trivial⟩ trivial ⟨(Em _),trivial⟩ rfl rfl rfl rfl) rfl⟩) rfl ?_
 refine bR (kn:=[]) aa 5 rfl trivial ?_
 refine bV (n':=9) [30] [3] rfl rfl (.inl ⟨(al.plain rfl),aH.cast (fO 8 [3] (wg b.aq (by first|omega|(simp;done)|(simp;omega))) GP rfl rfl ⟨⟨_,rfl,.c (.s rfl (by decide) (by first|omega|(simp;done)|(simp;omega)))⟩,trivial⟩ trivial ⟨(zV _),trivial⟩ rfl rfl rfl rfl) rfl⟩) rfl ?_
 refine bR (kn:=[]) aa 5 rfl trivial ?_
 refine bV (n':=10) [36] [4] rfl rfl (.inl ⟨(al.plain rfl),aH.cast (fO 9 [4] (mQ b.aO (by first|omega|(simp;done)|(simp;omega))) EW rfl rfl ⟨⟨_,rfl,.c (.s rfl (by decide) (by first|omega|(simp;done)|(simp;omega)))⟩,trivial⟩ trivial ⟨(wI _),trivial⟩ rfl rfl rfl rfl) rfl⟩) rfl ?_
 refine bR (kn:=[]) aa 16 rfl trivial ?_
 refine dP [3] [5,9,8,7,6,0,1,2,3,4] rfl rfl (by kernel_rfl) ?_
 refine then_ok ?_
 refine ad aa 2 rfl ?_
 refine ar ?_
 refine ah aa [0,5,1,2,3,4,6,7,8,9] 10 rfl rfl rfl rfl rfl rfl ?_ ?_
 all_goals first|rfl|(simp [au,aT,aX];done)|(simp [au,aT,aX];omega)
theorem fg (v w:Value) (b c:Bk) (e:Int) (he:e=0):cC Try.prog 77 [(.c (.p 0 0 0 0)),(.c (.p 1 0 0 0))] [(0,(.box 98 (aT b 2 3 4 5 (.d (.v v)) (.d (.v w))))),(1,(.box 147 (aT c 6 7 8 9 (.d (.v v)) (cI e)))),(2,(dO b.an)),(3,(dG b.due)),(4,(dV b.aq)),(5,(cG b.aO)),(6,(dO c.an)),(7,(dG c.due)),(8,(dV c.aq)),(9,(cG c.aO))] [0] (.v (.c (cI e))) [(0,(.box 98 (aT c 1 2 3 4 (.d (.v v)) (.d (.v w))))),(1,(dO c.an)),(2,(dG c.due)),(3,(dV c.aq)),(4,(cG c.aO))]:=by
 refine cC.mk 21 [(0,(aC (.p 0 0 0 0))),(1,(aC (.p 1 0 0 0)))] 10 Try.func77 rfl rfl rfl rfl rfl rfl rfl rfl rfl ?_
 intro W0 F0 T0 pg
 refine ad aa 1 rfl ?_
 refine af ?_
 refine ad aa 5 rfl ?_
 refine ag rfl (fun hc1=>?_) (fun hc1=>?_)
 ·
  have hc1':=of_decide_eq_true hc1
  refine aw ?_
  refine ab aa 8 rfl ?_
  refine ae ?_
  refine ad aa 5 rfl ?_
  refine ar ?_
  refine ah aa [0,6,7,8,9] 5 rfl rfl rfl rfl rfl rfl ?_ ?_
  all_goals first|rfl|(simp [au,aT,aX];done)|(simp [au,aT,aX];omega)
 have hc1':=of_decide_eq_false hc1
 (exfalso;simp_all)
theorem fS (v w:Value) (b c:Bk) (e:Int) (he:¬e=0):cC Try.prog 77 [(.c (.p 0 0 0 0)),(.c (.p 1 0 0 0))] [(0,(.box 98 (aT b 2 3 4 5 (.d (.v v)) (.d (.v w))))),(1,(.box 147 (aT c 6 7 8 9 (.d (.v v)) (cI e)))),(2,(dO b.an)),(3,(dG b.due)),(4,(dV b.aq)),(5,(cG b.aO)),(6,(dO c.an)),(7,(dG c.due)),(8,(dV c.aq)),(9,(cG c.aO))] [0] (.v (.c (cI e))) [(0,(.box 98 (aT b 1 2 3 4 (.d (.v v)) (.d (.v w))))),(1,(dO b.an)),(2,(dG b.due)),(3,(dV b.aq)),(4,(cG b.aO))]:=by
 refine cC.mk 21 [(0,(aC (.p 0 0 0 0))),(1,(aC (.p 1 0 0 0)))] 10 Try.func77 rfl rfl rfl rfl rfl rfl rfl rfl rfl ?_
 intro W0 F0 T0 pg
 refine ad aa 1 rfl ?_
 refine af ?_
 refine ad aa 5 rfl ?_
 refine ag rfl (fun hc1=>?_) (fun hc1=>?_)
 ·
  have hc1':=of_decide_eq_true hc1
  (exfalso;simp_all)
 have hc1':=of_decide_eq_false hc1
 refine aP ?_
 refine ad aa 5 rfl ?_
 refine ar ?_
 refine ah aa [0,2,3,4,5] 5 rfl rfl rfl rfl rfl rfl ?_ ?_
 all_goals first|rfl|(simp [au,aT,aX];done)|(simp [au,aT,aX];omega)

theorem Cq (x:Nat->Value) (hx:∀ i,(x i).oneCell'=true) (s0 s1:bP) (n0 n1:Int) (w0 w1:List bU) (idn kind ax move sum:Int) (l0:w0.length<=60) (l1:w1.length<=60) (m0:s0.kept.length<=40) (m1:s1.kept.length<=40) (v0:List bU) (v1:List bU) (a2:Answer) (hr:ez s0 s1 n0 n1 w0 w1 (⟨idn,kind,0,ax,move,sum⟩:aS)=(v0,v1,a2)):cC Try.prog 66 [(.c (.p 0 0 0 0)),(.c (.q (cL (⟨idn,kind,0,ax,move,sum⟩:aS)) 0))] [(0,(.box 98 (((((((((aX x).set 5 (cI s0.bF)).set 6 (dd s0.kept)).set 7 (cI s1.bF)).set 8 (dd s1.kept)).set 9 (cI n0)).set 10 (cI n1)).set 11 (eo w0)).set 12 (eo w1))))] [0] (.v (.g [cI a2.err,cI a2.ba])) [(0,(.box 98 (((((((((aX x).set 5 (cI s0.bF)).set 6 (dd s0.kept)).set 7 (cI s1.bF)).set 8 (dd s1.kept)).set 9 (cI n0)).set 10 (cI n1)).set 11 (eo v0)).set 12 (eo v1))))]:=by
 refine cC.Ek 83 [(0,(aC (.p 0 0 0 0))),(1,(aC (.q (cL (⟨idn,kind,0,ax,move,sum⟩:aS)) 0)))] 1 Try.func66 rfl rfl rfl rfl rfl rfl rfl rfl rfl ?_
 intro W0 F0 T0 pg hF
 have hF0:∀ b,F0 b->(pg 0).g=b:=fun b hb=>by obtain ⟨k,hk,h⟩:=hF b hb;rw [List.mem_singleton.1 hk] at h;exact h
 refine ad aa 1 rfl ?_
 refine af ?_
 refine cq 20 (false) ?_ ?_
 ·
  refine aw ?_
  refine ab aa 4 rfl ?_
  refine ay (aK rfl rfl rfl (show _=some (Value.bool false) from rfl)) rfl ?_
  refine ab aa 7 rfl ?_
  refine ae ?_
  exact aD.bD 12 rfl rfl (by first|(simp [];done)|(simp_all;done)|(exfalso;simp_all;done)|(simp_all;omega)) rfl
 refine ag rfl (fun hno=>by cases hno) (fun _=>?_)
 refine aP ?_
 refine ad aa 6 rfl ?_
 refine az aa 5 rfl ?_
 refine ay (di (i:=1) rfl rfl rfl Try.underlying38 kL rfl (by decide)) rfl ?_
 refine ab aa 1 rfl ?_
 refine aL 3 [2,1,0] (bM 2 (mR w1 (by first|omega|(simp;done)|(simp;omega))) EO rfl rfl ⟨⟨_,rfl,.c (.d _)⟩,trivial⟩ trivial ⟨(fun _ _ _ _=>trivial),trivial⟩ rfl rfl rfl rfl) rfl ?_
 refine ab aa 1 rfl ?_
 refine ae ?_
 refine af ?_
 refine af ?_
 refine bb [0,1,4,5,6] [2,1,0] mixed rfl rfl ?_
 refine aA (kn:=[]) aa 8 rfl trivial ?_
 refine aU (n':=3) [42,39] [0] rfl rfl (.inl ⟨(al.plain rfl),aH.cast (di (i:=0) rfl rfl rfl Try.underlying35 mm rfl (by decide)) rfl⟩) rfl ?_
 refine aA (kn:=[]) aa 2 rfl trivial ?_
 refine aU (n':=3) [45] [] rfl rfl (.inl ⟨(al.plain rfl),aH.cast (cO rfl rfl rfl rfl rfl Try.underlying32) rfl⟩) rfl ?_
 refine aA (kn:=[]) aa 1 rfl trivial ?_
 refine bB [2,1,0] rfl rfl rfl rfl (by kernel_rfl) ?_
 refine ae ?_
 refine aV ?_
 refine cv (β:=Nat×List bU) (fun (p:Nat×List bU)=>match p with|(q,m)=>⟨[(0,(aC (.p 0 0 0 0))),(1,(aC (.q (cL (⟨idn,kind,0,ax,move,sum⟩:aS)) 0))),(4,(aC (.p 1 0 0 0))),(5,(aI 1)),(6,(aC (.s 2 0 5 m.length))),(45,(aC (dd s0.kept))),(46,(aI (↑s0.kept.length:Int))),(47,(aI (↑q:Int)))],[(2,(Fs m)),(1,(.box 65 [(cI 0),(cI 0)])),(0,(.box 98 (((((((((aX x).set 5 (cI s0.bF)).set 6 (dd s0.kept)).set 7 (cI s1.bF)).set 8 (dd s1.kept)).set 9 (cI n0)).set 10 (cI n1)).set 11 (eo w0)).set 12 (eo w1))))],3⟩) (fun (p:Nat×List bU)=>match p with|(q,m)=>q<=s0.kept.length/\m=w1++(s0.kept.take q).map (fun t=>(⟨t,-1⟩:bU))) (fun (p:Nat×List bU)=>match p with|(q,m)=>s0.kept.length - q) (0,w1) ?_ ?_ ?_
 ·exact ⟨by omega,by simp⟩
 ·exact aD.bZ id (by refine ⟨?_,?_,?_,?_,?_,?_,?_,?_,trivial⟩<;>first|rfl|(simp only [bn];done)|(congr 3;omega)|(congr 4;omega)|(simp only [bo];rfl)) (by refine ⟨?_,?_,?_,trivial⟩<;>first|rfl|(simp only [bn];done)|(congr 3;omega)|(congr 4;omega)|(simp only [bo];rfl)) rfl
 rintro ⟨q,m⟩ ⟨hi0_0,hi0_1⟩
 have hml:m.length=w1.length+q:=by rw [hi0_1];simp;omega
 refine ad aa 1 rfl ?_
 refine af ?_
 refine ag rfl (fun hc2=>?_) (fun hc2=>?_)
 ·
  have hc2':=of_decide_eq_true hc2
  refine aP ?_
  refine af ?_
  refine aV ?_
  refine eJ ?_
  obtain ⟨x1,hx1⟩:=cp (xs:=s0.kept) (i:=q) (by first|omega|(simp;done)|(simp;omega))
  refine ay (cU (i:=q) rfl rfl rfl Try.underlying32 mj (by first|omega|(simp;done)|(simp;omega)) (bw hx1)) rfl ?_
  refine ab aa 3 rfl ?_
  refine ae ?_
  refine aw ?_
  refine ab aa 3 rfl ?_
  refine aL 5 [4,3,2,1,0] (dC (ys:=[(0,(.g [(cI x1.number),(cI x1.kind),(cI x1.ba),(cI x1.sum),(cI (-1))]))]) (rows:=([(⟨x1,(-1)⟩:bU)]).map fj) 4 mo rfl (by decide) ⟨⟨rfl,rfl⟩,trivial⟩ rfl rfl rfl rfl) rfl ?_
  refine aL 6 [5,4,3,1,0] (db (m:=1) (N:=m.length+1) (k2:=5) (ys:=([(⟨x1,(-1)⟩:bU)]).map fj) mo rfl rfl rfl rfl rfl rfl (by first|omega|(simp;done)|(simp;omega)) rfl (.s rfl (by first|omega|(simp;done)|(simp;omega))) (by first|omega|(simp;done)|(simp;omega)) (by first|omega|(simp;done)|(simp;omega)) eT (by decide) (by first|omega|(simp;done)|(simp;omega)) (by first|omega|(simp;done)|(simp;omega))) rfl ?_
  refine ab aa 1 rfl ?_
  refine bX ?_
  refine bl ?_
  refine then_ok ?_
  refine aw ?_
  refine ay (aK rfl rfl rfl (aF (by first|omega|(simp;done)|(simp;omega)))) rfl ?_
  refine ab aa 1 rfl ?_
  refine ae ?_
  refine ⟨(q+1,m++([(⟨x1,(-1)⟩:bU)])),⟨by omega,by rw [List.take_add_one,hx1,List.map_append,<-List.append_assoc,<-hi0_1];rfl⟩,by first|omega|(simp;done)|(simp;omega),aD.bZ (fun k=>if k=2 then 5 else k) (by refine ⟨?_,?_,?_,?_,?_,?_,?_,?_,trivial⟩<;>first|rfl|(simp only [bn];done)|(congr 3;omega)|(congr 4;omega)|(simp only [bo];rfl)|(first|exact cA rfl (by omega)|exact gy rfl (by simp only [List.length_append,List.length_cons,List.length_nil];omega))) (by refine ⟨?_,?_,?_,trivial⟩<;>first|rfl|(simp only [bn];done)|(congr 3;omega)|(congr 4;omega)|(simp only [bo];rfl)) rfl⟩
 have hc2':=of_decide_eq_false hc2
 refine cm ?_
 refine aQ ?_
 refine aQ ?_
 refine bO ?_
 refine then_ok ?_
 refine af ?_
 refine bb [0,1,4,5,6,45,46,47] [2,1,0] mixed rfl rfl ?_
 refine aA (kn:=[]) aa 9 rfl trivial ?_
 refine aU (n':=3) [65,62] [0] rfl rfl (.inl ⟨(al.plain rfl),aH.cast (di (i:=0) rfl rfl rfl Try.underlying36 fJ rfl (by decide)) rfl⟩) rfl ?_
 refine aA (kn:=[]) aa 2 rfl trivial ?_
 refine aU (n':=4) [68] [] rfl rfl (.inl ⟨(al.plain rfl),aH.cast (dC (ys:=[(0,(.g [(cI 0),(cI 0),(cI 0),(cI 0),(cI n0)]))]) (rows:=([(⟨(⟨0,0,0,0⟩:aR),n0⟩:bU)]).map fj) 3 mo rfl (by decide) ⟨⟨rfl,rfl⟩,trivial⟩ rfl rfl rfl rfl) rfl⟩) rfl ?_
 refine aU (n':=5) [57,69] [3,2] rfl rfl (.inl ⟨(al.plain rfl),aH.cast (db (m:=1) (N:=m.length+1) (k2:=4) (ys:=([(⟨(⟨0,0,0,0⟩:aR),n0⟩:bU)]).map fj) mo rfl rfl rfl rfl rfl rfl (by first|omega|(simp;done)|(simp;omega)) rfl (.s rfl (by first|omega|(simp;done)|(simp;omega))) (by first|omega|(simp;done)|(simp;omega)) (by first|omega|(simp;done)|(simp;omega)) eT (by decide) (by first|omega|(simp;done)|(simp;omega)) (by first|omega|(simp;done)|(simp;omega))) rfl⟩) rfl ?_
 refine bB [4,1,0] rfl rfl rfl rfl (by kernel_rfl) ?_
 refine ab aa 1 rfl ?_
 refine ae ?_
 refine af ?_
 refine az aa 1 rfl ?_
 refine ay (dp rfl rfl rfl rfl rfl Try.underlying37) rfl ?_
 refine ab aa 1 rfl ?_
 refine ae ?_
 refine ag rfl (fun hc3=>?_) (fun hc3=>?_)
 ·
  have hc3':=of_decide_eq_true hc3
  refine ad aa 2 rfl ?_
  refine ar ?_
  refine ao ?_
  have hX:ez s0 s1 n0 n1 w0 w1 (⟨idn,kind,0,ax,move,sum⟩:aS)=(w0,w1,(⟨5,0⟩:Answer)):=by
    (have ht:s0.kept.take q=s0.kept:=List.take_of_length_le (by omega));rw [ht] at hi0_1;unfold ez;dsimp only;rw [if_pos rfl];unfold ic gw;rw [<-hi0_1];first|rw [if_pos (by simp;omega)]|rw [if_neg (by simp;omega)]
  rw [hX] at hr;clear hX
  simp only [Prod.mk.injEq] at hr;obtain ⟨rfl,rfl,rfl⟩:=hr
  refine ah aa [0,1] 1 rfl rfl rfl rfl rfl rfl ?_ ?_
  all_goals first|rfl|(simp [au,aT,aX];done)|(simp [au,aT,aX];omega)
 have hc3':=of_decide_eq_false hc3
 refine aP ?_
 refine sb (s':=[(0,(aC (.p 0 0 0 0))),(1,(aC (.q (cL (⟨idn,kind,0,ax,move,sum⟩:aS)) 0))),(4,(aC (.p 1 0 0 0))),(5,(aI 1)),(6,(aC (eo (m++([(⟨(⟨0,0,0,0⟩:aR),n0⟩:bU)]))))),(45,(aC (dd s0.kept))),(46,(aI (↑s0.kept.length:Int))),(47,(aI (↑q:Int))),(70,(aC (eo (m++([(⟨(⟨0,0,0,0⟩:aR),n0⟩:bU)]))))),(71,(aC (eo (m++([(⟨(⟨0,0,0,0⟩:aR),n0⟩:bU)]))))),(72,(aI (↑(m.length+1):Int))),(73,(aB (decide ((↑(m.length+1):Int) > 60))))]) (h':=[(1,(.box 65 [(cI 0),(cI 0)])),(0,(.box 98 (((((((((aX x).set 5 (cI s0.bF)).set 6 (dd s0.kept)).set 7 (cI s1.bF)).set 8 (dd s1.kept)).set 9 (cI n0)).set 10 (cI n1)).set 11 (eo w0)).set 12 (eo w1))))]) hF0 4 rfl rfl ⟨⟨_,rfl,.inl ⟨rfl,rfl⟩⟩,⟨_,rfl,.inl ⟨rfl,rfl⟩⟩,⟨_,rfl,.inl ⟨rfl,rfl⟩⟩,⟨_,rfl,.inl ⟨rfl,rfl⟩⟩,⟨_,rfl,.inr ⟨_,_,rfl,rfl,.s rfl (by decide) (by first|omega|(simp;done)|(simp;omega))⟩⟩,⟨_,rfl,.inl ⟨rfl,rfl⟩⟩,⟨_,rfl,.inl ⟨rfl,rfl⟩⟩,⟨_,rfl,.inl ⟨rfl,rfl⟩⟩,⟨_,rfl,.inr ⟨_,_,rfl,rfl,.s rfl (by decide) (by first|omega|(simp;done)|(simp;omega))⟩⟩,⟨_,rfl,.inr ⟨_,_,rfl,rfl,.s rfl (by decide) (by first|omega|(simp;done)|(simp;omega))⟩⟩,⟨_,rfl,.inl ⟨rfl,rfl⟩⟩,⟨_,rfl,.inl ⟨rfl,rfl⟩⟩,trivial⟩ ⟨rfl,rfl,trivial⟩ rfl ?_
 refine az aa 6 rfl ?_
 refine ay (di (i:=1) rfl rfl rfl Try.underlying38 kL rfl (by decide)) rfl ?_
 refine ab aa 1 rfl ?_
 refine ae ?_
 refine ad aa 2 rfl ?_
 refine ar ?_
 have hX:ez s0 s1 n0 n1 w0 w1 (⟨idn,kind,0,ax,move,sum⟩:aS)=(w0,m++([(⟨(⟨0,0,0,0⟩:aR),n0⟩:bU)]),(⟨0,0⟩:Answer)):=by
   (have ht:s0.kept.take q=s0.kept:=List.take_of_length_le (by omega));rw [ht] at hi0_1;unfold ez;dsimp only;rw [if_pos rfl];unfold ic gw;rw [<-hi0_1];first|rw [if_pos (by simp;omega)]|rw [if_neg (by simp;omega)]
 rw [hX] at hr;clear hX
 simp only [Prod.mk.injEq] at hr;obtain ⟨rfl,rfl,rfl⟩:=hr
 refine ah aa [0,1] 1 rfl rfl rfl rfl rfl rfl ?_ ?_
 all_goals first|rfl|(simp [au,aT,aX];done)|(simp [au,aT,aX];omega)
theorem Cp (x:Nat->Value) (hx:∀ i,(x i).oneCell'=true) (s0 s1:bP) (n0 n1:Int) (w0 w1:List bU) (idn kind ax move sum:Int) (l0:w0.length<=60) (l1:w1.length<=60) (m0:s0.kept.length<=40) (m1:s1.kept.length<=40) (v0:List bU) (v1:List bU) (a2:Answer) (hr:ez s0 s1 n0 n1 w0 w1 (⟨idn,kind,1,ax,move,sum⟩:aS)=(v0,v1,a2)):cC Try.prog 66 [(.c (.p 0 0 0 0)),(.c (.q (cL (⟨idn,kind,1,ax,move,sum⟩:aS)) 0))] [(0,(.box 98 (((((((((aX x).set 5 (cI s0.bF)).set 6 (dd s0.kept)).set 7 (cI s1.bF)).set 8 (dd s1.kept)).set 9 (cI n0)).set 10 (cI n1)).set 11 (eo w0)).set 12 (eo w1))))] [0] (.v (.g [cI a2.err,cI a2.ba])) [(0,(.box 98 (((((((((aX x).set 5 (cI s0.bF)).set 6 (dd s0.kept)).set 7 (cI s1.bF)).set 8 (dd s1.kept)).set 9 (cI n0)).set 10 (cI n1)).set 11 (eo v0)).set 12 (eo v1))))]:=by
 refine cC.Ek 83 [(0,(aC (.p 0 0 0 0))),(1,(aC (.q (cL (⟨idn,kind,1,ax,move,sum⟩:aS)) 0)))] 1 Try.func66 rfl rfl rfl rfl rfl rfl rfl rfl rfl ?_
 intro W0 F0 T0 pg hF
 have hF0:∀ b,F0 b->(pg 0).g=b:=fun b hb=>by obtain ⟨k,hk,h⟩:=hF b hb;rw [List.mem_singleton.1 hk] at h;exact h
 refine ad aa 1 rfl ?_
 refine af ?_
 refine cq 20 (false) ?_ ?_
 ·
  refine aw ?_
  refine ab aa 4 rfl ?_
  refine ay (aK rfl rfl rfl (show _=some (Value.bool true) from rfl)) rfl ?_
  refine ab aa 5 rfl ?_
  refine dW (al.yes rfl rfl rfl) (aK rfl rfl rfl (show _=some (Value.bool false) from rfl)) rfl rfl ?_
  refine ab aa 1 rfl ?_
  refine ae ?_
  exact aD.bD 12 rfl rfl (by first|(simp [];done)|(simp_all;done)|(exfalso;simp_all;done)|(simp_all;omega)) rfl
 refine ag rfl (fun hno=>by cases hno) (fun _=>?_)
 refine aP ?_
 refine ad aa 6 rfl ?_
 refine az aa 5 rfl ?_
 refine ay (di (i:=0) rfl rfl rfl Try.underlying38 kL rfl (by decide)) rfl ?_
 refine ab aa 1 rfl ?_
 refine aL 3 [2,1,0] (bM 2 (mR w0 (by first|omega|(simp;done)|(simp;omega))) EO rfl rfl ⟨⟨_,rfl,.c (.d _)⟩,trivial⟩ trivial ⟨(fun _ _ _ _=>trivial),trivial⟩ rfl rfl rfl rfl) rfl ?_
 refine ab aa 1 rfl ?_
 refine ae ?_
 refine af ?_
 refine af ?_
 refine bb [0,1,4,5,6] [2,1,0] mixed rfl rfl ?_
 refine aA (kn:=[]) aa 8 rfl trivial ?_
 refine aU (n':=3) [42,39] [0] rfl rfl (.inl ⟨(al.plain rfl),aH.cast (di (i:=1) rfl rfl rfl Try.underlying35 mm rfl (by decide)) rfl⟩) rfl ?_
 refine aA (kn:=[]) aa 2 rfl trivial ?_
 refine aU (n':=3) [45] [] rfl rfl (.inl ⟨(al.plain rfl),aH.cast (cO rfl rfl rfl rfl rfl Try.underlying32) rfl⟩) rfl ?_
 refine aA (kn:=[]) aa 1 rfl trivial ?_
 refine bB [2,1,0] rfl rfl rfl rfl (by kernel_rfl) ?_
 refine ae ?_
 refine aV ?_
 refine cv (β:=Nat×List bU) (fun (p:Nat×List bU)=>match p with|(q,m)=>⟨[(0,(aC (.p 0 0 0 0))),(1,(aC (.q (cL (⟨idn,kind,1,ax,move,sum⟩:aS)) 0))),(4,(aC (.p 1 0 0 0))),(5,(aI 0)),(6,(aC (.s 2 0 5 m.length))),(45,(aC (dd s1.kept))),(46,(aI (↑s1.kept.length:Int))),(47,(aI (↑q:Int)))],[(2,(Fs m)),(1,(.box 65 [(cI 0),(cI 0)])),(0,(.box 98 (((((((((aX x).set 5 (cI s0.bF)).set 6 (dd s0.kept)).set 7 (cI s1.bF)).set 8 (dd s1.kept)).set 9 (cI n0)).set 10 (cI n1)).set 11 (eo w0)).set 12 (eo w1))))],3⟩) (fun (p:Nat×List bU)=>match p with|(q,m)=>q<=s1.kept.length/\m=w0++(s1.kept.take q).map (fun t=>(⟨t,-1⟩:bU))) (fun (p:Nat×List bU)=>match p with|(q,m)=>s1.kept.length - q) (0,w0) ?_ ?_ ?_
 ·exact ⟨by omega,by simp⟩
 ·exact aD.bZ id (by refine ⟨?_,?_,?_,?_,?_,?_,?_,?_,trivial⟩<;>first|rfl|(simp only [bn];done)|(congr 3;omega)|(congr 4;omega)|(simp only [bo];rfl)) (by refine ⟨?_,?_,?_,trivial⟩<;>first|rfl|(simp only [bn];done)|(congr 3;omega)|(congr 4;omega)|(simp only [bo];rfl)) rfl
 rintro ⟨q,m⟩ ⟨hi0_0,hi0_1⟩
 have hml:m.length=w0.length+q:=by rw [hi0_1];simp;omega
 refine ad aa 1 rfl ?_
 refine af ?_
 refine ag rfl (fun hc2=>?_) (fun hc2=>?_)
 ·
  have hc2':=of_decide_eq_true hc2
  refine aP ?_
  refine af ?_
  refine aV ?_
  refine eJ ?_
  obtain ⟨x1,hx1⟩:=cp (xs:=s1.kept) (i:=q) (by first|omega|(simp;done)|(simp;omega))
  refine ay (cU (i:=q) rfl rfl rfl Try.underlying32 mj (by first|omega|(simp;done)|(simp;omega)) (bw hx1)) rfl ?_
  refine ab aa 3 rfl ?_
  refine ae ?_
  refine aw ?_
  refine ab aa 3 rfl ?_
  refine aL 5 [4,3,2,1,0] (dC (ys:=[(0,(.g [(cI x1.number),(cI x1.kind),(cI x1.ba),(cI x1.sum),(cI (-1))]))]) (rows:=([(⟨x1,(-1)⟩:bU)]).map fj) 4 mo rfl (by decide) ⟨⟨rfl,rfl⟩,trivial⟩ rfl rfl rfl rfl) rfl ?_
  refine aL 6 [5,4,3,1,0] (db (m:=1) (N:=m.length+1) (k2:=5) (ys:=([(⟨x1,(-1)⟩:bU)]).map fj) mo rfl rfl rfl rfl rfl rfl (by first|omega|(simp;done)|(simp;omega)) rfl (.s rfl (by first|omega|(simp;done)|(simp;omega))) (by first|omega|(simp;done)|(simp;omega)) (by first|omega|(simp;done)|(simp;omega)) eT (by decide) (by first|omega|(simp;done)|(simp;omega)) (by first|omega|(simp;done)|(simp;omega))) rfl ?_
  refine ab aa 1 rfl ?_
  refine bX ?_
  refine bl ?_
  refine then_ok ?_
  refine aw ?_
  refine ay (aK rfl rfl rfl (aF (by first|omega|(simp;done)|(simp;omega)))) rfl ?_
  refine ab aa 1 rfl ?_
  refine ae ?_
  refine ⟨(q+1,m++([(⟨x1,(-1)⟩:bU)])),⟨by omega,by rw [List.take_add_one,hx1,List.map_append,<-List.append_assoc,<-hi0_1];rfl⟩,by first|omega|(simp;done)|(simp;omega),aD.bZ (fun k=>if k=2 then 5 else k) (by refine ⟨?_,?_,?_,?_,?_,?_,?_,?_,trivial⟩<;>first|rfl|(simp only [bn];done)|(congr 3;omega)|(congr 4;omega)|(simp only [bo];rfl)|(first|exact cA rfl (by omega)|exact gy rfl (by simp only [List.length_append,List.length_cons,List.length_nil];omega))) (by refine ⟨?_,?_,?_,trivial⟩<;>first|rfl|(simp only [bn];done)|(congr 3;omega)|(congr 4;omega)|(simp only [bo];rfl)) rfl⟩
 have hc2':=of_decide_eq_false hc2
 refine cm ?_
 refine aQ ?_
 refine aQ ?_
 refine bO ?_
 refine then_ok ?_
 refine af ?_
 refine bb [0,1,4,5,6,45,46,47] [2,1,0] mixed rfl rfl ?_
 refine aA (kn:=[]) aa 9 rfl trivial ?_
 refine aU (n':=3) [65,62] [0] rfl rfl (.inl ⟨(al.plain rfl),aH.cast (di (i:=1) rfl rfl rfl Try.underlying36 fJ rfl (by decide)) rfl⟩) rfl ?_
 refine aA (kn:=[]) aa 2 rfl trivial ?_
 refine aU (n':=4) [68] [] rfl rfl (.inl ⟨(al.plain rfl),aH.cast (dC (ys:=[(0,(.g [(cI 0),(cI 0),(cI 0),(cI 0),(cI n1)]))]) (rows:=([(⟨(⟨0,0,0,0⟩:aR),n1⟩:bU)]).map fj) 3 mo rfl (by decide) ⟨⟨rfl,rfl⟩,trivial⟩ rfl rfl rfl rfl) rfl⟩) rfl ?_
 refine aU (n':=5) [57,69] [3,2] rfl rfl (.inl ⟨(al.plain rfl),aH.cast (db (m:=1) (N:=m.length+1) (k2:=4) (ys:=([(⟨(⟨0,0,0,0⟩:aR),n1⟩:bU)]).map fj) mo rfl rfl rfl rfl rfl rfl (by first|omega|(simp;done)|(simp;omega)) rfl (.s rfl (by first|omega|(simp;done)|(simp;omega))) (by first|omega|(simp;done)|(simp;omega)) (by first|omega|(simp;done)|(simp;omega)) eT (by decide) (by first|omega|(simp;done)|(simp;omega)) (by first|omega|(simp;done)|(simp;omega))) rfl⟩) rfl ?_
 refine bB [4,1,0] rfl rfl rfl rfl (by kernel_rfl) ?_
 refine ab aa 1 rfl ?_
 refine ae ?_
 refine af ?_
 refine az aa 1 rfl ?_
 refine ay (dp rfl rfl rfl rfl rfl Try.underlying37) rfl ?_
 refine ab aa 1 rfl ?_
 refine ae ?_
 refine ag rfl (fun hc3=>?_) (fun hc3=>?_)
 ·
  have hc3':=of_decide_eq_true hc3
  refine ad aa 2 rfl ?_
  refine ar ?_
  refine ao ?_
  have hX:ez s0 s1 n0 n1 w0 w1 (⟨idn,kind,1,ax,move,sum⟩:aS)=(w0,w1,(⟨5,0⟩:Answer)):=by
    (have ht:s1.kept.take q=s1.kept:=List.take_of_length_le (by omega));rw [ht] at hi0_1;unfold ez;dsimp only;rw [if_neg (by decide),if_pos rfl];unfold ic gw;rw [<-hi0_1];first|rw [if_pos (by simp;omega)]|rw [if_neg (by simp;omega)]
  rw [hX] at hr;clear hX
  simp only [Prod.mk.injEq] at hr;obtain ⟨rfl,rfl,rfl⟩:=hr
  refine ah aa [0,1] 1 rfl rfl rfl rfl rfl rfl ?_ ?_
  all_goals first|rfl|(simp [au,aT,aX];done)|(simp [au,aT,aX];omega)
 have hc3':=of_decide_eq_false hc3
 refine aP ?_
 refine sb (s':=[(0,(aC (.p 0 0 0 0))),(1,(aC (.q (cL (⟨idn,kind,1,ax,move,sum⟩:aS)) 0))),(4,(aC (.p 1 0 0 0))),(5,(aI 0)),(6,(aC (eo (m++([(⟨(⟨0,0,0,0⟩:aR),n1⟩:bU)]))))),(45,(aC (dd s1.kept))),(46,(aI (↑s1.kept.length:Int))),(47,(aI (↑q:Int))),(70,(aC (eo (m++([(⟨(⟨0,0,0,0⟩:aR),n1⟩:bU)]))))),(71,(aC (eo (m++([(⟨(⟨0,0,0,0⟩:aR),n1⟩:bU)]))))),(72,(aI (↑(m.length+1):Int))),(73,(aB (decide ((↑(m.length+1):Int) > 60))))]) (h':=[(1,(.box 65 [(cI 0),(cI 0)])),(0,(.box 98 (((((((((aX x).set 5 (cI s0.bF)).set 6 (dd s0.kept)).set 7 (cI s1.bF)).set 8 (dd s1.kept)).set 9 (cI n0)).set 10 (cI n1)).set 11 (eo w0)).set 12 (eo w1))))]) hF0 4 rfl rfl ⟨⟨_,rfl,.inl ⟨rfl,rfl⟩⟩,⟨_,rfl,.inl ⟨rfl,rfl⟩⟩,⟨_,rfl,.inl ⟨rfl,rfl⟩⟩,⟨_,rfl,.inl ⟨rfl,rfl⟩⟩,⟨_,rfl,.inr ⟨_,_,rfl,rfl,.s rfl (by decide) (by first|omega|(simp;done)|(simp;omega))⟩⟩,⟨_,rfl,.inl ⟨rfl,rfl⟩⟩,⟨_,rfl,.inl ⟨rfl,rfl⟩⟩,⟨_,rfl,.inl ⟨rfl,rfl⟩⟩,⟨_,rfl,.inr ⟨_,_,rfl,rfl,.s rfl (by decide) (by first|omega|(simp;done)|(simp;omega))⟩⟩,⟨_,rfl,.inr ⟨_,_,rfl,rfl,.s rfl (by decide) (by first|omega|(simp;done)|(simp;omega))⟩⟩,⟨_,rfl,.inl ⟨rfl,rfl⟩⟩,⟨_,rfl,.inl ⟨rfl,rfl⟩⟩,trivial⟩ ⟨rfl,rfl,trivial⟩ rfl ?_
 refine az aa 6 rfl ?_
 refine ay (di (i:=0) rfl rfl rfl Try.underlying38 kL rfl (by decide)) rfl ?_
 refine ab aa 1 rfl ?_
 refine ae ?_
 refine ad aa 2 rfl ?_
 refine ar ?_
 have hX:ez s0 s1 n0 n1 w0 w1 (⟨idn,kind,1,ax,move,sum⟩:aS)=(m++([(⟨(⟨0,0,0,0⟩:aR),n1⟩:bU)]),w1,(⟨0,0⟩:Answer)):=by
   (have ht:s1.kept.take q=s1.kept:=List.take_of_length_le (by omega));rw [ht] at hi0_1;unfold ez;dsimp only;rw [if_neg (by decide),if_pos rfl];unfold ic gw;rw [<-hi0_1];first|rw [if_pos (by simp;omega)]|rw [if_neg (by simp;omega)]
 rw [hX] at hr;clear hX
 simp only [Prod.mk.injEq] at hr;obtain ⟨rfl,rfl,rfl⟩:=hr
 refine ah aa [0,1] 1 rfl rfl rfl rfl rfl rfl ?_ ?_
 all_goals first|rfl|(simp [au,aT,aX];done)|(simp [au,aT,aX];omega)
theorem Co (x:Nat->Value) (hx:∀ i,(x i).oneCell'=true) (s0 s1:bP) (n0 n1:Int) (w0 w1:List bU) (d:aS) (l0:w0.length<=60) (l1:w1.length<=60) (m0:s0.kept.length<=40) (m1:s1.kept.length<=40) (hn:¬d.n=0/\¬d.n=1) (v0:List bU) (v1:List bU) (a2:Answer) (hr:ez s0 s1 n0 n1 w0 w1 d=(v0,v1,a2)):cC Try.prog 66 [(.c (.p 0 0 0 0)),(.c (.q (cL d) 0))] [(0,(.box 98 (((((((((aX x).set 5 (cI s0.bF)).set 6 (dd s0.kept)).set 7 (cI s1.bF)).set 8 (dd s1.kept)).set 9 (cI n0)).set 10 (cI n1)).set 11 (eo w0)).set 12 (eo w1))))] [0] (.v (.g [cI a2.err,cI a2.ba])) [(0,(.box 98 (((((((((aX x).set 5 (cI s0.bF)).set 6 (dd s0.kept)).set 7 (cI s1.bF)).set 8 (dd s1.kept)).set 9 (cI n0)).set 10 (cI n1)).set 11 (eo v0)).set 12 (eo v1))))]:=by
 refine cC.Ek 83 [(0,(aC (.p 0 0 0 0))),(1,(aC (.q (cL d) 0)))] 1 Try.func66 rfl rfl rfl rfl rfl rfl rfl rfl rfl ?_
 intro W0 F0 T0 pg hF
 have hF0:∀ b,F0 b->(pg 0).g=b:=fun b hb=>by obtain ⟨k,hk,h⟩:=hF b hb;rw [List.mem_singleton.1 hk] at h;exact h
 refine ad aa 1 rfl ?_
 refine af ?_
 refine cq 20 ((decide (¬d.n=0)) && (decide (¬d.n=1))) ?_ ?_
 ·
  refine aw ?_
  refine ab aa 6 rfl ?_
  refine bA (t:=14) rfl (fun hb1=>?_) (fun hb1=>?_)
  ·
   have hb1':=of_decide_eq_true hb1
   refine ab aa 6 rfl ?_
   refine ae ?_
   exact aD.bD 13 rfl rfl (by first|(simp [hb1];done)|(simp_all;done)|(exfalso;simp_all;done)|(simp_all;omega)) rfl
  have hb1':=of_decide_eq_false hb1
  refine ab aa 6 rfl ?_
  refine ae ?_
  exact aD.bD 13 rfl rfl (by first|(simp [hb1];done)|(simp_all;done)|(exfalso;simp_all;done)|(simp_all;omega)) rfl
 refine ag rfl (fun hc2=>?_) (fun hc2=>?_)
 ·
  have hc2':=hc2;try simp only [bm,bL] at hc2'
  refine ad aa 2 rfl ?_
  refine ar ?_
  refine ao ?_
  have hX:ez s0 s1 n0 n1 w0 w1 d=(w0,w1,(⟨6,0⟩:Answer)):=by
    unfold ez;rw [if_neg hn.1,if_neg hn.2]
  rw [hX] at hr;clear hX
  simp only [Prod.mk.injEq] at hr;obtain ⟨rfl,rfl,rfl⟩:=hr
  refine ah aa [0,1] 1 rfl rfl rfl rfl rfl rfl ?_ ?_
  all_goals first|rfl|(simp [au,aT,aX];done)|(simp [au,aT,aX];omega)
 have hc2':=hc2;try simp only [bm,bL] at hc2'
 (exfalso;simp at *;omega)
theorem Fh (x:Nat->Value) (hx:∀ i,(x i).oneCell'=true) (aO:List aj) (days:List (List Int)) (l0:aO.length<=100) (l1:days.length<=1000) (today2:List aj) (days2:List (List Int)) (a2:Answer) (hr:iT aO days=(today2,days2,a2)):cC Try.prog 69 [(.c (.p 0 0 0 0))] [(0,(.box 98 (((aX x).set 16 (.s 1 0 4 aO.length)).set 17 (.s 2 0 1 days.length)))),(1,(cG aO)),(2,(pZ days))] [0] (.v (.g [cI a2.err,cI a2.ba])) [(0,(.box 98 (((aX x).set 16 (.s 1 0 4 today2.length)).set 17 (.s 2 0 1 days2.length)))),(1,(cG today2)),(2,(pZ days2))]:=by
 refine cC.mk 37 [(0,(aC (.p 0 0 0 0)))] 3 Try.func69 rfl rfl rfl rfl rfl rfl rfl rfl rfl ?_
 intro W0 F0 T0 pg
 refine ad aa 1 rfl ?_
 refine az aa 5 rfl ?_
 obtain ⟨xr0,f0,hr0⟩:∃ (xr0:List Int) (f0:cT),jQ aO=(xr0,f0):=⟨_,_,rfl⟩
 refine Fx (av':=(.t [(.c (DP xr0)),(.g [(cI f0.err),(cI f0.at_)])])) (al.plain rfl) (fO 4 [1] (wS aO (by first|omega|(simp;done)|(simp;omega)) xr0 f0 hr0) GR rfl rfl ⟨⟨_,rfl,.c (.s rfl (by decide) (by first|omega|(simp;done)|(simp;omega)))⟩,trivial⟩ ⟨trivial,⟨rfl,rfl,trivial⟩,trivial⟩ ⟨(Dp _),trivial⟩ rfl rfl rfl rfl) ⟨.inr ⟨_,_,_,_,_,rfl,rfl,rfl,by simp⟩,⟨.inl ⟨_,rfl,rfl⟩,.inl ⟨_,rfl,rfl⟩,trivial⟩,trivial⟩ rfl rfl rfl ?_
 refine ab aa 6 rfl ?_
 refine ae ?_
 refine af ?_
 refine ad aa 3 rfl ?_
 refine ag rfl (fun hc1=>?_) (fun hc1=>?_)
 ·
  have hc1':=of_decide_eq_true hc1
  refine ad aa 4 rfl ?_
  refine ar ?_
  refine ao ?_
  have hX:iT aO days=(aO,days,(⟨f0.err,0⟩:Answer)):=by
    unfold iT;simp only [hr0];(repeat' split)<;>first|rfl|omega|(simp_all;done)
  rw [hX] at hr;clear hX
  simp only [Prod.mk.injEq] at hr;obtain ⟨rfl,rfl,rfl⟩:=hr
  refine ah aa [0,1,2,3] 3 rfl rfl rfl rfl rfl rfl ?_ ?_
  all_goals first|rfl|(simp [au,aT,aX];done)|(simp [au,aT,aX];omega)
 have hc1':=of_decide_eq_false hc1
 refine aP ?_
 refine az aa 7 rfl ?_
 refine aL 6 [5,4,3,0,1,2] (dC (ys:=[(0,(.c (DP xr0)))]) (rows:=([xr0]).map sq) 5 DV rfl (by decide) ⟨⟨rfl,rfl⟩,trivial⟩ rfl rfl rfl rfl) rfl ?_
 refine aL 7 [6,5,4,3,0,1] (db (m:=1) (N:=days.length+1) (k2:=6) (ys:=([xr0]).map sq) DV rfl rfl rfl rfl rfl rfl (by first|omega|(simp;done)|(simp;omega)) rfl (.s rfl (by first|omega|(simp;done)|(simp;omega))) (by first|omega|(simp;done)|(simp;omega)) (by first|omega|(simp;done)|(simp;omega)) eT (by decide) (by first|omega|(simp;done)|(simp;omega)) (by first|omega|(simp;done)|(simp;omega))) rfl ?_
 refine ab aa 4 rfl ?_
 refine ae ?_
 refine fx (k:=0) (q:=17) (c':=(.s 6 0 1 ((days++([xr0])).length))) rfl rfl (by first|rfl|(simp;done)|(congr 1;omega)) rfl ?_
 refine ad aa 5 rfl ?_
 refine ad aa 2 rfl ?_
 refine ar ?_
 refine cf 0 16 83 4 rfl rfl rfl ?_
 have hX:iT aO days=(([]:List aj),days++([xr0]),(⟨0,0⟩:Answer)):=by
   unfold iT;simp only [hr0];(repeat' split)<;>first|rfl|omega|(simp_all;done)
 rw [hX] at hr;clear hX
 simp only [Prod.mk.injEq] at hr;obtain ⟨rfl,rfl,rfl⟩:=hr
 refine ah aa [0,7,6,3] 3 rfl rfl rfl rfl rfl rfl ?_ ?_
 all_goals first|rfl|(simp [au,aT,aX];done)|(simp [au,aT,aX];omega)
end Go.Proofs.Ytegepioggeggaaa.Dev
