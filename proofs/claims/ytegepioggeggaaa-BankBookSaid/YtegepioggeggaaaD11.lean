/- A part of the proof: Sort7, Day1, Day4, Day5, Bank1, Bank2, Bank3, Clones, Bank4, Bank7. No condition. -/
import Derived.Test.YtegepioggeggaaaD10
set_option linter.unusedVariables false
set_option linter.unusedSimpArgs false
set_option maxHeartbeats 4000000
set_option maxRecDepth 100000
namespace Go.Proofs.Ytegepioggeggaaa.Dev
open Go.RowKit

theorem wc (d:List ar) (a b:Int) (fn:FuncId) (bn:List (List D)) (hp:∀ x y:ar,Fn Try.prog fn ([.g [cI x.aE,cI x.bd,cI x.kind,cI x.sum],.g [cI y.aE,cI y.bd,cI y.kind,cI y.sum]]++bn.map fun r=>GV.c (.q r 0)) (aI (ic x y)) []) (hen:bo Try.prog fn) (h1:b<=a+1) (h2:0<=a/\a<=9223372036854775806):Fn Try.prog 72 [(.c (eG d)),(.c (cI a)),(.c (cI b)),(.c (.d (.f fn bn)))] (.t []) []:=by
 refine Fn.mk' 53 [(0,(aC (eG d))),(1,(aI a)),(2,(aI b)),(3,(aC (.d (.f fn bn))))] Try.func72 rfl rfl rfl rfl ?_
 intro W0 T0
 refine dq 0 rfl (fun hlen0=>?_)
 refine aH aa 1 rfl ?_
 refine az (aK rfl rfl rfl (aL (by first|omega|(simp;done)|(simp;omega)))) rfl ?_
 refine ad aa 1 rfl ?_
 refine af ?_
 refine aR ?_
 refine ch (β:=Nat) (fun (z:Nat)=>⟨[(0,(aC (eG d))),(1,(aI a)),(2,(aI b)),(3,(aC (.d (.f fn bn)))),(8,(aI (a+1)))],[],0⟩) (fun (z:Nat)=>True) (fun (z:Nat)=>0) 0 ?_ ?_ ?_
 ·trivial
 ·exact aF.bL id (by refine ⟨?_,?_,?_,?_,?_,trivial⟩<;>first|rfl|(simp only [ba];done)|(congr 3;omega)|(congr 4;omega)|(simp only [bb];rfl)) (trivial) rfl
 rintro z _
 refine ag ?_
 refine ae aa 3 rfl ?_
 refine aj rfl (fun hc1=>?_) (fun hc1=>?_)
 ·
  have hc1':=of_decide_eq_true hc1
  exfalso;omega
 have hc1':=of_decide_eq_false hc1
 refine bT ?_
 refine aN ?_
 refine aN ?_
 refine bA ?_
 refine cP aa [] 0 rfl rfl rfl rfl rfl rfl ?_ ?_
 all_goals first|rfl|(simp [aD];done)|(simp [aD];omega)
theorem AN (d:List ar) (n:Int) (fn:FuncId) (bn:List (List D)) (hp:∀ x y:ar,Fn Try.prog fn ([.g [cI x.aE,cI x.bd,cI x.kind,cI x.sum],.g [cI y.aE,cI y.bd,cI y.kind,cI y.sum]]++bn.map fun r=>GV.c (.q r 0)) (aI (ic x y)) []) (hen:bo Try.prog fn) (h:n=0):Fn Try.prog 61 [(.c (eG d)),(.c (cI n)),(.c (.d (.f fn bn)))] (.t []) []:=by
 refine Fn.mk' 63 [(0,(aC (eG d))),(1,(aI n)),(2,(aC (.d (.f fn bn))))] Try.func61 rfl rfl rfl rfl ?_
 intro W0 T0
 refine dq 0 rfl (fun hlen0=>?_)
 refine ae aa 1 rfl ?_
 refine ae aa 3 rfl ?_
 refine ag ?_
 refine aR ?_
 refine ch (β:=Nat) (fun (z:Nat)=>⟨[(0,(aC (eG d))),(1,(aI n)),(2,(aC (.d (.f fn bn)))),(6,(aI 20)),(7,(aI 0)),(8,(aI 20))],[],0⟩) (fun (z:Nat)=>True) (fun (z:Nat)=>0) 0 ?_ ?_ ?_
 ·trivial
 ·exact aF.bL id (by refine ⟨?_,?_,?_,?_,?_,?_,trivial⟩<;>first|rfl|(simp only [ba];done)|(congr 3;omega)|(congr 4;omega)|(simp only [bb];rfl)) (trivial) rfl
 rintro z _
 refine ag ?_
 refine ae aa 3 rfl ?_
 refine aj rfl (fun hc1=>?_) (fun hc1=>?_)
 ·
  have hc1':=of_decide_eq_true hc1
  exfalso;omega
 have hc1':=of_decide_eq_false hc1
 refine bT ?_
 refine aN ?_
 refine aN ?_
 refine bA ?_
 refine then_ok ?_
 refine aH aa 4 rfl ?_
 refine aT 0 [] (bU 0 (wc d 0 n fn bn hp hen (by first|omega|(simp;done)|(simp;omega)) (by first|omega|(simp;done)|(simp;omega))) Cd rfl rfl ⟨⟨_,rfl,.c (.d _)⟩,⟨_,rfl,.c (.d _)⟩,⟨_,rfl,.c (.d _)⟩,⟨_,rfl,.c (.d _)⟩,trivial⟩ trivial trivial rfl rfl rfl rfl) rfl ?_
 refine af ?_
 refine aR ?_
 refine ch (β:=Nat) (fun (z:Nat)=>⟨[(0,(aC (eG d))),(1,(aI n)),(2,(aC (.d (.f fn bn)))),(6,(aI 20))],[],0⟩) (fun (z:Nat)=>True) (fun (z:Nat)=>0) 0 ?_ ?_ ?_
 ·trivial
 ·exact aF.bL id (by refine ⟨?_,?_,?_,?_,trivial⟩<;>first|rfl|(simp only [ba];done)|(congr 3;omega)|(congr 4;omega)|(simp only [bb];rfl)) (trivial) rfl
 rintro z _
 refine ag ?_
 refine ae aa 3 rfl ?_
 refine aj rfl (fun hc2=>?_) (fun hc2=>?_)
 ·
  have hc2':=of_decide_eq_true hc2
  exfalso;omega
 have hc2':=of_decide_eq_false hc2
 refine bT ?_
 refine aN ?_
 refine aN ?_
 refine bA ?_
 refine cP aa [] 0 rfl rfl rfl rfl rfl rfl ?_ ?_
 all_goals first|rfl|(simp [aD];done)|(simp [aD];omega)
theorem uB (d:List ar) (fn:FuncId) (bn:List (List D)) (hp:∀ x y:ar,Fn Try.prog fn ([.g [cI x.aE,cI x.bd,cI x.kind,cI x.sum],.g [cI y.aE,cI y.bd,cI y.kind,cI y.sum]]++bn.map fun r=>GV.c (.q r 0)) (aI (ic x y)) []) (hen:bo Try.prog fn) (h:d.length=0):Fn Try.prog 55 [(.c (eG d)),(.c (.d (.f fn bn)))] (.t []) []:=by
 refine Fn.mk' 9 [(0,(aC (eG d))),(1,(aC (.d (.f fn bn))))] Try.func55 rfl rfl rfl rfl ?_
 intro W0 T0
 refine dq 0 rfl (fun hlen0=>?_)
 refine aw ?_
 refine ad aa 2 rfl ?_
 refine az (bP rfl rfl rfl rfl rfl Try.underlying42) rfl ?_
 refine ad aa 1 rfl ?_
 refine aT 0 [] (bU 0 (AN d (↑d.length:Int) fn bn hp hen (by first|omega|(simp;done)|(simp;omega))) EN rfl rfl ⟨⟨_,rfl,.c (.d _)⟩,⟨_,rfl,.c (.d _)⟩,⟨_,rfl,.c (.d _)⟩,trivial⟩ trivial trivial rfl rfl rfl rfl) rfl ?_
 refine cf ?_
 refine cP aa [] 0 rfl rfl rfl rfl rfl rfl ?_ ?_
 all_goals first|rfl|(simp [aD];done)|(simp [aD];omega)
theorem wk (d:List ar) (N:Nat) (fn:FuncId) (bn:List (List D)) (hp:∀ x y:ar,Fn Try.prog fn ([.g [cI x.aE,cI x.bd,cI x.kind,cI x.sum],.g [cI y.aE,cI y.bd,cI y.kind,cI y.sum]]++bn.map fun r=>GV.c (.q r 0)) (aI (ic x y)) []) (hen:bo Try.prog fn) (hl:d.length * 32<=140737488355328) (hN:N=d.length) (h0_:0 < d.length) (r:List ar) (hr:gH d=r):cM Try.prog 55 [(.c (.s 0 0 4 N)),(.c (.d (.f fn bn)))] [(0,(cT d))] [0] (.t []) [(0,(cT r))]:=by
 refine cM.mk 9 [(0,(aC (.s 0 0 4 N))),(1,(aC (.d (.f fn bn))))] 1 Try.func55 rfl rfl rfl rfl rfl rfl rfl rfl rfl ?_
 intro W0 F0 T0 pg
 refine gD 0 rfl (fun hlen0=>?_)
 refine aw ?_
 refine ad aa 2 rfl ?_
 refine az (dy rfl rfl rfl rfl rfl Try.underlying42) rfl ?_
 refine ad aa 1 rfl ?_
 obtain ⟨r0,hr0⟩:∃ (r0:List ar),gH d=r0:=⟨_,rfl⟩
 refine aT 1 [0] (dU id id (AM (↑N:Int) d N N fn bn hp hen (by first|omega|(simp;done)|(simp;omega)) (by first|omega|(simp;done)|(simp;omega)) (by first|omega|(simp;done)|(simp;omega)) (by first|omega|(simp;done)|(simp;omega)) (by first|omega|(simp;done)|(simp;omega)) r0 hr0) EN rfl rfl ⟨⟨_,rfl,.inl ⟨rfl,rfl⟩⟩,⟨_,rfl,.inr (.c (.d _))⟩,⟨_,rfl,.inr (.c (.d _))⟩,trivial⟩ ⟨rfl,trivial⟩ rfl rfl ⟨.inr ⟨_,_,_,rfl,by first|(simp;omega)|(simp only [List.length_map];omega)⟩,trivial⟩ rfl rfl rfl trivial ⟨(fun _ _ _ _=>trivial),trivial⟩ rfl rfl rfl rfl) rfl ?_
 refine cf ?_
 have hX:gH d=r0:=by
   exact hr0
 rw [hX] at hr;clear hX
 subst hr
 refine cP aa [0] 1 rfl rfl rfl rfl rfl rfl ?_ ?_
 all_goals first|rfl|(simp [aD];done)|(simp [aD];omega)
theorem Cv (l:List ar) (hl:l.length * 32<=140737488355328) (r:List ar) (hr:gH l=r):Fn Try.prog 37 [(.c (eG l))] (.v (.c (.s 0 0 4 r.length))) [(0,(cT r))]:=by
 refine Fn.mk' 9 [(0,(aC (eG l)))] Try.func37 rfl rfl rfl rfl ?_
 intro W0 T0
 refine dq 0 rfl (fun hlen0=>?_)
 refine ae aa 1 rfl ?_
 refine aH aa 1 rfl ?_
 refine aT 1 [0] (bU 0 (mZ l (by first|omega|(simp;done)|(simp;omega))) EP rfl rfl ⟨⟨_,rfl,.c (.d _)⟩,trivial⟩ trivial ⟨(fun _ _ _ _=>trivial),trivial⟩ rfl rfl rfl rfl) rfl ?_
 refine ad aa 1 rfl ?_
 refine af ?_
 rcases (show l.length=0\/0 < l.length from by omega) with hs1|hs1
 ·
  refine aH aa 1 rfl ?_
  refine aT 1 [0] (ga 1 [0] (uB l 53 ([]) (fun x y=>xR x y) ER (by first|omega|(simp;done)|(simp;omega))) EO rfl rfl ⟨⟨_,rfl,.c (.s rfl (by decide) (by first|omega|(simp;done)|(simp;omega)))⟩,⟨_,rfl,.c (.fn trivial)⟩,trivial⟩ trivial trivial rfl rfl rfl rfl) rfl ?_
  refine af ?_
  refine ae aa 2 rfl ?_
  refine aA ?_
  have hX:gH l=l:=by
    exact zI (by assumption)
  rw [hX] at hr;clear hX
  subst hr
  refine aq aa [0] 1 rfl rfl rfl rfl rfl rfl ?_ ?_
  all_goals first|rfl|(simp [aD];done)|(simp [aD];omega)
 refine aH aa 1 rfl ?_
 obtain ⟨r0,hr0⟩:∃ (r0:List ar),gH l=r0:=⟨_,rfl⟩
 have hlr0:r0.length=l.length:=by rw [<-hr0];exact tq _
 refine aT 1 [0] (dU id id (wk l l.length 53 ([]) (fun x y=>xR x y) ER (by first|omega|(simp;done)|(simp;omega)) (by first|omega|(simp;done)|(simp;omega)) (by first|omega|(simp;done)|(simp;omega)) r0 hr0) EO rfl rfl ⟨⟨_,rfl,.inl ⟨rfl,rfl⟩⟩,⟨_,rfl,.inr (.c (.fn trivial))⟩,trivial⟩ ⟨rfl,trivial⟩ rfl rfl ⟨.inr ⟨_,_,_,rfl,by first|(simp;omega)|(simp only [List.length_map];omega)⟩,trivial⟩ rfl rfl rfl trivial ⟨(fun _ _ _ _=>trivial),trivial⟩ rfl rfl rfl rfl) rfl ?_
 refine af ?_
 refine ae aa 2 rfl ?_
 refine aA ?_
 have hX:gH l=r0:=by
   exact hr0
 rw [hX] at hr;clear hX
 subst hr
 refine aq aa [0] 1 rfl rfl rfl rfl rfl rfl ?_ ?_
 all_goals first|rfl|(simp [aD];done)|(simp [aD];omega)

theorem wW (l:List ar) (f:dc) (hr:gE l=f):Fn Try.prog 31 [(.c (eG l))] (.v (.g [(cI f.err),(cI f.at_)])) []:=by
 refine Fn.mk' 58 [(0,(aC (eG l)))] Try.func31 rfl rfl rfl rfl ?_
 intro W0 T0
 refine dq 0 rfl (fun hlen0=>?_)
 refine ae aa 1 rfl ?_
 refine ag ?_
 refine aH aa 1 rfl ?_
 refine az (bP rfl rfl rfl rfl rfl Try.underlying42) rfl ?_
 refine ad aa 1 rfl ?_
 refine af ?_
 refine aj rfl (fun hc1=>?_) (fun hc1=>?_)
 ·
  have hc1':=of_decide_eq_true hc1
  refine ae aa 2 rfl ?_
  refine aA ?_
  refine ax ?_
  have hX:gE l=(⟨5,0⟩:dc):=by
    unfold gE;rw [if_pos (by omega)]
  rw [hX] at hr;clear hX
  subst hr
  refine aq aa [0] 0 rfl rfl rfl rfl rfl rfl ?_ ?_
  all_goals first|rfl|(simp [aD];done)|(simp [aD];omega)
 have hc1':=of_decide_eq_false hc1
 refine aQ ?_
 refine ag ?_
 refine aH aa 1 rfl ?_
 refine az (bP rfl rfl rfl rfl rfl Try.underlying42) rfl ?_
 refine ad aa 1 rfl ?_
 refine af ?_
 refine aR ?_
 refine ch (β:=Nat) (fun (q:Nat)=>⟨[(2,(aC (.p 0 0 0 0))),(9,(aC (eG l))),(10,(aI (↑l.length:Int))),(11,(aI (↑q:Int)))],[(0,(.box 50 [(cI 0),(cI 0)]))],1⟩) (fun (q:Nat)=>q<=l.length/\mG l 0=mG (l.drop q) q) (fun (q:Nat)=>l.length - q) 0 ?_ ?_ ?_
 ·exact ⟨by omega,rfl⟩
 ·exact aF.bL id (by refine ⟨?_,?_,?_,?_,trivial⟩<;>first|rfl|(simp only [ba];done)|(congr 3;omega)|(congr 4;omega)|(simp only [bb];rfl)) (⟨by first|rfl|(simp only [ba];done)|(congr 3;omega)|(congr 4;omega)|(simp only [bb];rfl),trivial⟩) rfl
 rintro q ⟨hi0_0,hi0_1⟩
 refine ae aa 1 rfl ?_
 refine ag ?_
 refine aj rfl (fun hc2=>?_) (fun hc2=>?_)
 ·
  have hc2':=of_decide_eq_true hc2
  refine aQ ?_
  refine ag ?_
  refine aR ?_
  refine aH aa 1 rfl ?_
  obtain ⟨x1,hx1⟩:=cg (xs:=l) (i:=q) (by first|omega|(simp;done)|(simp;omega))
  refine az (bX (i:=q) rfl rfl rfl Try.underlying42 dv (by first|omega|(simp;done)|(simp;omega)) (bj hx1)) rfl ?_
  refine ad aa 4 rfl ?_
  refine af ?_
  refine ag ?_
  refine cr 23 ((decide (x1.kind < 1))||(decide (x1.kind > 8))) ?_ ?_
  ·
   refine aw ?_
   refine ad aa 4 rfl ?_
   refine bK (t:=19) rfl (fun hb3=>?_) (fun hb3=>?_)
   ·
    have hb3':=of_decide_eq_true hb3
    refine ad aa 4 rfl ?_
    refine af ?_
    exact aF.bF 9 rfl rfl (by first|(simp [hb3];done)|(simp_all;done)|(exfalso;simp_all;done)|(simp_all;omega)) rfl
   have hb3':=of_decide_eq_false hb3
   refine ad aa 4 rfl ?_
   refine af ?_
   exact aF.bF 9 rfl rfl (by first|(simp [hb3];done)|(simp_all;done)|(exfalso;simp_all;done)|(simp_all;omega)) rfl
  refine aj rfl (fun hc4=>?_) (fun hc4=>?_)
  ·
   have hc4':=hc4;try simp only [bx,bV] at hc4'
   refine ae aa 3 rfl ?_
   refine aA ?_
   refine ax ?_
   refine bp ?_
   refine ax ?_
   refine ax ?_
   refine bp ?_
   refine ax ?_
   have hX:gE l=(⟨1,(↑q:Int)⟩:dc):=by
     unfold gE;rw [if_neg (by omega),hi0_1,oO hx1,if_pos (by unfold mI;omega)]
   rw [hX] at hr;clear hX
   subst hr
   refine aq aa [0] 0 rfl rfl rfl rfl rfl rfl ?_ ?_
   all_goals first|rfl|(simp [aD];done)|(simp [aD];omega)
  have hc4':=hc4;try simp only [bx,bV] at hc4'
  refine aQ ?_
  refine cr 53 ((((((decide (x1.aE < 0))||(decide (x1.aE>=8)))||(decide (x1.bd < 0)))||(decide (x1.bd>=30)))||(decide (x1.sum < 1)))||(decide (x1.sum > 1000000))) ?_ ?_
  ·
   refine aw ?_
   refine ad aa 4 rfl ?_
   refine bK (t:=29) rfl (fun hb5=>?_) (fun hb5=>?_)
   ·
    have hb5':=of_decide_eq_true hb5
    refine ad aa 24 rfl ?_
    refine af ?_
    exact aF.bF 29 rfl rfl (by first|(simp [hb5];done)|(simp_all;done)|(exfalso;simp_all;done)|(simp_all;omega)) rfl
   have hb5':=of_decide_eq_false hb5
   refine ad aa 5 rfl ?_
   refine bK (t:=34) rfl (fun hb6=>?_) (fun hb6=>?_)
   ·
    have hb6':=of_decide_eq_true hb6
    refine ad aa 19 rfl ?_
    refine af ?_
    exact aF.bF 30 rfl rfl (by first|(simp [hb5,hb6];done)|(simp_all;done)|(exfalso;simp_all;done)|(simp_all;omega)) rfl
   have hb6':=of_decide_eq_false hb6
   refine ad aa 5 rfl ?_
   refine bK (t:=39) rfl (fun hb7=>?_) (fun hb7=>?_)
   ·
    have hb7':=of_decide_eq_true hb7
    refine ad aa 14 rfl ?_
    refine af ?_
    exact aF.bF 31 rfl rfl (by first|(simp [hb5,hb6,hb7];done)|(simp_all;done)|(exfalso;simp_all;done)|(simp_all;omega)) rfl
   have hb7':=of_decide_eq_false hb7
   refine ad aa 5 rfl ?_
   refine bK (t:=44) rfl (fun hb8=>?_) (fun hb8=>?_)
   ·
    have hb8':=of_decide_eq_true hb8
    refine ad aa 9 rfl ?_
    refine af ?_
    exact aF.bF 32 rfl rfl (by first|(simp [hb5,hb6,hb7,hb8];done)|(simp_all;done)|(exfalso;simp_all;done)|(simp_all;omega)) rfl
   have hb8':=of_decide_eq_false hb8
   refine ad aa 5 rfl ?_
   refine bK (t:=49) rfl (fun hb9=>?_) (fun hb9=>?_)
   ·
    have hb9':=of_decide_eq_true hb9
    refine ad aa 4 rfl ?_
    refine af ?_
    exact aF.bF 33 rfl rfl (by first|(simp [hb5,hb6,hb7,hb8,hb9];done)|(simp_all;done)|(exfalso;simp_all;done)|(simp_all;omega)) rfl
   have hb9':=of_decide_eq_false hb9
   refine ad aa 4 rfl ?_
   refine af ?_
   exact aF.bF 33 rfl rfl (by first|(simp [hb5,hb6,hb7,hb8,hb9];done)|(simp_all;done)|(exfalso;simp_all;done)|(simp_all;omega)) rfl
  refine aj rfl (fun hc10=>?_) (fun hc10=>?_)
  ·
   have hc10':=hc10;try simp only [bx,bV] at hc10'
   refine ae aa 3 rfl ?_
   refine aA ?_
   refine bp ?_
   refine ax ?_
   refine ax ?_
   refine bp ?_
   refine ax ?_
   have hX:gE l=(⟨3,(↑q:Int)⟩:dc):=by
     unfold gE;rw [if_neg (by omega),hi0_1,oO hx1,if_neg (by unfold mI;omega),if_pos (by unfold od;omega)]
   rw [hX] at hr;clear hX
   subst hr
   refine aq aa [0] 0 rfl rfl rfl rfl rfl rfl ?_ ?_
   all_goals first|rfl|(simp [aD];done)|(simp [aD];omega)
  have hc10':=hc10;try simp only [bx,bV] at hc10'
  refine cE ?_
  refine bf ?_
  refine then_ok ?_
  refine aw ?_
  refine az (aK rfl rfl rfl (aL (by first|omega|(simp;done)|(simp;omega)))) rfl ?_
  refine ad aa 1 rfl ?_
  refine af ?_
  refine ⟨q+1,⟨by omega,by rw [hi0_1,oO hx1,if_neg (by unfold mI;omega),if_neg (by unfold od;omega)]⟩,by first|omega|(simp;done)|(simp;omega),aF.bL id (by refine ⟨?_,?_,?_,?_,trivial⟩<;>first|rfl|(simp only [ba];done)|(congr 3;omega)|(congr 4;omega)|(simp only [bb];rfl)) (⟨by first|rfl|(simp only [ba];done)|(congr 3;omega)|(congr 4;omega)|(simp only [bb];rfl),trivial⟩) rfl⟩
 have hc2':=of_decide_eq_false hc2
 refine bT ?_
 refine aN ?_
 refine aN ?_
 refine bA ?_
 refine then_ok ?_
 refine ae aa 2 rfl ?_
 refine aA ?_
 have hX:gE l=(⟨0,0⟩:dc):=by
   unfold gE;rw [if_neg (by omega),hi0_1,zR (by omega)]
 rw [hX] at hr;clear hX
 subst hr
 refine aq aa [0] 0 rfl rfl rfl rfl rfl rfl ?_ ?_
 all_goals first|rfl|(simp [aD];done)|(simp [aD];omega)

theorem ug (b:List Int) (N:Nat) (n:Int) (z:Nat) (hN:N=b.length) (hz:z<=8) (hl:b.length+z<=1000000) (r:List Int) (hr:b++mu n z=r):cM Try.prog 109 [(.c (.s 0 0 1 N)),(.c (cI n)),(.c (cI (↑z:Int)))] [(0,(xY b))] [] (.v (.c (.s 0 0 1 r.length))) [(0,(xY r))]:=by
 refine cM.mk 23 [(0,(aC (.s 0 0 1 N))),(1,(aI n)),(2,(aI (↑z:Int)))] 1 Try.func109 rfl rfl rfl rfl rfl rfl rfl rfl rfl ?_
 intro W0 F0 T0 pg
 refine gD 0 rfl (fun hlen0=>?_)
 refine ae aa 1 rfl ?_
 refine ag ?_
 refine aH aa 1 rfl ?_
 refine az (aK rfl rfl rfl (aL (by first|omega|(simp;done)|(simp;omega)))) rfl ?_
 refine ad aa 1 rfl ?_
 refine af ?_
 refine aR ?_
 refine ch (β:=Nat×List Int) (fun (p:Nat×List Int)=>match p with|(k,m)=>⟨[(0,(aC (.s 0 0 1 m.length))),(1,(aI n)),(6,(aC cN)),(7,(aI ((↑k:Int) - 1)))],[(0,(xY m))],1⟩) (fun (p:Nat×List Int)=>match p with|(k,m)=>k<=z/\m++mu n k=b++mu n z/\m.length+k=b.length+z) (fun (p:Nat×List Int)=>match p with|(k,m)=>k) (z,b) ?_ ?_ ?_
 ·exact ⟨by omega,rfl,rfl⟩
 ·exact aF.bL id (by refine ⟨?_,?_,?_,?_,trivial⟩<;>first|rfl|(simp only [ba];done)|(congr 3;omega)|(congr 4;omega)|(simp only [bb];rfl)|(first|exact cL rfl (by omega)|exact oS rfl (by omega))) (⟨by first|rfl|(simp only [ba];done)|(congr 3;omega)|(congr 4;omega)|(simp only [bb];rfl),trivial⟩) rfl
 rintro ⟨k,m⟩ ⟨hi0_0,hi0_1,hi0_2⟩
 refine ag ?_
 refine ae aa 2 rfl ?_
 refine aj rfl (fun hc1=>?_) (fun hc1=>?_)
 ·
  have hc1':=of_decide_eq_true hc1
  refine aQ ?_
  refine ag ?_
  refine aR ?_
  refine aw ?_
  refine ad aa 3 rfl ?_
  refine az (aK rfl rfl rfl (aL (by first|omega|(simp;done)|(simp;omega)))) rfl ?_
  refine az (El rfl rfl rfl (by first|omega|(simp;done)|(simp;omega)) rfl (GN (k:=k) (by omega) rfl)) rfl ?_
  refine az (fy rfl rfl (by rw [Try.underlying3];rfl) Try.underlying5 mY) rfl ?_
  refine aT 2 [1,0] (ec (ys:=[(0,(.c (.d (.v (.int .u8 ((n / 256 ^ (k - 1)) % 256))))))]) (rows:=([(n / 256 ^ (k - 1)) % 256]).map lj) 1 uX rfl (by decide) ⟨⟨rfl,rfl⟩,trivial⟩ rfl rfl rfl rfl) rfl ?_
  refine aT 3 [2,1] (dE (m:=1) (N:=m.length+1) (k2:=2) (ys:=([(n / 256 ^ (k - 1)) % 256]).map lj) uX rfl rfl rfl rfl rfl rfl (by first|omega|(simp;done)|(simp;omega)) rfl (.s rfl (by first|omega|(simp;done)|(simp;omega))) (by first|omega|(simp;done)|(simp;omega)) (by first|omega|(simp;done)|(simp;omega)) fM (by decide) (by first|omega|(simp;done)|(simp;omega)) (by first|omega|(simp;done)|(simp;omega))) rfl ?_
  refine ad aa 1 rfl ?_
  refine cf ?_
  refine bf ?_
  refine then_ok ?_
  refine aw ?_
  refine ad aa 1 rfl ?_
  refine az (aK rfl rfl rfl (aL (by first|omega|(simp;done)|(simp;omega)))) rfl ?_
  refine ad aa 1 rfl ?_
  refine af ?_
  refine ⟨(k - 1,m++([(n / 256 ^ (k - 1)) % 256])),⟨by omega,by rw [<-hi0_1,Cw (k:=k) (by omega),List.append_assoc];rfl,by simp only [List.length_append,List.length_cons,List.length_nil];omega⟩,by first|omega|(simp;done)|(simp;omega),aF.bL (fun k=>if k=0 then 2 else k) (by refine ⟨?_,?_,?_,?_,trivial⟩<;>first|rfl|(simp only [ba];done)|(congr 3;omega)|(congr 4;omega)|(simp only [bb];rfl)|(first|exact cL rfl (by omega)|exact oS rfl (by simp only [List.length_append,List.length_cons,List.length_nil];omega))) (⟨by first|rfl|(simp only [ba];done)|(congr 3;omega)|(congr 4;omega)|(simp only [bb];rfl),trivial⟩) rfl⟩
 have hc1':=of_decide_eq_false hc1
 refine bT ?_
 refine aN ?_
 refine aN ?_
 refine bA ?_
 refine then_ok ?_
 refine ae aa 2 rfl ?_
 refine aA ?_
 have hX:b++mu n z=m:=by
   (obtain rfl:k=0:=by omega);rw [<-hi0_1];simp [mu]
 rw [hX] at hr;clear hX
 subst hr
 refine aq aa [0] 1 rfl rfl rfl rfl rfl rfl ?_ ?_
 all_goals first|rfl|(simp [aD];done)|(simp [aD];omega)

theorem wX (l:List ar) (hl:l.length * 32<=140737488355328) (x:List Int) (f:dc) (hr:kf l=(x,f)):Fn Try.prog 92 [(.c (eG l))] (.t [(.c (.s 0 0 1 x.length)),(.g [(cI f.err),(cI f.at_)])]) [(0,(xY x))]:=by
 refine Fn.mk' 50 [(0,(aC (eG l)))] Try.func92 rfl rfl rfl rfl ?_
 intro W0 T0
 refine dq 0 rfl (fun hlen0=>?_)
 refine ae aa 2 rfl ?_
 refine ag ?_
 refine aH aa 1 rfl ?_
 obtain ⟨f0,hr0⟩:∃ (f0:dc),gE l=f0:=⟨_,rfl⟩
 refine aT 1 [0] (bU 1 (wW l f0 hr0) HD rfl rfl ⟨⟨_,rfl,.c (.d _)⟩,trivial⟩ ⟨trivial,trivial,trivial⟩ trivial rfl rfl rfl rfl) rfl ?_
 refine ad aa 2 rfl ?_
 refine af ?_
 refine ae aa 3 rfl ?_
 refine aj rfl (fun hc1=>?_) (fun hc1=>?_)
 ·
  have hc1':=of_decide_eq_true hc1
  refine ag ?_
  refine aX [0,3,4] [1,0] mixed rfl rfl ?_
  refine ay (kn:=[]) aa 2 rfl trivial ?_
  refine bw [1,0] rfl rfl rfl rfl (by kernel_rfl) ?_
  refine ad aa 1 rfl ?_
  refine af ?_
  refine aA ?_
  refine ax ?_
  refine dh (aF.nil 2 5 1 (by decide) rfl) ?_
  have hX:kf l=(([]:List Int),f0):=by
    unfold kf;rw [if_neg (by rw [hr0];omega),hr0]
  rw [hX] at hr;clear hX
  simp only [Prod.mk.injEq] at hr;obtain ⟨rfl,rfl⟩:=hr
  refine aq aa [2,0] 1 rfl rfl rfl rfl rfl rfl ?_ ?_
  all_goals first|rfl|(simp [aD];done)|(simp [aD];omega)
 have hc1':=of_decide_eq_false hc1
 refine aQ ?_
 have hw:(gE l).err=0:=by rw [hr0];omega
 have hok:=zo.1 hw
 refine aH aa 1 rfl ?_
 refine az (bP rfl rfl rfl rfl rfl Try.underlying42) rfl ?_
 refine az (fy rfl rfl (by rw [Try.underlying3];rfl) Try.underlying5 mY) rfl ?_
 refine aT 3 [2,1,0] (ec (ys:=[(0,(.c (.d (.v (.int .u8 ((↑l.length:Int) % 256))))))]) (rows:=([(↑l.length:Int) % 256]).map lj) 2 uX rfl (by decide) ⟨⟨rfl,rfl⟩,trivial⟩ rfl rfl rfl rfl) rfl ?_
 refine ad aa 1 rfl ?_
 refine af ?_
 refine ae aa 1 rfl ?_
 refine ag ?_
 refine aH aa 1 rfl ?_
 obtain ⟨r1,hr1⟩:∃ (r1:List ar),gH l=r1:=⟨_,rfl⟩
 have hlr:r1.length=l.length:=by rw [<-hr1];exact tq _
 have hrok:∀ x∈r1,xx x:=fun x hx=>hok.2 x ((nr l).mem.2 (by rw [hr1];exact hx))
 refine aT 4 [3,2,1,0] (bU 3 (Cv l (by first|omega|(simp;done)|(simp;omega)) r1 hr1) HA rfl rfl ⟨⟨_,rfl,.c (.d _)⟩,trivial⟩ trivial ⟨(fun _ _ _ _=>trivial),trivial⟩ rfl rfl rfl rfl) rfl ?_
 refine az (dy rfl rfl rfl rfl rfl Try.underlying42) rfl ?_
 refine ad aa 1 rfl ?_
 refine af ?_
 refine aR ?_
 refine ch (β:=Nat×List Int×Int) (fun (p:Nat×List Int×Int)=>match p with|(q,m,all)=>⟨[(2,(aC cN)),(3,(aC (.p 0 0 0 0))),(5,(aC (.s 2 0 1 m.length))),(6,(aI all)),(20,(aC (.s 3 0 4 r1.length))),(21,(aI (↑r1.length:Int))),(22,(aI (↑q:Int)))],[(3,(cT r1)),(2,(xY m)),(0,(.box 50 [(cI 0),(cI 0)]))],4⟩) (fun (p:Nat×List Int×Int)=>match p with|(q,m,all)=>q<=r1.length/\m=mn l (r1.take q)/\all=lK (r1.take q)/\0<=all/\all<=1000000 * (q:Int)) (fun (p:Nat×List Int×Int)=>match p with|(q,m,all)=>r1.length - q) (0,[(↑l.length:Int) % 256],0) ?_ ?_ ?_
 ·exact ⟨by omega,by simp [mn],rfl,by omega⟩
 ·exact aF.bL id (by refine ⟨?_,?_,?_,?_,?_,?_,?_,trivial⟩<;>first|rfl|(simp only [ba];done)|(congr 3;omega)|(congr 4;omega)|(simp only [bb];rfl)) (by refine ⟨?_,?_,?_,trivial⟩<;>first|rfl|(simp only [ba];done)|(congr 3;omega)|(congr 4;omega)|(simp only [bb];rfl)) rfl
 rintro ⟨q,m,all⟩ ⟨hi0_0,hi0_1,hi0_2,hi0_3⟩
 have hml:m.length=1+6 * q:=by rw [hi0_1,Ap,List.length_take];omega
 refine ae aa 1 rfl ?_
 refine ag ?_
 refine aj rfl (fun hc2=>?_) (fun hc2=>?_)
 ·
  have hc2':=of_decide_eq_true hc2
  refine aQ ?_
  refine ag ?_
  refine aR ?_
  refine eK ?_
  refine az (bz (i:=q) rfl rfl rfl Try.underlying42 dv (by first|omega|(simp;done)|(simp;omega)) (by first|omega|(simp;done)|(simp;omega))) rfl ?_
  obtain ⟨x1,hx1⟩:=cg (xs:=r1) (i:=q) (by first|omega|(simp;done)|(simp;omega))
  have hx1b:=FH (hrok x1 (List.mem_of_getElem? hx1))
  refine az (dr rfl rfl rfl Try.underlying83 rfl dv (bj hx1) rfl) rfl ?_
  refine ad aa 2 rfl ?_
  refine af ?_
  refine ag ?_
  obtain ⟨r2,hr2⟩:∃ (r2:List Int),(m++([x1.aE % 256,x1.bd % 256,x1.kind % 256]))++mu x1.sum 3=r2:=⟨_,rfl⟩
  have hlr2:r2.length=m.length+6:=by rw [<-hr2];simp [pR]
  refine aX [2,3,5,6,20,21,22,8] [4,3,2,0] mixed rfl rfl ?_
  refine ay (kn:=[]) aa 3 rfl trivial ?_
  refine aP (n':=5) [28] [] rfl rfl (.inl ⟨(ah.plain rfl),aJ.cast (fy rfl rfl (by rw [Try.underlying3];rfl) Try.underlying5 mY) rfl⟩) rfl ?_
  refine ay (kn:=[]) aa 2 rfl trivial ?_
  refine aP (n':=5) [31] [] rfl rfl (.inl ⟨(ah.plain rfl),aJ.cast (fy rfl rfl (by rw [Try.underlying3];rfl) Try.underlying5 mY) rfl⟩) rfl ?_
  refine ay (kn:=[]) aa 2 rfl trivial ?_
  refine aP (n':=5) [34] [] rfl rfl (.inl ⟨(ah.plain rfl),aJ.cast (fy rfl rfl (by rw [Try.underlying3];rfl) Try.underlying5 mY) rfl⟩) rfl ?_
  refine aP (n':=6) [29,32,35] [] rfl rfl (.inl ⟨(ah.plain rfl),aJ.cast (ec (ys:=[(0,(.c (.d (.v (.int .u8 (x1.aE % 256)))))),(1,(.c (.d (.v (.int .u8 (x1.bd % 256)))))),(2,(.c (.d (.v (.int .u8 (x1.kind % 256))))))]) (rows:=([x1.aE % 256,x1.bd % 256,x1.kind % 256]).map lj) 5 uX rfl (by decide) ⟨⟨rfl,rfl⟩,⟨rfl,rfl⟩,⟨rfl,rfl⟩,trivial⟩ rfl rfl rfl rfl) rfl⟩) rfl ?_
  refine aP (n':=7) [26,36] [5,2] rfl rfl (.inl ⟨(ah.plain rfl),aJ.cast (dE (m:=3) (N:=m.length+3) (k2:=6) (ys:=([x1.aE % 256,x1.bd % 256,x1.kind % 256]).map lj) uX rfl rfl rfl rfl rfl rfl (by first|omega|(simp;done)|(simp;omega)) rfl (.s rfl (by first|omega|(simp;done)|(simp;omega))) (by first|omega|(simp;done)|(simp;omega)) (by first|omega|(simp;done)|(simp;omega)) fM (by decide) (by first|omega|(simp;done)|(simp;omega)) (by first|omega|(simp;done)|(simp;omega))) rfl⟩) rfl ?_
  refine ay (kn:=[]) aa 2 rfl trivial ?_
  refine aP (n':=8) [37,39] [6] rfl rfl (.inl ⟨(ah.plain rfl),aJ.cast (cO (bh [6]) (bh [7]) (ug (m++([x1.aE % 256,x1.bd % 256,x1.kind % 256])) (m.length+3) x1.sum 3 (by first|omega|(simp;done)|(simp;omega)) (by first|omega|(simp;done)|(simp;omega)) (by first|omega|(simp;done)|(simp;omega)) r2 hr2) CQ rfl rfl ⟨⟨_,rfl,.inl ⟨rfl,rfl⟩⟩,⟨_,rfl,.inr (.c (.d _))⟩,⟨_,rfl,.inr (.c (.d _))⟩,trivial⟩ ⟨rfl,trivial⟩ rfl rfl rfl rfl rfl rfl trivial ⟨(fun _ _ _ _=>trivial),trivial⟩ rfl rfl rfl rfl) rfl⟩) rfl ?_
  refine bw [7,4,3,0] rfl rfl rfl rfl (by kernel_rfl) ?_
  refine ad aa 1 rfl ?_
  refine af ?_
  refine aw ?_
  refine ad aa 3 rfl ?_
  refine az (aK rfl rfl rfl (aL (by first|omega|(simp;done)|(simp;omega)))) rfl ?_
  refine ad aa 1 rfl ?_
  refine cf ?_
  refine bf ?_
  refine then_ok ?_
  refine aw ?_
  refine az (aK rfl rfl rfl (aL (by first|omega|(simp;done)|(simp;omega)))) rfl ?_
  refine ad aa 1 rfl ?_
  refine af ?_
  refine ⟨(q+1,r2,all+x1.sum),⟨by omega,by rw [yE hx1,<-hi0_1,<-hr2];simp [vh],by rw [zE hx1,<-hi0_2],by omega⟩,by first|omega|(simp;done)|(simp;omega),aF.bL (fun k=>if k=2 then 7 else k) (by refine ⟨?_,?_,?_,?_,?_,?_,?_,trivial⟩<;>first|rfl|(simp only [ba];done)|(congr 3;omega)|(congr 4;omega)|(simp only [bb];rfl)|(first|exact cL rfl (by omega)|exact oS rfl (by simp only [List.length_append,List.length_take,List.length_drop,List.length_cons,List.length_nil];omega))) (by refine ⟨?_,?_,?_,trivial⟩<;>first|rfl|(simp only [ba];done)|(congr 3;omega)|(congr 4;omega)|(simp only [bb];rfl)) rfl⟩
 have hc2':=of_decide_eq_false hc2
 refine bT ?_
 refine aN ?_
 refine aN ?_
 refine bA ?_
 refine then_ok ?_
 refine aH aa 2 rfl ?_
 obtain ⟨r3,hr3⟩:∃ (r3:List Int),m++mu all 4=r3:=⟨_,rfl⟩
 have hlr3:r3.length=m.length+4:=by rw [<-hr3];simp [pR]
 refine aT 5 [4,3,0] (cO (bh [2]) (bh [4]) (ug m m.length all 4 (by first|omega|(simp;done)|(simp;omega)) (by first|omega|(simp;done)|(simp;omega)) (by first|omega|(simp;done)|(simp;omega)) r3 hr3) CQ rfl rfl ⟨⟨_,rfl,.inl ⟨rfl,rfl⟩⟩,⟨_,rfl,.inr (.c (.d _))⟩,⟨_,rfl,.inr (.c (.d _))⟩,trivial⟩ ⟨rfl,trivial⟩ rfl rfl rfl rfl rfl rfl trivial ⟨(fun _ _ _ _=>trivial),trivial⟩ rfl rfl rfl rfl) rfl ?_
 refine ad aa 3 rfl ?_
 refine af ?_
 refine aA ?_
 have hX:kf l=(r3,(⟨0,0⟩:dc)):=by
   have ht:r1.take q=r1:=List.take_of_length_le (by omega)
   rw [ht] at hi0_1 hi0_2
   unfold kf
   rw [if_pos hw,hr1,<-hi0_1,<-hi0_2]
   rw [hr3]
 rw [hX] at hr;clear hX
 simp only [Prod.mk.injEq] at hr;obtain ⟨rfl,rfl⟩:=hr
 refine aq aa [4,0] 1 rfl rfl rfl rfl rfl rfl ?_ ?_
 all_goals first|rfl|(simp [aD];done)|(simp [aD];omega)

theorem kd (x:Nat->Value) (hx:∀ i,(x i).oneCell'=true) (e err:Int) (e2:Int) (hr:dG e err=e2):cM Try.prog 87 [(.c (.p 0 0 0 0)),(.c (cI err))] [(0,(.box 147 ((bm x).set 19 (cI e))))] [0] (.v (.c (cB (decide (¬e2=0))))) [(0,(.box 147 ((bm x).set 19 (cI e2))))]:=by
 refine cM.mk 19 [(0,(aC (.p 0 0 0 0))),(1,(aI err))] 1 Try.func87 rfl rfl rfl rfl rfl rfl rfl rfl rfl ?_
 intro W0 F0 T0 pg
 refine ae aa 1 rfl ?_
 refine ag ?_
 refine ae aa 5 rfl ?_
 refine aj rfl (fun hc1=>?_) (fun hc1=>?_)
 ·
  have hc1':=of_decide_eq_true hc1
  refine aw ?_
  refine ad aa 5 rfl ?_
  refine af ?_
  refine ae aa 6 rfl ?_
  refine aA ?_
  have hX:dG e err=err:=by
    (unfold dG;try dsimp only);(repeat' split)<;>first|rfl|omega|(exfalso;omega)|(subst_vars;rfl)|(simp_all;done)|(simp_all;omega)
  rw [hX] at hr;clear hX
  subst hr
  refine aq aa [0] 1 rfl rfl rfl rfl rfl rfl ?_ ?_
  all_goals first|rfl|(simp [aD,aZ,bm];done)|(simp [aD,aZ,bm];omega)
 have hc1':=of_decide_eq_false hc1
 refine aQ ?_
 refine ae aa 6 rfl ?_
 refine aA ?_
 have hX:dG e err=e:=by
   (unfold dG;try dsimp only);(repeat' split)<;>first|rfl|omega|(exfalso;omega)|(subst_vars;rfl)|(simp_all;done)|(simp_all;omega)
 rw [hX] at hr;clear hX
 subst hr
 refine aq aa [0] 1 rfl rfl rfl rfl rfl rfl ?_ ?_
 all_goals first|rfl|(simp [aD,aZ,bm];done)|(simp [aD,aZ,bm];omega)

theorem ju (x:Nat->Value) (hx:∀ i,(x i).oneCell'=true) (l:List Entry) (e src dst n:Int) (l2:List Entry) (e2:Int) (hr:dQ l e src dst n=(l2,e2)):cM Try.prog 76 [(.c (.p 0 0 0 0)),(.c (cI src)),(.c (cI dst)),(.c (cI n))] [(0,(.box 147 (((bm x).set 18 (cZ l)).set 19 (cI e))))] [0] (.t []) [(0,(.box 147 (((bm x).set 18 (cZ l2)).set 19 (cI e2))))]:=by
 refine cM.mk 31 [(0,(aC (.p 0 0 0 0))),(1,(aI src)),(2,(aI dst)),(3,(aI n))] 1 Try.func76 rfl rfl rfl rfl rfl rfl rfl rfl rfl ?_
 intro W0 F0 T0 pg
 refine aH aa 8 rfl ?_
 obtain ⟨r0,e0,hr0⟩:∃ (r0:List Entry) (e0:Int),jb l src dst n=(r0,e0):=⟨_,_,rfl⟩
 refine aT 1 [0] (bU 1 (Fn.frozen (av':=(.t [(.c (cZ r0)),(.c (cI e0))])) (wZ l src dst n r0 e0 hr0) ⟨.inr ⟨_,_,_,_,_,rfl,rfl,rfl,by simp⟩,.inl ⟨_,rfl,rfl⟩,trivial⟩) GX rfl rfl ⟨⟨_,rfl,.c (.d _)⟩,⟨_,rfl,.c (.d _)⟩,⟨_,rfl,.c (.d _)⟩,⟨_,rfl,.c (.d _)⟩,trivial⟩ ⟨trivial,trivial,trivial⟩ trivial rfl rfl rfl rfl) rfl ?_
 refine ad aa 5 rfl ?_
 refine af ?_
 refine aH aa 2 rfl ?_
 obtain ⟨e21,hr1⟩:∃ (e21:Int),dG e e0=e21:=⟨_,rfl⟩
 refine aT 1 [0] (cu id id (ms:=(dD.set 19 (some (cI e)))) (ms':=(dD.set 19 (some (cI e21)))) (fun x hx=>kd x hx e e0 e21 hr1) nT rfl rfl ⟨⟨_,rfl,.inl ⟨rfl,rfl⟩⟩,⟨_,rfl,.inr (.c (.d _))⟩,trivial⟩ rfl rfl rfl rfl rfl rfl rfl trivial rfl rfl rfl rfl rfl rfl rfl rfl rfl rfl rfl rfl rfl) rfl ?_
 refine ad aa 1 rfl ?_
 refine af ?_
 refine aj rfl (fun hc1=>?_) (fun hc1=>?_)
 ·
  have hc1':=hc1;try simp only [bx,bV] at hc1'
  refine aw ?_
  refine ad aa 6 rfl ?_
  refine cf ?_
  have hX:dQ l e src dst n=(r0,e21):=by
    unfold dQ;simp only [hr0,hr1];(repeat' split)<;>first|rfl|omega|(exfalso;omega)|(simp_all;done)|(simp_all;omega)
  rw [hX] at hr;clear hX
  simp only [Prod.mk.injEq] at hr;obtain ⟨rfl,rfl⟩:=hr
  refine cP aa [0] 1 rfl rfl rfl rfl rfl rfl ?_ ?_
  all_goals first|rfl|(simp [aD,aZ,bm];done)|(simp [aD,aZ,bm];omega)
 have hc1':=hc1;try simp only [bx,bV] at hc1'
 refine cE ?_
 have hX:dQ l e src dst n=(l,e21):=by
   unfold dQ;simp only [hr0,hr1];(repeat' split)<;>first|rfl|omega|(exfalso;omega)|(simp_all;done)|(simp_all;omega)
 rw [hX] at hr;clear hX
 simp only [Prod.mk.injEq] at hr;obtain ⟨rfl,rfl⟩:=hr
 refine cP aa [0] 1 rfl rfl rfl rfl rfl rfl ?_ ?_
 all_goals first|rfl|(simp [aD,aZ,bm];done)|(simp [aD,aZ,bm];omega)
theorem jd (x:Nat->Value) (hx:∀ i,(x i).oneCell'=true) (l:List bD) (e k held bE:Int) (hk:0<=k/\k < l.length) (l2:List bD) (e2:Int) (hr:cJ l e k held bE=(l2,e2)):cM Try.prog 75 [(.c (.p 0 0 0 0)),(.c (cI k)),(.c (cI held)),(.c (cI bE))] [(0,(.box 147 (((bm x).set 2 (.s 1 0 6 l.length)).set 19 (cI e)))),(1,(dV l))] [0] (.t []) [(0,(.box 147 (((bm x).set 2 (.s 1 0 6 l2.length)).set 19 (cI e2)))),(1,(dV l2))]:=by
 refine cM.mk 36 [(0,(aC (.p 0 0 0 0))),(1,(aI k)),(2,(aI held)),(3,(aI bE))] 2 Try.func75 rfl rfl rfl rfl rfl rfl rfl rfl rfl ?_
 intro W0 F0 T0 pg
 refine aH aa 6 rfl ?_
 refine az (bz (i:=Int.toNat (k)) rfl rfl rfl Try.underlying29 iu (by first|omega|(simp;done)|(simp;omega)) (by first|omega|(simp;done)|(simp;omega))) rfl ?_
 obtain ⟨x1,hx1⟩:=cg (xs:=l) (i:=Int.toNat (k)) (by first|omega|(simp;done)|(simp;omega))
 refine az (dr rfl rfl rfl Try.underlying61 rfl iu (bj hx1) rfl) rfl ?_
 refine ad aa 2 rfl ?_
 obtain ⟨xr0,e0,hr0⟩:∃ (xr0:bD) (e0:Int),ei x1 held bE=(xr0,e0):=⟨_,_,rfl⟩
 refine aT 2 [0,1] (bU 2 (Fn.frozen (av':=(.t [(.g [(cI xr0.bE),(cI xr0.held),(cI xr0.bZ.cG),(cI xr0.bZ.count),(cI xr0.bZ.sum),(eL xr0.cW)]),(.c (cI e0))])) (we x1 held bE xr0 e0 hr0) ⟨⟨.inl ⟨_,rfl,rfl⟩,.inl ⟨_,rfl,rfl⟩,.inl ⟨_,rfl,rfl⟩,.inl ⟨_,rfl,rfl⟩,.inl ⟨_,rfl,rfl⟩,.inr ⟨_,_,_,_,_,rfl,rfl,rfl,by simp⟩,trivial⟩,.inl ⟨_,rfl,rfl⟩,trivial⟩) GY rfl rfl ⟨⟨_,rfl,.g ⟨.d _,.d _,.d _,.d _,.d _,.d _,trivial⟩⟩,⟨_,rfl,.c (.d _)⟩,⟨_,rfl,.c (.d _)⟩,trivial⟩ ⟨⟨trivial,trivial,trivial,trivial,trivial,trivial,trivial⟩,trivial,trivial⟩ trivial rfl rfl rfl rfl) rfl ?_
 refine ad aa 6 rfl ?_
 refine af ?_
 refine aH aa 2 rfl ?_
 obtain ⟨e21,hr1⟩:∃ (e21:Int),dG e e0=e21:=⟨_,rfl⟩
 refine aT 3 [0,2,1] (cu id id (ms:=(dD.set 19 (some (cI e)))) (ms':=(dD.set 19 (some (cI e21)))) (fun x hx=>kd x hx e e0 e21 hr1) nT rfl rfl ⟨⟨_,rfl,.inl ⟨rfl,rfl⟩⟩,⟨_,rfl,.inr (.c (.d _))⟩,trivial⟩ rfl rfl rfl rfl rfl rfl rfl trivial rfl rfl rfl rfl rfl rfl rfl rfl rfl rfl rfl rfl rfl) rfl ?_
 refine ad aa 1 rfl ?_
 refine af ?_
 refine aj rfl (fun hc1=>?_) (fun hc1=>?_)
 ·
  have hc1':=hc1;try simp only [bx,bV] at hc1'
  refine aX [0,1,8] [0,2,1] mixed rfl rfl ?_
  refine ay (kn:=[]) aa 7 rfl trivial ?_
  refine aP (n':=3) [32,33] [1] rfl rfl (.inl ⟨(ah.plain rfl),aJ.cast (bz (i:=Int.toNat (k)) rfl rfl rfl Try.underlying29 iu (by first|omega|(simp;done)|(simp;omega)) (by first|omega|(simp;done)|(simp;omega))) rfl⟩) rfl ?_
  refine bw [0,2,1] rfl rfl rfl rfl (by kernel_rfl) ?_
  refine gw [0,2,1] (dS (ds:=[(dI xr0.bE),(dI xr0.held),(dI xr0.bZ.cG),(dI xr0.bZ.count),(dI xr0.bZ.sum),(EZ xr0.cW)]) rfl rfl rfl rfl rfl iu rfl (Nat.le_of_ble_eq_true rfl) (bj hx1) rfl (eU (x':=xr0) rfl)) rfl ?_
  refine cf ?_
  have hX:cJ l e k held bE=((l).set (Int.toNat (k)) xr0,e21):=by
    rw [tu hx1];simp only [hr0,hr1];(repeat' split)<;>first|rfl|omega|(exfalso;omega)|(simp_all;done)|(simp_all;omega)
  rw [hX] at hr;clear hX
  simp only [Prod.mk.injEq] at hr;obtain ⟨rfl,rfl⟩:=hr
  refine cP aa [0,1] 2 rfl rfl rfl rfl rfl rfl ?_ ?_
  all_goals first|rfl|(simp [aD,aZ,bm];done)|(simp [aD,aZ,bm];omega)
 have hc1':=hc1;try simp only [bx,bV] at hc1'
 refine cE ?_
 have hX:cJ l e k held bE=(l,e21):=by
   rw [tu hx1];simp only [hr0,hr1];(repeat' split)<;>first|rfl|omega|(exfalso;omega)|(simp_all;done)|(simp_all;omega)
 rw [hX] at hr;clear hX
 simp only [Prod.mk.injEq] at hr;obtain ⟨rfl,rfl⟩:=hr
 refine cP aa [0,1] 2 rfl rfl rfl rfl rfl rfl ?_ ?_
 all_goals first|rfl|(simp [aD,aZ,bm];done)|(simp [aD,aZ,bm];omega)
theorem Fj (x:Nat->Value) (hx:∀ i,(x i).oneCell'=true) (l:List ar) (e:Int) (r:ar) (hl:l.length<=100) (l2:List ar) (e2:Int) (hr:iZ l e r=(l2,e2)):cM Try.prog 83 [(.c (.p 0 0 0 0)),(.g [(cI r.aE),(cI r.bd),(cI r.kind),(cI r.sum)])] [(0,(.box 147 (((bm x).set 16 (.s 1 0 4 l.length)).set 19 (cI e)))),(1,(cT l))] [0] (.t []) [(0,(.box 147 (((bm x).set 16 (.s 1 0 4 l2.length)).set 19 (cI e2)))),(1,(cT l2))]:=by
 refine cM.mk 25 [(0,(aC (.p 0 0 0 0))),(1,(aG [(cI r.aE),(cI r.bd),(cI r.kind),(cI r.sum)]))] 2 Try.func83 rfl rfl rfl rfl rfl rfl rfl rfl rfl ?_
 intro W0 F0 T0 pg
 refine ae aa 1 rfl ?_
 refine ag ?_
 refine aH aa 5 rfl ?_
 refine az (dy rfl rfl rfl rfl rfl Try.underlying42) rfl ?_
 refine ad aa 1 rfl ?_
 refine af ?_
 refine aj rfl (fun hc1=>?_) (fun hc1=>?_)
 ·
  have hc1':=of_decide_eq_true hc1
  refine aH aa 1 rfl ?_
  obtain ⟨e20,hr0⟩:∃ (e20:Int),dG e 5=e20:=⟨_,rfl⟩
  refine aT 3 [0,2,1] (cu id id (ms:=(dD.set 19 (some (cI e)))) (ms':=(dD.set 19 (some (cI e20)))) (fun x hx=>kd x hx e 5 e20 hr0) nT rfl rfl ⟨⟨_,rfl,.inl ⟨rfl,rfl⟩⟩,⟨_,rfl,.inr (.c (.d _))⟩,trivial⟩ rfl rfl rfl rfl rfl rfl rfl trivial rfl rfl rfl rfl rfl rfl rfl rfl rfl rfl rfl rfl rfl) rfl ?_
  refine af ?_
  refine aA ?_
  refine ax ?_
  have hX:iZ l e r=(l,e20):=by
    unfold iZ;first|(rw [if_pos (by omega),hr0];done)|(rw [if_neg (by omega)];done)
  rw [hX] at hr;clear hX
  simp only [Prod.mk.injEq] at hr;obtain ⟨rfl,rfl⟩:=hr
  refine aq aa [0,1] 2 rfl rfl rfl rfl rfl rfl ?_ ?_
  all_goals first|rfl|(simp [aD,aZ,bm];done)|(simp [aD,aZ,bm];omega)
 have hc1':=of_decide_eq_false hc1
 refine aQ ?_
 refine aX [0,3] [2,0,1] mixed rfl rfl ?_
 refine ay (kn:=[]) aa 7 rfl trivial ?_
 refine aP (n':=4) [19] [] rfl rfl (.inl ⟨(ah.plain rfl),aJ.cast (ec (ys:=[(0,(.g [(cI r.aE),(cI r.bd),(cI r.kind),(cI r.sum)]))]) (rows:=([r]).map ib) 3 yj rfl (by decide) ⟨⟨rfl,rfl⟩,trivial⟩ rfl rfl rfl rfl) rfl⟩) rfl ?_
 refine aP (n':=5) [18,20] [3,1] rfl rfl (.inl ⟨(ah.plain rfl),aJ.cast (dE (m:=1) (N:=l.length+1) (k2:=4) (ys:=([r]).map ib) yj rfl rfl rfl rfl rfl rfl (by first|omega|(simp;done)|(simp;omega)) rfl (.s rfl (by first|omega|(simp;done)|(simp;omega))) (by first|omega|(simp;done)|(simp;omega)) (by first|omega|(simp;done)|(simp;omega)) fM (by decide) (by first|omega|(simp;done)|(simp;omega)) (by first|omega|(simp;done)|(simp;omega))) rfl⟩) rfl ?_
 refine ay (kn:=[]) aa 3 rfl trivial ?_
 refine bw [4,2,0] rfl rfl rfl rfl (by kernel_rfl) ?_
 refine ad aa 1 rfl ?_
 refine cf ?_
 have hX:iZ l e r=(l++([r]),e):=by
   unfold iZ;first|(rw [if_pos (by omega),hr0];done)|(rw [if_neg (by omega)];done)
 rw [hX] at hr;clear hX
 simp only [Prod.mk.injEq] at hr;obtain ⟨rfl,rfl⟩:=hr
 refine cP aa [0,4] 2 rfl rfl rfl rfl rfl rfl ?_ ?_
 all_goals first|rfl|(simp [aD,aZ,bm];done)|(simp [aD,aZ,bm];omega)

theorem sU (x:Nat->Value) (hx:∀ i,(x i).oneCell'=true) (s:bS) (e:Int) (t:bg) (hI:∀ t∈s.kept,fj t.number) (s2:bS) (e2:Int) (hr:eO s e t=(s2,e2)):cM Try.prog 82 [(.c (.p 0 0 0 0)),(.c (cI 0)),(.g [(cI t.number),(cI t.kind),(cI t.bd),(cI t.sum)])] [(0,(.box 147 ((((bm x).set 5 (cI s.bq)).set 6 (ck s.kept)).set 19 (cI e))))] [0] (.t []) [(0,(.box 147 ((((bm x).set 5 (cI s2.bq)).set 6 (ck s2.kept)).set 19 (cI e2))))]:=by
 refine cM.mk 31 [(0,(aC (.p 0 0 0 0))),(1,(aI 0)),(2,(aG [(cI t.number),(cI t.kind),(cI t.bd),(cI t.sum)]))] 1 Try.func82 rfl rfl rfl rfl rfl rfl rfl rfl rfl ?_
 intro W0 F0 T0 pg
 refine ae aa 1 rfl ?_
 refine ag ?_
 obtain ⟨xr0,e0,hr0⟩:∃ (xr0:bS) (e0:Int),gG s t=(xr0,e0):=⟨_,_,rfl⟩
 refine di [0,1,5] [1,0] mixed rfl rfl ?_
 refine bW (kn:=[]) aa 5 rfl trivial ?_
 refine cb (n':=2) [13,10] [0] rfl rfl (.inl ⟨(ah.plain rfl),aJ.cast (cC (i:=0) rfl rfl rfl Try.underlying35 jk rfl (by decide)) rfl⟩) rfl ?_
 refine bW (kn:=[]) aa 2 rfl trivial ?_
 refine cb (n':=2) [15,16] [] rfl rfl (.inl ⟨(ah.plain rfl),aJ.cast (bU 2 (Fn.frozen (av':=(.t [(.g [(cI xr0.bq),(ck xr0.kept)]),(.c (cI e0))])) (sa s t (by first|assumption|exact kz (by assumption) (by omega)|exact jH (by assumption) (by assumption)|(simp [fj];done)) xr0 e0 hr0) ⟨⟨.inl ⟨_,rfl,rfl⟩,.inr ⟨_,_,_,_,_,rfl,rfl,rfl,by simp⟩,trivial⟩,.inl ⟨_,rfl,rfl⟩,trivial⟩) CU rfl rfl ⟨⟨_,rfl,.g ⟨.d _,.d _,trivial⟩⟩,⟨_,rfl,.g ⟨.d _,.d _,.d _,.d _,trivial⟩⟩,trivial⟩ ⟨⟨trivial,trivial,trivial⟩,trivial,trivial⟩ trivial rfl rfl rfl rfl) rfl⟩) rfl ?_
 refine bW (n':=3) (kn:=[]) aa 6 rfl trivial ?_
 refine dW [0,1,6,7] [2,0] rfl rfl (by kernel_rfl) ?_
 refine then_ok ?_
 refine aH aa 2 rfl ?_
 obtain ⟨e21,hr1⟩:∃ (e21:Int),dG e e0=e21:=⟨_,rfl⟩
 refine aT 3 [0,2] (cu id id (ms:=(dD.set 19 (some (cI e)))) (ms':=(dD.set 19 (some (cI e21)))) (fun x hx=>kd x hx e e0 e21 hr1) nT rfl rfl ⟨⟨_,rfl,.inl ⟨rfl,rfl⟩⟩,⟨_,rfl,.inr (.c (.d _))⟩,trivial⟩ rfl rfl rfl rfl rfl rfl rfl trivial rfl rfl rfl rfl rfl rfl rfl rfl rfl rfl rfl rfl rfl) rfl ?_
 refine ad aa 1 rfl ?_
 refine af ?_
 refine aj rfl (fun hc1=>?_) (fun hc1=>?_)
 ·
  have hc1':=hc1;try simp only [bx,bV] at hc1'
  refine aX [0,1,6] [0,2] mixed rfl rfl ?_
  refine ay (kn:=[]) aa 6 rfl trivial ?_
  refine aP (n':=3) [29,25] [0] rfl rfl (.inl ⟨(ah.plain rfl),aJ.cast (cC (i:=0) rfl rfl rfl Try.underlying35 jk rfl (by decide)) rfl⟩) rfl ?_
  refine bw [0,2] rfl rfl rfl rfl (by kernel_rfl) ?_
  refine ad aa 1 rfl ?_
  refine cf ?_
  have hX:eO s e t=(xr0,e21):=by
    unfold eO;simp only [hr0,hr1];(repeat' split)<;>first|rfl|omega|(exfalso;omega)|(simp_all;done)|(simp_all;omega)
  rw [hX] at hr;clear hX
  simp only [Prod.mk.injEq] at hr;obtain ⟨rfl,rfl⟩:=hr
  refine cP aa [0] 1 rfl rfl rfl rfl rfl rfl ?_ ?_
  all_goals first|rfl|(simp [aD,aZ,bm];done)|(simp [aD,aZ,bm];omega)
 have hc1':=hc1;try simp only [bx,bV] at hc1'
 refine cE ?_
 have hX:eO s e t=(s,e21):=by
   unfold eO;simp only [hr0,hr1];(repeat' split)<;>first|rfl|omega|(exfalso;omega)|(simp_all;done)|(simp_all;omega)
 rw [hX] at hr;clear hX
 simp only [Prod.mk.injEq] at hr;obtain ⟨rfl,rfl⟩:=hr
 refine cP aa [0] 1 rfl rfl rfl rfl rfl rfl ?_ ?_
 all_goals first|rfl|(simp [aD,aZ,bm];done)|(simp [aD,aZ,bm];omega)
theorem DC (x:Nat->Value) (hx:∀ i,(x i).oneCell'=true) (s:bS) (e:Int) (t:bg) (hI:∀ t∈s.kept,fj t.number) (s2:bS) (e2:Int) (hr:eO s e t=(s2,e2)):cM Try.prog 82 [(.c (.p 0 0 0 0)),(.c (cI 1)),(.g [(cI t.number),(cI t.kind),(cI t.bd),(cI t.sum)])] [(0,(.box 147 ((((bm x).set 7 (cI s.bq)).set 8 (ck s.kept)).set 19 (cI e))))] [0] (.t []) [(0,(.box 147 ((((bm x).set 7 (cI s2.bq)).set 8 (ck s2.kept)).set 19 (cI e2))))]:=by
 refine cM.mk 31 [(0,(aC (.p 0 0 0 0))),(1,(aI 1)),(2,(aG [(cI t.number),(cI t.kind),(cI t.bd),(cI t.sum)]))] 1 Try.func82 rfl rfl rfl rfl rfl rfl rfl rfl rfl ?_
 intro W0 F0 T0 pg
 refine ae aa 1 rfl ?_
 refine ag ?_
 obtain ⟨xr0,e0,hr0⟩:∃ (xr0:bS) (e0:Int),gG s t=(xr0,e0):=⟨_,_,rfl⟩
 refine di [0,1,5] [1,0] mixed rfl rfl ?_
 refine bW (kn:=[]) aa 5 rfl trivial ?_
 refine cb (n':=2) [13,10] [0] rfl rfl (.inl ⟨(ah.plain rfl),aJ.cast (cC (i:=1) rfl rfl rfl Try.underlying35 jk rfl (by decide)) rfl⟩) rfl ?_
 refine bW (kn:=[]) aa 2 rfl trivial ?_
 refine cb (n':=2) [15,16] [] rfl rfl (.inl ⟨(ah.plain rfl),aJ.cast (bU 2 (Fn.frozen (av':=(.t [(.g [(cI xr0.bq),(ck xr0.kept)]),(.c (cI e0))])) (sa s t (by first|assumption|exact kz (by assumption) (by omega)|exact jH (by assumption) (by assumption)|(simp [fj];done)) xr0 e0 hr0) ⟨⟨.inl ⟨_,rfl,rfl⟩,.inr ⟨_,_,_,_,_,rfl,rfl,rfl,by simp⟩,trivial⟩,.inl ⟨_,rfl,rfl⟩,trivial⟩) CU rfl rfl ⟨⟨_,rfl,.g ⟨.d _,.d _,trivial⟩⟩,⟨_,rfl,.g ⟨.d _,.d _,.d _,.d _,trivial⟩⟩,trivial⟩ ⟨⟨trivial,trivial,trivial⟩,trivial,trivial⟩ trivial rfl rfl rfl rfl) rfl⟩) rfl ?_
 refine bW (n':=3) (kn:=[]) aa 6 rfl trivial ?_
 refine dW [0,1,6,7] [2,0] rfl rfl (by kernel_rfl) ?_
 refine then_ok ?_
 refine aH aa 2 rfl ?_
 obtain ⟨e21,hr1⟩:∃ (e21:Int),dG e e0=e21:=⟨_,rfl⟩
 refine aT 3 [0,2] (cu id id (ms:=(dD.set 19 (some (cI e)))) (ms':=(dD.set 19 (some (cI e21)))) (fun x hx=>kd x hx e e0 e21 hr1) nT rfl rfl ⟨⟨_,rfl,.inl ⟨rfl,rfl⟩⟩,⟨_,rfl,.inr (.c (.d _))⟩,trivial⟩ rfl rfl rfl rfl rfl rfl rfl trivial rfl rfl rfl rfl rfl rfl rfl rfl rfl rfl rfl rfl rfl) rfl ?_
 refine ad aa 1 rfl ?_
 refine af ?_
 refine aj rfl (fun hc1=>?_) (fun hc1=>?_)
 ·
  have hc1':=hc1;try simp only [bx,bV] at hc1'
  refine aX [0,1,6] [0,2] mixed rfl rfl ?_
  refine ay (kn:=[]) aa 6 rfl trivial ?_
  refine aP (n':=3) [29,25] [0] rfl rfl (.inl ⟨(ah.plain rfl),aJ.cast (cC (i:=1) rfl rfl rfl Try.underlying35 jk rfl (by decide)) rfl⟩) rfl ?_
  refine bw [0,2] rfl rfl rfl rfl (by kernel_rfl) ?_
  refine ad aa 1 rfl ?_
  refine cf ?_
  have hX:eO s e t=(xr0,e21):=by
    unfold eO;simp only [hr0,hr1];(repeat' split)<;>first|rfl|omega|(exfalso;omega)|(simp_all;done)|(simp_all;omega)
  rw [hX] at hr;clear hX
  simp only [Prod.mk.injEq] at hr;obtain ⟨rfl,rfl⟩:=hr
  refine cP aa [0] 1 rfl rfl rfl rfl rfl rfl ?_ ?_
  all_goals first|rfl|(simp [aD,aZ,bm];done)|(simp [aD,aZ,bm];omega)
 have hc1':=hc1;try simp only [bx,bV] at hc1'
 refine cE ?_
 have hX:eO s e t=(s,e21):=by
   unfold eO;simp only [hr0,hr1];(repeat' split)<;>first|rfl|omega|(exfalso;omega)|(simp_all;done)|(simp_all;omega)
 rw [hX] at hr;clear hX
 simp only [Prod.mk.injEq] at hr;obtain ⟨rfl,rfl⟩:=hr
 refine cP aa [0] 1 rfl rfl rfl rfl rfl rfl ?_ ?_
 all_goals first|rfl|(simp [aD,aZ,bm];done)|(simp [aD,aZ,bm];omega)
theorem AJ (x:Nat->Value) (hx:∀ i,(x i).oneCell'=true) (au:List bC) (due:List Int) (al:List bD) (book:List Entry) (e:Int) (t:bg) (ht:0<=t.bd/\t.bd < au.length) (hA:∀ a∈au,0<=a.aO/\a.aO < al.length/\0<=a.aE/\a.aE < due.length) (hc:al.length<=8) (hd:due.length<=8) (due2:List Int) (cards2:List bD) (book2:List Entry) (e2:Int) (hr:dP au due al book e t=(due2,cards2,book2,e2)):cM Try.prog 89 [(.c (.p 0 0 0 0)),(.g [(cI t.number),(cI t.kind),(cI t.bd),(cI t.sum)])] [(0,(.box 147 ((((((bm x).set 2 (.s 1 0 6 al.length)).set 3 (.s 2 0 1 due.length)).set 4 (.s 3 0 8 au.length)).set 18 (cZ book)).set 19 (cI e)))),(1,(dV al)),(2,(dL due)),(3,(dY au))] [0] (.t []) [(0,(.box 147 ((((((bm x).set 2 (.s 1 0 6 cards2.length)).set 3 (.s 2 0 1 due2.length)).set 4 (.s 3 0 8 au.length)).set 18 (cZ book2)).set 19 (cI e2)))),(1,(dV cards2)),(2,(dL due2)),(3,(dY au))]:=by
 refine cM.mk 77 [(0,(aC (.p 0 0 0 0))),(1,(aG [(cI t.number),(cI t.kind),(cI t.bd),(cI t.sum)]))] 4 Try.func89 rfl rfl rfl rfl rfl rfl rfl rfl rfl ?_
 intro W0 F0 T0 pg
 refine ae aa 1 rfl ?_
 refine ag ?_
 obtain ⟨x1,hx1⟩:=cg (xs:=au) (i:=Int.toNat (t.bd)) (by first|omega|(simp;done)|(simp;omega))
 have hx1A:=hA x1 (List.mem_of_getElem? hx1)
 refine aX [0,3] [4,0,1,2,3] mixed rfl rfl ?_
 refine ay (kn:=[]) aa 7 rfl trivial ?_
 refine aP (n':=5) [11,13] [3] rfl rfl (.inl ⟨(ah.plain rfl),aJ.cast (bz (i:=Int.toNat (t.bd)) rfl rfl rfl Try.underlying31 kj (by first|omega|(simp;done)|(simp;omega)) (by first|omega|(simp;done)|(simp;omega))) rfl⟩) rfl ?_
 refine aP (n':=5) [14] [3] rfl rfl (.inl ⟨(ah.plain rfl),aJ.cast (dr rfl rfl rfl Try.underlying67 rfl kj (bj hx1) rfl) rfl⟩) rfl ?_
 refine ay (n':=6) (kn:=[]) aa 1 rfl trivial ?_
 refine bw [5,4,0,1,2,3] rfl rfl rfl rfl (by kernel_rfl) ?_
 refine ad aa 1 rfl ?_
 refine af ?_
 refine ag ?_
 refine aX [0,3,4] [5,4,0,1,2,3] mixed rfl rfl ?_
 refine ay (kn:=[]) aa 2 rfl trivial ?_
 refine aP (n':=6) [17] [] rfl rfl (.inl ⟨(ah.plain rfl),aJ.cast (aK rfl rfl rfl (aL (by first|omega|(simp;done)|(simp;omega)))) rfl⟩) rfl ?_
 refine ay (kn:=[]) aa 2 rfl trivial ?_
 refine aP (n':=6) [20] [] rfl rfl (.inl ⟨(ah.plain rfl),aJ.cast (aK rfl rfl rfl (aL (by first|omega|(simp;done)|(simp;omega)))) rfl⟩) rfl ?_
 refine ay (kn:=[]) aa 2 rfl trivial ?_
 refine bw [5,4,0,1,2,3] rfl rfl rfl rfl (by kernel_rfl) ?_
 refine af ?_
 refine ae aa 2 rfl ?_
 refine aR ?_
 refine ae aa 2 rfl ?_
 refine aj rfl (fun hc1=>?_) (fun hc1=>?_)
 ·
  have hc1':=of_decide_eq_true hc1
  refine ag ?_
  obtain ⟨x2,hx2⟩:=cg (xs:=due) (i:=Int.toNat (x1.aE)) (by first|omega|(simp;done)|(simp;omega))
  refine aX [0,3,4,5] [5,4,0,1,2,3] mixed rfl rfl ?_
  refine ay (kn:=[]) aa 7 rfl trivial ?_
  refine aP (n':=6) [30,32] [2] rfl rfl (.inl ⟨(ah.plain rfl),aJ.cast (bz (i:=Int.toNat (x1.aE)) rfl rfl rfl Try.underlying30 fC (by first|omega|(simp;done)|(simp;omega)) (by first|omega|(simp;done)|(simp;omega))) rfl⟩) rfl ?_
  refine aP (n':=6) [33] [2] rfl rfl (.inl ⟨(ah.plain rfl),aJ.cast (eQ rfl rfl rfl Try.underlying3 rfl (bj hx2) rfl) rfl⟩) rfl ?_
  refine ay (kn:=[]) aa 3 rfl trivial ?_
  refine aP (n':=6) [30,32] [2] rfl rfl (.inl ⟨(ah.plain rfl),aJ.cast (bz (i:=Int.toNat (x1.aE)) rfl rfl rfl Try.underlying30 fC (by first|omega|(simp;done)|(simp;omega)) (by first|omega|(simp;done)|(simp;omega))) rfl⟩) rfl ?_
  refine bw [5,4,0,1,2,3] rfl rfl rfl rfl (by kernel_rfl) ?_
  refine gw [5,4,0,1,2,3] (dS (ds:=[(dI (IntKind.i64.wrap (x2+t.sum)))]) rfl rfl rfl rfl rfl fC rfl (Nat.le_of_ble_eq_true rfl) (bj hx2) rfl (eU (x':=(IntKind.i64.wrap (x2+t.sum))) rfl)) rfl ?_
  refine af ?_
  refine fF (k:=0) (q:=3) (c':=(.s 2 0 1 (((due).set (Int.toNat (x1.aE)) (IntKind.i64.wrap (x2+t.sum))).length))) rfl rfl (by first|rfl|(simp;done)|(congr 1;omega)) rfl ?_
  refine aw ?_
  refine ad aa 4 rfl ?_
  obtain ⟨l20,e20,hr0⟩:∃ (l20:List Entry) (e20:Int),dQ book e 1 (50+x1.aE) t.sum=(l20,e20):=⟨_,_,rfl⟩
  refine aT 6 [0,5,4,1,2,3] (cu id id (ms:=((dD.set 18 (some (cZ book))).set 19 (some (cI e)))) (ms':=((dD.set 18 (some (cZ l20))).set 19 (some (cI e20)))) (fun x hx=>ju x hx book e 1 (50+x1.aE) t.sum l20 e20 hr0) mH rfl rfl ⟨⟨_,rfl,.inl ⟨rfl,rfl⟩⟩,⟨_,rfl,.inr (.c (.d _))⟩,⟨_,rfl,.inr (.c (.d _))⟩,⟨_,rfl,.inr (.c (.d _))⟩,trivial⟩ rfl rfl rfl rfl rfl rfl rfl trivial rfl rfl rfl rfl rfl rfl rfl rfl rfl rfl rfl rfl rfl) rfl ?_
  refine cf ?_
  refine bf ?_
  have hX:dP au due al book e t=((due).set (Int.toNat (x1.aE)) (IntKind.i64.wrap (x2+t.sum)),al,l20,e20):=by
    unfold dP;rw [hx1];dsimp only;simp only [List.getD_eq_getElem?_getD,hx2,Option.getD_some,hr0];(repeat' split)<;>first|rfl|omega|(exfalso;omega)|(simp_all;done)|(simp_all;omega)
  rw [hX] at hr;clear hX
  simp only [Prod.mk.injEq] at hr;obtain ⟨rfl,rfl,rfl,rfl⟩:=hr
  refine cP aa [0,1,2,3] 4 rfl rfl rfl rfl rfl rfl ?_ ?_
  all_goals first|rfl|(simp [aD,aZ,bm];done)|(simp [aD,aZ,bm];omega)
 have hc1':=of_decide_eq_false hc1
 refine ae aa 2 rfl ?_
 refine aj rfl (fun hc2=>?_) (fun hc2=>?_)
 ·
  have hc2':=of_decide_eq_true hc2
  refine aH aa 5 rfl ?_
  obtain ⟨l21,e21,hr1⟩:∃ (l21:List bD) (e21:Int),cJ al e x1.aO 0 t.sum=(l21,e21):=⟨_,_,rfl⟩
  refine aT 7 [0,6,5,4,2,3] (cu id (bh [0,6]) (ms:=((dD.set 2 (some (.s 1 0 6 al.length))).set 19 (some (cI e)))) (ms':=((dD.set 2 (some (.s 1 0 6 l21.length))).set 19 (some (cI e21)))) (fun x hx=>jd x hx al e x1.aO 0 t.sum (by first|omega|(simp;done)|(simp;omega)) l21 e21 hr1) nU rfl rfl ⟨⟨_,rfl,.inl ⟨rfl,rfl⟩⟩,⟨_,rfl,.inr (.c (.d _))⟩,⟨_,rfl,.inr (.c (.d _))⟩,⟨_,rfl,.inr (.c (.d _))⟩,trivial⟩ rfl rfl rfl rfl rfl rfl rfl ⟨rfl,trivial⟩ rfl rfl rfl rfl rfl rfl rfl rfl rfl rfl rfl rfl rfl) rfl ?_
  refine af ?_
  refine aw ?_
  refine ad aa 4 rfl ?_
  obtain ⟨l22,e22,hr2⟩:∃ (l22:List Entry) (e22:Int),dQ book e21 1 (10+x1.aO) t.sum=(l22,e22):=⟨_,_,rfl⟩
  refine aT 7 [0,6,5,4,2,3] (cu id id (ms:=((dD.set 18 (some (cZ book))).set 19 (some (cI e21)))) (ms':=((dD.set 18 (some (cZ l22))).set 19 (some (cI e22)))) (fun x hx=>ju x hx book e21 1 (10+x1.aO) t.sum l22 e22 hr2) mH rfl rfl ⟨⟨_,rfl,.inl ⟨rfl,rfl⟩⟩,⟨_,rfl,.inr (.c (.d _))⟩,⟨_,rfl,.inr (.c (.d _))⟩,⟨_,rfl,.inr (.c (.d _))⟩,trivial⟩ rfl rfl rfl rfl rfl rfl rfl trivial rfl rfl rfl rfl rfl rfl rfl rfl rfl rfl rfl rfl rfl) rfl ?_
  refine cf ?_
  refine bf ?_
  have hX:dP au due al book e t=(due,l21,l22,e22):=by
    unfold dP;rw [hx1];dsimp only;simp only [List.getD_eq_getElem?_getD,Option.getD_some,hr1,hr2];(repeat' split)<;>first|rfl|omega|(exfalso;omega)|(simp_all;done)|(simp_all;omega)
  rw [hX] at hr;clear hX
  simp only [Prod.mk.injEq] at hr;obtain ⟨rfl,rfl,rfl,rfl⟩:=hr
  refine cP aa [0,6,2,3] 4 rfl rfl rfl rfl rfl rfl ?_ ?_
  all_goals first|rfl|(simp [aD,aZ,bm];done)|(simp [aD,aZ,bm];omega)
 have hc2':=of_decide_eq_false hc2
 refine ae aa 2 rfl ?_
 refine aj rfl (fun hc3=>?_) (fun hc3=>?_)
 ·
  have hc3':=of_decide_eq_true hc3
  refine ag ?_
  obtain ⟨x2,hx2⟩:=cg (xs:=due) (i:=Int.toNat (x1.aE)) (by first|omega|(simp;done)|(simp;omega))
  refine aX [0,3,4,5] [5,4,0,1,2,3] mixed rfl rfl ?_
  refine ay (kn:=[]) aa 7 rfl trivial ?_
  refine aP (n':=6) [63,65] [2] rfl rfl (.inl ⟨(ah.plain rfl),aJ.cast (bz (i:=Int.toNat (x1.aE)) rfl rfl rfl Try.underlying30 fC (by first|omega|(simp;done)|(simp;omega)) (by first|omega|(simp;done)|(simp;omega))) rfl⟩) rfl ?_
  refine aP (n':=6) [66] [2] rfl rfl (.inl ⟨(ah.plain rfl),aJ.cast (eQ rfl rfl rfl Try.underlying3 rfl (bj hx2) rfl) rfl⟩) rfl ?_
  refine ay (kn:=[]) aa 3 rfl trivial ?_
  refine aP (n':=6) [63,65] [2] rfl rfl (.inl ⟨(ah.plain rfl),aJ.cast (bz (i:=Int.toNat (x1.aE)) rfl rfl rfl Try.underlying30 fC (by first|omega|(simp;done)|(simp;omega)) (by first|omega|(simp;done)|(simp;omega))) rfl⟩) rfl ?_
  refine bw [5,4,0,1,2,3] rfl rfl rfl rfl (by kernel_rfl) ?_
  refine gw [5,4,0,1,2,3] (dS (ds:=[(dI (IntKind.i64.wrap (x2 - t.sum)))]) rfl rfl rfl rfl rfl fC rfl (Nat.le_of_ble_eq_true rfl) (bj hx2) rfl (eU (x':=(IntKind.i64.wrap (x2 - t.sum))) rfl)) rfl ?_
  refine af ?_
  refine fF (k:=0) (q:=3) (c':=(.s 2 0 1 (((due).set (Int.toNat (x1.aE)) (IntKind.i64.wrap (x2 - t.sum))).length))) rfl rfl (by first|rfl|(simp;done)|(congr 1;omega)) rfl ?_
  refine aw ?_
  refine ad aa 4 rfl ?_
  obtain ⟨l23,e23,hr3⟩:∃ (l23:List Entry) (e23:Int),dQ book e (50+x1.aE) 2 t.sum=(l23,e23):=⟨_,_,rfl⟩
  refine aT 6 [0,5,4,1,2,3] (cu id id (ms:=((dD.set 18 (some (cZ book))).set 19 (some (cI e)))) (ms':=((dD.set 18 (some (cZ l23))).set 19 (some (cI e23)))) (fun x hx=>ju x hx book e (50+x1.aE) 2 t.sum l23 e23 hr3) mH rfl rfl ⟨⟨_,rfl,.inl ⟨rfl,rfl⟩⟩,⟨_,rfl,.inr (.c (.d _))⟩,⟨_,rfl,.inr (.c (.d _))⟩,⟨_,rfl,.inr (.c (.d _))⟩,trivial⟩ rfl rfl rfl rfl rfl rfl rfl trivial rfl rfl rfl rfl rfl rfl rfl rfl rfl rfl rfl rfl rfl) rfl ?_
  refine cf ?_
  refine bf ?_
  have hX:dP au due al book e t=((due).set (Int.toNat (x1.aE)) (IntKind.i64.wrap (x2 - t.sum)),al,l23,e23):=by
    unfold dP;rw [hx1];dsimp only;simp only [List.getD_eq_getElem?_getD,hx2,Option.getD_some,hr3];(repeat' split)<;>first|rfl|omega|(exfalso;omega)|(simp_all;done)|(simp_all;omega)
  rw [hX] at hr;clear hX
  simp only [Prod.mk.injEq] at hr;obtain ⟨rfl,rfl,rfl,rfl⟩:=hr
  refine cP aa [0,1,2,3] 4 rfl rfl rfl rfl rfl rfl ?_ ?_
  all_goals first|rfl|(simp [aD,aZ,bm];done)|(simp [aD,aZ,bm];omega)
 have hc3':=of_decide_eq_false hc3
 refine cE ?_
 refine bf ?_
 have hX:dP au due al book e t=(due,al,book,e):=by
   unfold dP;rw [hx1];dsimp only;simp only [List.getD_eq_getElem?_getD,Option.getD_some,hx1];(repeat' split)<;>first|rfl|omega|(exfalso;omega)|(simp_all;done)|(simp_all;omega)
 rw [hX] at hr;clear hX
 simp only [Prod.mk.injEq] at hr;obtain ⟨rfl,rfl,rfl,rfl⟩:=hr
 refine cP aa [0,1,2,3] 4 rfl rfl rfl rfl rfl rfl ?_ ?_
 all_goals first|rfl|(simp [aD,aZ,bm];done)|(simp [aD,aZ,bm];omega)

theorem wq (l:List bC) (hl:l.length * 64<=140737488355328):Fn Try.prog 96 [(.c (gK l))] (aC (.s 0 0 8 l.length)) [(0,.arr 67 8 (l.map iX))]:=by
 refine Fn.mk' 8 [(0,(aC (gK l)))] Try.func96 rfl rfl rfl rfl ?_
 intro W0 T0
 refine dq 0 rfl (fun hlen0=>?_)
 refine ae aa 1 rfl ?_
 refine ag ?_
 refine aH aa 1 rfl ?_
 refine iA (ah.plain rfl) rfl rfl Try.underlying31 rfl rfl (fun bn1 hbn1=>?_)
 refine af ?_
 refine aj rfl (fun hc2=>?_) (fun hc2=>?_)
 ·
  have hc2':=hc2;try simp only [bx,bV] at hc2'
  refine ae aa 1 rfl ?_
  refine aA ?_
  refine ax ?_
  refine dh (aF.nil 2 67 8 (by decide) rfl) ?_
  refine aq aa [0] 1 rfl rfl rfl rfl rfl rfl ?_ ?_
  ·(have h0:=hbn1 (by assumption);have h1:l=[]:=by (cases l with|nil=>rfl|cons=>simp at h0));subst h1;rfl
  ·(have h0:=hbn1 (by assumption);have h1:l=[]:=by (cases l with|nil=>rfl|cons=>simp at h0));subst h1;rfl
 have hc2':=hc2;try simp only [bx,bV] at hc2'
 refine aQ ?_
 refine eK ?_
 refine aT 1 [0] (ec (ys:=[]) (rows:=(([]:List bC)).map iX) 0 sw rfl (by decide) trivial rfl rfl rfl rfl) rfl ?_
 refine ad aa 1 rfl ?_
 refine aT 2 [1] (dE (m:=l.length) (N:=l.length) (k2:=1) (ys:=(l).map iX) sw rfl rfl rfl rfl rfl rfl (by first|omega|(simp;omega)|(simp;done)) rfl (.d _ _) (by first|omega|(simp;omega)|(simp;done)) (by first|omega|(simp;omega)|(simp;done)) rfl (by decide) (by first|omega|(simp;omega)|(simp;done)) (by first|omega|(simp;omega)|(simp;done))) rfl ?_
 refine ad aa 1 rfl ?_
 refine af ?_
 refine aA ?_
 refine aq aa [1] 1 rfl rfl rfl rfl rfl rfl ?_ ?_
 ·first|rfl|simp [fW,aC]
 ·first|rfl|simp
theorem na (l:List cj) (hl:l.length * 40<=140737488355328):Fn Try.prog 85 [(.c (cV l))] (aC (.s 0 0 5 l.length)) [(0,.arr 113 5 (l.map fx))]:=by
 refine Fn.mk' 8 [(0,(aC (cV l)))] Try.func85 rfl rfl rfl rfl ?_
 intro W0 T0
 refine dq 0 rfl (fun hlen0=>?_)
 refine ae aa 1 rfl ?_
 refine ag ?_
 refine aH aa 1 rfl ?_
 refine iA (ah.plain rfl) rfl rfl Try.underlying37 rfl rfl (fun bn1 hbn1=>?_)
 refine af ?_
 refine aj rfl (fun hc2=>?_) (fun hc2=>?_)
 ·
  have hc2':=hc2;try simp only [bx,bV] at hc2'
  refine ae aa 1 rfl ?_
  refine aA ?_
  refine ax ?_
  refine dh (aF.nil 2 113 5 (by decide) rfl) ?_
  refine aq aa [0] 1 rfl rfl rfl rfl rfl rfl ?_ ?_
  ·(have h0:=hbn1 (by assumption);have h1:l=[]:=by (cases l with|nil=>rfl|cons=>simp at h0));subst h1;rfl
  ·(have h0:=hbn1 (by assumption);have h1:l=[]:=by (cases l with|nil=>rfl|cons=>simp at h0));subst h1;rfl
 have hc2':=hc2;try simp only [bx,bV] at hc2'
 refine aQ ?_
 refine eK ?_
 refine aT 1 [0] (ec (ys:=[]) (rows:=(([]:List cj)).map fx) 0 mC rfl (by decide) trivial rfl rfl rfl rfl) rfl ?_
 refine ad aa 1 rfl ?_
 refine aT 2 [1] (dE (m:=l.length) (N:=l.length) (k2:=1) (ys:=(l).map fx) mC rfl rfl rfl rfl rfl rfl (by first|omega|(simp;omega)|(simp;done)) rfl (.d _ _) (by first|omega|(simp;omega)|(simp;done)) (by first|omega|(simp;omega)|(simp;done)) rfl (by decide) (by first|omega|(simp;omega)|(simp;done)) (by first|omega|(simp;omega)|(simp;done))) rfl ?_
 refine ad aa 1 rfl ?_
 refine af ?_
 refine aA ?_
 refine aq aa [1] 1 rfl rfl rfl rfl rfl rfl ?_ ?_
 ·first|rfl|simp [fW,aC]
 ·first|rfl|simp
theorem wo (l:List (List D)) (hl:l.length * 64<=140737488355328):Fn Try.prog 94 [(.c (cR 6 ((l).map id)))] (aC (.s 0 0 6 l.length)) [(0,.arr 61 6 (l.map id))]:=by
 refine Fn.mk' 8 [(0,(aC (cR 6 ((l).map id))))] Try.func94 rfl rfl rfl rfl ?_
 intro W0 T0
 refine dq 0 rfl (fun hlen0=>?_)
 refine ae aa 1 rfl ?_
 refine ag ?_
 refine aH aa 1 rfl ?_
 refine iA (ah.plain rfl) rfl rfl Try.underlying29 rfl rfl (fun bn1 hbn1=>?_)
 refine af ?_
 refine aj rfl (fun hc2=>?_) (fun hc2=>?_)
 ·
  have hc2':=hc2;try simp only [bx,bV] at hc2'
  refine ae aa 1 rfl ?_
  refine aA ?_
  refine ax ?_
  refine dh (aF.nil 2 61 6 (by decide) rfl) ?_
  refine aq aa [0] 1 rfl rfl rfl rfl rfl rfl ?_ ?_
  ·(have h0:=hbn1 (by assumption);have h1:l=[]:=by (cases l with|nil=>rfl|cons=>simp at h0));subst h1;rfl
  ·(have h0:=hbn1 (by assumption);have h1:l=[]:=by (cases l with|nil=>rfl|cons=>simp at h0));subst h1;rfl
 have hc2':=hc2;try simp only [bx,bV] at hc2'
 refine aQ ?_
 refine eK ?_
 refine aT 1 [0] (ec (ys:=[]) (rows:=(([]:List (List D))).map id) 0 yl rfl (by decide) trivial rfl rfl rfl rfl) rfl ?_
 refine ad aa 1 rfl ?_
 refine aT 2 [1] (dE (m:=l.length) (N:=0+l.length) (k2:=1) (ys:=(l).map id) yl rfl rfl rfl rfl rfl rfl (by first|omega|(simp;omega)|(simp;done)) rfl (.d _ _) (by first|omega|(simp;omega)|(simp;done)) (by first|omega|(simp;omega)|(simp;done)) fM (by decide) (by first|omega|(simp;omega)|(simp;done)) (by first|omega|(simp;omega)|(simp;done))) rfl ?_
 refine ad aa 1 rfl ?_
 refine af ?_
 refine aA ?_
 refine aq aa [1] 1 rfl rfl rfl rfl rfl rfl ?_ ?_
 ·first|rfl|simp [fW,aC]
 ·first|rfl|simp

theorem kD (v w:Value) (b:Bk) (l1:b.al.length<=8) (l2:b.due.length<=8) (l3:b.au.length<=30) (l4:b.aS.length<=100):cM Try.prog 74 [(.c (.p 0 0 0 0))] [(0,(.box 98 (aZ b 1 2 3 4 (.d (.v v)) (.d (.v w))))),(1,(dV b.al)),(2,(dL b.due)),(3,(dY b.au)),(4,(cT b.aS))] [0] (.v (.c (.p 1 0 0 0))) [(0,(.box 98 (aZ b 2 3 4 5 (.d (.v v)) (.d (.v w))))),(1,(.box 147 (aZ b 6 7 8 9 (.d (.v v)) (cI 0)))),(2,(dV b.al)),(3,(dL b.due)),(4,(dY b.au)),(5,(cT b.aS)),(6,(dV b.al)),(7,(dL b.due)),(8,(dY b.au)),(9,(cT b.aS))]:=by
 refine cM.mk 51 [(0,(aC (.p 0 0 0 0)))] 5 Try.func74 rfl rfl rfl rfl rfl rfl rfl rfl rfl ?_
 intro W0 F0 T0 pg
 refine ae aa 1 rfl ?_
 refine ae aa 7 rfl ?_
 refine ag ?_
 refine di [0,3] [5,0,1,2,3,4] mixed rfl rfl ?_
 refine bW (kn:=[]) aa 9 rfl trivial ?_
 refine cb (n':=7) [18] [1] rfl rfl (.inl ⟨(ah.plain rfl),aJ.cast (BX 6 (fun l hl=>wo l (by rw [hl];first|omega|(simp;done)|(simp;omega))) Ha rfl rfl rfl rfl rfl (by simp)) rfl⟩) rfl ?_
 refine bW (kn:=[]) aa 5 rfl trivial ?_
 refine cb (n':=8) [24] [2] rfl rfl (.inl ⟨(ah.plain rfl),aJ.cast (ga 7 [2] (qw b.due (by first|omega|(simp;done)|(simp;omega))) EC rfl rfl ⟨⟨_,rfl,.c (.s rfl (by decide) (by first|omega|(simp;done)|(simp;omega)))⟩,trivial⟩ trivial ⟨(Ef _),trivial⟩ rfl rfl rfl rfl) rfl⟩) rfl ?_
 refine bW (kn:=[]) aa 5 rfl trivial ?_
 refine cb (n':=9) [30] [3] rfl rfl (.inl ⟨(ah.plain rfl),aJ.cast (ga 8 [3] (wq b.au (by first|omega|(simp;done)|(simp;omega))) GZ rfl rfl ⟨⟨_,rfl,.c (.s rfl (by decide) (by first|omega|(simp;done)|(simp;omega)))⟩,trivial⟩ trivial ⟨(Aj _),trivial⟩ rfl rfl rfl rfl) rfl⟩) rfl ?_
 refine bW (kn:=[]) aa 5 rfl trivial ?_
 refine cb (n':=10) [36] [4] rfl rfl (.inl ⟨(ah.plain rfl),aJ.cast (ga 9 [4] (mZ b.aS (by first|omega|(simp;done)|(simp;omega))) EP rfl rfl ⟨⟨_,rfl,.c (.s rfl (by decide) (by first|omega|(simp;done)|(simp;omega)))⟩,trivial⟩ trivial ⟨(wN _),trivial⟩ rfl rfl rfl rfl) rfl⟩) rfl ?_
 refine bW (kn:=[]) aa 16 rfl trivial ?_
 refine dW [3] [5,9,8,7,6,0,1,2,3,4] rfl rfl (by kernel_rfl) ?_
 refine then_ok ?_
 refine ae aa 2 rfl ?_
 refine aA ?_
 refine aq aa [0,5,1,2,3,4,6,7,8,9] 10 rfl rfl rfl rfl rfl rfl ?_ ?_
 all_goals first|rfl|(simp [aD,aZ,bm];done)|(simp [aD,aZ,bm];omega)
theorem fw (v w:Value) (b c:Bk) (e:Int) (he:e=0):cM Try.prog 77 [(.c (.p 0 0 0 0)),(.c (.p 1 0 0 0))] [(0,(.box 98 (aZ b 2 3 4 5 (.d (.v v)) (.d (.v w))))),(1,(.box 147 (aZ c 6 7 8 9 (.d (.v v)) (cI e)))),(2,(dV b.al)),(3,(dL b.due)),(4,(dY b.au)),(5,(cT b.aS)),(6,(dV c.al)),(7,(dL c.due)),(8,(dY c.au)),(9,(cT c.aS))] [0] (.v (.c (cI e))) [(0,(.box 98 (aZ c 1 2 3 4 (.d (.v v)) (.d (.v w))))),(1,(dV c.al)),(2,(dL c.due)),(3,(dY c.au)),(4,(cT c.aS))]:=by
 refine cM.mk 21 [(0,(aC (.p 0 0 0 0))),(1,(aC (.p 1 0 0 0)))] 10 Try.func77 rfl rfl rfl rfl rfl rfl rfl rfl rfl ?_
 intro W0 F0 T0 pg
 refine ae aa 1 rfl ?_
 refine ag ?_
 refine ae aa 5 rfl ?_
 refine aj rfl (fun hc1=>?_) (fun hc1=>?_)
 ·
  have hc1':=of_decide_eq_true hc1
  refine aw ?_
  refine ad aa 8 rfl ?_
  refine af ?_
  refine ae aa 5 rfl ?_
  refine aA ?_
  refine aq aa [0,6,7,8,9] 5 rfl rfl rfl rfl rfl rfl ?_ ?_
  all_goals first|rfl|(simp [aD,aZ,bm];done)|(simp [aD,aZ,bm];omega)
 have hc1':=of_decide_eq_false hc1
 (exfalso;simp_all)
theorem gh (v w:Value) (b c:Bk) (e:Int) (he:¬e=0):cM Try.prog 77 [(.c (.p 0 0 0 0)),(.c (.p 1 0 0 0))] [(0,(.box 98 (aZ b 2 3 4 5 (.d (.v v)) (.d (.v w))))),(1,(.box 147 (aZ c 6 7 8 9 (.d (.v v)) (cI e)))),(2,(dV b.al)),(3,(dL b.due)),(4,(dY b.au)),(5,(cT b.aS)),(6,(dV c.al)),(7,(dL c.due)),(8,(dY c.au)),(9,(cT c.aS))] [0] (.v (.c (cI e))) [(0,(.box 98 (aZ b 1 2 3 4 (.d (.v v)) (.d (.v w))))),(1,(dV b.al)),(2,(dL b.due)),(3,(dY b.au)),(4,(cT b.aS))]:=by
 refine cM.mk 21 [(0,(aC (.p 0 0 0 0))),(1,(aC (.p 1 0 0 0)))] 10 Try.func77 rfl rfl rfl rfl rfl rfl rfl rfl rfl ?_
 intro W0 F0 T0 pg
 refine ae aa 1 rfl ?_
 refine ag ?_
 refine ae aa 5 rfl ?_
 refine aj rfl (fun hc1=>?_) (fun hc1=>?_)
 ·
  have hc1':=of_decide_eq_true hc1
  (exfalso;simp_all)
 have hc1':=of_decide_eq_false hc1
 refine aQ ?_
 refine ae aa 5 rfl ?_
 refine aA ?_
 refine aq aa [0,2,3,4,5] 5 rfl rfl rfl rfl rfl rfl ?_ ?_
 all_goals first|rfl|(simp [aD,aZ,bm];done)|(simp [aD,aZ,bm];omega)

theorem Cs (x:Nat->Value) (hx:∀ i,(x i).oneCell'=true) (s0 s1:bS) (n0 n1:Int) (w0 w1:List cj) (idn kind aE move sum:Int) (l0:w0.length<=60) (l1:w1.length<=60) (m0:s0.kept.length<=40) (m1:s1.kept.length<=40) (v0:List cj) (v1:List cj) (a2:Answer) (hr:eE s0 s1 n0 n1 w0 w1 (⟨idn,kind,0,aE,move,sum⟩:bJ)=(v0,v1,a2)):cM Try.prog 66 [(.c (.p 0 0 0 0)),(.c (.q (dj (⟨idn,kind,0,aE,move,sum⟩:bJ)) 0))] [(0,(.box 98 (((((((((bm x).set 5 (cI s0.bq)).set 6 (ck s0.kept)).set 7 (cI s1.bq)).set 8 (ck s1.kept)).set 9 (cI n0)).set 10 (cI n1)).set 11 (cV w0)).set 12 (cV w1))))] [0] (.v (.g [cI a2.err,cI a2.bd])) [(0,(.box 98 (((((((((bm x).set 5 (cI s0.bq)).set 6 (ck s0.kept)).set 7 (cI s1.bq)).set 8 (ck s1.kept)).set 9 (cI n0)).set 10 (cI n1)).set 11 (cV v0)).set 12 (cV v1))))]:=by
 refine cM.Ed 83 [(0,(aC (.p 0 0 0 0))),(1,(aC (.q (dj (⟨idn,kind,0,aE,move,sum⟩:bJ)) 0)))] 1 Try.func66 rfl rfl rfl rfl rfl rfl rfl rfl rfl ?_
 intro W0 F0 T0 pg hF
 have hF0:∀ b,F0 b->(pg 0).g=b:=fun b hb=>by obtain ⟨k,hk,h⟩:=hF b hb;rw [List.mem_singleton.1 hk] at h;exact h
 refine ae aa 1 rfl ?_
 refine ag ?_
 refine cr 20 (false) ?_ ?_
 ·
  refine aw ?_
  refine ad aa 4 rfl ?_
  refine az (aK rfl rfl rfl (show _=some (Value.bool false) from rfl)) rfl ?_
  refine ad aa 7 rfl ?_
  refine af ?_
  exact aF.bF 12 rfl rfl (by first|(simp [];done)|(simp_all;done)|(exfalso;simp_all;done)|(simp_all;omega)) rfl
 refine aj rfl (fun hno=>by cases hno) (fun _=>?_)
 refine aQ ?_
 refine ae aa 6 rfl ?_
 refine aH aa 5 rfl ?_
 refine az (cC (i:=1) rfl rfl rfl Try.underlying38 gM rfl (by decide)) rfl ?_
 refine ad aa 1 rfl ?_
 refine aT 3 [2,1,0] (bU 2 (na w1 (by first|omega|(simp;done)|(simp;omega))) EI rfl rfl ⟨⟨_,rfl,.c (.d _)⟩,trivial⟩ trivial ⟨(fun _ _ _ _=>trivial),trivial⟩ rfl rfl rfl rfl) rfl ?_
 refine ad aa 1 rfl ?_
 refine af ?_
 refine ag ?_
 refine ag ?_
 refine aX [0,1,4,5,6] [2,1,0] mixed rfl rfl ?_
 refine ay (kn:=[]) aa 8 rfl trivial ?_
 refine aP (n':=3) [42,39] [0] rfl rfl (.inl ⟨(ah.plain rfl),aJ.cast (cC (i:=0) rfl rfl rfl Try.underlying35 jk rfl (by decide)) rfl⟩) rfl ?_
 refine ay (kn:=[]) aa 2 rfl trivial ?_
 refine aP (n':=3) [45] [] rfl rfl (.inl ⟨(ah.plain rfl),aJ.cast (bP rfl rfl rfl rfl rfl Try.underlying32) rfl⟩) rfl ?_
 refine ay (kn:=[]) aa 1 rfl trivial ?_
 refine bw [2,1,0] rfl rfl rfl rfl (by kernel_rfl) ?_
 refine af ?_
 refine aR ?_
 refine ch (β:=Nat×List cj) (fun (p:Nat×List cj)=>match p with|(q,m)=>⟨[(0,(aC (.p 0 0 0 0))),(1,(aC (.q (dj (⟨idn,kind,0,aE,move,sum⟩:bJ)) 0))),(4,(aC (.p 1 0 0 0))),(5,(aI 1)),(6,(aC (.s 2 0 5 m.length))),(45,(aC (ck s0.kept))),(46,(aI (↑s0.kept.length:Int))),(47,(aI (↑q:Int)))],[(2,(Fu m)),(1,(.box 65 [(cI 0),(cI 0)])),(0,(.box 98 (((((((((bm x).set 5 (cI s0.bq)).set 6 (ck s0.kept)).set 7 (cI s1.bq)).set 8 (ck s1.kept)).set 9 (cI n0)).set 10 (cI n1)).set 11 (cV w0)).set 12 (cV w1))))],3⟩) (fun (p:Nat×List cj)=>match p with|(q,m)=>q<=s0.kept.length/\m=w1++(s0.kept.take q).map (fun t=>(⟨t,-1⟩:cj))) (fun (p:Nat×List cj)=>match p with|(q,m)=>s0.kept.length - q) (0,w1) ?_ ?_ ?_
 ·exact ⟨by omega,by simp⟩
 ·exact aF.bL id (by refine ⟨?_,?_,?_,?_,?_,?_,?_,?_,trivial⟩<;>first|rfl|(simp only [ba];done)|(congr 3;omega)|(congr 4;omega)|(simp only [bb];rfl)) (by refine ⟨?_,?_,?_,trivial⟩<;>first|rfl|(simp only [ba];done)|(congr 3;omega)|(congr 4;omega)|(simp only [bb];rfl)) rfl
 rintro ⟨q,m⟩ ⟨hi0_0,hi0_1⟩
 have hml:m.length=w1.length+q:=by rw [hi0_1];simp;omega
 refine ae aa 1 rfl ?_
 refine ag ?_
 refine aj rfl (fun hc2=>?_) (fun hc2=>?_)
 ·
  have hc2':=of_decide_eq_true hc2
  refine aQ ?_
  refine ag ?_
  refine aR ?_
  refine eK ?_
  obtain ⟨x1,hx1⟩:=cg (xs:=s0.kept) (i:=q) (by first|omega|(simp;done)|(simp;omega))
  refine az (bX (i:=q) rfl rfl rfl Try.underlying32 jE (by first|omega|(simp;done)|(simp;omega)) (bj hx1)) rfl ?_
  refine ad aa 3 rfl ?_
  refine af ?_
  refine aw ?_
  refine ad aa 3 rfl ?_
  refine aT 5 [4,3,2,1,0] (ec (ys:=[(0,(.g [(cI x1.number),(cI x1.kind),(cI x1.bd),(cI x1.sum),(cI (-1))]))]) (rows:=([(⟨x1,(-1)⟩:cj)]).map fx) 4 mC rfl (by decide) ⟨⟨rfl,rfl⟩,trivial⟩ rfl rfl rfl rfl) rfl ?_
  refine aT 6 [5,4,3,1,0] (dE (m:=1) (N:=m.length+1) (k2:=5) (ys:=([(⟨x1,(-1)⟩:cj)]).map fx) mC rfl rfl rfl rfl rfl rfl (by first|omega|(simp;done)|(simp;omega)) rfl (.s rfl (by first|omega|(simp;done)|(simp;omega))) (by first|omega|(simp;done)|(simp;omega)) (by first|omega|(simp;done)|(simp;omega)) fM (by decide) (by first|omega|(simp;done)|(simp;omega)) (by first|omega|(simp;done)|(simp;omega))) rfl ?_
  refine ad aa 1 rfl ?_
  refine cf ?_
  refine bf ?_
  refine then_ok ?_
  refine aw ?_
  refine az (aK rfl rfl rfl (aL (by first|omega|(simp;done)|(simp;omega)))) rfl ?_
  refine ad aa 1 rfl ?_
  refine af ?_
  refine ⟨(q+1,m++([(⟨x1,(-1)⟩:cj)])),⟨by omega,by rw [List.take_add_one,hx1,List.map_append,<-List.append_assoc,<-hi0_1];rfl⟩,by first|omega|(simp;done)|(simp;omega),aF.bL (fun k=>if k=2 then 5 else k) (by refine ⟨?_,?_,?_,?_,?_,?_,?_,?_,trivial⟩<;>first|rfl|(simp only [ba];done)|(congr 3;omega)|(congr 4;omega)|(simp only [bb];rfl)|(first|exact cL rfl (by omega)|exact oS rfl (by simp only [List.length_append,List.length_cons,List.length_nil];omega))) (by refine ⟨?_,?_,?_,trivial⟩<;>first|rfl|(simp only [ba];done)|(congr 3;omega)|(congr 4;omega)|(simp only [bb];rfl)) rfl⟩
 have hc2':=of_decide_eq_false hc2
 refine bT ?_
 refine aN ?_
 refine aN ?_
 refine bA ?_
 refine then_ok ?_
 refine ag ?_
 refine aX [0,1,4,5,6,45,46,47] [2,1,0] mixed rfl rfl ?_
 refine ay (kn:=[]) aa 9 rfl trivial ?_
 refine aP (n':=3) [65,62] [0] rfl rfl (.inl ⟨(ah.plain rfl),aJ.cast (cC (i:=0) rfl rfl rfl Try.underlying36 fC rfl (by decide)) rfl⟩) rfl ?_
 refine ay (kn:=[]) aa 2 rfl trivial ?_
 refine aP (n':=4) [68] [] rfl rfl (.inl ⟨(ah.plain rfl),aJ.cast (ec (ys:=[(0,(.g [(cI 0),(cI 0),(cI 0),(cI 0),(cI n0)]))]) (rows:=([(⟨(⟨0,0,0,0⟩:bg),n0⟩:cj)]).map fx) 3 mC rfl (by decide) ⟨⟨rfl,rfl⟩,trivial⟩ rfl rfl rfl rfl) rfl⟩) rfl ?_
 refine aP (n':=5) [57,69] [3,2] rfl rfl (.inl ⟨(ah.plain rfl),aJ.cast (dE (m:=1) (N:=m.length+1) (k2:=4) (ys:=([(⟨(⟨0,0,0,0⟩:bg),n0⟩:cj)]).map fx) mC rfl rfl rfl rfl rfl rfl (by first|omega|(simp;done)|(simp;omega)) rfl (.s rfl (by first|omega|(simp;done)|(simp;omega))) (by first|omega|(simp;done)|(simp;omega)) (by first|omega|(simp;done)|(simp;omega)) fM (by decide) (by first|omega|(simp;done)|(simp;omega)) (by first|omega|(simp;done)|(simp;omega))) rfl⟩) rfl ?_
 refine bw [4,1,0] rfl rfl rfl rfl (by kernel_rfl) ?_
 refine ad aa 1 rfl ?_
 refine af ?_
 refine ag ?_
 refine aH aa 1 rfl ?_
 refine az (dy rfl rfl rfl rfl rfl Try.underlying37) rfl ?_
 refine ad aa 1 rfl ?_
 refine af ?_
 refine aj rfl (fun hc3=>?_) (fun hc3=>?_)
 ·
  have hc3':=of_decide_eq_true hc3
  refine ae aa 2 rfl ?_
  refine aA ?_
  refine ax ?_
  have hX:eE s0 s1 n0 n1 w0 w1 (⟨idn,kind,0,aE,move,sum⟩:bJ)=(w0,w1,(⟨5,0⟩:Answer)):=by
    (have ht:s0.kept.take q=s0.kept:=List.take_of_length_le (by omega));rw [ht] at hi0_1;unfold eE;dsimp only;rw [if_pos rfl];unfold iV jA;rw [<-hi0_1];first|rw [if_pos (by simp;omega)]|rw [if_neg (by simp;omega)]
  rw [hX] at hr;clear hX
  simp only [Prod.mk.injEq] at hr;obtain ⟨rfl,rfl,rfl⟩:=hr
  refine aq aa [0,1] 1 rfl rfl rfl rfl rfl rfl ?_ ?_
  all_goals first|rfl|(simp [aD,aZ,bm];done)|(simp [aD,aZ,bm];omega)
 have hc3':=of_decide_eq_false hc3
 refine aQ ?_
 refine ss (s':=[(0,(aC (.p 0 0 0 0))),(1,(aC (.q (dj (⟨idn,kind,0,aE,move,sum⟩:bJ)) 0))),(4,(aC (.p 1 0 0 0))),(5,(aI 1)),(6,(aC (cV (m++([(⟨(⟨0,0,0,0⟩:bg),n0⟩:cj)]))))),(45,(aC (ck s0.kept))),(46,(aI (↑s0.kept.length:Int))),(47,(aI (↑q:Int))),(70,(aC (cV (m++([(⟨(⟨0,0,0,0⟩:bg),n0⟩:cj)]))))),(71,(aC (cV (m++([(⟨(⟨0,0,0,0⟩:bg),n0⟩:cj)]))))),(72,(aI (↑(m.length+1):Int))),(73,(aB (decide ((↑(m.length+1):Int) > 60))))]) (h':=[(1,(.box 65 [(cI 0),(cI 0)])),(0,(.box 98 (((((((((bm x).set 5 (cI s0.bq)).set 6 (ck s0.kept)).set 7 (cI s1.bq)).set 8 (ck s1.kept)).set 9 (cI n0)).set 10 (cI n1)).set 11 (cV w0)).set 12 (cV w1))))]) hF0 4 rfl rfl ⟨⟨_,rfl,.inl ⟨rfl,rfl⟩⟩,⟨_,rfl,.inl ⟨rfl,rfl⟩⟩,⟨_,rfl,.inl ⟨rfl,rfl⟩⟩,⟨_,rfl,.inl ⟨rfl,rfl⟩⟩,⟨_,rfl,.inr ⟨_,_,rfl,rfl,.s rfl (by decide) (by first|omega|(simp;done)|(simp;omega))⟩⟩,⟨_,rfl,.inl ⟨rfl,rfl⟩⟩,⟨_,rfl,.inl ⟨rfl,rfl⟩⟩,⟨_,rfl,.inl ⟨rfl,rfl⟩⟩,⟨_,rfl,.inr ⟨_,_,rfl,rfl,.s rfl (by decide) (by first|omega|(simp;done)|(simp;omega))⟩⟩,⟨_,rfl,.inr ⟨_,_,rfl,rfl,.s rfl (by decide) (by first|omega|(simp;done)|(simp;omega))⟩⟩,⟨_,rfl,.inl ⟨rfl,rfl⟩⟩,⟨_,rfl,.inl ⟨rfl,rfl⟩⟩,trivial⟩ ⟨rfl,rfl,trivial⟩ rfl ?_
 refine aH aa 6 rfl ?_
 refine az (cC (i:=1) rfl rfl rfl Try.underlying38 gM rfl (by decide)) rfl ?_
 refine ad aa 1 rfl ?_
 refine af ?_
 refine ae aa 2 rfl ?_
 refine aA ?_
 have hX:eE s0 s1 n0 n1 w0 w1 (⟨idn,kind,0,aE,move,sum⟩:bJ)=(w0,m++([(⟨(⟨0,0,0,0⟩:bg),n0⟩:cj)]),(⟨0,0⟩:Answer)):=by
   (have ht:s0.kept.take q=s0.kept:=List.take_of_length_le (by omega));rw [ht] at hi0_1;unfold eE;dsimp only;rw [if_pos rfl];unfold iV jA;rw [<-hi0_1];first|rw [if_pos (by simp;omega)]|rw [if_neg (by simp;omega)]
 rw [hX] at hr;clear hX
 simp only [Prod.mk.injEq] at hr;obtain ⟨rfl,rfl,rfl⟩:=hr
 refine aq aa [0,1] 1 rfl rfl rfl rfl rfl rfl ?_ ?_
 all_goals first|rfl|(simp [aD,aZ,bm];done)|(simp [aD,aZ,bm];omega)
theorem Cq (x:Nat->Value) (hx:∀ i,(x i).oneCell'=true) (s0 s1:bS) (n0 n1:Int) (w0 w1:List cj) (idn kind aE move sum:Int) (l0:w0.length<=60) (l1:w1.length<=60) (m0:s0.kept.length<=40) (m1:s1.kept.length<=40) (v0:List cj) (v1:List cj) (a2:Answer) (hr:eE s0 s1 n0 n1 w0 w1 (⟨idn,kind,1,aE,move,sum⟩:bJ)=(v0,v1,a2)):cM Try.prog 66 [(.c (.p 0 0 0 0)),(.c (.q (dj (⟨idn,kind,1,aE,move,sum⟩:bJ)) 0))] [(0,(.box 98 (((((((((bm x).set 5 (cI s0.bq)).set 6 (ck s0.kept)).set 7 (cI s1.bq)).set 8 (ck s1.kept)).set 9 (cI n0)).set 10 (cI n1)).set 11 (cV w0)).set 12 (cV w1))))] [0] (.v (.g [cI a2.err,cI a2.bd])) [(0,(.box 98 (((((((((bm x).set 5 (cI s0.bq)).set 6 (ck s0.kept)).set 7 (cI s1.bq)).set 8 (ck s1.kept)).set 9 (cI n0)).set 10 (cI n1)).set 11 (cV v0)).set 12 (cV v1))))]:=by
 refine cM.Ed 83 [(0,(aC (.p 0 0 0 0))),(1,(aC (.q (dj (⟨idn,kind,1,aE,move,sum⟩:bJ)) 0)))] 1 Try.func66 rfl rfl rfl rfl rfl rfl rfl rfl rfl ?_
 intro W0 F0 T0 pg hF
 have hF0:∀ b,F0 b->(pg 0).g=b:=fun b hb=>by obtain ⟨k,hk,h⟩:=hF b hb;rw [List.mem_singleton.1 hk] at h;exact h
 refine ae aa 1 rfl ?_
 refine ag ?_
 refine cr 20 (false) ?_ ?_
 ·
  refine aw ?_
  refine ad aa 4 rfl ?_
  refine az (aK rfl rfl rfl (show _=some (Value.bool true) from rfl)) rfl ?_
  refine ad aa 5 rfl ?_
  refine cD (ah.yes rfl rfl rfl) (aK rfl rfl rfl (show _=some (Value.bool false) from rfl)) rfl rfl ?_
  refine ad aa 1 rfl ?_
  refine af ?_
  exact aF.bF 12 rfl rfl (by first|(simp [];done)|(simp_all;done)|(exfalso;simp_all;done)|(simp_all;omega)) rfl
 refine aj rfl (fun hno=>by cases hno) (fun _=>?_)
 refine aQ ?_
 refine ae aa 6 rfl ?_
 refine aH aa 5 rfl ?_
 refine az (cC (i:=0) rfl rfl rfl Try.underlying38 gM rfl (by decide)) rfl ?_
 refine ad aa 1 rfl ?_
 refine aT 3 [2,1,0] (bU 2 (na w0 (by first|omega|(simp;done)|(simp;omega))) EI rfl rfl ⟨⟨_,rfl,.c (.d _)⟩,trivial⟩ trivial ⟨(fun _ _ _ _=>trivial),trivial⟩ rfl rfl rfl rfl) rfl ?_
 refine ad aa 1 rfl ?_
 refine af ?_
 refine ag ?_
 refine ag ?_
 refine aX [0,1,4,5,6] [2,1,0] mixed rfl rfl ?_
 refine ay (kn:=[]) aa 8 rfl trivial ?_
 refine aP (n':=3) [42,39] [0] rfl rfl (.inl ⟨(ah.plain rfl),aJ.cast (cC (i:=1) rfl rfl rfl Try.underlying35 jk rfl (by decide)) rfl⟩) rfl ?_
 refine ay (kn:=[]) aa 2 rfl trivial ?_
 refine aP (n':=3) [45] [] rfl rfl (.inl ⟨(ah.plain rfl),aJ.cast (bP rfl rfl rfl rfl rfl Try.underlying32) rfl⟩) rfl ?_
 refine ay (kn:=[]) aa 1 rfl trivial ?_
 refine bw [2,1,0] rfl rfl rfl rfl (by kernel_rfl) ?_
 refine af ?_
 refine aR ?_
 refine ch (β:=Nat×List cj) (fun (p:Nat×List cj)=>match p with|(q,m)=>⟨[(0,(aC (.p 0 0 0 0))),(1,(aC (.q (dj (⟨idn,kind,1,aE,move,sum⟩:bJ)) 0))),(4,(aC (.p 1 0 0 0))),(5,(aI 0)),(6,(aC (.s 2 0 5 m.length))),(45,(aC (ck s1.kept))),(46,(aI (↑s1.kept.length:Int))),(47,(aI (↑q:Int)))],[(2,(Fu m)),(1,(.box 65 [(cI 0),(cI 0)])),(0,(.box 98 (((((((((bm x).set 5 (cI s0.bq)).set 6 (ck s0.kept)).set 7 (cI s1.bq)).set 8 (ck s1.kept)).set 9 (cI n0)).set 10 (cI n1)).set 11 (cV w0)).set 12 (cV w1))))],3⟩) (fun (p:Nat×List cj)=>match p with|(q,m)=>q<=s1.kept.length/\m=w0++(s1.kept.take q).map (fun t=>(⟨t,-1⟩:cj))) (fun (p:Nat×List cj)=>match p with|(q,m)=>s1.kept.length - q) (0,w0) ?_ ?_ ?_
 ·exact ⟨by omega,by simp⟩
 ·exact aF.bL id (by refine ⟨?_,?_,?_,?_,?_,?_,?_,?_,trivial⟩<;>first|rfl|(simp only [ba];done)|(congr 3;omega)|(congr 4;omega)|(simp only [bb];rfl)) (by refine ⟨?_,?_,?_,trivial⟩<;>first|rfl|(simp only [ba];done)|(congr 3;omega)|(congr 4;omega)|(simp only [bb];rfl)) rfl
 rintro ⟨q,m⟩ ⟨hi0_0,hi0_1⟩
 have hml:m.length=w0.length+q:=by rw [hi0_1];simp;omega
 refine ae aa 1 rfl ?_
 refine ag ?_
 refine aj rfl (fun hc2=>?_) (fun hc2=>?_)
 ·
  have hc2':=of_decide_eq_true hc2
  refine aQ ?_
  refine ag ?_
  refine aR ?_
  refine eK ?_
  obtain ⟨x1,hx1⟩:=cg (xs:=s1.kept) (i:=q) (by first|omega|(simp;done)|(simp;omega))
  refine az (bX (i:=q) rfl rfl rfl Try.underlying32 jE (by first|omega|(simp;done)|(simp;omega)) (bj hx1)) rfl ?_
  refine ad aa 3 rfl ?_
  refine af ?_
  refine aw ?_
  refine ad aa 3 rfl ?_
  refine aT 5 [4,3,2,1,0] (ec (ys:=[(0,(.g [(cI x1.number),(cI x1.kind),(cI x1.bd),(cI x1.sum),(cI (-1))]))]) (rows:=([(⟨x1,(-1)⟩:cj)]).map fx) 4 mC rfl (by decide) ⟨⟨rfl,rfl⟩,trivial⟩ rfl rfl rfl rfl) rfl ?_
  refine aT 6 [5,4,3,1,0] (dE (m:=1) (N:=m.length+1) (k2:=5) (ys:=([(⟨x1,(-1)⟩:cj)]).map fx) mC rfl rfl rfl rfl rfl rfl (by first|omega|(simp;done)|(simp;omega)) rfl (.s rfl (by first|omega|(simp;done)|(simp;omega))) (by first|omega|(simp;done)|(simp;omega)) (by first|omega|(simp;done)|(simp;omega)) fM (by decide) (by first|omega|(simp;done)|(simp;omega)) (by first|omega|(simp;done)|(simp;omega))) rfl ?_
  refine ad aa 1 rfl ?_
  refine cf ?_
  refine bf ?_
  refine then_ok ?_
  refine aw ?_
  refine az (aK rfl rfl rfl (aL (by first|omega|(simp;done)|(simp;omega)))) rfl ?_
  refine ad aa 1 rfl ?_
  refine af ?_
  refine ⟨(q+1,m++([(⟨x1,(-1)⟩:cj)])),⟨by omega,by rw [List.take_add_one,hx1,List.map_append,<-List.append_assoc,<-hi0_1];rfl⟩,by first|omega|(simp;done)|(simp;omega),aF.bL (fun k=>if k=2 then 5 else k) (by refine ⟨?_,?_,?_,?_,?_,?_,?_,?_,trivial⟩<;>first|rfl|(simp only [ba];done)|(congr 3;omega)|(congr 4;omega)|(simp only [bb];rfl)|(first|exact cL rfl (by omega)|exact oS rfl (by simp only [List.length_append,List.length_cons,List.length_nil];omega))) (by refine ⟨?_,?_,?_,trivial⟩<;>first|rfl|(simp only [ba];done)|(congr 3;omega)|(congr 4;omega)|(simp only [bb];rfl)) rfl⟩
 have hc2':=of_decide_eq_false hc2
 refine bT ?_
 refine aN ?_
 refine aN ?_
 refine bA ?_
 refine then_ok ?_
 refine ag ?_
 refine aX [0,1,4,5,6,45,46,47] [2,1,0] mixed rfl rfl ?_
 refine ay (kn:=[]) aa 9 rfl trivial ?_
 refine aP (n':=3) [65,62] [0] rfl rfl (.inl ⟨(ah.plain rfl),aJ.cast (cC (i:=1) rfl rfl rfl Try.underlying36 fC rfl (by decide)) rfl⟩) rfl ?_
 refine ay (kn:=[]) aa 2 rfl trivial ?_
 refine aP (n':=4) [68] [] rfl rfl (.inl ⟨(ah.plain rfl),aJ.cast (ec (ys:=[(0,(.g [(cI 0),(cI 0),(cI 0),(cI 0),(cI n1)]))]) (rows:=([(⟨(⟨0,0,0,0⟩:bg),n1⟩:cj)]).map fx) 3 mC rfl (by decide) ⟨⟨rfl,rfl⟩,trivial⟩ rfl rfl rfl rfl) rfl⟩) rfl ?_
 refine aP (n':=5) [57,69] [3,2] rfl rfl (.inl ⟨(ah.plain rfl),aJ.cast (dE (m:=1) (N:=m.length+1) (k2:=4) (ys:=([(⟨(⟨0,0,0,0⟩:bg),n1⟩:cj)]).map fx) mC rfl rfl rfl rfl rfl rfl (by first|omega|(simp;done)|(simp;omega)) rfl (.s rfl (by first|omega|(simp;done)|(simp;omega))) (by first|omega|(simp;done)|(simp;omega)) (by first|omega|(simp;done)|(simp;omega)) fM (by decide) (by first|omega|(simp;done)|(simp;omega)) (by first|omega|(simp;done)|(simp;omega))) rfl⟩) rfl ?_
 refine bw [4,1,0] rfl rfl rfl rfl (by kernel_rfl) ?_
 refine ad aa 1 rfl ?_
 refine af ?_
 refine ag ?_
 refine aH aa 1 rfl ?_
 refine az (dy rfl rfl rfl rfl rfl Try.underlying37) rfl ?_
 refine ad aa 1 rfl ?_
 refine af ?_
 refine aj rfl (fun hc3=>?_) (fun hc3=>?_)
 ·
  have hc3':=of_decide_eq_true hc3
  refine ae aa 2 rfl ?_
  refine aA ?_
  refine ax ?_
  have hX:eE s0 s1 n0 n1 w0 w1 (⟨idn,kind,1,aE,move,sum⟩:bJ)=(w0,w1,(⟨5,0⟩:Answer)):=by
    (have ht:s1.kept.take q=s1.kept:=List.take_of_length_le (by omega));rw [ht] at hi0_1;unfold eE;dsimp only;rw [if_neg (by decide),if_pos rfl];unfold iV jA;rw [<-hi0_1];first|rw [if_pos (by simp;omega)]|rw [if_neg (by simp;omega)]
  rw [hX] at hr;clear hX
  simp only [Prod.mk.injEq] at hr;obtain ⟨rfl,rfl,rfl⟩:=hr
  refine aq aa [0,1] 1 rfl rfl rfl rfl rfl rfl ?_ ?_
  all_goals first|rfl|(simp [aD,aZ,bm];done)|(simp [aD,aZ,bm];omega)
 have hc3':=of_decide_eq_false hc3
 refine aQ ?_
 refine ss (s':=[(0,(aC (.p 0 0 0 0))),(1,(aC (.q (dj (⟨idn,kind,1,aE,move,sum⟩:bJ)) 0))),(4,(aC (.p 1 0 0 0))),(5,(aI 0)),(6,(aC (cV (m++([(⟨(⟨0,0,0,0⟩:bg),n1⟩:cj)]))))),(45,(aC (ck s1.kept))),(46,(aI (↑s1.kept.length:Int))),(47,(aI (↑q:Int))),(70,(aC (cV (m++([(⟨(⟨0,0,0,0⟩:bg),n1⟩:cj)]))))),(71,(aC (cV (m++([(⟨(⟨0,0,0,0⟩:bg),n1⟩:cj)]))))),(72,(aI (↑(m.length+1):Int))),(73,(aB (decide ((↑(m.length+1):Int) > 60))))]) (h':=[(1,(.box 65 [(cI 0),(cI 0)])),(0,(.box 98 (((((((((bm x).set 5 (cI s0.bq)).set 6 (ck s0.kept)).set 7 (cI s1.bq)).set 8 (ck s1.kept)).set 9 (cI n0)).set 10 (cI n1)).set 11 (cV w0)).set 12 (cV w1))))]) hF0 4 rfl rfl ⟨⟨_,rfl,.inl ⟨rfl,rfl⟩⟩,⟨_,rfl,.inl ⟨rfl,rfl⟩⟩,⟨_,rfl,.inl ⟨rfl,rfl⟩⟩,⟨_,rfl,.inl ⟨rfl,rfl⟩⟩,⟨_,rfl,.inr ⟨_,_,rfl,rfl,.s rfl (by decide) (by first|omega|(simp;done)|(simp;omega))⟩⟩,⟨_,rfl,.inl ⟨rfl,rfl⟩⟩,⟨_,rfl,.inl ⟨rfl,rfl⟩⟩,⟨_,rfl,.inl ⟨rfl,rfl⟩⟩,⟨_,rfl,.inr ⟨_,_,rfl,rfl,.s rfl (by decide) (by first|omega|(simp;done)|(simp;omega))⟩⟩,⟨_,rfl,.inr ⟨_,_,rfl,rfl,.s rfl (by decide) (by first|omega|(simp;done)|(simp;omega))⟩⟩,⟨_,rfl,.inl ⟨rfl,rfl⟩⟩,⟨_,rfl,.inl ⟨rfl,rfl⟩⟩,trivial⟩ ⟨rfl,rfl,trivial⟩ rfl ?_
 refine aH aa 6 rfl ?_
 refine az (cC (i:=0) rfl rfl rfl Try.underlying38 gM rfl (by decide)) rfl ?_
 refine ad aa 1 rfl ?_
 refine af ?_
 refine ae aa 2 rfl ?_
 refine aA ?_
 have hX:eE s0 s1 n0 n1 w0 w1 (⟨idn,kind,1,aE,move,sum⟩:bJ)=(m++([(⟨(⟨0,0,0,0⟩:bg),n1⟩:cj)]),w1,(⟨0,0⟩:Answer)):=by
   (have ht:s1.kept.take q=s1.kept:=List.take_of_length_le (by omega));rw [ht] at hi0_1;unfold eE;dsimp only;rw [if_neg (by decide),if_pos rfl];unfold iV jA;rw [<-hi0_1];first|rw [if_pos (by simp;omega)]|rw [if_neg (by simp;omega)]
 rw [hX] at hr;clear hX
 simp only [Prod.mk.injEq] at hr;obtain ⟨rfl,rfl,rfl⟩:=hr
 refine aq aa [0,1] 1 rfl rfl rfl rfl rfl rfl ?_ ?_
 all_goals first|rfl|(simp [aD,aZ,bm];done)|(simp [aD,aZ,bm];omega)
theorem Cp (x:Nat->Value) (hx:∀ i,(x i).oneCell'=true) (s0 s1:bS) (n0 n1:Int) (w0 w1:List cj) (d:bJ) (l0:w0.length<=60) (l1:w1.length<=60) (m0:s0.kept.length<=40) (m1:s1.kept.length<=40) (hn:¬d.n=0/\¬d.n=1) (v0:List cj) (v1:List cj) (a2:Answer) (hr:eE s0 s1 n0 n1 w0 w1 d=(v0,v1,a2)):cM Try.prog 66 [(.c (.p 0 0 0 0)),(.c (.q (dj d) 0))] [(0,(.box 98 (((((((((bm x).set 5 (cI s0.bq)).set 6 (ck s0.kept)).set 7 (cI s1.bq)).set 8 (ck s1.kept)).set 9 (cI n0)).set 10 (cI n1)).set 11 (cV w0)).set 12 (cV w1))))] [0] (.v (.g [cI a2.err,cI a2.bd])) [(0,(.box 98 (((((((((bm x).set 5 (cI s0.bq)).set 6 (ck s0.kept)).set 7 (cI s1.bq)).set 8 (ck s1.kept)).set 9 (cI n0)).set 10 (cI n1)).set 11 (cV v0)).set 12 (cV v1))))]:=by
 refine cM.Ed 83 [(0,(aC (.p 0 0 0 0))),(1,(aC (.q (dj d) 0)))] 1 Try.func66 rfl rfl rfl rfl rfl rfl rfl rfl rfl ?_
 intro W0 F0 T0 pg hF
 have hF0:∀ b,F0 b->(pg 0).g=b:=fun b hb=>by obtain ⟨k,hk,h⟩:=hF b hb;rw [List.mem_singleton.1 hk] at h;exact h
 refine ae aa 1 rfl ?_
 refine ag ?_
 refine cr 20 ((decide (¬d.n=0)) && (decide (¬d.n=1))) ?_ ?_
 ·
  refine aw ?_
  refine ad aa 6 rfl ?_
  refine bK (t:=14) rfl (fun hb1=>?_) (fun hb1=>?_)
  ·
   have hb1':=of_decide_eq_true hb1
   refine ad aa 6 rfl ?_
   refine af ?_
   exact aF.bF 13 rfl rfl (by first|(simp [hb1];done)|(simp_all;done)|(exfalso;simp_all;done)|(simp_all;omega)) rfl
  have hb1':=of_decide_eq_false hb1
  refine ad aa 6 rfl ?_
  refine af ?_
  exact aF.bF 13 rfl rfl (by first|(simp [hb1];done)|(simp_all;done)|(exfalso;simp_all;done)|(simp_all;omega)) rfl
 refine aj rfl (fun hc2=>?_) (fun hc2=>?_)
 ·
  have hc2':=hc2;try simp only [bx,bV] at hc2'
  refine ae aa 2 rfl ?_
  refine aA ?_
  refine ax ?_
  have hX:eE s0 s1 n0 n1 w0 w1 d=(w0,w1,(⟨6,0⟩:Answer)):=by
    unfold eE;rw [if_neg hn.1,if_neg hn.2]
  rw [hX] at hr;clear hX
  simp only [Prod.mk.injEq] at hr;obtain ⟨rfl,rfl,rfl⟩:=hr
  refine aq aa [0,1] 1 rfl rfl rfl rfl rfl rfl ?_ ?_
  all_goals first|rfl|(simp [aD,aZ,bm];done)|(simp [aD,aZ,bm];omega)
 have hc2':=hc2;try simp only [bx,bV] at hc2'
 (exfalso;simp at *;omega)
theorem Fh (x:Nat->Value) (hx:∀ i,(x i).oneCell'=true) (aS:List ar) (days:List (List Int)) (l0:aS.length<=100) (l1:days.length<=1000) (today2:List ar) (days2:List (List Int)) (a2:Answer) (hr:iY aS days=(today2,days2,a2)):cM Try.prog 69 [(.c (.p 0 0 0 0))] [(0,(.box 98 (((bm x).set 16 (.s 1 0 4 aS.length)).set 17 (.s 2 0 1 days.length)))),(1,(cT aS)),(2,(qz days))] [0] (.v (.g [cI a2.err,cI a2.bd])) [(0,(.box 98 (((bm x).set 16 (.s 1 0 4 today2.length)).set 17 (.s 2 0 1 days2.length)))),(1,(cT today2)),(2,(qz days2))]:=by
 refine cM.mk 37 [(0,(aC (.p 0 0 0 0)))] 3 Try.func69 rfl rfl rfl rfl rfl rfl rfl rfl rfl ?_
 intro W0 F0 T0 pg
 refine ae aa 1 rfl ?_
 refine aH aa 5 rfl ?_
 obtain ⟨xr0,f0,hr0⟩:∃ (xr0:List Int) (f0:dc),kf aS=(xr0,f0):=⟨_,_,rfl⟩
 refine Fz (av':=(.t [(.c (DK xr0)),(.g [(cI f0.err),(cI f0.at_)])])) (ah.plain rfl) (ga 4 [1] (wX aS (by first|omega|(simp;done)|(simp;omega)) xr0 f0 hr0) Hb rfl rfl ⟨⟨_,rfl,.c (.s rfl (by decide) (by first|omega|(simp;done)|(simp;omega)))⟩,trivial⟩ ⟨trivial,⟨rfl,rfl,trivial⟩,trivial⟩ ⟨(Dp _),trivial⟩ rfl rfl rfl rfl) ⟨.inr ⟨_,_,_,_,_,rfl,rfl,rfl,by simp⟩,⟨.inl ⟨_,rfl,rfl⟩,.inl ⟨_,rfl,rfl⟩,trivial⟩,trivial⟩ rfl rfl rfl ?_
 refine ad aa 6 rfl ?_
 refine af ?_
 refine ag ?_
 refine ae aa 3 rfl ?_
 refine aj rfl (fun hc1=>?_) (fun hc1=>?_)
 ·
  have hc1':=of_decide_eq_true hc1
  refine ae aa 4 rfl ?_
  refine aA ?_
  refine ax ?_
  have hX:iY aS days=(aS,days,(⟨f0.err,0⟩:Answer)):=by
    unfold iY;simp only [hr0];(repeat' split)<;>first|rfl|omega|(simp_all;done)
  rw [hX] at hr;clear hX
  simp only [Prod.mk.injEq] at hr;obtain ⟨rfl,rfl,rfl⟩:=hr
  refine aq aa [0,1,2,3] 3 rfl rfl rfl rfl rfl rfl ?_ ?_
  all_goals first|rfl|(simp [aD,aZ,bm];done)|(simp [aD,aZ,bm];omega)
 have hc1':=of_decide_eq_false hc1
 refine aQ ?_
 refine aH aa 7 rfl ?_
 refine aT 6 [5,4,3,0,1,2] (ec (ys:=[(0,(.c (DK xr0)))]) (rows:=([xr0]).map sI) 5 DQ rfl (by decide) ⟨⟨rfl,rfl⟩,trivial⟩ rfl rfl rfl rfl) rfl ?_
 refine aT 7 [6,5,4,3,0,1] (dE (m:=1) (N:=days.length+1) (k2:=6) (ys:=([xr0]).map sI) DQ rfl rfl rfl rfl rfl rfl (by first|omega|(simp;done)|(simp;omega)) rfl (.s rfl (by first|omega|(simp;done)|(simp;omega))) (by first|omega|(simp;done)|(simp;omega)) (by first|omega|(simp;done)|(simp;omega)) fM (by decide) (by first|omega|(simp;done)|(simp;omega)) (by first|omega|(simp;done)|(simp;omega))) rfl ?_
 refine ad aa 4 rfl ?_
 refine af ?_
 refine fF (k:=0) (q:=17) (c':=(.s 6 0 1 ((days++([xr0])).length))) rfl rfl (by first|rfl|(simp;done)|(congr 1;omega)) rfl ?_
 refine ae aa 5 rfl ?_
 refine ae aa 2 rfl ?_
 refine aA ?_
 refine ct 0 16 83 4 rfl rfl rfl ?_
 have hX:iY aS days=(([]:List ar),days++([xr0]),(⟨0,0⟩:Answer)):=by
   unfold iY;simp only [hr0];(repeat' split)<;>first|rfl|omega|(simp_all;done)
 rw [hX] at hr;clear hX
 simp only [Prod.mk.injEq] at hr;obtain ⟨rfl,rfl,rfl⟩:=hr
 refine aq aa [0,7,6,3] 3 rfl rfl rfl rfl rfl rfl ?_ ?_
 all_goals first|rfl|(simp [aD,aZ,bm];done)|(simp [aD,aZ,bm];omega)
end Go.Proofs.Ytegepioggeggaaa.Dev
