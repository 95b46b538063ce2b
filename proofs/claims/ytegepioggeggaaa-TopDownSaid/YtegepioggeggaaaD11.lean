/- A part of the proof: Sort7, Day1, Day4, Day5, Bank1, Bank2, Bank3, Clones, Bank4, Bank7. No condition. -/
import Derived.Test.YtegepioggeggaaaD10
set_option linter.unusedVariables false
set_option linter.unusedSimpArgs false
set_option maxHeartbeats 4000000
set_option maxRecDepth 100000
namespace Go.Proofs.Ytegepioggeggaaa.Dev
open Go.RowKit

theorem vn (d:List al) (a b:Int) (fn:FuncId) (aT:List (List D)) (hp:∀ x y:al,Fn Try.prog fn ([.g [cI x.ay,cI x.ba,cI x.kind,cI x.sum],.g [cI y.ay,cI y.ba,cI y.kind,cI y.sum]]++aT.map fun r=>GV.c (.q r 0)) (aI (gM x y)) []) (hen:bc Try.prog fn) (h1:b<=a+1) (h2:0<=a/\a<=9223372036854775806):Fn Try.prog 72 [(.c (iM d)),(.c (cI a)),(.c (cI b)),(.c (.d (.f fn aT)))] (.t []) []:=by
 refine Fn.mk' 53 [(0,(aC (iM d))),(1,(aI a)),(2,(aI b)),(3,(aC (.d (.f fn aT))))] Try.func72 rfl rfl rfl rfl ?_
 intro W0 T0
 refine dz 0 rfl (fun hlen0=>?_)
 refine az aa 1 rfl ?_
 refine ax (aJ rfl rfl rfl (aE (by first|omega|(simp;done)|(simp;omega)))) rfl ?_
 refine ab aa 1 rfl ?_
 refine ae ?_
 refine aV ?_
 refine cu (β:=Nat) (fun (z:Nat)=>⟨[(0,(aC (iM d))),(1,(aI a)),(2,(aI b)),(3,(aC (.d (.f fn aT)))),(8,(aI (a+1)))],[],0⟩) (fun (z:Nat)=>True) (fun (z:Nat)=>0) 0 ?_ ?_ ?_
 ·trivial
 ·exact aD.bZ id (by refine ⟨?_,?_,?_,?_,?_,trivial⟩<;>first|rfl|(simp only [bq];done)|(congr 3;omega)|(congr 4;omega)|(simp only [br];rfl)) (trivial) rfl
 rintro z _
 refine af ?_
 refine ad aa 3 rfl ?_
 refine ag rfl (fun hc1=>?_) (fun hc1=>?_)
 ·
  have hc1':=of_decide_eq_true hc1
  exfalso;omega
 have hc1':=of_decide_eq_false hc1
 refine cp ?_
 refine aP ?_
 refine aP ?_
 refine bP ?_
 refine cC aa [] 0 rfl rfl rfl rfl rfl rfl ?_ ?_
 all_goals first|rfl|(simp [ar];done)|(simp [ar];omega)
theorem zC (d:List al) (n:Int) (fn:FuncId) (aT:List (List D)) (hp:∀ x y:al,Fn Try.prog fn ([.g [cI x.ay,cI x.ba,cI x.kind,cI x.sum],.g [cI y.ay,cI y.ba,cI y.kind,cI y.sum]]++aT.map fun r=>GV.c (.q r 0)) (aI (gM x y)) []) (hen:bc Try.prog fn) (h:n=0):Fn Try.prog 61 [(.c (iM d)),(.c (cI n)),(.c (.d (.f fn aT)))] (.t []) []:=by
 refine Fn.mk' 63 [(0,(aC (iM d))),(1,(aI n)),(2,(aC (.d (.f fn aT))))] Try.func61 rfl rfl rfl rfl ?_
 intro W0 T0
 refine dz 0 rfl (fun hlen0=>?_)
 refine ad aa 1 rfl ?_
 refine ad aa 3 rfl ?_
 refine af ?_
 refine aV ?_
 refine cu (β:=Nat) (fun (z:Nat)=>⟨[(0,(aC (iM d))),(1,(aI n)),(2,(aC (.d (.f fn aT)))),(6,(aI 20)),(7,(aI 0)),(8,(aI 20))],[],0⟩) (fun (z:Nat)=>True) (fun (z:Nat)=>0) 0 ?_ ?_ ?_
 ·trivial
 ·exact aD.bZ id (by refine ⟨?_,?_,?_,?_,?_,?_,trivial⟩<;>first|rfl|(simp only [bq];done)|(congr 3;omega)|(congr 4;omega)|(simp only [br];rfl)) (trivial) rfl
 rintro z _
 refine af ?_
 refine ad aa 3 rfl ?_
 refine ag rfl (fun hc1=>?_) (fun hc1=>?_)
 ·
  have hc1':=of_decide_eq_true hc1
  exfalso;omega
 have hc1':=of_decide_eq_false hc1
 refine cp ?_
 refine aP ?_
 refine aP ?_
 refine bP ?_
 refine then_ok ?_
 refine az aa 4 rfl ?_
 refine aL 0 [] (bI 0 (vn d 0 n fn aT hp hen (by first|omega|(simp;done)|(simp;omega)) (by first|omega|(simp;done)|(simp;omega))) AS rfl rfl ⟨⟨_,rfl,.c (.d _)⟩,⟨_,rfl,.c (.d _)⟩,⟨_,rfl,.c (.d _)⟩,⟨_,rfl,.c (.d _)⟩,trivial⟩ trivial trivial rfl rfl rfl rfl) rfl ?_
 refine ae ?_
 refine aV ?_
 refine cu (β:=Nat) (fun (z:Nat)=>⟨[(0,(aC (iM d))),(1,(aI n)),(2,(aC (.d (.f fn aT)))),(6,(aI 20))],[],0⟩) (fun (z:Nat)=>True) (fun (z:Nat)=>0) 0 ?_ ?_ ?_
 ·trivial
 ·exact aD.bZ id (by refine ⟨?_,?_,?_,?_,trivial⟩<;>first|rfl|(simp only [bq];done)|(congr 3;omega)|(congr 4;omega)|(simp only [br];rfl)) (trivial) rfl
 rintro z _
 refine af ?_
 refine ad aa 3 rfl ?_
 refine ag rfl (fun hc2=>?_) (fun hc2=>?_)
 ·
  have hc2':=of_decide_eq_true hc2
  exfalso;omega
 have hc2':=of_decide_eq_false hc2
 refine cp ?_
 refine aP ?_
 refine aP ?_
 refine bP ?_
 refine cC aa [] 0 rfl rfl rfl rfl rfl rfl ?_ ?_
 all_goals first|rfl|(simp [ar];done)|(simp [ar];omega)
theorem tK (d:List al) (fn:FuncId) (aT:List (List D)) (hp:∀ x y:al,Fn Try.prog fn ([.g [cI x.ay,cI x.ba,cI x.kind,cI x.sum],.g [cI y.ay,cI y.ba,cI y.kind,cI y.sum]]++aT.map fun r=>GV.c (.q r 0)) (aI (gM x y)) []) (hen:bc Try.prog fn) (h:d.length=0):Fn Try.prog 55 [(.c (iM d)),(.c (.d (.f fn aT)))] (.t []) []:=by
 refine Fn.mk' 9 [(0,(aC (iM d))),(1,(aC (.d (.f fn aT))))] Try.func55 rfl rfl rfl rfl ?_
 intro W0 T0
 refine dz 0 rfl (fun hlen0=>?_)
 refine aw ?_
 refine ab aa 2 rfl ?_
 refine ax (cT rfl rfl rfl rfl rfl Try.underlying42) rfl ?_
 refine ab aa 1 rfl ?_
 refine aL 0 [] (bI 0 (zC d (↑d.length:Int) fn aT hp hen (by first|omega|(simp;done)|(simp;omega))) DN rfl rfl ⟨⟨_,rfl,.c (.d _)⟩,⟨_,rfl,.c (.d _)⟩,⟨_,rfl,.c (.d _)⟩,trivial⟩ trivial trivial rfl rfl rfl rfl) rfl ?_
 refine bX ?_
 refine cC aa [] 0 rfl rfl rfl rfl rfl rfl ?_ ?_
 all_goals first|rfl|(simp [ar];done)|(simp [ar];omega)
theorem vv (d:List al) (N:Nat) (fn:FuncId) (aT:List (List D)) (hp:∀ x y:al,Fn Try.prog fn ([.g [cI x.ay,cI x.ba,cI x.kind,cI x.sum],.g [cI y.ay,cI y.ba,cI y.kind,cI y.sum]]++aT.map fun r=>GV.c (.q r 0)) (aI (gM x y)) []) (hen:bc Try.prog fn) (hl:d.length * 32<=140737488355328) (hN:N=d.length) (h0_:0 < d.length) (r:List al) (hr:gm d=r):cz Try.prog 55 [(.c (.s 0 0 4 N)),(.c (.d (.f fn aT)))] [(0,(cF d))] [0] (.t []) [(0,(cF r))]:=by
 refine cz.mk 9 [(0,(aC (.s 0 0 4 N))),(1,(aC (.d (.f fn aT))))] 1 Try.func55 rfl rfl rfl rfl rfl rfl rfl rfl rfl ?_
 intro W0 F0 T0 pg
 refine fO 0 rfl (fun hlen0=>?_)
 refine aw ?_
 refine ab aa 2 rfl ?_
 refine ax (dk rfl rfl rfl rfl rfl Try.underlying42) rfl ?_
 refine ab aa 1 rfl ?_
 obtain ⟨r0,hr0⟩:∃ (r0:List al),gm d=r0:=⟨_,rfl⟩
 refine aL 1 [0] (dH id id (zy (↑N:Int) d N N fn aT hp hen (by first|omega|(simp;done)|(simp;omega)) (by first|omega|(simp;done)|(simp;omega)) (by first|omega|(simp;done)|(simp;omega)) (by first|omega|(simp;done)|(simp;omega)) (by first|omega|(simp;done)|(simp;omega)) r0 hr0) DN rfl rfl ⟨⟨_,rfl,.inl ⟨rfl,rfl⟩⟩,⟨_,rfl,.inr (.c (.d _))⟩,⟨_,rfl,.inr (.c (.d _))⟩,trivial⟩ ⟨rfl,trivial⟩ rfl rfl ⟨.inr ⟨_,_,_,rfl,by first|(simp;omega)|(simp only [List.length_map];omega)⟩,trivial⟩ rfl rfl rfl trivial ⟨(fun _ _ _ _=>trivial),trivial⟩ rfl rfl rfl rfl) rfl ?_
 refine bX ?_
 have hX:gm d=r0:=by
   exact hr0
 rw [hX] at hr;clear hX
 subst hr
 refine cC aa [0] 1 rfl rfl rfl rfl rfl rfl ?_ ?_
 all_goals first|rfl|(simp [ar];done)|(simp [ar];omega)
theorem Br (l:List al) (hl:l.length * 32<=140737488355328) (r:List al) (hr:gm l=r):Fn Try.prog 37 [(.c (iM l))] (.v (.c (.s 0 0 4 r.length))) [(0,(cF r))]:=by
 refine Fn.mk' 9 [(0,(aC (iM l)))] Try.func37 rfl rfl rfl rfl ?_
 intro W0 T0
 refine dz 0 rfl (fun hlen0=>?_)
 refine ad aa 1 rfl ?_
 refine az aa 1 rfl ?_
 refine aL 1 [0] (bI 0 (mJ l (by first|omega|(simp;done)|(simp;omega))) DP rfl rfl ⟨⟨_,rfl,.c (.d _)⟩,trivial⟩ trivial ⟨(fun _ _ _ _=>trivial),trivial⟩ rfl rfl rfl rfl) rfl ?_
 refine ab aa 1 rfl ?_
 refine ae ?_
 rcases (show l.length=0\/0 < l.length from by omega) with hs1|hs1
 ·
  refine az aa 1 rfl ?_
  refine aL 1 [0] (fK 1 [0] (tK l 53 ([]) (fun x y=>wS x y) DQ (by first|omega|(simp;done)|(simp;omega))) DO rfl rfl ⟨⟨_,rfl,.c (.s rfl (by decide) (by first|omega|(simp;done)|(simp;omega)))⟩,⟨_,rfl,.c (.fn trivial)⟩,trivial⟩ trivial trivial rfl rfl rfl rfl) rfl ?_
  refine ae ?_
  refine ad aa 2 rfl ?_
  refine aq ?_
  have hX:gm l=l:=by
    exact yy (by assumption)
  rw [hX] at hr;clear hX
  subst hr
  refine aj aa [0] 1 rfl rfl rfl rfl rfl rfl ?_ ?_
  all_goals first|rfl|(simp [ar];done)|(simp [ar];omega)
 refine az aa 1 rfl ?_
 obtain ⟨r0,hr0⟩:∃ (r0:List al),gm l=r0:=⟨_,rfl⟩
 have hlr0:r0.length=l.length:=by rw [<-hr0];exact sH _
 refine aL 1 [0] (dH id id (vv l l.length 53 ([]) (fun x y=>wS x y) DQ (by first|omega|(simp;done)|(simp;omega)) (by first|omega|(simp;done)|(simp;omega)) (by first|omega|(simp;done)|(simp;omega)) r0 hr0) DO rfl rfl ⟨⟨_,rfl,.inl ⟨rfl,rfl⟩⟩,⟨_,rfl,.inr (.c (.fn trivial))⟩,trivial⟩ ⟨rfl,trivial⟩ rfl rfl ⟨.inr ⟨_,_,_,rfl,by first|(simp;omega)|(simp only [List.length_map];omega)⟩,trivial⟩ rfl rfl rfl trivial ⟨(fun _ _ _ _=>trivial),trivial⟩ rfl rfl rfl rfl) rfl ?_
 refine ae ?_
 refine ad aa 2 rfl ?_
 refine aq ?_
 have hX:gm l=r0:=by
   exact hr0
 rw [hX] at hr;clear hX
 subst hr
 refine aj aa [0] 1 rfl rfl rfl rfl rfl rfl ?_ ?_
 all_goals first|rfl|(simp [ar];done)|(simp [ar];omega)

theorem vU (l:List al) (f:cV) (hr:gj l=f):Fn Try.prog 31 [(.c (iM l))] (.v (.g [(cI f.err),(cI f.at_)])) []:=by
 refine Fn.mk' 58 [(0,(aC (iM l)))] Try.func31 rfl rfl rfl rfl ?_
 intro W0 T0
 refine dz 0 rfl (fun hlen0=>?_)
 refine ad aa 1 rfl ?_
 refine af ?_
 refine az aa 1 rfl ?_
 refine ax (cT rfl rfl rfl rfl rfl Try.underlying42) rfl ?_
 refine ab aa 1 rfl ?_
 refine ae ?_
 refine ag rfl (fun hc1=>?_) (fun hc1=>?_)
 ·
  have hc1':=of_decide_eq_true hc1
  refine ad aa 2 rfl ?_
  refine aq ?_
  refine an ?_
  have hX:gj l=(⟨5,0⟩:cV):=by
    unfold gj;rw [if_pos (by omega)]
  rw [hX] at hr;clear hX
  subst hr
  refine aj aa [0] 0 rfl rfl rfl rfl rfl rfl ?_ ?_
  all_goals first|rfl|(simp [ar];done)|(simp [ar];omega)
 have hc1':=of_decide_eq_false hc1
 refine aN ?_
 refine af ?_
 refine az aa 1 rfl ?_
 refine ax (cT rfl rfl rfl rfl rfl Try.underlying42) rfl ?_
 refine ab aa 1 rfl ?_
 refine ae ?_
 refine aV ?_
 refine cu (β:=Nat) (fun (q:Nat)=>⟨[(2,(aC (.p 0 0 0 0))),(9,(aC (iM l))),(10,(aI (↑l.length:Int))),(11,(aI (↑q:Int)))],[(0,(.box 50 [(cI 0),(cI 0)]))],1⟩) (fun (q:Nat)=>q<=l.length/\ml l 0=ml (l.drop q) q) (fun (q:Nat)=>l.length - q) 0 ?_ ?_ ?_
 ·exact ⟨by omega,rfl⟩
 ·exact aD.bZ id (by refine ⟨?_,?_,?_,?_,trivial⟩<;>first|rfl|(simp only [bq];done)|(congr 3;omega)|(congr 4;omega)|(simp only [br];rfl)) (⟨by first|rfl|(simp only [bq];done)|(congr 3;omega)|(congr 4;omega)|(simp only [br];rfl),trivial⟩) rfl
 rintro q ⟨hi0_0,hi0_1⟩
 refine ad aa 1 rfl ?_
 refine af ?_
 refine ag rfl (fun hc2=>?_) (fun hc2=>?_)
 ·
  have hc2':=of_decide_eq_true hc2
  refine aN ?_
  refine af ?_
  refine aV ?_
  refine az aa 1 rfl ?_
  obtain ⟨x1,hx1⟩:=bY (xs:=l) (i:=q) (by first|omega|(simp;done)|(simp;omega))
  refine ax (cf (i:=q) rfl rfl rfl Try.underlying42 dj (by first|omega|(simp;done)|(simp;omega)) (bf hx1)) rfl ?_
  refine ab aa 4 rfl ?_
  refine ae ?_
  refine af ?_
  refine cm 23 ((decide (x1.kind < 1))||(decide (x1.kind > 8))) ?_ ?_
  ·
   refine aw ?_
   refine ab aa 4 rfl ?_
   refine bj (t:=19) rfl (fun hb3=>?_) (fun hb3=>?_)
   ·
    have hb3':=of_decide_eq_true hb3
    refine ab aa 4 rfl ?_
    refine ae ?_
    exact aD.bB 9 rfl rfl (by first|(simp [hb3];done)|(simp_all;done)|(exfalso;simp_all;done)|(simp_all;omega)) rfl
   have hb3':=of_decide_eq_false hb3
   refine ab aa 4 rfl ?_
   refine ae ?_
   exact aD.bB 9 rfl rfl (by first|(simp [hb3];done)|(simp_all;done)|(exfalso;simp_all;done)|(simp_all;omega)) rfl
  refine ag rfl (fun hc4=>?_) (fun hc4=>?_)
  ·
   have hc4':=hc4;try simp only [bd,bF] at hc4'
   refine ad aa 3 rfl ?_
   refine aq ?_
   refine an ?_
   refine bg ?_
   refine an ?_
   refine an ?_
   refine bg ?_
   refine an ?_
   have hX:gj l=(⟨1,(↑q:Int)⟩:cV):=by
     unfold gj;rw [if_neg (by omega),hi0_1,oq hx1,if_pos (by unfold mq;omega)]
   rw [hX] at hr;clear hX
   subst hr
   refine aj aa [0] 0 rfl rfl rfl rfl rfl rfl ?_ ?_
   all_goals first|rfl|(simp [ar];done)|(simp [ar];omega)
  have hc4':=hc4;try simp only [bd,bF] at hc4'
  refine aN ?_
  refine cm 53 ((((((decide (x1.ay < 0))||(decide (x1.ay>=8)))||(decide (x1.ba < 0)))||(decide (x1.ba>=30)))||(decide (x1.sum < 1)))||(decide (x1.sum > 1000000))) ?_ ?_
  ·
   refine aw ?_
   refine ab aa 4 rfl ?_
   refine bj (t:=29) rfl (fun hb5=>?_) (fun hb5=>?_)
   ·
    have hb5':=of_decide_eq_true hb5
    refine ab aa 24 rfl ?_
    refine ae ?_
    exact aD.bB 29 rfl rfl (by first|(simp [hb5];done)|(simp_all;done)|(exfalso;simp_all;done)|(simp_all;omega)) rfl
   have hb5':=of_decide_eq_false hb5
   refine ab aa 5 rfl ?_
   refine bj (t:=34) rfl (fun hb6=>?_) (fun hb6=>?_)
   ·
    have hb6':=of_decide_eq_true hb6
    refine ab aa 19 rfl ?_
    refine ae ?_
    exact aD.bB 30 rfl rfl (by first|(simp [hb5,hb6];done)|(simp_all;done)|(exfalso;simp_all;done)|(simp_all;omega)) rfl
   have hb6':=of_decide_eq_false hb6
   refine ab aa 5 rfl ?_
   refine bj (t:=39) rfl (fun hb7=>?_) (fun hb7=>?_)
   ·
    have hb7':=of_decide_eq_true hb7
    refine ab aa 14 rfl ?_
    refine ae ?_
    exact aD.bB 31 rfl rfl (by first|(simp [hb5,hb6,hb7];done)|(simp_all;done)|(exfalso;simp_all;done)|(simp_all;omega)) rfl
   have hb7':=of_decide_eq_false hb7
   refine ab aa 5 rfl ?_
   refine bj (t:=44) rfl (fun hb8=>?_) (fun hb8=>?_)
   ·
    have hb8':=of_decide_eq_true hb8
    refine ab aa 9 rfl ?_
    refine ae ?_
    exact aD.bB 32 rfl rfl (by first|(simp [hb5,hb6,hb7,hb8];done)|(simp_all;done)|(exfalso;simp_all;done)|(simp_all;omega)) rfl
   have hb8':=of_decide_eq_false hb8
   refine ab aa 5 rfl ?_
   refine bj (t:=49) rfl (fun hb9=>?_) (fun hb9=>?_)
   ·
    have hb9':=of_decide_eq_true hb9
    refine ab aa 4 rfl ?_
    refine ae ?_
    exact aD.bB 33 rfl rfl (by first|(simp [hb5,hb6,hb7,hb8,hb9];done)|(simp_all;done)|(exfalso;simp_all;done)|(simp_all;omega)) rfl
   have hb9':=of_decide_eq_false hb9
   refine ab aa 4 rfl ?_
   refine ae ?_
   exact aD.bB 33 rfl rfl (by first|(simp [hb5,hb6,hb7,hb8,hb9];done)|(simp_all;done)|(exfalso;simp_all;done)|(simp_all;omega)) rfl
  refine ag rfl (fun hc10=>?_) (fun hc10=>?_)
  ·
   have hc10':=hc10;try simp only [bd,bF] at hc10'
   refine ad aa 3 rfl ?_
   refine aq ?_
   refine bg ?_
   refine an ?_
   refine an ?_
   refine bg ?_
   refine an ?_
   have hX:gj l=(⟨3,(↑q:Int)⟩:cV):=by
     unfold gj;rw [if_neg (by omega),hi0_1,oq hx1,if_neg (by unfold mq;omega),if_pos (by unfold nC;omega)]
   rw [hX] at hr;clear hX
   subst hr
   refine aj aa [0] 0 rfl rfl rfl rfl rfl rfl ?_ ?_
   all_goals first|rfl|(simp [ar];done)|(simp [ar];omega)
  have hc10':=hc10;try simp only [bd,bF] at hc10'
  refine cW ?_
  refine bn ?_
  refine then_ok ?_
  refine aw ?_
  refine ax (aJ rfl rfl rfl (aE (by first|omega|(simp;done)|(simp;omega)))) rfl ?_
  refine ab aa 1 rfl ?_
  refine ae ?_
  refine ⟨q+1,⟨by omega,by rw [hi0_1,oq hx1,if_neg (by unfold mq;omega),if_neg (by unfold nC;omega)]⟩,by first|omega|(simp;done)|(simp;omega),aD.bZ id (by refine ⟨?_,?_,?_,?_,trivial⟩<;>first|rfl|(simp only [bq];done)|(congr 3;omega)|(congr 4;omega)|(simp only [br];rfl)) (⟨by first|rfl|(simp only [bq];done)|(congr 3;omega)|(congr 4;omega)|(simp only [br];rfl),trivial⟩) rfl⟩
 have hc2':=of_decide_eq_false hc2
 refine cp ?_
 refine aP ?_
 refine aP ?_
 refine bP ?_
 refine then_ok ?_
 refine ad aa 2 rfl ?_
 refine aq ?_
 have hX:gj l=(⟨0,0⟩:cV):=by
   unfold gj;rw [if_neg (by omega),hi0_1,yJ (by omega)]
 rw [hX] at hr;clear hX
 subst hr
 refine aj aa [0] 0 rfl rfl rfl rfl rfl rfl ?_ ?_
 all_goals first|rfl|(simp [ar];done)|(simp [ar];omega)

theorem tq (b:List Int) (N:Nat) (n:Int) (z:Nat) (hN:N=b.length) (hz:z<=8) (hl:b.length+z<=1000000) (r:List Int) (hr:b++lR n z=r):cz Try.prog 109 [(.c (.s 0 0 1 N)),(.c (cI n)),(.c (cI (↑z:Int)))] [(0,(xa b))] [] (.v (.c (.s 0 0 1 r.length))) [(0,(xa r))]:=by
 refine cz.mk 23 [(0,(aC (.s 0 0 1 N))),(1,(aI n)),(2,(aI (↑z:Int)))] 1 Try.func109 rfl rfl rfl rfl rfl rfl rfl rfl rfl ?_
 intro W0 F0 T0 pg
 refine fO 0 rfl (fun hlen0=>?_)
 refine ad aa 1 rfl ?_
 refine af ?_
 refine az aa 1 rfl ?_
 refine ax (aJ rfl rfl rfl (aE (by first|omega|(simp;done)|(simp;omega)))) rfl ?_
 refine ab aa 1 rfl ?_
 refine ae ?_
 refine aV ?_
 refine cu (β:=Nat×List Int) (fun (p:Nat×List Int)=>match p with|(k,m)=>⟨[(0,(aC (.s 0 0 1 m.length))),(1,(aI n)),(6,(aC cN)),(7,(aI ((↑k:Int) - 1)))],[(0,(xa m))],1⟩) (fun (p:Nat×List Int)=>match p with|(k,m)=>k<=z/\m++lR n k=b++lR n z/\m.length+k=b.length+z) (fun (p:Nat×List Int)=>match p with|(k,m)=>k) (z,b) ?_ ?_ ?_
 ·exact ⟨by omega,rfl,rfl⟩
 ·exact aD.bZ id (by refine ⟨?_,?_,?_,?_,trivial⟩<;>first|rfl|(simp only [bq];done)|(congr 3;omega)|(congr 4;omega)|(simp only [br];rfl)|(first|exact cG rfl (by omega)|exact ir rfl (by omega))) (⟨by first|rfl|(simp only [bq];done)|(congr 3;omega)|(congr 4;omega)|(simp only [br];rfl),trivial⟩) rfl
 rintro ⟨k,m⟩ ⟨hi0_0,hi0_1,hi0_2⟩
 refine af ?_
 refine ad aa 2 rfl ?_
 refine ag rfl (fun hc1=>?_) (fun hc1=>?_)
 ·
  have hc1':=of_decide_eq_true hc1
  refine aN ?_
  refine af ?_
  refine aV ?_
  refine aw ?_
  refine ab aa 3 rfl ?_
  refine ax (aJ rfl rfl rfl (aE (by first|omega|(simp;done)|(simp;omega)))) rfl ?_
  refine ax (Dn rfl rfl rfl (by first|omega|(simp;done)|(simp;omega)) rfl (Fy (k:=k) (by omega) rfl)) rfl ?_
  refine ax (fa rfl rfl (by rw [Try.underlying3];rfl) Try.underlying5 mI) rfl ?_
  refine aL 2 [1,0] (dD (ys:=[(0,(.c (.d (.v (.int .u8 ((n / 256 ^ (k - 1)) % 256))))))]) (rows:=([(n / 256 ^ (k - 1)) % 256]).map nJ) 1 uh rfl (by decide) ⟨⟨rfl,rfl⟩,trivial⟩ rfl rfl rfl rfl) rfl ?_
  refine aL 3 [2,1] (dh (m:=1) (N:=m.length+1) (k2:=2) (ys:=([(n / 256 ^ (k - 1)) % 256]).map nJ) uh rfl rfl rfl rfl rfl rfl (by first|omega|(simp;done)|(simp;omega)) rfl (.s rfl (by first|omega|(simp;done)|(simp;omega))) (by first|omega|(simp;done)|(simp;omega)) (by first|omega|(simp;done)|(simp;omega)) fb (by decide) (by first|omega|(simp;done)|(simp;omega)) (by first|omega|(simp;done)|(simp;omega))) rfl ?_
  refine ab aa 1 rfl ?_
  refine bX ?_
  refine bn ?_
  refine then_ok ?_
  refine aw ?_
  refine ab aa 1 rfl ?_
  refine ax (aJ rfl rfl rfl (aE (by first|omega|(simp;done)|(simp;omega)))) rfl ?_
  refine ab aa 1 rfl ?_
  refine ae ?_
  refine ⟨(k - 1,m++([(n / 256 ^ (k - 1)) % 256])),⟨by omega,by rw [<-hi0_1,Bs (k:=k) (by omega),List.append_assoc];rfl,by simp only [List.length_append,List.length_cons,List.length_nil];omega⟩,by first|omega|(simp;done)|(simp;omega),aD.bZ (fun k=>if k=0 then 2 else k) (by refine ⟨?_,?_,?_,?_,trivial⟩<;>first|rfl|(simp only [bq];done)|(congr 3;omega)|(congr 4;omega)|(simp only [br];rfl)|(first|exact cG rfl (by omega)|exact ir rfl (by simp only [List.length_append,List.length_cons,List.length_nil];omega))) (⟨by first|rfl|(simp only [bq];done)|(congr 3;omega)|(congr 4;omega)|(simp only [br];rfl),trivial⟩) rfl⟩
 have hc1':=of_decide_eq_false hc1
 refine cp ?_
 refine aP ?_
 refine aP ?_
 refine bP ?_
 refine then_ok ?_
 refine ad aa 2 rfl ?_
 refine aq ?_
 have hX:b++lR n z=m:=by
   (obtain rfl:k=0:=by omega);rw [<-hi0_1];simp [lR]
 rw [hX] at hr;clear hX
 subst hr
 refine aj aa [0] 1 rfl rfl rfl rfl rfl rfl ?_ ?_
 all_goals first|rfl|(simp [ar];done)|(simp [ar];omega)

theorem vV (l:List al) (hl:l.length * 32<=140737488355328) (x:List Int) (f:cV) (hr:jD l=(x,f)):Fn Try.prog 92 [(.c (iM l))] (.t [(.c (.s 0 0 1 x.length)),(.g [(cI f.err),(cI f.at_)])]) [(0,(xa x))]:=by
 refine Fn.mk' 50 [(0,(aC (iM l)))] Try.func92 rfl rfl rfl rfl ?_
 intro W0 T0
 refine dz 0 rfl (fun hlen0=>?_)
 refine ad aa 2 rfl ?_
 refine af ?_
 refine az aa 1 rfl ?_
 obtain ⟨f0,hr0⟩:∃ (f0:cV),gj l=f0:=⟨_,rfl⟩
 refine aL 1 [0] (bI 1 (vU l f0 hr0) Gj rfl rfl ⟨⟨_,rfl,.c (.d _)⟩,trivial⟩ ⟨trivial,trivial,trivial⟩ trivial rfl rfl rfl rfl) rfl ?_
 refine ab aa 2 rfl ?_
 refine ae ?_
 refine ad aa 3 rfl ?_
 refine ag rfl (fun hc1=>?_) (fun hc1=>?_)
 ·
  have hc1':=of_decide_eq_true hc1
  refine af ?_
  refine bb [0,3,4] [1,0] mixed rfl rfl ?_
  refine aA (kn:=[]) aa 2 rfl trivial ?_
  refine bx [1,0] rfl rfl rfl rfl (by kernel_rfl) ?_
  refine ab aa 1 rfl ?_
  refine ae ?_
  refine aq ?_
  refine an ?_
  refine cQ (aD.nil 2 5 1 (by decide) rfl) ?_
  have hX:jD l=(([]:List Int),f0):=by
    unfold jD;rw [if_neg (by rw [hr0];omega),hr0]
  rw [hX] at hr;clear hX
  simp only [Prod.mk.injEq] at hr;obtain ⟨rfl,rfl⟩:=hr
  refine aj aa [2,0] 1 rfl rfl rfl rfl rfl rfl ?_ ?_
  all_goals first|rfl|(simp [ar];done)|(simp [ar];omega)
 have hc1':=of_decide_eq_false hc1
 refine aN ?_
 have hw:(gj l).err=0:=by rw [hr0];omega
 have hok:=yh.1 hw
 refine az aa 1 rfl ?_
 refine ax (cT rfl rfl rfl rfl rfl Try.underlying42) rfl ?_
 refine ax (fa rfl rfl (by rw [Try.underlying3];rfl) Try.underlying5 mI) rfl ?_
 refine aL 3 [2,1,0] (dD (ys:=[(0,(.c (.d (.v (.int .u8 ((↑l.length:Int) % 256))))))]) (rows:=([(↑l.length:Int) % 256]).map nJ) 2 uh rfl (by decide) ⟨⟨rfl,rfl⟩,trivial⟩ rfl rfl rfl rfl) rfl ?_
 refine ab aa 1 rfl ?_
 refine ae ?_
 refine ad aa 1 rfl ?_
 refine af ?_
 refine az aa 1 rfl ?_
 obtain ⟨r1,hr1⟩:∃ (r1:List al),gm l=r1:=⟨_,rfl⟩
 have hlr:r1.length=l.length:=by rw [<-hr1];exact sH _
 have hrok:∀ x∈r1,wz x:=fun x hx=>hok.2 x ((mT l).mem.2 (by rw [hr1];exact hx))
 refine aL 4 [3,2,1,0] (bI 3 (Br l (by first|omega|(simp;done)|(simp;omega)) r1 hr1) Gh rfl rfl ⟨⟨_,rfl,.c (.d _)⟩,trivial⟩ trivial ⟨(fun _ _ _ _=>trivial),trivial⟩ rfl rfl rfl rfl) rfl ?_
 refine ax (dk rfl rfl rfl rfl rfl Try.underlying42) rfl ?_
 refine ab aa 1 rfl ?_
 refine ae ?_
 refine aV ?_
 refine cu (β:=Nat×List Int×Int) (fun (p:Nat×List Int×Int)=>match p with|(q,m,all)=>⟨[(2,(aC cN)),(3,(aC (.p 0 0 0 0))),(5,(aC (.s 2 0 1 m.length))),(6,(aI all)),(20,(aC (.s 3 0 4 r1.length))),(21,(aI (↑r1.length:Int))),(22,(aI (↑q:Int)))],[(3,(cF r1)),(2,(xa m)),(0,(.box 50 [(cI 0),(cI 0)]))],4⟩) (fun (p:Nat×List Int×Int)=>match p with|(q,m,all)=>q<=r1.length/\m=lK l (r1.take q)/\all=la (r1.take q)/\0<=all/\all<=1000000 * (q:Int)) (fun (p:Nat×List Int×Int)=>match p with|(q,m,all)=>r1.length - q) (0,[(↑l.length:Int) % 256],0) ?_ ?_ ?_
 ·exact ⟨by omega,by simp [lK],rfl,by omega⟩
 ·exact aD.bZ id (by refine ⟨?_,?_,?_,?_,?_,?_,?_,trivial⟩<;>first|rfl|(simp only [bq];done)|(congr 3;omega)|(congr 4;omega)|(simp only [br];rfl)) (by refine ⟨?_,?_,?_,trivial⟩<;>first|rfl|(simp only [bq];done)|(congr 3;omega)|(congr 4;omega)|(simp only [br];rfl)) rfl
 rintro ⟨q,m,all⟩ ⟨hi0_0,hi0_1,hi0_2,hi0_3⟩
 have hml:m.length=1+6 * q:=by rw [hi0_1,zf,List.length_take];omega
 refine ad aa 1 rfl ?_
 refine af ?_
 refine ag rfl (fun hc2=>?_) (fun hc2=>?_)
 ·
  have hc2':=of_decide_eq_true hc2
  refine aN ?_
  refine af ?_
  refine aV ?_
  refine eM ?_
  refine ax (bo (i:=q) rfl rfl rfl Try.underlying42 dj (by first|omega|(simp;done)|(simp;omega)) (by first|omega|(simp;done)|(simp;omega))) rfl ?_
  obtain ⟨x1,hx1⟩:=bY (xs:=r1) (i:=q) (by first|omega|(simp;done)|(simp;omega))
  have hx1b:=Ez (hrok x1 (List.mem_of_getElem? hx1))
  refine ax (db rfl rfl rfl Try.underlying83 rfl dj (bf hx1) rfl) rfl ?_
  refine ab aa 2 rfl ?_
  refine ae ?_
  refine af ?_
  obtain ⟨r2,hr2⟩:∃ (r2:List Int),(m++([x1.ay % 256,x1.ba % 256,x1.kind % 256]))++lR x1.sum 3=r2:=⟨_,rfl⟩
  have hlr2:r2.length=m.length+6:=by rw [<-hr2];simp [pj]
  refine bb [2,3,5,6,20,21,22,8] [4,3,2,0] mixed rfl rfl ?_
  refine aA (kn:=[]) aa 3 rfl trivial ?_
  refine aS (n':=5) [28] [] rfl rfl (.inl ⟨(ah.plain rfl),aH.cast (fa rfl rfl (by rw [Try.underlying3];rfl) Try.underlying5 mI) rfl⟩) rfl ?_
  refine aA (kn:=[]) aa 2 rfl trivial ?_
  refine aS (n':=5) [31] [] rfl rfl (.inl ⟨(ah.plain rfl),aH.cast (fa rfl rfl (by rw [Try.underlying3];rfl) Try.underlying5 mI) rfl⟩) rfl ?_
  refine aA (kn:=[]) aa 2 rfl trivial ?_
  refine aS (n':=5) [34] [] rfl rfl (.inl ⟨(ah.plain rfl),aH.cast (fa rfl rfl (by rw [Try.underlying3];rfl) Try.underlying5 mI) rfl⟩) rfl ?_
  refine aS (n':=6) [29,32,35] [] rfl rfl (.inl ⟨(ah.plain rfl),aH.cast (dD (ys:=[(0,(.c (.d (.v (.int .u8 (x1.ay % 256)))))),(1,(.c (.d (.v (.int .u8 (x1.ba % 256)))))),(2,(.c (.d (.v (.int .u8 (x1.kind % 256))))))]) (rows:=([x1.ay % 256,x1.ba % 256,x1.kind % 256]).map nJ) 5 uh rfl (by decide) ⟨⟨rfl,rfl⟩,⟨rfl,rfl⟩,⟨rfl,rfl⟩,trivial⟩ rfl rfl rfl rfl) rfl⟩) rfl ?_
  refine aS (n':=7) [26,36] [5,2] rfl rfl (.inl ⟨(ah.plain rfl),aH.cast (dh (m:=3) (N:=m.length+3) (k2:=6) (ys:=([x1.ay % 256,x1.ba % 256,x1.kind % 256]).map nJ) uh rfl rfl rfl rfl rfl rfl (by first|omega|(simp;done)|(simp;omega)) rfl (.s rfl (by first|omega|(simp;done)|(simp;omega))) (by first|omega|(simp;done)|(simp;omega)) (by first|omega|(simp;done)|(simp;omega)) fb (by decide) (by first|omega|(simp;done)|(simp;omega)) (by first|omega|(simp;done)|(simp;omega))) rfl⟩) rfl ?_
  refine aA (kn:=[]) aa 2 rfl trivial ?_
  refine aS (n':=8) [37,39] [6] rfl rfl (.inl ⟨(ah.plain rfl),aH.cast (cA (aY [6]) (aY [7]) (tq (m++([x1.ay % 256,x1.ba % 256,x1.kind % 256])) (m.length+3) x1.sum 3 (by first|omega|(simp;done)|(simp;omega)) (by first|omega|(simp;done)|(simp;omega)) (by first|omega|(simp;done)|(simp;omega)) r2 hr2) BN rfl rfl ⟨⟨_,rfl,.inl ⟨rfl,rfl⟩⟩,⟨_,rfl,.inr (.c (.d _))⟩,⟨_,rfl,.inr (.c (.d _))⟩,trivial⟩ ⟨rfl,trivial⟩ rfl rfl rfl rfl rfl rfl trivial ⟨(fun _ _ _ _=>trivial),trivial⟩ rfl rfl rfl rfl) rfl⟩) rfl ?_
  refine bx [7,4,3,0] rfl rfl rfl rfl (by kernel_rfl) ?_
  refine ab aa 1 rfl ?_
  refine ae ?_
  refine aw ?_
  refine ab aa 3 rfl ?_
  refine ax (aJ rfl rfl rfl (aE (by first|omega|(simp;done)|(simp;omega)))) rfl ?_
  refine ab aa 1 rfl ?_
  refine bX ?_
  refine bn ?_
  refine then_ok ?_
  refine aw ?_
  refine ax (aJ rfl rfl rfl (aE (by first|omega|(simp;done)|(simp;omega)))) rfl ?_
  refine ab aa 1 rfl ?_
  refine ae ?_
  refine ⟨(q+1,r2,all+x1.sum),⟨by omega,by rw [xF hx1,<-hi0_1,<-hr2];simp [ux],by rw [yu hx1,<-hi0_2],by omega⟩,by first|omega|(simp;done)|(simp;omega),aD.bZ (fun k=>if k=2 then 7 else k) (by refine ⟨?_,?_,?_,?_,?_,?_,?_,trivial⟩<;>first|rfl|(simp only [bq];done)|(congr 3;omega)|(congr 4;omega)|(simp only [br];rfl)|(first|exact cG rfl (by omega)|exact ir rfl (by simp only [List.length_append,List.length_take,List.length_drop,List.length_cons,List.length_nil];omega))) (by refine ⟨?_,?_,?_,trivial⟩<;>first|rfl|(simp only [bq];done)|(congr 3;omega)|(congr 4;omega)|(simp only [br];rfl)) rfl⟩
 have hc2':=of_decide_eq_false hc2
 refine cp ?_
 refine aP ?_
 refine aP ?_
 refine bP ?_
 refine then_ok ?_
 refine az aa 2 rfl ?_
 obtain ⟨r3,hr3⟩:∃ (r3:List Int),m++lR all 4=r3:=⟨_,rfl⟩
 have hlr3:r3.length=m.length+4:=by rw [<-hr3];simp [pj]
 refine aL 5 [4,3,0] (cA (aY [2]) (aY [4]) (tq m m.length all 4 (by first|omega|(simp;done)|(simp;omega)) (by first|omega|(simp;done)|(simp;omega)) (by first|omega|(simp;done)|(simp;omega)) r3 hr3) BN rfl rfl ⟨⟨_,rfl,.inl ⟨rfl,rfl⟩⟩,⟨_,rfl,.inr (.c (.d _))⟩,⟨_,rfl,.inr (.c (.d _))⟩,trivial⟩ ⟨rfl,trivial⟩ rfl rfl rfl rfl rfl rfl trivial ⟨(fun _ _ _ _=>trivial),trivial⟩ rfl rfl rfl rfl) rfl ?_
 refine ab aa 3 rfl ?_
 refine ae ?_
 refine aq ?_
 have hX:jD l=(r3,(⟨0,0⟩:cV)):=by
   have ht:r1.take q=r1:=List.take_of_length_le (by omega)
   rw [ht] at hi0_1 hi0_2
   unfold jD
   rw [if_pos hw,hr1,<-hi0_1,<-hi0_2]
   rw [hr3]
 rw [hX] at hr;clear hX
 simp only [Prod.mk.injEq] at hr;obtain ⟨rfl,rfl⟩:=hr
 refine aj aa [4,0] 1 rfl rfl rfl rfl rfl rfl ?_ ?_
 all_goals first|rfl|(simp [ar];done)|(simp [ar];omega)

theorem jB (x:Nat->Value) (hx:∀ i,(x i).oneCell'=true) (e err:Int) (e2:Int) (hr:dv e err=e2):cz Try.prog 87 [(.c (.p 0 0 0 0)),(.c (cI err))] [(0,(.box 147 ((aX x).set 19 (cI e))))] [0] (.v (.c (cB (decide (¬e2=0))))) [(0,(.box 147 ((aX x).set 19 (cI e2))))]:=by
 refine cz.mk 19 [(0,(aC (.p 0 0 0 0))),(1,(aI err))] 1 Try.func87 rfl rfl rfl rfl rfl rfl rfl rfl rfl ?_
 intro W0 F0 T0 pg
 refine ad aa 1 rfl ?_
 refine af ?_
 refine ad aa 5 rfl ?_
 refine ag rfl (fun hc1=>?_) (fun hc1=>?_)
 ·
  have hc1':=of_decide_eq_true hc1
  refine aw ?_
  refine ab aa 5 rfl ?_
  refine ae ?_
  refine ad aa 6 rfl ?_
  refine aq ?_
  have hX:dv e err=err:=by
    (unfold dv;try dsimp only);(repeat' split)<;>first|rfl|omega|(exfalso;omega)|(subst_vars;rfl)|(simp_all;done)|(simp_all;omega)
  rw [hX] at hr;clear hX
  subst hr
  refine aj aa [0] 1 rfl rfl rfl rfl rfl rfl ?_ ?_
  all_goals first|rfl|(simp [ar,aR,aX];done)|(simp [ar,aR,aX];omega)
 have hc1':=of_decide_eq_false hc1
 refine aN ?_
 refine ad aa 6 rfl ?_
 refine aq ?_
 have hX:dv e err=e:=by
   (unfold dv;try dsimp only);(repeat' split)<;>first|rfl|omega|(exfalso;omega)|(subst_vars;rfl)|(simp_all;done)|(simp_all;omega)
 rw [hX] at hr;clear hX
 subst hr
 refine aj aa [0] 1 rfl rfl rfl rfl rfl rfl ?_ ?_
 all_goals first|rfl|(simp [ar,aR,aX];done)|(simp [ar,aR,aX];omega)

theorem iS (x:Nat->Value) (hx:∀ i,(x i).oneCell'=true) (l:List Entry) (e src dst n:Int) (l2:List Entry) (e2:Int) (hr:dL l e src dst n=(l2,e2)):cz Try.prog 76 [(.c (.p 0 0 0 0)),(.c (cI src)),(.c (cI dst)),(.c (cI n))] [(0,(.box 147 (((aX x).set 18 (dO l)).set 19 (cI e))))] [0] (.t []) [(0,(.box 147 (((aX x).set 18 (dO l2)).set 19 (cI e2))))]:=by
 refine cz.mk 31 [(0,(aC (.p 0 0 0 0))),(1,(aI src)),(2,(aI dst)),(3,(aI n))] 1 Try.func76 rfl rfl rfl rfl rfl rfl rfl rfl rfl ?_
 intro W0 F0 T0 pg
 refine az aa 8 rfl ?_
 obtain ⟨r0,e0,hr0⟩:∃ (r0:List Entry) (e0:Int),iD l src dst n=(r0,e0):=⟨_,_,rfl⟩
 refine aL 1 [0] (bI 1 (Fn.frozen (av':=(.t [(.c (dO r0)),(.c (cI e0))])) (vX l src dst n r0 e0 hr0) ⟨.inr ⟨_,_,_,_,_,rfl,rfl,rfl,by simp⟩,.inl ⟨_,rfl,rfl⟩,trivial⟩) FI rfl rfl ⟨⟨_,rfl,.c (.d _)⟩,⟨_,rfl,.c (.d _)⟩,⟨_,rfl,.c (.d _)⟩,⟨_,rfl,.c (.d _)⟩,trivial⟩ ⟨trivial,trivial,trivial⟩ trivial rfl rfl rfl rfl) rfl ?_
 refine ab aa 5 rfl ?_
 refine ae ?_
 refine az aa 2 rfl ?_
 obtain ⟨e21,hr1⟩:∃ (e21:Int),dv e e0=e21:=⟨_,rfl⟩
 refine aL 1 [0] (cg id id (ms:=(dp.set 19 (some (cI e)))) (ms':=(dp.set 19 (some (cI e21)))) (fun x hx=>jB x hx e e0 e21 hr1) nu rfl rfl ⟨⟨_,rfl,.inl ⟨rfl,rfl⟩⟩,⟨_,rfl,.inr (.c (.d _))⟩,trivial⟩ rfl rfl rfl rfl rfl rfl rfl trivial rfl rfl rfl rfl rfl rfl rfl rfl rfl rfl rfl rfl rfl) rfl ?_
 refine ab aa 1 rfl ?_
 refine ae ?_
 refine ag rfl (fun hc1=>?_) (fun hc1=>?_)
 ·
  have hc1':=hc1;try simp only [bd,bF] at hc1'
  refine aw ?_
  refine ab aa 6 rfl ?_
  refine bX ?_
  have hX:dL l e src dst n=(r0,e21):=by
    unfold dL;simp only [hr0,hr1];(repeat' split)<;>first|rfl|omega|(exfalso;omega)|(simp_all;done)|(simp_all;omega)
  rw [hX] at hr;clear hX
  simp only [Prod.mk.injEq] at hr;obtain ⟨rfl,rfl⟩:=hr
  refine cC aa [0] 1 rfl rfl rfl rfl rfl rfl ?_ ?_
  all_goals first|rfl|(simp [ar,aR,aX];done)|(simp [ar,aR,aX];omega)
 have hc1':=hc1;try simp only [bd,bF] at hc1'
 refine cW ?_
 have hX:dL l e src dst n=(l,e21):=by
   unfold dL;simp only [hr0,hr1];(repeat' split)<;>first|rfl|omega|(exfalso;omega)|(simp_all;done)|(simp_all;omega)
 rw [hX] at hr;clear hX
 simp only [Prod.mk.injEq] at hr;obtain ⟨rfl,rfl⟩:=hr
 refine cC aa [0] 1 rfl rfl rfl rfl rfl rfl ?_ ?_
 all_goals first|rfl|(simp [ar,aR,aX];done)|(simp [ar,aR,aX];omega)
theorem iF (x:Nat->Value) (hx:∀ i,(x i).oneCell'=true) (l:List bC) (e k held bu:Int) (hk:0<=k/\k < l.length) (l2:List bC) (e2:Int) (hr:cw l e k held bu=(l2,e2)):cz Try.prog 75 [(.c (.p 0 0 0 0)),(.c (cI k)),(.c (cI held)),(.c (cI bu))] [(0,(.box 147 (((aX x).set 2 (.s 1 0 6 l.length)).set 19 (cI e)))),(1,(dJ l))] [0] (.t []) [(0,(.box 147 (((aX x).set 2 (.s 1 0 6 l2.length)).set 19 (cI e2)))),(1,(dJ l2))]:=by
 refine cz.mk 36 [(0,(aC (.p 0 0 0 0))),(1,(aI k)),(2,(aI held)),(3,(aI bu))] 2 Try.func75 rfl rfl rfl rfl rfl rfl rfl rfl rfl ?_
 intro W0 F0 T0 pg
 refine az aa 6 rfl ?_
 refine ax (bo (i:=Int.toNat (k)) rfl rfl rfl Try.underlying29 ft (by first|omega|(simp;done)|(simp;omega)) (by first|omega|(simp;done)|(simp;omega))) rfl ?_
 obtain ⟨x1,hx1⟩:=bY (xs:=l) (i:=Int.toNat (k)) (by first|omega|(simp;done)|(simp;omega))
 refine ax (db rfl rfl rfl Try.underlying61 rfl ft (bf hx1) rfl) rfl ?_
 refine ab aa 2 rfl ?_
 obtain ⟨xr0,e0,hr0⟩:∃ (xr0:bC) (e0:Int),dP x1 held bu=(xr0,e0):=⟨_,_,rfl⟩
 refine aL 2 [0,1] (bI 2 (Fn.frozen (av':=(.t [(.g [(cI xr0.bu),(cI xr0.held),(cI xr0.ca.cH),(cI xr0.ca.count),(cI xr0.ca.sum),(fj xr0.cL)]),(.c (cI e0))])) (vo x1 held bu xr0 e0 hr0) ⟨⟨.inl ⟨_,rfl,rfl⟩,.inl ⟨_,rfl,rfl⟩,.inl ⟨_,rfl,rfl⟩,.inl ⟨_,rfl,rfl⟩,.inl ⟨_,rfl,rfl⟩,.inr ⟨_,_,_,_,_,rfl,rfl,rfl,by simp⟩,trivial⟩,.inl ⟨_,rfl,rfl⟩,trivial⟩) FJ rfl rfl ⟨⟨_,rfl,.g ⟨.d _,.d _,.d _,.d _,.d _,.d _,trivial⟩⟩,⟨_,rfl,.c (.d _)⟩,⟨_,rfl,.c (.d _)⟩,trivial⟩ ⟨⟨trivial,trivial,trivial,trivial,trivial,trivial,trivial⟩,trivial,trivial⟩ trivial rfl rfl rfl rfl) rfl ?_
 refine ab aa 6 rfl ?_
 refine ae ?_
 refine az aa 2 rfl ?_
 obtain ⟨e21,hr1⟩:∃ (e21:Int),dv e e0=e21:=⟨_,rfl⟩
 refine aL 3 [0,2,1] (cg id id (ms:=(dp.set 19 (some (cI e)))) (ms':=(dp.set 19 (some (cI e21)))) (fun x hx=>jB x hx e e0 e21 hr1) nu rfl rfl ⟨⟨_,rfl,.inl ⟨rfl,rfl⟩⟩,⟨_,rfl,.inr (.c (.d _))⟩,trivial⟩ rfl rfl rfl rfl rfl rfl rfl trivial rfl rfl rfl rfl rfl rfl rfl rfl rfl rfl rfl rfl rfl) rfl ?_
 refine ab aa 1 rfl ?_
 refine ae ?_
 refine ag rfl (fun hc1=>?_) (fun hc1=>?_)
 ·
  have hc1':=hc1;try simp only [bd,bF] at hc1'
  refine bb [0,1,8] [0,2,1] mixed rfl rfl ?_
  refine aA (kn:=[]) aa 7 rfl trivial ?_
  refine aS (n':=3) [32,33] [1] rfl rfl (.inl ⟨(ah.plain rfl),aH.cast (bo (i:=Int.toNat (k)) rfl rfl rfl Try.underlying29 ft (by first|omega|(simp;done)|(simp;omega)) (by first|omega|(simp;done)|(simp;omega))) rfl⟩) rfl ?_
  refine bx [0,2,1] rfl rfl rfl rfl (by kernel_rfl) ?_
  refine gb [0,2,1] (dG (ds:=[(dI xr0.bu),(dI xr0.held),(dI xr0.ca.cH),(dI xr0.ca.count),(dI xr0.ca.sum),(DV xr0.cL)]) rfl rfl rfl rfl rfl ft rfl (Nat.le_of_ble_eq_true rfl) (bf hx1) rfl (eG (x':=xr0) rfl)) rfl ?_
  refine bX ?_
  have hX:cw l e k held bu=((l).set (Int.toNat (k)) xr0,e21):=by
    rw [oa hx1];simp only [hr0,hr1];(repeat' split)<;>first|rfl|omega|(exfalso;omega)|(simp_all;done)|(simp_all;omega)
  rw [hX] at hr;clear hX
  simp only [Prod.mk.injEq] at hr;obtain ⟨rfl,rfl⟩:=hr
  refine cC aa [0,1] 2 rfl rfl rfl rfl rfl rfl ?_ ?_
  all_goals first|rfl|(simp [ar,aR,aX];done)|(simp [ar,aR,aX];omega)
 have hc1':=hc1;try simp only [bd,bF] at hc1'
 refine cW ?_
 have hX:cw l e k held bu=(l,e21):=by
   rw [oa hx1];simp only [hr0,hr1];(repeat' split)<;>first|rfl|omega|(exfalso;omega)|(simp_all;done)|(simp_all;omega)
 rw [hX] at hr;clear hX
 simp only [Prod.mk.injEq] at hr;obtain ⟨rfl,rfl⟩:=hr
 refine cC aa [0,1] 2 rfl rfl rfl rfl rfl rfl ?_ ?_
 all_goals first|rfl|(simp [ar,aR,aX];done)|(simp [ar,aR,aX];omega)
theorem Ec (x:Nat->Value) (hx:∀ i,(x i).oneCell'=true) (l:List al) (e:Int) (r:al) (hl:l.length<=100) (l2:List al) (e2:Int) (hr:iC l e r=(l2,e2)):cz Try.prog 83 [(.c (.p 0 0 0 0)),(.g [(cI r.ay),(cI r.ba),(cI r.kind),(cI r.sum)])] [(0,(.box 147 (((aX x).set 16 (.s 1 0 4 l.length)).set 19 (cI e)))),(1,(cF l))] [0] (.t []) [(0,(.box 147 (((aX x).set 16 (.s 1 0 4 l2.length)).set 19 (cI e2)))),(1,(cF l2))]:=by
 refine cz.mk 25 [(0,(aC (.p 0 0 0 0))),(1,(aG [(cI r.ay),(cI r.ba),(cI r.kind),(cI r.sum)]))] 2 Try.func83 rfl rfl rfl rfl rfl rfl rfl rfl rfl ?_
 intro W0 F0 T0 pg
 refine ad aa 1 rfl ?_
 refine af ?_
 refine az aa 5 rfl ?_
 refine ax (dk rfl rfl rfl rfl rfl Try.underlying42) rfl ?_
 refine ab aa 1 rfl ?_
 refine ae ?_
 refine ag rfl (fun hc1=>?_) (fun hc1=>?_)
 ·
  have hc1':=of_decide_eq_true hc1
  refine az aa 1 rfl ?_
  obtain ⟨e20,hr0⟩:∃ (e20:Int),dv e 5=e20:=⟨_,rfl⟩
  refine aL 3 [0,2,1] (cg id id (ms:=(dp.set 19 (some (cI e)))) (ms':=(dp.set 19 (some (cI e20)))) (fun x hx=>jB x hx e 5 e20 hr0) nu rfl rfl ⟨⟨_,rfl,.inl ⟨rfl,rfl⟩⟩,⟨_,rfl,.inr (.c (.d _))⟩,trivial⟩ rfl rfl rfl rfl rfl rfl rfl trivial rfl rfl rfl rfl rfl rfl rfl rfl rfl rfl rfl rfl rfl) rfl ?_
  refine ae ?_
  refine aq ?_
  refine an ?_
  have hX:iC l e r=(l,e20):=by
    unfold iC;first|(rw [if_pos (by omega),hr0];done)|(rw [if_neg (by omega)];done)
  rw [hX] at hr;clear hX
  simp only [Prod.mk.injEq] at hr;obtain ⟨rfl,rfl⟩:=hr
  refine aj aa [0,1] 2 rfl rfl rfl rfl rfl rfl ?_ ?_
  all_goals first|rfl|(simp [ar,aR,aX];done)|(simp [ar,aR,aX];omega)
 have hc1':=of_decide_eq_false hc1
 refine aN ?_
 refine bb [0,3] [2,0,1] mixed rfl rfl ?_
 refine aA (kn:=[]) aa 7 rfl trivial ?_
 refine aS (n':=4) [19] [] rfl rfl (.inl ⟨(ah.plain rfl),aH.cast (dD (ys:=[(0,(.g [(cI r.ay),(cI r.ba),(cI r.kind),(cI r.sum)]))]) (rows:=([r]).map gK) 3 xl rfl (by decide) ⟨⟨rfl,rfl⟩,trivial⟩ rfl rfl rfl rfl) rfl⟩) rfl ?_
 refine aS (n':=5) [18,20] [3,1] rfl rfl (.inl ⟨(ah.plain rfl),aH.cast (dh (m:=1) (N:=l.length+1) (k2:=4) (ys:=([r]).map gK) xl rfl rfl rfl rfl rfl rfl (by first|omega|(simp;done)|(simp;omega)) rfl (.s rfl (by first|omega|(simp;done)|(simp;omega))) (by first|omega|(simp;done)|(simp;omega)) (by first|omega|(simp;done)|(simp;omega)) fb (by decide) (by first|omega|(simp;done)|(simp;omega)) (by first|omega|(simp;done)|(simp;omega))) rfl⟩) rfl ?_
 refine aA (kn:=[]) aa 3 rfl trivial ?_
 refine bx [4,2,0] rfl rfl rfl rfl (by kernel_rfl) ?_
 refine ab aa 1 rfl ?_
 refine bX ?_
 have hX:iC l e r=(l++([r]),e):=by
   unfold iC;first|(rw [if_pos (by omega),hr0];done)|(rw [if_neg (by omega)];done)
 rw [hX] at hr;clear hX
 simp only [Prod.mk.injEq] at hr;obtain ⟨rfl,rfl⟩:=hr
 refine cC aa [0,4] 2 rfl rfl rfl rfl rfl rfl ?_ ?_
 all_goals first|rfl|(simp [ar,aR,aX];done)|(simp [ar,aR,aX];omega)

theorem si (x:Nat->Value) (hx:∀ i,(x i).oneCell'=true) (s:bU) (e:Int) (t:bl) (hI:∀ t∈s.kept,fy t.number) (s2:bU) (e2:Int) (hr:eC s e t=(s2,e2)):cz Try.prog 82 [(.c (.p 0 0 0 0)),(.c (cI 0)),(.g [(cI t.number),(cI t.kind),(cI t.ba),(cI t.sum)])] [(0,(.box 147 ((((aX x).set 5 (cI s.bV)).set 6 (dd s.kept)).set 19 (cI e))))] [0] (.t []) [(0,(.box 147 ((((aX x).set 5 (cI s2.bV)).set 6 (dd s2.kept)).set 19 (cI e2))))]:=by
 refine cz.mk 31 [(0,(aC (.p 0 0 0 0))),(1,(aI 0)),(2,(aG [(cI t.number),(cI t.kind),(cI t.ba),(cI t.sum)]))] 1 Try.func82 rfl rfl rfl rfl rfl rfl rfl rfl rfl ?_
 intro W0 F0 T0 pg
 refine ad aa 1 rfl ?_
 refine af ?_
 obtain ⟨xr0,e0,hr0⟩:∃ (xr0:bU) (e0:Int),gl s t=(xr0,e0):=⟨_,_,rfl⟩
 refine cX [0,1,5] [1,0] mixed rfl rfl ?_
 refine bQ (kn:=[]) aa 5 rfl trivial ?_
 refine bT (n':=2) [13,10] [0] rfl rfl (.inl ⟨(ah.plain rfl),aH.cast (dg (i:=0) rfl rfl rfl Try.underlying35 ma rfl (by decide)) rfl⟩) rfl ?_
 refine bQ (kn:=[]) aa 2 rfl trivial ?_
 refine bT (n':=2) [15,16] [] rfl rfl (.inl ⟨(ah.plain rfl),aH.cast (bI 2 (Fn.frozen (av':=(.t [(.g [(cI xr0.bV),(dd xr0.kept)]),(.c (cI e0))])) (rr s t (by first|assumption|exact jQ (by assumption) (by omega)|exact iZ (by assumption) (by assumption)|(simp [fy];done)) xr0 e0 hr0) ⟨⟨.inl ⟨_,rfl,rfl⟩,.inr ⟨_,_,_,_,_,rfl,rfl,rfl,by simp⟩,trivial⟩,.inl ⟨_,rfl,rfl⟩,trivial⟩) BQ rfl rfl ⟨⟨_,rfl,.g ⟨.d _,.d _,trivial⟩⟩,⟨_,rfl,.g ⟨.d _,.d _,.d _,.d _,trivial⟩⟩,trivial⟩ ⟨⟨trivial,trivial,trivial⟩,trivial,trivial⟩ trivial rfl rfl rfl rfl) rfl⟩) rfl ?_
 refine bQ (n':=3) (kn:=[]) aa 6 rfl trivial ?_
 refine dK [0,1,6,7] [2,0] rfl rfl (by kernel_rfl) ?_
 refine then_ok ?_
 refine az aa 2 rfl ?_
 obtain ⟨e21,hr1⟩:∃ (e21:Int),dv e e0=e21:=⟨_,rfl⟩
 refine aL 3 [0,2] (cg id id (ms:=(dp.set 19 (some (cI e)))) (ms':=(dp.set 19 (some (cI e21)))) (fun x hx=>jB x hx e e0 e21 hr1) nu rfl rfl ⟨⟨_,rfl,.inl ⟨rfl,rfl⟩⟩,⟨_,rfl,.inr (.c (.d _))⟩,trivial⟩ rfl rfl rfl rfl rfl rfl rfl trivial rfl rfl rfl rfl rfl rfl rfl rfl rfl rfl rfl rfl rfl) rfl ?_
 refine ab aa 1 rfl ?_
 refine ae ?_
 refine ag rfl (fun hc1=>?_) (fun hc1=>?_)
 ·
  have hc1':=hc1;try simp only [bd,bF] at hc1'
  refine bb [0,1,6] [0,2] mixed rfl rfl ?_
  refine aA (kn:=[]) aa 6 rfl trivial ?_
  refine aS (n':=3) [29,25] [0] rfl rfl (.inl ⟨(ah.plain rfl),aH.cast (dg (i:=0) rfl rfl rfl Try.underlying35 ma rfl (by decide)) rfl⟩) rfl ?_
  refine bx [0,2] rfl rfl rfl rfl (by kernel_rfl) ?_
  refine ab aa 1 rfl ?_
  refine bX ?_
  have hX:eC s e t=(xr0,e21):=by
    unfold eC;simp only [hr0,hr1];(repeat' split)<;>first|rfl|omega|(exfalso;omega)|(simp_all;done)|(simp_all;omega)
  rw [hX] at hr;clear hX
  simp only [Prod.mk.injEq] at hr;obtain ⟨rfl,rfl⟩:=hr
  refine cC aa [0] 1 rfl rfl rfl rfl rfl rfl ?_ ?_
  all_goals first|rfl|(simp [ar,aR,aX];done)|(simp [ar,aR,aX];omega)
 have hc1':=hc1;try simp only [bd,bF] at hc1'
 refine cW ?_
 have hX:eC s e t=(s,e21):=by
   unfold eC;simp only [hr0,hr1];(repeat' split)<;>first|rfl|omega|(exfalso;omega)|(simp_all;done)|(simp_all;omega)
 rw [hX] at hr;clear hX
 simp only [Prod.mk.injEq] at hr;obtain ⟨rfl,rfl⟩:=hr
 refine cC aa [0] 1 rfl rfl rfl rfl rfl rfl ?_ ?_
 all_goals first|rfl|(simp [ar,aR,aX];done)|(simp [ar,aR,aX];omega)
theorem CB (x:Nat->Value) (hx:∀ i,(x i).oneCell'=true) (s:bU) (e:Int) (t:bl) (hI:∀ t∈s.kept,fy t.number) (s2:bU) (e2:Int) (hr:eC s e t=(s2,e2)):cz Try.prog 82 [(.c (.p 0 0 0 0)),(.c (cI 1)),(.g [(cI t.number),(cI t.kind),(cI t.ba),(cI t.sum)])] [(0,(.box 147 ((((aX x).set 7 (cI s.bV)).set 8 (dd s.kept)).set 19 (cI e))))] [0] (.t []) [(0,(.box 147 ((((aX x).set 7 (cI s2.bV)).set 8 (dd s2.kept)).set 19 (cI e2))))]:=by
 refine cz.mk 31 [(0,(aC (.p 0 0 0 0))),(1,(aI 1)),(2,(aG [(cI t.number),(cI t.kind),(cI t.ba),(cI t.sum)]))] 1 Try.func82 rfl rfl rfl rfl rfl rfl rfl rfl rfl ?_
 intro W0 F0 T0 pg
 refine ad aa 1 rfl ?_
 refine af ?_
 obtain ⟨xr0,e0,hr0⟩:∃ (xr0:bU) (e0:Int),gl s t=(xr0,e0):=⟨_,_,rfl⟩
 refine cX [0,1,5] [1,0] mixed rfl rfl ?_
 refine bQ (kn:=[]) aa 5 rfl trivial ?_
 refine bT (n':=2) [13,10] [0] rfl rfl (.inl ⟨(ah.plain rfl),aH.cast (dg (i:=1) rfl rfl rfl Try.underlying35 ma rfl (by decide)) rfl⟩) rfl ?_
 refine bQ (kn:=[]) aa 2 rfl trivial ?_
 refine bT (n':=2) [15,16] [] rfl rfl (.inl ⟨(ah.plain rfl),aH.cast (bI 2 (Fn.frozen (av':=(.t [(.g [(cI xr0.bV),(dd xr0.kept)]),(.c (cI e0))])) (rr s t (by first|assumption|exact jQ (by assumption) (by omega)|exact iZ (by assumption) (by assumption)|(simp [fy];done)) xr0 e0 hr0) ⟨⟨.inl ⟨_,rfl,rfl⟩,.inr ⟨_,_,_,_,_,rfl,rfl,rfl,by simp⟩,trivial⟩,.inl ⟨_,rfl,rfl⟩,trivial⟩) BQ rfl rfl ⟨⟨_,rfl,.g ⟨.d _,.d _,trivial⟩⟩,⟨_,rfl,.g ⟨.d _,.d _,.d _,.d _,trivial⟩⟩,trivial⟩ ⟨⟨trivial,trivial,trivial⟩,trivial,trivial⟩ trivial rfl rfl rfl rfl) rfl⟩) rfl ?_
 refine bQ (n':=3) (kn:=[]) aa 6 rfl trivial ?_
 refine dK [0,1,6,7] [2,0] rfl rfl (by kernel_rfl) ?_
 refine then_ok ?_
 refine az aa 2 rfl ?_
 obtain ⟨e21,hr1⟩:∃ (e21:Int),dv e e0=e21:=⟨_,rfl⟩
 refine aL 3 [0,2] (cg id id (ms:=(dp.set 19 (some (cI e)))) (ms':=(dp.set 19 (some (cI e21)))) (fun x hx=>jB x hx e e0 e21 hr1) nu rfl rfl ⟨⟨_,rfl,.inl ⟨rfl,rfl⟩⟩,⟨_,rfl,.inr (.c (.d _))⟩,trivial⟩ rfl rfl rfl rfl rfl rfl rfl trivial rfl rfl rfl rfl rfl rfl rfl rfl rfl rfl rfl rfl rfl) rfl ?_
 refine ab aa 1 rfl ?_
 refine ae ?_
 refine ag rfl (fun hc1=>?_) (fun hc1=>?_)
 ·
  have hc1':=hc1;try simp only [bd,bF] at hc1'
  refine bb [0,1,6] [0,2] mixed rfl rfl ?_
  refine aA (kn:=[]) aa 6 rfl trivial ?_
  refine aS (n':=3) [29,25] [0] rfl rfl (.inl ⟨(ah.plain rfl),aH.cast (dg (i:=1) rfl rfl rfl Try.underlying35 ma rfl (by decide)) rfl⟩) rfl ?_
  refine bx [0,2] rfl rfl rfl rfl (by kernel_rfl) ?_
  refine ab aa 1 rfl ?_
  refine bX ?_
  have hX:eC s e t=(xr0,e21):=by
    unfold eC;simp only [hr0,hr1];(repeat' split)<;>first|rfl|omega|(exfalso;omega)|(simp_all;done)|(simp_all;omega)
  rw [hX] at hr;clear hX
  simp only [Prod.mk.injEq] at hr;obtain ⟨rfl,rfl⟩:=hr
  refine cC aa [0] 1 rfl rfl rfl rfl rfl rfl ?_ ?_
  all_goals first|rfl|(simp [ar,aR,aX];done)|(simp [ar,aR,aX];omega)
 have hc1':=hc1;try simp only [bd,bF] at hc1'
 refine cW ?_
 have hX:eC s e t=(s,e21):=by
   unfold eC;simp only [hr0,hr1];(repeat' split)<;>first|rfl|omega|(exfalso;omega)|(simp_all;done)|(simp_all;omega)
 rw [hX] at hr;clear hX
 simp only [Prod.mk.injEq] at hr;obtain ⟨rfl,rfl⟩:=hr
 refine cC aa [0] 1 rfl rfl rfl rfl rfl rfl ?_ ?_
 all_goals first|rfl|(simp [ar,aR,aX];done)|(simp [ar,aR,aX];omega)
theorem zw (x:Nat->Value) (hx:∀ i,(x i).oneCell'=true) (au:List bz) (due:List Int) (ao:List bC) (book:List Entry) (e:Int) (t:bl) (ht:0<=t.ba/\t.ba < au.length) (hA:∀ a∈au,0<=a.aK/\a.aK < ao.length/\0<=a.ay/\a.ay < due.length) (hc:ao.length<=8) (hd:due.length<=8) (due2:List Int) (cards2:List bC) (book2:List Entry) (e2:Int) (hr:eB au due ao book e t=(due2,cards2,book2,e2)):cz Try.prog 89 [(.c (.p 0 0 0 0)),(.g [(cI t.number),(cI t.kind),(cI t.ba),(cI t.sum)])] [(0,(.box 147 ((((((aX x).set 2 (.s 1 0 6 ao.length)).set 3 (.s 2 0 1 due.length)).set 4 (.s 3 0 8 au.length)).set 18 (dO book)).set 19 (cI e)))),(1,(dJ ao)),(2,(dx due)),(3,(dR au))] [0] (.t []) [(0,(.box 147 ((((((aX x).set 2 (.s 1 0 6 cards2.length)).set 3 (.s 2 0 1 due2.length)).set 4 (.s 3 0 8 au.length)).set 18 (dO book2)).set 19 (cI e2)))),(1,(dJ cards2)),(2,(dx due2)),(3,(dR au))]:=by
 refine cz.mk 77 [(0,(aC (.p 0 0 0 0))),(1,(aG [(cI t.number),(cI t.kind),(cI t.ba),(cI t.sum)]))] 4 Try.func89 rfl rfl rfl rfl rfl rfl rfl rfl rfl ?_
 intro W0 F0 T0 pg
 refine ad aa 1 rfl ?_
 refine af ?_
 obtain ⟨x1,hx1⟩:=bY (xs:=au) (i:=Int.toNat (t.ba)) (by first|omega|(simp;done)|(simp;omega))
 have hx1A:=hA x1 (List.mem_of_getElem? hx1)
 refine bb [0,3] [4,0,1,2,3] mixed rfl rfl ?_
 refine aA (kn:=[]) aa 7 rfl trivial ?_
 refine aS (n':=5) [11,13] [3] rfl rfl (.inl ⟨(ah.plain rfl),aH.cast (bo (i:=Int.toNat (t.ba)) rfl rfl rfl Try.underlying31 lZ (by first|omega|(simp;done)|(simp;omega)) (by first|omega|(simp;done)|(simp;omega))) rfl⟩) rfl ?_
 refine aS (n':=5) [14] [3] rfl rfl (.inl ⟨(ah.plain rfl),aH.cast (db rfl rfl rfl Try.underlying67 rfl lZ (bf hx1) rfl) rfl⟩) rfl ?_
 refine aA (n':=6) (kn:=[]) aa 1 rfl trivial ?_
 refine bx [5,4,0,1,2,3] rfl rfl rfl rfl (by kernel_rfl) ?_
 refine ab aa 1 rfl ?_
 refine ae ?_
 refine af ?_
 refine bb [0,3,4] [5,4,0,1,2,3] mixed rfl rfl ?_
 refine aA (kn:=[]) aa 2 rfl trivial ?_
 refine aS (n':=6) [17] [] rfl rfl (.inl ⟨(ah.plain rfl),aH.cast (aJ rfl rfl rfl (aE (by first|omega|(simp;done)|(simp;omega)))) rfl⟩) rfl ?_
 refine aA (kn:=[]) aa 2 rfl trivial ?_
 refine aS (n':=6) [20] [] rfl rfl (.inl ⟨(ah.plain rfl),aH.cast (aJ rfl rfl rfl (aE (by first|omega|(simp;done)|(simp;omega)))) rfl⟩) rfl ?_
 refine aA (kn:=[]) aa 2 rfl trivial ?_
 refine bx [5,4,0,1,2,3] rfl rfl rfl rfl (by kernel_rfl) ?_
 refine ae ?_
 refine ad aa 2 rfl ?_
 refine aV ?_
 refine ad aa 2 rfl ?_
 refine ag rfl (fun hc1=>?_) (fun hc1=>?_)
 ·
  have hc1':=of_decide_eq_true hc1
  refine af ?_
  obtain ⟨x2,hx2⟩:=bY (xs:=due) (i:=Int.toNat (x1.ay)) (by first|omega|(simp;done)|(simp;omega))
  refine bb [0,3,4,5] [5,4,0,1,2,3] mixed rfl rfl ?_
  refine aA (kn:=[]) aa 7 rfl trivial ?_
  refine aS (n':=6) [30,32] [2] rfl rfl (.inl ⟨(ah.plain rfl),aH.cast (bo (i:=Int.toNat (x1.ay)) rfl rfl rfl Try.underlying30 fT (by first|omega|(simp;done)|(simp;omega)) (by first|omega|(simp;done)|(simp;omega))) rfl⟩) rfl ?_
  refine aS (n':=6) [33] [2] rfl rfl (.inl ⟨(ah.plain rfl),aH.cast (eD rfl rfl rfl Try.underlying3 rfl (bf hx2) rfl) rfl⟩) rfl ?_
  refine aA (kn:=[]) aa 3 rfl trivial ?_
  refine aS (n':=6) [30,32] [2] rfl rfl (.inl ⟨(ah.plain rfl),aH.cast (bo (i:=Int.toNat (x1.ay)) rfl rfl rfl Try.underlying30 fT (by first|omega|(simp;done)|(simp;omega)) (by first|omega|(simp;done)|(simp;omega))) rfl⟩) rfl ?_
  refine bx [5,4,0,1,2,3] rfl rfl rfl rfl (by kernel_rfl) ?_
  refine gb [5,4,0,1,2,3] (dG (ds:=[(dI (IntKind.i64.wrap (x2+t.sum)))]) rfl rfl rfl rfl rfl fT rfl (Nat.le_of_ble_eq_true rfl) (bf hx2) rfl (eG (x':=(IntKind.i64.wrap (x2+t.sum))) rfl)) rfl ?_
  refine ae ?_
  refine fr (k:=0) (q:=3) (c':=(.s 2 0 1 (((due).set (Int.toNat (x1.ay)) (IntKind.i64.wrap (x2+t.sum))).length))) rfl rfl (by first|rfl|(simp;done)|(congr 1;omega)) rfl ?_
  refine aw ?_
  refine ab aa 4 rfl ?_
  obtain ⟨l20,e20,hr0⟩:∃ (l20:List Entry) (e20:Int),dL book e 1 (50+x1.ay) t.sum=(l20,e20):=⟨_,_,rfl⟩
  refine aL 6 [0,5,4,1,2,3] (cg id id (ms:=((dp.set 18 (some (dO book))).set 19 (some (cI e)))) (ms':=((dp.set 18 (some (dO l20))).set 19 (some (cI e20)))) (fun x hx=>iS x hx book e 1 (50+x1.ay) t.sum l20 e20 hr0) mn rfl rfl ⟨⟨_,rfl,.inl ⟨rfl,rfl⟩⟩,⟨_,rfl,.inr (.c (.d _))⟩,⟨_,rfl,.inr (.c (.d _))⟩,⟨_,rfl,.inr (.c (.d _))⟩,trivial⟩ rfl rfl rfl rfl rfl rfl rfl trivial rfl rfl rfl rfl rfl rfl rfl rfl rfl rfl rfl rfl rfl) rfl ?_
  refine bX ?_
  refine bn ?_
  have hX:eB au due ao book e t=((due).set (Int.toNat (x1.ay)) (IntKind.i64.wrap (x2+t.sum)),ao,l20,e20):=by
    unfold eB;rw [hx1];dsimp only;simp only [List.getD_eq_getElem?_getD,hx2,Option.getD_some,hr0];(repeat' split)<;>first|rfl|omega|(exfalso;omega)|(simp_all;done)|(simp_all;omega)
  rw [hX] at hr;clear hX
  simp only [Prod.mk.injEq] at hr;obtain ⟨rfl,rfl,rfl,rfl⟩:=hr
  refine cC aa [0,1,2,3] 4 rfl rfl rfl rfl rfl rfl ?_ ?_
  all_goals first|rfl|(simp [ar,aR,aX];done)|(simp [ar,aR,aX];omega)
 have hc1':=of_decide_eq_false hc1
 refine ad aa 2 rfl ?_
 refine ag rfl (fun hc2=>?_) (fun hc2=>?_)
 ·
  have hc2':=of_decide_eq_true hc2
  refine az aa 5 rfl ?_
  obtain ⟨l21,e21,hr1⟩:∃ (l21:List bC) (e21:Int),cw ao e x1.aK 0 t.sum=(l21,e21):=⟨_,_,rfl⟩
  refine aL 7 [0,6,5,4,2,3] (cg id (aY [0,6]) (ms:=((dp.set 2 (some (.s 1 0 6 ao.length))).set 19 (some (cI e)))) (ms':=((dp.set 2 (some (.s 1 0 6 l21.length))).set 19 (some (cI e21)))) (fun x hx=>iF x hx ao e x1.aK 0 t.sum (by first|omega|(simp;done)|(simp;omega)) l21 e21 hr1) nv rfl rfl ⟨⟨_,rfl,.inl ⟨rfl,rfl⟩⟩,⟨_,rfl,.inr (.c (.d _))⟩,⟨_,rfl,.inr (.c (.d _))⟩,⟨_,rfl,.inr (.c (.d _))⟩,trivial⟩ rfl rfl rfl rfl rfl rfl rfl ⟨rfl,trivial⟩ rfl rfl rfl rfl rfl rfl rfl rfl rfl rfl rfl rfl rfl) rfl ?_
  refine ae ?_
  refine aw ?_
  refine ab aa 4 rfl ?_
  obtain ⟨l22,e22,hr2⟩:∃ (l22:List Entry) (e22:Int),dL book e21 1 (10+x1.aK) t.sum=(l22,e22):=⟨_,_,rfl⟩
  refine aL 7 [0,6,5,4,2,3] (cg id id (ms:=((dp.set 18 (some (dO book))).set 19 (some (cI e21)))) (ms':=((dp.set 18 (some (dO l22))).set 19 (some (cI e22)))) (fun x hx=>iS x hx book e21 1 (10+x1.aK) t.sum l22 e22 hr2) mn rfl rfl ⟨⟨_,rfl,.inl ⟨rfl,rfl⟩⟩,⟨_,rfl,.inr (.c (.d _))⟩,⟨_,rfl,.inr (.c (.d _))⟩,⟨_,rfl,.inr (.c (.d _))⟩,trivial⟩ rfl rfl rfl rfl rfl rfl rfl trivial rfl rfl rfl rfl rfl rfl rfl rfl rfl rfl rfl rfl rfl) rfl ?_
  refine bX ?_
  refine bn ?_
  have hX:eB au due ao book e t=(due,l21,l22,e22):=by
    unfold eB;rw [hx1];dsimp only;simp only [List.getD_eq_getElem?_getD,Option.getD_some,hr1,hr2];(repeat' split)<;>first|rfl|omega|(exfalso;omega)|(simp_all;done)|(simp_all;omega)
  rw [hX] at hr;clear hX
  simp only [Prod.mk.injEq] at hr;obtain ⟨rfl,rfl,rfl,rfl⟩:=hr
  refine cC aa [0,6,2,3] 4 rfl rfl rfl rfl rfl rfl ?_ ?_
  all_goals first|rfl|(simp [ar,aR,aX];done)|(simp [ar,aR,aX];omega)
 have hc2':=of_decide_eq_false hc2
 refine ad aa 2 rfl ?_
 refine ag rfl (fun hc3=>?_) (fun hc3=>?_)
 ·
  have hc3':=of_decide_eq_true hc3
  refine af ?_
  obtain ⟨x2,hx2⟩:=bY (xs:=due) (i:=Int.toNat (x1.ay)) (by first|omega|(simp;done)|(simp;omega))
  refine bb [0,3,4,5] [5,4,0,1,2,3] mixed rfl rfl ?_
  refine aA (kn:=[]) aa 7 rfl trivial ?_
  refine aS (n':=6) [63,65] [2] rfl rfl (.inl ⟨(ah.plain rfl),aH.cast (bo (i:=Int.toNat (x1.ay)) rfl rfl rfl Try.underlying30 fT (by first|omega|(simp;done)|(simp;omega)) (by first|omega|(simp;done)|(simp;omega))) rfl⟩) rfl ?_
  refine aS (n':=6) [66] [2] rfl rfl (.inl ⟨(ah.plain rfl),aH.cast (eD rfl rfl rfl Try.underlying3 rfl (bf hx2) rfl) rfl⟩) rfl ?_
  refine aA (kn:=[]) aa 3 rfl trivial ?_
  refine aS (n':=6) [63,65] [2] rfl rfl (.inl ⟨(ah.plain rfl),aH.cast (bo (i:=Int.toNat (x1.ay)) rfl rfl rfl Try.underlying30 fT (by first|omega|(simp;done)|(simp;omega)) (by first|omega|(simp;done)|(simp;omega))) rfl⟩) rfl ?_
  refine bx [5,4,0,1,2,3] rfl rfl rfl rfl (by kernel_rfl) ?_
  refine gb [5,4,0,1,2,3] (dG (ds:=[(dI (IntKind.i64.wrap (x2 - t.sum)))]) rfl rfl rfl rfl rfl fT rfl (Nat.le_of_ble_eq_true rfl) (bf hx2) rfl (eG (x':=(IntKind.i64.wrap (x2 - t.sum))) rfl)) rfl ?_
  refine ae ?_
  refine fr (k:=0) (q:=3) (c':=(.s 2 0 1 (((due).set (Int.toNat (x1.ay)) (IntKind.i64.wrap (x2 - t.sum))).length))) rfl rfl (by first|rfl|(simp;done)|(congr 1;omega)) rfl ?_
  refine aw ?_
  refine ab aa 4 rfl ?_
  obtain ⟨l23,e23,hr3⟩:∃ (l23:List Entry) (e23:Int),dL book e (50+x1.ay) 2 t.sum=(l23,e23):=⟨_,_,rfl⟩
  refine aL 6 [0,5,4,1,2,3] (cg id id (ms:=((dp.set 18 (some (dO book))).set 19 (some (cI e)))) (ms':=((dp.set 18 (some (dO l23))).set 19 (some (cI e23)))) (fun x hx=>iS x hx book e (50+x1.ay) 2 t.sum l23 e23 hr3) mn rfl rfl ⟨⟨_,rfl,.inl ⟨rfl,rfl⟩⟩,⟨_,rfl,.inr (.c (.d _))⟩,⟨_,rfl,.inr (.c (.d _))⟩,⟨_,rfl,.inr (.c (.d _))⟩,trivial⟩ rfl rfl rfl rfl rfl rfl rfl trivial rfl rfl rfl rfl rfl rfl rfl rfl rfl rfl rfl rfl rfl) rfl ?_
  refine bX ?_
  refine bn ?_
  have hX:eB au due ao book e t=((due).set (Int.toNat (x1.ay)) (IntKind.i64.wrap (x2 - t.sum)),ao,l23,e23):=by
    unfold eB;rw [hx1];dsimp only;simp only [List.getD_eq_getElem?_getD,hx2,Option.getD_some,hr3];(repeat' split)<;>first|rfl|omega|(exfalso;omega)|(simp_all;done)|(simp_all;omega)
  rw [hX] at hr;clear hX
  simp only [Prod.mk.injEq] at hr;obtain ⟨rfl,rfl,rfl,rfl⟩:=hr
  refine cC aa [0,1,2,3] 4 rfl rfl rfl rfl rfl rfl ?_ ?_
  all_goals first|rfl|(simp [ar,aR,aX];done)|(simp [ar,aR,aX];omega)
 have hc3':=of_decide_eq_false hc3
 refine cW ?_
 refine bn ?_
 have hX:eB au due ao book e t=(due,ao,book,e):=by
   unfold eB;rw [hx1];dsimp only;simp only [List.getD_eq_getElem?_getD,Option.getD_some,hx1];(repeat' split)<;>first|rfl|omega|(exfalso;omega)|(simp_all;done)|(simp_all;omega)
 rw [hX] at hr;clear hX
 simp only [Prod.mk.injEq] at hr;obtain ⟨rfl,rfl,rfl,rfl⟩:=hr
 refine cC aa [0,1,2,3] 4 rfl rfl rfl rfl rfl rfl ?_ ?_
 all_goals first|rfl|(simp [ar,aR,aX];done)|(simp [ar,aR,aX];omega)

theorem vy (l:List bz) (hl:l.length * 64<=140737488355328):Fn Try.prog 96 [(.c (yl l))] (aC (.s 0 0 8 l.length)) [(0,.arr 67 8 (l.map iA))]:=by
 refine Fn.mk' 8 [(0,(aC (yl l)))] Try.func96 rfl rfl rfl rfl ?_
 intro W0 T0
 refine dz 0 rfl (fun hlen0=>?_)
 refine ad aa 1 rfl ?_
 refine af ?_
 refine az aa 1 rfl ?_
 refine gZ (ah.plain rfl) rfl rfl Try.underlying31 rfl rfl (fun bn1 hbn1=>?_)
 refine ae ?_
 refine ag rfl (fun hc2=>?_) (fun hc2=>?_)
 ·
  have hc2':=hc2;try simp only [bd,bF] at hc2'
  refine ad aa 1 rfl ?_
  refine aq ?_
  refine an ?_
  refine cQ (aD.nil 2 67 8 (by decide) rfl) ?_
  refine aj aa [0] 1 rfl rfl rfl rfl rfl rfl ?_ ?_
  ·(have h0:=hbn1 (by assumption);have h1:l=[]:=by (cases l with|nil=>rfl|cons=>simp at h0));subst h1;rfl
  ·(have h0:=hbn1 (by assumption);have h1:l=[]:=by (cases l with|nil=>rfl|cons=>simp at h0));subst h1;rfl
 have hc2':=hc2;try simp only [bd,bF] at hc2'
 refine aN ?_
 refine eM ?_
 refine aL 1 [0] (dD (ys:=[]) (rows:=(([]:List bz)).map iA) 0 rL rfl (by decide) trivial rfl rfl rfl rfl) rfl ?_
 refine ab aa 1 rfl ?_
 refine aL 2 [1] (dh (m:=l.length) (N:=l.length) (k2:=1) (ys:=(l).map iA) rL rfl rfl rfl rfl rfl rfl (by first|omega|(simp;omega)|(simp;done)) rfl (.d _ _) (by first|omega|(simp;omega)|(simp;done)) (by first|omega|(simp;omega)|(simp;done)) rfl (by decide) (by first|omega|(simp;omega)|(simp;done)) (by first|omega|(simp;omega)|(simp;done))) rfl ?_
 refine ab aa 1 rfl ?_
 refine ae ?_
 refine aq ?_
 refine aj aa [1] 1 rfl rfl rfl rfl rfl rfl ?_ ?_
 ·first|rfl|simp [fG,aC]
 ·first|rfl|simp
theorem mK (l:List cc) (hl:l.length * 40<=140737488355328):Fn Try.prog 85 [(.c (eh l))] (aC (.s 0 0 5 l.length)) [(0,.arr 113 5 (l.map eY))]:=by
 refine Fn.mk' 8 [(0,(aC (eh l)))] Try.func85 rfl rfl rfl rfl ?_
 intro W0 T0
 refine dz 0 rfl (fun hlen0=>?_)
 refine ad aa 1 rfl ?_
 refine af ?_
 refine az aa 1 rfl ?_
 refine gZ (ah.plain rfl) rfl rfl Try.underlying37 rfl rfl (fun bn1 hbn1=>?_)
 refine ae ?_
 refine ag rfl (fun hc2=>?_) (fun hc2=>?_)
 ·
  have hc2':=hc2;try simp only [bd,bF] at hc2'
  refine ad aa 1 rfl ?_
  refine aq ?_
  refine an ?_
  refine cQ (aD.nil 2 113 5 (by decide) rfl) ?_
  refine aj aa [0] 1 rfl rfl rfl rfl rfl rfl ?_ ?_
  ·(have h0:=hbn1 (by assumption);have h1:l=[]:=by (cases l with|nil=>rfl|cons=>simp at h0));subst h1;rfl
  ·(have h0:=hbn1 (by assumption);have h1:l=[]:=by (cases l with|nil=>rfl|cons=>simp at h0));subst h1;rfl
 have hc2':=hc2;try simp only [bd,bF] at hc2'
 refine aN ?_
 refine eM ?_
 refine aL 1 [0] (dD (ys:=[]) (rows:=(([]:List cc)).map eY) 0 me rfl (by decide) trivial rfl rfl rfl rfl) rfl ?_
 refine ab aa 1 rfl ?_
 refine aL 2 [1] (dh (m:=l.length) (N:=l.length) (k2:=1) (ys:=(l).map eY) me rfl rfl rfl rfl rfl rfl (by first|omega|(simp;omega)|(simp;done)) rfl (.d _ _) (by first|omega|(simp;omega)|(simp;done)) (by first|omega|(simp;omega)|(simp;done)) rfl (by decide) (by first|omega|(simp;omega)|(simp;done)) (by first|omega|(simp;omega)|(simp;done))) rfl ?_
 refine ab aa 1 rfl ?_
 refine ae ?_
 refine aq ?_
 refine aj aa [1] 1 rfl rfl rfl rfl rfl rfl ?_ ?_
 ·first|rfl|simp [fG,aC]
 ·first|rfl|simp
theorem vx (l:List (List D)) (hl:l.length * 64<=140737488355328):Fn Try.prog 94 [(.c (cR 6 ((l).map id)))] (aC (.s 0 0 6 l.length)) [(0,.arr 61 6 (l.map id))]:=by
 refine Fn.mk' 8 [(0,(aC (cR 6 ((l).map id))))] Try.func94 rfl rfl rfl rfl ?_
 intro W0 T0
 refine dz 0 rfl (fun hlen0=>?_)
 refine ad aa 1 rfl ?_
 refine af ?_
 refine az aa 1 rfl ?_
 refine gZ (ah.plain rfl) rfl rfl Try.underlying29 rfl rfl (fun bn1 hbn1=>?_)
 refine ae ?_
 refine ag rfl (fun hc2=>?_) (fun hc2=>?_)
 ·
  have hc2':=hc2;try simp only [bd,bF] at hc2'
  refine ad aa 1 rfl ?_
  refine aq ?_
  refine an ?_
  refine cQ (aD.nil 2 61 6 (by decide) rfl) ?_
  refine aj aa [0] 1 rfl rfl rfl rfl rfl rfl ?_ ?_
  ·(have h0:=hbn1 (by assumption);have h1:l=[]:=by (cases l with|nil=>rfl|cons=>simp at h0));subst h1;rfl
  ·(have h0:=hbn1 (by assumption);have h1:l=[]:=by (cases l with|nil=>rfl|cons=>simp at h0));subst h1;rfl
 have hc2':=hc2;try simp only [bd,bF] at hc2'
 refine aN ?_
 refine eM ?_
 refine aL 1 [0] (dD (ys:=[]) (rows:=(([]:List (List D))).map id) 0 xn rfl (by decide) trivial rfl rfl rfl rfl) rfl ?_
 refine ab aa 1 rfl ?_
 refine aL 2 [1] (dh (m:=l.length) (N:=0+l.length) (k2:=1) (ys:=(l).map id) xn rfl rfl rfl rfl rfl rfl (by first|omega|(simp;omega)|(simp;done)) rfl (.d _ _) (by first|omega|(simp;omega)|(simp;done)) (by first|omega|(simp;omega)|(simp;done)) fb (by decide) (by first|omega|(simp;omega)|(simp;done)) (by first|omega|(simp;omega)|(simp;done))) rfl ?_
 refine ab aa 1 rfl ?_
 refine ae ?_
 refine aq ?_
 refine aj aa [1] 1 rfl rfl rfl rfl rfl rfl ?_ ?_
 ·first|rfl|simp [fG,aC]
 ·first|rfl|simp

theorem jU (v w:Value) (b:Bk) (l1:b.ao.length<=8) (l2:b.due.length<=8) (l3:b.au.length<=30) (l4:b.aQ.length<=100):cz Try.prog 74 [(.c (.p 0 0 0 0))] [(0,(.box 98 (aR b 1 2 3 4 (.d (.v v)) (.d (.v w))))),(1,(dJ b.ao)),(2,(dx b.due)),(3,(dR b.au)),(4,(cF b.aQ))] [0] (.v (.c (.p 1 0 0 0))) [(0,(.box 98 (aR b 2 3 4 5 (.d (.v v)) (.d (.v w))))),(1,(.box 147 (aR b 6 7 8 9 (.d (.v v)) (cI 0)))),(2,(dJ b.ao)),(3,(dx b.due)),(4,(dR b.au)),(5,(cF b.aQ)),(6,(dJ b.ao)),(7,(dx b.due)),(8,(dR b.au)),(9,(cF b.aQ))]:=by
 refine cz.mk 51 [(0,(aC (.p 0 0 0 0)))] 5 Try.func74 rfl rfl rfl rfl rfl rfl rfl rfl rfl ?_
 intro W0 F0 T0 pg
 refine ad aa 1 rfl ?_
 refine ad aa 7 rfl ?_
 refine af ?_
 refine cX [0,3] [5,0,1,2,3,4] mixed rfl rfl ?_
 refine bQ (kn:=[]) aa 9 rfl trivial ?_
 refine bT (n':=7) [18] [1] rfl rfl (.inl ⟨(ah.plain rfl),aH.cast (AM 6 (fun l hl=>vx l (by rw [hl];first|omega|(simp;done)|(simp;omega))) FL rfl rfl rfl rfl rfl (by simp)) rfl⟩) rfl ?_
 refine bQ (kn:=[]) aa 5 rfl trivial ?_
 refine bT (n':=8) [24] [2] rfl rfl (.inl ⟨(ah.plain rfl),aH.cast (fK 7 [2] (pL b.due (by first|omega|(simp;done)|(simp;omega))) DD rfl rfl ⟨⟨_,rfl,.c (.s rfl (by decide) (by first|omega|(simp;done)|(simp;omega)))⟩,trivial⟩ trivial ⟨(Dh _),trivial⟩ rfl rfl rfl rfl) rfl⟩) rfl ?_
 refine bQ (kn:=[]) aa 5 rfl trivial ?_
 refine bT (n':=9) [30] [3] rfl rfl (.inl ⟨(ah.plain rfl),aH.cast (fK 8 [3] (vy b.au (by first|omega|(simp;done)|(simp;omega))) FK rfl rfl ⟨⟨_,rfl,.c (.s rfl (by decide) (by first|omega|(simp;done)|(simp;omega)))⟩,trivial⟩ trivial ⟨(yZ _),trivial⟩ rfl rfl rfl rfl) rfl⟩) rfl ?_
 refine bQ (kn:=[]) aa 5 rfl trivial ?_
 refine bT (n':=10) [36] [4] rfl rfl (.inl ⟨(ah.plain rfl),aH.cast (fK 9 [4] (mJ b.aQ (by first|omega|(simp;done)|(simp;omega))) DP rfl rfl ⟨⟨_,rfl,.c (.s rfl (by decide) (by first|omega|(simp;done)|(simp;omega)))⟩,trivial⟩ trivial ⟨(vL _),trivial⟩ rfl rfl rfl rfl) rfl⟩) rfl ?_
 refine bQ (kn:=[]) aa 16 rfl trivial ?_
 refine dK [3] [5,9,8,7,6,0,1,2,3,4] rfl rfl (by kernel_rfl) ?_
 refine then_ok ?_
 refine ad aa 2 rfl ?_
 refine aq ?_
 refine aj aa [0,5,1,2,3,4,6,7,8,9] 10 rfl rfl rfl rfl rfl rfl ?_ ?_
 all_goals first|rfl|(simp [ar,aR,aX];done)|(simp [ar,aR,aX];omega)
theorem eX (v w:Value) (b c:Bk) (e:Int) (he:e=0):cz Try.prog 77 [(.c (.p 0 0 0 0)),(.c (.p 1 0 0 0))] [(0,(.box 98 (aR b 2 3 4 5 (.d (.v v)) (.d (.v w))))),(1,(.box 147 (aR c 6 7 8 9 (.d (.v v)) (cI e)))),(2,(dJ b.ao)),(3,(dx b.due)),(4,(dR b.au)),(5,(cF b.aQ)),(6,(dJ c.ao)),(7,(dx c.due)),(8,(dR c.au)),(9,(cF c.aQ))] [0] (.v (.c (cI e))) [(0,(.box 98 (aR c 1 2 3 4 (.d (.v v)) (.d (.v w))))),(1,(dJ c.ao)),(2,(dx c.due)),(3,(dR c.au)),(4,(cF c.aQ))]:=by
 refine cz.mk 21 [(0,(aC (.p 0 0 0 0))),(1,(aC (.p 1 0 0 0)))] 10 Try.func77 rfl rfl rfl rfl rfl rfl rfl rfl rfl ?_
 intro W0 F0 T0 pg
 refine ad aa 1 rfl ?_
 refine af ?_
 refine ad aa 5 rfl ?_
 refine ag rfl (fun hc1=>?_) (fun hc1=>?_)
 ·
  have hc1':=of_decide_eq_true hc1
  refine aw ?_
  refine ab aa 8 rfl ?_
  refine ae ?_
  refine ad aa 5 rfl ?_
  refine aq ?_
  refine aj aa [0,6,7,8,9] 5 rfl rfl rfl rfl rfl rfl ?_ ?_
  all_goals first|rfl|(simp [ar,aR,aX];done)|(simp [ar,aR,aX];omega)
 have hc1':=of_decide_eq_false hc1
 (exfalso;simp_all)
theorem fR (v w:Value) (b c:Bk) (e:Int) (he:¬e=0):cz Try.prog 77 [(.c (.p 0 0 0 0)),(.c (.p 1 0 0 0))] [(0,(.box 98 (aR b 2 3 4 5 (.d (.v v)) (.d (.v w))))),(1,(.box 147 (aR c 6 7 8 9 (.d (.v v)) (cI e)))),(2,(dJ b.ao)),(3,(dx b.due)),(4,(dR b.au)),(5,(cF b.aQ)),(6,(dJ c.ao)),(7,(dx c.due)),(8,(dR c.au)),(9,(cF c.aQ))] [0] (.v (.c (cI e))) [(0,(.box 98 (aR b 1 2 3 4 (.d (.v v)) (.d (.v w))))),(1,(dJ b.ao)),(2,(dx b.due)),(3,(dR b.au)),(4,(cF b.aQ))]:=by
 refine cz.mk 21 [(0,(aC (.p 0 0 0 0))),(1,(aC (.p 1 0 0 0)))] 10 Try.func77 rfl rfl rfl rfl rfl rfl rfl rfl rfl ?_
 intro W0 F0 T0 pg
 refine ad aa 1 rfl ?_
 refine af ?_
 refine ad aa 5 rfl ?_
 refine ag rfl (fun hc1=>?_) (fun hc1=>?_)
 ·
  have hc1':=of_decide_eq_true hc1
  (exfalso;simp_all)
 have hc1':=of_decide_eq_false hc1
 refine aN ?_
 refine ad aa 5 rfl ?_
 refine aq ?_
 refine aj aa [0,2,3,4,5] 5 rfl rfl rfl rfl rfl rfl ?_ ?_
 all_goals first|rfl|(simp [ar,aR,aX];done)|(simp [ar,aR,aX];omega)

theorem Bo (x:Nat->Value) (hx:∀ i,(x i).oneCell'=true) (s0 s1:bU) (n0 n1:Int) (w0 w1:List cc) (idn kind ay move sum:Int) (l0:w0.length<=60) (l1:w1.length<=60) (m0:s0.kept.length<=40) (m1:s1.kept.length<=40) (v0:List cc) (v1:List cc) (a2:Answer) (hr:eJ s0 s1 n0 n1 w0 w1 (⟨idn,kind,0,ay,move,sum⟩:aZ)=(v0,v1,a2)):cz Try.prog 66 [(.c (.p 0 0 0 0)),(.c (.q (cS (⟨idn,kind,0,ay,move,sum⟩:aZ)) 0))] [(0,(.box 98 (((((((((aX x).set 5 (cI s0.bV)).set 6 (dd s0.kept)).set 7 (cI s1.bV)).set 8 (dd s1.kept)).set 9 (cI n0)).set 10 (cI n1)).set 11 (eh w0)).set 12 (eh w1))))] [0] (.v (.g [cI a2.err,cI a2.ba])) [(0,(.box 98 (((((((((aX x).set 5 (cI s0.bV)).set 6 (dd s0.kept)).set 7 (cI s1.bV)).set 8 (dd s1.kept)).set 9 (cI n0)).set 10 (cI n1)).set 11 (eh v0)).set 12 (eh v1))))]:=by
 refine cz.Df 83 [(0,(aC (.p 0 0 0 0))),(1,(aC (.q (cS (⟨idn,kind,0,ay,move,sum⟩:aZ)) 0)))] 1 Try.func66 rfl rfl rfl rfl rfl rfl rfl rfl rfl ?_
 intro W0 F0 T0 pg hF
 have hF0:∀ b,F0 b->(pg 0).g=b:=fun b hb=>by obtain ⟨k,hk,h⟩:=hF b hb;rw [List.mem_singleton.1 hk] at h;exact h
 refine ad aa 1 rfl ?_
 refine af ?_
 refine cm 20 (false) ?_ ?_
 ·
  refine aw ?_
  refine ab aa 4 rfl ?_
  refine ax (aJ rfl rfl rfl (show _=some (Value.bool false) from rfl)) rfl ?_
  refine ab aa 7 rfl ?_
  refine ae ?_
  exact aD.bB 12 rfl rfl (by first|(simp [];done)|(simp_all;done)|(exfalso;simp_all;done)|(simp_all;omega)) rfl
 refine ag rfl (fun hno=>by cases hno) (fun _=>?_)
 refine aN ?_
 refine ad aa 6 rfl ?_
 refine az aa 5 rfl ?_
 refine ax (dg (i:=1) rfl rfl rfl Try.underlying38 kA rfl (by decide)) rfl ?_
 refine ab aa 1 rfl ?_
 refine aL 3 [2,1,0] (bI 2 (mK w1 (by first|omega|(simp;done)|(simp;omega))) DI rfl rfl ⟨⟨_,rfl,.c (.d _)⟩,trivial⟩ trivial ⟨(fun _ _ _ _=>trivial),trivial⟩ rfl rfl rfl rfl) rfl ?_
 refine ab aa 1 rfl ?_
 refine ae ?_
 refine af ?_
 refine af ?_
 refine bb [0,1,4,5,6] [2,1,0] mixed rfl rfl ?_
 refine aA (kn:=[]) aa 8 rfl trivial ?_
 refine aS (n':=3) [42,39] [0] rfl rfl (.inl ⟨(ah.plain rfl),aH.cast (dg (i:=0) rfl rfl rfl Try.underlying35 ma rfl (by decide)) rfl⟩) rfl ?_
 refine aA (kn:=[]) aa 2 rfl trivial ?_
 refine aS (n':=3) [45] [] rfl rfl (.inl ⟨(ah.plain rfl),aH.cast (cT rfl rfl rfl rfl rfl Try.underlying32) rfl⟩) rfl ?_
 refine aA (kn:=[]) aa 1 rfl trivial ?_
 refine bx [2,1,0] rfl rfl rfl rfl (by kernel_rfl) ?_
 refine ae ?_
 refine aV ?_
 refine cu (β:=Nat×List cc) (fun (p:Nat×List cc)=>match p with|(q,m)=>⟨[(0,(aC (.p 0 0 0 0))),(1,(aC (.q (cS (⟨idn,kind,0,ay,move,sum⟩:aZ)) 0))),(4,(aC (.p 1 0 0 0))),(5,(aI 1)),(6,(aC (.s 2 0 5 m.length))),(45,(aC (dd s0.kept))),(46,(aI (↑s0.kept.length:Int))),(47,(aI (↑q:Int)))],[(2,(Ek m)),(1,(.box 65 [(cI 0),(cI 0)])),(0,(.box 98 (((((((((aX x).set 5 (cI s0.bV)).set 6 (dd s0.kept)).set 7 (cI s1.bV)).set 8 (dd s1.kept)).set 9 (cI n0)).set 10 (cI n1)).set 11 (eh w0)).set 12 (eh w1))))],3⟩) (fun (p:Nat×List cc)=>match p with|(q,m)=>q<=s0.kept.length/\m=w1++(s0.kept.take q).map (fun t=>(⟨t,-1⟩:cc))) (fun (p:Nat×List cc)=>match p with|(q,m)=>s0.kept.length - q) (0,w1) ?_ ?_ ?_
 ·exact ⟨by omega,by simp⟩
 ·exact aD.bZ id (by refine ⟨?_,?_,?_,?_,?_,?_,?_,?_,trivial⟩<;>first|rfl|(simp only [bq];done)|(congr 3;omega)|(congr 4;omega)|(simp only [br];rfl)) (by refine ⟨?_,?_,?_,trivial⟩<;>first|rfl|(simp only [bq];done)|(congr 3;omega)|(congr 4;omega)|(simp only [br];rfl)) rfl
 rintro ⟨q,m⟩ ⟨hi0_0,hi0_1⟩
 have hml:m.length=w1.length+q:=by rw [hi0_1];simp;omega
 refine ad aa 1 rfl ?_
 refine af ?_
 refine ag rfl (fun hc2=>?_) (fun hc2=>?_)
 ·
  have hc2':=of_decide_eq_true hc2
  refine aN ?_
  refine af ?_
  refine aV ?_
  refine eM ?_
  obtain ⟨x1,hx1⟩:=bY (xs:=s0.kept) (i:=q) (by first|omega|(simp;done)|(simp;omega))
  refine ax (cf (i:=q) rfl rfl rfl Try.underlying32 lY (by first|omega|(simp;done)|(simp;omega)) (bf hx1)) rfl ?_
  refine ab aa 3 rfl ?_
  refine ae ?_
  refine aw ?_
  refine ab aa 3 rfl ?_
  refine aL 5 [4,3,2,1,0] (dD (ys:=[(0,(.g [(cI x1.number),(cI x1.kind),(cI x1.ba),(cI x1.sum),(cI (-1))]))]) (rows:=([(⟨x1,(-1)⟩:cc)]).map eY) 4 me rfl (by decide) ⟨⟨rfl,rfl⟩,trivial⟩ rfl rfl rfl rfl) rfl ?_
  refine aL 6 [5,4,3,1,0] (dh (m:=1) (N:=m.length+1) (k2:=5) (ys:=([(⟨x1,(-1)⟩:cc)]).map eY) me rfl rfl rfl rfl rfl rfl (by first|omega|(simp;done)|(simp;omega)) rfl (.s rfl (by first|omega|(simp;done)|(simp;omega))) (by first|omega|(simp;done)|(simp;omega)) (by first|omega|(simp;done)|(simp;omega)) fb (by decide) (by first|omega|(simp;done)|(simp;omega)) (by first|omega|(simp;done)|(simp;omega))) rfl ?_
  refine ab aa 1 rfl ?_
  refine bX ?_
  refine bn ?_
  refine then_ok ?_
  refine aw ?_
  refine ax (aJ rfl rfl rfl (aE (by first|omega|(simp;done)|(simp;omega)))) rfl ?_
  refine ab aa 1 rfl ?_
  refine ae ?_
  refine ⟨(q+1,m++([(⟨x1,(-1)⟩:cc)])),⟨by omega,by rw [List.take_add_one,hx1,List.map_append,<-List.append_assoc,<-hi0_1];rfl⟩,by first|omega|(simp;done)|(simp;omega),aD.bZ (fun k=>if k=2 then 5 else k) (by refine ⟨?_,?_,?_,?_,?_,?_,?_,?_,trivial⟩<;>first|rfl|(simp only [bq];done)|(congr 3;omega)|(congr 4;omega)|(simp only [br];rfl)|(first|exact cG rfl (by omega)|exact ir rfl (by simp only [List.length_append,List.length_cons,List.length_nil];omega))) (by refine ⟨?_,?_,?_,trivial⟩<;>first|rfl|(simp only [bq];done)|(congr 3;omega)|(congr 4;omega)|(simp only [br];rfl)) rfl⟩
 have hc2':=of_decide_eq_false hc2
 refine cp ?_
 refine aP ?_
 refine aP ?_
 refine bP ?_
 refine then_ok ?_
 refine af ?_
 refine bb [0,1,4,5,6,45,46,47] [2,1,0] mixed rfl rfl ?_
 refine aA (kn:=[]) aa 9 rfl trivial ?_
 refine aS (n':=3) [65,62] [0] rfl rfl (.inl ⟨(ah.plain rfl),aH.cast (dg (i:=0) rfl rfl rfl Try.underlying36 fT rfl (by decide)) rfl⟩) rfl ?_
 refine aA (kn:=[]) aa 2 rfl trivial ?_
 refine aS (n':=4) [68] [] rfl rfl (.inl ⟨(ah.plain rfl),aH.cast (dD (ys:=[(0,(.g [(cI 0),(cI 0),(cI 0),(cI 0),(cI n0)]))]) (rows:=([(⟨(⟨0,0,0,0⟩:bl),n0⟩:cc)]).map eY) 3 me rfl (by decide) ⟨⟨rfl,rfl⟩,trivial⟩ rfl rfl rfl rfl) rfl⟩) rfl ?_
 refine aS (n':=5) [57,69] [3,2] rfl rfl (.inl ⟨(ah.plain rfl),aH.cast (dh (m:=1) (N:=m.length+1) (k2:=4) (ys:=([(⟨(⟨0,0,0,0⟩:bl),n0⟩:cc)]).map eY) me rfl rfl rfl rfl rfl rfl (by first|omega|(simp;done)|(simp;omega)) rfl (.s rfl (by first|omega|(simp;done)|(simp;omega))) (by first|omega|(simp;done)|(simp;omega)) (by first|omega|(simp;done)|(simp;omega)) fb (by decide) (by first|omega|(simp;done)|(simp;omega)) (by first|omega|(simp;done)|(simp;omega))) rfl⟩) rfl ?_
 refine bx [4,1,0] rfl rfl rfl rfl (by kernel_rfl) ?_
 refine ab aa 1 rfl ?_
 refine ae ?_
 refine af ?_
 refine az aa 1 rfl ?_
 refine ax (dk rfl rfl rfl rfl rfl Try.underlying37) rfl ?_
 refine ab aa 1 rfl ?_
 refine ae ?_
 refine ag rfl (fun hc3=>?_) (fun hc3=>?_)
 ·
  have hc3':=of_decide_eq_true hc3
  refine ad aa 2 rfl ?_
  refine aq ?_
  refine an ?_
  have hX:eJ s0 s1 n0 n1 w0 w1 (⟨idn,kind,0,ay,move,sum⟩:aZ)=(w0,w1,(⟨5,0⟩:Answer)):=by
    (have ht:s0.kept.take q=s0.kept:=List.take_of_length_le (by omega));rw [ht] at hi0_1;unfold eJ;dsimp only;rw [if_pos rfl];unfold jo lH;rw [<-hi0_1];first|rw [if_pos (by simp;omega)]|rw [if_neg (by simp;omega)]
  rw [hX] at hr;clear hX
  simp only [Prod.mk.injEq] at hr;obtain ⟨rfl,rfl,rfl⟩:=hr
  refine aj aa [0,1] 1 rfl rfl rfl rfl rfl rfl ?_ ?_
  all_goals first|rfl|(simp [ar,aR,aX];done)|(simp [ar,aR,aX];omega)
 have hc3':=of_decide_eq_false hc3
 refine aN ?_
 refine rH (s':=[(0,(aC (.p 0 0 0 0))),(1,(aC (.q (cS (⟨idn,kind,0,ay,move,sum⟩:aZ)) 0))),(4,(aC (.p 1 0 0 0))),(5,(aI 1)),(6,(aC (eh (m++([(⟨(⟨0,0,0,0⟩:bl),n0⟩:cc)]))))),(45,(aC (dd s0.kept))),(46,(aI (↑s0.kept.length:Int))),(47,(aI (↑q:Int))),(70,(aC (eh (m++([(⟨(⟨0,0,0,0⟩:bl),n0⟩:cc)]))))),(71,(aC (eh (m++([(⟨(⟨0,0,0,0⟩:bl),n0⟩:cc)]))))),(72,(aI (↑(m.length+1):Int))),(73,(aB (decide ((↑(m.length+1):Int) > 60))))]) (h':=[(1,(.box 65 [(cI 0),(cI 0)])),(0,(.box 98 (((((((((aX x).set 5 (cI s0.bV)).set 6 (dd s0.kept)).set 7 (cI s1.bV)).set 8 (dd s1.kept)).set 9 (cI n0)).set 10 (cI n1)).set 11 (eh w0)).set 12 (eh w1))))]) hF0 4 rfl rfl ⟨⟨_,rfl,.inl ⟨rfl,rfl⟩⟩,⟨_,rfl,.inl ⟨rfl,rfl⟩⟩,⟨_,rfl,.inl ⟨rfl,rfl⟩⟩,⟨_,rfl,.inl ⟨rfl,rfl⟩⟩,⟨_,rfl,.inr ⟨_,_,rfl,rfl,.s rfl (by decide) (by first|omega|(simp;done)|(simp;omega))⟩⟩,⟨_,rfl,.inl ⟨rfl,rfl⟩⟩,⟨_,rfl,.inl ⟨rfl,rfl⟩⟩,⟨_,rfl,.inl ⟨rfl,rfl⟩⟩,⟨_,rfl,.inr ⟨_,_,rfl,rfl,.s rfl (by decide) (by first|omega|(simp;done)|(simp;omega))⟩⟩,⟨_,rfl,.inr ⟨_,_,rfl,rfl,.s rfl (by decide) (by first|omega|(simp;done)|(simp;omega))⟩⟩,⟨_,rfl,.inl ⟨rfl,rfl⟩⟩,⟨_,rfl,.inl ⟨rfl,rfl⟩⟩,trivial⟩ ⟨rfl,rfl,trivial⟩ rfl ?_
 refine az aa 6 rfl ?_
 refine ax (dg (i:=1) rfl rfl rfl Try.underlying38 kA rfl (by decide)) rfl ?_
 refine ab aa 1 rfl ?_
 refine ae ?_
 refine ad aa 2 rfl ?_
 refine aq ?_
 have hX:eJ s0 s1 n0 n1 w0 w1 (⟨idn,kind,0,ay,move,sum⟩:aZ)=(w0,m++([(⟨(⟨0,0,0,0⟩:bl),n0⟩:cc)]),(⟨0,0⟩:Answer)):=by
   (have ht:s0.kept.take q=s0.kept:=List.take_of_length_le (by omega));rw [ht] at hi0_1;unfold eJ;dsimp only;rw [if_pos rfl];unfold jo lH;rw [<-hi0_1];first|rw [if_pos (by simp;omega)]|rw [if_neg (by simp;omega)]
 rw [hX] at hr;clear hX
 simp only [Prod.mk.injEq] at hr;obtain ⟨rfl,rfl,rfl⟩:=hr
 refine aj aa [0,1] 1 rfl rfl rfl rfl rfl rfl ?_ ?_
 all_goals first|rfl|(simp [ar,aR,aX];done)|(simp [ar,aR,aX];omega)
theorem Bn (x:Nat->Value) (hx:∀ i,(x i).oneCell'=true) (s0 s1:bU) (n0 n1:Int) (w0 w1:List cc) (idn kind ay move sum:Int) (l0:w0.length<=60) (l1:w1.length<=60) (m0:s0.kept.length<=40) (m1:s1.kept.length<=40) (v0:List cc) (v1:List cc) (a2:Answer) (hr:eJ s0 s1 n0 n1 w0 w1 (⟨idn,kind,1,ay,move,sum⟩:aZ)=(v0,v1,a2)):cz Try.prog 66 [(.c (.p 0 0 0 0)),(.c (.q (cS (⟨idn,kind,1,ay,move,sum⟩:aZ)) 0))] [(0,(.box 98 (((((((((aX x).set 5 (cI s0.bV)).set 6 (dd s0.kept)).set 7 (cI s1.bV)).set 8 (dd s1.kept)).set 9 (cI n0)).set 10 (cI n1)).set 11 (eh w0)).set 12 (eh w1))))] [0] (.v (.g [cI a2.err,cI a2.ba])) [(0,(.box 98 (((((((((aX x).set 5 (cI s0.bV)).set 6 (dd s0.kept)).set 7 (cI s1.bV)).set 8 (dd s1.kept)).set 9 (cI n0)).set 10 (cI n1)).set 11 (eh v0)).set 12 (eh v1))))]:=by
 refine cz.Df 83 [(0,(aC (.p 0 0 0 0))),(1,(aC (.q (cS (⟨idn,kind,1,ay,move,sum⟩:aZ)) 0)))] 1 Try.func66 rfl rfl rfl rfl rfl rfl rfl rfl rfl ?_
 intro W0 F0 T0 pg hF
 have hF0:∀ b,F0 b->(pg 0).g=b:=fun b hb=>by obtain ⟨k,hk,h⟩:=hF b hb;rw [List.mem_singleton.1 hk] at h;exact h
 refine ad aa 1 rfl ?_
 refine af ?_
 refine cm 20 (false) ?_ ?_
 ·
  refine aw ?_
  refine ab aa 4 rfl ?_
  refine ax (aJ rfl rfl rfl (show _=some (Value.bool true) from rfl)) rfl ?_
  refine ab aa 5 rfl ?_
  refine cJ (ah.yes rfl rfl rfl) (aJ rfl rfl rfl (show _=some (Value.bool false) from rfl)) rfl rfl ?_
  refine ab aa 1 rfl ?_
  refine ae ?_
  exact aD.bB 12 rfl rfl (by first|(simp [];done)|(simp_all;done)|(exfalso;simp_all;done)|(simp_all;omega)) rfl
 refine ag rfl (fun hno=>by cases hno) (fun _=>?_)
 refine aN ?_
 refine ad aa 6 rfl ?_
 refine az aa 5 rfl ?_
 refine ax (dg (i:=0) rfl rfl rfl Try.underlying38 kA rfl (by decide)) rfl ?_
 refine ab aa 1 rfl ?_
 refine aL 3 [2,1,0] (bI 2 (mK w0 (by first|omega|(simp;done)|(simp;omega))) DI rfl rfl ⟨⟨_,rfl,.c (.d _)⟩,trivial⟩ trivial ⟨(fun _ _ _ _=>trivial),trivial⟩ rfl rfl rfl rfl) rfl ?_
 refine ab aa 1 rfl ?_
 refine ae ?_
 refine af ?_
 refine af ?_
 refine bb [0,1,4,5,6] [2,1,0] mixed rfl rfl ?_
 refine aA (kn:=[]) aa 8 rfl trivial ?_
 refine aS (n':=3) [42,39] [0] rfl rfl (.inl ⟨(ah.plain rfl),aH.cast (dg (i:=1) rfl rfl rfl Try.underlying35 ma rfl (by decide)) rfl⟩) rfl ?_
 refine aA (kn:=[]) aa 2 rfl trivial ?_
 refine aS (n':=3) [45] [] rfl rfl (.inl ⟨(ah.plain rfl),aH.cast (cT rfl rfl rfl rfl rfl Try.underlying32) rfl⟩) rfl ?_
 refine aA (kn:=[]) aa 1 rfl trivial ?_
 refine bx [2,1,0] rfl rfl rfl rfl (by kernel_rfl) ?_
 refine ae ?_
 refine aV ?_
 refine cu (β:=Nat×List cc) (fun (p:Nat×List cc)=>match p with|(q,m)=>⟨[(0,(aC (.p 0 0 0 0))),(1,(aC (.q (cS (⟨idn,kind,1,ay,move,sum⟩:aZ)) 0))),(4,(aC (.p 1 0 0 0))),(5,(aI 0)),(6,(aC (.s 2 0 5 m.length))),(45,(aC (dd s1.kept))),(46,(aI (↑s1.kept.length:Int))),(47,(aI (↑q:Int)))],[(2,(Ek m)),(1,(.box 65 [(cI 0),(cI 0)])),(0,(.box 98 (((((((((aX x).set 5 (cI s0.bV)).set 6 (dd s0.kept)).set 7 (cI s1.bV)).set 8 (dd s1.kept)).set 9 (cI n0)).set 10 (cI n1)).set 11 (eh w0)).set 12 (eh w1))))],3⟩) (fun (p:Nat×List cc)=>match p with|(q,m)=>q<=s1.kept.length/\m=w0++(s1.kept.take q).map (fun t=>(⟨t,-1⟩:cc))) (fun (p:Nat×List cc)=>match p with|(q,m)=>s1.kept.length - q) (0,w0) ?_ ?_ ?_
 ·exact ⟨by omega,by simp⟩
 ·exact aD.bZ id (by refine ⟨?_,?_,?_,?_,?_,?_,?_,?_,trivial⟩<;>first|rfl|(simp only [bq];done)|(congr 3;omega)|(congr 4;omega)|(simp only [br];rfl)) (by refine ⟨?_,?_,?_,trivial⟩<;>first|rfl|(simp only [bq];done)|(congr 3;omega)|(congr 4;omega)|(simp only [br];rfl)) rfl
 rintro ⟨q,m⟩ ⟨hi0_0,hi0_1⟩
 have hml:m.length=w0.length+q:=by rw [hi0_1];simp;omega
 refine ad aa 1 rfl ?_
 refine af ?_
 refine ag rfl (fun hc2=>?_) (fun hc2=>?_)
 ·
  have hc2':=of_decide_eq_true hc2
  refine aN ?_
  refine af ?_
  refine aV ?_
  refine eM ?_
  obtain ⟨x1,hx1⟩:=bY (xs:=s1.kept) (i:=q) (by first|omega|(simp;done)|(simp;omega))
  refine ax (cf (i:=q) rfl rfl rfl Try.underlying32 lY (by first|omega|(simp;done)|(simp;omega)) (bf hx1)) rfl ?_
  refine ab aa 3 rfl ?_
  refine ae ?_
  refine aw ?_
  refine ab aa 3 rfl ?_
  refine aL 5 [4,3,2,1,0] (dD (ys:=[(0,(.g [(cI x1.number),(cI x1.kind),(cI x1.ba),(cI x1.sum),(cI (-1))]))]) (rows:=([(⟨x1,(-1)⟩:cc)]).map eY) 4 me rfl (by decide) ⟨⟨rfl,rfl⟩,trivial⟩ rfl rfl rfl rfl) rfl ?_
  refine aL 6 [5,4,3,1,0] (dh (m:=1) (N:=m.length+1) (k2:=5) (ys:=([(⟨x1,(-1)⟩:cc)]).map eY) me rfl rfl rfl rfl rfl rfl (by first|omega|(simp;done)|(simp;omega)) rfl (.s rfl (by first|omega|(simp;done)|(simp;omega))) (by first|omega|(simp;done)|(simp;omega)) (by first|omega|(simp;done)|(simp;omega)) fb (by decide) (by first|omega|(simp;done)|(simp;omega)) (by first|omega|(simp;done)|(simp;omega))) rfl ?_
  refine ab aa 1 rfl ?_
  refine bX ?_
  refine bn ?_
  refine then_ok ?_
  refine aw ?_
  refine ax (aJ rfl rfl rfl (aE (by first|omega|(simp;done)|(simp;omega)))) rfl ?_
  refine ab aa 1 rfl ?_
  refine ae ?_
  refine ⟨(q+1,m++([(⟨x1,(-1)⟩:cc)])),⟨by omega,by rw [List.take_add_one,hx1,List.map_append,<-List.append_assoc,<-hi0_1];rfl⟩,by first|omega|(simp;done)|(simp;omega),aD.bZ (fun k=>if k=2 then 5 else k) (by refine ⟨?_,?_,?_,?_,?_,?_,?_,?_,trivial⟩<;>first|rfl|(simp only [bq];done)|(congr 3;omega)|(congr 4;omega)|(simp only [br];rfl)|(first|exact cG rfl (by omega)|exact ir rfl (by simp only [List.length_append,List.length_cons,List.length_nil];omega))) (by refine ⟨?_,?_,?_,trivial⟩<;>first|rfl|(simp only [bq];done)|(congr 3;omega)|(congr 4;omega)|(simp only [br];rfl)) rfl⟩
 have hc2':=of_decide_eq_false hc2
 refine cp ?_
 refine aP ?_
 refine aP ?_
 refine bP ?_
 refine then_ok ?_
 refine af ?_
 refine bb [0,1,4,5,6,45,46,47] [2,1,0] mixed rfl rfl ?_
 refine aA (kn:=[]) aa 9 rfl trivial ?_
 refine aS (n':=3) [65,62] [0] rfl rfl (.inl ⟨(ah.plain rfl),aH.cast (dg (i:=1) rfl rfl rfl Try.underlying36 fT rfl (by decide)) rfl⟩) rfl ?_
 refine aA (kn:=[]) aa 2 rfl trivial ?_
 refine aS (n':=4) [68] [] rfl rfl (.inl ⟨(ah.plain rfl),aH.cast (dD (ys:=[(0,(.g [(cI 0),(cI 0),(cI 0),(cI 0),(cI n1)]))]) (rows:=([(⟨(⟨0,0,0,0⟩:bl),n1⟩:cc)]).map eY) 3 me rfl (by decide) ⟨⟨rfl,rfl⟩,trivial⟩ rfl rfl rfl rfl) rfl⟩) rfl ?_
 refine aS (n':=5) [57,69] [3,2] rfl rfl (.inl ⟨(ah.plain rfl),aH.cast (dh (m:=1) (N:=m.length+1) (k2:=4) (ys:=([(⟨(⟨0,0,0,0⟩:bl),n1⟩:cc)]).map eY) me rfl rfl rfl rfl rfl rfl (by first|omega|(simp;done)|(simp;omega)) rfl (.s rfl (by first|omega|(simp;done)|(simp;omega))) (by first|omega|(simp;done)|(simp;omega)) (by first|omega|(simp;done)|(simp;omega)) fb (by decide) (by first|omega|(simp;done)|(simp;omega)) (by first|omega|(simp;done)|(simp;omega))) rfl⟩) rfl ?_
 refine bx [4,1,0] rfl rfl rfl rfl (by kernel_rfl) ?_
 refine ab aa 1 rfl ?_
 refine ae ?_
 refine af ?_
 refine az aa 1 rfl ?_
 refine ax (dk rfl rfl rfl rfl rfl Try.underlying37) rfl ?_
 refine ab aa 1 rfl ?_
 refine ae ?_
 refine ag rfl (fun hc3=>?_) (fun hc3=>?_)
 ·
  have hc3':=of_decide_eq_true hc3
  refine ad aa 2 rfl ?_
  refine aq ?_
  refine an ?_
  have hX:eJ s0 s1 n0 n1 w0 w1 (⟨idn,kind,1,ay,move,sum⟩:aZ)=(w0,w1,(⟨5,0⟩:Answer)):=by
    (have ht:s1.kept.take q=s1.kept:=List.take_of_length_le (by omega));rw [ht] at hi0_1;unfold eJ;dsimp only;rw [if_neg (by decide),if_pos rfl];unfold jo lH;rw [<-hi0_1];first|rw [if_pos (by simp;omega)]|rw [if_neg (by simp;omega)]
  rw [hX] at hr;clear hX
  simp only [Prod.mk.injEq] at hr;obtain ⟨rfl,rfl,rfl⟩:=hr
  refine aj aa [0,1] 1 rfl rfl rfl rfl rfl rfl ?_ ?_
  all_goals first|rfl|(simp [ar,aR,aX];done)|(simp [ar,aR,aX];omega)
 have hc3':=of_decide_eq_false hc3
 refine aN ?_
 refine rH (s':=[(0,(aC (.p 0 0 0 0))),(1,(aC (.q (cS (⟨idn,kind,1,ay,move,sum⟩:aZ)) 0))),(4,(aC (.p 1 0 0 0))),(5,(aI 0)),(6,(aC (eh (m++([(⟨(⟨0,0,0,0⟩:bl),n1⟩:cc)]))))),(45,(aC (dd s1.kept))),(46,(aI (↑s1.kept.length:Int))),(47,(aI (↑q:Int))),(70,(aC (eh (m++([(⟨(⟨0,0,0,0⟩:bl),n1⟩:cc)]))))),(71,(aC (eh (m++([(⟨(⟨0,0,0,0⟩:bl),n1⟩:cc)]))))),(72,(aI (↑(m.length+1):Int))),(73,(aB (decide ((↑(m.length+1):Int) > 60))))]) (h':=[(1,(.box 65 [(cI 0),(cI 0)])),(0,(.box 98 (((((((((aX x).set 5 (cI s0.bV)).set 6 (dd s0.kept)).set 7 (cI s1.bV)).set 8 (dd s1.kept)).set 9 (cI n0)).set 10 (cI n1)).set 11 (eh w0)).set 12 (eh w1))))]) hF0 4 rfl rfl ⟨⟨_,rfl,.inl ⟨rfl,rfl⟩⟩,⟨_,rfl,.inl ⟨rfl,rfl⟩⟩,⟨_,rfl,.inl ⟨rfl,rfl⟩⟩,⟨_,rfl,.inl ⟨rfl,rfl⟩⟩,⟨_,rfl,.inr ⟨_,_,rfl,rfl,.s rfl (by decide) (by first|omega|(simp;done)|(simp;omega))⟩⟩,⟨_,rfl,.inl ⟨rfl,rfl⟩⟩,⟨_,rfl,.inl ⟨rfl,rfl⟩⟩,⟨_,rfl,.inl ⟨rfl,rfl⟩⟩,⟨_,rfl,.inr ⟨_,_,rfl,rfl,.s rfl (by decide) (by first|omega|(simp;done)|(simp;omega))⟩⟩,⟨_,rfl,.inr ⟨_,_,rfl,rfl,.s rfl (by decide) (by first|omega|(simp;done)|(simp;omega))⟩⟩,⟨_,rfl,.inl ⟨rfl,rfl⟩⟩,⟨_,rfl,.inl ⟨rfl,rfl⟩⟩,trivial⟩ ⟨rfl,rfl,trivial⟩ rfl ?_
 refine az aa 6 rfl ?_
 refine ax (dg (i:=0) rfl rfl rfl Try.underlying38 kA rfl (by decide)) rfl ?_
 refine ab aa 1 rfl ?_
 refine ae ?_
 refine ad aa 2 rfl ?_
 refine aq ?_
 have hX:eJ s0 s1 n0 n1 w0 w1 (⟨idn,kind,1,ay,move,sum⟩:aZ)=(m++([(⟨(⟨0,0,0,0⟩:bl),n1⟩:cc)]),w1,(⟨0,0⟩:Answer)):=by
   (have ht:s1.kept.take q=s1.kept:=List.take_of_length_le (by omega));rw [ht] at hi0_1;unfold eJ;dsimp only;rw [if_neg (by decide),if_pos rfl];unfold jo lH;rw [<-hi0_1];first|rw [if_pos (by simp;omega)]|rw [if_neg (by simp;omega)]
 rw [hX] at hr;clear hX
 simp only [Prod.mk.injEq] at hr;obtain ⟨rfl,rfl,rfl⟩:=hr
 refine aj aa [0,1] 1 rfl rfl rfl rfl rfl rfl ?_ ?_
 all_goals first|rfl|(simp [ar,aR,aX];done)|(simp [ar,aR,aX];omega)
theorem Bm (x:Nat->Value) (hx:∀ i,(x i).oneCell'=true) (s0 s1:bU) (n0 n1:Int) (w0 w1:List cc) (d:aZ) (l0:w0.length<=60) (l1:w1.length<=60) (m0:s0.kept.length<=40) (m1:s1.kept.length<=40) (hn:¬d.n=0/\¬d.n=1) (v0:List cc) (v1:List cc) (a2:Answer) (hr:eJ s0 s1 n0 n1 w0 w1 d=(v0,v1,a2)):cz Try.prog 66 [(.c (.p 0 0 0 0)),(.c (.q (cS d) 0))] [(0,(.box 98 (((((((((aX x).set 5 (cI s0.bV)).set 6 (dd s0.kept)).set 7 (cI s1.bV)).set 8 (dd s1.kept)).set 9 (cI n0)).set 10 (cI n1)).set 11 (eh w0)).set 12 (eh w1))))] [0] (.v (.g [cI a2.err,cI a2.ba])) [(0,(.box 98 (((((((((aX x).set 5 (cI s0.bV)).set 6 (dd s0.kept)).set 7 (cI s1.bV)).set 8 (dd s1.kept)).set 9 (cI n0)).set 10 (cI n1)).set 11 (eh v0)).set 12 (eh v1))))]:=by
 refine cz.Df 83 [(0,(aC (.p 0 0 0 0))),(1,(aC (.q (cS d) 0)))] 1 Try.func66 rfl rfl rfl rfl rfl rfl rfl rfl rfl ?_
 intro W0 F0 T0 pg hF
 have hF0:∀ b,F0 b->(pg 0).g=b:=fun b hb=>by obtain ⟨k,hk,h⟩:=hF b hb;rw [List.mem_singleton.1 hk] at h;exact h
 refine ad aa 1 rfl ?_
 refine af ?_
 refine cm 20 ((decide (¬d.n=0)) && (decide (¬d.n=1))) ?_ ?_
 ·
  refine aw ?_
  refine ab aa 6 rfl ?_
  refine bj (t:=14) rfl (fun hb1=>?_) (fun hb1=>?_)
  ·
   have hb1':=of_decide_eq_true hb1
   refine ab aa 6 rfl ?_
   refine ae ?_
   exact aD.bB 13 rfl rfl (by first|(simp [hb1];done)|(simp_all;done)|(exfalso;simp_all;done)|(simp_all;omega)) rfl
  have hb1':=of_decide_eq_false hb1
  refine ab aa 6 rfl ?_
  refine ae ?_
  exact aD.bB 13 rfl rfl (by first|(simp [hb1];done)|(simp_all;done)|(exfalso;simp_all;done)|(simp_all;omega)) rfl
 refine ag rfl (fun hc2=>?_) (fun hc2=>?_)
 ·
  have hc2':=hc2;try simp only [bd,bF] at hc2'
  refine ad aa 2 rfl ?_
  refine aq ?_
  refine an ?_
  have hX:eJ s0 s1 n0 n1 w0 w1 d=(w0,w1,(⟨6,0⟩:Answer)):=by
    unfold eJ;rw [if_neg hn.1,if_neg hn.2]
  rw [hX] at hr;clear hX
  simp only [Prod.mk.injEq] at hr;obtain ⟨rfl,rfl,rfl⟩:=hr
  refine aj aa [0,1] 1 rfl rfl rfl rfl rfl rfl ?_ ?_
  all_goals first|rfl|(simp [ar,aR,aX];done)|(simp [ar,aR,aX];omega)
 have hc2':=hc2;try simp only [bd,bF] at hc2'
 (exfalso;simp at *;omega)
theorem Ea (x:Nat->Value) (hx:∀ i,(x i).oneCell'=true) (aQ:List al) (days:List (List Int)) (l0:aQ.length<=100) (l1:days.length<=1000) (today2:List al) (days2:List (List Int)) (a2:Answer) (hr:iB aQ days=(today2,days2,a2)):cz Try.prog 69 [(.c (.p 0 0 0 0))] [(0,(.box 98 (((aX x).set 16 (.s 1 0 4 aQ.length)).set 17 (.s 2 0 1 days.length)))),(1,(cF aQ)),(2,(pN days))] [0] (.v (.g [cI a2.err,cI a2.ba])) [(0,(.box 98 (((aX x).set 16 (.s 1 0 4 today2.length)).set 17 (.s 2 0 1 days2.length)))),(1,(cF today2)),(2,(pN days2))]:=by
 refine cz.mk 37 [(0,(aC (.p 0 0 0 0)))] 3 Try.func69 rfl rfl rfl rfl rfl rfl rfl rfl rfl ?_
 intro W0 F0 T0 pg
 refine ad aa 1 rfl ?_
 refine az aa 5 rfl ?_
 obtain ⟨xr0,f0,hr0⟩:∃ (xr0:List Int) (f0:cV),jD aQ=(xr0,f0):=⟨_,_,rfl⟩
 refine Ep (av':=(.t [(.c (CL xr0)),(.g [(cI f0.err),(cI f0.at_)])])) (ah.plain rfl) (fK 4 [1] (vV aQ (by first|omega|(simp;done)|(simp;omega)) xr0 f0 hr0) FM rfl rfl ⟨⟨_,rfl,.c (.s rfl (by decide) (by first|omega|(simp;done)|(simp;omega)))⟩,trivial⟩ ⟨trivial,⟨rfl,rfl,trivial⟩,trivial⟩ ⟨(Cl _),trivial⟩ rfl rfl rfl rfl) ⟨.inr ⟨_,_,_,_,_,rfl,rfl,rfl,by simp⟩,⟨.inl ⟨_,rfl,rfl⟩,.inl ⟨_,rfl,rfl⟩,trivial⟩,trivial⟩ rfl rfl rfl ?_
 refine ab aa 6 rfl ?_
 refine ae ?_
 refine af ?_
 refine ad aa 3 rfl ?_
 refine ag rfl (fun hc1=>?_) (fun hc1=>?_)
 ·
  have hc1':=of_decide_eq_true hc1
  refine ad aa 4 rfl ?_
  refine aq ?_
  refine an ?_
  have hX:iB aQ days=(aQ,days,(⟨f0.err,0⟩:Answer)):=by
    unfold iB;simp only [hr0];(repeat' split)<;>first|rfl|omega|(simp_all;done)
  rw [hX] at hr;clear hX
  simp only [Prod.mk.injEq] at hr;obtain ⟨rfl,rfl,rfl⟩:=hr
  refine aj aa [0,1,2,3] 3 rfl rfl rfl rfl rfl rfl ?_ ?_
  all_goals first|rfl|(simp [ar,aR,aX];done)|(simp [ar,aR,aX];omega)
 have hc1':=of_decide_eq_false hc1
 refine aN ?_
 refine az aa 7 rfl ?_
 refine aL 6 [5,4,3,0,1,2] (dD (ys:=[(0,(.c (CL xr0)))]) (rows:=([xr0]).map rU) 5 CQ rfl (by decide) ⟨⟨rfl,rfl⟩,trivial⟩ rfl rfl rfl rfl) rfl ?_
 refine aL 7 [6,5,4,3,0,1] (dh (m:=1) (N:=days.length+1) (k2:=6) (ys:=([xr0]).map rU) CQ rfl rfl rfl rfl rfl rfl (by first|omega|(simp;done)|(simp;omega)) rfl (.s rfl (by first|omega|(simp;done)|(simp;omega))) (by first|omega|(simp;done)|(simp;omega)) (by first|omega|(simp;done)|(simp;omega)) fb (by decide) (by first|omega|(simp;done)|(simp;omega)) (by first|omega|(simp;done)|(simp;omega))) rfl ?_
 refine ab aa 4 rfl ?_
 refine ae ?_
 refine fr (k:=0) (q:=17) (c':=(.s 6 0 1 ((days++([xr0])).length))) rfl rfl (by first|rfl|(simp;done)|(congr 1;omega)) rfl ?_
 refine ad aa 5 rfl ?_
 refine ad aa 2 rfl ?_
 refine aq ?_
 refine cb 0 16 83 4 rfl rfl rfl ?_
 have hX:iB aQ days=(([]:List al),days++([xr0]),(⟨0,0⟩:Answer)):=by
   unfold iB;simp only [hr0];(repeat' split)<;>first|rfl|omega|(simp_all;done)
 rw [hX] at hr;clear hX
 simp only [Prod.mk.injEq] at hr;obtain ⟨rfl,rfl,rfl⟩:=hr
 refine aj aa [0,7,6,3] 3 rfl rfl rfl rfl rfl rfl ?_ ?_
 all_goals first|rfl|(simp [ar,aR,aX];done)|(simp [ar,aR,aX];omega)
end Go.Proofs.Ytegepioggeggaaa.Dev
