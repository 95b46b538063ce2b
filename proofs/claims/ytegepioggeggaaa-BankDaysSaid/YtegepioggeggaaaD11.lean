/- A part of the proof: Sort7, Day1, Day4, Day5, Bank1, Bank2, Bank3, Clones, Bank4. No condition. -/
import Derived.Test.YtegepioggeggaaaD10
set_option linter.unusedVariables false
set_option linter.unusedSimpArgs false
set_option maxHeartbeats 4000000
set_option maxRecDepth 100000
namespace Go.Proofs.Ytegepioggeggaaa.Dev
open Go.RowKit

theorem wC (d:List ah) (a b:Int) (fn:FuncId) (bg:List (List D)) (hp:∀ x y:ah,Fn Try.prog fn ([.g [cI x.aE,cI x.ba,cI x.kind,cI x.sum],.g [cI y.aE,cI y.ba,cI y.kind,cI y.sum]]++bg.map fun r=>GV.c (.q r 0)) (aI (ic x y)) []) (hen:bl Try.prog fn) (h1:b<=a+1) (h2:0<=a/\a<=9223372036854775806):Fn Try.prog 72 [(.c (gL d)),(.c (cI a)),(.c (cI b)),(.c (.d (.f fn bg)))] (.t []) []:=by
 refine Fn.mk' 53 [(0,(aC (gL d))),(1,(aI a)),(2,(aI b)),(3,(aC (.d (.f fn bg))))] Try.func72 rfl rfl rfl rfl ?_
 intro W0 T0
 refine dt 0 rfl (fun hlen0=>?_)
 refine aF aa 1 rfl ?_
 refine aA (aM rfl rfl rfl (aL (by first|omega|(simp;done)|(simp;omega)))) rfl ?_
 refine ad aa 1 rfl ?_
 refine af ?_
 refine aY ?_
 refine cE (β:=Nat) (fun (z:Nat)=>⟨[(0,(aC (gL d))),(1,(aI a)),(2,(aI b)),(3,(aC (.d (.f fn bg)))),(8,(aI (a+1)))],[],0⟩) (fun (z:Nat)=>True) (fun (z:Nat)=>0) 0 ?_ ?_ ?_
 ·trivial
 ·exact aH.ca id (by refine ⟨?_,?_,?_,?_,?_,trivial⟩<;>first|rfl|(simp only [bu];done)|(congr 3;omega)|(congr 4;omega)|(simp only [bw];rfl)) (trivial) rfl
 rintro z _
 refine ag ?_
 refine ae aa 3 rfl ?_
 refine aj rfl (fun hc1=>?_) (fun hc1=>?_)
 ·
  have hc1':=of_decide_eq_true hc1
  exfalso;omega
 have hc1':=of_decide_eq_false hc1
 refine cv ?_
 refine aU ?_
 refine aU ?_
 refine bS ?_
 refine cO aa [] 0 rfl rfl rfl rfl rfl rfl ?_ ?_
 all_goals first|rfl|(simp [aw];done)|(simp [aw];omega)
theorem Bl (d:List ah) (n:Int) (fn:FuncId) (bg:List (List D)) (hp:∀ x y:ah,Fn Try.prog fn ([.g [cI x.aE,cI x.ba,cI x.kind,cI x.sum],.g [cI y.aE,cI y.ba,cI y.kind,cI y.sum]]++bg.map fun r=>GV.c (.q r 0)) (aI (ic x y)) []) (hen:bl Try.prog fn) (h:n=0):Fn Try.prog 61 [(.c (gL d)),(.c (cI n)),(.c (.d (.f fn bg)))] (.t []) []:=by
 refine Fn.mk' 63 [(0,(aC (gL d))),(1,(aI n)),(2,(aC (.d (.f fn bg))))] Try.func61 rfl rfl rfl rfl ?_
 intro W0 T0
 refine dt 0 rfl (fun hlen0=>?_)
 refine ae aa 1 rfl ?_
 refine ae aa 3 rfl ?_
 refine ag ?_
 refine aY ?_
 refine cE (β:=Nat) (fun (z:Nat)=>⟨[(0,(aC (gL d))),(1,(aI n)),(2,(aC (.d (.f fn bg)))),(6,(aI 20)),(7,(aI 0)),(8,(aI 20))],[],0⟩) (fun (z:Nat)=>True) (fun (z:Nat)=>0) 0 ?_ ?_ ?_
 ·trivial
 ·exact aH.ca id (by refine ⟨?_,?_,?_,?_,?_,?_,trivial⟩<;>first|rfl|(simp only [bu];done)|(congr 3;omega)|(congr 4;omega)|(simp only [bw];rfl)) (trivial) rfl
 rintro z _
 refine ag ?_
 refine ae aa 3 rfl ?_
 refine aj rfl (fun hc1=>?_) (fun hc1=>?_)
 ·
  have hc1':=of_decide_eq_true hc1
  exfalso;omega
 have hc1':=of_decide_eq_false hc1
 refine cv ?_
 refine aU ?_
 refine aU ?_
 refine bS ?_
 refine then_ok ?_
 refine aF aa 4 rfl ?_
 refine aQ 0 [] (cb 0 (wC d 0 n fn bg hp hen (by first|omega|(simp;done)|(simp;omega)) (by first|omega|(simp;done)|(simp;omega))) CK rfl rfl ⟨⟨_,rfl,.c (.d _)⟩,⟨_,rfl,.c (.d _)⟩,⟨_,rfl,.c (.d _)⟩,⟨_,rfl,.c (.d _)⟩,trivial⟩ trivial trivial rfl rfl rfl rfl) rfl ?_
 refine af ?_
 refine aY ?_
 refine cE (β:=Nat) (fun (z:Nat)=>⟨[(0,(aC (gL d))),(1,(aI n)),(2,(aC (.d (.f fn bg)))),(6,(aI 20))],[],0⟩) (fun (z:Nat)=>True) (fun (z:Nat)=>0) 0 ?_ ?_ ?_
 ·trivial
 ·exact aH.ca id (by refine ⟨?_,?_,?_,?_,trivial⟩<;>first|rfl|(simp only [bu];done)|(congr 3;omega)|(congr 4;omega)|(simp only [bw];rfl)) (trivial) rfl
 rintro z _
 refine ag ?_
 refine ae aa 3 rfl ?_
 refine aj rfl (fun hc2=>?_) (fun hc2=>?_)
 ·
  have hc2':=of_decide_eq_true hc2
  exfalso;omega
 have hc2':=of_decide_eq_false hc2
 refine cv ?_
 refine aU ?_
 refine aU ?_
 refine bS ?_
 refine cO aa [] 0 rfl rfl rfl rfl rfl rfl ?_ ?_
 all_goals first|rfl|(simp [aw];done)|(simp [aw];omega)
theorem uO (d:List ah) (fn:FuncId) (bg:List (List D)) (hp:∀ x y:ah,Fn Try.prog fn ([.g [cI x.aE,cI x.ba,cI x.kind,cI x.sum],.g [cI y.aE,cI y.ba,cI y.kind,cI y.sum]]++bg.map fun r=>GV.c (.q r 0)) (aI (ic x y)) []) (hen:bl Try.prog fn) (h:d.length=0):Fn Try.prog 55 [(.c (gL d)),(.c (.d (.f fn bg)))] (.t []) []:=by
 refine Fn.mk' 9 [(0,(aC (gL d))),(1,(aC (.d (.f fn bg))))] Try.func55 rfl rfl rfl rfl ?_
 intro W0 T0
 refine dt 0 rfl (fun hlen0=>?_)
 refine ax ?_
 refine ad aa 2 rfl ?_
 refine aA (cF rfl rfl rfl rfl rfl Try.underlying42) rfl ?_
 refine ad aa 1 rfl ?_
 refine aQ 0 [] (cb 0 (Bl d (↑d.length:Int) fn bg hp hen (by first|omega|(simp;done)|(simp;omega))) FP rfl rfl ⟨⟨_,rfl,.c (.d _)⟩,⟨_,rfl,.c (.d _)⟩,⟨_,rfl,.c (.d _)⟩,trivial⟩ trivial trivial rfl rfl rfl rfl) rfl ?_
 refine bZ ?_
 refine cO aa [] 0 rfl rfl rfl rfl rfl rfl ?_ ?_
 all_goals first|rfl|(simp [aw];done)|(simp [aw];omega)
theorem wK (d:List ah) (N:Nat) (fn:FuncId) (bg:List (List D)) (hp:∀ x y:ah,Fn Try.prog fn ([.g [cI x.aE,cI x.ba,cI x.kind,cI x.sum],.g [cI y.aE,cI y.ba,cI y.kind,cI y.sum]]++bg.map fun r=>GV.c (.q r 0)) (aI (ic x y)) []) (hen:bl Try.prog fn) (hl:d.length * 32<=140737488355328) (hN:N=d.length) (h0_:0 < d.length) (r:List ah) (hr:dF d=r):cJ Try.prog 55 [(.c (.s 0 0 4 N)),(.c (.d (.f fn bg)))] [(0,(cM d))] [0] (.t []) [(0,(cM r))]:=by
 refine cJ.mk 9 [(0,(aC (.s 0 0 4 N))),(1,(aC (.d (.f fn bg))))] 1 Try.func55 rfl rfl rfl rfl rfl rfl rfl rfl rfl ?_
 intro W0 F0 T0 pg
 refine gJ 0 rfl (fun hlen0=>?_)
 refine ax ?_
 refine ad aa 2 rfl ?_
 refine aA (dz rfl rfl rfl rfl rfl Try.underlying42) rfl ?_
 refine ad aa 1 rfl ?_
 obtain ⟨r0,hr0⟩:∃ (r0:List ah),dF d=r0:=⟨_,rfl⟩
 refine aQ 1 [0] (dS id id (Bj (↑N:Int) d N N fn bg hp hen (by first|omega|(simp;done)|(simp;omega)) (by first|omega|(simp;done)|(simp;omega)) (by first|omega|(simp;done)|(simp;omega)) (by first|omega|(simp;done)|(simp;omega)) (by first|omega|(simp;done)|(simp;omega)) r0 hr0) FP rfl rfl ⟨⟨_,rfl,.inl ⟨rfl,rfl⟩⟩,⟨_,rfl,.inr (.c (.d _))⟩,⟨_,rfl,.inr (.c (.d _))⟩,trivial⟩ ⟨rfl,trivial⟩ rfl rfl ⟨.inr ⟨_,_,_,rfl,by first|(simp;omega)|(simp only [List.length_map];omega)⟩,trivial⟩ rfl rfl rfl trivial ⟨(fun _ _ _ _=>trivial),trivial⟩ rfl rfl rfl rfl) rfl ?_
 refine bZ ?_
 have hX:dF d=r0:=by
   exact hr0
 rw [hX] at hr;clear hX
 subst hr
 refine cO aa [0] 1 rfl rfl rfl rfl rfl rfl ?_ ?_
 all_goals first|rfl|(simp [aw];done)|(simp [aw];omega)
theorem wJ (l:List ah) (hl:l.length * 32<=140737488355328) (r:List ah) (hr:dF l=r):Fn Try.prog 37 [(.c (gL l))] (.v (.c (.s 0 0 4 r.length))) [(0,(cM r))]:=by
 refine Fn.mk' 9 [(0,(aC (gL l)))] Try.func37 rfl rfl rfl rfl ?_
 intro W0 T0
 refine dt 0 rfl (fun hlen0=>?_)
 refine ae aa 1 rfl ?_
 refine aF aa 1 rfl ?_
 refine aQ 1 [0] (cb 0 (mZ l (by first|omega|(simp;done)|(simp;omega))) FR rfl rfl ⟨⟨_,rfl,.c (.d _)⟩,trivial⟩ trivial ⟨(fun _ _ _ _=>trivial),trivial⟩ rfl rfl rfl rfl) rfl ?_
 refine ad aa 1 rfl ?_
 refine af ?_
 rcases (show l.length=0\/0 < l.length from by omega) with hs1|hs1
 ·
  refine aF aa 1 rfl ?_
  refine aQ 1 [0] (fe 1 [0] (uO l 53 ([]) (fun x y=>tk x y) CM (by first|omega|(simp;done)|(simp;omega))) FQ rfl rfl ⟨⟨_,rfl,.c (.s rfl (by decide) (by first|omega|(simp;done)|(simp;omega)))⟩,⟨_,rfl,.c (.fn trivial)⟩,trivial⟩ trivial trivial rfl rfl rfl rfl) rfl ?_
  refine af ?_
  refine ae aa 2 rfl ?_
  refine az ?_
  have hX:dF l=l:=by
    exact zU (by assumption)
  rw [hX] at hr;clear hX
  subst hr
  refine al aa [0] 1 rfl rfl rfl rfl rfl rfl ?_ ?_
  all_goals first|rfl|(simp [aw];done)|(simp [aw];omega)
 refine aF aa 1 rfl ?_
 obtain ⟨r0,hr0⟩:∃ (r0:List ah),dF l=r0:=⟨_,rfl⟩
 have hlr0:r0.length=l.length:=by rw [<-hr0];exact la _
 refine aQ 1 [0] (dS id id (wK l l.length 53 ([]) (fun x y=>tk x y) CM (by first|omega|(simp;done)|(simp;omega)) (by first|omega|(simp;done)|(simp;omega)) (by first|omega|(simp;done)|(simp;omega)) r0 hr0) FQ rfl rfl ⟨⟨_,rfl,.inl ⟨rfl,rfl⟩⟩,⟨_,rfl,.inr (.c (.fn trivial))⟩,trivial⟩ ⟨rfl,trivial⟩ rfl rfl ⟨.inr ⟨_,_,_,rfl,by first|(simp;omega)|(simp only [List.length_map];omega)⟩,trivial⟩ rfl rfl rfl trivial ⟨(fun _ _ _ _=>trivial),trivial⟩ rfl rfl rfl rfl) rfl ?_
 refine af ?_
 refine ae aa 2 rfl ?_
 refine az ?_
 have hX:dF l=r0:=by
   exact hr0
 rw [hX] at hr;clear hX
 subst hr
 refine al aa [0] 1 rfl rfl rfl rfl rfl rfl ?_ ?_
 all_goals first|rfl|(simp [aw];done)|(simp [aw];omega)

theorem qw (l:List ah) (f:cW) (hr:eV l=f):Fn Try.prog 31 [(.c (gL l))] (.v (.g [(cI f.err),(cI f.at_)])) []:=by
 refine Fn.mk' 58 [(0,(aC (gL l)))] Try.func31 rfl rfl rfl rfl ?_
 intro W0 T0
 refine dt 0 rfl (fun hlen0=>?_)
 refine ae aa 1 rfl ?_
 refine ag ?_
 refine aF aa 1 rfl ?_
 refine aA (cF rfl rfl rfl rfl rfl Try.underlying42) rfl ?_
 refine ad aa 1 rfl ?_
 refine af ?_
 refine aj rfl (fun hc1=>?_) (fun hc1=>?_)
 ·
  have hc1':=of_decide_eq_true hc1
  refine ae aa 2 rfl ?_
  refine az ?_
  refine an ?_
  have hX:eV l=(⟨5,0⟩:cW):=by
    unfold eV;rw [if_pos (by omega)]
  rw [hX] at hr;clear hX
  subst hr
  refine al aa [0] 0 rfl rfl rfl rfl rfl rfl ?_ ?_
  all_goals first|rfl|(simp [aw];done)|(simp [aw];omega)
 have hc1':=of_decide_eq_false hc1
 refine aS ?_
 refine ag ?_
 refine aF aa 1 rfl ?_
 refine aA (cF rfl rfl rfl rfl rfl Try.underlying42) rfl ?_
 refine ad aa 1 rfl ?_
 refine af ?_
 refine aY ?_
 refine cE (β:=Nat) (fun (q:Nat)=>⟨[(2,(aC (.p 0 0 0 0))),(9,(aC (gL l))),(10,(aI (↑l.length:Int))),(11,(aI (↑q:Int)))],[(0,(.box 50 [(cI 0),(cI 0)]))],1⟩) (fun (q:Nat)=>q<=l.length/\mJ l 0=mJ (l.drop q) q) (fun (q:Nat)=>l.length - q) 0 ?_ ?_ ?_
 ·exact ⟨by omega,rfl⟩
 ·exact aH.ca id (by refine ⟨?_,?_,?_,?_,trivial⟩<;>first|rfl|(simp only [bu];done)|(congr 3;omega)|(congr 4;omega)|(simp only [bw];rfl)) (⟨by first|rfl|(simp only [bu];done)|(congr 3;omega)|(congr 4;omega)|(simp only [bw];rfl),trivial⟩) rfl
 rintro q ⟨hi0_0,hi0_1⟩
 refine ae aa 1 rfl ?_
 refine ag ?_
 refine aj rfl (fun hc2=>?_) (fun hc2=>?_)
 ·
  have hc2':=of_decide_eq_true hc2
  refine aS ?_
  refine ag ?_
  refine aY ?_
  refine aF aa 1 rfl ?_
  obtain ⟨x1,hx1⟩:=cf (xs:=l) (i:=q) (by first|omega|(simp;done)|(simp;omega))
  refine aA (cD (i:=q) rfl rfl rfl Try.underlying42 dn (by first|omega|(simp;done)|(simp;omega)) (bp hx1)) rfl ?_
  refine ad aa 4 rfl ?_
  refine af ?_
  refine ag ?_
  refine cw 23 ((decide (x1.kind < 1))||(decide (x1.kind > 8))) ?_ ?_
  ·
   refine ax ?_
   refine ad aa 4 rfl ?_
   refine bE (t:=19) rfl (fun hb3=>?_) (fun hb3=>?_)
   ·
    have hb3':=of_decide_eq_true hb3
    refine ad aa 4 rfl ?_
    refine af ?_
    exact aH.bD 9 rfl rfl (by first|(simp [hb3];done)|(simp_all;done)|(exfalso;simp_all;done)|(simp_all;omega)) rfl
   have hb3':=of_decide_eq_false hb3
   refine ad aa 4 rfl ?_
   refine af ?_
   exact aH.bD 9 rfl rfl (by first|(simp [hb3];done)|(simp_all;done)|(exfalso;simp_all;done)|(simp_all;omega)) rfl
  refine aj rfl (fun hc4=>?_) (fun hc4=>?_)
  ·
   have hc4':=hc4;try simp only [br,bR] at hc4'
   refine ae aa 3 rfl ?_
   refine az ?_
   refine an ?_
   refine bc ?_
   refine an ?_
   refine an ?_
   refine bc ?_
   refine an ?_
   have hX:eV l=(⟨1,(↑q:Int)⟩:cW):=by
     unfold eV;rw [if_neg (by omega),hi0_1,oE hx1,if_pos (by unfold mM;omega)]
   rw [hX] at hr;clear hX
   subst hr
   refine al aa [0] 0 rfl rfl rfl rfl rfl rfl ?_ ?_
   all_goals first|rfl|(simp [aw];done)|(simp [aw];omega)
  have hc4':=hc4;try simp only [br,bR] at hc4'
  refine aS ?_
  refine cw 53 ((((((decide (x1.aE < 0))||(decide (x1.aE>=8)))||(decide (x1.ba < 0)))||(decide (x1.ba>=30)))||(decide (x1.sum < 1)))||(decide (x1.sum > 1000000))) ?_ ?_
  ·
   refine ax ?_
   refine ad aa 4 rfl ?_
   refine bE (t:=29) rfl (fun hb5=>?_) (fun hb5=>?_)
   ·
    have hb5':=of_decide_eq_true hb5
    refine ad aa 24 rfl ?_
    refine af ?_
    exact aH.bD 29 rfl rfl (by first|(simp [hb5];done)|(simp_all;done)|(exfalso;simp_all;done)|(simp_all;omega)) rfl
   have hb5':=of_decide_eq_false hb5
   refine ad aa 5 rfl ?_
   refine bE (t:=34) rfl (fun hb6=>?_) (fun hb6=>?_)
   ·
    have hb6':=of_decide_eq_true hb6
    refine ad aa 19 rfl ?_
    refine af ?_
    exact aH.bD 30 rfl rfl (by first|(simp [hb5,hb6];done)|(simp_all;done)|(exfalso;simp_all;done)|(simp_all;omega)) rfl
   have hb6':=of_decide_eq_false hb6
   refine ad aa 5 rfl ?_
   refine bE (t:=39) rfl (fun hb7=>?_) (fun hb7=>?_)
   ·
    have hb7':=of_decide_eq_true hb7
    refine ad aa 14 rfl ?_
    refine af ?_
    exact aH.bD 31 rfl rfl (by first|(simp [hb5,hb6,hb7];done)|(simp_all;done)|(exfalso;simp_all;done)|(simp_all;omega)) rfl
   have hb7':=of_decide_eq_false hb7
   refine ad aa 5 rfl ?_
   refine bE (t:=44) rfl (fun hb8=>?_) (fun hb8=>?_)
   ·
    have hb8':=of_decide_eq_true hb8
    refine ad aa 9 rfl ?_
    refine af ?_
    exact aH.bD 32 rfl rfl (by first|(simp [hb5,hb6,hb7,hb8];done)|(simp_all;done)|(exfalso;simp_all;done)|(simp_all;omega)) rfl
   have hb8':=of_decide_eq_false hb8
   refine ad aa 5 rfl ?_
   refine bE (t:=49) rfl (fun hb9=>?_) (fun hb9=>?_)
   ·
    have hb9':=of_decide_eq_true hb9
    refine ad aa 4 rfl ?_
    refine af ?_
    exact aH.bD 33 rfl rfl (by first|(simp [hb5,hb6,hb7,hb8,hb9];done)|(simp_all;done)|(exfalso;simp_all;done)|(simp_all;omega)) rfl
   have hb9':=of_decide_eq_false hb9
   refine ad aa 4 rfl ?_
   refine af ?_
   exact aH.bD 33 rfl rfl (by first|(simp [hb5,hb6,hb7,hb8,hb9];done)|(simp_all;done)|(exfalso;simp_all;done)|(simp_all;omega)) rfl
  refine aj rfl (fun hc10=>?_) (fun hc10=>?_)
  ·
   have hc10':=hc10;try simp only [br,bR] at hc10'
   refine ae aa 3 rfl ?_
   refine az ?_
   refine bc ?_
   refine an ?_
   refine an ?_
   refine bc ?_
   refine an ?_
   have hX:eV l=(⟨3,(↑q:Int)⟩:cW):=by
     unfold eV;rw [if_neg (by omega),hi0_1,oE hx1,if_neg (by unfold mM;omega),if_pos (by unfold nO;omega)]
   rw [hX] at hr;clear hX
   subst hr
   refine al aa [0] 0 rfl rfl rfl rfl rfl rfl ?_ ?_
   all_goals first|rfl|(simp [aw];done)|(simp [aw];omega)
  have hc10':=hc10;try simp only [br,bR] at hc10'
  refine da ?_
  refine bm ?_
  refine then_ok ?_
  refine ax ?_
  refine aA (aM rfl rfl rfl (aL (by first|omega|(simp;done)|(simp;omega)))) rfl ?_
  refine ad aa 1 rfl ?_
  refine af ?_
  refine ⟨q+1,⟨by omega,by rw [hi0_1,oE hx1,if_neg (by unfold mM;omega),if_neg (by unfold nO;omega)]⟩,by first|omega|(simp;done)|(simp;omega),aH.ca id (by refine ⟨?_,?_,?_,?_,trivial⟩<;>first|rfl|(simp only [bu];done)|(congr 3;omega)|(congr 4;omega)|(simp only [bw];rfl)) (⟨by first|rfl|(simp only [bu];done)|(congr 3;omega)|(congr 4;omega)|(simp only [bw];rfl),trivial⟩) rfl⟩
 have hc2':=of_decide_eq_false hc2
 refine cv ?_
 refine aU ?_
 refine aU ?_
 refine bS ?_
 refine then_ok ?_
 refine ae aa 2 rfl ?_
 refine az ?_
 have hX:eV l=(⟨0,0⟩:cW):=by
   unfold eV;rw [if_neg (by omega),hi0_1,Af (by omega)]
 rw [hX] at hr;clear hX
 subst hr
 refine al aa [0] 0 rfl rfl rfl rfl rfl rfl ?_ ?_
 all_goals first|rfl|(simp [aw];done)|(simp [aw];omega)
theorem oa (a b:List ah) (r:Bool) (hr:fD a b=r):Fn Try.prog 36 [(.c (gL a)),(.c (gL b))] (.v (.c (cB r))) []:=by
 refine Fn.mk' 26 [(0,(aC (gL a))),(1,(aC (gL b)))] Try.func36 rfl rfl rfl rfl ?_
 intro W0 T0
 refine dt 0 rfl (fun hlen0=>?_)
 refine dt 1 rfl (fun hlen1=>?_)
 refine ae aa 1 rfl ?_
 refine ag ?_
 refine aF aa 1 rfl ?_
 refine aA (cF rfl rfl rfl rfl rfl Try.underlying42) rfl ?_
 refine ad aa 1 rfl ?_
 refine aA (cF rfl rfl rfl rfl rfl Try.underlying42) rfl ?_
 refine ad aa 1 rfl ?_
 refine af ?_
 refine aj rfl (fun hc1=>?_) (fun hc1=>?_)
 ·
  have hc1':=of_decide_eq_true hc1
  refine ae aa 1 rfl ?_
  refine az ?_
  refine an ?_
  have hX:fD a b=false:=by
    exact DU (by omega)
  rw [hX] at hr;clear hX
  subst hr
  refine al aa [] 0 rfl rfl rfl rfl rfl rfl ?_ ?_
  all_goals first|rfl|(simp [aw];done)|(simp [aw];omega)
 have hc1':=of_decide_eq_false hc1
 refine aS ?_
 refine ag ?_
 refine aF aa 1 rfl ?_
 refine aA (cF rfl rfl rfl rfl rfl Try.underlying42) rfl ?_
 refine ad aa 1 rfl ?_
 refine af ?_
 refine aY ?_
 refine cE (β:=Nat) (fun (q:Nat)=>⟨[(0,(aC (gL a))),(1,(aC (gL b))),(12,(aI (↑a.length:Int))),(13,(aI (↑q:Int)))],[],0⟩) (fun (q:Nat)=>q<=a.length/\a.take q=b.take q) (fun (q:Nat)=>a.length - q) 0 ?_ ?_ ?_
 ·exact ⟨by omega,rfl⟩
 ·exact aH.ca id (by refine ⟨?_,?_,?_,?_,trivial⟩<;>first|rfl|(simp only [bu];done)|(congr 3;omega)|(congr 4;omega)|(simp only [bw];rfl)) (trivial) rfl
 rintro q ⟨hi0_0,hi0_1⟩
 refine ae aa 1 rfl ?_
 refine ag ?_
 refine aj rfl (fun hc2=>?_) (fun hc2=>?_)
 ·
  have hc2':=of_decide_eq_true hc2
  refine aS ?_
  refine ag ?_
  refine aY ?_
  refine ae aa 2 rfl ?_
  refine ag ?_
  obtain ⟨x1,hx1⟩:=cf (xs:=a) (i:=q) (by first|omega|(simp;done)|(simp;omega))
  obtain ⟨x2,hx2⟩:=cf (xs:=b) (i:=q) (by first|omega|(simp;done)|(simp;omega))
  refine aX [0,1,12,13,5] [] mixed rfl rfl ?_
  refine aD (kn:=[]) aa 2 rfl trivial ?_
  refine aT (n':=0) [16,17] [] rfl rfl (.inl ⟨(ak.plain rfl),aK.cast (cD (i:=q) rfl rfl rfl Try.underlying42 dn (by first|omega|(simp;done)|(simp;omega)) (bp hx1)) rfl⟩) rfl ?_
  refine aD (kn:=[]) aa 3 rfl trivial ?_
  refine aT (n':=0) [20,21] [] rfl rfl (.inl ⟨(ak.plain rfl),aK.cast (cD (i:=q) rfl rfl rfl Try.underlying42 dn (by first|omega|(simp;done)|(simp;omega)) (bp hx2)) rfl⟩) rfl ?_
  refine aD (kn:=[]) aa 1 rfl trivial ?_
  refine aT (n':=0) [19,23] [] rfl rfl (.inl ⟨(ak.plain rfl),aK.cast (GP (Hi _ _ _ _ _ _ _ _) rfl rfl rfl rfl rfl rfl) rfl⟩) rfl ?_
  refine bA [] rfl rfl rfl rfl (by kernel_rfl) ?_
  refine af ?_
  refine aj rfl (fun hc3=>?_) (fun hc3=>?_)
  ·
   have hc3':=hc3;try simp only [br,bR] at hc3'
   refine ae aa 1 rfl ?_
   refine az ?_
   refine bc ?_
   refine an ?_
   refine an ?_
   refine bc ?_
   refine an ?_
   have hX:fD a b=false:=by
     refine BS hx1 hx2 ?_;simp_all [zX]
   rw [hX] at hr;clear hX
   subst hr
   refine al aa [] 0 rfl rfl rfl rfl rfl rfl ?_ ?_
   all_goals first|rfl|(simp [aw];done)|(simp [aw];omega)
  have hc3':=hc3;try simp only [br,bR] at hc3'
  refine da ?_
  refine bm ?_
  refine then_ok ?_
  refine ax ?_
  refine aA (aM rfl rfl rfl (aL (by first|omega|(simp;done)|(simp;omega)))) rfl ?_
  refine ad aa 1 rfl ?_
  refine af ?_
  refine ⟨q+1,⟨by omega,by rw [gN hx1,gN hx2,hi0_1,show x1=x2 by simp_all [zX]]⟩,by first|omega|(simp;done)|(simp;omega),aH.ca id (by refine ⟨?_,?_,?_,?_,trivial⟩<;>first|rfl|(simp only [bu];done)|(congr 3;omega)|(congr 4;omega)|(simp only [bw];rfl)) (trivial) rfl⟩
 have hc2':=of_decide_eq_false hc2
 refine cv ?_
 refine aU ?_
 refine aU ?_
 refine bS ?_
 refine then_ok ?_
 refine ae aa 1 rfl ?_
 refine az ?_
 have hX:fD a b=true:=by
   exact BR (q:=q) (by omega) (by omega) hi0_1
 rw [hX] at hr;clear hX
 subst hr
 refine al aa [] 0 rfl rfl rfl rfl rfl rfl ?_ ?_
 all_goals first|rfl|(simp [aw];done)|(simp [aw];omega)

theorem uz (b:List Int) (N:Nat) (n:Int) (z:Nat) (hN:N=b.length) (hz:z<=8) (hl:b.length+z<=1000000) (r:List Int) (hr:b++iu n z=r):cJ Try.prog 109 [(.c (.s 0 0 1 N)),(.c (cI n)),(.c (cI (↑z:Int)))] [(0,(yo b))] [] (.v (.c (.s 0 0 1 r.length))) [(0,(yo r))]:=by
 refine cJ.mk 23 [(0,(aC (.s 0 0 1 N))),(1,(aI n)),(2,(aI (↑z:Int)))] 1 Try.func109 rfl rfl rfl rfl rfl rfl rfl rfl rfl ?_
 intro W0 F0 T0 pg
 refine gJ 0 rfl (fun hlen0=>?_)
 refine ae aa 1 rfl ?_
 refine ag ?_
 refine aF aa 1 rfl ?_
 refine aA (aM rfl rfl rfl (aL (by first|omega|(simp;done)|(simp;omega)))) rfl ?_
 refine ad aa 1 rfl ?_
 refine af ?_
 refine aY ?_
 refine cE (β:=Nat×List Int) (fun (p:Nat×List Int)=>match p with|(k,m)=>⟨[(0,(aC (.s 0 0 1 m.length))),(1,(aI n)),(6,(aC cN)),(7,(aI ((↑k:Int) - 1)))],[(0,(yo m))],1⟩) (fun (p:Nat×List Int)=>match p with|(k,m)=>k<=z/\m++iu n k=b++iu n z/\m.length+k=b.length+z) (fun (p:Nat×List Int)=>match p with|(k,m)=>k) (z,b) ?_ ?_ ?_
 ·exact ⟨by omega,rfl,rfl⟩
 ·exact aH.ca id (by refine ⟨?_,?_,?_,?_,trivial⟩<;>first|rfl|(simp only [bu];done)|(congr 3;omega)|(congr 4;omega)|(simp only [bw];rfl)|(first|exact cK rfl (by omega)|exact ja rfl (by omega))) (⟨by first|rfl|(simp only [bu];done)|(congr 3;omega)|(congr 4;omega)|(simp only [bw];rfl),trivial⟩) rfl
 rintro ⟨k,m⟩ ⟨hi0_0,hi0_1,hi0_2⟩
 refine ag ?_
 refine ae aa 2 rfl ?_
 refine aj rfl (fun hc1=>?_) (fun hc1=>?_)
 ·
  have hc1':=of_decide_eq_true hc1
  refine aS ?_
  refine ag ?_
  refine aY ?_
  refine ax ?_
  refine ad aa 3 rfl ?_
  refine aA (aM rfl rfl rfl (aL (by first|omega|(simp;done)|(simp;omega)))) rfl ?_
  refine aA (Fm rfl rfl rfl (by first|omega|(simp;done)|(simp;omega)) rfl (HC (k:=k) (by omega) rfl)) rfl ?_
  refine aA (eE rfl rfl (by rw [Try.underlying3];rfl) Try.underlying5 mY) rfl ?_
  refine aQ 2 [1,0] (dV (ys:=[(0,(.c (.d (.v (.int .u8 ((n / 256 ^ (k - 1)) % 256))))))]) (rows:=([(n / 256 ^ (k - 1)) % 256]).map fE) 1 vo rfl (by decide) ⟨⟨rfl,rfl⟩,trivial⟩ rfl rfl rfl rfl) rfl ?_
  refine aQ 3 [2,1] (dw (m:=1) (N:=m.length+1) (k2:=2) (ys:=([(n / 256 ^ (k - 1)) % 256]).map fE) vo rfl rfl rfl rfl rfl rfl (by first|omega|(simp;done)|(simp;omega)) rfl (.s rfl (by first|omega|(simp;done)|(simp;omega))) (by first|omega|(simp;done)|(simp;omega)) (by first|omega|(simp;done)|(simp;omega)) fz (by decide) (by first|omega|(simp;done)|(simp;omega)) (by first|omega|(simp;done)|(simp;omega))) rfl ?_
  refine ad aa 1 rfl ?_
  refine bZ ?_
  refine bm ?_
  refine then_ok ?_
  refine ax ?_
  refine ad aa 1 rfl ?_
  refine aA (aM rfl rfl rfl (aL (by first|omega|(simp;done)|(simp;omega)))) rfl ?_
  refine ad aa 1 rfl ?_
  refine af ?_
  refine ⟨(k - 1,m++([(n / 256 ^ (k - 1)) % 256])),⟨by omega,by rw [<-hi0_1,Di (k:=k) (by omega),List.append_assoc];rfl,by simp only [List.length_append,List.length_cons,List.length_nil];omega⟩,by first|omega|(simp;done)|(simp;omega),aH.ca (fun k=>if k=0 then 2 else k) (by refine ⟨?_,?_,?_,?_,trivial⟩<;>first|rfl|(simp only [bu];done)|(congr 3;omega)|(congr 4;omega)|(simp only [bw];rfl)|(first|exact cK rfl (by omega)|exact ja rfl (by simp only [List.length_append,List.length_cons,List.length_nil];omega))) (⟨by first|rfl|(simp only [bu];done)|(congr 3;omega)|(congr 4;omega)|(simp only [bw];rfl),trivial⟩) rfl⟩
 have hc1':=of_decide_eq_false hc1
 refine cv ?_
 refine aU ?_
 refine aU ?_
 refine bS ?_
 refine then_ok ?_
 refine ae aa 2 rfl ?_
 refine az ?_
 have hX:b++iu n z=m:=by
   (obtain rfl:k=0:=by omega);rw [<-hi0_1];simp [iu]
 rw [hX] at hr;clear hX
 subst hr
 refine al aa [0] 1 rfl rfl rfl rfl rfl rfl ?_ ?_
 all_goals first|rfl|(simp [aw];done)|(simp [aw];omega)
theorem rl (l:List Int) (hb:∀ c∈l,0<=c/\c<=255) (hl:l.length<=4) (n:Int) (hr:gm l=n):Fn Try.prog 51 [(.c (pV l))] (.v (.c (cI n))) []:=by
 refine Fn.mk' 19 [(0,(aC (pV l)))] Try.func51 rfl rfl rfl rfl ?_
 intro W0 T0
 refine dt 0 rfl (fun hlen0=>?_)
 refine ae aa 1 rfl ?_
 refine ae aa 1 rfl ?_
 refine ag ?_
 refine aF aa 1 rfl ?_
 refine aA (cF rfl rfl rfl rfl rfl Try.underlying86) rfl ?_
 refine ad aa 1 rfl ?_
 refine af ?_
 refine aY ?_
 refine cE (β:=Nat×Int) (fun (p:Nat×Int)=>match p with|(q,m)=>⟨[(2,(aI 0)),(3,(aI m)),(6,(aC (pV l))),(7,(aI (↑l.length:Int))),(8,(aI (↑q:Int)))],[],0⟩) (fun (p:Nat×Int)=>match p with|(q,m)=>q<=l.length/\m=gm (l.take q)/\0<=m/\(q=0->m=0)/\(q=1->m<=255)/\(q=2->m<=65535)/\(q=3->m<=16777215)/\(q=4->m<=4294967295)) (fun (p:Nat×Int)=>match p with|(q,m)=>l.length - q) (0,0) ?_ ?_ ?_
 ·exact ⟨by omega,rfl,by omega⟩
 ·exact aH.ca id (by refine ⟨?_,?_,?_,?_,?_,trivial⟩<;>first|rfl|(simp only [bu];done)|(congr 3;omega)|(congr 4;omega)|(simp only [bw];rfl)) (trivial) rfl
 rintro ⟨q,m⟩ ⟨hi0_0,hi0_1,hi0_2⟩
 refine ae aa 1 rfl ?_
 refine ag ?_
 refine aj rfl (fun hc1=>?_) (fun hc1=>?_)
 ·
  have hc1':=of_decide_eq_true hc1
  refine aS ?_
  refine ag ?_
  refine aY ?_
  refine eR ?_
  obtain ⟨x1,hx1⟩:=cf (xs:=l) (i:=q) (by first|omega|(simp;done)|(simp;omega))
  have hx1b:=hb x1 (List.mem_of_getElem? hx1)
  refine aA (cD (i:=q) rfl rfl rfl Try.underlying86 rH (by first|omega|(simp;done)|(simp;omega)) (bp hx1)) rfl ?_
  refine ad aa 2 rfl ?_
  refine af ?_
  refine ax ?_
  refine ad aa 1 rfl ?_
  refine aA (Fo rfl rfl rfl (aL (by first|omega|(simp;done)|(simp;omega)))) rfl ?_
  refine ad aa 1 rfl ?_
  refine aA (eE rfl rfl (by rw [Try.underlying5];rfl) Try.underlying3 (gR (by first|omega|(simp;done)|(simp;omega)))) rfl ?_
  refine aA (GO (n:=m) rfl rfl rfl rfl (by first|omega|(simp;done)|(simp;omega)) (by first|omega|(simp;done)|(simp;omega)) rfl) rfl ?_
  refine ad aa 1 rfl ?_
  refine bZ ?_
  refine bm ?_
  refine then_ok ?_
  refine ax ?_
  refine aA (aM rfl rfl rfl (aL (by first|omega|(simp;done)|(simp;omega)))) rfl ?_
  refine ad aa 1 rfl ?_
  refine af ?_
  refine ⟨(q+1,(m * 256)+(x1:Int)),⟨by omega,by rw [An hx1,<-hi0_1],by omega⟩,by first|omega|(simp;done)|(simp;omega),aH.ca id (by refine ⟨?_,?_,?_,?_,?_,trivial⟩<;>first|rfl|(simp only [bu];done)|(congr 3;omega)|(congr 4;omega)|(simp only [bw];rfl)) (trivial) rfl⟩
 have hc1':=of_decide_eq_false hc1
 refine cv ?_
 refine aU ?_
 refine aU ?_
 refine bS ?_
 refine then_ok ?_
 refine ae aa 2 rfl ?_
 refine az ?_
 have hX:gm l=m:=by
   rw [hi0_1,List.take_of_length_le (by omega)]
 rw [hX] at hr;clear hX
 subst hr
 refine al aa [] 0 rfl rfl rfl rfl rfl rfl ?_ ?_
 all_goals first|rfl|(simp [aw];done)|(simp [aw];omega)
theorem zt (l : List ah) (fn : FuncId) (bg : List (List D)) (hp : ∀ x y : ah, Fn Try.prog fn ([.g [cI x.aE, cI x.ba, cI x.kind, cI x.sum], .g [cI y.aE, cI y.ba, cI y.kind, cI y.sum]] ++ bg.map fun r => GV.c (.q r 0)) (aI (ic x y)) []) (hen : bl Try.prog fn) (r : Bool) (hr : ou l = r) : Fn Try.prog 52 [(.c (gL l)), (.c (.d (.f fn bg)))] (.v (.c (cB r))) [] := by
 refine Fn.mk' 25 [(0, (aC (gL l))), (1, (aC (.d (.f fn bg))))] Try.func52 rfl rfl rfl rfl ?_
 intro W0 T0
 refine dt 0 rfl (fun hlen0 => ?_)
 refine ae aa 1 rfl ?_
 refine ag ?_
 refine aF aa 1 rfl ?_
 refine aA (cF rfl rfl rfl rfl rfl Try.underlying42) rfl ?_
 refine aA (aM rfl rfl rfl (aL (by first | omega | (simp; done) | (simp; omega)))) rfl ?_
 refine ad aa 1 rfl ?_
 refine af ?_
 refine aY ?_
 refine cE (β := Nat) (fun (q : Nat) => ⟨[(0, (aC (gL l))), (1, (aC (.d (.f fn bg)))), (5, (aI ((↑q : Int) - 1)))], [], 0⟩) (fun (q : Nat) => q ≤ l.length ∧ (∀ i, q ≤ i → 1 ≤ i → ∀ x y, l[i]? = some x → l[i - 1]? = some y → fF y x)) (fun (q : Nat) => q) l.length ?_ ?_ ?_
 · exact ⟨by omega, fun i hi h1 x y hx hy => by have := (List.getElem?_eq_some_iff.1 hx).1; omega⟩
 · exact aH.ca id (by refine ⟨?_, ?_, ?_,  trivial⟩ <;> first | rfl | (simp only [bu]; done) | (congr 3; omega) | (congr 4; omega) | (simp only [bw]; rfl) | (exact cK rfl (by omega))) (trivial) rfl
 ·
  rintro q ⟨hi0_0, hi0_1⟩
  refine ag ?_
  refine ae aa 2 rfl ?_
  refine aj rfl (fun hc1 => ?_) (fun hc1 => ?_)
  ·
   have hc1' := of_decide_eq_true hc1
   refine aS ?_
   refine ag ?_
   refine aY ?_
   refine ag ?_
   obtain ⟨x1, hx1⟩ := cf (xs := l) (i := (q) - 1) (by first | omega | (simp; done) | (simp; omega))
   obtain ⟨x2, hx2⟩ := cf (xs := l) (i := ((q) - 1) - 1) (by first | omega | (simp; done) | (simp; omega))
   refine aX [0, 1, 5] [] mixed rfl rfl ?_
   refine aD (kn := []) aa 3 rfl trivial ?_
   refine aT (n' := 0) [14, 15] [] rfl rfl (.inl ⟨(ak.plain rfl), aK.cast (cD (i := (q) - 1) rfl rfl rfl Try.underlying42 dn (by first | omega | (simp; done) | (simp; omega)) (bp hx1)) rfl⟩) rfl ?_
   refine aD (kn := []) aa 3 rfl trivial ?_
   refine aT (n' := 0) [19] [] rfl rfl (.inl ⟨(ak.plain rfl), aK.cast (aM rfl rfl rfl (aL (by first | omega | (simp; done) | (simp; omega)))) rfl⟩) rfl ?_
   refine aT (n' := 0) [18, 20] [] rfl rfl (.inl ⟨(ak.plain rfl), aK.cast (cD (i := ((q) - 1) - 1) rfl rfl rfl Try.underlying42 dn (by first | omega | (simp; done) | (simp; omega)) (bp hx2)) rfl⟩) rfl ?_
   refine aD (kn := []) aa 1 rfl trivial ?_
   refine aT (n' := 0) [13, 17, 22] [] rfl rfl (.inl ⟨(ak.plain rfl), aK.cast (gZ (ins := [(.g [(cI x1.aE), (cI x1.ba), (cI x1.kind), (cI x1.sum)]), (.g [(cI x2.aE), (cI x2.ba), (cI x2.kind), (cI x2.sum)])]) 0 (hp x1 x2) hen rfl rfl rfl ⟨⟨_, rfl, .g ⟨.d _, .d _, .d _, .d _,  trivial⟩⟩, ⟨_, rfl, .g ⟨.d _, .d _, .d _, .d _,  trivial⟩⟩,  trivial⟩ trivial trivial rfl rfl rfl rfl) rfl⟩) rfl ?_
   refine aD (kn := []) aa 1 rfl trivial ?_
   refine bA [] rfl rfl rfl rfl (by kernel_rfl) ?_
   refine af ?_
   refine aj rfl (fun hc2 => ?_) (fun hc2 => ?_)
   ·
    have hc2' := of_decide_eq_true hc2
    refine ae aa 1 rfl ?_
    refine az ?_
    refine bc ?_
    refine an ?_
    refine an ?_
    refine bc ?_
    refine an ?_
    have hX : ou l = false := by
      exact DT (q := q - 1) (by omega) hx1 hx2 (kB.1 (by assumption))
    rw [hX] at hr; clear hX
    subst hr
    refine al aa [] 0 rfl rfl rfl rfl rfl rfl ?_ ?_
    all_goals first | rfl | (simp [aw]; done) | (simp [aw]; omega)
   ·
    have hc2' := of_decide_eq_false hc2
    refine da ?_
    refine bm ?_
    refine then_ok ?_
    refine ax ?_
    refine ad aa 1 rfl ?_
    refine aA (aM rfl rfl rfl (aL (by first | omega | (simp; done) | (simp; omega)))) rfl ?_
    refine ad aa 1 rfl ?_
    refine af ?_
    refine ⟨q - 1, ⟨by omega, fun i hi h1 x y hx hy => by
            by_cases hiq : i = q - 1
            · subst hiq
              rw [hx1] at hx; rw [hx2] at hy; injection hx with hx; injection hy with hy; subst hx hy
              exact pI.1 (kC (by assumption))
            · exact hi0_1 i (by omega) h1 x y hx hy⟩, by first | omega | (simp; done) | (simp; omega), aH.ca id (by refine ⟨?_, ?_, ?_,  trivial⟩ <;> first | rfl | (simp only [bu]; done) | (congr 3; omega) | (congr 4; omega) | (simp only [bw]; rfl) | (exact cK rfl (by omega))) (trivial) rfl⟩
  ·
   have hc1' := of_decide_eq_false hc1
   refine cv ?_
   refine aU ?_
   refine aU ?_
   refine bS ?_
   refine then_ok ?_
   refine ae aa 1 rfl ?_
   refine az ?_
   have hX : ou l = true := by
     exact BO (q := q) (by omega) hi0_1
   rw [hX] at hr; clear hX
   subst hr
   refine al aa [] 0 rfl rfl rfl rfl rfl rfl ?_ ?_
   all_goals first | rfl | (simp [aw]; done) | (simp [aw]; omega)

theorem xr (l:List ah) (hl:l.length * 32<=140737488355328) (x:List Int) (f:cW) (hr:fu l=(x,f)):Fn Try.prog 92 [(.c (gL l))] (.t [(.c (.s 0 0 1 x.length)),(.g [(cI f.err),(cI f.at_)])]) [(0,(yo x))]:=by
 refine Fn.mk' 50 [(0,(aC (gL l)))] Try.func92 rfl rfl rfl rfl ?_
 intro W0 T0
 refine dt 0 rfl (fun hlen0=>?_)
 refine ae aa 2 rfl ?_
 refine ag ?_
 refine aF aa 1 rfl ?_
 obtain ⟨f0,hr0⟩:∃ (f0:cW),eV l=f0:=⟨_,rfl⟩
 refine aQ 1 [0] (cb 1 (qw l f0 hr0) FW rfl rfl ⟨⟨_,rfl,.c (.d _)⟩,trivial⟩ ⟨trivial,trivial,trivial⟩ trivial rfl rfl rfl rfl) rfl ?_
 refine ad aa 2 rfl ?_
 refine af ?_
 refine ae aa 3 rfl ?_
 refine aj rfl (fun hc1=>?_) (fun hc1=>?_)
 ·
  have hc1':=of_decide_eq_true hc1
  refine ag ?_
  refine aX [0,3,4] [1,0] mixed rfl rfl ?_
  refine aD (kn:=[]) aa 2 rfl trivial ?_
  refine bA [1,0] rfl rfl rfl rfl (by kernel_rfl) ?_
  refine ad aa 1 rfl ?_
  refine af ?_
  refine az ?_
  refine an ?_
  refine cS (aH.nil 2 5 1 (by decide) rfl) ?_
  have hX:fu l=(([]:List Int),f0):=by
    unfold fu;rw [if_neg (by rw [hr0];omega),hr0]
  rw [hX] at hr;clear hX
  simp only [Prod.mk.injEq] at hr;obtain ⟨rfl,rfl⟩:=hr
  refine al aa [2,0] 1 rfl rfl rfl rfl rfl rfl ?_ ?_
  all_goals first|rfl|(simp [aw];done)|(simp [aw];omega)
 have hc1':=of_decide_eq_false hc1
 refine aS ?_
 have hw:(eV l).err=0:=by rw [hr0];omega
 have hok:=kV.1 hw
 refine aF aa 1 rfl ?_
 refine aA (cF rfl rfl rfl rfl rfl Try.underlying42) rfl ?_
 refine aA (eE rfl rfl (by rw [Try.underlying3];rfl) Try.underlying5 mY) rfl ?_
 refine aQ 3 [2,1,0] (dV (ys:=[(0,(.c (.d (.v (.int .u8 ((↑l.length:Int) % 256))))))]) (rows:=([(↑l.length:Int) % 256]).map fE) 2 vo rfl (by decide) ⟨⟨rfl,rfl⟩,trivial⟩ rfl rfl rfl rfl) rfl ?_
 refine ad aa 1 rfl ?_
 refine af ?_
 refine ae aa 1 rfl ?_
 refine ag ?_
 refine aF aa 1 rfl ?_
 obtain ⟨r1,hr1⟩:∃ (r1:List ah),dF l=r1:=⟨_,rfl⟩
 have hlr:r1.length=l.length:=by rw [<-hr1];exact la _
 have hrok:∀ x∈r1,qi x:=fun x hx=>hok.2 x ((jU l).mem.2 (by rw [hr1];exact hx))
 refine aQ 4 [3,2,1,0] (cb 3 (wJ l (by first|omega|(simp;done)|(simp;omega)) r1 hr1) FU rfl rfl ⟨⟨_,rfl,.c (.d _)⟩,trivial⟩ trivial ⟨(fun _ _ _ _=>trivial),trivial⟩ rfl rfl rfl rfl) rfl ?_
 refine aA (dz rfl rfl rfl rfl rfl Try.underlying42) rfl ?_
 refine ad aa 1 rfl ?_
 refine af ?_
 refine aY ?_
 refine cE (β:=Nat×List Int×Int) (fun (p:Nat×List Int×Int)=>match p with|(q,m,all)=>⟨[(2,(aC cN)),(3,(aC (.p 0 0 0 0))),(5,(aC (.s 2 0 1 m.length))),(6,(aI all)),(20,(aC (.s 3 0 4 r1.length))),(21,(aI (↑r1.length:Int))),(22,(aI (↑q:Int)))],[(3,(cM r1)),(2,(yo m)),(0,(.box 50 [(cI 0),(cI 0)]))],4⟩) (fun (p:Nat×List Int×Int)=>match p with|(q,m,all)=>q<=r1.length/\m=gV l (r1.take q)/\all=eG (r1.take q)/\0<=all/\all<=1000000 * (q:Int)) (fun (p:Nat×List Int×Int)=>match p with|(q,m,all)=>r1.length - q) (0,[(↑l.length:Int) % 256],0) ?_ ?_ ?_
 ·exact ⟨by omega,by simp [gV],rfl,by omega⟩
 ·exact aH.ca id (by refine ⟨?_,?_,?_,?_,?_,?_,?_,trivial⟩<;>first|rfl|(simp only [bu];done)|(congr 3;omega)|(congr 4;omega)|(simp only [bw];rfl)) (by refine ⟨?_,?_,?_,trivial⟩<;>first|rfl|(simp only [bu];done)|(congr 3;omega)|(congr 4;omega)|(simp only [bw];rfl)) rfl
 rintro ⟨q,m,all⟩ ⟨hi0_0,hi0_1,hi0_2,hi0_3⟩
 have hml:m.length=1+6 * q:=by rw [hi0_1,jQ,List.length_take];omega
 refine ae aa 1 rfl ?_
 refine ag ?_
 refine aj rfl (fun hc2=>?_) (fun hc2=>?_)
 ·
  have hc2':=of_decide_eq_true hc2
  refine aS ?_
  refine ag ?_
  refine aY ?_
  refine eR ?_
  refine aA (bz (i:=q) rfl rfl rfl Try.underlying42 dn (by first|omega|(simp;done)|(simp;omega)) (by first|omega|(simp;done)|(simp;omega))) rfl ?_
  obtain ⟨x1,hx1⟩:=cf (xs:=r1) (i:=q) (by first|omega|(simp;done)|(simp;omega))
  have hx1b:=yP (hrok x1 (List.mem_of_getElem? hx1))
  refine aA (dm rfl rfl rfl Try.underlying83 rfl dn (bp hx1) rfl) rfl ?_
  refine ad aa 2 rfl ?_
  refine af ?_
  refine ag ?_
  obtain ⟨r2,hr2⟩:∃ (r2:List Int),(m++([x1.aE % 256,x1.ba % 256,x1.kind % 256]))++iu x1.sum 3=r2:=⟨_,rfl⟩
  have hlr2:r2.length=m.length+6:=by rw [<-hr2];simp [lO]
  refine aX [2,3,5,6,20,21,22,8] [4,3,2,0] mixed rfl rfl ?_
  refine aD (kn:=[]) aa 3 rfl trivial ?_
  refine aT (n':=5) [28] [] rfl rfl (.inl ⟨(ak.plain rfl),aK.cast (eE rfl rfl (by rw [Try.underlying3];rfl) Try.underlying5 mY) rfl⟩) rfl ?_
  refine aD (kn:=[]) aa 2 rfl trivial ?_
  refine aT (n':=5) [31] [] rfl rfl (.inl ⟨(ak.plain rfl),aK.cast (eE rfl rfl (by rw [Try.underlying3];rfl) Try.underlying5 mY) rfl⟩) rfl ?_
  refine aD (kn:=[]) aa 2 rfl trivial ?_
  refine aT (n':=5) [34] [] rfl rfl (.inl ⟨(ak.plain rfl),aK.cast (eE rfl rfl (by rw [Try.underlying3];rfl) Try.underlying5 mY) rfl⟩) rfl ?_
  refine aT (n':=6) [29,32,35] [] rfl rfl (.inl ⟨(ak.plain rfl),aK.cast (dV (ys:=[(0,(.c (.d (.v (.int .u8 (x1.aE % 256)))))),(1,(.c (.d (.v (.int .u8 (x1.ba % 256)))))),(2,(.c (.d (.v (.int .u8 (x1.kind % 256))))))]) (rows:=([x1.aE % 256,x1.ba % 256,x1.kind % 256]).map fE) 5 vo rfl (by decide) ⟨⟨rfl,rfl⟩,⟨rfl,rfl⟩,⟨rfl,rfl⟩,trivial⟩ rfl rfl rfl rfl) rfl⟩) rfl ?_
  refine aT (n':=7) [26,36] [5,2] rfl rfl (.inl ⟨(ak.plain rfl),aK.cast (dw (m:=3) (N:=m.length+3) (k2:=6) (ys:=([x1.aE % 256,x1.ba % 256,x1.kind % 256]).map fE) vo rfl rfl rfl rfl rfl rfl (by first|omega|(simp;done)|(simp;omega)) rfl (.s rfl (by first|omega|(simp;done)|(simp;omega))) (by first|omega|(simp;done)|(simp;omega)) (by first|omega|(simp;done)|(simp;omega)) fz (by decide) (by first|omega|(simp;done)|(simp;omega)) (by first|omega|(simp;done)|(simp;omega))) rfl⟩) rfl ?_
  refine aD (kn:=[]) aa 2 rfl trivial ?_
  refine aT (n':=8) [37,39] [6] rfl rfl (.inl ⟨(ak.plain rfl),aK.cast (cL (bf [6]) (bf [7]) (uz (m++([x1.aE % 256,x1.ba % 256,x1.kind % 256])) (m.length+3) x1.sum 3 (by first|omega|(simp;done)|(simp;omega)) (by first|omega|(simp;done)|(simp;omega)) (by first|omega|(simp;done)|(simp;omega)) r2 hr2) DJ rfl rfl ⟨⟨_,rfl,.inl ⟨rfl,rfl⟩⟩,⟨_,rfl,.inr (.c (.d _))⟩,⟨_,rfl,.inr (.c (.d _))⟩,trivial⟩ ⟨rfl,trivial⟩ rfl rfl rfl rfl rfl rfl trivial ⟨(fun _ _ _ _=>trivial),trivial⟩ rfl rfl rfl rfl) rfl⟩) rfl ?_
  refine bA [7,4,3,0] rfl rfl rfl rfl (by kernel_rfl) ?_
  refine ad aa 1 rfl ?_
  refine af ?_
  refine ax ?_
  refine ad aa 3 rfl ?_
  refine aA (aM rfl rfl rfl (aL (by first|omega|(simp;done)|(simp;omega)))) rfl ?_
  refine ad aa 1 rfl ?_
  refine bZ ?_
  refine bm ?_
  refine then_ok ?_
  refine ax ?_
  refine aA (aM rfl rfl rfl (aL (by first|omega|(simp;done)|(simp;omega)))) rfl ?_
  refine ad aa 1 rfl ?_
  refine af ?_
  refine ⟨(q+1,r2,all+x1.sum),⟨by omega,by rw [yW hx1,<-hi0_1,<-hr2];simp [jr],by rw [zQ hx1,<-hi0_2],by omega⟩,by first|omega|(simp;done)|(simp;omega),aH.ca (fun k=>if k=2 then 7 else k) (by refine ⟨?_,?_,?_,?_,?_,?_,?_,trivial⟩<;>first|rfl|(simp only [bu];done)|(congr 3;omega)|(congr 4;omega)|(simp only [bw];rfl)|(first|exact cK rfl (by omega)|exact ja rfl (by simp only [List.length_append,List.length_take,List.length_drop,List.length_cons,List.length_nil];omega))) (by refine ⟨?_,?_,?_,trivial⟩<;>first|rfl|(simp only [bu];done)|(congr 3;omega)|(congr 4;omega)|(simp only [bw];rfl)) rfl⟩
 have hc2':=of_decide_eq_false hc2
 refine cv ?_
 refine aU ?_
 refine aU ?_
 refine bS ?_
 refine then_ok ?_
 refine aF aa 2 rfl ?_
 obtain ⟨r3,hr3⟩:∃ (r3:List Int),m++iu all 4=r3:=⟨_,rfl⟩
 have hlr3:r3.length=m.length+4:=by rw [<-hr3];simp [lO]
 refine aQ 5 [4,3,0] (cL (bf [2]) (bf [4]) (uz m m.length all 4 (by first|omega|(simp;done)|(simp;omega)) (by first|omega|(simp;done)|(simp;omega)) (by first|omega|(simp;done)|(simp;omega)) r3 hr3) DJ rfl rfl ⟨⟨_,rfl,.inl ⟨rfl,rfl⟩⟩,⟨_,rfl,.inr (.c (.d _))⟩,⟨_,rfl,.inr (.c (.d _))⟩,trivial⟩ ⟨rfl,trivial⟩ rfl rfl rfl rfl rfl rfl trivial ⟨(fun _ _ _ _=>trivial),trivial⟩ rfl rfl rfl rfl) rfl ?_
 refine ad aa 3 rfl ?_
 refine af ?_
 refine az ?_
 have hX:fu l=(r3,(⟨0,0⟩:cW)):=by
   have ht:r1.take q=r1:=List.take_of_length_le (by omega)
   rw [ht] at hi0_1 hi0_2
   unfold fu
   rw [if_pos hw,hr1,<-hi0_1,<-hi0_2]
   rw [hr3]
 rw [hX] at hr;clear hX
 simp only [Prod.mk.injEq] at hr;obtain ⟨rfl,rfl⟩:=hr
 refine al aa [4,0] 1 rfl rfl rfl rfl rfl rfl ?_ ?_
 all_goals first|rfl|(simp [aw];done)|(simp [aw];omega)

theorem kl (x:Nat->Value) (hx:∀ i,(x i).oneCell'=true) (e err:Int) (e2:Int) (hr:dK e err=e2):cJ Try.prog 87 [(.c (.p 0 0 0 0)),(.c (cI err))] [(0,(.box 147 ((bh x).set 19 (cI e))))] [0] (.v (.c (cB (decide (¬e2=0))))) [(0,(.box 147 ((bh x).set 19 (cI e2))))]:=by
 refine cJ.mk 19 [(0,(aC (.p 0 0 0 0))),(1,(aI err))] 1 Try.func87 rfl rfl rfl rfl rfl rfl rfl rfl rfl ?_
 intro W0 F0 T0 pg
 refine ae aa 1 rfl ?_
 refine ag ?_
 refine ae aa 5 rfl ?_
 refine aj rfl (fun hc1=>?_) (fun hc1=>?_)
 ·
  have hc1':=of_decide_eq_true hc1
  refine ax ?_
  refine ad aa 5 rfl ?_
  refine af ?_
  refine ae aa 6 rfl ?_
  refine az ?_
  have hX:dK e err=err:=by
    (unfold dK;try dsimp only);(repeat' split)<;>first|rfl|omega|(exfalso;omega)|(subst_vars;rfl)|(simp_all;done)|(simp_all;omega)
  rw [hX] at hr;clear hX
  subst hr
  refine al aa [0] 1 rfl rfl rfl rfl rfl rfl ?_ ?_
  all_goals first|rfl|(simp [aw,aW,bh];done)|(simp [aw,aW,bh];omega)
 have hc1':=of_decide_eq_false hc1
 refine aS ?_
 refine ae aa 6 rfl ?_
 refine az ?_
 have hX:dK e err=e:=by
   (unfold dK;try dsimp only);(repeat' split)<;>first|rfl|omega|(exfalso;omega)|(subst_vars;rfl)|(simp_all;done)|(simp_all;omega)
 rw [hX] at hr;clear hX
 subst hr
 refine al aa [0] 1 rfl rfl rfl rfl rfl rfl ?_ ?_
 all_goals first|rfl|(simp [aw,aW,bh];done)|(simp [aw,aW,bh];omega)

theorem jx (x:Nat->Value) (hx:∀ i,(x i).oneCell'=true) (l:List Entry) (e src dst n:Int) (l2:List Entry) (e2:Int) (hr:ed l e src dst n=(l2,e2)):cJ Try.prog 76 [(.c (.p 0 0 0 0)),(.c (cI src)),(.c (cI dst)),(.c (cI n))] [(0,(.box 147 (((bh x).set 18 (dW l)).set 19 (cI e))))] [0] (.t []) [(0,(.box 147 (((bh x).set 18 (dW l2)).set 19 (cI e2))))]:=by
 refine cJ.mk 31 [(0,(aC (.p 0 0 0 0))),(1,(aI src)),(2,(aI dst)),(3,(aI n))] 1 Try.func76 rfl rfl rfl rfl rfl rfl rfl rfl rfl ?_
 intro W0 F0 T0 pg
 refine aF aa 8 rfl ?_
 obtain ⟨r0,e0,hr0⟩:∃ (r0:List Entry) (e0:Int),ke l src dst n=(r0,e0):=⟨_,_,rfl⟩
 refine aQ 1 [0] (cb 1 (Fn.frozen (av':=(.t [(.c (dW r0)),(.c (cI e0))])) (xv l src dst n r0 e0 hr0) ⟨.inr ⟨_,_,_,_,_,rfl,rfl,rfl,by simp⟩,.inl ⟨_,rfl,rfl⟩,trivial⟩) HM rfl rfl ⟨⟨_,rfl,.c (.d _)⟩,⟨_,rfl,.c (.d _)⟩,⟨_,rfl,.c (.d _)⟩,⟨_,rfl,.c (.d _)⟩,trivial⟩ ⟨trivial,trivial,trivial⟩ trivial rfl rfl rfl rfl) rfl ?_
 refine ad aa 5 rfl ?_
 refine af ?_
 refine aF aa 2 rfl ?_
 obtain ⟨e21,hr1⟩:∃ (e21:Int),dK e e0=e21:=⟨_,rfl⟩
 refine aQ 1 [0] (cr id id (ms:=(dE.set 19 (some (cI e)))) (ms':=(dE.set 19 (some (cI e21)))) (fun x hx=>kl x hx e e0 e21 hr1) nI rfl rfl ⟨⟨_,rfl,.inl ⟨rfl,rfl⟩⟩,⟨_,rfl,.inr (.c (.d _))⟩,trivial⟩ rfl rfl rfl rfl rfl rfl rfl trivial rfl rfl rfl rfl rfl rfl rfl rfl rfl rfl rfl rfl rfl) rfl ?_
 refine ad aa 1 rfl ?_
 refine af ?_
 refine aj rfl (fun hc1=>?_) (fun hc1=>?_)
 ·
  have hc1':=hc1;try simp only [br,bR] at hc1'
  refine ax ?_
  refine ad aa 6 rfl ?_
  refine bZ ?_
  have hX:ed l e src dst n=(r0,e21):=by
    unfold ed;simp only [hr0,hr1];(repeat' split)<;>first|rfl|omega|(exfalso;omega)|(simp_all;done)|(simp_all;omega)
  rw [hX] at hr;clear hX
  simp only [Prod.mk.injEq] at hr;obtain ⟨rfl,rfl⟩:=hr
  refine cO aa [0] 1 rfl rfl rfl rfl rfl rfl ?_ ?_
  all_goals first|rfl|(simp [aw,aW,bh];done)|(simp [aw,aW,bh];omega)
 have hc1':=hc1;try simp only [br,bR] at hc1'
 refine da ?_
 have hX:ed l e src dst n=(l,e21):=by
   unfold ed;simp only [hr0,hr1];(repeat' split)<;>first|rfl|omega|(exfalso;omega)|(simp_all;done)|(simp_all;omega)
 rw [hX] at hr;clear hX
 simp only [Prod.mk.injEq] at hr;obtain ⟨rfl,rfl⟩:=hr
 refine cO aa [0] 1 rfl rfl rfl rfl rfl rfl ?_ ?_
 all_goals first|rfl|(simp [aw,aW,bh];done)|(simp [aw,aW,bh];omega)
theorem jj (x:Nat->Value) (hx:∀ i,(x i).oneCell'=true) (l:List bI) (e k held bN:Int) (hk:0<=k/\k < l.length) (l2:List bI) (e2:Int) (hr:cH l e k held bN=(l2,e2)):cJ Try.prog 75 [(.c (.p 0 0 0 0)),(.c (cI k)),(.c (cI held)),(.c (cI bN))] [(0,(.box 147 (((bh x).set 2 (.s 1 0 6 l.length)).set 19 (cI e)))),(1,(dT l))] [0] (.t []) [(0,(.box 147 (((bh x).set 2 (.s 1 0 6 l2.length)).set 19 (cI e2)))),(1,(dT l2))]:=by
 refine cJ.mk 36 [(0,(aC (.p 0 0 0 0))),(1,(aI k)),(2,(aI held)),(3,(aI bN))] 2 Try.func75 rfl rfl rfl rfl rfl rfl rfl rfl rfl ?_
 intro W0 F0 T0 pg
 refine aF aa 6 rfl ?_
 refine aA (bz (i:=Int.toNat (k)) rfl rfl rfl Try.underlying29 jq (by first|omega|(simp;done)|(simp;omega)) (by first|omega|(simp;done)|(simp;omega))) rfl ?_
 obtain ⟨x1,hx1⟩:=cf (xs:=l) (i:=Int.toNat (k)) (by first|omega|(simp;done)|(simp;omega))
 refine aA (dm rfl rfl rfl Try.underlying61 rfl jq (bp hx1) rfl) rfl ?_
 refine ad aa 2 rfl ?_
 obtain ⟨xr0,e0,hr0⟩:∃ (xr0:bI) (e0:Int),en x1 held bN=(xr0,e0):=⟨_,_,rfl⟩
 refine aQ 2 [0,1] (cb 2 (Fn.frozen (av':=(.t [(.g [(cI xr0.bN),(cI xr0.held),(cI xr0.cq.cQ),(cI xr0.cq.count),(cI xr0.cq.sum),(fB xr0.cY)]),(.c (cI e0))])) (wD x1 held bN xr0 e0 hr0) ⟨⟨.inl ⟨_,rfl,rfl⟩,.inl ⟨_,rfl,rfl⟩,.inl ⟨_,rfl,rfl⟩,.inl ⟨_,rfl,rfl⟩,.inl ⟨_,rfl,rfl⟩,.inr ⟨_,_,_,_,_,rfl,rfl,rfl,by simp⟩,trivial⟩,.inl ⟨_,rfl,rfl⟩,trivial⟩) HN rfl rfl ⟨⟨_,rfl,.g ⟨.d _,.d _,.d _,.d _,.d _,.d _,trivial⟩⟩,⟨_,rfl,.c (.d _)⟩,⟨_,rfl,.c (.d _)⟩,trivial⟩ ⟨⟨trivial,trivial,trivial,trivial,trivial,trivial,trivial⟩,trivial,trivial⟩ trivial rfl rfl rfl rfl) rfl ?_
 refine ad aa 6 rfl ?_
 refine af ?_
 refine aF aa 2 rfl ?_
 obtain ⟨e21,hr1⟩:∃ (e21:Int),dK e e0=e21:=⟨_,rfl⟩
 refine aQ 3 [0,2,1] (cr id id (ms:=(dE.set 19 (some (cI e)))) (ms':=(dE.set 19 (some (cI e21)))) (fun x hx=>kl x hx e e0 e21 hr1) nI rfl rfl ⟨⟨_,rfl,.inl ⟨rfl,rfl⟩⟩,⟨_,rfl,.inr (.c (.d _))⟩,trivial⟩ rfl rfl rfl rfl rfl rfl rfl trivial rfl rfl rfl rfl rfl rfl rfl rfl rfl rfl rfl rfl rfl) rfl ?_
 refine ad aa 1 rfl ?_
 refine af ?_
 refine aj rfl (fun hc1=>?_) (fun hc1=>?_)
 ·
  have hc1':=hc1;try simp only [br,bR] at hc1'
  refine aX [0,1,8] [0,2,1] mixed rfl rfl ?_
  refine aD (kn:=[]) aa 7 rfl trivial ?_
  refine aT (n':=3) [32,33] [1] rfl rfl (.inl ⟨(ak.plain rfl),aK.cast (bz (i:=Int.toNat (k)) rfl rfl rfl Try.underlying29 jq (by first|omega|(simp;done)|(simp;omega)) (by first|omega|(simp;done)|(simp;omega))) rfl⟩) rfl ?_
  refine bA [0,2,1] rfl rfl rfl rfl (by kernel_rfl) ?_
  refine gj [0,2,1] (dR (ds:=[(dI xr0.bN),(dI xr0.held),(dI xr0.cq.cQ),(dI xr0.cq.count),(dI xr0.cq.sum),(Ga xr0.cY)]) rfl rfl rfl rfl rfl jq rfl (Nat.le_of_ble_eq_true rfl) (bp hx1) rfl (eX (x':=xr0) rfl)) rfl ?_
  refine bZ ?_
  have hX:cH l e k held bN=((l).set (Int.toNat (k)) xr0,e21):=by
    rw [tK hx1];simp only [hr0,hr1];(repeat' split)<;>first|rfl|omega|(exfalso;omega)|(simp_all;done)|(simp_all;omega)
  rw [hX] at hr;clear hX
  simp only [Prod.mk.injEq] at hr;obtain ⟨rfl,rfl⟩:=hr
  refine cO aa [0,1] 2 rfl rfl rfl rfl rfl rfl ?_ ?_
  all_goals first|rfl|(simp [aw,aW,bh];done)|(simp [aw,aW,bh];omega)
 have hc1':=hc1;try simp only [br,bR] at hc1'
 refine da ?_
 have hX:cH l e k held bN=(l,e21):=by
   rw [tK hx1];simp only [hr0,hr1];(repeat' split)<;>first|rfl|omega|(exfalso;omega)|(simp_all;done)|(simp_all;omega)
 rw [hX] at hr;clear hX
 simp only [Prod.mk.injEq] at hr;obtain ⟨rfl,rfl⟩:=hr
 refine cO aa [0,1] 2 rfl rfl rfl rfl rfl rfl ?_ ?_
 all_goals first|rfl|(simp [aw,aW,bh];done)|(simp [aw,aW,bh];omega)
theorem Gg (x:Nat->Value) (hx:∀ i,(x i).oneCell'=true) (l:List ah) (e:Int) (r:ah) (hl:l.length<=100) (l2:List ah) (e2:Int) (hr:jh l e r=(l2,e2)):cJ Try.prog 83 [(.c (.p 0 0 0 0)),(.g [(cI r.aE),(cI r.ba),(cI r.kind),(cI r.sum)])] [(0,(.box 147 (((bh x).set 16 (.s 1 0 4 l.length)).set 19 (cI e)))),(1,(cM l))] [0] (.t []) [(0,(.box 147 (((bh x).set 16 (.s 1 0 4 l2.length)).set 19 (cI e2)))),(1,(cM l2))]:=by
 refine cJ.mk 25 [(0,(aC (.p 0 0 0 0))),(1,(aG [(cI r.aE),(cI r.ba),(cI r.kind),(cI r.sum)]))] 2 Try.func83 rfl rfl rfl rfl rfl rfl rfl rfl rfl ?_
 intro W0 F0 T0 pg
 refine ae aa 1 rfl ?_
 refine ag ?_
 refine aF aa 5 rfl ?_
 refine aA (dz rfl rfl rfl rfl rfl Try.underlying42) rfl ?_
 refine ad aa 1 rfl ?_
 refine af ?_
 refine aj rfl (fun hc1=>?_) (fun hc1=>?_)
 ·
  have hc1':=of_decide_eq_true hc1
  refine aF aa 1 rfl ?_
  obtain ⟨e20,hr0⟩:∃ (e20:Int),dK e 5=e20:=⟨_,rfl⟩
  refine aQ 3 [0,2,1] (cr id id (ms:=(dE.set 19 (some (cI e)))) (ms':=(dE.set 19 (some (cI e20)))) (fun x hx=>kl x hx e 5 e20 hr0) nI rfl rfl ⟨⟨_,rfl,.inl ⟨rfl,rfl⟩⟩,⟨_,rfl,.inr (.c (.d _))⟩,trivial⟩ rfl rfl rfl rfl rfl rfl rfl trivial rfl rfl rfl rfl rfl rfl rfl rfl rfl rfl rfl rfl rfl) rfl ?_
  refine af ?_
  refine az ?_
  refine an ?_
  have hX:jh l e r=(l,e20):=by
    unfold jh;first|(rw [if_pos (by omega),hr0];done)|(rw [if_neg (by omega)];done)
  rw [hX] at hr;clear hX
  simp only [Prod.mk.injEq] at hr;obtain ⟨rfl,rfl⟩:=hr
  refine al aa [0,1] 2 rfl rfl rfl rfl rfl rfl ?_ ?_
  all_goals first|rfl|(simp [aw,aW,bh];done)|(simp [aw,aW,bh];omega)
 have hc1':=of_decide_eq_false hc1
 refine aS ?_
 refine aX [0,3] [2,0,1] mixed rfl rfl ?_
 refine aD (kn:=[]) aa 7 rfl trivial ?_
 refine aT (n':=4) [19] [] rfl rfl (.inl ⟨(ak.plain rfl),aK.cast (dV (ys:=[(0,(.g [(cI r.aE),(cI r.ba),(cI r.kind),(cI r.sum)]))]) (rows:=([r]).map fJ) 3 ox rfl (by decide) ⟨⟨rfl,rfl⟩,trivial⟩ rfl rfl rfl rfl) rfl⟩) rfl ?_
 refine aT (n':=5) [18,20] [3,1] rfl rfl (.inl ⟨(ak.plain rfl),aK.cast (dw (m:=1) (N:=l.length+1) (k2:=4) (ys:=([r]).map fJ) ox rfl rfl rfl rfl rfl rfl (by first|omega|(simp;done)|(simp;omega)) rfl (.s rfl (by first|omega|(simp;done)|(simp;omega))) (by first|omega|(simp;done)|(simp;omega)) (by first|omega|(simp;done)|(simp;omega)) fz (by decide) (by first|omega|(simp;done)|(simp;omega)) (by first|omega|(simp;done)|(simp;omega))) rfl⟩) rfl ?_
 refine aD (kn:=[]) aa 3 rfl trivial ?_
 refine bA [4,2,0] rfl rfl rfl rfl (by kernel_rfl) ?_
 refine ad aa 1 rfl ?_
 refine bZ ?_
 have hX:jh l e r=(l++([r]),e):=by
   unfold jh;first|(rw [if_pos (by omega),hr0];done)|(rw [if_neg (by omega)];done)
 rw [hX] at hr;clear hX
 simp only [Prod.mk.injEq] at hr;obtain ⟨rfl,rfl⟩:=hr
 refine cO aa [0,4] 2 rfl rfl rfl rfl rfl rfl ?_ ?_
 all_goals first|rfl|(simp [aw,aW,bh];done)|(simp [aw,aW,bh];omega)

theorem th (x:Nat->Value) (hx:∀ i,(x i).oneCell'=true) (s:bY) (e:Int) (t:bo) (hI:∀ t∈s.kept,fj t.number) (s2:bY) (e2:Int) (hr:eQ s e t=(s2,e2)):cJ Try.prog 82 [(.c (.p 0 0 0 0)),(.c (cI 0)),(.g [(cI t.number),(cI t.kind),(cI t.ba),(cI t.sum)])] [(0,(.box 147 ((((bh x).set 5 (cI s.bX)).set 6 (dj s.kept)).set 19 (cI e))))] [0] (.t []) [(0,(.box 147 ((((bh x).set 5 (cI s2.bX)).set 6 (dj s2.kept)).set 19 (cI e2))))]:=by
 refine cJ.mk 31 [(0,(aC (.p 0 0 0 0))),(1,(aI 0)),(2,(aG [(cI t.number),(cI t.kind),(cI t.ba),(cI t.sum)]))] 1 Try.func82 rfl rfl rfl rfl rfl rfl rfl rfl rfl ?_
 intro W0 F0 T0 pg
 refine ae aa 1 rfl ?_
 refine ag ?_
 obtain ⟨xr0,e0,hr0⟩:∃ (xr0:bY) (e0:Int),gP s t=(xr0,e0):=⟨_,_,rfl⟩
 refine df [0,1,5] [1,0] mixed rfl rfl ?_
 refine bT (kn:=[]) aa 5 rfl trivial ?_
 refine bW (n':=2) [13,10] [0] rfl rfl (.inl ⟨(ak.plain rfl),aK.cast (dv (i:=0) rfl rfl rfl Try.underlying35 mG rfl (by decide)) rfl⟩) rfl ?_
 refine bT (kn:=[]) aa 2 rfl trivial ?_
 refine bW (n':=2) [15,16] [] rfl rfl (.inl ⟨(ak.plain rfl),aK.cast (cb 2 (Fn.frozen (av':=(.t [(.g [(cI xr0.bX),(dj xr0.kept)]),(.c (cI e0))])) (sn s t (by first|assumption|exact kG (by assumption) (by omega)|exact jG (by assumption) (by assumption)|(simp [fj];done)) xr0 e0 hr0) ⟨⟨.inl ⟨_,rfl,rfl⟩,.inr ⟨_,_,_,_,_,rfl,rfl,rfl,by simp⟩,trivial⟩,.inl ⟨_,rfl,rfl⟩,trivial⟩) DM rfl rfl ⟨⟨_,rfl,.g ⟨.d _,.d _,trivial⟩⟩,⟨_,rfl,.g ⟨.d _,.d _,.d _,.d _,trivial⟩⟩,trivial⟩ ⟨⟨trivial,trivial,trivial⟩,trivial,trivial⟩ trivial rfl rfl rfl rfl) rfl⟩) rfl ?_
 refine bT (n':=3) (kn:=[]) aa 6 rfl trivial ?_
 refine dU [0,1,6,7] [2,0] rfl rfl (by kernel_rfl) ?_
 refine then_ok ?_
 refine aF aa 2 rfl ?_
 obtain ⟨e21,hr1⟩:∃ (e21:Int),dK e e0=e21:=⟨_,rfl⟩
 refine aQ 3 [0,2] (cr id id (ms:=(dE.set 19 (some (cI e)))) (ms':=(dE.set 19 (some (cI e21)))) (fun x hx=>kl x hx e e0 e21 hr1) nI rfl rfl ⟨⟨_,rfl,.inl ⟨rfl,rfl⟩⟩,⟨_,rfl,.inr (.c (.d _))⟩,trivial⟩ rfl rfl rfl rfl rfl rfl rfl trivial rfl rfl rfl rfl rfl rfl rfl rfl rfl rfl rfl rfl rfl) rfl ?_
 refine ad aa 1 rfl ?_
 refine af ?_
 refine aj rfl (fun hc1=>?_) (fun hc1=>?_)
 ·
  have hc1':=hc1;try simp only [br,bR] at hc1'
  refine aX [0,1,6] [0,2] mixed rfl rfl ?_
  refine aD (kn:=[]) aa 6 rfl trivial ?_
  refine aT (n':=3) [29,25] [0] rfl rfl (.inl ⟨(ak.plain rfl),aK.cast (dv (i:=0) rfl rfl rfl Try.underlying35 mG rfl (by decide)) rfl⟩) rfl ?_
  refine bA [0,2] rfl rfl rfl rfl (by kernel_rfl) ?_
  refine ad aa 1 rfl ?_
  refine bZ ?_
  have hX:eQ s e t=(xr0,e21):=by
    unfold eQ;simp only [hr0,hr1];(repeat' split)<;>first|rfl|omega|(exfalso;omega)|(simp_all;done)|(simp_all;omega)
  rw [hX] at hr;clear hX
  simp only [Prod.mk.injEq] at hr;obtain ⟨rfl,rfl⟩:=hr
  refine cO aa [0] 1 rfl rfl rfl rfl rfl rfl ?_ ?_
  all_goals first|rfl|(simp [aw,aW,bh];done)|(simp [aw,aW,bh];omega)
 have hc1':=hc1;try simp only [br,bR] at hc1'
 refine da ?_
 have hX:eQ s e t=(s,e21):=by
   unfold eQ;simp only [hr0,hr1];(repeat' split)<;>first|rfl|omega|(exfalso;omega)|(simp_all;done)|(simp_all;omega)
 rw [hX] at hr;clear hX
 simp only [Prod.mk.injEq] at hr;obtain ⟨rfl,rfl⟩:=hr
 refine cO aa [0] 1 rfl rfl rfl rfl rfl rfl ?_ ?_
 all_goals first|rfl|(simp [aw,aW,bh];done)|(simp [aw,aW,bh];omega)
theorem Ey (x:Nat->Value) (hx:∀ i,(x i).oneCell'=true) (s:bY) (e:Int) (t:bo) (hI:∀ t∈s.kept,fj t.number) (s2:bY) (e2:Int) (hr:eQ s e t=(s2,e2)):cJ Try.prog 82 [(.c (.p 0 0 0 0)),(.c (cI 1)),(.g [(cI t.number),(cI t.kind),(cI t.ba),(cI t.sum)])] [(0,(.box 147 ((((bh x).set 7 (cI s.bX)).set 8 (dj s.kept)).set 19 (cI e))))] [0] (.t []) [(0,(.box 147 ((((bh x).set 7 (cI s2.bX)).set 8 (dj s2.kept)).set 19 (cI e2))))]:=by
 refine cJ.mk 31 [(0,(aC (.p 0 0 0 0))),(1,(aI 1)),(2,(aG [(cI t.number),(cI t.kind),(cI t.ba),(cI t.sum)]))] 1 Try.func82 rfl rfl rfl rfl rfl rfl rfl rfl rfl ?_
 intro W0 F0 T0 pg
 refine ae aa 1 rfl ?_
 refine ag ?_
 obtain ⟨xr0,e0,hr0⟩:∃ (xr0:bY) (e0:Int),gP s t=(xr0,e0):=⟨_,_,rfl⟩
 refine df [0,1,5] [1,0] mixed rfl rfl ?_
 refine bT (kn:=[]) aa 5 rfl trivial ?_
 refine bW (n':=2) [13,10] [0] rfl rfl (.inl ⟨(ak.plain rfl),aK.cast (dv (i:=1) rfl rfl rfl Try.underlying35 mG rfl (by decide)) rfl⟩) rfl ?_
 refine bT (kn:=[]) aa 2 rfl trivial ?_
 refine bW (n':=2) [15,16] [] rfl rfl (.inl ⟨(ak.plain rfl),aK.cast (cb 2 (Fn.frozen (av':=(.t [(.g [(cI xr0.bX),(dj xr0.kept)]),(.c (cI e0))])) (sn s t (by first|assumption|exact kG (by assumption) (by omega)|exact jG (by assumption) (by assumption)|(simp [fj];done)) xr0 e0 hr0) ⟨⟨.inl ⟨_,rfl,rfl⟩,.inr ⟨_,_,_,_,_,rfl,rfl,rfl,by simp⟩,trivial⟩,.inl ⟨_,rfl,rfl⟩,trivial⟩) DM rfl rfl ⟨⟨_,rfl,.g ⟨.d _,.d _,trivial⟩⟩,⟨_,rfl,.g ⟨.d _,.d _,.d _,.d _,trivial⟩⟩,trivial⟩ ⟨⟨trivial,trivial,trivial⟩,trivial,trivial⟩ trivial rfl rfl rfl rfl) rfl⟩) rfl ?_
 refine bT (n':=3) (kn:=[]) aa 6 rfl trivial ?_
 refine dU [0,1,6,7] [2,0] rfl rfl (by kernel_rfl) ?_
 refine then_ok ?_
 refine aF aa 2 rfl ?_
 obtain ⟨e21,hr1⟩:∃ (e21:Int),dK e e0=e21:=⟨_,rfl⟩
 refine aQ 3 [0,2] (cr id id (ms:=(dE.set 19 (some (cI e)))) (ms':=(dE.set 19 (some (cI e21)))) (fun x hx=>kl x hx e e0 e21 hr1) nI rfl rfl ⟨⟨_,rfl,.inl ⟨rfl,rfl⟩⟩,⟨_,rfl,.inr (.c (.d _))⟩,trivial⟩ rfl rfl rfl rfl rfl rfl rfl trivial rfl rfl rfl rfl rfl rfl rfl rfl rfl rfl rfl rfl rfl) rfl ?_
 refine ad aa 1 rfl ?_
 refine af ?_
 refine aj rfl (fun hc1=>?_) (fun hc1=>?_)
 ·
  have hc1':=hc1;try simp only [br,bR] at hc1'
  refine aX [0,1,6] [0,2] mixed rfl rfl ?_
  refine aD (kn:=[]) aa 6 rfl trivial ?_
  refine aT (n':=3) [29,25] [0] rfl rfl (.inl ⟨(ak.plain rfl),aK.cast (dv (i:=1) rfl rfl rfl Try.underlying35 mG rfl (by decide)) rfl⟩) rfl ?_
  refine bA [0,2] rfl rfl rfl rfl (by kernel_rfl) ?_
  refine ad aa 1 rfl ?_
  refine bZ ?_
  have hX:eQ s e t=(xr0,e21):=by
    unfold eQ;simp only [hr0,hr1];(repeat' split)<;>first|rfl|omega|(exfalso;omega)|(simp_all;done)|(simp_all;omega)
  rw [hX] at hr;clear hX
  simp only [Prod.mk.injEq] at hr;obtain ⟨rfl,rfl⟩:=hr
  refine cO aa [0] 1 rfl rfl rfl rfl rfl rfl ?_ ?_
  all_goals first|rfl|(simp [aw,aW,bh];done)|(simp [aw,aW,bh];omega)
 have hc1':=hc1;try simp only [br,bR] at hc1'
 refine da ?_
 have hX:eQ s e t=(s,e21):=by
   unfold eQ;simp only [hr0,hr1];(repeat' split)<;>first|rfl|omega|(exfalso;omega)|(simp_all;done)|(simp_all;omega)
 rw [hX] at hr;clear hX
 simp only [Prod.mk.injEq] at hr;obtain ⟨rfl,rfl⟩:=hr
 refine cO aa [0] 1 rfl rfl rfl rfl rfl rfl ?_ ?_
 all_goals first|rfl|(simp [aw,aW,bh];done)|(simp [aw,aW,bh];omega)
theorem Bh (x:Nat->Value) (hx:∀ i,(x i).oneCell'=true) (au:List bC) (due:List Int) (ay:List bI) (book:List Entry) (e:Int) (t:bo) (ht:0<=t.ba/\t.ba < au.length) (hA:∀ a∈au,0<=a.aO/\a.aO < ay.length/\0<=a.aE/\a.aE < due.length) (hc:ay.length<=8) (hd:due.length<=8) (due2:List Int) (cards2:List bI) (book2:List Entry) (e2:Int) (hr:eO au due ay book e t=(due2,cards2,book2,e2)):cJ Try.prog 89 [(.c (.p 0 0 0 0)),(.g [(cI t.number),(cI t.kind),(cI t.ba),(cI t.sum)])] [(0,(.box 147 ((((((bh x).set 2 (.s 1 0 6 ay.length)).set 3 (.s 2 0 1 due.length)).set 4 (.s 3 0 8 au.length)).set 18 (dW book)).set 19 (cI e)))),(1,(dT ay)),(2,(dM due)),(3,(ea au))] [0] (.t []) [(0,(.box 147 ((((((bh x).set 2 (.s 1 0 6 cards2.length)).set 3 (.s 2 0 1 due2.length)).set 4 (.s 3 0 8 au.length)).set 18 (dW book2)).set 19 (cI e2)))),(1,(dT cards2)),(2,(dM due2)),(3,(ea au))]:=by
 refine cJ.mk 77 [(0,(aC (.p 0 0 0 0))),(1,(aG [(cI t.number),(cI t.kind),(cI t.ba),(cI t.sum)]))] 4 Try.func89 rfl rfl rfl rfl rfl rfl rfl rfl rfl ?_
 intro W0 F0 T0 pg
 refine ae aa 1 rfl ?_
 refine ag ?_
 obtain ⟨x1,hx1⟩:=cf (xs:=au) (i:=Int.toNat (t.ba)) (by first|omega|(simp;done)|(simp;omega))
 have hx1A:=hA x1 (List.mem_of_getElem? hx1)
 refine aX [0,3] [4,0,1,2,3] mixed rfl rfl ?_
 refine aD (kn:=[]) aa 7 rfl trivial ?_
 refine aT (n':=5) [11,13] [3] rfl rfl (.inl ⟨(ak.plain rfl),aK.cast (bz (i:=Int.toNat (t.ba)) rfl rfl rfl Try.underlying31 lS (by first|omega|(simp;done)|(simp;omega)) (by first|omega|(simp;done)|(simp;omega))) rfl⟩) rfl ?_
 refine aT (n':=5) [14] [3] rfl rfl (.inl ⟨(ak.plain rfl),aK.cast (dm rfl rfl rfl Try.underlying67 rfl lS (bp hx1) rfl) rfl⟩) rfl ?_
 refine aD (n':=6) (kn:=[]) aa 1 rfl trivial ?_
 refine bA [5,4,0,1,2,3] rfl rfl rfl rfl (by kernel_rfl) ?_
 refine ad aa 1 rfl ?_
 refine af ?_
 refine ag ?_
 refine aX [0,3,4] [5,4,0,1,2,3] mixed rfl rfl ?_
 refine aD (kn:=[]) aa 2 rfl trivial ?_
 refine aT (n':=6) [17] [] rfl rfl (.inl ⟨(ak.plain rfl),aK.cast (aM rfl rfl rfl (aL (by first|omega|(simp;done)|(simp;omega)))) rfl⟩) rfl ?_
 refine aD (kn:=[]) aa 2 rfl trivial ?_
 refine aT (n':=6) [20] [] rfl rfl (.inl ⟨(ak.plain rfl),aK.cast (aM rfl rfl rfl (aL (by first|omega|(simp;done)|(simp;omega)))) rfl⟩) rfl ?_
 refine aD (kn:=[]) aa 2 rfl trivial ?_
 refine bA [5,4,0,1,2,3] rfl rfl rfl rfl (by kernel_rfl) ?_
 refine af ?_
 refine ae aa 2 rfl ?_
 refine aY ?_
 refine ae aa 2 rfl ?_
 refine aj rfl (fun hc1=>?_) (fun hc1=>?_)
 ·
  have hc1':=of_decide_eq_true hc1
  refine ag ?_
  obtain ⟨x2,hx2⟩:=cf (xs:=due) (i:=Int.toNat (x1.aE)) (by first|omega|(simp;done)|(simp;omega))
  refine aX [0,3,4,5] [5,4,0,1,2,3] mixed rfl rfl ?_
  refine aD (kn:=[]) aa 7 rfl trivial ?_
  refine aT (n':=6) [30,32] [2] rfl rfl (.inl ⟨(ak.plain rfl),aK.cast (bz (i:=Int.toNat (x1.aE)) rfl rfl rfl Try.underlying30 gF (by first|omega|(simp;done)|(simp;omega)) (by first|omega|(simp;done)|(simp;omega))) rfl⟩) rfl ?_
  refine aT (n':=6) [33] [2] rfl rfl (.inl ⟨(ak.plain rfl),aK.cast (eS rfl rfl rfl Try.underlying3 rfl (bp hx2) rfl) rfl⟩) rfl ?_
  refine aD (kn:=[]) aa 3 rfl trivial ?_
  refine aT (n':=6) [30,32] [2] rfl rfl (.inl ⟨(ak.plain rfl),aK.cast (bz (i:=Int.toNat (x1.aE)) rfl rfl rfl Try.underlying30 gF (by first|omega|(simp;done)|(simp;omega)) (by first|omega|(simp;done)|(simp;omega))) rfl⟩) rfl ?_
  refine bA [5,4,0,1,2,3] rfl rfl rfl rfl (by kernel_rfl) ?_
  refine gj [5,4,0,1,2,3] (dR (ds:=[(dI (IntKind.i64.wrap (x2+t.sum)))]) rfl rfl rfl rfl rfl gF rfl (Nat.le_of_ble_eq_true rfl) (bp hx2) rfl (eX (x':=(IntKind.i64.wrap (x2+t.sum))) rfl)) rfl ?_
  refine af ?_
  refine fN (k:=0) (q:=3) (c':=(.s 2 0 1 (((due).set (Int.toNat (x1.aE)) (IntKind.i64.wrap (x2+t.sum))).length))) rfl rfl (by first|rfl|(simp;done)|(congr 1;omega)) rfl ?_
  refine ax ?_
  refine ad aa 4 rfl ?_
  obtain ⟨l20,e20,hr0⟩:∃ (l20:List Entry) (e20:Int),ed book e 1 (50+x1.aE) t.sum=(l20,e20):=⟨_,_,rfl⟩
  refine aQ 6 [0,5,4,1,2,3] (cr id id (ms:=((dE.set 18 (some (dW book))).set 19 (some (cI e)))) (ms':=((dE.set 18 (some (dW l20))).set 19 (some (cI e20)))) (fun x hx=>jx x hx book e 1 (50+x1.aE) t.sum l20 e20 hr0) mK rfl rfl ⟨⟨_,rfl,.inl ⟨rfl,rfl⟩⟩,⟨_,rfl,.inr (.c (.d _))⟩,⟨_,rfl,.inr (.c (.d _))⟩,⟨_,rfl,.inr (.c (.d _))⟩,trivial⟩ rfl rfl rfl rfl rfl rfl rfl trivial rfl rfl rfl rfl rfl rfl rfl rfl rfl rfl rfl rfl rfl) rfl ?_
  refine bZ ?_
  refine bm ?_
  have hX:eO au due ay book e t=((due).set (Int.toNat (x1.aE)) (IntKind.i64.wrap (x2+t.sum)),ay,l20,e20):=by
    unfold eO;rw [hx1];dsimp only;simp only [List.getD_eq_getElem?_getD,hx2,Option.getD_some,hr0];(repeat' split)<;>first|rfl|omega|(exfalso;omega)|(simp_all;done)|(simp_all;omega)
  rw [hX] at hr;clear hX
  simp only [Prod.mk.injEq] at hr;obtain ⟨rfl,rfl,rfl,rfl⟩:=hr
  refine cO aa [0,1,2,3] 4 rfl rfl rfl rfl rfl rfl ?_ ?_
  all_goals first|rfl|(simp [aw,aW,bh];done)|(simp [aw,aW,bh];omega)
 have hc1':=of_decide_eq_false hc1
 refine ae aa 2 rfl ?_
 refine aj rfl (fun hc2=>?_) (fun hc2=>?_)
 ·
  have hc2':=of_decide_eq_true hc2
  refine aF aa 5 rfl ?_
  obtain ⟨l21,e21,hr1⟩:∃ (l21:List bI) (e21:Int),cH ay e x1.aO 0 t.sum=(l21,e21):=⟨_,_,rfl⟩
  refine aQ 7 [0,6,5,4,2,3] (cr id (bf [0,6]) (ms:=((dE.set 2 (some (.s 1 0 6 ay.length))).set 19 (some (cI e)))) (ms':=((dE.set 2 (some (.s 1 0 6 l21.length))).set 19 (some (cI e21)))) (fun x hx=>jj x hx ay e x1.aO 0 t.sum (by first|omega|(simp;done)|(simp;omega)) l21 e21 hr1) nJ rfl rfl ⟨⟨_,rfl,.inl ⟨rfl,rfl⟩⟩,⟨_,rfl,.inr (.c (.d _))⟩,⟨_,rfl,.inr (.c (.d _))⟩,⟨_,rfl,.inr (.c (.d _))⟩,trivial⟩ rfl rfl rfl rfl rfl rfl rfl ⟨rfl,trivial⟩ rfl rfl rfl rfl rfl rfl rfl rfl rfl rfl rfl rfl rfl) rfl ?_
  refine af ?_
  refine ax ?_
  refine ad aa 4 rfl ?_
  obtain ⟨l22,e22,hr2⟩:∃ (l22:List Entry) (e22:Int),ed book e21 1 (10+x1.aO) t.sum=(l22,e22):=⟨_,_,rfl⟩
  refine aQ 7 [0,6,5,4,2,3] (cr id id (ms:=((dE.set 18 (some (dW book))).set 19 (some (cI e21)))) (ms':=((dE.set 18 (some (dW l22))).set 19 (some (cI e22)))) (fun x hx=>jx x hx book e21 1 (10+x1.aO) t.sum l22 e22 hr2) mK rfl rfl ⟨⟨_,rfl,.inl ⟨rfl,rfl⟩⟩,⟨_,rfl,.inr (.c (.d _))⟩,⟨_,rfl,.inr (.c (.d _))⟩,⟨_,rfl,.inr (.c (.d _))⟩,trivial⟩ rfl rfl rfl rfl rfl rfl rfl trivial rfl rfl rfl rfl rfl rfl rfl rfl rfl rfl rfl rfl rfl) rfl ?_
  refine bZ ?_
  refine bm ?_
  have hX:eO au due ay book e t=(due,l21,l22,e22):=by
    unfold eO;rw [hx1];dsimp only;simp only [List.getD_eq_getElem?_getD,Option.getD_some,hr1,hr2];(repeat' split)<;>first|rfl|omega|(exfalso;omega)|(simp_all;done)|(simp_all;omega)
  rw [hX] at hr;clear hX
  simp only [Prod.mk.injEq] at hr;obtain ⟨rfl,rfl,rfl,rfl⟩:=hr
  refine cO aa [0,6,2,3] 4 rfl rfl rfl rfl rfl rfl ?_ ?_
  all_goals first|rfl|(simp [aw,aW,bh];done)|(simp [aw,aW,bh];omega)
 have hc2':=of_decide_eq_false hc2
 refine ae aa 2 rfl ?_
 refine aj rfl (fun hc3=>?_) (fun hc3=>?_)
 ·
  have hc3':=of_decide_eq_true hc3
  refine ag ?_
  obtain ⟨x2,hx2⟩:=cf (xs:=due) (i:=Int.toNat (x1.aE)) (by first|omega|(simp;done)|(simp;omega))
  refine aX [0,3,4,5] [5,4,0,1,2,3] mixed rfl rfl ?_
  refine aD (kn:=[]) aa 7 rfl trivial ?_
  refine aT (n':=6) [63,65] [2] rfl rfl (.inl ⟨(ak.plain rfl),aK.cast (bz (i:=Int.toNat (x1.aE)) rfl rfl rfl Try.underlying30 gF (by first|omega|(simp;done)|(simp;omega)) (by first|omega|(simp;done)|(simp;omega))) rfl⟩) rfl ?_
  refine aT (n':=6) [66] [2] rfl rfl (.inl ⟨(ak.plain rfl),aK.cast (eS rfl rfl rfl Try.underlying3 rfl (bp hx2) rfl) rfl⟩) rfl ?_
  refine aD (kn:=[]) aa 3 rfl trivial ?_
  refine aT (n':=6) [63,65] [2] rfl rfl (.inl ⟨(ak.plain rfl),aK.cast (bz (i:=Int.toNat (x1.aE)) rfl rfl rfl Try.underlying30 gF (by first|omega|(simp;done)|(simp;omega)) (by first|omega|(simp;done)|(simp;omega))) rfl⟩) rfl ?_
  refine bA [5,4,0,1,2,3] rfl rfl rfl rfl (by kernel_rfl) ?_
  refine gj [5,4,0,1,2,3] (dR (ds:=[(dI (IntKind.i64.wrap (x2 - t.sum)))]) rfl rfl rfl rfl rfl gF rfl (Nat.le_of_ble_eq_true rfl) (bp hx2) rfl (eX (x':=(IntKind.i64.wrap (x2 - t.sum))) rfl)) rfl ?_
  refine af ?_
  refine fN (k:=0) (q:=3) (c':=(.s 2 0 1 (((due).set (Int.toNat (x1.aE)) (IntKind.i64.wrap (x2 - t.sum))).length))) rfl rfl (by first|rfl|(simp;done)|(congr 1;omega)) rfl ?_
  refine ax ?_
  refine ad aa 4 rfl ?_
  obtain ⟨l23,e23,hr3⟩:∃ (l23:List Entry) (e23:Int),ed book e (50+x1.aE) 2 t.sum=(l23,e23):=⟨_,_,rfl⟩
  refine aQ 6 [0,5,4,1,2,3] (cr id id (ms:=((dE.set 18 (some (dW book))).set 19 (some (cI e)))) (ms':=((dE.set 18 (some (dW l23))).set 19 (some (cI e23)))) (fun x hx=>jx x hx book e (50+x1.aE) 2 t.sum l23 e23 hr3) mK rfl rfl ⟨⟨_,rfl,.inl ⟨rfl,rfl⟩⟩,⟨_,rfl,.inr (.c (.d _))⟩,⟨_,rfl,.inr (.c (.d _))⟩,⟨_,rfl,.inr (.c (.d _))⟩,trivial⟩ rfl rfl rfl rfl rfl rfl rfl trivial rfl rfl rfl rfl rfl rfl rfl rfl rfl rfl rfl rfl rfl) rfl ?_
  refine bZ ?_
  refine bm ?_
  have hX:eO au due ay book e t=((due).set (Int.toNat (x1.aE)) (IntKind.i64.wrap (x2 - t.sum)),ay,l23,e23):=by
    unfold eO;rw [hx1];dsimp only;simp only [List.getD_eq_getElem?_getD,hx2,Option.getD_some,hr3];(repeat' split)<;>first|rfl|omega|(exfalso;omega)|(simp_all;done)|(simp_all;omega)
  rw [hX] at hr;clear hX
  simp only [Prod.mk.injEq] at hr;obtain ⟨rfl,rfl,rfl,rfl⟩:=hr
  refine cO aa [0,1,2,3] 4 rfl rfl rfl rfl rfl rfl ?_ ?_
  all_goals first|rfl|(simp [aw,aW,bh];done)|(simp [aw,aW,bh];omega)
 have hc3':=of_decide_eq_false hc3
 refine da ?_
 refine bm ?_
 have hX:eO au due ay book e t=(due,ay,book,e):=by
   unfold eO;rw [hx1];dsimp only;simp only [List.getD_eq_getElem?_getD,Option.getD_some,hx1];(repeat' split)<;>first|rfl|omega|(exfalso;omega)|(simp_all;done)|(simp_all;omega)
 rw [hX] at hr;clear hX
 simp only [Prod.mk.injEq] at hr;obtain ⟨rfl,rfl,rfl,rfl⟩:=hr
 refine cO aa [0,1,2,3] 4 rfl rfl rfl rfl rfl rfl ?_ ?_
 all_goals first|rfl|(simp [aw,aW,bh];done)|(simp [aw,aW,bh];omega)

theorem wN (l:List bC) (hl:l.length * 64<=140737488355328):Fn Try.prog 96 [(.c (xA l))] (aC (.s 0 0 8 l.length)) [(0,.arr 67 8 (l.map jg))]:=by
 refine Fn.mk' 8 [(0,(aC (xA l)))] Try.func96 rfl rfl rfl rfl ?_
 intro W0 T0
 refine dt 0 rfl (fun hlen0=>?_)
 refine ae aa 1 rfl ?_
 refine ag ?_
 refine aF aa 1 rfl ?_
 refine iG (ak.plain rfl) rfl rfl Try.underlying31 rfl rfl (fun bn1 hbn1=>?_)
 refine af ?_
 refine aj rfl (fun hc2=>?_) (fun hc2=>?_)
 ·
  have hc2':=hc2;try simp only [br,bR] at hc2'
  refine ae aa 1 rfl ?_
  refine az ?_
  refine an ?_
  refine cS (aH.nil 2 67 8 (by decide) rfl) ?_
  refine al aa [0] 1 rfl rfl rfl rfl rfl rfl ?_ ?_
  ·(have h0:=hbn1 (by assumption);have h1:l=[]:=by (cases l with|nil=>rfl|cons=>simp at h0));subst h1;rfl
  ·(have h0:=hbn1 (by assumption);have h1:l=[]:=by (cases l with|nil=>rfl|cons=>simp at h0));subst h1;rfl
 have hc2':=hc2;try simp only [br,bR] at hc2'
 refine aS ?_
 refine eR ?_
 refine aQ 1 [0] (dV (ys:=[]) (rows:=(([]:List bC)).map jg) 0 sM rfl (by decide) trivial rfl rfl rfl rfl) rfl ?_
 refine ad aa 1 rfl ?_
 refine aQ 2 [1] (dw (m:=l.length) (N:=l.length) (k2:=1) (ys:=(l).map jg) sM rfl rfl rfl rfl rfl rfl (by first|omega|(simp;omega)|(simp;done)) rfl (.d _ _) (by first|omega|(simp;omega)|(simp;done)) (by first|omega|(simp;omega)|(simp;done)) rfl (by decide) (by first|omega|(simp;omega)|(simp;done)) (by first|omega|(simp;omega)|(simp;done))) rfl ?_
 refine ad aa 1 rfl ?_
 refine af ?_
 refine az ?_
 refine al aa [1] 1 rfl rfl rfl rfl rfl rfl ?_ ?_
 ·first|rfl|simp [fR,aC]
 ·first|rfl|simp
theorem na (l:List cp) (hl:l.length * 40<=140737488355328):Fn Try.prog 85 [(.c (eu l))] (aC (.s 0 0 5 l.length)) [(0,.arr 113 5 (l.map fy))]:=by
 refine Fn.mk' 8 [(0,(aC (eu l)))] Try.func85 rfl rfl rfl rfl ?_
 intro W0 T0
 refine dt 0 rfl (fun hlen0=>?_)
 refine ae aa 1 rfl ?_
 refine ag ?_
 refine aF aa 1 rfl ?_
 refine iG (ak.plain rfl) rfl rfl Try.underlying37 rfl rfl (fun bn1 hbn1=>?_)
 refine af ?_
 refine aj rfl (fun hc2=>?_) (fun hc2=>?_)
 ·
  have hc2':=hc2;try simp only [br,bR] at hc2'
  refine ae aa 1 rfl ?_
  refine az ?_
  refine an ?_
  refine cS (aH.nil 2 113 5 (by decide) rfl) ?_
  refine al aa [0] 1 rfl rfl rfl rfl rfl rfl ?_ ?_
  ·(have h0:=hbn1 (by assumption);have h1:l=[]:=by (cases l with|nil=>rfl|cons=>simp at h0));subst h1;rfl
  ·(have h0:=hbn1 (by assumption);have h1:l=[]:=by (cases l with|nil=>rfl|cons=>simp at h0));subst h1;rfl
 have hc2':=hc2;try simp only [br,bR] at hc2'
 refine aS ?_
 refine eR ?_
 refine aQ 1 [0] (dV (ys:=[]) (rows:=(([]:List cp)).map fy) 0 mH rfl (by decide) trivial rfl rfl rfl rfl) rfl ?_
 refine ad aa 1 rfl ?_
 refine aQ 2 [1] (dw (m:=l.length) (N:=l.length) (k2:=1) (ys:=(l).map fy) mH rfl rfl rfl rfl rfl rfl (by first|omega|(simp;omega)|(simp;done)) rfl (.d _ _) (by first|omega|(simp;omega)|(simp;done)) (by first|omega|(simp;omega)|(simp;done)) rfl (by decide) (by first|omega|(simp;omega)|(simp;done)) (by first|omega|(simp;omega)|(simp;done))) rfl ?_
 refine ad aa 1 rfl ?_
 refine af ?_
 refine az ?_
 refine al aa [1] 1 rfl rfl rfl rfl rfl rfl ?_ ?_
 ·first|rfl|simp [fR,aC]
 ·first|rfl|simp
theorem wM (l:List (List D)) (hl:l.length * 64<=140737488355328):Fn Try.prog 94 [(.c (cR 6 ((l).map id)))] (aC (.s 0 0 6 l.length)) [(0,.arr 61 6 (l.map id))]:=by
 refine Fn.mk' 8 [(0,(aC (cR 6 ((l).map id))))] Try.func94 rfl rfl rfl rfl ?_
 intro W0 T0
 refine dt 0 rfl (fun hlen0=>?_)
 refine ae aa 1 rfl ?_
 refine ag ?_
 refine aF aa 1 rfl ?_
 refine iG (ak.plain rfl) rfl rfl Try.underlying29 rfl rfl (fun bn1 hbn1=>?_)
 refine af ?_
 refine aj rfl (fun hc2=>?_) (fun hc2=>?_)
 ·
  have hc2':=hc2;try simp only [br,bR] at hc2'
  refine ae aa 1 rfl ?_
  refine az ?_
  refine an ?_
  refine cS (aH.nil 2 61 6 (by decide) rfl) ?_
  refine al aa [0] 1 rfl rfl rfl rfl rfl rfl ?_ ?_
  ·(have h0:=hbn1 (by assumption);have h1:l=[]:=by (cases l with|nil=>rfl|cons=>simp at h0));subst h1;rfl
  ·(have h0:=hbn1 (by assumption);have h1:l=[]:=by (cases l with|nil=>rfl|cons=>simp at h0));subst h1;rfl
 have hc2':=hc2;try simp only [br,bR] at hc2'
 refine aS ?_
 refine eR ?_
 refine aQ 1 [0] (dV (ys:=[]) (rows:=(([]:List (List D))).map id) 0 yD rfl (by decide) trivial rfl rfl rfl rfl) rfl ?_
 refine ad aa 1 rfl ?_
 refine aQ 2 [1] (dw (m:=l.length) (N:=0+l.length) (k2:=1) (ys:=(l).map id) yD rfl rfl rfl rfl rfl rfl (by first|omega|(simp;omega)|(simp;done)) rfl (.d _ _) (by first|omega|(simp;omega)|(simp;done)) (by first|omega|(simp;omega)|(simp;done)) fz (by decide) (by first|omega|(simp;omega)|(simp;done)) (by first|omega|(simp;omega)|(simp;done))) rfl ?_
 refine ad aa 1 rfl ?_
 refine af ?_
 refine az ?_
 refine al aa [1] 1 rfl rfl rfl rfl rfl rfl ?_ ?_
 ·first|rfl|simp [fR,aC]
 ·first|rfl|simp

theorem kK (v w:Value) (b:Bk) (l1:b.ay.length<=8) (l2:b.due.length<=8) (l3:b.au.length<=30) (l4:b.aP.length<=100):cJ Try.prog 74 [(.c (.p 0 0 0 0))] [(0,(.box 98 (aW b 1 2 3 4 (.d (.v v)) (.d (.v w))))),(1,(dT b.ay)),(2,(dM b.due)),(3,(ea b.au)),(4,(cM b.aP))] [0] (.v (.c (.p 1 0 0 0))) [(0,(.box 98 (aW b 2 3 4 5 (.d (.v v)) (.d (.v w))))),(1,(.box 147 (aW b 6 7 8 9 (.d (.v v)) (cI 0)))),(2,(dT b.ay)),(3,(dM b.due)),(4,(ea b.au)),(5,(cM b.aP)),(6,(dT b.ay)),(7,(dM b.due)),(8,(ea b.au)),(9,(cM b.aP))]:=by
 refine cJ.mk 51 [(0,(aC (.p 0 0 0 0)))] 5 Try.func74 rfl rfl rfl rfl rfl rfl rfl rfl rfl ?_
 intro W0 F0 T0 pg
 refine ae aa 1 rfl ?_
 refine ae aa 7 rfl ?_
 refine ag ?_
 refine df [0,3] [5,0,1,2,3,4] mixed rfl rfl ?_
 refine bT (kn:=[]) aa 9 rfl trivial ?_
 refine bW (n':=7) [18] [1] rfl rfl (.inl ⟨(ak.plain rfl),aK.cast (CE 6 (fun l hl=>wM l (by rw [hl];first|omega|(simp;done)|(simp;omega))) HP rfl rfl rfl rfl rfl (by simp)) rfl⟩) rfl ?_
 refine bT (kn:=[]) aa 5 rfl trivial ?_
 refine bW (n':=8) [24] [2] rfl rfl (.inl ⟨(ak.plain rfl),aK.cast (fe 7 [2] (qz b.due (by first|omega|(simp;done)|(simp;omega))) FE rfl rfl ⟨⟨_,rfl,.c (.s rfl (by decide) (by first|omega|(simp;done)|(simp;omega)))⟩,trivial⟩ trivial ⟨(Fg _),trivial⟩ rfl rfl rfl rfl) rfl⟩) rfl ?_
 refine bT (kn:=[]) aa 5 rfl trivial ?_
 refine bW (n':=9) [30] [3] rfl rfl (.inl ⟨(ak.plain rfl),aK.cast (fe 8 [3] (wN b.au (by first|omega|(simp;done)|(simp;omega))) HO rfl rfl ⟨⟨_,rfl,.c (.s rfl (by decide) (by first|omega|(simp;done)|(simp;omega)))⟩,trivial⟩ trivial ⟨(AD _),trivial⟩ rfl rfl rfl rfl) rfl⟩) rfl ?_
 refine bT (kn:=[]) aa 5 rfl trivial ?_
 refine bW (n':=10) [36] [4] rfl rfl (.inl ⟨(ak.plain rfl),aK.cast (fe 9 [4] (mZ b.aP (by first|omega|(simp;done)|(simp;omega))) FR rfl rfl ⟨⟨_,rfl,.c (.s rfl (by decide) (by first|omega|(simp;done)|(simp;omega)))⟩,trivial⟩ trivial ⟨(qo _),trivial⟩ rfl rfl rfl rfl) rfl⟩) rfl ?_
 refine bT (kn:=[]) aa 16 rfl trivial ?_
 refine dU [3] [5,9,8,7,6,0,1,2,3,4] rfl rfl (by kernel_rfl) ?_
 refine then_ok ?_
 refine ae aa 2 rfl ?_
 refine az ?_
 refine al aa [0,5,1,2,3,4,6,7,8,9] 10 rfl rfl rfl rfl rfl rfl ?_ ?_
 all_goals first|rfl|(simp [aw,aW,bh];done)|(simp [aw,aW,bh];omega)
theorem fw (v w:Value) (b c:Bk) (e:Int) (he:e=0):cJ Try.prog 77 [(.c (.p 0 0 0 0)),(.c (.p 1 0 0 0))] [(0,(.box 98 (aW b 2 3 4 5 (.d (.v v)) (.d (.v w))))),(1,(.box 147 (aW c 6 7 8 9 (.d (.v v)) (cI e)))),(2,(dT b.ay)),(3,(dM b.due)),(4,(ea b.au)),(5,(cM b.aP)),(6,(dT c.ay)),(7,(dM c.due)),(8,(ea c.au)),(9,(cM c.aP))] [0] (.v (.c (cI e))) [(0,(.box 98 (aW c 1 2 3 4 (.d (.v v)) (.d (.v w))))),(1,(dT c.ay)),(2,(dM c.due)),(3,(ea c.au)),(4,(cM c.aP))]:=by
 refine cJ.mk 21 [(0,(aC (.p 0 0 0 0))),(1,(aC (.p 1 0 0 0)))] 10 Try.func77 rfl rfl rfl rfl rfl rfl rfl rfl rfl ?_
 intro W0 F0 T0 pg
 refine ae aa 1 rfl ?_
 refine ag ?_
 refine ae aa 5 rfl ?_
 refine aj rfl (fun hc1=>?_) (fun hc1=>?_)
 ·
  have hc1':=of_decide_eq_true hc1
  refine ax ?_
  refine ad aa 8 rfl ?_
  refine af ?_
  refine ae aa 5 rfl ?_
  refine az ?_
  refine al aa [0,6,7,8,9] 5 rfl rfl rfl rfl rfl rfl ?_ ?_
  all_goals first|rfl|(simp [aw,aW,bh];done)|(simp [aw,aW,bh];omega)
 have hc1':=of_decide_eq_false hc1
 (exfalso;simp_all)
theorem gp (v w:Value) (b c:Bk) (e:Int) (he:¬e=0):cJ Try.prog 77 [(.c (.p 0 0 0 0)),(.c (.p 1 0 0 0))] [(0,(.box 98 (aW b 2 3 4 5 (.d (.v v)) (.d (.v w))))),(1,(.box 147 (aW c 6 7 8 9 (.d (.v v)) (cI e)))),(2,(dT b.ay)),(3,(dM b.due)),(4,(ea b.au)),(5,(cM b.aP)),(6,(dT c.ay)),(7,(dM c.due)),(8,(ea c.au)),(9,(cM c.aP))] [0] (.v (.c (cI e))) [(0,(.box 98 (aW b 1 2 3 4 (.d (.v v)) (.d (.v w))))),(1,(dT b.ay)),(2,(dM b.due)),(3,(ea b.au)),(4,(cM b.aP))]:=by
 refine cJ.mk 21 [(0,(aC (.p 0 0 0 0))),(1,(aC (.p 1 0 0 0)))] 10 Try.func77 rfl rfl rfl rfl rfl rfl rfl rfl rfl ?_
 intro W0 F0 T0 pg
 refine ae aa 1 rfl ?_
 refine ag ?_
 refine ae aa 5 rfl ?_
 refine aj rfl (fun hc1=>?_) (fun hc1=>?_)
 ·
  have hc1':=of_decide_eq_true hc1
  (exfalso;simp_all)
 have hc1':=of_decide_eq_false hc1
 refine aS ?_
 refine ae aa 5 rfl ?_
 refine az ?_
 refine al aa [0,2,3,4,5] 5 rfl rfl rfl rfl rfl rfl ?_ ?_
 all_goals first|rfl|(simp [aw,aW,bh];done)|(simp [aw,aW,bh];omega)
end Go.Proofs.Ytegepioggeggaaa.Dev
