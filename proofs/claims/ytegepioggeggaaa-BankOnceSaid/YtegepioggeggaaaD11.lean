/- A part of the proof: Sort7, Day1, Day4, Day5, Bank1, Bank2, Bank3, Clones, Bank4, Bank7. No condition. -/
import Derived.Test.YtegepioggeggaaaD10
set_option linter.unusedVariables false
set_option linter.unusedSimpArgs false
set_option maxHeartbeats 4000000
set_option maxRecDepth 100000
namespace Go.Proofs.Ytegepioggeggaaa.Dev
open Go.RowKit

theorem vy (d:List al) (a b:Int) (fn:FuncId) (bj:List (List D)) (hp:∀ x y:al,Fn Try.prog fn ([.g [cI x.aD,cI x.ba,cI x.kind,cI x.sum],.g [cI y.aD,cI y.ba,cI y.kind,cI y.sum]]++bj.map fun r=>GV.c (.q r 0)) (aI (hG x y)) []) (hen:bm Try.prog fn) (h1:b<=a+1) (h2:0<=a/\a<=9223372036854775806):Fn Try.prog 72 [(.c (ew d)),(.c (cI a)),(.c (cI b)),(.c (.d (.f fn bj)))] (.t []) []:=by
 refine Fn.mk' 53 [(0,(aC (ew d))),(1,(aI a)),(2,(aI b)),(3,(aC (.d (.f fn bj))))] Try.func72 rfl rfl rfl rfl ?_
 intro W0 T0
 refine dk 0 rfl (fun hlen0=>?_)
 refine aH aa 1 rfl ?_
 refine ay (aJ rfl rfl rfl (aL (by first|omega|(simp;done)|(simp;omega)))) rfl ?_
 refine ad aa 1 rfl ?_
 refine af ?_
 refine aU ?_
 refine cg (β:=Nat) (fun (z:Nat)=>⟨[(0,(aC (ew d))),(1,(aI a)),(2,(aI b)),(3,(aC (.d (.f fn bj)))),(8,(aI (a+1)))],[],0⟩) (fun (z:Nat)=>True) (fun (z:Nat)=>0) 0 ?_ ?_ ?_
 ·trivial
 ·exact aE.bR id (by refine ⟨?_,?_,?_,?_,?_,trivial⟩<;>first|rfl|(simp only [bc];done)|(congr 3;omega)|(congr 4;omega)|(simp only [bd];rfl)) (trivial) rfl
 rintro z _
 refine ag ?_
 refine ae aa 3 rfl ?_
 refine aj rfl (fun hc1=>?_) (fun hc1=>?_)
 ·
  have hc1':=of_decide_eq_true hc1
  exfalso;omega
 have hc1':=of_decide_eq_false hc1
 refine bZ ?_
 refine aN ?_
 refine aN ?_
 refine bC ?_
 refine cL aa [] 0 rfl rfl rfl rfl rfl rfl ?_ ?_
 all_goals first|rfl|(simp [aA];done)|(simp [aA];omega)
theorem Ab (d:List al) (n:Int) (fn:FuncId) (bj:List (List D)) (hp:∀ x y:al,Fn Try.prog fn ([.g [cI x.aD,cI x.ba,cI x.kind,cI x.sum],.g [cI y.aD,cI y.ba,cI y.kind,cI y.sum]]++bj.map fun r=>GV.c (.q r 0)) (aI (hG x y)) []) (hen:bm Try.prog fn) (h:n=0):Fn Try.prog 61 [(.c (ew d)),(.c (cI n)),(.c (.d (.f fn bj)))] (.t []) []:=by
 refine Fn.mk' 63 [(0,(aC (ew d))),(1,(aI n)),(2,(aC (.d (.f fn bj))))] Try.func61 rfl rfl rfl rfl ?_
 intro W0 T0
 refine dk 0 rfl (fun hlen0=>?_)
 refine ae aa 1 rfl ?_
 refine ae aa 3 rfl ?_
 refine ag ?_
 refine aU ?_
 refine cg (β:=Nat) (fun (z:Nat)=>⟨[(0,(aC (ew d))),(1,(aI n)),(2,(aC (.d (.f fn bj)))),(6,(aI 20)),(7,(aI 0)),(8,(aI 20))],[],0⟩) (fun (z:Nat)=>True) (fun (z:Nat)=>0) 0 ?_ ?_ ?_
 ·trivial
 ·exact aE.bR id (by refine ⟨?_,?_,?_,?_,?_,?_,trivial⟩<;>first|rfl|(simp only [bc];done)|(congr 3;omega)|(congr 4;omega)|(simp only [bd];rfl)) (trivial) rfl
 rintro z _
 refine ag ?_
 refine ae aa 3 rfl ?_
 refine aj rfl (fun hc1=>?_) (fun hc1=>?_)
 ·
  have hc1':=of_decide_eq_true hc1
  exfalso;omega
 have hc1':=of_decide_eq_false hc1
 refine bZ ?_
 refine aN ?_
 refine aN ?_
 refine bC ?_
 refine then_ok ?_
 refine aH aa 4 rfl ?_
 refine aR 0 [] (bX 0 (vy d 0 n fn bj hp hen (by first|omega|(simp;done)|(simp;omega)) (by first|omega|(simp;done)|(simp;omega))) Bw rfl rfl ⟨⟨_,rfl,.c (.d _)⟩,⟨_,rfl,.c (.d _)⟩,⟨_,rfl,.c (.d _)⟩,⟨_,rfl,.c (.d _)⟩,trivial⟩ trivial trivial rfl rfl rfl rfl) rfl ?_
 refine af ?_
 refine aU ?_
 refine cg (β:=Nat) (fun (z:Nat)=>⟨[(0,(aC (ew d))),(1,(aI n)),(2,(aC (.d (.f fn bj)))),(6,(aI 20))],[],0⟩) (fun (z:Nat)=>True) (fun (z:Nat)=>0) 0 ?_ ?_ ?_
 ·trivial
 ·exact aE.bR id (by refine ⟨?_,?_,?_,?_,trivial⟩<;>first|rfl|(simp only [bc];done)|(congr 3;omega)|(congr 4;omega)|(simp only [bd];rfl)) (trivial) rfl
 rintro z _
 refine ag ?_
 refine ae aa 3 rfl ?_
 refine aj rfl (fun hc2=>?_) (fun hc2=>?_)
 ·
  have hc2':=of_decide_eq_true hc2
  exfalso;omega
 have hc2':=of_decide_eq_false hc2
 refine bZ ?_
 refine aN ?_
 refine aN ?_
 refine bC ?_
 refine cL aa [] 0 rfl rfl rfl rfl rfl rfl ?_ ?_
 all_goals first|rfl|(simp [aA];done)|(simp [aA];omega)
theorem tM (d:List al) (fn:FuncId) (bj:List (List D)) (hp:∀ x y:al,Fn Try.prog fn ([.g [cI x.aD,cI x.ba,cI x.kind,cI x.sum],.g [cI y.aD,cI y.ba,cI y.kind,cI y.sum]]++bj.map fun r=>GV.c (.q r 0)) (aI (hG x y)) []) (hen:bm Try.prog fn) (h:d.length=0):Fn Try.prog 55 [(.c (ew d)),(.c (.d (.f fn bj)))] (.t []) []:=by
 refine Fn.mk' 9 [(0,(aC (ew d))),(1,(aC (.d (.f fn bj))))] Try.func55 rfl rfl rfl rfl ?_
 intro W0 T0
 refine dk 0 rfl (fun hlen0=>?_)
 refine au ?_
 refine ad aa 2 rfl ?_
 refine ay (bN rfl rfl rfl rfl rfl Try.underlying42) rfl ?_
 refine ad aa 1 rfl ?_
 refine aR 0 [] (bX 0 (Ab d (↑d.length:Int) fn bj hp hen (by first|omega|(simp;done)|(simp;omega))) En rfl rfl ⟨⟨_,rfl,.c (.d _)⟩,⟨_,rfl,.c (.d _)⟩,⟨_,rfl,.c (.d _)⟩,trivial⟩ trivial trivial rfl rfl rfl rfl) rfl ?_
 refine cc ?_
 refine cL aa [] 0 rfl rfl rfl rfl rfl rfl ?_ ?_
 all_goals first|rfl|(simp [aA];done)|(simp [aA];omega)
theorem vF (d:List al) (N:Nat) (fn:FuncId) (bj:List (List D)) (hp:∀ x y:al,Fn Try.prog fn ([.g [cI x.aD,cI x.ba,cI x.kind,cI x.sum],.g [cI y.aD,cI y.ba,cI y.kind,cI y.sum]]++bj.map fun r=>GV.c (.q r 0)) (aI (hG x y)) []) (hen:bm Try.prog fn) (hl:d.length * 32<=140737488355328) (hN:N=d.length) (h0_:0 < d.length) (r:List al) (hr:gu d=r):cJ Try.prog 55 [(.c (.s 0 0 4 N)),(.c (.d (.f fn bj)))] [(0,(cS d))] [0] (.t []) [(0,(cS r))]:=by
 refine cJ.mk 9 [(0,(aC (.s 0 0 4 N))),(1,(aC (.d (.f fn bj))))] 1 Try.func55 rfl rfl rfl rfl rfl rfl rfl rfl rfl ?_
 intro W0 F0 T0 pg
 refine gm 0 rfl (fun hlen0=>?_)
 refine au ?_
 refine ad aa 2 rfl ?_
 refine ay (du rfl rfl rfl rfl rfl Try.underlying42) rfl ?_
 refine ad aa 1 rfl ?_
 obtain ⟨r0,hr0⟩:∃ (r0:List al),gu d=r0:=⟨_,rfl⟩
 refine aR 1 [0] (dM id id (Aa (↑N:Int) d N N fn bj hp hen (by first|omega|(simp;done)|(simp;omega)) (by first|omega|(simp;done)|(simp;omega)) (by first|omega|(simp;done)|(simp;omega)) (by first|omega|(simp;done)|(simp;omega)) (by first|omega|(simp;done)|(simp;omega)) r0 hr0) En rfl rfl ⟨⟨_,rfl,.inl ⟨rfl,rfl⟩⟩,⟨_,rfl,.inr (.c (.d _))⟩,⟨_,rfl,.inr (.c (.d _))⟩,trivial⟩ ⟨rfl,trivial⟩ rfl rfl ⟨.inr ⟨_,_,_,rfl,by first|(simp;omega)|(simp only [List.length_map];omega)⟩,trivial⟩ rfl rfl rfl trivial ⟨(fun _ _ _ _=>trivial),trivial⟩ rfl rfl rfl rfl) rfl ?_
 refine cc ?_
 have hX:gu d=r0:=by
   exact hr0
 rw [hX] at hr;clear hX
 subst hr
 refine cL aa [0] 1 rfl rfl rfl rfl rfl rfl ?_ ?_
 all_goals first|rfl|(simp [aA];done)|(simp [aA];omega)
theorem BQ (l:List al) (hl:l.length * 32<=140737488355328) (r:List al) (hr:gu l=r):Fn Try.prog 37 [(.c (ew l))] (.v (.c (.s 0 0 4 r.length))) [(0,(cS r))]:=by
 refine Fn.mk' 9 [(0,(aC (ew l)))] Try.func37 rfl rfl rfl rfl ?_
 intro W0 T0
 refine dk 0 rfl (fun hlen0=>?_)
 refine ae aa 1 rfl ?_
 refine aH aa 1 rfl ?_
 refine aR 1 [0] (bX 0 (mL l (by first|omega|(simp;done)|(simp;omega))) Ep rfl rfl ⟨⟨_,rfl,.c (.d _)⟩,trivial⟩ trivial ⟨(fun _ _ _ _=>trivial),trivial⟩ rfl rfl rfl rfl) rfl ?_
 refine ad aa 1 rfl ?_
 refine af ?_
 rcases (show l.length=0\/0 < l.length from by omega) with hs1|hs1
 ·
  refine aH aa 1 rfl ?_
  refine aR 1 [0] (fR 1 [0] (tM l 53 ([]) (fun x y=>xk x y) Er (by first|omega|(simp;done)|(simp;omega))) Eo rfl rfl ⟨⟨_,rfl,.c (.s rfl (by decide) (by first|omega|(simp;done)|(simp;omega)))⟩,⟨_,rfl,.c (.fn trivial)⟩,trivial⟩ trivial trivial rfl rfl rfl rfl) rfl ?_
  refine af ?_
  refine ae aa 2 rfl ?_
  refine az ?_
  have hX:gu l=l:=by
    exact yX (by assumption)
  rw [hX] at hr;clear hX
  subst hr
  refine an aa [0] 1 rfl rfl rfl rfl rfl rfl ?_ ?_
  all_goals first|rfl|(simp [aA];done)|(simp [aA];omega)
 refine aH aa 1 rfl ?_
 obtain ⟨r0,hr0⟩:∃ (r0:List al),gu l=r0:=⟨_,rfl⟩
 have hlr0:r0.length=l.length:=by rw [<-hr0];exact sE _
 refine aR 1 [0] (dM id id (vF l l.length 53 ([]) (fun x y=>xk x y) Er (by first|omega|(simp;done)|(simp;omega)) (by first|omega|(simp;done)|(simp;omega)) (by first|omega|(simp;done)|(simp;omega)) r0 hr0) Eo rfl rfl ⟨⟨_,rfl,.inl ⟨rfl,rfl⟩⟩,⟨_,rfl,.inr (.c (.fn trivial))⟩,trivial⟩ ⟨rfl,trivial⟩ rfl rfl ⟨.inr ⟨_,_,_,rfl,by first|(simp;omega)|(simp only [List.length_map];omega)⟩,trivial⟩ rfl rfl rfl trivial ⟨(fun _ _ _ _=>trivial),trivial⟩ rfl rfl rfl rfl) rfl ?_
 refine af ?_
 refine ae aa 2 rfl ?_
 refine az ?_
 have hX:gu l=r0:=by
   exact hr0
 rw [hX] at hr;clear hX
 subst hr
 refine an aa [0] 1 rfl rfl rfl rfl rfl rfl ?_ ?_
 all_goals first|rfl|(simp [aA];done)|(simp [aA];omega)

theorem wj (l:List al) (f:df) (hr:gn l=f):Fn Try.prog 31 [(.c (ew l))] (.v (.g [(cI f.err),(cI f.at_)])) []:=by
 refine Fn.mk' 58 [(0,(aC (ew l)))] Try.func31 rfl rfl rfl rfl ?_
 intro W0 T0
 refine dk 0 rfl (fun hlen0=>?_)
 refine ae aa 1 rfl ?_
 refine ag ?_
 refine aH aa 1 rfl ?_
 refine ay (bN rfl rfl rfl rfl rfl Try.underlying42) rfl ?_
 refine ad aa 1 rfl ?_
 refine af ?_
 refine aj rfl (fun hc1=>?_) (fun hc1=>?_)
 ·
  have hc1':=of_decide_eq_true hc1
  refine ae aa 2 rfl ?_
  refine az ?_
  refine ar ?_
  have hX:gn l=(⟨5,0⟩:df):=by
    unfold gn;rw [if_pos (by omega)]
  rw [hX] at hr;clear hX
  subst hr
  refine an aa [0] 0 rfl rfl rfl rfl rfl rfl ?_ ?_
  all_goals first|rfl|(simp [aA];done)|(simp [aA];omega)
 have hc1':=of_decide_eq_false hc1
 refine aP ?_
 refine ag ?_
 refine aH aa 1 rfl ?_
 refine ay (bN rfl rfl rfl rfl rfl Try.underlying42) rfl ?_
 refine ad aa 1 rfl ?_
 refine af ?_
 refine aU ?_
 refine cg (β:=Nat) (fun (q:Nat)=>⟨[(2,(aC (.p 0 0 0 0))),(9,(aC (ew l))),(10,(aI (↑l.length:Int))),(11,(aI (↑q:Int)))],[(0,(.box 50 [(cI 0),(cI 0)]))],1⟩) (fun (q:Nat)=>q<=l.length/\mr l 0=mr (l.drop q) q) (fun (q:Nat)=>l.length - q) 0 ?_ ?_ ?_
 ·exact ⟨by omega,rfl⟩
 ·exact aE.bR id (by refine ⟨?_,?_,?_,?_,trivial⟩<;>first|rfl|(simp only [bc];done)|(congr 3;omega)|(congr 4;omega)|(simp only [bd];rfl)) (⟨by first|rfl|(simp only [bc];done)|(congr 3;omega)|(congr 4;omega)|(simp only [bd];rfl),trivial⟩) rfl
 rintro q ⟨hi0_0,hi0_1⟩
 refine ae aa 1 rfl ?_
 refine ag ?_
 refine aj rfl (fun hc2=>?_) (fun hc2=>?_)
 ·
  have hc2':=of_decide_eq_true hc2
  refine aP ?_
  refine ag ?_
  refine aU ?_
  refine aH aa 1 rfl ?_
  obtain ⟨x1,hx1⟩:=cb (xs:=l) (i:=q) (by first|omega|(simp;done)|(simp;omega))
  refine ay (bV (i:=q) rfl rfl rfl Try.underlying42 dt (by first|omega|(simp;done)|(simp;omega)) (bf hx1)) rfl ?_
  refine ad aa 4 rfl ?_
  refine af ?_
  refine ag ?_
  refine ch 23 ((decide (x1.kind < 1))||(decide (x1.kind > 8))) ?_ ?_
  ·
   refine au ?_
   refine ad aa 4 rfl ?_
   refine bE (t:=19) rfl (fun hb3=>?_) (fun hb3=>?_)
   ·
    have hb3':=of_decide_eq_true hb3
    refine ad aa 4 rfl ?_
    refine af ?_
    exact aE.bB 9 rfl rfl (by first|(simp [hb3];done)|(simp_all;done)|(exfalso;simp_all;done)|(simp_all;omega)) rfl
   have hb3':=of_decide_eq_false hb3
   refine ad aa 4 rfl ?_
   refine af ?_
   exact aE.bB 9 rfl rfl (by first|(simp [hb3];done)|(simp_all;done)|(exfalso;simp_all;done)|(simp_all;omega)) rfl
  refine aj rfl (fun hc4=>?_) (fun hc4=>?_)
  ·
   have hc4':=hc4;try simp only [bq,bM] at hc4'
   refine ae aa 3 rfl ?_
   refine az ?_
   refine ar ?_
   refine bo ?_
   refine ar ?_
   refine ar ?_
   refine bo ?_
   refine ar ?_
   have hX:gn l=(⟨1,(↑q:Int)⟩:df):=by
     unfold gn;rw [if_neg (by omega),hi0_1,oe hx1,if_pos (by unfold my;omega)]
   rw [hX] at hr;clear hX
   subst hr
   refine an aa [0] 0 rfl rfl rfl rfl rfl rfl ?_ ?_
   all_goals first|rfl|(simp [aA];done)|(simp [aA];omega)
  have hc4':=hc4;try simp only [bq,bM] at hc4'
  refine aP ?_
  refine ch 53 ((((((decide (x1.aD < 0))||(decide (x1.aD>=8)))||(decide (x1.ba < 0)))||(decide (x1.ba>=30)))||(decide (x1.sum < 1)))||(decide (x1.sum > 1000000))) ?_ ?_
  ·
   refine au ?_
   refine ad aa 4 rfl ?_
   refine bE (t:=29) rfl (fun hb5=>?_) (fun hb5=>?_)
   ·
    have hb5':=of_decide_eq_true hb5
    refine ad aa 24 rfl ?_
    refine af ?_
    exact aE.bB 29 rfl rfl (by first|(simp [hb5];done)|(simp_all;done)|(exfalso;simp_all;done)|(simp_all;omega)) rfl
   have hb5':=of_decide_eq_false hb5
   refine ad aa 5 rfl ?_
   refine bE (t:=34) rfl (fun hb6=>?_) (fun hb6=>?_)
   ·
    have hb6':=of_decide_eq_true hb6
    refine ad aa 19 rfl ?_
    refine af ?_
    exact aE.bB 30 rfl rfl (by first|(simp [hb5,hb6];done)|(simp_all;done)|(exfalso;simp_all;done)|(simp_all;omega)) rfl
   have hb6':=of_decide_eq_false hb6
   refine ad aa 5 rfl ?_
   refine bE (t:=39) rfl (fun hb7=>?_) (fun hb7=>?_)
   ·
    have hb7':=of_decide_eq_true hb7
    refine ad aa 14 rfl ?_
    refine af ?_
    exact aE.bB 31 rfl rfl (by first|(simp [hb5,hb6,hb7];done)|(simp_all;done)|(exfalso;simp_all;done)|(simp_all;omega)) rfl
   have hb7':=of_decide_eq_false hb7
   refine ad aa 5 rfl ?_
   refine bE (t:=44) rfl (fun hb8=>?_) (fun hb8=>?_)
   ·
    have hb8':=of_decide_eq_true hb8
    refine ad aa 9 rfl ?_
    refine af ?_
    exact aE.bB 32 rfl rfl (by first|(simp [hb5,hb6,hb7,hb8];done)|(simp_all;done)|(exfalso;simp_all;done)|(simp_all;omega)) rfl
   have hb8':=of_decide_eq_false hb8
   refine ad aa 5 rfl ?_
   refine bE (t:=49) rfl (fun hb9=>?_) (fun hb9=>?_)
   ·
    have hb9':=of_decide_eq_true hb9
    refine ad aa 4 rfl ?_
    refine af ?_
    exact aE.bB 33 rfl rfl (by first|(simp [hb5,hb6,hb7,hb8,hb9];done)|(simp_all;done)|(exfalso;simp_all;done)|(simp_all;omega)) rfl
   have hb9':=of_decide_eq_false hb9
   refine ad aa 4 rfl ?_
   refine af ?_
   exact aE.bB 33 rfl rfl (by first|(simp [hb5,hb6,hb7,hb8,hb9];done)|(simp_all;done)|(exfalso;simp_all;done)|(simp_all;omega)) rfl
  refine aj rfl (fun hc10=>?_) (fun hc10=>?_)
  ·
   have hc10':=hc10;try simp only [bq,bM] at hc10'
   refine ae aa 3 rfl ?_
   refine az ?_
   refine bo ?_
   refine ar ?_
   refine ar ?_
   refine bo ?_
   refine ar ?_
   have hX:gn l=(⟨3,(↑q:Int)⟩:df):=by
     unfold gn;rw [if_neg (by omega),hi0_1,oe hx1,if_neg (by unfold my;omega),if_pos (by unfold nF;omega)]
   rw [hX] at hr;clear hX
   subst hr
   refine an aa [0] 0 rfl rfl rfl rfl rfl rfl ?_ ?_
   all_goals first|rfl|(simp [aA];done)|(simp [aA];omega)
  have hc10':=hc10;try simp only [bq,bM] at hc10'
  refine cD ?_
  refine bl ?_
  refine then_ok ?_
  refine au ?_
  refine ay (aJ rfl rfl rfl (aL (by first|omega|(simp;done)|(simp;omega)))) rfl ?_
  refine ad aa 1 rfl ?_
  refine af ?_
  refine ⟨q+1,⟨by omega,by rw [hi0_1,oe hx1,if_neg (by unfold my;omega),if_neg (by unfold nF;omega)]⟩,by first|omega|(simp;done)|(simp;omega),aE.bR id (by refine ⟨?_,?_,?_,?_,trivial⟩<;>first|rfl|(simp only [bc];done)|(congr 3;omega)|(congr 4;omega)|(simp only [bd];rfl)) (⟨by first|rfl|(simp only [bc];done)|(congr 3;omega)|(congr 4;omega)|(simp only [bd];rfl),trivial⟩) rfl⟩
 have hc2':=of_decide_eq_false hc2
 refine bZ ?_
 refine aN ?_
 refine aN ?_
 refine bC ?_
 refine then_ok ?_
 refine ae aa 2 rfl ?_
 refine az ?_
 have hX:gn l=(⟨0,0⟩:df):=by
   unfold gn;rw [if_neg (by omega),hi0_1,zg (by omega)]
 rw [hX] at hr;clear hX
 subst hr
 refine an aa [0] 0 rfl rfl rfl rfl rfl rfl ?_ ?_
 all_goals first|rfl|(simp [aA];done)|(simp [aA];omega)

theorem tu (b:List Int) (N:Nat) (n:Int) (z:Nat) (hN:N=b.length) (hz:z<=8) (hl:b.length+z<=1000000) (r:List Int) (hr:b++mb n z=r):cJ Try.prog 109 [(.c (.s 0 0 1 N)),(.c (cI n)),(.c (cI (↑z:Int)))] [(0,(xv b))] [] (.v (.c (.s 0 0 1 r.length))) [(0,(xv r))]:=by
 refine cJ.mk 23 [(0,(aC (.s 0 0 1 N))),(1,(aI n)),(2,(aI (↑z:Int)))] 1 Try.func109 rfl rfl rfl rfl rfl rfl rfl rfl rfl ?_
 intro W0 F0 T0 pg
 refine gm 0 rfl (fun hlen0=>?_)
 refine ae aa 1 rfl ?_
 refine ag ?_
 refine aH aa 1 rfl ?_
 refine ay (aJ rfl rfl rfl (aL (by first|omega|(simp;done)|(simp;omega)))) rfl ?_
 refine ad aa 1 rfl ?_
 refine af ?_
 refine aU ?_
 refine cg (β:=Nat×List Int) (fun (p:Nat×List Int)=>match p with|(k,m)=>⟨[(0,(aC (.s 0 0 1 m.length))),(1,(aI n)),(6,(aC cN)),(7,(aI ((↑k:Int) - 1)))],[(0,(xv m))],1⟩) (fun (p:Nat×List Int)=>match p with|(k,m)=>k<=z/\m++mb n k=b++mb n z/\m.length+k=b.length+z) (fun (p:Nat×List Int)=>match p with|(k,m)=>k) (z,b) ?_ ?_ ?_
 ·exact ⟨by omega,rfl,rfl⟩
 ·exact aE.bR id (by refine ⟨?_,?_,?_,?_,trivial⟩<;>first|rfl|(simp only [bc];done)|(congr 3;omega)|(congr 4;omega)|(simp only [bd];rfl)|(first|exact cM rfl (by omega)|exact ja rfl (by omega))) (⟨by first|rfl|(simp only [bc];done)|(congr 3;omega)|(congr 4;omega)|(simp only [bd];rfl),trivial⟩) rfl
 rintro ⟨k,m⟩ ⟨hi0_0,hi0_1,hi0_2⟩
 refine ag ?_
 refine ae aa 2 rfl ?_
 refine aj rfl (fun hc1=>?_) (fun hc1=>?_)
 ·
  have hc1':=of_decide_eq_true hc1
  refine aP ?_
  refine ag ?_
  refine aU ?_
  refine au ?_
  refine ad aa 3 rfl ?_
  refine ay (aJ rfl rfl rfl (aL (by first|omega|(simp;done)|(simp;omega)))) rfl ?_
  refine ay (DN rfl rfl rfl (by first|omega|(simp;done)|(simp;omega)) rfl (Gi (k:=k) (by omega) rfl)) rfl ?_
  refine ay (fm rfl rfl (by rw [Try.underlying3];rfl) Try.underlying5 mK) rfl ?_
  refine aR 2 [1,0] (dJ (ys:=[(0,(.c (.d (.v (.int .u8 ((n / 256 ^ (k - 1)) % 256))))))]) (rows:=([(n / 256 ^ (k - 1)) % 256]).map kV) 1 um rfl (by decide) ⟨⟨rfl,rfl⟩,trivial⟩ rfl rfl rfl rfl) rfl ?_
  refine aR 3 [2,1] (dp (m:=1) (N:=m.length+1) (k2:=2) (ys:=([(n / 256 ^ (k - 1)) % 256]).map kV) um rfl rfl rfl rfl rfl rfl (by first|omega|(simp;done)|(simp;omega)) rfl (.s rfl (by first|omega|(simp;done)|(simp;omega))) (by first|omega|(simp;done)|(simp;omega)) (by first|omega|(simp;done)|(simp;omega)) ff (by decide) (by first|omega|(simp;done)|(simp;omega)) (by first|omega|(simp;done)|(simp;omega))) rfl ?_
  refine ad aa 1 rfl ?_
  refine cc ?_
  refine bl ?_
  refine then_ok ?_
  refine au ?_
  refine ad aa 1 rfl ?_
  refine ay (aJ rfl rfl rfl (aL (by first|omega|(simp;done)|(simp;omega)))) rfl ?_
  refine ad aa 1 rfl ?_
  refine af ?_
  refine ⟨(k - 1,m++([(n / 256 ^ (k - 1)) % 256])),⟨by omega,by rw [<-hi0_1,BR (k:=k) (by omega),List.append_assoc];rfl,by simp only [List.length_append,List.length_cons,List.length_nil];omega⟩,by first|omega|(simp;done)|(simp;omega),aE.bR (fun k=>if k=0 then 2 else k) (by refine ⟨?_,?_,?_,?_,trivial⟩<;>first|rfl|(simp only [bc];done)|(congr 3;omega)|(congr 4;omega)|(simp only [bd];rfl)|(first|exact cM rfl (by omega)|exact ja rfl (by simp only [List.length_append,List.length_cons,List.length_nil];omega))) (⟨by first|rfl|(simp only [bc];done)|(congr 3;omega)|(congr 4;omega)|(simp only [bd];rfl),trivial⟩) rfl⟩
 have hc1':=of_decide_eq_false hc1
 refine bZ ?_
 refine aN ?_
 refine aN ?_
 refine bC ?_
 refine then_ok ?_
 refine ae aa 2 rfl ?_
 refine az ?_
 have hX:b++mb n z=m:=by
   (obtain rfl:k=0:=by omega);rw [<-hi0_1];simp [mb]
 rw [hX] at hr;clear hX
 subst hr
 refine an aa [0] 1 rfl rfl rfl rfl rfl rfl ?_ ?_
 all_goals first|rfl|(simp [aA];done)|(simp [aA];omega)

theorem wk (l:List al) (hl:l.length * 32<=140737488355328) (x:List Int) (f:df) (hr:jN l=(x,f)):Fn Try.prog 92 [(.c (ew l))] (.t [(.c (.s 0 0 1 x.length)),(.g [(cI f.err),(cI f.at_)])]) [(0,(xv x))]:=by
 refine Fn.mk' 50 [(0,(aC (ew l)))] Try.func92 rfl rfl rfl rfl ?_
 intro W0 T0
 refine dk 0 rfl (fun hlen0=>?_)
 refine ae aa 2 rfl ?_
 refine ag ?_
 refine aH aa 1 rfl ?_
 obtain ⟨f0,hr0⟩:∃ (f0:df),gn l=f0:=⟨_,rfl⟩
 refine aR 1 [0] (bX 1 (wj l f0 hr0) Hb rfl rfl ⟨⟨_,rfl,.c (.d _)⟩,trivial⟩ ⟨trivial,trivial,trivial⟩ trivial rfl rfl rfl rfl) rfl ?_
 refine ad aa 2 rfl ?_
 refine af ?_
 refine ae aa 3 rfl ?_
 refine aj rfl (fun hc1=>?_) (fun hc1=>?_)
 ·
  have hc1':=of_decide_eq_true hc1
  refine ag ?_
  refine aW [0,3,4] [1,0] mixed rfl rfl ?_
  refine aw (kn:=[]) aa 2 rfl trivial ?_
  refine bw [1,0] rfl rfl rfl rfl (by kernel_rfl) ?_
  refine ad aa 1 rfl ?_
  refine af ?_
  refine az ?_
  refine ar ?_
  refine dc (aE.nil 2 5 1 (by decide) rfl) ?_
  have hX:jN l=(([]:List Int),f0):=by
    unfold jN;rw [if_neg (by rw [hr0];omega),hr0]
  rw [hX] at hr;clear hX
  simp only [Prod.mk.injEq] at hr;obtain ⟨rfl,rfl⟩:=hr
  refine an aa [2,0] 1 rfl rfl rfl rfl rfl rfl ?_ ?_
  all_goals first|rfl|(simp [aA];done)|(simp [aA];omega)
 have hc1':=of_decide_eq_false hc1
 refine aP ?_
 have hw:(gn l).err=0:=by rw [hr0];omega
 have hok:=yK.1 hw
 refine aH aa 1 rfl ?_
 refine ay (bN rfl rfl rfl rfl rfl Try.underlying42) rfl ?_
 refine ay (fm rfl rfl (by rw [Try.underlying3];rfl) Try.underlying5 mK) rfl ?_
 refine aR 3 [2,1,0] (dJ (ys:=[(0,(.c (.d (.v (.int .u8 ((↑l.length:Int) % 256))))))]) (rows:=([(↑l.length:Int) % 256]).map kV) 2 um rfl (by decide) ⟨⟨rfl,rfl⟩,trivial⟩ rfl rfl rfl rfl) rfl ?_
 refine ad aa 1 rfl ?_
 refine af ?_
 refine ae aa 1 rfl ?_
 refine ag ?_
 refine aH aa 1 rfl ?_
 obtain ⟨r1,hr1⟩:∃ (r1:List al),gu l=r1:=⟨_,rfl⟩
 have hlr:r1.length=l.length:=by rw [<-hr1];exact sE _
 have hrok:∀ x∈r1,wQ x:=fun x hx=>hok.2 x ((mU l).mem.2 (by rw [hr1];exact hx))
 refine aR 4 [3,2,1,0] (bX 3 (BQ l (by first|omega|(simp;done)|(simp;omega)) r1 hr1) GX rfl rfl ⟨⟨_,rfl,.c (.d _)⟩,trivial⟩ trivial ⟨(fun _ _ _ _=>trivial),trivial⟩ rfl rfl rfl rfl) rfl ?_
 refine ay (du rfl rfl rfl rfl rfl Try.underlying42) rfl ?_
 refine ad aa 1 rfl ?_
 refine af ?_
 refine aU ?_
 refine cg (β:=Nat×List Int×Int) (fun (p:Nat×List Int×Int)=>match p with|(q,m,all)=>⟨[(2,(aC cN)),(3,(aC (.p 0 0 0 0))),(5,(aC (.s 2 0 1 m.length))),(6,(aI all)),(20,(aC (.s 3 0 4 r1.length))),(21,(aI (↑r1.length:Int))),(22,(aI (↑q:Int)))],[(3,(cS r1)),(2,(xv m)),(0,(.box 50 [(cI 0),(cI 0)]))],4⟩) (fun (p:Nat×List Int×Int)=>match p with|(q,m,all)=>q<=r1.length/\m=lX l (r1.take q)/\all=ly (r1.take q)/\0<=all/\all<=1000000 * (q:Int)) (fun (p:Nat×List Int×Int)=>match p with|(q,m,all)=>r1.length - q) (0,[(↑l.length:Int) % 256],0) ?_ ?_ ?_
 ·exact ⟨by omega,by simp [lX],rfl,by omega⟩
 ·exact aE.bR id (by refine ⟨?_,?_,?_,?_,?_,?_,?_,trivial⟩<;>first|rfl|(simp only [bc];done)|(congr 3;omega)|(congr 4;omega)|(simp only [bd];rfl)) (by refine ⟨?_,?_,?_,trivial⟩<;>first|rfl|(simp only [bc];done)|(congr 3;omega)|(congr 4;omega)|(simp only [bd];rfl)) rfl
 rintro ⟨q,m,all⟩ ⟨hi0_0,hi0_1,hi0_2,hi0_3⟩
 have hml:m.length=1+6 * q:=by rw [hi0_1,zI,List.length_take];omega
 refine ae aa 1 rfl ?_
 refine ag ?_
 refine aj rfl (fun hc2=>?_) (fun hc2=>?_)
 ·
  have hc2':=of_decide_eq_true hc2
  refine aP ?_
  refine ag ?_
  refine aU ?_
  refine eV ?_
  refine ay (bx (i:=q) rfl rfl rfl Try.underlying42 dt (by first|omega|(simp;done)|(simp;omega)) (by first|omega|(simp;done)|(simp;omega))) rfl ?_
  obtain ⟨x1,hx1⟩:=cb (xs:=r1) (i:=q) (by first|omega|(simp;done)|(simp;omega))
  have hx1b:=Ff (hrok x1 (List.mem_of_getElem? hx1))
  refine ay (dg rfl rfl rfl Try.underlying83 rfl dt (bf hx1) rfl) rfl ?_
  refine ad aa 2 rfl ?_
  refine af ?_
  refine ag ?_
  obtain ⟨r2,hr2⟩:∃ (r2:List Int),(m++([x1.aD % 256,x1.ba % 256,x1.kind % 256]))++mb x1.sum 3=r2:=⟨_,rfl⟩
  have hlr2:r2.length=m.length+6:=by rw [<-hr2];simp [pe]
  refine aW [2,3,5,6,20,21,22,8] [4,3,2,0] mixed rfl rfl ?_
  refine aw (kn:=[]) aa 3 rfl trivial ?_
  refine aM (n':=5) [28] [] rfl rfl (.inl ⟨(ah.plain rfl),aF.cast (fm rfl rfl (by rw [Try.underlying3];rfl) Try.underlying5 mK) rfl⟩) rfl ?_
  refine aw (kn:=[]) aa 2 rfl trivial ?_
  refine aM (n':=5) [31] [] rfl rfl (.inl ⟨(ah.plain rfl),aF.cast (fm rfl rfl (by rw [Try.underlying3];rfl) Try.underlying5 mK) rfl⟩) rfl ?_
  refine aw (kn:=[]) aa 2 rfl trivial ?_
  refine aM (n':=5) [34] [] rfl rfl (.inl ⟨(ah.plain rfl),aF.cast (fm rfl rfl (by rw [Try.underlying3];rfl) Try.underlying5 mK) rfl⟩) rfl ?_
  refine aM (n':=6) [29,32,35] [] rfl rfl (.inl ⟨(ah.plain rfl),aF.cast (dJ (ys:=[(0,(.c (.d (.v (.int .u8 (x1.aD % 256)))))),(1,(.c (.d (.v (.int .u8 (x1.ba % 256)))))),(2,(.c (.d (.v (.int .u8 (x1.kind % 256))))))]) (rows:=([x1.aD % 256,x1.ba % 256,x1.kind % 256]).map kV) 5 um rfl (by decide) ⟨⟨rfl,rfl⟩,⟨rfl,rfl⟩,⟨rfl,rfl⟩,trivial⟩ rfl rfl rfl rfl) rfl⟩) rfl ?_
  refine aM (n':=7) [26,36] [5,2] rfl rfl (.inl ⟨(ah.plain rfl),aF.cast (dp (m:=3) (N:=m.length+3) (k2:=6) (ys:=([x1.aD % 256,x1.ba % 256,x1.kind % 256]).map kV) um rfl rfl rfl rfl rfl rfl (by first|omega|(simp;done)|(simp;omega)) rfl (.s rfl (by first|omega|(simp;done)|(simp;omega))) (by first|omega|(simp;done)|(simp;omega)) (by first|omega|(simp;done)|(simp;omega)) ff (by decide) (by first|omega|(simp;done)|(simp;omega)) (by first|omega|(simp;done)|(simp;omega))) rfl⟩) rfl ?_
  refine aw (kn:=[]) aa 2 rfl trivial ?_
  refine aM (n':=8) [37,39] [6] rfl rfl (.inl ⟨(ah.plain rfl),aF.cast (cK (bb [6]) (bb [7]) (tu (m++([x1.aD % 256,x1.ba % 256,x1.kind % 256])) (m.length+3) x1.sum 3 (by first|omega|(simp;done)|(simp;omega)) (by first|omega|(simp;done)|(simp;omega)) (by first|omega|(simp;done)|(simp;omega)) r2 hr2) Cp rfl rfl ⟨⟨_,rfl,.inl ⟨rfl,rfl⟩⟩,⟨_,rfl,.inr (.c (.d _))⟩,⟨_,rfl,.inr (.c (.d _))⟩,trivial⟩ ⟨rfl,trivial⟩ rfl rfl rfl rfl rfl rfl trivial ⟨(fun _ _ _ _=>trivial),trivial⟩ rfl rfl rfl rfl) rfl⟩) rfl ?_
  refine bw [7,4,3,0] rfl rfl rfl rfl (by kernel_rfl) ?_
  refine ad aa 1 rfl ?_
  refine af ?_
  refine au ?_
  refine ad aa 3 rfl ?_
  refine ay (aJ rfl rfl rfl (aL (by first|omega|(simp;done)|(simp;omega)))) rfl ?_
  refine ad aa 1 rfl ?_
  refine cc ?_
  refine bl ?_
  refine then_ok ?_
  refine au ?_
  refine ay (aJ rfl rfl rfl (aL (by first|omega|(simp;done)|(simp;omega)))) rfl ?_
  refine ad aa 1 rfl ?_
  refine af ?_
  refine ⟨(q+1,r2,all+x1.sum),⟨by omega,by rw [yb hx1,<-hi0_1,<-hr2];simp [uE],by rw [yU hx1,<-hi0_2],by omega⟩,by first|omega|(simp;done)|(simp;omega),aE.bR (fun k=>if k=2 then 7 else k) (by refine ⟨?_,?_,?_,?_,?_,?_,?_,trivial⟩<;>first|rfl|(simp only [bc];done)|(congr 3;omega)|(congr 4;omega)|(simp only [bd];rfl)|(first|exact cM rfl (by omega)|exact ja rfl (by simp only [List.length_append,List.length_take,List.length_drop,List.length_cons,List.length_nil];omega))) (by refine ⟨?_,?_,?_,trivial⟩<;>first|rfl|(simp only [bc];done)|(congr 3;omega)|(congr 4;omega)|(simp only [bd];rfl)) rfl⟩
 have hc2':=of_decide_eq_false hc2
 refine bZ ?_
 refine aN ?_
 refine aN ?_
 refine bC ?_
 refine then_ok ?_
 refine aH aa 2 rfl ?_
 obtain ⟨r3,hr3⟩:∃ (r3:List Int),m++mb all 4=r3:=⟨_,rfl⟩
 have hlr3:r3.length=m.length+4:=by rw [<-hr3];simp [pe]
 refine aR 5 [4,3,0] (cK (bb [2]) (bb [4]) (tu m m.length all 4 (by first|omega|(simp;done)|(simp;omega)) (by first|omega|(simp;done)|(simp;omega)) (by first|omega|(simp;done)|(simp;omega)) r3 hr3) Cp rfl rfl ⟨⟨_,rfl,.inl ⟨rfl,rfl⟩⟩,⟨_,rfl,.inr (.c (.d _))⟩,⟨_,rfl,.inr (.c (.d _))⟩,trivial⟩ ⟨rfl,trivial⟩ rfl rfl rfl rfl rfl rfl trivial ⟨(fun _ _ _ _=>trivial),trivial⟩ rfl rfl rfl rfl) rfl ?_
 refine ad aa 3 rfl ?_
 refine af ?_
 refine az ?_
 have hX:jN l=(r3,(⟨0,0⟩:df)):=by
   have ht:r1.take q=r1:=List.take_of_length_le (by omega)
   rw [ht] at hi0_1 hi0_2
   unfold jN
   rw [if_pos hw,hr1,<-hi0_1,<-hi0_2]
   rw [hr3]
 rw [hX] at hr;clear hX
 simp only [Prod.mk.injEq] at hr;obtain ⟨rfl,rfl⟩:=hr
 refine an aa [4,0] 1 rfl rfl rfl rfl rfl rfl ?_ ?_
 all_goals first|rfl|(simp [aA];done)|(simp [aA];omega)

theorem jL (x:Nat->Value) (hx:∀ i,(x i).oneCell'=true) (e err:Int) (e2:Int) (hr:dz e err=e2):cJ Try.prog 87 [(.c (.p 0 0 0 0)),(.c (cI err))] [(0,(.box 147 ((bg x).set 19 (cI e))))] [0] (.v (.c (cB (decide (¬e2=0))))) [(0,(.box 147 ((bg x).set 19 (cI e2))))]:=by
 refine cJ.mk 19 [(0,(aC (.p 0 0 0 0))),(1,(aI err))] 1 Try.func87 rfl rfl rfl rfl rfl rfl rfl rfl rfl ?_
 intro W0 F0 T0 pg
 refine ae aa 1 rfl ?_
 refine ag ?_
 refine ae aa 5 rfl ?_
 refine aj rfl (fun hc1=>?_) (fun hc1=>?_)
 ·
  have hc1':=of_decide_eq_true hc1
  refine au ?_
  refine ad aa 5 rfl ?_
  refine af ?_
  refine ae aa 6 rfl ?_
  refine az ?_
  have hX:dz e err=err:=by
    (unfold dz;try dsimp only);(repeat' split)<;>first|rfl|omega|(exfalso;omega)|(subst_vars;rfl)|(simp_all;done)|(simp_all;omega)
  rw [hX] at hr;clear hX
  subst hr
  refine an aa [0] 1 rfl rfl rfl rfl rfl rfl ?_ ?_
  all_goals first|rfl|(simp [aA,aY,bg];done)|(simp [aA,aY,bg];omega)
 have hc1':=of_decide_eq_false hc1
 refine aP ?_
 refine ae aa 6 rfl ?_
 refine az ?_
 have hX:dz e err=e:=by
   (unfold dz;try dsimp only);(repeat' split)<;>first|rfl|omega|(exfalso;omega)|(subst_vars;rfl)|(simp_all;done)|(simp_all;omega)
 rw [hX] at hr;clear hX
 subst hr
 refine an aa [0] 1 rfl rfl rfl rfl rfl rfl ?_ ?_
 all_goals first|rfl|(simp [aA,aY,bg];done)|(simp [aA,aY,bg];omega)

theorem jc (x:Nat->Value) (hx:∀ i,(x i).oneCell'=true) (l:List Entry) (e src dst n:Int) (l2:List Entry) (e2:Int) (hr:dX l e src dst n=(l2,e2)):cJ Try.prog 76 [(.c (.p 0 0 0 0)),(.c (cI src)),(.c (cI dst)),(.c (cI n))] [(0,(.box 147 (((bg x).set 18 (da l)).set 19 (cI e))))] [0] (.t []) [(0,(.box 147 (((bg x).set 18 (da l2)).set 19 (cI e2))))]:=by
 refine cJ.mk 31 [(0,(aC (.p 0 0 0 0))),(1,(aI src)),(2,(aI dst)),(3,(aI n))] 1 Try.func76 rfl rfl rfl rfl rfl rfl rfl rfl rfl ?_
 intro W0 F0 T0 pg
 refine aH aa 8 rfl ?_
 obtain ⟨r0,e0,hr0⟩:∃ (r0:List Entry) (e0:Int),jG l src dst n=(r0,e0):=⟨_,_,rfl⟩
 refine aR 1 [0] (bX 1 (Fn.frozen (av':=(.t [(.c (da r0)),(.c (cI e0))])) (wo l src dst n r0 e0 hr0) ⟨.inr ⟨_,_,_,_,_,rfl,rfl,rfl,by simp⟩,.inl ⟨_,rfl,rfl⟩,trivial⟩) Gr rfl rfl ⟨⟨_,rfl,.c (.d _)⟩,⟨_,rfl,.c (.d _)⟩,⟨_,rfl,.c (.d _)⟩,⟨_,rfl,.c (.d _)⟩,trivial⟩ ⟨trivial,trivial,trivial⟩ trivial rfl rfl rfl rfl) rfl ?_
 refine ad aa 5 rfl ?_
 refine af ?_
 refine aH aa 2 rfl ?_
 obtain ⟨e21,hr1⟩:∃ (e21:Int),dz e e0=e21:=⟨_,rfl⟩
 refine aR 1 [0] (cr id id (ms:=(dw.set 19 (some (cI e)))) (ms':=(dw.set 19 (some (cI e21)))) (fun x hx=>jL x hx e e0 e21 hr1) nA rfl rfl ⟨⟨_,rfl,.inl ⟨rfl,rfl⟩⟩,⟨_,rfl,.inr (.c (.d _))⟩,trivial⟩ rfl rfl rfl rfl rfl rfl rfl trivial rfl rfl rfl rfl rfl rfl rfl rfl rfl rfl rfl rfl rfl) rfl ?_
 refine ad aa 1 rfl ?_
 refine af ?_
 refine aj rfl (fun hc1=>?_) (fun hc1=>?_)
 ·
  have hc1':=hc1;try simp only [bq,bM] at hc1'
  refine au ?_
  refine ad aa 6 rfl ?_
  refine cc ?_
  have hX:dX l e src dst n=(r0,e21):=by
    unfold dX;simp only [hr0,hr1];(repeat' split)<;>first|rfl|omega|(exfalso;omega)|(simp_all;done)|(simp_all;omega)
  rw [hX] at hr;clear hX
  simp only [Prod.mk.injEq] at hr;obtain ⟨rfl,rfl⟩:=hr
  refine cL aa [0] 1 rfl rfl rfl rfl rfl rfl ?_ ?_
  all_goals first|rfl|(simp [aA,aY,bg];done)|(simp [aA,aY,bg];omega)
 have hc1':=hc1;try simp only [bq,bM] at hc1'
 refine cD ?_
 have hX:dX l e src dst n=(l,e21):=by
   unfold dX;simp only [hr0,hr1];(repeat' split)<;>first|rfl|omega|(exfalso;omega)|(simp_all;done)|(simp_all;omega)
 rw [hX] at hr;clear hX
 simp only [Prod.mk.injEq] at hr;obtain ⟨rfl,rfl⟩:=hr
 refine cL aa [0] 1 rfl rfl rfl rfl rfl rfl ?_ ?_
 all_goals first|rfl|(simp [aA,aY,bg];done)|(simp [aA,aY,bg];omega)
theorem iO (x:Nat->Value) (hx:∀ i,(x i).oneCell'=true) (l:List bI) (e k held bJ:Int) (hk:0<=k/\k < l.length) (l2:List bI) (e2:Int) (hr:cH l e k held bJ=(l2,e2)):cJ Try.prog 75 [(.c (.p 0 0 0 0)),(.c (cI k)),(.c (cI held)),(.c (cI bJ))] [(0,(.box 147 (((bg x).set 2 (.s 1 0 6 l.length)).set 19 (cI e)))),(1,(dN l))] [0] (.t []) [(0,(.box 147 (((bg x).set 2 (.s 1 0 6 l2.length)).set 19 (cI e2)))),(1,(dN l2))]:=by
 refine cJ.mk 36 [(0,(aC (.p 0 0 0 0))),(1,(aI k)),(2,(aI held)),(3,(aI bJ))] 2 Try.func75 rfl rfl rfl rfl rfl rfl rfl rfl rfl ?_
 intro W0 F0 T0 pg
 refine aH aa 6 rfl ?_
 refine ay (bx (i:=Int.toNat (k)) rfl rfl rfl Try.underlying29 iu (by first|omega|(simp;done)|(simp;omega)) (by first|omega|(simp;done)|(simp;omega))) rfl ?_
 obtain ⟨x1,hx1⟩:=cb (xs:=l) (i:=Int.toNat (k)) (by first|omega|(simp;done)|(simp;omega))
 refine ay (dg rfl rfl rfl Try.underlying61 rfl iu (bf hx1) rfl) rfl ?_
 refine ad aa 2 rfl ?_
 obtain ⟨xr0,e0,hr0⟩:∃ (xr0:bI) (e0:Int),ec x1 held bJ=(xr0,e0):=⟨_,_,rfl⟩
 refine aR 2 [0,1] (bX 2 (Fn.frozen (av':=(.t [(.g [(cI xr0.bJ),(cI xr0.held),(cI xr0.bU.cE),(cI xr0.bU.count),(cI xr0.bU.sum),(eD xr0.cW)]),(.c (cI e0))])) (vz x1 held bJ xr0 e0 hr0) ⟨⟨.inl ⟨_,rfl,rfl⟩,.inl ⟨_,rfl,rfl⟩,.inl ⟨_,rfl,rfl⟩,.inl ⟨_,rfl,rfl⟩,.inl ⟨_,rfl,rfl⟩,.inr ⟨_,_,_,_,_,rfl,rfl,rfl,by simp⟩,trivial⟩,.inl ⟨_,rfl,rfl⟩,trivial⟩) Gs rfl rfl ⟨⟨_,rfl,.g ⟨.d _,.d _,.d _,.d _,.d _,.d _,trivial⟩⟩,⟨_,rfl,.c (.d _)⟩,⟨_,rfl,.c (.d _)⟩,trivial⟩ ⟨⟨trivial,trivial,trivial,trivial,trivial,trivial,trivial⟩,trivial,trivial⟩ trivial rfl rfl rfl rfl) rfl ?_
 refine ad aa 6 rfl ?_
 refine af ?_
 refine aH aa 2 rfl ?_
 obtain ⟨e21,hr1⟩:∃ (e21:Int),dz e e0=e21:=⟨_,rfl⟩
 refine aR 3 [0,2,1] (cr id id (ms:=(dw.set 19 (some (cI e)))) (ms':=(dw.set 19 (some (cI e21)))) (fun x hx=>jL x hx e e0 e21 hr1) nA rfl rfl ⟨⟨_,rfl,.inl ⟨rfl,rfl⟩⟩,⟨_,rfl,.inr (.c (.d _))⟩,trivial⟩ rfl rfl rfl rfl rfl rfl rfl trivial rfl rfl rfl rfl rfl rfl rfl rfl rfl rfl rfl rfl rfl) rfl ?_
 refine ad aa 1 rfl ?_
 refine af ?_
 refine aj rfl (fun hc1=>?_) (fun hc1=>?_)
 ·
  have hc1':=hc1;try simp only [bq,bM] at hc1'
  refine aW [0,1,8] [0,2,1] mixed rfl rfl ?_
  refine aw (kn:=[]) aa 7 rfl trivial ?_
  refine aM (n':=3) [32,33] [1] rfl rfl (.inl ⟨(ah.plain rfl),aF.cast (bx (i:=Int.toNat (k)) rfl rfl rfl Try.underlying29 iu (by first|omega|(simp;done)|(simp;omega)) (by first|omega|(simp;done)|(simp;omega))) rfl⟩) rfl ?_
  refine bw [0,2,1] rfl rfl rfl rfl (by kernel_rfl) ?_
  refine gh [0,2,1] (dL (ds:=[(dI xr0.bJ),(dI xr0.held),(dI xr0.bU.cE),(dI xr0.bU.count),(dI xr0.bU.sum),(Ex xr0.cW)]) rfl rfl rfl rfl rfl iu rfl (Nat.le_of_ble_eq_true rfl) (bf hx1) rfl (eL (x':=xr0) rfl)) rfl ?_
  refine cc ?_
  have hX:cH l e k held bJ=((l).set (Int.toNat (k)) xr0,e21):=by
    rw [sF hx1];simp only [hr0,hr1];(repeat' split)<;>first|rfl|omega|(exfalso;omega)|(simp_all;done)|(simp_all;omega)
  rw [hX] at hr;clear hX
  simp only [Prod.mk.injEq] at hr;obtain ⟨rfl,rfl⟩:=hr
  refine cL aa [0,1] 2 rfl rfl rfl rfl rfl rfl ?_ ?_
  all_goals first|rfl|(simp [aA,aY,bg];done)|(simp [aA,aY,bg];omega)
 have hc1':=hc1;try simp only [bq,bM] at hc1'
 refine cD ?_
 have hX:cH l e k held bJ=(l,e21):=by
   rw [sF hx1];simp only [hr0,hr1];(repeat' split)<;>first|rfl|omega|(exfalso;omega)|(simp_all;done)|(simp_all;omega)
 rw [hX] at hr;clear hX
 simp only [Prod.mk.injEq] at hr;obtain ⟨rfl,rfl⟩:=hr
 refine cL aa [0,1] 2 rfl rfl rfl rfl rfl rfl ?_ ?_
 all_goals first|rfl|(simp [aA,aY,bg];done)|(simp [aA,aY,bg];omega)
theorem EH (x:Nat->Value) (hx:∀ i,(x i).oneCell'=true) (l:List al) (e:Int) (r:al) (hl:l.length<=100) (l2:List al) (e2:Int) (hr:iM l e r=(l2,e2)):cJ Try.prog 83 [(.c (.p 0 0 0 0)),(.g [(cI r.aD),(cI r.ba),(cI r.kind),(cI r.sum)])] [(0,(.box 147 (((bg x).set 16 (.s 1 0 4 l.length)).set 19 (cI e)))),(1,(cS l))] [0] (.t []) [(0,(.box 147 (((bg x).set 16 (.s 1 0 4 l2.length)).set 19 (cI e2)))),(1,(cS l2))]:=by
 refine cJ.mk 25 [(0,(aC (.p 0 0 0 0))),(1,(aG [(cI r.aD),(cI r.ba),(cI r.kind),(cI r.sum)]))] 2 Try.func83 rfl rfl rfl rfl rfl rfl rfl rfl rfl ?_
 intro W0 F0 T0 pg
 refine ae aa 1 rfl ?_
 refine ag ?_
 refine aH aa 5 rfl ?_
 refine ay (du rfl rfl rfl rfl rfl Try.underlying42) rfl ?_
 refine ad aa 1 rfl ?_
 refine af ?_
 refine aj rfl (fun hc1=>?_) (fun hc1=>?_)
 ·
  have hc1':=of_decide_eq_true hc1
  refine aH aa 1 rfl ?_
  obtain ⟨e20,hr0⟩:∃ (e20:Int),dz e 5=e20:=⟨_,rfl⟩
  refine aR 3 [0,2,1] (cr id id (ms:=(dw.set 19 (some (cI e)))) (ms':=(dw.set 19 (some (cI e20)))) (fun x hx=>jL x hx e 5 e20 hr0) nA rfl rfl ⟨⟨_,rfl,.inl ⟨rfl,rfl⟩⟩,⟨_,rfl,.inr (.c (.d _))⟩,trivial⟩ rfl rfl rfl rfl rfl rfl rfl trivial rfl rfl rfl rfl rfl rfl rfl rfl rfl rfl rfl rfl rfl) rfl ?_
  refine af ?_
  refine az ?_
  refine ar ?_
  have hX:iM l e r=(l,e20):=by
    unfold iM;first|(rw [if_pos (by omega),hr0];done)|(rw [if_neg (by omega)];done)
  rw [hX] at hr;clear hX
  simp only [Prod.mk.injEq] at hr;obtain ⟨rfl,rfl⟩:=hr
  refine an aa [0,1] 2 rfl rfl rfl rfl rfl rfl ?_ ?_
  all_goals first|rfl|(simp [aA,aY,bg];done)|(simp [aA,aY,bg];omega)
 have hc1':=of_decide_eq_false hc1
 refine aP ?_
 refine aW [0,3] [2,0,1] mixed rfl rfl ?_
 refine aw (kn:=[]) aa 7 rfl trivial ?_
 refine aM (n':=4) [19] [] rfl rfl (.inl ⟨(ah.plain rfl),aF.cast (dJ (ys:=[(0,(.g [(cI r.aD),(cI r.ba),(cI r.kind),(cI r.sum)]))]) (rows:=([r]).map gY) 3 xH rfl (by decide) ⟨⟨rfl,rfl⟩,trivial⟩ rfl rfl rfl rfl) rfl⟩) rfl ?_
 refine aM (n':=5) [18,20] [3,1] rfl rfl (.inl ⟨(ah.plain rfl),aF.cast (dp (m:=1) (N:=l.length+1) (k2:=4) (ys:=([r]).map gY) xH rfl rfl rfl rfl rfl rfl (by first|omega|(simp;done)|(simp;omega)) rfl (.s rfl (by first|omega|(simp;done)|(simp;omega))) (by first|omega|(simp;done)|(simp;omega)) (by first|omega|(simp;done)|(simp;omega)) ff (by decide) (by first|omega|(simp;done)|(simp;omega)) (by first|omega|(simp;done)|(simp;omega))) rfl⟩) rfl ?_
 refine aw (kn:=[]) aa 3 rfl trivial ?_
 refine bw [4,2,0] rfl rfl rfl rfl (by kernel_rfl) ?_
 refine ad aa 1 rfl ?_
 refine cc ?_
 have hX:iM l e r=(l++([r]),e):=by
   unfold iM;first|(rw [if_pos (by omega),hr0];done)|(rw [if_neg (by omega)];done)
 rw [hX] at hr;clear hX
 simp only [Prod.mk.injEq] at hr;obtain ⟨rfl,rfl⟩:=hr
 refine cL aa [0,4] 2 rfl rfl rfl rfl rfl rfl ?_ ?_
 all_goals first|rfl|(simp [aA,aY,bg];done)|(simp [aA,aY,bg];omega)

theorem sc (x:Nat->Value) (hx:∀ i,(x i).oneCell'=true) (s:ca) (e:Int) (t:bu) (hI:∀ t∈s.kept,eY t.number) (s2:ca) (e2:Int) (hr:eH s e t=(s2,e2)):cJ Try.prog 82 [(.c (.p 0 0 0 0)),(.c (cI 0)),(.g [(cI t.number),(cI t.kind),(cI t.ba),(cI t.sum)])] [(0,(.box 147 ((((bg x).set 5 (cI s.bz)).set 6 (cm s.kept)).set 19 (cI e))))] [0] (.t []) [(0,(.box 147 ((((bg x).set 5 (cI s2.bz)).set 6 (cm s2.kept)).set 19 (cI e2))))]:=by
 refine cJ.mk 31 [(0,(aC (.p 0 0 0 0))),(1,(aI 0)),(2,(aG [(cI t.number),(cI t.kind),(cI t.ba),(cI t.sum)]))] 1 Try.func82 rfl rfl rfl rfl rfl rfl rfl rfl rfl ?_
 intro W0 F0 T0 pg
 refine ae aa 1 rfl ?_
 refine ag ?_
 obtain ⟨xr0,e0,hr0⟩:∃ (xr0:ca) (e0:Int),gq s t=(xr0,e0):=⟨_,_,rfl⟩
 refine dh [0,1,5] [1,0] mixed rfl rfl ?_
 refine bS (kn:=[]) aa 5 rfl trivial ?_
 refine bY (n':=2) [13,10] [0] rfl rfl (.inl ⟨(ah.plain rfl),aF.cast (cF (i:=0) rfl rfl rfl Try.underlying35 jv rfl (by decide)) rfl⟩) rfl ?_
 refine bS (kn:=[]) aa 2 rfl trivial ?_
 refine bY (n':=2) [15,16] [] rfl rfl (.inl ⟨(ah.plain rfl),aF.cast (bX 2 (Fn.frozen (av':=(.t [(.g [(cI xr0.bz),(cm xr0.kept)]),(.c (cI e0))])) (rn s t (by first|assumption|exact ke (by assumption) (by omega)|exact ji (by assumption) (by assumption)|(simp [eY];done)) xr0 e0 hr0) ⟨⟨.inl ⟨_,rfl,rfl⟩,.inr ⟨_,_,_,_,_,rfl,rfl,rfl,by simp⟩,trivial⟩,.inl ⟨_,rfl,rfl⟩,trivial⟩) Ct rfl rfl ⟨⟨_,rfl,.g ⟨.d _,.d _,trivial⟩⟩,⟨_,rfl,.g ⟨.d _,.d _,.d _,.d _,trivial⟩⟩,trivial⟩ ⟨⟨trivial,trivial,trivial⟩,trivial,trivial⟩ trivial rfl rfl rfl rfl) rfl⟩) rfl ?_
 refine bS (n':=3) (kn:=[]) aa 6 rfl trivial ?_
 refine dO [0,1,6,7] [2,0] rfl rfl (by kernel_rfl) ?_
 refine then_ok ?_
 refine aH aa 2 rfl ?_
 obtain ⟨e21,hr1⟩:∃ (e21:Int),dz e e0=e21:=⟨_,rfl⟩
 refine aR 3 [0,2] (cr id id (ms:=(dw.set 19 (some (cI e)))) (ms':=(dw.set 19 (some (cI e21)))) (fun x hx=>jL x hx e e0 e21 hr1) nA rfl rfl ⟨⟨_,rfl,.inl ⟨rfl,rfl⟩⟩,⟨_,rfl,.inr (.c (.d _))⟩,trivial⟩ rfl rfl rfl rfl rfl rfl rfl trivial rfl rfl rfl rfl rfl rfl rfl rfl rfl rfl rfl rfl rfl) rfl ?_
 refine ad aa 1 rfl ?_
 refine af ?_
 refine aj rfl (fun hc1=>?_) (fun hc1=>?_)
 ·
  have hc1':=hc1;try simp only [bq,bM] at hc1'
  refine aW [0,1,6] [0,2] mixed rfl rfl ?_
  refine aw (kn:=[]) aa 6 rfl trivial ?_
  refine aM (n':=3) [29,25] [0] rfl rfl (.inl ⟨(ah.plain rfl),aF.cast (cF (i:=0) rfl rfl rfl Try.underlying35 jv rfl (by decide)) rfl⟩) rfl ?_
  refine bw [0,2] rfl rfl rfl rfl (by kernel_rfl) ?_
  refine ad aa 1 rfl ?_
  refine cc ?_
  have hX:eH s e t=(xr0,e21):=by
    unfold eH;simp only [hr0,hr1];(repeat' split)<;>first|rfl|omega|(exfalso;omega)|(simp_all;done)|(simp_all;omega)
  rw [hX] at hr;clear hX
  simp only [Prod.mk.injEq] at hr;obtain ⟨rfl,rfl⟩:=hr
  refine cL aa [0] 1 rfl rfl rfl rfl rfl rfl ?_ ?_
  all_goals first|rfl|(simp [aA,aY,bg];done)|(simp [aA,aY,bg];omega)
 have hc1':=hc1;try simp only [bq,bM] at hc1'
 refine cD ?_
 have hX:eH s e t=(s,e21):=by
   unfold eH;simp only [hr0,hr1];(repeat' split)<;>first|rfl|omega|(exfalso;omega)|(simp_all;done)|(simp_all;omega)
 rw [hX] at hr;clear hX
 simp only [Prod.mk.injEq] at hr;obtain ⟨rfl,rfl⟩:=hr
 refine cL aa [0] 1 rfl rfl rfl rfl rfl rfl ?_ ?_
 all_goals first|rfl|(simp [aA,aY,bg];done)|(simp [aA,aY,bg];omega)
theorem Da (x:Nat->Value) (hx:∀ i,(x i).oneCell'=true) (s:ca) (e:Int) (t:bu) (hI:∀ t∈s.kept,eY t.number) (s2:ca) (e2:Int) (hr:eH s e t=(s2,e2)):cJ Try.prog 82 [(.c (.p 0 0 0 0)),(.c (cI 1)),(.g [(cI t.number),(cI t.kind),(cI t.ba),(cI t.sum)])] [(0,(.box 147 ((((bg x).set 7 (cI s.bz)).set 8 (cm s.kept)).set 19 (cI e))))] [0] (.t []) [(0,(.box 147 ((((bg x).set 7 (cI s2.bz)).set 8 (cm s2.kept)).set 19 (cI e2))))]:=by
 refine cJ.mk 31 [(0,(aC (.p 0 0 0 0))),(1,(aI 1)),(2,(aG [(cI t.number),(cI t.kind),(cI t.ba),(cI t.sum)]))] 1 Try.func82 rfl rfl rfl rfl rfl rfl rfl rfl rfl ?_
 intro W0 F0 T0 pg
 refine ae aa 1 rfl ?_
 refine ag ?_
 obtain ⟨xr0,e0,hr0⟩:∃ (xr0:ca) (e0:Int),gq s t=(xr0,e0):=⟨_,_,rfl⟩
 refine dh [0,1,5] [1,0] mixed rfl rfl ?_
 refine bS (kn:=[]) aa 5 rfl trivial ?_
 refine bY (n':=2) [13,10] [0] rfl rfl (.inl ⟨(ah.plain rfl),aF.cast (cF (i:=1) rfl rfl rfl Try.underlying35 jv rfl (by decide)) rfl⟩) rfl ?_
 refine bS (kn:=[]) aa 2 rfl trivial ?_
 refine bY (n':=2) [15,16] [] rfl rfl (.inl ⟨(ah.plain rfl),aF.cast (bX 2 (Fn.frozen (av':=(.t [(.g [(cI xr0.bz),(cm xr0.kept)]),(.c (cI e0))])) (rn s t (by first|assumption|exact ke (by assumption) (by omega)|exact ji (by assumption) (by assumption)|(simp [eY];done)) xr0 e0 hr0) ⟨⟨.inl ⟨_,rfl,rfl⟩,.inr ⟨_,_,_,_,_,rfl,rfl,rfl,by simp⟩,trivial⟩,.inl ⟨_,rfl,rfl⟩,trivial⟩) Ct rfl rfl ⟨⟨_,rfl,.g ⟨.d _,.d _,trivial⟩⟩,⟨_,rfl,.g ⟨.d _,.d _,.d _,.d _,trivial⟩⟩,trivial⟩ ⟨⟨trivial,trivial,trivial⟩,trivial,trivial⟩ trivial rfl rfl rfl rfl) rfl⟩) rfl ?_
 refine bS (n':=3) (kn:=[]) aa 6 rfl trivial ?_
 refine dO [0,1,6,7] [2,0] rfl rfl (by kernel_rfl) ?_
 refine then_ok ?_
 refine aH aa 2 rfl ?_
 obtain ⟨e21,hr1⟩:∃ (e21:Int),dz e e0=e21:=⟨_,rfl⟩
 refine aR 3 [0,2] (cr id id (ms:=(dw.set 19 (some (cI e)))) (ms':=(dw.set 19 (some (cI e21)))) (fun x hx=>jL x hx e e0 e21 hr1) nA rfl rfl ⟨⟨_,rfl,.inl ⟨rfl,rfl⟩⟩,⟨_,rfl,.inr (.c (.d _))⟩,trivial⟩ rfl rfl rfl rfl rfl rfl rfl trivial rfl rfl rfl rfl rfl rfl rfl rfl rfl rfl rfl rfl rfl) rfl ?_
 refine ad aa 1 rfl ?_
 refine af ?_
 refine aj rfl (fun hc1=>?_) (fun hc1=>?_)
 ·
  have hc1':=hc1;try simp only [bq,bM] at hc1'
  refine aW [0,1,6] [0,2] mixed rfl rfl ?_
  refine aw (kn:=[]) aa 6 rfl trivial ?_
  refine aM (n':=3) [29,25] [0] rfl rfl (.inl ⟨(ah.plain rfl),aF.cast (cF (i:=1) rfl rfl rfl Try.underlying35 jv rfl (by decide)) rfl⟩) rfl ?_
  refine bw [0,2] rfl rfl rfl rfl (by kernel_rfl) ?_
  refine ad aa 1 rfl ?_
  refine cc ?_
  have hX:eH s e t=(xr0,e21):=by
    unfold eH;simp only [hr0,hr1];(repeat' split)<;>first|rfl|omega|(exfalso;omega)|(simp_all;done)|(simp_all;omega)
  rw [hX] at hr;clear hX
  simp only [Prod.mk.injEq] at hr;obtain ⟨rfl,rfl⟩:=hr
  refine cL aa [0] 1 rfl rfl rfl rfl rfl rfl ?_ ?_
  all_goals first|rfl|(simp [aA,aY,bg];done)|(simp [aA,aY,bg];omega)
 have hc1':=hc1;try simp only [bq,bM] at hc1'
 refine cD ?_
 have hX:eH s e t=(s,e21):=by
   unfold eH;simp only [hr0,hr1];(repeat' split)<;>first|rfl|omega|(exfalso;omega)|(simp_all;done)|(simp_all;omega)
 rw [hX] at hr;clear hX
 simp only [Prod.mk.injEq] at hr;obtain ⟨rfl,rfl⟩:=hr
 refine cL aa [0] 1 rfl rfl rfl rfl rfl rfl ?_ ?_
 all_goals first|rfl|(simp [aA,aY,bg];done)|(simp [aA,aY,bg];omega)
theorem zY (x:Nat->Value) (hx:∀ i,(x i).oneCell'=true) (ax:List bH) (due:List Int) (aq:List bI) (book:List Entry) (e:Int) (t:bu) (ht:0<=t.ba/\t.ba < ax.length) (hA:∀ a∈ax,0<=a.aO/\a.aO < aq.length/\0<=a.aD/\a.aD < due.length) (hc:aq.length<=8) (hd:due.length<=8) (due2:List Int) (cards2:List bI) (book2:List Entry) (e2:Int) (hr:eG ax due aq book e t=(due2,cards2,book2,e2)):cJ Try.prog 89 [(.c (.p 0 0 0 0)),(.g [(cI t.number),(cI t.kind),(cI t.ba),(cI t.sum)])] [(0,(.box 147 ((((((bg x).set 2 (.s 1 0 6 aq.length)).set 3 (.s 2 0 1 due.length)).set 4 (.s 3 0 8 ax.length)).set 18 (da book)).set 19 (cI e)))),(1,(dN aq)),(2,(dD due)),(3,(dS ax))] [0] (.t []) [(0,(.box 147 ((((((bg x).set 2 (.s 1 0 6 cards2.length)).set 3 (.s 2 0 1 due2.length)).set 4 (.s 3 0 8 ax.length)).set 18 (da book2)).set 19 (cI e2)))),(1,(dN cards2)),(2,(dD due2)),(3,(dS ax))]:=by
 refine cJ.mk 77 [(0,(aC (.p 0 0 0 0))),(1,(aG [(cI t.number),(cI t.kind),(cI t.ba),(cI t.sum)]))] 4 Try.func89 rfl rfl rfl rfl rfl rfl rfl rfl rfl ?_
 intro W0 F0 T0 pg
 refine ae aa 1 rfl ?_
 refine ag ?_
 obtain ⟨x1,hx1⟩:=cb (xs:=ax) (i:=Int.toNat (t.ba)) (by first|omega|(simp;done)|(simp;omega))
 have hx1A:=hA x1 (List.mem_of_getElem? hx1)
 refine aW [0,3] [4,0,1,2,3] mixed rfl rfl ?_
 refine aw (kn:=[]) aa 7 rfl trivial ?_
 refine aM (n':=5) [11,13] [3] rfl rfl (.inl ⟨(ah.plain rfl),aF.cast (bx (i:=Int.toNat (t.ba)) rfl rfl rfl Try.underlying31 kM (by first|omega|(simp;done)|(simp;omega)) (by first|omega|(simp;done)|(simp;omega))) rfl⟩) rfl ?_
 refine aM (n':=5) [14] [3] rfl rfl (.inl ⟨(ah.plain rfl),aF.cast (dg rfl rfl rfl Try.underlying67 rfl kM (bf hx1) rfl) rfl⟩) rfl ?_
 refine aw (n':=6) (kn:=[]) aa 1 rfl trivial ?_
 refine bw [5,4,0,1,2,3] rfl rfl rfl rfl (by kernel_rfl) ?_
 refine ad aa 1 rfl ?_
 refine af ?_
 refine ag ?_
 refine aW [0,3,4] [5,4,0,1,2,3] mixed rfl rfl ?_
 refine aw (kn:=[]) aa 2 rfl trivial ?_
 refine aM (n':=6) [17] [] rfl rfl (.inl ⟨(ah.plain rfl),aF.cast (aJ rfl rfl rfl (aL (by first|omega|(simp;done)|(simp;omega)))) rfl⟩) rfl ?_
 refine aw (kn:=[]) aa 2 rfl trivial ?_
 refine aM (n':=6) [20] [] rfl rfl (.inl ⟨(ah.plain rfl),aF.cast (aJ rfl rfl rfl (aL (by first|omega|(simp;done)|(simp;omega)))) rfl⟩) rfl ?_
 refine aw (kn:=[]) aa 2 rfl trivial ?_
 refine bw [5,4,0,1,2,3] rfl rfl rfl rfl (by kernel_rfl) ?_
 refine af ?_
 refine ae aa 2 rfl ?_
 refine aU ?_
 refine ae aa 2 rfl ?_
 refine aj rfl (fun hc1=>?_) (fun hc1=>?_)
 ·
  have hc1':=of_decide_eq_true hc1
  refine ag ?_
  obtain ⟨x2,hx2⟩:=cb (xs:=due) (i:=Int.toNat (x1.aD)) (by first|omega|(simp;done)|(simp;omega))
  refine aW [0,3,4,5] [5,4,0,1,2,3] mixed rfl rfl ?_
  refine aw (kn:=[]) aa 7 rfl trivial ?_
  refine aM (n':=6) [30,32] [2] rfl rfl (.inl ⟨(ah.plain rfl),aF.cast (bx (i:=Int.toNat (x1.aD)) rfl rfl rfl Try.underlying30 fE (by first|omega|(simp;done)|(simp;omega)) (by first|omega|(simp;done)|(simp;omega))) rfl⟩) rfl ?_
  refine aM (n':=6) [33] [2] rfl rfl (.inl ⟨(ah.plain rfl),aF.cast (eI rfl rfl rfl Try.underlying3 rfl (bf hx2) rfl) rfl⟩) rfl ?_
  refine aw (kn:=[]) aa 3 rfl trivial ?_
  refine aM (n':=6) [30,32] [2] rfl rfl (.inl ⟨(ah.plain rfl),aF.cast (bx (i:=Int.toNat (x1.aD)) rfl rfl rfl Try.underlying30 fE (by first|omega|(simp;done)|(simp;omega)) (by first|omega|(simp;done)|(simp;omega))) rfl⟩) rfl ?_
  refine bw [5,4,0,1,2,3] rfl rfl rfl rfl (by kernel_rfl) ?_
  refine gh [5,4,0,1,2,3] (dL (ds:=[(dI (IntKind.i64.wrap (x2+t.sum)))]) rfl rfl rfl rfl rfl fE rfl (Nat.le_of_ble_eq_true rfl) (bf hx2) rfl (eL (x':=(IntKind.i64.wrap (x2+t.sum))) rfl)) rfl ?_
  refine af ?_
  refine fA (k:=0) (q:=3) (c':=(.s 2 0 1 (((due).set (Int.toNat (x1.aD)) (IntKind.i64.wrap (x2+t.sum))).length))) rfl rfl (by first|rfl|(simp;done)|(congr 1;omega)) rfl ?_
  refine au ?_
  refine ad aa 4 rfl ?_
  obtain ⟨l20,e20,hr0⟩:∃ (l20:List Entry) (e20:Int),dX book e 1 (50+x1.aD) t.sum=(l20,e20):=⟨_,_,rfl⟩
  refine aR 6 [0,5,4,1,2,3] (cr id id (ms:=((dw.set 18 (some (da book))).set 19 (some (cI e)))) (ms':=((dw.set 18 (some (da l20))).set 19 (some (cI e20)))) (fun x hx=>jc x hx book e 1 (50+x1.aD) t.sum l20 e20 hr0) mw rfl rfl ⟨⟨_,rfl,.inl ⟨rfl,rfl⟩⟩,⟨_,rfl,.inr (.c (.d _))⟩,⟨_,rfl,.inr (.c (.d _))⟩,⟨_,rfl,.inr (.c (.d _))⟩,trivial⟩ rfl rfl rfl rfl rfl rfl rfl trivial rfl rfl rfl rfl rfl rfl rfl rfl rfl rfl rfl rfl rfl) rfl ?_
  refine cc ?_
  refine bl ?_
  have hX:eG ax due aq book e t=((due).set (Int.toNat (x1.aD)) (IntKind.i64.wrap (x2+t.sum)),aq,l20,e20):=by
    unfold eG;rw [hx1];dsimp only;simp only [List.getD_eq_getElem?_getD,hx2,Option.getD_some,hr0];(repeat' split)<;>first|rfl|omega|(exfalso;omega)|(simp_all;done)|(simp_all;omega)
  rw [hX] at hr;clear hX
  simp only [Prod.mk.injEq] at hr;obtain ⟨rfl,rfl,rfl,rfl⟩:=hr
  refine cL aa [0,1,2,3] 4 rfl rfl rfl rfl rfl rfl ?_ ?_
  all_goals first|rfl|(simp [aA,aY,bg];done)|(simp [aA,aY,bg];omega)
 have hc1':=of_decide_eq_false hc1
 refine ae aa 2 rfl ?_
 refine aj rfl (fun hc2=>?_) (fun hc2=>?_)
 ·
  have hc2':=of_decide_eq_true hc2
  refine aH aa 5 rfl ?_
  obtain ⟨l21,e21,hr1⟩:∃ (l21:List bI) (e21:Int),cH aq e x1.aO 0 t.sum=(l21,e21):=⟨_,_,rfl⟩
  refine aR 7 [0,6,5,4,2,3] (cr id (bb [0,6]) (ms:=((dw.set 2 (some (.s 1 0 6 aq.length))).set 19 (some (cI e)))) (ms':=((dw.set 2 (some (.s 1 0 6 l21.length))).set 19 (some (cI e21)))) (fun x hx=>iO x hx aq e x1.aO 0 t.sum (by first|omega|(simp;done)|(simp;omega)) l21 e21 hr1) nB rfl rfl ⟨⟨_,rfl,.inl ⟨rfl,rfl⟩⟩,⟨_,rfl,.inr (.c (.d _))⟩,⟨_,rfl,.inr (.c (.d _))⟩,⟨_,rfl,.inr (.c (.d _))⟩,trivial⟩ rfl rfl rfl rfl rfl rfl rfl ⟨rfl,trivial⟩ rfl rfl rfl rfl rfl rfl rfl rfl rfl rfl rfl rfl rfl) rfl ?_
  refine af ?_
  refine au ?_
  refine ad aa 4 rfl ?_
  obtain ⟨l22,e22,hr2⟩:∃ (l22:List Entry) (e22:Int),dX book e21 1 (10+x1.aO) t.sum=(l22,e22):=⟨_,_,rfl⟩
  refine aR 7 [0,6,5,4,2,3] (cr id id (ms:=((dw.set 18 (some (da book))).set 19 (some (cI e21)))) (ms':=((dw.set 18 (some (da l22))).set 19 (some (cI e22)))) (fun x hx=>jc x hx book e21 1 (10+x1.aO) t.sum l22 e22 hr2) mw rfl rfl ⟨⟨_,rfl,.inl ⟨rfl,rfl⟩⟩,⟨_,rfl,.inr (.c (.d _))⟩,⟨_,rfl,.inr (.c (.d _))⟩,⟨_,rfl,.inr (.c (.d _))⟩,trivial⟩ rfl rfl rfl rfl rfl rfl rfl trivial rfl rfl rfl rfl rfl rfl rfl rfl rfl rfl rfl rfl rfl) rfl ?_
  refine cc ?_
  refine bl ?_
  have hX:eG ax due aq book e t=(due,l21,l22,e22):=by
    unfold eG;rw [hx1];dsimp only;simp only [List.getD_eq_getElem?_getD,Option.getD_some,hr1,hr2];(repeat' split)<;>first|rfl|omega|(exfalso;omega)|(simp_all;done)|(simp_all;omega)
  rw [hX] at hr;clear hX
  simp only [Prod.mk.injEq] at hr;obtain ⟨rfl,rfl,rfl,rfl⟩:=hr
  refine cL aa [0,6,2,3] 4 rfl rfl rfl rfl rfl rfl ?_ ?_
  all_goals first|rfl|(simp [aA,aY,bg];done)|(simp [aA,aY,bg];omega)
 have hc2':=of_decide_eq_false hc2
 refine ae aa 2 rfl ?_
 refine aj rfl (fun hc3=>?_) (fun hc3=>?_)
 ·
  have hc3':=of_decide_eq_true hc3
  refine ag ?_
  obtain ⟨x2,hx2⟩:=cb (xs:=due) (i:=Int.toNat (x1.aD)) (by first|omega|(simp;done)|(simp;omega))
  refine aW [0,3,4,5] [5,4,0,1,2,3] mixed rfl rfl ?_
  refine aw (kn:=[]) aa 7 rfl trivial ?_
  refine aM (n':=6) [63,65] [2] rfl rfl (.inl ⟨(ah.plain rfl),aF.cast (bx (i:=Int.toNat (x1.aD)) rfl rfl rfl Try.underlying30 fE (by first|omega|(simp;done)|(simp;omega)) (by first|omega|(simp;done)|(simp;omega))) rfl⟩) rfl ?_
  refine aM (n':=6) [66] [2] rfl rfl (.inl ⟨(ah.plain rfl),aF.cast (eI rfl rfl rfl Try.underlying3 rfl (bf hx2) rfl) rfl⟩) rfl ?_
  refine aw (kn:=[]) aa 3 rfl trivial ?_
  refine aM (n':=6) [63,65] [2] rfl rfl (.inl ⟨(ah.plain rfl),aF.cast (bx (i:=Int.toNat (x1.aD)) rfl rfl rfl Try.underlying30 fE (by first|omega|(simp;done)|(simp;omega)) (by first|omega|(simp;done)|(simp;omega))) rfl⟩) rfl ?_
  refine bw [5,4,0,1,2,3] rfl rfl rfl rfl (by kernel_rfl) ?_
  refine gh [5,4,0,1,2,3] (dL (ds:=[(dI (IntKind.i64.wrap (x2 - t.sum)))]) rfl rfl rfl rfl rfl fE rfl (Nat.le_of_ble_eq_true rfl) (bf hx2) rfl (eL (x':=(IntKind.i64.wrap (x2 - t.sum))) rfl)) rfl ?_
  refine af ?_
  refine fA (k:=0) (q:=3) (c':=(.s 2 0 1 (((due).set (Int.toNat (x1.aD)) (IntKind.i64.wrap (x2 - t.sum))).length))) rfl rfl (by first|rfl|(simp;done)|(congr 1;omega)) rfl ?_
  refine au ?_
  refine ad aa 4 rfl ?_
  obtain ⟨l23,e23,hr3⟩:∃ (l23:List Entry) (e23:Int),dX book e (50+x1.aD) 2 t.sum=(l23,e23):=⟨_,_,rfl⟩
  refine aR 6 [0,5,4,1,2,3] (cr id id (ms:=((dw.set 18 (some (da book))).set 19 (some (cI e)))) (ms':=((dw.set 18 (some (da l23))).set 19 (some (cI e23)))) (fun x hx=>jc x hx book e (50+x1.aD) 2 t.sum l23 e23 hr3) mw rfl rfl ⟨⟨_,rfl,.inl ⟨rfl,rfl⟩⟩,⟨_,rfl,.inr (.c (.d _))⟩,⟨_,rfl,.inr (.c (.d _))⟩,⟨_,rfl,.inr (.c (.d _))⟩,trivial⟩ rfl rfl rfl rfl rfl rfl rfl trivial rfl rfl rfl rfl rfl rfl rfl rfl rfl rfl rfl rfl rfl) rfl ?_
  refine cc ?_
  refine bl ?_
  have hX:eG ax due aq book e t=((due).set (Int.toNat (x1.aD)) (IntKind.i64.wrap (x2 - t.sum)),aq,l23,e23):=by
    unfold eG;rw [hx1];dsimp only;simp only [List.getD_eq_getElem?_getD,hx2,Option.getD_some,hr3];(repeat' split)<;>first|rfl|omega|(exfalso;omega)|(simp_all;done)|(simp_all;omega)
  rw [hX] at hr;clear hX
  simp only [Prod.mk.injEq] at hr;obtain ⟨rfl,rfl,rfl,rfl⟩:=hr
  refine cL aa [0,1,2,3] 4 rfl rfl rfl rfl rfl rfl ?_ ?_
  all_goals first|rfl|(simp [aA,aY,bg];done)|(simp [aA,aY,bg];omega)
 have hc3':=of_decide_eq_false hc3
 refine cD ?_
 refine bl ?_
 have hX:eG ax due aq book e t=(due,aq,book,e):=by
   unfold eG;rw [hx1];dsimp only;simp only [List.getD_eq_getElem?_getD,Option.getD_some,hx1];(repeat' split)<;>first|rfl|omega|(exfalso;omega)|(simp_all;done)|(simp_all;omega)
 rw [hX] at hr;clear hX
 simp only [Prod.mk.injEq] at hr;obtain ⟨rfl,rfl,rfl,rfl⟩:=hr
 refine cL aa [0,1,2,3] 4 rfl rfl rfl rfl rfl rfl ?_ ?_
 all_goals first|rfl|(simp [aA,aY,bg];done)|(simp [aA,aY,bg];omega)

theorem vJ (l:List bH) (hl:l.length * 64<=140737488355328):Fn Try.prog 96 [(.c (gy l))] (aC (.s 0 0 8 l.length)) [(0,.arr 67 8 (l.map iJ))]:=by
 refine Fn.mk' 8 [(0,(aC (gy l)))] Try.func96 rfl rfl rfl rfl ?_
 intro W0 T0
 refine dk 0 rfl (fun hlen0=>?_)
 refine ae aa 1 rfl ?_
 refine ag ?_
 refine aH aa 1 rfl ?_
 refine ik (ah.plain rfl) rfl rfl Try.underlying31 rfl rfl (fun bn1 hbn1=>?_)
 refine af ?_
 refine aj rfl (fun hc2=>?_) (fun hc2=>?_)
 ·
  have hc2':=hc2;try simp only [bq,bM] at hc2'
  refine ae aa 1 rfl ?_
  refine az ?_
  refine ar ?_
  refine dc (aE.nil 2 67 8 (by decide) rfl) ?_
  refine an aa [0] 1 rfl rfl rfl rfl rfl rfl ?_ ?_
  ·(have h0:=hbn1 (by assumption);have h1:l=[]:=by (cases l with|nil=>rfl|cons=>simp at h0));subst h1;rfl
  ·(have h0:=hbn1 (by assumption);have h1:l=[]:=by (cases l with|nil=>rfl|cons=>simp at h0));subst h1;rfl
 have hc2':=hc2;try simp only [bq,bM] at hc2'
 refine aP ?_
 refine eV ?_
 refine aR 1 [0] (dJ (ys:=[]) (rows:=(([]:List bH)).map iJ) 0 rJ rfl (by decide) trivial rfl rfl rfl rfl) rfl ?_
 refine ad aa 1 rfl ?_
 refine aR 2 [1] (dp (m:=l.length) (N:=l.length) (k2:=1) (ys:=(l).map iJ) rJ rfl rfl rfl rfl rfl rfl (by first|omega|(simp;omega)|(simp;done)) rfl (.d _ _) (by first|omega|(simp;omega)|(simp;done)) (by first|omega|(simp;omega)|(simp;done)) rfl (by decide) (by first|omega|(simp;omega)|(simp;done)) (by first|omega|(simp;omega)|(simp;done))) rfl ?_
 refine ad aa 1 rfl ?_
 refine af ?_
 refine az ?_
 refine an aa [1] 1 rfl rfl rfl rfl rfl rfl ?_ ?_
 ·first|rfl|simp [fM,aC]
 ·first|rfl|simp
theorem mM (l:List cq) (hl:l.length * 40<=140737488355328):Fn Try.prog 85 [(.c (cT l))] (aC (.s 0 0 5 l.length)) [(0,.arr 113 5 (l.map fl))]:=by
 refine Fn.mk' 8 [(0,(aC (cT l)))] Try.func85 rfl rfl rfl rfl ?_
 intro W0 T0
 refine dk 0 rfl (fun hlen0=>?_)
 refine ae aa 1 rfl ?_
 refine ag ?_
 refine aH aa 1 rfl ?_
 refine ik (ah.plain rfl) rfl rfl Try.underlying37 rfl rfl (fun bn1 hbn1=>?_)
 refine af ?_
 refine aj rfl (fun hc2=>?_) (fun hc2=>?_)
 ·
  have hc2':=hc2;try simp only [bq,bM] at hc2'
  refine ae aa 1 rfl ?_
  refine az ?_
  refine ar ?_
  refine dc (aE.nil 2 113 5 (by decide) rfl) ?_
  refine an aa [0] 1 rfl rfl rfl rfl rfl rfl ?_ ?_
  ·(have h0:=hbn1 (by assumption);have h1:l=[]:=by (cases l with|nil=>rfl|cons=>simp at h0));subst h1;rfl
  ·(have h0:=hbn1 (by assumption);have h1:l=[]:=by (cases l with|nil=>rfl|cons=>simp at h0));subst h1;rfl
 have hc2':=hc2;try simp only [bq,bM] at hc2'
 refine aP ?_
 refine eV ?_
 refine aR 1 [0] (dJ (ys:=[]) (rows:=(([]:List cq)).map fl) 0 mn rfl (by decide) trivial rfl rfl rfl rfl) rfl ?_
 refine ad aa 1 rfl ?_
 refine aR 2 [1] (dp (m:=l.length) (N:=l.length) (k2:=1) (ys:=(l).map fl) mn rfl rfl rfl rfl rfl rfl (by first|omega|(simp;omega)|(simp;done)) rfl (.d _ _) (by first|omega|(simp;omega)|(simp;done)) (by first|omega|(simp;omega)|(simp;done)) rfl (by decide) (by first|omega|(simp;omega)|(simp;done)) (by first|omega|(simp;omega)|(simp;done))) rfl ?_
 refine ad aa 1 rfl ?_
 refine af ?_
 refine az ?_
 refine an aa [1] 1 rfl rfl rfl rfl rfl rfl ?_ ?_
 ·first|rfl|simp [fM,aC]
 ·first|rfl|simp
theorem vI (l:List (List D)) (hl:l.length * 64<=140737488355328):Fn Try.prog 94 [(.c (cR 6 ((l).map id)))] (aC (.s 0 0 6 l.length)) [(0,.arr 61 6 (l.map id))]:=by
 refine Fn.mk' 8 [(0,(aC (cR 6 ((l).map id))))] Try.func94 rfl rfl rfl rfl ?_
 intro W0 T0
 refine dk 0 rfl (fun hlen0=>?_)
 refine ae aa 1 rfl ?_
 refine ag ?_
 refine aH aa 1 rfl ?_
 refine ik (ah.plain rfl) rfl rfl Try.underlying29 rfl rfl (fun bn1 hbn1=>?_)
 refine af ?_
 refine aj rfl (fun hc2=>?_) (fun hc2=>?_)
 ·
  have hc2':=hc2;try simp only [bq,bM] at hc2'
  refine ae aa 1 rfl ?_
  refine az ?_
  refine ar ?_
  refine dc (aE.nil 2 61 6 (by decide) rfl) ?_
  refine an aa [0] 1 rfl rfl rfl rfl rfl rfl ?_ ?_
  ·(have h0:=hbn1 (by assumption);have h1:l=[]:=by (cases l with|nil=>rfl|cons=>simp at h0));subst h1;rfl
  ·(have h0:=hbn1 (by assumption);have h1:l=[]:=by (cases l with|nil=>rfl|cons=>simp at h0));subst h1;rfl
 have hc2':=hc2;try simp only [bq,bM] at hc2'
 refine aP ?_
 refine eV ?_
 refine aR 1 [0] (dJ (ys:=[]) (rows:=(([]:List (List D))).map id) 0 xJ rfl (by decide) trivial rfl rfl rfl rfl) rfl ?_
 refine ad aa 1 rfl ?_
 refine aR 2 [1] (dp (m:=l.length) (N:=0+l.length) (k2:=1) (ys:=(l).map id) xJ rfl rfl rfl rfl rfl rfl (by first|omega|(simp;omega)|(simp;done)) rfl (.d _ _) (by first|omega|(simp;omega)|(simp;done)) (by first|omega|(simp;omega)|(simp;done)) ff (by decide) (by first|omega|(simp;omega)|(simp;done)) (by first|omega|(simp;omega)|(simp;done))) rfl ?_
 refine ad aa 1 rfl ?_
 refine af ?_
 refine az ?_
 refine an aa [1] 1 rfl rfl rfl rfl rfl rfl ?_ ?_
 ·first|rfl|simp [fM,aC]
 ·first|rfl|simp

theorem ki (v w:Value) (b:Bk) (l1:b.aq.length<=8) (l2:b.due.length<=8) (l3:b.ax.length<=30) (l4:b.aS.length<=100):cJ Try.prog 74 [(.c (.p 0 0 0 0))] [(0,(.box 98 (aY b 1 2 3 4 (.d (.v v)) (.d (.v w))))),(1,(dN b.aq)),(2,(dD b.due)),(3,(dS b.ax)),(4,(cS b.aS))] [0] (.v (.c (.p 1 0 0 0))) [(0,(.box 98 (aY b 2 3 4 5 (.d (.v v)) (.d (.v w))))),(1,(.box 147 (aY b 6 7 8 9 (.d (.v v)) (cI 0)))),(2,(dN b.aq)),(3,(dD b.due)),(4,(dS b.ax)),(5,(cS b.aS)),(6,(dN b.aq)),(7,(dD b.due)),(8,(dS b.ax)),(9,(cS b.aS))]:=by
 refine cJ.mk 51 [(0,(aC (.p 0 0 0 0)))] 5 Try.func74 rfl rfl rfl rfl rfl rfl rfl rfl rfl ?_
 intro W0 F0 T0 pg
 refine ae aa 1 rfl ?_
 refine ae aa 7 rfl ?_
 refine ag ?_
 refine dh [0,3] [5,0,1,2,3,4] mixed rfl rfl ?_
 refine bS (kn:=[]) aa 9 rfl trivial ?_
 refine bY (n':=7) [18] [1] rfl rfl (.inl ⟨(ah.plain rfl),aF.cast (Br 6 (fun l hl=>vI l (by rw [hl];first|omega|(simp;done)|(simp;omega))) Gu rfl rfl rfl rfl rfl (by simp)) rfl⟩) rfl ?_
 refine bS (kn:=[]) aa 5 rfl trivial ?_
 refine bY (n':=8) [24] [2] rfl rfl (.inl ⟨(ah.plain rfl),aF.cast (fR 7 [2] (pM b.due (by first|omega|(simp;done)|(simp;omega))) Ed rfl rfl ⟨⟨_,rfl,.c (.s rfl (by decide) (by first|omega|(simp;done)|(simp;omega)))⟩,trivial⟩ trivial ⟨(DG _),trivial⟩ rfl rfl rfl rfl) rfl⟩) rfl ?_
 refine bS (kn:=[]) aa 5 rfl trivial ?_
 refine bY (n':=9) [30] [3] rfl rfl (.inl ⟨(ah.plain rfl),aF.cast (fR 8 [3] (vJ b.ax (by first|omega|(simp;done)|(simp;omega))) Gt rfl rfl ⟨⟨_,rfl,.c (.s rfl (by decide) (by first|omega|(simp;done)|(simp;omega)))⟩,trivial⟩ trivial ⟨(zC _),trivial⟩ rfl rfl rfl rfl) rfl⟩) rfl ?_
 refine bS (kn:=[]) aa 5 rfl trivial ?_
 refine bY (n':=10) [36] [4] rfl rfl (.inl ⟨(ah.plain rfl),aF.cast (fR 9 [4] (mL b.aS (by first|omega|(simp;done)|(simp;omega))) Ep rfl rfl ⟨⟨_,rfl,.c (.s rfl (by decide) (by first|omega|(simp;done)|(simp;omega)))⟩,trivial⟩ trivial ⟨(vZ _),trivial⟩ rfl rfl rfl rfl) rfl⟩) rfl ?_
 refine bS (kn:=[]) aa 16 rfl trivial ?_
 refine dO [3] [5,9,8,7,6,0,1,2,3,4] rfl rfl (by kernel_rfl) ?_
 refine then_ok ?_
 refine ae aa 2 rfl ?_
 refine az ?_
 refine an aa [0,5,1,2,3,4,6,7,8,9] 10 rfl rfl rfl rfl rfl rfl ?_ ?_
 all_goals first|rfl|(simp [aA,aY,bg];done)|(simp [aA,aY,bg];omega)
theorem fj (v w:Value) (b c:Bk) (e:Int) (he:e=0):cJ Try.prog 77 [(.c (.p 0 0 0 0)),(.c (.p 1 0 0 0))] [(0,(.box 98 (aY b 2 3 4 5 (.d (.v v)) (.d (.v w))))),(1,(.box 147 (aY c 6 7 8 9 (.d (.v v)) (cI e)))),(2,(dN b.aq)),(3,(dD b.due)),(4,(dS b.ax)),(5,(cS b.aS)),(6,(dN c.aq)),(7,(dD c.due)),(8,(dS c.ax)),(9,(cS c.aS))] [0] (.v (.c (cI e))) [(0,(.box 98 (aY c 1 2 3 4 (.d (.v v)) (.d (.v w))))),(1,(dN c.aq)),(2,(dD c.due)),(3,(dS c.ax)),(4,(cS c.aS))]:=by
 refine cJ.mk 21 [(0,(aC (.p 0 0 0 0))),(1,(aC (.p 1 0 0 0)))] 10 Try.func77 rfl rfl rfl rfl rfl rfl rfl rfl rfl ?_
 intro W0 F0 T0 pg
 refine ae aa 1 rfl ?_
 refine ag ?_
 refine ae aa 5 rfl ?_
 refine aj rfl (fun hc1=>?_) (fun hc1=>?_)
 ·
  have hc1':=of_decide_eq_true hc1
  refine au ?_
  refine ad aa 8 rfl ?_
  refine af ?_
  refine ae aa 5 rfl ?_
  refine az ?_
  refine an aa [0,6,7,8,9] 5 rfl rfl rfl rfl rfl rfl ?_ ?_
  all_goals first|rfl|(simp [aA,aY,bg];done)|(simp [aA,aY,bg];omega)
 have hc1':=of_decide_eq_false hc1
 (exfalso;simp_all)
theorem fX (v w:Value) (b c:Bk) (e:Int) (he:¬e=0):cJ Try.prog 77 [(.c (.p 0 0 0 0)),(.c (.p 1 0 0 0))] [(0,(.box 98 (aY b 2 3 4 5 (.d (.v v)) (.d (.v w))))),(1,(.box 147 (aY c 6 7 8 9 (.d (.v v)) (cI e)))),(2,(dN b.aq)),(3,(dD b.due)),(4,(dS b.ax)),(5,(cS b.aS)),(6,(dN c.aq)),(7,(dD c.due)),(8,(dS c.ax)),(9,(cS c.aS))] [0] (.v (.c (cI e))) [(0,(.box 98 (aY b 1 2 3 4 (.d (.v v)) (.d (.v w))))),(1,(dN b.aq)),(2,(dD b.due)),(3,(dS b.ax)),(4,(cS b.aS))]:=by
 refine cJ.mk 21 [(0,(aC (.p 0 0 0 0))),(1,(aC (.p 1 0 0 0)))] 10 Try.func77 rfl rfl rfl rfl rfl rfl rfl rfl rfl ?_
 intro W0 F0 T0 pg
 refine ae aa 1 rfl ?_
 refine ag ?_
 refine ae aa 5 rfl ?_
 refine aj rfl (fun hc1=>?_) (fun hc1=>?_)
 ·
  have hc1':=of_decide_eq_true hc1
  (exfalso;simp_all)
 have hc1':=of_decide_eq_false hc1
 refine aP ?_
 refine ae aa 5 rfl ?_
 refine az ?_
 refine an aa [0,2,3,4,5] 5 rfl rfl rfl rfl rfl rfl ?_ ?_
 all_goals first|rfl|(simp [aA,aY,bg];done)|(simp [aA,aY,bg];omega)

theorem BN (x:Nat->Value) (hx:∀ i,(x i).oneCell'=true) (s0 s1:ca) (n0 n1:Int) (w0 w1:List cq) (idn kind aD move sum:Int) (l0:w0.length<=60) (l1:w1.length<=60) (m0:s0.kept.length<=40) (m1:s1.kept.length<=40) (v0:List cq) (v1:List cq) (a2:Answer) (hr:eR s0 s1 n0 n1 w0 w1 (⟨idn,kind,0,aD,move,sum⟩:bh)=(v0,v1,a2)):cJ Try.prog 66 [(.c (.p 0 0 0 0)),(.c (.q (cY (⟨idn,kind,0,aD,move,sum⟩:bh)) 0))] [(0,(.box 98 (((((((((bg x).set 5 (cI s0.bz)).set 6 (cm s0.kept)).set 7 (cI s1.bz)).set 8 (cm s1.kept)).set 9 (cI n0)).set 10 (cI n1)).set 11 (cT w0)).set 12 (cT w1))))] [0] (.v (.g [cI a2.err,cI a2.ba])) [(0,(.box 98 (((((((((bg x).set 5 (cI s0.bz)).set 6 (cm s0.kept)).set 7 (cI s1.bz)).set 8 (cm s1.kept)).set 9 (cI n0)).set 10 (cI n1)).set 11 (cT v0)).set 12 (cT v1))))]:=by
 refine cJ.DE 83 [(0,(aC (.p 0 0 0 0))),(1,(aC (.q (cY (⟨idn,kind,0,aD,move,sum⟩:bh)) 0)))] 1 Try.func66 rfl rfl rfl rfl rfl rfl rfl rfl rfl ?_
 intro W0 F0 T0 pg hF
 have hF0:∀ b,F0 b->(pg 0).g=b:=fun b hb=>by obtain ⟨k,hk,h⟩:=hF b hb;rw [List.mem_singleton.1 hk] at h;exact h
 refine ae aa 1 rfl ?_
 refine ag ?_
 refine ch 20 (false) ?_ ?_
 ·
  refine au ?_
  refine ad aa 4 rfl ?_
  refine ay (aJ rfl rfl rfl (show _=some (Value.bool false) from rfl)) rfl ?_
  refine ad aa 7 rfl ?_
  refine af ?_
  exact aE.bB 12 rfl rfl (by first|(simp [];done)|(simp_all;done)|(exfalso;simp_all;done)|(simp_all;omega)) rfl
 refine aj rfl (fun hno=>by cases hno) (fun _=>?_)
 refine aP ?_
 refine ae aa 6 rfl ?_
 refine aH aa 5 rfl ?_
 refine ay (cF (i:=1) rfl rfl rfl Try.underlying38 gC rfl (by decide)) rfl ?_
 refine ad aa 1 rfl ?_
 refine aR 3 [2,1,0] (bX 2 (mM w1 (by first|omega|(simp;done)|(simp;omega))) Ei rfl rfl ⟨⟨_,rfl,.c (.d _)⟩,trivial⟩ trivial ⟨(fun _ _ _ _=>trivial),trivial⟩ rfl rfl rfl rfl) rfl ?_
 refine ad aa 1 rfl ?_
 refine af ?_
 refine ag ?_
 refine ag ?_
 refine aW [0,1,4,5,6] [2,1,0] mixed rfl rfl ?_
 refine aw (kn:=[]) aa 8 rfl trivial ?_
 refine aM (n':=3) [42,39] [0] rfl rfl (.inl ⟨(ah.plain rfl),aF.cast (cF (i:=0) rfl rfl rfl Try.underlying35 jv rfl (by decide)) rfl⟩) rfl ?_
 refine aw (kn:=[]) aa 2 rfl trivial ?_
 refine aM (n':=3) [45] [] rfl rfl (.inl ⟨(ah.plain rfl),aF.cast (bN rfl rfl rfl rfl rfl Try.underlying32) rfl⟩) rfl ?_
 refine aw (kn:=[]) aa 1 rfl trivial ?_
 refine bw [2,1,0] rfl rfl rfl rfl (by kernel_rfl) ?_
 refine af ?_
 refine aU ?_
 refine cg (β:=Nat×List cq) (fun (p:Nat×List cq)=>match p with|(q,m)=>⟨[(0,(aC (.p 0 0 0 0))),(1,(aC (.q (cY (⟨idn,kind,0,aD,move,sum⟩:bh)) 0))),(4,(aC (.p 1 0 0 0))),(5,(aI 1)),(6,(aC (.s 2 0 5 m.length))),(45,(aC (cm s0.kept))),(46,(aI (↑s0.kept.length:Int))),(47,(aI (↑q:Int)))],[(2,(ER m)),(1,(.box 65 [(cI 0),(cI 0)])),(0,(.box 98 (((((((((bg x).set 5 (cI s0.bz)).set 6 (cm s0.kept)).set 7 (cI s1.bz)).set 8 (cm s1.kept)).set 9 (cI n0)).set 10 (cI n1)).set 11 (cT w0)).set 12 (cT w1))))],3⟩) (fun (p:Nat×List cq)=>match p with|(q,m)=>q<=s0.kept.length/\m=w1++(s0.kept.take q).map (fun t=>(⟨t,-1⟩:cq))) (fun (p:Nat×List cq)=>match p with|(q,m)=>s0.kept.length - q) (0,w1) ?_ ?_ ?_
 ·exact ⟨by omega,by simp⟩
 ·exact aE.bR id (by refine ⟨?_,?_,?_,?_,?_,?_,?_,?_,trivial⟩<;>first|rfl|(simp only [bc];done)|(congr 3;omega)|(congr 4;omega)|(simp only [bd];rfl)) (by refine ⟨?_,?_,?_,trivial⟩<;>first|rfl|(simp only [bc];done)|(congr 3;omega)|(congr 4;omega)|(simp only [bd];rfl)) rfl
 rintro ⟨q,m⟩ ⟨hi0_0,hi0_1⟩
 have hml:m.length=w1.length+q:=by rw [hi0_1];simp;omega
 refine ae aa 1 rfl ?_
 refine ag ?_
 refine aj rfl (fun hc2=>?_) (fun hc2=>?_)
 ·
  have hc2':=of_decide_eq_true hc2
  refine aP ?_
  refine ag ?_
  refine aU ?_
  refine eV ?_
  obtain ⟨x1,hx1⟩:=cb (xs:=s0.kept) (i:=q) (by first|omega|(simp;done)|(simp;omega))
  refine ay (bV (i:=q) rfl rfl rfl Try.underlying32 jS (by first|omega|(simp;done)|(simp;omega)) (bf hx1)) rfl ?_
  refine ad aa 3 rfl ?_
  refine af ?_
  refine au ?_
  refine ad aa 3 rfl ?_
  refine aR 5 [4,3,2,1,0] (dJ (ys:=[(0,(.g [(cI x1.number),(cI x1.kind),(cI x1.ba),(cI x1.sum),(cI (-1))]))]) (rows:=([(⟨x1,(-1)⟩:cq)]).map fl) 4 mn rfl (by decide) ⟨⟨rfl,rfl⟩,trivial⟩ rfl rfl rfl rfl) rfl ?_
  refine aR 6 [5,4,3,1,0] (dp (m:=1) (N:=m.length+1) (k2:=5) (ys:=([(⟨x1,(-1)⟩:cq)]).map fl) mn rfl rfl rfl rfl rfl rfl (by first|omega|(simp;done)|(simp;omega)) rfl (.s rfl (by first|omega|(simp;done)|(simp;omega))) (by first|omega|(simp;done)|(simp;omega)) (by first|omega|(simp;done)|(simp;omega)) ff (by decide) (by first|omega|(simp;done)|(simp;omega)) (by first|omega|(simp;done)|(simp;omega))) rfl ?_
  refine ad aa 1 rfl ?_
  refine cc ?_
  refine bl ?_
  refine then_ok ?_
  refine au ?_
  refine ay (aJ rfl rfl rfl (aL (by first|omega|(simp;done)|(simp;omega)))) rfl ?_
  refine ad aa 1 rfl ?_
  refine af ?_
  refine ⟨(q+1,m++([(⟨x1,(-1)⟩:cq)])),⟨by omega,by rw [List.take_add_one,hx1,List.map_append,<-List.append_assoc,<-hi0_1];rfl⟩,by first|omega|(simp;done)|(simp;omega),aE.bR (fun k=>if k=2 then 5 else k) (by refine ⟨?_,?_,?_,?_,?_,?_,?_,?_,trivial⟩<;>first|rfl|(simp only [bc];done)|(congr 3;omega)|(congr 4;omega)|(simp only [bd];rfl)|(first|exact cM rfl (by omega)|exact ja rfl (by simp only [List.length_append,List.length_cons,List.length_nil];omega))) (by refine ⟨?_,?_,?_,trivial⟩<;>first|rfl|(simp only [bc];done)|(congr 3;omega)|(congr 4;omega)|(simp only [bd];rfl)) rfl⟩
 have hc2':=of_decide_eq_false hc2
 refine bZ ?_
 refine aN ?_
 refine aN ?_
 refine bC ?_
 refine then_ok ?_
 refine ag ?_
 refine aW [0,1,4,5,6,45,46,47] [2,1,0] mixed rfl rfl ?_
 refine aw (kn:=[]) aa 9 rfl trivial ?_
 refine aM (n':=3) [65,62] [0] rfl rfl (.inl ⟨(ah.plain rfl),aF.cast (cF (i:=0) rfl rfl rfl Try.underlying36 fE rfl (by decide)) rfl⟩) rfl ?_
 refine aw (kn:=[]) aa 2 rfl trivial ?_
 refine aM (n':=4) [68] [] rfl rfl (.inl ⟨(ah.plain rfl),aF.cast (dJ (ys:=[(0,(.g [(cI 0),(cI 0),(cI 0),(cI 0),(cI n0)]))]) (rows:=([(⟨(⟨0,0,0,0⟩:bu),n0⟩:cq)]).map fl) 3 mn rfl (by decide) ⟨⟨rfl,rfl⟩,trivial⟩ rfl rfl rfl rfl) rfl⟩) rfl ?_
 refine aM (n':=5) [57,69] [3,2] rfl rfl (.inl ⟨(ah.plain rfl),aF.cast (dp (m:=1) (N:=m.length+1) (k2:=4) (ys:=([(⟨(⟨0,0,0,0⟩:bu),n0⟩:cq)]).map fl) mn rfl rfl rfl rfl rfl rfl (by first|omega|(simp;done)|(simp;omega)) rfl (.s rfl (by first|omega|(simp;done)|(simp;omega))) (by first|omega|(simp;done)|(simp;omega)) (by first|omega|(simp;done)|(simp;omega)) ff (by decide) (by first|omega|(simp;done)|(simp;omega)) (by first|omega|(simp;done)|(simp;omega))) rfl⟩) rfl ?_
 refine bw [4,1,0] rfl rfl rfl rfl (by kernel_rfl) ?_
 refine ad aa 1 rfl ?_
 refine af ?_
 refine ag ?_
 refine aH aa 1 rfl ?_
 refine ay (du rfl rfl rfl rfl rfl Try.underlying37) rfl ?_
 refine ad aa 1 rfl ?_
 refine af ?_
 refine aj rfl (fun hc3=>?_) (fun hc3=>?_)
 ·
  have hc3':=of_decide_eq_true hc3
  refine ae aa 2 rfl ?_
  refine az ?_
  refine ar ?_
  have hX:eR s0 s1 n0 n1 w0 w1 (⟨idn,kind,0,aD,move,sum⟩:bh)=(w0,w1,(⟨5,0⟩:Answer)):=by
    (have ht:s0.kept.take q=s0.kept:=List.take_of_length_le (by omega));rw [ht] at hi0_1;unfold eR;dsimp only;rw [if_pos rfl];unfold jy lU;rw [<-hi0_1];first|rw [if_pos (by simp;omega)]|rw [if_neg (by simp;omega)]
  rw [hX] at hr;clear hX
  simp only [Prod.mk.injEq] at hr;obtain ⟨rfl,rfl,rfl⟩:=hr
  refine an aa [0,1] 1 rfl rfl rfl rfl rfl rfl ?_ ?_
  all_goals first|rfl|(simp [aA,aY,bg];done)|(simp [aA,aY,bg];omega)
 have hc3':=of_decide_eq_false hc3
 refine aP ?_
 refine rG (s':=[(0,(aC (.p 0 0 0 0))),(1,(aC (.q (cY (⟨idn,kind,0,aD,move,sum⟩:bh)) 0))),(4,(aC (.p 1 0 0 0))),(5,(aI 1)),(6,(aC (cT (m++([(⟨(⟨0,0,0,0⟩:bu),n0⟩:cq)]))))),(45,(aC (cm s0.kept))),(46,(aI (↑s0.kept.length:Int))),(47,(aI (↑q:Int))),(70,(aC (cT (m++([(⟨(⟨0,0,0,0⟩:bu),n0⟩:cq)]))))),(71,(aC (cT (m++([(⟨(⟨0,0,0,0⟩:bu),n0⟩:cq)]))))),(72,(aI (↑(m.length+1):Int))),(73,(aB (decide ((↑(m.length+1):Int) > 60))))]) (h':=[(1,(.box 65 [(cI 0),(cI 0)])),(0,(.box 98 (((((((((bg x).set 5 (cI s0.bz)).set 6 (cm s0.kept)).set 7 (cI s1.bz)).set 8 (cm s1.kept)).set 9 (cI n0)).set 10 (cI n1)).set 11 (cT w0)).set 12 (cT w1))))]) hF0 4 rfl rfl ⟨⟨_,rfl,.inl ⟨rfl,rfl⟩⟩,⟨_,rfl,.inl ⟨rfl,rfl⟩⟩,⟨_,rfl,.inl ⟨rfl,rfl⟩⟩,⟨_,rfl,.inl ⟨rfl,rfl⟩⟩,⟨_,rfl,.inr ⟨_,_,rfl,rfl,.s rfl (by decide) (by first|omega|(simp;done)|(simp;omega))⟩⟩,⟨_,rfl,.inl ⟨rfl,rfl⟩⟩,⟨_,rfl,.inl ⟨rfl,rfl⟩⟩,⟨_,rfl,.inl ⟨rfl,rfl⟩⟩,⟨_,rfl,.inr ⟨_,_,rfl,rfl,.s rfl (by decide) (by first|omega|(simp;done)|(simp;omega))⟩⟩,⟨_,rfl,.inr ⟨_,_,rfl,rfl,.s rfl (by decide) (by first|omega|(simp;done)|(simp;omega))⟩⟩,⟨_,rfl,.inl ⟨rfl,rfl⟩⟩,⟨_,rfl,.inl ⟨rfl,rfl⟩⟩,trivial⟩ ⟨rfl,rfl,trivial⟩ rfl ?_
 refine aH aa 6 rfl ?_
 refine ay (cF (i:=1) rfl rfl rfl Try.underlying38 gC rfl (by decide)) rfl ?_
 refine ad aa 1 rfl ?_
 refine af ?_
 refine ae aa 2 rfl ?_
 refine az ?_
 have hX:eR s0 s1 n0 n1 w0 w1 (⟨idn,kind,0,aD,move,sum⟩:bh)=(w0,m++([(⟨(⟨0,0,0,0⟩:bu),n0⟩:cq)]),(⟨0,0⟩:Answer)):=by
   (have ht:s0.kept.take q=s0.kept:=List.take_of_length_le (by omega));rw [ht] at hi0_1;unfold eR;dsimp only;rw [if_pos rfl];unfold jy lU;rw [<-hi0_1];first|rw [if_pos (by simp;omega)]|rw [if_neg (by simp;omega)]
 rw [hX] at hr;clear hX
 simp only [Prod.mk.injEq] at hr;obtain ⟨rfl,rfl,rfl⟩:=hr
 refine an aa [0,1] 1 rfl rfl rfl rfl rfl rfl ?_ ?_
 all_goals first|rfl|(simp [aA,aY,bg];done)|(simp [aA,aY,bg];omega)
theorem BM (x:Nat->Value) (hx:∀ i,(x i).oneCell'=true) (s0 s1:ca) (n0 n1:Int) (w0 w1:List cq) (idn kind aD move sum:Int) (l0:w0.length<=60) (l1:w1.length<=60) (m0:s0.kept.length<=40) (m1:s1.kept.length<=40) (v0:List cq) (v1:List cq) (a2:Answer) (hr:eR s0 s1 n0 n1 w0 w1 (⟨idn,kind,1,aD,move,sum⟩:bh)=(v0,v1,a2)):cJ Try.prog 66 [(.c (.p 0 0 0 0)),(.c (.q (cY (⟨idn,kind,1,aD,move,sum⟩:bh)) 0))] [(0,(.box 98 (((((((((bg x).set 5 (cI s0.bz)).set 6 (cm s0.kept)).set 7 (cI s1.bz)).set 8 (cm s1.kept)).set 9 (cI n0)).set 10 (cI n1)).set 11 (cT w0)).set 12 (cT w1))))] [0] (.v (.g [cI a2.err,cI a2.ba])) [(0,(.box 98 (((((((((bg x).set 5 (cI s0.bz)).set 6 (cm s0.kept)).set 7 (cI s1.bz)).set 8 (cm s1.kept)).set 9 (cI n0)).set 10 (cI n1)).set 11 (cT v0)).set 12 (cT v1))))]:=by
 refine cJ.DE 83 [(0,(aC (.p 0 0 0 0))),(1,(aC (.q (cY (⟨idn,kind,1,aD,move,sum⟩:bh)) 0)))] 1 Try.func66 rfl rfl rfl rfl rfl rfl rfl rfl rfl ?_
 intro W0 F0 T0 pg hF
 have hF0:∀ b,F0 b->(pg 0).g=b:=fun b hb=>by obtain ⟨k,hk,h⟩:=hF b hb;rw [List.mem_singleton.1 hk] at h;exact h
 refine ae aa 1 rfl ?_
 refine ag ?_
 refine ch 20 (false) ?_ ?_
 ·
  refine au ?_
  refine ad aa 4 rfl ?_
  refine ay (aJ rfl rfl rfl (show _=some (Value.bool true) from rfl)) rfl ?_
  refine ad aa 5 rfl ?_
  refine cz (ah.yes rfl rfl rfl) (aJ rfl rfl rfl (show _=some (Value.bool false) from rfl)) rfl rfl ?_
  refine ad aa 1 rfl ?_
  refine af ?_
  exact aE.bB 12 rfl rfl (by first|(simp [];done)|(simp_all;done)|(exfalso;simp_all;done)|(simp_all;omega)) rfl
 refine aj rfl (fun hno=>by cases hno) (fun _=>?_)
 refine aP ?_
 refine ae aa 6 rfl ?_
 refine aH aa 5 rfl ?_
 refine ay (cF (i:=0) rfl rfl rfl Try.underlying38 gC rfl (by decide)) rfl ?_
 refine ad aa 1 rfl ?_
 refine aR 3 [2,1,0] (bX 2 (mM w0 (by first|omega|(simp;done)|(simp;omega))) Ei rfl rfl ⟨⟨_,rfl,.c (.d _)⟩,trivial⟩ trivial ⟨(fun _ _ _ _=>trivial),trivial⟩ rfl rfl rfl rfl) rfl ?_
 refine ad aa 1 rfl ?_
 refine af ?_
 refine ag ?_
 refine ag ?_
 refine aW [0,1,4,5,6] [2,1,0] mixed rfl rfl ?_
 refine aw (kn:=[]) aa 8 rfl trivial ?_
 refine aM (n':=3) [42,39] [0] rfl rfl (.inl ⟨(ah.plain rfl),aF.cast (cF (i:=1) rfl rfl rfl Try.underlying35 jv rfl (by decide)) rfl⟩) rfl ?_
 refine aw (kn:=[]) aa 2 rfl trivial ?_
 refine aM (n':=3) [45] [] rfl rfl (.inl ⟨(ah.plain rfl),aF.cast (bN rfl rfl rfl rfl rfl Try.underlying32) rfl⟩) rfl ?_
 refine aw (kn:=[]) aa 1 rfl trivial ?_
 refine bw [2,1,0] rfl rfl rfl rfl (by kernel_rfl) ?_
 refine af ?_
 refine aU ?_
 refine cg (β:=Nat×List cq) (fun (p:Nat×List cq)=>match p with|(q,m)=>⟨[(0,(aC (.p 0 0 0 0))),(1,(aC (.q (cY (⟨idn,kind,1,aD,move,sum⟩:bh)) 0))),(4,(aC (.p 1 0 0 0))),(5,(aI 0)),(6,(aC (.s 2 0 5 m.length))),(45,(aC (cm s1.kept))),(46,(aI (↑s1.kept.length:Int))),(47,(aI (↑q:Int)))],[(2,(ER m)),(1,(.box 65 [(cI 0),(cI 0)])),(0,(.box 98 (((((((((bg x).set 5 (cI s0.bz)).set 6 (cm s0.kept)).set 7 (cI s1.bz)).set 8 (cm s1.kept)).set 9 (cI n0)).set 10 (cI n1)).set 11 (cT w0)).set 12 (cT w1))))],3⟩) (fun (p:Nat×List cq)=>match p with|(q,m)=>q<=s1.kept.length/\m=w0++(s1.kept.take q).map (fun t=>(⟨t,-1⟩:cq))) (fun (p:Nat×List cq)=>match p with|(q,m)=>s1.kept.length - q) (0,w0) ?_ ?_ ?_
 ·exact ⟨by omega,by simp⟩
 ·exact aE.bR id (by refine ⟨?_,?_,?_,?_,?_,?_,?_,?_,trivial⟩<;>first|rfl|(simp only [bc];done)|(congr 3;omega)|(congr 4;omega)|(simp only [bd];rfl)) (by refine ⟨?_,?_,?_,trivial⟩<;>first|rfl|(simp only [bc];done)|(congr 3;omega)|(congr 4;omega)|(simp only [bd];rfl)) rfl
 rintro ⟨q,m⟩ ⟨hi0_0,hi0_1⟩
 have hml:m.length=w0.length+q:=by rw [hi0_1];simp;omega
 refine ae aa 1 rfl ?_
 refine ag ?_
 refine aj rfl (fun hc2=>?_) (fun hc2=>?_)
 ·
  have hc2':=of_decide_eq_true hc2
  refine aP ?_
  refine ag ?_
  refine aU ?_
  refine eV ?_
  obtain ⟨x1,hx1⟩:=cb (xs:=s1.kept) (i:=q) (by first|omega|(simp;done)|(simp;omega))
  refine ay (bV (i:=q) rfl rfl rfl Try.underlying32 jS (by first|omega|(simp;done)|(simp;omega)) (bf hx1)) rfl ?_
  refine ad aa 3 rfl ?_
  refine af ?_
  refine au ?_
  refine ad aa 3 rfl ?_
  refine aR 5 [4,3,2,1,0] (dJ (ys:=[(0,(.g [(cI x1.number),(cI x1.kind),(cI x1.ba),(cI x1.sum),(cI (-1))]))]) (rows:=([(⟨x1,(-1)⟩:cq)]).map fl) 4 mn rfl (by decide) ⟨⟨rfl,rfl⟩,trivial⟩ rfl rfl rfl rfl) rfl ?_
  refine aR 6 [5,4,3,1,0] (dp (m:=1) (N:=m.length+1) (k2:=5) (ys:=([(⟨x1,(-1)⟩:cq)]).map fl) mn rfl rfl rfl rfl rfl rfl (by first|omega|(simp;done)|(simp;omega)) rfl (.s rfl (by first|omega|(simp;done)|(simp;omega))) (by first|omega|(simp;done)|(simp;omega)) (by first|omega|(simp;done)|(simp;omega)) ff (by decide) (by first|omega|(simp;done)|(simp;omega)) (by first|omega|(simp;done)|(simp;omega))) rfl ?_
  refine ad aa 1 rfl ?_
  refine cc ?_
  refine bl ?_
  refine then_ok ?_
  refine au ?_
  refine ay (aJ rfl rfl rfl (aL (by first|omega|(simp;done)|(simp;omega)))) rfl ?_
  refine ad aa 1 rfl ?_
  refine af ?_
  refine ⟨(q+1,m++([(⟨x1,(-1)⟩:cq)])),⟨by omega,by rw [List.take_add_one,hx1,List.map_append,<-List.append_assoc,<-hi0_1];rfl⟩,by first|omega|(simp;done)|(simp;omega),aE.bR (fun k=>if k=2 then 5 else k) (by refine ⟨?_,?_,?_,?_,?_,?_,?_,?_,trivial⟩<;>first|rfl|(simp only [bc];done)|(congr 3;omega)|(congr 4;omega)|(simp only [bd];rfl)|(first|exact cM rfl (by omega)|exact ja rfl (by simp only [List.length_append,List.length_cons,List.length_nil];omega))) (by refine ⟨?_,?_,?_,trivial⟩<;>first|rfl|(simp only [bc];done)|(congr 3;omega)|(congr 4;omega)|(simp only [bd];rfl)) rfl⟩
 have hc2':=of_decide_eq_false hc2
 refine bZ ?_
 refine aN ?_
 refine aN ?_
 refine bC ?_
 refine then_ok ?_
 refine ag ?_
 refine aW [0,1,4,5,6,45,46,47] [2,1,0] mixed rfl rfl ?_
 refine aw (kn:=[]) aa 9 rfl trivial ?_
 refine aM (n':=3) [65,62] [0] rfl rfl (.inl ⟨(ah.plain rfl),aF.cast (cF (i:=1) rfl rfl rfl Try.underlying36 fE rfl (by decide)) rfl⟩) rfl ?_
 refine aw (kn:=[]) aa 2 rfl trivial ?_
 refine aM (n':=4) [68] [] rfl rfl (.inl ⟨(ah.plain rfl),aF.cast (dJ (ys:=[(0,(.g [(cI 0),(cI 0),(cI 0),(cI 0),(cI n1)]))]) (rows:=([(⟨(⟨0,0,0,0⟩:bu),n1⟩:cq)]).map fl) 3 mn rfl (by decide) ⟨⟨rfl,rfl⟩,trivial⟩ rfl rfl rfl rfl) rfl⟩) rfl ?_
 refine aM (n':=5) [57,69] [3,2] rfl rfl (.inl ⟨(ah.plain rfl),aF.cast (dp (m:=1) (N:=m.length+1) (k2:=4) (ys:=([(⟨(⟨0,0,0,0⟩:bu),n1⟩:cq)]).map fl) mn rfl rfl rfl rfl rfl rfl (by first|omega|(simp;done)|(simp;omega)) rfl (.s rfl (by first|omega|(simp;done)|(simp;omega))) (by first|omega|(simp;done)|(simp;omega)) (by first|omega|(simp;done)|(simp;omega)) ff (by decide) (by first|omega|(simp;done)|(simp;omega)) (by first|omega|(simp;done)|(simp;omega))) rfl⟩) rfl ?_
 refine bw [4,1,0] rfl rfl rfl rfl (by kernel_rfl) ?_
 refine ad aa 1 rfl ?_
 refine af ?_
 refine ag ?_
 refine aH aa 1 rfl ?_
 refine ay (du rfl rfl rfl rfl rfl Try.underlying37) rfl ?_
 refine ad aa 1 rfl ?_
 refine af ?_
 refine aj rfl (fun hc3=>?_) (fun hc3=>?_)
 ·
  have hc3':=of_decide_eq_true hc3
  refine ae aa 2 rfl ?_
  refine az ?_
  refine ar ?_
  have hX:eR s0 s1 n0 n1 w0 w1 (⟨idn,kind,1,aD,move,sum⟩:bh)=(w0,w1,(⟨5,0⟩:Answer)):=by
    (have ht:s1.kept.take q=s1.kept:=List.take_of_length_le (by omega));rw [ht] at hi0_1;unfold eR;dsimp only;rw [if_neg (by decide),if_pos rfl];unfold jy lU;rw [<-hi0_1];first|rw [if_pos (by simp;omega)]|rw [if_neg (by simp;omega)]
  rw [hX] at hr;clear hX
  simp only [Prod.mk.injEq] at hr;obtain ⟨rfl,rfl,rfl⟩:=hr
  refine an aa [0,1] 1 rfl rfl rfl rfl rfl rfl ?_ ?_
  all_goals first|rfl|(simp [aA,aY,bg];done)|(simp [aA,aY,bg];omega)
 have hc3':=of_decide_eq_false hc3
 refine aP ?_
 refine rG (s':=[(0,(aC (.p 0 0 0 0))),(1,(aC (.q (cY (⟨idn,kind,1,aD,move,sum⟩:bh)) 0))),(4,(aC (.p 1 0 0 0))),(5,(aI 0)),(6,(aC (cT (m++([(⟨(⟨0,0,0,0⟩:bu),n1⟩:cq)]))))),(45,(aC (cm s1.kept))),(46,(aI (↑s1.kept.length:Int))),(47,(aI (↑q:Int))),(70,(aC (cT (m++([(⟨(⟨0,0,0,0⟩:bu),n1⟩:cq)]))))),(71,(aC (cT (m++([(⟨(⟨0,0,0,0⟩:bu),n1⟩:cq)]))))),(72,(aI (↑(m.length+1):Int))),(73,(aB (decide ((↑(m.length+1):Int) > 60))))]) (h':=[(1,(.box 65 [(cI 0),(cI 0)])),(0,(.box 98 (((((((((bg x).set 5 (cI s0.bz)).set 6 (cm s0.kept)).set 7 (cI s1.bz)).set 8 (cm s1.kept)).set 9 (cI n0)).set 10 (cI n1)).set 11 (cT w0)).set 12 (cT w1))))]) hF0 4 rfl rfl ⟨⟨_,rfl,.inl ⟨rfl,rfl⟩⟩,⟨_,rfl,.inl ⟨rfl,rfl⟩⟩,⟨_,rfl,.inl ⟨rfl,rfl⟩⟩,⟨_,rfl,.inl ⟨rfl,rfl⟩⟩,⟨_,rfl,.inr ⟨_,_,rfl,rfl,.s rfl (by decide) (by first|omega|(simp;done)|(simp;omega))⟩⟩,⟨_,rfl,.inl ⟨rfl,rfl⟩⟩,⟨_,rfl,.inl ⟨rfl,rfl⟩⟩,⟨_,rfl,.inl ⟨rfl,rfl⟩⟩,⟨_,rfl,.inr ⟨_,_,rfl,rfl,.s rfl (by decide) (by first|omega|(simp;done)|(simp;omega))⟩⟩,⟨_,rfl,.inr ⟨_,_,rfl,rfl,.s rfl (by decide) (by first|omega|(simp;done)|(simp;omega))⟩⟩,⟨_,rfl,.inl ⟨rfl,rfl⟩⟩,⟨_,rfl,.inl ⟨rfl,rfl⟩⟩,trivial⟩ ⟨rfl,rfl,trivial⟩ rfl ?_
 refine aH aa 6 rfl ?_
 refine ay (cF (i:=0) rfl rfl rfl Try.underlying38 gC rfl (by decide)) rfl ?_
 refine ad aa 1 rfl ?_
 refine af ?_
 refine ae aa 2 rfl ?_
 refine az ?_
 have hX:eR s0 s1 n0 n1 w0 w1 (⟨idn,kind,1,aD,move,sum⟩:bh)=(m++([(⟨(⟨0,0,0,0⟩:bu),n1⟩:cq)]),w1,(⟨0,0⟩:Answer)):=by
   (have ht:s1.kept.take q=s1.kept:=List.take_of_length_le (by omega));rw [ht] at hi0_1;unfold eR;dsimp only;rw [if_neg (by decide),if_pos rfl];unfold jy lU;rw [<-hi0_1];first|rw [if_pos (by simp;omega)]|rw [if_neg (by simp;omega)]
 rw [hX] at hr;clear hX
 simp only [Prod.mk.injEq] at hr;obtain ⟨rfl,rfl,rfl⟩:=hr
 refine an aa [0,1] 1 rfl rfl rfl rfl rfl rfl ?_ ?_
 all_goals first|rfl|(simp [aA,aY,bg];done)|(simp [aA,aY,bg];omega)
theorem BL (x:Nat->Value) (hx:∀ i,(x i).oneCell'=true) (s0 s1:ca) (n0 n1:Int) (w0 w1:List cq) (d:bh) (l0:w0.length<=60) (l1:w1.length<=60) (m0:s0.kept.length<=40) (m1:s1.kept.length<=40) (hn:¬d.n=0/\¬d.n=1) (v0:List cq) (v1:List cq) (a2:Answer) (hr:eR s0 s1 n0 n1 w0 w1 d=(v0,v1,a2)):cJ Try.prog 66 [(.c (.p 0 0 0 0)),(.c (.q (cY d) 0))] [(0,(.box 98 (((((((((bg x).set 5 (cI s0.bz)).set 6 (cm s0.kept)).set 7 (cI s1.bz)).set 8 (cm s1.kept)).set 9 (cI n0)).set 10 (cI n1)).set 11 (cT w0)).set 12 (cT w1))))] [0] (.v (.g [cI a2.err,cI a2.ba])) [(0,(.box 98 (((((((((bg x).set 5 (cI s0.bz)).set 6 (cm s0.kept)).set 7 (cI s1.bz)).set 8 (cm s1.kept)).set 9 (cI n0)).set 10 (cI n1)).set 11 (cT v0)).set 12 (cT v1))))]:=by
 refine cJ.DE 83 [(0,(aC (.p 0 0 0 0))),(1,(aC (.q (cY d) 0)))] 1 Try.func66 rfl rfl rfl rfl rfl rfl rfl rfl rfl ?_
 intro W0 F0 T0 pg hF
 have hF0:∀ b,F0 b->(pg 0).g=b:=fun b hb=>by obtain ⟨k,hk,h⟩:=hF b hb;rw [List.mem_singleton.1 hk] at h;exact h
 refine ae aa 1 rfl ?_
 refine ag ?_
 refine ch 20 ((decide (¬d.n=0)) && (decide (¬d.n=1))) ?_ ?_
 ·
  refine au ?_
  refine ad aa 6 rfl ?_
  refine bE (t:=14) rfl (fun hb1=>?_) (fun hb1=>?_)
  ·
   have hb1':=of_decide_eq_true hb1
   refine ad aa 6 rfl ?_
   refine af ?_
   exact aE.bB 13 rfl rfl (by first|(simp [hb1];done)|(simp_all;done)|(exfalso;simp_all;done)|(simp_all;omega)) rfl
  have hb1':=of_decide_eq_false hb1
  refine ad aa 6 rfl ?_
  refine af ?_
  exact aE.bB 13 rfl rfl (by first|(simp [hb1];done)|(simp_all;done)|(exfalso;simp_all;done)|(simp_all;omega)) rfl
 refine aj rfl (fun hc2=>?_) (fun hc2=>?_)
 ·
  have hc2':=hc2;try simp only [bq,bM] at hc2'
  refine ae aa 2 rfl ?_
  refine az ?_
  refine ar ?_
  have hX:eR s0 s1 n0 n1 w0 w1 d=(w0,w1,(⟨6,0⟩:Answer)):=by
    unfold eR;rw [if_neg hn.1,if_neg hn.2]
  rw [hX] at hr;clear hX
  simp only [Prod.mk.injEq] at hr;obtain ⟨rfl,rfl,rfl⟩:=hr
  refine an aa [0,1] 1 rfl rfl rfl rfl rfl rfl ?_ ?_
  all_goals first|rfl|(simp [aA,aY,bg];done)|(simp [aA,aY,bg];omega)
 have hc2':=hc2;try simp only [bq,bM] at hc2'
 (exfalso;simp at *;omega)
theorem EF (x:Nat->Value) (hx:∀ i,(x i).oneCell'=true) (aS:List al) (days:List (List Int)) (l0:aS.length<=100) (l1:days.length<=1000) (today2:List al) (days2:List (List Int)) (a2:Answer) (hr:iL aS days=(today2,days2,a2)):cJ Try.prog 69 [(.c (.p 0 0 0 0))] [(0,(.box 98 (((bg x).set 16 (.s 1 0 4 aS.length)).set 17 (.s 2 0 1 days.length)))),(1,(cS aS)),(2,(pP days))] [0] (.v (.g [cI a2.err,cI a2.ba])) [(0,(.box 98 (((bg x).set 16 (.s 1 0 4 today2.length)).set 17 (.s 2 0 1 days2.length)))),(1,(cS today2)),(2,(pP days2))]:=by
 refine cJ.mk 37 [(0,(aC (.p 0 0 0 0)))] 3 Try.func69 rfl rfl rfl rfl rfl rfl rfl rfl rfl ?_
 intro W0 F0 T0 pg
 refine ae aa 1 rfl ?_
 refine aH aa 5 rfl ?_
 obtain ⟨xr0,f0,hr0⟩:∃ (xr0:List Int) (f0:df),jN aS=(xr0,f0):=⟨_,_,rfl⟩
 refine EW (av':=(.t [(.c (Dg xr0)),(.g [(cI f0.err),(cI f0.at_)])])) (ah.plain rfl) (fR 4 [1] (wk aS (by first|omega|(simp;done)|(simp;omega)) xr0 f0 hr0) Gv rfl rfl ⟨⟨_,rfl,.c (.s rfl (by decide) (by first|omega|(simp;done)|(simp;omega)))⟩,trivial⟩ ⟨trivial,⟨rfl,rfl,trivial⟩,trivial⟩ ⟨(CL _),trivial⟩ rfl rfl rfl rfl) ⟨.inr ⟨_,_,_,_,_,rfl,rfl,rfl,by simp⟩,⟨.inl ⟨_,rfl,rfl⟩,.inl ⟨_,rfl,rfl⟩,trivial⟩,trivial⟩ rfl rfl rfl ?_
 refine ad aa 6 rfl ?_
 refine af ?_
 refine ag ?_
 refine ae aa 3 rfl ?_
 refine aj rfl (fun hc1=>?_) (fun hc1=>?_)
 ·
  have hc1':=of_decide_eq_true hc1
  refine ae aa 4 rfl ?_
  refine az ?_
  refine ar ?_
  have hX:iL aS days=(aS,days,(⟨f0.err,0⟩:Answer)):=by
    unfold iL;simp only [hr0];(repeat' split)<;>first|rfl|omega|(simp_all;done)
  rw [hX] at hr;clear hX
  simp only [Prod.mk.injEq] at hr;obtain ⟨rfl,rfl,rfl⟩:=hr
  refine an aa [0,1,2,3] 3 rfl rfl rfl rfl rfl rfl ?_ ?_
  all_goals first|rfl|(simp [aA,aY,bg];done)|(simp [aA,aY,bg];omega)
 have hc1':=of_decide_eq_false hc1
 refine aP ?_
 refine aH aa 7 rfl ?_
 refine aR 6 [5,4,3,0,1,2] (dJ (ys:=[(0,(.c (Dg xr0)))]) (rows:=([xr0]).map rQ) 5 Dn rfl (by decide) ⟨⟨rfl,rfl⟩,trivial⟩ rfl rfl rfl rfl) rfl ?_
 refine aR 7 [6,5,4,3,0,1] (dp (m:=1) (N:=days.length+1) (k2:=6) (ys:=([xr0]).map rQ) Dn rfl rfl rfl rfl rfl rfl (by first|omega|(simp;done)|(simp;omega)) rfl (.s rfl (by first|omega|(simp;done)|(simp;omega))) (by first|omega|(simp;done)|(simp;omega)) (by first|omega|(simp;done)|(simp;omega)) ff (by decide) (by first|omega|(simp;done)|(simp;omega)) (by first|omega|(simp;done)|(simp;omega))) rfl ?_
 refine ad aa 4 rfl ?_
 refine af ?_
 refine fA (k:=0) (q:=17) (c':=(.s 6 0 1 ((days++([xr0])).length))) rfl rfl (by first|rfl|(simp;done)|(congr 1;omega)) rfl ?_
 refine ae aa 5 rfl ?_
 refine ae aa 2 rfl ?_
 refine az ?_
 refine cp 0 16 83 4 rfl rfl rfl ?_
 have hX:iL aS days=(([]:List al),days++([xr0]),(⟨0,0⟩:Answer)):=by
   unfold iL;simp only [hr0];(repeat' split)<;>first|rfl|omega|(simp_all;done)
 rw [hX] at hr;clear hX
 simp only [Prod.mk.injEq] at hr;obtain ⟨rfl,rfl,rfl⟩:=hr
 refine an aa [0,7,6,3] 3 rfl rfl rfl rfl rfl rfl ?_ ?_
 all_goals first|rfl|(simp [aA,aY,bg];done)|(simp [aA,aY,bg];omega)
end Go.Proofs.Ytegepioggeggaaa.Dev
