/- A part of the proof: Sort7, Day1, Day4, Day5, Bank1, Bank2, Bank3, Clones, Bank4, Bank7. No condition. -/
import Derived.Test.YtegepioggeggaaaD10
set_option linter.unusedVariables false
set_option linter.unusedSimpArgs false
set_option maxHeartbeats 4000000
set_option maxRecDepth 100000
namespace Go.Proofs.Ytegepioggeggaaa.Dev
open Go.RowKit

theorem vk (d:List al) (a b:Int) (fn:FuncId) (bd:List (List D)) (hp:∀ x y:al,Fn Try.prog fn ([.g [cI x.aD,cI x.aZ,cI x.kind,cI x.sum],.g [cI y.aD,cI y.aZ,cI y.kind,cI y.sum]]++bd.map fun r=>GV.c (.q r 0)) (aI (gV x y)) []) (hen:bg Try.prog fn) (h1:b<=a+1) (h2:0<=a/\a<=9223372036854775806):Fn Try.prog 72 [(.c (eP d)),(.c (cI a)),(.c (cI b)),(.c (.d (.f fn bd)))] (.t []) []:=by
 refine Fn.mk' 53 [(0,(aC (eP d))),(1,(aI a)),(2,(aI b)),(3,(aC (.d (.f fn bd))))] Try.func72 rfl rfl rfl rfl ?_
 intro W0 T0
 refine dj 0 rfl (fun hlen0=>?_)
 refine aF aa 1 rfl ?_
 refine aA (aK rfl rfl rfl (aL (by first|omega|(simp;done)|(simp;omega)))) rfl ?_
 refine ad aa 1 rfl ?_
 refine af ?_
 refine aU ?_
 refine cj (β:=Nat) (fun (z:Nat)=>⟨[(0,(aC (eP d))),(1,(aI a)),(2,(aI b)),(3,(aC (.d (.f fn bd)))),(8,(aI (a+1)))],[],0⟩) (fun (z:Nat)=>True) (fun (z:Nat)=>0) 0 ?_ ?_ ?_
 ·trivial
 ·exact aH.bS id (by refine ⟨?_,?_,?_,?_,?_,trivial⟩<;>first|rfl|(simp only [bh];done)|(congr 3;omega)|(congr 4;omega)|(simp only [bj];rfl)) (trivial) rfl
 rintro z _
 refine ag ?_
 refine ae aa 3 rfl ?_
 refine aj rfl (fun hc1=>?_) (fun hc1=>?_)
 ·
  have hc1':=of_decide_eq_true hc1
  exfalso;omega
 have hc1':=of_decide_eq_false hc1
 refine bZ ?_
 refine aO ?_
 refine aO ?_
 refine bF ?_
 refine cL aa [] 0 rfl rfl rfl rfl rfl rfl ?_ ?_
 all_goals first|rfl|(simp [az];done)|(simp [az];omega)
theorem zM (d:List al) (n:Int) (fn:FuncId) (bd:List (List D)) (hp:∀ x y:al,Fn Try.prog fn ([.g [cI x.aD,cI x.aZ,cI x.kind,cI x.sum],.g [cI y.aD,cI y.aZ,cI y.kind,cI y.sum]]++bd.map fun r=>GV.c (.q r 0)) (aI (gV x y)) []) (hen:bg Try.prog fn) (h:n=0):Fn Try.prog 61 [(.c (eP d)),(.c (cI n)),(.c (.d (.f fn bd)))] (.t []) []:=by
 refine Fn.mk' 63 [(0,(aC (eP d))),(1,(aI n)),(2,(aC (.d (.f fn bd))))] Try.func61 rfl rfl rfl rfl ?_
 intro W0 T0
 refine dj 0 rfl (fun hlen0=>?_)
 refine ae aa 1 rfl ?_
 refine ae aa 3 rfl ?_
 refine ag ?_
 refine aU ?_
 refine cj (β:=Nat) (fun (z:Nat)=>⟨[(0,(aC (eP d))),(1,(aI n)),(2,(aC (.d (.f fn bd)))),(6,(aI 20)),(7,(aI 0)),(8,(aI 20))],[],0⟩) (fun (z:Nat)=>True) (fun (z:Nat)=>0) 0 ?_ ?_ ?_
 ·trivial
 ·exact aH.bS id (by refine ⟨?_,?_,?_,?_,?_,?_,trivial⟩<;>first|rfl|(simp only [bh];done)|(congr 3;omega)|(congr 4;omega)|(simp only [bj];rfl)) (trivial) rfl
 rintro z _
 refine ag ?_
 refine ae aa 3 rfl ?_
 refine aj rfl (fun hc1=>?_) (fun hc1=>?_)
 ·
  have hc1':=of_decide_eq_true hc1
  exfalso;omega
 have hc1':=of_decide_eq_false hc1
 refine bZ ?_
 refine aO ?_
 refine aO ?_
 refine bF ?_
 refine then_ok ?_
 refine aF aa 4 rfl ?_
 refine aQ 0 [] (bX 0 (vk d 0 n fn bd hp hen (by first|omega|(simp;done)|(simp;omega)) (by first|omega|(simp;done)|(simp;omega))) Bj rfl rfl ⟨⟨_,rfl,.c (.d _)⟩,⟨_,rfl,.c (.d _)⟩,⟨_,rfl,.c (.d _)⟩,⟨_,rfl,.c (.d _)⟩,trivial⟩ trivial trivial rfl rfl rfl rfl) rfl ?_
 refine af ?_
 refine aU ?_
 refine cj (β:=Nat) (fun (z:Nat)=>⟨[(0,(aC (eP d))),(1,(aI n)),(2,(aC (.d (.f fn bd)))),(6,(aI 20))],[],0⟩) (fun (z:Nat)=>True) (fun (z:Nat)=>0) 0 ?_ ?_ ?_
 ·trivial
 ·exact aH.bS id (by refine ⟨?_,?_,?_,?_,trivial⟩<;>first|rfl|(simp only [bh];done)|(congr 3;omega)|(congr 4;omega)|(simp only [bj];rfl)) (trivial) rfl
 rintro z _
 refine ag ?_
 refine ae aa 3 rfl ?_
 refine aj rfl (fun hc2=>?_) (fun hc2=>?_)
 ·
  have hc2':=of_decide_eq_true hc2
  exfalso;omega
 have hc2':=of_decide_eq_false hc2
 refine bZ ?_
 refine aO ?_
 refine aO ?_
 refine bF ?_
 refine cL aa [] 0 rfl rfl rfl rfl rfl rfl ?_ ?_
 all_goals first|rfl|(simp [az];done)|(simp [az];omega)
theorem tC (d:List al) (fn:FuncId) (bd:List (List D)) (hp:∀ x y:al,Fn Try.prog fn ([.g [cI x.aD,cI x.aZ,cI x.kind,cI x.sum],.g [cI y.aD,cI y.aZ,cI y.kind,cI y.sum]]++bd.map fun r=>GV.c (.q r 0)) (aI (gV x y)) []) (hen:bg Try.prog fn) (h:d.length=0):Fn Try.prog 55 [(.c (eP d)),(.c (.d (.f fn bd)))] (.t []) []:=by
 refine Fn.mk' 9 [(0,(aC (eP d))),(1,(aC (.d (.f fn bd))))] Try.func55 rfl rfl rfl rfl ?_
 intro W0 T0
 refine dj 0 rfl (fun hlen0=>?_)
 refine aw ?_
 refine ad aa 2 rfl ?_
 refine aA (bQ rfl rfl rfl rfl rfl Try.underlying42) rfl ?_
 refine ad aa 1 rfl ?_
 refine aQ 0 [] (bX 0 (zM d (↑d.length:Int) fn bd hp hen (by first|omega|(simp;done)|(simp;omega))) Ec rfl rfl ⟨⟨_,rfl,.c (.d _)⟩,⟨_,rfl,.c (.d _)⟩,⟨_,rfl,.c (.d _)⟩,trivial⟩ trivial trivial rfl rfl rfl rfl) rfl ?_
 refine cf ?_
 refine cL aa [] 0 rfl rfl rfl rfl rfl rfl ?_ ?_
 all_goals first|rfl|(simp [az];done)|(simp [az];omega)
theorem vt (d:List al) (N:Nat) (fn:FuncId) (bd:List (List D)) (hp:∀ x y:al,Fn Try.prog fn ([.g [cI x.aD,cI x.aZ,cI x.kind,cI x.sum],.g [cI y.aD,cI y.aZ,cI y.kind,cI y.sum]]++bd.map fun r=>GV.c (.q r 0)) (aI (gV x y)) []) (hen:bg Try.prog fn) (hl:d.length * 32<=140737488355328) (hN:N=d.length) (h0_:0 < d.length) (r:List al) (hr:gm d=r):cJ Try.prog 55 [(.c (.s 0 0 4 N)),(.c (.d (.f fn bd)))] [(0,(cP d))] [0] (.t []) [(0,(cP r))]:=by
 refine cJ.mk 9 [(0,(aC (.s 0 0 4 N))),(1,(aC (.d (.f fn bd))))] 1 Try.func55 rfl rfl rfl rfl rfl rfl rfl rfl rfl ?_
 intro W0 F0 T0 pg
 refine gf 0 rfl (fun hlen0=>?_)
 refine aw ?_
 refine ad aa 2 rfl ?_
 refine aA (du rfl rfl rfl rfl rfl Try.underlying42) rfl ?_
 refine ad aa 1 rfl ?_
 obtain ⟨r0,hr0⟩:∃ (r0:List al),gm d=r0:=⟨_,rfl⟩
 refine aQ 1 [0] (dN id id (zL (↑N:Int) d N N fn bd hp hen (by first|omega|(simp;done)|(simp;omega)) (by first|omega|(simp;done)|(simp;omega)) (by first|omega|(simp;done)|(simp;omega)) (by first|omega|(simp;done)|(simp;omega)) (by first|omega|(simp;done)|(simp;omega)) r0 hr0) Ec rfl rfl ⟨⟨_,rfl,.inl ⟨rfl,rfl⟩⟩,⟨_,rfl,.inr (.c (.d _))⟩,⟨_,rfl,.inr (.c (.d _))⟩,trivial⟩ ⟨rfl,trivial⟩ rfl rfl ⟨.inr ⟨_,_,_,rfl,by first|(simp;omega)|(simp only [List.length_map];omega)⟩,trivial⟩ rfl rfl rfl trivial ⟨(fun _ _ _ _=>trivial),trivial⟩ rfl rfl rfl rfl) rfl ?_
 refine cf ?_
 have hX:gm d=r0:=by
   exact hr0
 rw [hX] at hr;clear hX
 subst hr
 refine cL aa [0] 1 rfl rfl rfl rfl rfl rfl ?_ ?_
 all_goals first|rfl|(simp [az];done)|(simp [az];omega)
theorem BE (l:List al) (hl:l.length * 32<=140737488355328) (r:List al) (hr:gm l=r):Fn Try.prog 37 [(.c (eP l))] (.v (.c (.s 0 0 4 r.length))) [(0,(cP r))]:=by
 refine Fn.mk' 9 [(0,(aC (eP l)))] Try.func37 rfl rfl rfl rfl ?_
 intro W0 T0
 refine dj 0 rfl (fun hlen0=>?_)
 refine ae aa 1 rfl ?_
 refine aF aa 1 rfl ?_
 refine aQ 1 [0] (bX 0 (mz l (by first|omega|(simp;done)|(simp;omega))) Ee rfl rfl ⟨⟨_,rfl,.c (.d _)⟩,trivial⟩ trivial ⟨(fun _ _ _ _=>trivial),trivial⟩ rfl rfl rfl rfl) rfl ?_
 refine ad aa 1 rfl ?_
 refine af ?_
 rcases (show l.length=0\/0 < l.length from by omega) with hs1|hs1
 ·
  refine aF aa 1 rfl ?_
  refine aQ 1 [0] (fP 1 [0] (tC l 53 ([]) (fun x y=>wX x y) Ef (by first|omega|(simp;done)|(simp;omega))) Ed rfl rfl ⟨⟨_,rfl,.c (.s rfl (by decide) (by first|omega|(simp;done)|(simp;omega)))⟩,⟨_,rfl,.c (.fn trivial)⟩,trivial⟩ trivial trivial rfl rfl rfl rfl) rfl ?_
  refine af ?_
  refine ae aa 2 rfl ?_
  refine ay ?_
  have hX:gm l=l:=by
    exact yJ (by assumption)
  rw [hX] at hr;clear hX
  subst hr
  refine an aa [0] 1 rfl rfl rfl rfl rfl rfl ?_ ?_
  all_goals first|rfl|(simp [az];done)|(simp [az];omega)
 refine aF aa 1 rfl ?_
 obtain ⟨r0,hr0⟩:∃ (r0:List al),gm l=r0:=⟨_,rfl⟩
 have hlr0:r0.length=l.length:=by rw [<-hr0];exact sj _
 refine aQ 1 [0] (dN id id (vt l l.length 53 ([]) (fun x y=>wX x y) Ef (by first|omega|(simp;done)|(simp;omega)) (by first|omega|(simp;done)|(simp;omega)) (by first|omega|(simp;done)|(simp;omega)) r0 hr0) Ed rfl rfl ⟨⟨_,rfl,.inl ⟨rfl,rfl⟩⟩,⟨_,rfl,.inr (.c (.fn trivial))⟩,trivial⟩ ⟨rfl,trivial⟩ rfl rfl ⟨.inr ⟨_,_,_,rfl,by first|(simp;omega)|(simp only [List.length_map];omega)⟩,trivial⟩ rfl rfl rfl trivial ⟨(fun _ _ _ _=>trivial),trivial⟩ rfl rfl rfl rfl) rfl ?_
 refine af ?_
 refine ae aa 2 rfl ?_
 refine ay ?_
 have hX:gm l=r0:=by
   exact hr0
 rw [hX] at hr;clear hX
 subst hr
 refine an aa [0] 1 rfl rfl rfl rfl rfl rfl ?_ ?_
 all_goals first|rfl|(simp [az];done)|(simp [az];omega)

theorem vX (l:List al) (f:cY) (hr:gh l=f):Fn Try.prog 31 [(.c (eP l))] (.v (.g [(cI f.err),(cI f.at_)])) []:=by
 refine Fn.mk' 58 [(0,(aC (eP l)))] Try.func31 rfl rfl rfl rfl ?_
 intro W0 T0
 refine dj 0 rfl (fun hlen0=>?_)
 refine ae aa 1 rfl ?_
 refine ag ?_
 refine aF aa 1 rfl ?_
 refine aA (bQ rfl rfl rfl rfl rfl Try.underlying42) rfl ?_
 refine ad aa 1 rfl ?_
 refine af ?_
 refine aj rfl (fun hc1=>?_) (fun hc1=>?_)
 ·
  have hc1':=of_decide_eq_true hc1
  refine ae aa 2 rfl ?_
  refine ay ?_
  refine ar ?_
  have hX:gh l=(⟨5,0⟩:cY):=by
    unfold gh;rw [if_pos (by omega)]
  rw [hX] at hr;clear hX
  subst hr
  refine an aa [0] 0 rfl rfl rfl rfl rfl rfl ?_ ?_
  all_goals first|rfl|(simp [az];done)|(simp [az];omega)
 have hc1':=of_decide_eq_false hc1
 refine aP ?_
 refine ag ?_
 refine aF aa 1 rfl ?_
 refine aA (bQ rfl rfl rfl rfl rfl Try.underlying42) rfl ?_
 refine ad aa 1 rfl ?_
 refine af ?_
 refine aU ?_
 refine cj (β:=Nat) (fun (q:Nat)=>⟨[(2,(aC (.p 0 0 0 0))),(9,(aC (eP l))),(10,(aI (↑l.length:Int))),(11,(aI (↑q:Int)))],[(0,(.box 50 [(cI 0),(cI 0)]))],1⟩) (fun (q:Nat)=>q<=l.length/\ma l 0=ma (l.drop q) q) (fun (q:Nat)=>l.length - q) 0 ?_ ?_ ?_
 ·exact ⟨by omega,rfl⟩
 ·exact aH.bS id (by refine ⟨?_,?_,?_,?_,trivial⟩<;>first|rfl|(simp only [bh];done)|(congr 3;omega)|(congr 4;omega)|(simp only [bj];rfl)) (⟨by first|rfl|(simp only [bh];done)|(congr 3;omega)|(congr 4;omega)|(simp only [bj];rfl),trivial⟩) rfl
 rintro q ⟨hi0_0,hi0_1⟩
 refine ae aa 1 rfl ?_
 refine ag ?_
 refine aj rfl (fun hc2=>?_) (fun hc2=>?_)
 ·
  have hc2':=of_decide_eq_true hc2
  refine aP ?_
  refine ag ?_
  refine aU ?_
  refine aF aa 1 rfl ?_
  obtain ⟨x1,hx1⟩:=cb (xs:=l) (i:=q) (by first|omega|(simp;done)|(simp;omega))
  refine aA (ca (i:=q) rfl rfl rfl Try.underlying42 dp (by first|omega|(simp;done)|(simp;omega)) (bf hx1)) rfl ?_
  refine ad aa 4 rfl ?_
  refine af ?_
  refine ag ?_
  refine ck 23 ((decide (x1.kind < 1))||(decide (x1.kind > 8))) ?_ ?_
  ·
   refine aw ?_
   refine ad aa 4 rfl ?_
   refine bE (t:=19) rfl (fun hb3=>?_) (fun hb3=>?_)
   ·
    have hb3':=of_decide_eq_true hb3
    refine ad aa 4 rfl ?_
    refine af ?_
    exact aH.bA 9 rfl rfl (by first|(simp [hb3];done)|(simp_all;done)|(exfalso;simp_all;done)|(simp_all;omega)) rfl
   have hb3':=of_decide_eq_false hb3
   refine ad aa 4 rfl ?_
   refine af ?_
   exact aH.bA 9 rfl rfl (by first|(simp [hb3];done)|(simp_all;done)|(exfalso;simp_all;done)|(simp_all;omega)) rfl
  refine aj rfl (fun hc4=>?_) (fun hc4=>?_)
  ·
   have hc4':=hc4;try simp only [bu,bR] at hc4'
   refine ae aa 3 rfl ?_
   refine ay ?_
   refine ar ?_
   refine bo ?_
   refine ar ?_
   refine ar ?_
   refine bo ?_
   refine ar ?_
   have hX:gh l=(⟨1,(↑q:Int)⟩:cY):=by
     unfold gh;rw [if_neg (by omega),hi0_1,nP hx1,if_pos (by unfold mf;omega)]
   rw [hX] at hr;clear hX
   subst hr
   refine an aa [0] 0 rfl rfl rfl rfl rfl rfl ?_ ?_
   all_goals first|rfl|(simp [az];done)|(simp [az];omega)
  have hc4':=hc4;try simp only [bu,bR] at hc4'
  refine aP ?_
  refine ck 53 ((((((decide (x1.aD < 0))||(decide (x1.aD>=8)))||(decide (x1.aZ < 0)))||(decide (x1.aZ>=30)))||(decide (x1.sum < 1)))||(decide (x1.sum > 1000000))) ?_ ?_
  ·
   refine aw ?_
   refine ad aa 4 rfl ?_
   refine bE (t:=29) rfl (fun hb5=>?_) (fun hb5=>?_)
   ·
    have hb5':=of_decide_eq_true hb5
    refine ad aa 24 rfl ?_
    refine af ?_
    exact aH.bA 29 rfl rfl (by first|(simp [hb5];done)|(simp_all;done)|(exfalso;simp_all;done)|(simp_all;omega)) rfl
   have hb5':=of_decide_eq_false hb5
   refine ad aa 5 rfl ?_
   refine bE (t:=34) rfl (fun hb6=>?_) (fun hb6=>?_)
   ·
    have hb6':=of_decide_eq_true hb6
    refine ad aa 19 rfl ?_
    refine af ?_
    exact aH.bA 30 rfl rfl (by first|(simp [hb5,hb6];done)|(simp_all;done)|(exfalso;simp_all;done)|(simp_all;omega)) rfl
   have hb6':=of_decide_eq_false hb6
   refine ad aa 5 rfl ?_
   refine bE (t:=39) rfl (fun hb7=>?_) (fun hb7=>?_)
   ·
    have hb7':=of_decide_eq_true hb7
    refine ad aa 14 rfl ?_
    refine af ?_
    exact aH.bA 31 rfl rfl (by first|(simp [hb5,hb6,hb7];done)|(simp_all;done)|(exfalso;simp_all;done)|(simp_all;omega)) rfl
   have hb7':=of_decide_eq_false hb7
   refine ad aa 5 rfl ?_
   refine bE (t:=44) rfl (fun hb8=>?_) (fun hb8=>?_)
   ·
    have hb8':=of_decide_eq_true hb8
    refine ad aa 9 rfl ?_
    refine af ?_
    exact aH.bA 32 rfl rfl (by first|(simp [hb5,hb6,hb7,hb8];done)|(simp_all;done)|(exfalso;simp_all;done)|(simp_all;omega)) rfl
   have hb8':=of_decide_eq_false hb8
   refine ad aa 5 rfl ?_
   refine bE (t:=49) rfl (fun hb9=>?_) (fun hb9=>?_)
   ·
    have hb9':=of_decide_eq_true hb9
    refine ad aa 4 rfl ?_
    refine af ?_
    exact aH.bA 33 rfl rfl (by first|(simp [hb5,hb6,hb7,hb8,hb9];done)|(simp_all;done)|(exfalso;simp_all;done)|(simp_all;omega)) rfl
   have hb9':=of_decide_eq_false hb9
   refine ad aa 4 rfl ?_
   refine af ?_
   exact aH.bA 33 rfl rfl (by first|(simp [hb5,hb6,hb7,hb8,hb9];done)|(simp_all;done)|(exfalso;simp_all;done)|(simp_all;omega)) rfl
  refine aj rfl (fun hc10=>?_) (fun hc10=>?_)
  ·
   have hc10':=hc10;try simp only [bu,bR] at hc10'
   refine ae aa 3 rfl ?_
   refine ay ?_
   refine bo ?_
   refine ar ?_
   refine ar ?_
   refine bo ?_
   refine ar ?_
   have hX:gh l=(⟨3,(↑q:Int)⟩:cY):=by
     unfold gh;rw [if_neg (by omega),hi0_1,nP hx1,if_neg (by unfold mf;omega),if_pos (by unfold nr;omega)]
   rw [hX] at hr;clear hX
   subst hr
   refine an aa [0] 0 rfl rfl rfl rfl rfl rfl ?_ ?_
   all_goals first|rfl|(simp [az];done)|(simp [az];omega)
  have hc10':=hc10;try simp only [bu,bR] at hc10'
  refine cG ?_
  refine bl ?_
  refine then_ok ?_
  refine aw ?_
  refine aA (aK rfl rfl rfl (aL (by first|omega|(simp;done)|(simp;omega)))) rfl ?_
  refine ad aa 1 rfl ?_
  refine af ?_
  refine ⟨q+1,⟨by omega,by rw [hi0_1,nP hx1,if_neg (by unfold mf;omega),if_neg (by unfold nr;omega)]⟩,by first|omega|(simp;done)|(simp;omega),aH.bS id (by refine ⟨?_,?_,?_,?_,trivial⟩<;>first|rfl|(simp only [bh];done)|(congr 3;omega)|(congr 4;omega)|(simp only [bj];rfl)) (⟨by first|rfl|(simp only [bh];done)|(congr 3;omega)|(congr 4;omega)|(simp only [bj];rfl),trivial⟩) rfl⟩
 have hc2':=of_decide_eq_false hc2
 refine bZ ?_
 refine aO ?_
 refine aO ?_
 refine bF ?_
 refine then_ok ?_
 refine ae aa 2 rfl ?_
 refine ay ?_
 have hX:gh l=(⟨0,0⟩:cY):=by
   unfold gh;rw [if_neg (by omega),hi0_1,yS (by omega)]
 rw [hX] at hr;clear hX
 subst hr
 refine an aa [0] 0 rfl rfl rfl rfl rfl rfl ?_ ?_
 all_goals first|rfl|(simp [az];done)|(simp [az];omega)

theorem te (b:List Int) (N:Nat) (n:Int) (z:Nat) (hN:N=b.length) (hz:z<=8) (hl:b.length+z<=1000000) (r:List Int) (hr:b++lR n z=r):cJ Try.prog 109 [(.c (.s 0 0 1 N)),(.c (cI n)),(.c (cI (↑z:Int)))] [(0,(xf b))] [] (.v (.c (.s 0 0 1 r.length))) [(0,(xf r))]:=by
 refine cJ.mk 23 [(0,(aC (.s 0 0 1 N))),(1,(aI n)),(2,(aI (↑z:Int)))] 1 Try.func109 rfl rfl rfl rfl rfl rfl rfl rfl rfl ?_
 intro W0 F0 T0 pg
 refine gf 0 rfl (fun hlen0=>?_)
 refine ae aa 1 rfl ?_
 refine ag ?_
 refine aF aa 1 rfl ?_
 refine aA (aK rfl rfl rfl (aL (by first|omega|(simp;done)|(simp;omega)))) rfl ?_
 refine ad aa 1 rfl ?_
 refine af ?_
 refine aU ?_
 refine cj (β:=Nat×List Int) (fun (p:Nat×List Int)=>match p with|(k,m)=>⟨[(0,(aC (.s 0 0 1 m.length))),(1,(aI n)),(6,(aC cN)),(7,(aI ((↑k:Int) - 1)))],[(0,(xf m))],1⟩) (fun (p:Nat×List Int)=>match p with|(k,m)=>k<=z/\m++lR n k=b++lR n z/\m.length+k=b.length+z) (fun (p:Nat×List Int)=>match p with|(k,m)=>k) (z,b) ?_ ?_ ?_
 ·exact ⟨by omega,rfl,rfl⟩
 ·exact aH.bS id (by refine ⟨?_,?_,?_,?_,trivial⟩<;>first|rfl|(simp only [bh];done)|(congr 3;omega)|(congr 4;omega)|(simp only [bj];rfl)|(first|exact cU rfl (by omega)|exact nU rfl (by omega))) (⟨by first|rfl|(simp only [bh];done)|(congr 3;omega)|(congr 4;omega)|(simp only [bj];rfl),trivial⟩) rfl
 rintro ⟨k,m⟩ ⟨hi0_0,hi0_1,hi0_2⟩
 refine ag ?_
 refine ae aa 2 rfl ?_
 refine aj rfl (fun hc1=>?_) (fun hc1=>?_)
 ·
  have hc1':=of_decide_eq_true hc1
  refine aP ?_
  refine ag ?_
  refine aU ?_
  refine aw ?_
  refine ad aa 3 rfl ?_
  refine aA (aK rfl rfl rfl (aL (by first|omega|(simp;done)|(simp;omega)))) rfl ?_
  refine aA (DB rfl rfl rfl (by first|omega|(simp;done)|(simp;omega)) rfl (FY (k:=k) (by omega) rfl)) rfl ?_
  refine aA (fl rfl rfl (by rw [Try.underlying3];rfl) Try.underlying5 my) rfl ?_
  refine aQ 2 [1,0] (dW (ys:=[(0,(.c (.d (.v (.int .u8 ((n / 256 ^ (k - 1)) % 256))))))]) (rows:=([(n / 256 ^ (k - 1)) % 256]).map kO) 1 ua rfl (by decide) ⟨⟨rfl,rfl⟩,trivial⟩ rfl rfl rfl rfl) rfl ?_
  refine aQ 3 [2,1] (dx (m:=1) (N:=m.length+1) (k2:=2) (ys:=([(n / 256 ^ (k - 1)) % 256]).map kO) ua rfl rfl rfl rfl rfl rfl (by first|omega|(simp;done)|(simp;omega)) rfl (.s rfl (by first|omega|(simp;done)|(simp;omega))) (by first|omega|(simp;done)|(simp;omega)) (by first|omega|(simp;done)|(simp;omega)) fA (by decide) (by first|omega|(simp;done)|(simp;omega)) (by first|omega|(simp;done)|(simp;omega))) rfl ?_
  refine ad aa 1 rfl ?_
  refine cf ?_
  refine bl ?_
  refine then_ok ?_
  refine aw ?_
  refine ad aa 1 rfl ?_
  refine aA (aK rfl rfl rfl (aL (by first|omega|(simp;done)|(simp;omega)))) rfl ?_
  refine ad aa 1 rfl ?_
  refine af ?_
  refine ⟨(k - 1,m++([(n / 256 ^ (k - 1)) % 256])),⟨by omega,by rw [<-hi0_1,BF (k:=k) (by omega),List.append_assoc];rfl,by simp only [List.length_append,List.length_cons,List.length_nil];omega⟩,by first|omega|(simp;done)|(simp;omega),aH.bS (fun k=>if k=0 then 2 else k) (by refine ⟨?_,?_,?_,?_,trivial⟩<;>first|rfl|(simp only [bh];done)|(congr 3;omega)|(congr 4;omega)|(simp only [bj];rfl)|(first|exact cU rfl (by omega)|exact nU rfl (by simp only [List.length_append,List.length_cons,List.length_nil];omega))) (⟨by first|rfl|(simp only [bh];done)|(congr 3;omega)|(congr 4;omega)|(simp only [bj];rfl),trivial⟩) rfl⟩
 have hc1':=of_decide_eq_false hc1
 refine bZ ?_
 refine aO ?_
 refine aO ?_
 refine bF ?_
 refine then_ok ?_
 refine ae aa 2 rfl ?_
 refine ay ?_
 have hX:b++lR n z=m:=by
   (obtain rfl:k=0:=by omega);rw [<-hi0_1];simp [lR]
 rw [hX] at hr;clear hX
 subst hr
 refine an aa [0] 1 rfl rfl rfl rfl rfl rfl ?_ ?_
 all_goals first|rfl|(simp [az];done)|(simp [az];omega)

theorem vY (l:List al) (hl:l.length * 32<=140737488355328) (x:List Int) (f:cY) (hr:jL l=(x,f)):Fn Try.prog 92 [(.c (eP l))] (.t [(.c (.s 0 0 1 x.length)),(.g [(cI f.err),(cI f.at_)])]) [(0,(xf x))]:=by
 refine Fn.mk' 50 [(0,(aC (eP l)))] Try.func92 rfl rfl rfl rfl ?_
 intro W0 T0
 refine dj 0 rfl (fun hlen0=>?_)
 refine ae aa 2 rfl ?_
 refine ag ?_
 refine aF aa 1 rfl ?_
 obtain ⟨f0,hr0⟩:∃ (f0:cY),gh l=f0:=⟨_,rfl⟩
 refine aQ 1 [0] (bX 1 (vX l f0 hr0) GP rfl rfl ⟨⟨_,rfl,.c (.d _)⟩,trivial⟩ ⟨trivial,trivial,trivial⟩ trivial rfl rfl rfl rfl) rfl ?_
 refine ad aa 2 rfl ?_
 refine af ?_
 refine ae aa 3 rfl ?_
 refine aj rfl (fun hc1=>?_) (fun hc1=>?_)
 ·
  have hc1':=of_decide_eq_true hc1
  refine ag ?_
  refine aW [0,3,4] [1,0] mixed rfl rfl ?_
  refine au (kn:=[]) aa 2 rfl trivial ?_
  refine br [1,0] rfl rfl rfl rfl (by kernel_rfl) ?_
  refine ad aa 1 rfl ?_
  refine af ?_
  refine ay ?_
  refine ar ?_
  refine da (aH.nil 2 5 1 (by decide) rfl) ?_
  have hX:jL l=(([]:List Int),f0):=by
    unfold jL;rw [if_neg (by rw [hr0];omega),hr0]
  rw [hX] at hr;clear hX
  simp only [Prod.mk.injEq] at hr;obtain ⟨rfl,rfl⟩:=hr
  refine an aa [2,0] 1 rfl rfl rfl rfl rfl rfl ?_ ?_
  all_goals first|rfl|(simp [az];done)|(simp [az];omega)
 have hc1':=of_decide_eq_false hc1
 refine aP ?_
 have hw:(gh l).err=0:=by rw [hr0];omega
 have hok:=yw.1 hw
 refine aF aa 1 rfl ?_
 refine aA (bQ rfl rfl rfl rfl rfl Try.underlying42) rfl ?_
 refine aA (fl rfl rfl (by rw [Try.underlying3];rfl) Try.underlying5 my) rfl ?_
 refine aQ 3 [2,1,0] (dW (ys:=[(0,(.c (.d (.v (.int .u8 ((↑l.length:Int) % 256))))))]) (rows:=([(↑l.length:Int) % 256]).map kO) 2 ua rfl (by decide) ⟨⟨rfl,rfl⟩,trivial⟩ rfl rfl rfl rfl) rfl ?_
 refine ad aa 1 rfl ?_
 refine af ?_
 refine ae aa 1 rfl ?_
 refine ag ?_
 refine aF aa 1 rfl ?_
 obtain ⟨r1,hr1⟩:∃ (r1:List al),gm l=r1:=⟨_,rfl⟩
 have hlr:r1.length=l.length:=by rw [<-hr1];exact sj _
 have hrok:∀ x∈r1,wF x:=fun x hx=>hok.2 x ((mI l).mem.2 (by rw [hr1];exact hx))
 refine aQ 4 [3,2,1,0] (bX 3 (BE l (by first|omega|(simp;done)|(simp;omega)) r1 hr1) GL rfl rfl ⟨⟨_,rfl,.c (.d _)⟩,trivial⟩ trivial ⟨(fun _ _ _ _=>trivial),trivial⟩ rfl rfl rfl rfl) rfl ?_
 refine aA (du rfl rfl rfl rfl rfl Try.underlying42) rfl ?_
 refine ad aa 1 rfl ?_
 refine af ?_
 refine aU ?_
 refine cj (β:=Nat×List Int×Int) (fun (p:Nat×List Int×Int)=>match p with|(q,m,all)=>⟨[(2,(aC cN)),(3,(aC (.p 0 0 0 0))),(5,(aC (.s 2 0 1 m.length))),(6,(aI all)),(20,(aC (.s 3 0 4 r1.length))),(21,(aI (↑r1.length:Int))),(22,(aI (↑q:Int)))],[(3,(cP r1)),(2,(xf m)),(0,(.box 50 [(cI 0),(cI 0)]))],4⟩) (fun (p:Nat×List Int×Int)=>match p with|(q,m,all)=>q<=r1.length/\m=lN l (r1.take q)/\all=lj (r1.take q)/\0<=all/\all<=1000000 * (q:Int)) (fun (p:Nat×List Int×Int)=>match p with|(q,m,all)=>r1.length - q) (0,[(↑l.length:Int) % 256],0) ?_ ?_ ?_
 ·exact ⟨by omega,by simp [lN],rfl,by omega⟩
 ·exact aH.bS id (by refine ⟨?_,?_,?_,?_,?_,?_,?_,trivial⟩<;>first|rfl|(simp only [bh];done)|(congr 3;omega)|(congr 4;omega)|(simp only [bj];rfl)) (by refine ⟨?_,?_,?_,trivial⟩<;>first|rfl|(simp only [bh];done)|(congr 3;omega)|(congr 4;omega)|(simp only [bj];rfl)) rfl
 rintro ⟨q,m,all⟩ ⟨hi0_0,hi0_1,hi0_2,hi0_3⟩
 have hml:m.length=1+6 * q:=by rw [hi0_1,zr,List.length_take];omega
 refine ae aa 1 rfl ?_
 refine ag ?_
 refine aj rfl (fun hc2=>?_) (fun hc2=>?_)
 ·
  have hc2':=of_decide_eq_true hc2
  refine aP ?_
  refine ag ?_
  refine aU ?_
  refine fa ?_
  refine aA (bw (i:=q) rfl rfl rfl Try.underlying42 dp (by first|omega|(simp;done)|(simp;omega)) (by first|omega|(simp;done)|(simp;omega))) rfl ?_
  obtain ⟨x1,hx1⟩:=cb (xs:=r1) (i:=q) (by first|omega|(simp;done)|(simp;omega))
  have hx1b:=EU (hrok x1 (List.mem_of_getElem? hx1))
  refine aA (di rfl rfl rfl Try.underlying83 rfl dp (bf hx1) rfl) rfl ?_
  refine ad aa 2 rfl ?_
  refine af ?_
  refine ag ?_
  obtain ⟨r2,hr2⟩:∃ (r2:List Int),(m++([x1.aD % 256,x1.aZ % 256,x1.kind % 256]))++lR x1.sum 3=r2:=⟨_,rfl⟩
  have hlr2:r2.length=m.length+6:=by rw [<-hr2];simp [oU]
  refine aW [2,3,5,6,20,21,22,8] [4,3,2,0] mixed rfl rfl ?_
  refine au (kn:=[]) aa 3 rfl trivial ?_
  refine aM (n':=5) [28] [] rfl rfl (.inl ⟨(ah.plain rfl),aE.cast (fl rfl rfl (by rw [Try.underlying3];rfl) Try.underlying5 my) rfl⟩) rfl ?_
  refine au (kn:=[]) aa 2 rfl trivial ?_
  refine aM (n':=5) [31] [] rfl rfl (.inl ⟨(ah.plain rfl),aE.cast (fl rfl rfl (by rw [Try.underlying3];rfl) Try.underlying5 my) rfl⟩) rfl ?_
  refine au (kn:=[]) aa 2 rfl trivial ?_
  refine aM (n':=5) [34] [] rfl rfl (.inl ⟨(ah.plain rfl),aE.cast (fl rfl rfl (by rw [Try.underlying3];rfl) Try.underlying5 my) rfl⟩) rfl ?_
  refine aM (n':=6) [29,32,35] [] rfl rfl (.inl ⟨(ah.plain rfl),aE.cast (dW (ys:=[(0,(.c (.d (.v (.int .u8 (x1.aD % 256)))))),(1,(.c (.d (.v (.int .u8 (x1.aZ % 256)))))),(2,(.c (.d (.v (.int .u8 (x1.kind % 256))))))]) (rows:=([x1.aD % 256,x1.aZ % 256,x1.kind % 256]).map kO) 5 ua rfl (by decide) ⟨⟨rfl,rfl⟩,⟨rfl,rfl⟩,⟨rfl,rfl⟩,trivial⟩ rfl rfl rfl rfl) rfl⟩) rfl ?_
  refine aM (n':=7) [26,36] [5,2] rfl rfl (.inl ⟨(ah.plain rfl),aE.cast (dx (m:=3) (N:=m.length+3) (k2:=6) (ys:=([x1.aD % 256,x1.aZ % 256,x1.kind % 256]).map kO) ua rfl rfl rfl rfl rfl rfl (by first|omega|(simp;done)|(simp;omega)) rfl (.s rfl (by first|omega|(simp;done)|(simp;omega))) (by first|omega|(simp;done)|(simp;omega)) (by first|omega|(simp;done)|(simp;omega)) fA (by decide) (by first|omega|(simp;done)|(simp;omega)) (by first|omega|(simp;done)|(simp;omega))) rfl⟩) rfl ?_
  refine au (kn:=[]) aa 2 rfl trivial ?_
  refine aM (n':=8) [37,39] [6] rfl rfl (.inl ⟨(ah.plain rfl),aE.cast (cK (bb [6]) (bb [7]) (te (m++([x1.aD % 256,x1.aZ % 256,x1.kind % 256])) (m.length+3) x1.sum 3 (by first|omega|(simp;done)|(simp;omega)) (by first|omega|(simp;done)|(simp;omega)) (by first|omega|(simp;done)|(simp;omega)) r2 hr2) Cb rfl rfl ⟨⟨_,rfl,.inl ⟨rfl,rfl⟩⟩,⟨_,rfl,.inr (.c (.d _))⟩,⟨_,rfl,.inr (.c (.d _))⟩,trivial⟩ ⟨rfl,trivial⟩ rfl rfl rfl rfl rfl rfl trivial ⟨(fun _ _ _ _=>trivial),trivial⟩ rfl rfl rfl rfl) rfl⟩) rfl ?_
  refine br [7,4,3,0] rfl rfl rfl rfl (by kernel_rfl) ?_
  refine ad aa 1 rfl ?_
  refine af ?_
  refine aw ?_
  refine ad aa 3 rfl ?_
  refine aA (aK rfl rfl rfl (aL (by first|omega|(simp;done)|(simp;omega)))) rfl ?_
  refine ad aa 1 rfl ?_
  refine cf ?_
  refine bl ?_
  refine then_ok ?_
  refine aw ?_
  refine aA (aK rfl rfl rfl (aL (by first|omega|(simp;done)|(simp;omega)))) rfl ?_
  refine ad aa 1 rfl ?_
  refine af ?_
  refine ⟨(q+1,r2,all+x1.sum),⟨by omega,by rw [xM hx1,<-hi0_1,<-hr2];simp [ur],by rw [yG hx1,<-hi0_2],by omega⟩,by first|omega|(simp;done)|(simp;omega),aH.bS (fun k=>if k=2 then 7 else k) (by refine ⟨?_,?_,?_,?_,?_,?_,?_,trivial⟩<;>first|rfl|(simp only [bh];done)|(congr 3;omega)|(congr 4;omega)|(simp only [bj];rfl)|(first|exact cU rfl (by omega)|exact nU rfl (by simp only [List.length_append,List.length_take,List.length_drop,List.length_cons,List.length_nil];omega))) (by refine ⟨?_,?_,?_,trivial⟩<;>first|rfl|(simp only [bh];done)|(congr 3;omega)|(congr 4;omega)|(simp only [bj];rfl)) rfl⟩
 have hc2':=of_decide_eq_false hc2
 refine bZ ?_
 refine aO ?_
 refine aO ?_
 refine bF ?_
 refine then_ok ?_
 refine aF aa 2 rfl ?_
 obtain ⟨r3,hr3⟩:∃ (r3:List Int),m++lR all 4=r3:=⟨_,rfl⟩
 have hlr3:r3.length=m.length+4:=by rw [<-hr3];simp [oU]
 refine aQ 5 [4,3,0] (cK (bb [2]) (bb [4]) (te m m.length all 4 (by first|omega|(simp;done)|(simp;omega)) (by first|omega|(simp;done)|(simp;omega)) (by first|omega|(simp;done)|(simp;omega)) r3 hr3) Cb rfl rfl ⟨⟨_,rfl,.inl ⟨rfl,rfl⟩⟩,⟨_,rfl,.inr (.c (.d _))⟩,⟨_,rfl,.inr (.c (.d _))⟩,trivial⟩ ⟨rfl,trivial⟩ rfl rfl rfl rfl rfl rfl trivial ⟨(fun _ _ _ _=>trivial),trivial⟩ rfl rfl rfl rfl) rfl ?_
 refine ad aa 3 rfl ?_
 refine af ?_
 refine ay ?_
 have hX:jL l=(r3,(⟨0,0⟩:cY)):=by
   have ht:r1.take q=r1:=List.take_of_length_le (by omega)
   rw [ht] at hi0_1 hi0_2
   unfold jL
   rw [if_pos hw,hr1,<-hi0_1,<-hi0_2]
   rw [hr3]
 rw [hX] at hr;clear hX
 simp only [Prod.mk.injEq] at hr;obtain ⟨rfl,rfl⟩:=hr
 refine an aa [4,0] 1 rfl rfl rfl rfl rfl rfl ?_ ?_
 all_goals first|rfl|(simp [az];done)|(simp [az];omega)

theorem jJ (x:Nat->Value) (hx:∀ i,(x i).oneCell'=true) (e err:Int) (e2:Int) (hr:dz e err=e2):cJ Try.prog 87 [(.c (.p 0 0 0 0)),(.c (cI err))] [(0,(.box 147 ((bc x).set 19 (cI e))))] [0] (.v (.c (cB (decide (¬e2=0))))) [(0,(.box 147 ((bc x).set 19 (cI e2))))]:=by
 refine cJ.mk 19 [(0,(aC (.p 0 0 0 0))),(1,(aI err))] 1 Try.func87 rfl rfl rfl rfl rfl rfl rfl rfl rfl ?_
 intro W0 F0 T0 pg
 refine ae aa 1 rfl ?_
 refine ag ?_
 refine ae aa 5 rfl ?_
 refine aj rfl (fun hc1=>?_) (fun hc1=>?_)
 ·
  have hc1':=of_decide_eq_true hc1
  refine aw ?_
  refine ad aa 5 rfl ?_
  refine af ?_
  refine ae aa 6 rfl ?_
  refine ay ?_
  have hX:dz e err=err:=by
    (unfold dz;try dsimp only);(repeat' split)<;>first|rfl|omega|(exfalso;omega)|(subst_vars;rfl)|(simp_all;done)|(simp_all;omega)
  rw [hX] at hr;clear hX
  subst hr
  refine an aa [0] 1 rfl rfl rfl rfl rfl rfl ?_ ?_
  all_goals first|rfl|(simp [az,aX,bc];done)|(simp [az,aX,bc];omega)
 have hc1':=of_decide_eq_false hc1
 refine aP ?_
 refine ae aa 6 rfl ?_
 refine ay ?_
 have hX:dz e err=e:=by
   (unfold dz;try dsimp only);(repeat' split)<;>first|rfl|omega|(exfalso;omega)|(subst_vars;rfl)|(simp_all;done)|(simp_all;omega)
 rw [hX] at hr;clear hX
 subst hr
 refine an aa [0] 1 rfl rfl rfl rfl rfl rfl ?_ ?_
 all_goals first|rfl|(simp [az,aX,bc];done)|(simp [az,aX,bc];omega)

theorem iY (x:Nat->Value) (hx:∀ i,(x i).oneCell'=true) (l:List Entry) (e src dst n:Int) (l2:List Entry) (e2:Int) (hr:dV l e src dst n=(l2,e2)):cJ Try.prog 76 [(.c (.p 0 0 0 0)),(.c (cI src)),(.c (cI dst)),(.c (cI n))] [(0,(.box 147 (((bc x).set 18 (de l)).set 19 (cI e))))] [0] (.t []) [(0,(.box 147 (((bc x).set 18 (de l2)).set 19 (cI e2))))]:=by
 refine cJ.mk 31 [(0,(aC (.p 0 0 0 0))),(1,(aI src)),(2,(aI dst)),(3,(aI n))] 1 Try.func76 rfl rfl rfl rfl rfl rfl rfl rfl rfl ?_
 intro W0 F0 T0 pg
 refine aF aa 8 rfl ?_
 obtain ⟨r0,e0,hr0⟩:∃ (r0:List Entry) (e0:Int),jE l src dst n=(r0,e0):=⟨_,_,rfl⟩
 refine aQ 1 [0] (bX 1 (Fn.frozen (av':=(.t [(.c (de r0)),(.c (cI e0))])) (wa l src dst n r0 e0 hr0) ⟨.inr ⟨_,_,_,_,_,rfl,rfl,rfl,by simp⟩,.inl ⟨_,rfl,rfl⟩,trivial⟩) Gg rfl rfl ⟨⟨_,rfl,.c (.d _)⟩,⟨_,rfl,.c (.d _)⟩,⟨_,rfl,.c (.d _)⟩,⟨_,rfl,.c (.d _)⟩,trivial⟩ ⟨trivial,trivial,trivial⟩ trivial rfl rfl rfl rfl) rfl ?_
 refine ad aa 5 rfl ?_
 refine af ?_
 refine aF aa 2 rfl ?_
 obtain ⟨e21,hr1⟩:∃ (e21:Int),dz e e0=e21:=⟨_,rfl⟩
 refine aQ 1 [0] (cq id id (ms:=(dw.set 19 (some (cI e)))) (ms':=(dw.set 19 (some (cI e21)))) (fun x hx=>jJ x hx e e0 e21 hr1) nj rfl rfl ⟨⟨_,rfl,.inl ⟨rfl,rfl⟩⟩,⟨_,rfl,.inr (.c (.d _))⟩,trivial⟩ rfl rfl rfl rfl rfl rfl rfl trivial rfl rfl rfl rfl rfl rfl rfl rfl rfl rfl rfl rfl rfl) rfl ?_
 refine ad aa 1 rfl ?_
 refine af ?_
 refine aj rfl (fun hc1=>?_) (fun hc1=>?_)
 ·
  have hc1':=hc1;try simp only [bu,bR] at hc1'
  refine aw ?_
  refine ad aa 6 rfl ?_
  refine cf ?_
  have hX:dV l e src dst n=(r0,e21):=by
    unfold dV;simp only [hr0,hr1];(repeat' split)<;>first|rfl|omega|(exfalso;omega)|(simp_all;done)|(simp_all;omega)
  rw [hX] at hr;clear hX
  simp only [Prod.mk.injEq] at hr;obtain ⟨rfl,rfl⟩:=hr
  refine cL aa [0] 1 rfl rfl rfl rfl rfl rfl ?_ ?_
  all_goals first|rfl|(simp [az,aX,bc];done)|(simp [az,aX,bc];omega)
 have hc1':=hc1;try simp only [bu,bR] at hc1'
 refine cG ?_
 have hX:dV l e src dst n=(l,e21):=by
   unfold dV;simp only [hr0,hr1];(repeat' split)<;>first|rfl|omega|(exfalso;omega)|(simp_all;done)|(simp_all;omega)
 rw [hX] at hr;clear hX
 simp only [Prod.mk.injEq] at hr;obtain ⟨rfl,rfl⟩:=hr
 refine cL aa [0] 1 rfl rfl rfl rfl rfl rfl ?_ ?_
 all_goals first|rfl|(simp [az,aX,bc];done)|(simp [az,aX,bc];omega)
theorem iK (x:Nat->Value) (hx:∀ i,(x i).oneCell'=true) (l:List bI) (e k held bJ:Int) (hk:0<=k/\k < l.length) (l2:List bI) (e2:Int) (hr:cH l e k held bJ=(l2,e2)):cJ Try.prog 75 [(.c (.p 0 0 0 0)),(.c (cI k)),(.c (cI held)),(.c (cI bJ))] [(0,(.box 147 (((bc x).set 2 (.s 1 0 6 l.length)).set 19 (cI e)))),(1,(dO l))] [0] (.t []) [(0,(.box 147 (((bc x).set 2 (.s 1 0 6 l2.length)).set 19 (cI e2)))),(1,(dO l2))]:=by
 refine cJ.mk 36 [(0,(aC (.p 0 0 0 0))),(1,(aI k)),(2,(aI held)),(3,(aI bJ))] 2 Try.func75 rfl rfl rfl rfl rfl rfl rfl rfl rfl ?_
 intro W0 F0 T0 pg
 refine aF aa 6 rfl ?_
 refine aA (bw (i:=Int.toNat (k)) rfl rfl rfl Try.underlying29 iq (by first|omega|(simp;done)|(simp;omega)) (by first|omega|(simp;done)|(simp;omega))) rfl ?_
 obtain ⟨x1,hx1⟩:=cb (xs:=l) (i:=Int.toNat (k)) (by first|omega|(simp;done)|(simp;omega))
 refine aA (di rfl rfl rfl Try.underlying61 rfl iq (bf hx1) rfl) rfl ?_
 refine ad aa 2 rfl ?_
 obtain ⟨xr0,e0,hr0⟩:∃ (xr0:bI) (e0:Int),eb x1 held bJ=(xr0,e0):=⟨_,_,rfl⟩
 refine aQ 2 [0,1] (bX 2 (Fn.frozen (av':=(.t [(.g [(cI xr0.bJ),(cI xr0.held),(cI xr0.bV.cD),(cI xr0.bV.count),(cI xr0.bV.sum),(eC xr0.cT)]),(.c (cI e0))])) (vm x1 held bJ xr0 e0 hr0) ⟨⟨.inl ⟨_,rfl,rfl⟩,.inl ⟨_,rfl,rfl⟩,.inl ⟨_,rfl,rfl⟩,.inl ⟨_,rfl,rfl⟩,.inl ⟨_,rfl,rfl⟩,.inr ⟨_,_,_,_,_,rfl,rfl,rfl,by simp⟩,trivial⟩,.inl ⟨_,rfl,rfl⟩,trivial⟩) Gh rfl rfl ⟨⟨_,rfl,.g ⟨.d _,.d _,.d _,.d _,.d _,.d _,trivial⟩⟩,⟨_,rfl,.c (.d _)⟩,⟨_,rfl,.c (.d _)⟩,trivial⟩ ⟨⟨trivial,trivial,trivial,trivial,trivial,trivial,trivial⟩,trivial,trivial⟩ trivial rfl rfl rfl rfl) rfl ?_
 refine ad aa 6 rfl ?_
 refine af ?_
 refine aF aa 2 rfl ?_
 obtain ⟨e21,hr1⟩:∃ (e21:Int),dz e e0=e21:=⟨_,rfl⟩
 refine aQ 3 [0,2,1] (cq id id (ms:=(dw.set 19 (some (cI e)))) (ms':=(dw.set 19 (some (cI e21)))) (fun x hx=>jJ x hx e e0 e21 hr1) nj rfl rfl ⟨⟨_,rfl,.inl ⟨rfl,rfl⟩⟩,⟨_,rfl,.inr (.c (.d _))⟩,trivial⟩ rfl rfl rfl rfl rfl rfl rfl trivial rfl rfl rfl rfl rfl rfl rfl rfl rfl rfl rfl rfl rfl) rfl ?_
 refine ad aa 1 rfl ?_
 refine af ?_
 refine aj rfl (fun hc1=>?_) (fun hc1=>?_)
 ·
  have hc1':=hc1;try simp only [bu,bR] at hc1'
  refine aW [0,1,8] [0,2,1] mixed rfl rfl ?_
  refine au (kn:=[]) aa 7 rfl trivial ?_
  refine aM (n':=3) [32,33] [1] rfl rfl (.inl ⟨(ah.plain rfl),aE.cast (bw (i:=Int.toNat (k)) rfl rfl rfl Try.underlying29 iq (by first|omega|(simp;done)|(simp;omega)) (by first|omega|(simp;done)|(simp;omega))) rfl⟩) rfl ?_
  refine br [0,2,1] rfl rfl rfl rfl (by kernel_rfl) ?_
  refine fZ [0,2,1] (dM (ds:=[(dI xr0.bJ),(dI xr0.held),(dI xr0.bV.cD),(dI xr0.bV.count),(dI xr0.bV.sum),(Em xr0.cT)]) rfl rfl rfl rfl rfl iq rfl (Nat.le_of_ble_eq_true rfl) (bf hx1) rfl (eK (x':=xr0) rfl)) rfl ?_
  refine cf ?_
  have hX:cH l e k held bJ=((l).set (Int.toNat (k)) xr0,e21):=by
    rw [sl hx1];simp only [hr0,hr1];(repeat' split)<;>first|rfl|omega|(exfalso;omega)|(simp_all;done)|(simp_all;omega)
  rw [hX] at hr;clear hX
  simp only [Prod.mk.injEq] at hr;obtain ⟨rfl,rfl⟩:=hr
  refine cL aa [0,1] 2 rfl rfl rfl rfl rfl rfl ?_ ?_
  all_goals first|rfl|(simp [az,aX,bc];done)|(simp [az,aX,bc];omega)
 have hc1':=hc1;try simp only [bu,bR] at hc1'
 refine cG ?_
 have hX:cH l e k held bJ=(l,e21):=by
   rw [sl hx1];simp only [hr0,hr1];(repeat' split)<;>first|rfl|omega|(exfalso;omega)|(simp_all;done)|(simp_all;omega)
 rw [hX] at hr;clear hX
 simp only [Prod.mk.injEq] at hr;obtain ⟨rfl,rfl⟩:=hr
 refine cL aa [0,1] 2 rfl rfl rfl rfl rfl rfl ?_ ?_
 all_goals first|rfl|(simp [az,aX,bc];done)|(simp [az,aX,bc];omega)
theorem Ew (x:Nat->Value) (hx:∀ i,(x i).oneCell'=true) (l:List al) (e:Int) (r:al) (hl:l.length<=100) (l2:List al) (e2:Int) (hr:iI l e r=(l2,e2)):cJ Try.prog 83 [(.c (.p 0 0 0 0)),(.g [(cI r.aD),(cI r.aZ),(cI r.kind),(cI r.sum)])] [(0,(.box 147 (((bc x).set 16 (.s 1 0 4 l.length)).set 19 (cI e)))),(1,(cP l))] [0] (.t []) [(0,(.box 147 (((bc x).set 16 (.s 1 0 4 l2.length)).set 19 (cI e2)))),(1,(cP l2))]:=by
 refine cJ.mk 25 [(0,(aC (.p 0 0 0 0))),(1,(aG [(cI r.aD),(cI r.aZ),(cI r.kind),(cI r.sum)]))] 2 Try.func83 rfl rfl rfl rfl rfl rfl rfl rfl rfl ?_
 intro W0 F0 T0 pg
 refine ae aa 1 rfl ?_
 refine ag ?_
 refine aF aa 5 rfl ?_
 refine aA (du rfl rfl rfl rfl rfl Try.underlying42) rfl ?_
 refine ad aa 1 rfl ?_
 refine af ?_
 refine aj rfl (fun hc1=>?_) (fun hc1=>?_)
 ·
  have hc1':=of_decide_eq_true hc1
  refine aF aa 1 rfl ?_
  obtain ⟨e20,hr0⟩:∃ (e20:Int),dz e 5=e20:=⟨_,rfl⟩
  refine aQ 3 [0,2,1] (cq id id (ms:=(dw.set 19 (some (cI e)))) (ms':=(dw.set 19 (some (cI e20)))) (fun x hx=>jJ x hx e 5 e20 hr0) nj rfl rfl ⟨⟨_,rfl,.inl ⟨rfl,rfl⟩⟩,⟨_,rfl,.inr (.c (.d _))⟩,trivial⟩ rfl rfl rfl rfl rfl rfl rfl trivial rfl rfl rfl rfl rfl rfl rfl rfl rfl rfl rfl rfl rfl) rfl ?_
  refine af ?_
  refine ay ?_
  refine ar ?_
  have hX:iI l e r=(l,e20):=by
    unfold iI;first|(rw [if_pos (by omega),hr0];done)|(rw [if_neg (by omega)];done)
  rw [hX] at hr;clear hX
  simp only [Prod.mk.injEq] at hr;obtain ⟨rfl,rfl⟩:=hr
  refine an aa [0,1] 2 rfl rfl rfl rfl rfl rfl ?_ ?_
  all_goals first|rfl|(simp [az,aX,bc];done)|(simp [az,aX,bc];omega)
 have hc1':=of_decide_eq_false hc1
 refine aP ?_
 refine aW [0,3] [2,0,1] mixed rfl rfl ?_
 refine au (kn:=[]) aa 7 rfl trivial ?_
 refine aM (n':=4) [19] [] rfl rfl (.inl ⟨(ah.plain rfl),aE.cast (dW (ys:=[(0,(.g [(cI r.aD),(cI r.aZ),(cI r.kind),(cI r.sum)]))]) (rows:=([r]).map gU) 3 xq rfl (by decide) ⟨⟨rfl,rfl⟩,trivial⟩ rfl rfl rfl rfl) rfl⟩) rfl ?_
 refine aM (n':=5) [18,20] [3,1] rfl rfl (.inl ⟨(ah.plain rfl),aE.cast (dx (m:=1) (N:=l.length+1) (k2:=4) (ys:=([r]).map gU) xq rfl rfl rfl rfl rfl rfl (by first|omega|(simp;done)|(simp;omega)) rfl (.s rfl (by first|omega|(simp;done)|(simp;omega))) (by first|omega|(simp;done)|(simp;omega)) (by first|omega|(simp;done)|(simp;omega)) fA (by decide) (by first|omega|(simp;done)|(simp;omega)) (by first|omega|(simp;done)|(simp;omega))) rfl⟩) rfl ?_
 refine au (kn:=[]) aa 3 rfl trivial ?_
 refine br [4,2,0] rfl rfl rfl rfl (by kernel_rfl) ?_
 refine ad aa 1 rfl ?_
 refine cf ?_
 have hX:iI l e r=(l++([r]),e):=by
   unfold iI;first|(rw [if_pos (by omega),hr0];done)|(rw [if_neg (by omega)];done)
 rw [hX] at hr;clear hX
 simp only [Prod.mk.injEq] at hr;obtain ⟨rfl,rfl⟩:=hr
 refine cL aa [0,4] 2 rfl rfl rfl rfl rfl rfl ?_ ?_
 all_goals first|rfl|(simp [az,aX,bc];done)|(simp [az,aX,bc];omega)

theorem rQ (x:Nat->Value) (hx:∀ i,(x i).oneCell'=true) (s:bY) (e:Int) (t:bq) (hI:∀ t∈s.kept,eX t.number) (s2:bY) (e2:Int) (hr:eF s e t=(s2,e2)):cJ Try.prog 82 [(.c (.p 0 0 0 0)),(.c (cI 0)),(.g [(cI t.number),(cI t.kind),(cI t.aZ),(cI t.sum)])] [(0,(.box 147 ((((bc x).set 5 (cI s.bz)).set 6 (cw s.kept)).set 19 (cI e))))] [0] (.t []) [(0,(.box 147 ((((bc x).set 5 (cI s2.bz)).set 6 (cw s2.kept)).set 19 (cI e2))))]:=by
 refine cJ.mk 31 [(0,(aC (.p 0 0 0 0))),(1,(aI 0)),(2,(aG [(cI t.number),(cI t.kind),(cI t.aZ),(cI t.sum)]))] 1 Try.func82 rfl rfl rfl rfl rfl rfl rfl rfl rfl ?_
 intro W0 F0 T0 pg
 refine ae aa 1 rfl ?_
 refine ag ?_
 obtain ⟨xr0,e0,hr0⟩:∃ (xr0:bY) (e0:Int),gj s t=(xr0,e0):=⟨_,_,rfl⟩
 refine dd [0,1,5] [1,0] mixed rfl rfl ?_
 refine bP (kn:=[]) aa 5 rfl trivial ?_
 refine bU (n':=2) [13,10] [0] rfl rfl (.inl ⟨(ah.plain rfl),aE.cast (cE (i:=0) rfl rfl rfl Try.underlying35 ju rfl (by decide)) rfl⟩) rfl ?_
 refine bP (kn:=[]) aa 2 rfl trivial ?_
 refine bU (n':=2) [15,16] [] rfl rfl (.inl ⟨(ah.plain rfl),aE.cast (bX 2 (Fn.frozen (av':=(.t [(.g [(cI xr0.bz),(cw xr0.kept)]),(.c (cI e0))])) (qY s t (by first|assumption|exact ka (by assumption) (by omega)|exact jh (by assumption) (by assumption)|(simp [eX];done)) xr0 e0 hr0) ⟨⟨.inl ⟨_,rfl,rfl⟩,.inr ⟨_,_,_,_,_,rfl,rfl,rfl,by simp⟩,trivial⟩,.inl ⟨_,rfl,rfl⟩,trivial⟩) Ce rfl rfl ⟨⟨_,rfl,.g ⟨.d _,.d _,trivial⟩⟩,⟨_,rfl,.g ⟨.d _,.d _,.d _,.d _,trivial⟩⟩,trivial⟩ ⟨⟨trivial,trivial,trivial⟩,trivial,trivial⟩ trivial rfl rfl rfl rfl) rfl⟩) rfl ?_
 refine bP (n':=3) (kn:=[]) aa 6 rfl trivial ?_
 refine dJ [0,1,6,7] [2,0] rfl rfl (by kernel_rfl) ?_
 refine then_ok ?_
 refine aF aa 2 rfl ?_
 obtain ⟨e21,hr1⟩:∃ (e21:Int),dz e e0=e21:=⟨_,rfl⟩
 refine aQ 3 [0,2] (cq id id (ms:=(dw.set 19 (some (cI e)))) (ms':=(dw.set 19 (some (cI e21)))) (fun x hx=>jJ x hx e e0 e21 hr1) nj rfl rfl ⟨⟨_,rfl,.inl ⟨rfl,rfl⟩⟩,⟨_,rfl,.inr (.c (.d _))⟩,trivial⟩ rfl rfl rfl rfl rfl rfl rfl trivial rfl rfl rfl rfl rfl rfl rfl rfl rfl rfl rfl rfl rfl) rfl ?_
 refine ad aa 1 rfl ?_
 refine af ?_
 refine aj rfl (fun hc1=>?_) (fun hc1=>?_)
 ·
  have hc1':=hc1;try simp only [bu,bR] at hc1'
  refine aW [0,1,6] [0,2] mixed rfl rfl ?_
  refine au (kn:=[]) aa 6 rfl trivial ?_
  refine aM (n':=3) [29,25] [0] rfl rfl (.inl ⟨(ah.plain rfl),aE.cast (cE (i:=0) rfl rfl rfl Try.underlying35 ju rfl (by decide)) rfl⟩) rfl ?_
  refine br [0,2] rfl rfl rfl rfl (by kernel_rfl) ?_
  refine ad aa 1 rfl ?_
  refine cf ?_
  have hX:eF s e t=(xr0,e21):=by
    unfold eF;simp only [hr0,hr1];(repeat' split)<;>first|rfl|omega|(exfalso;omega)|(simp_all;done)|(simp_all;omega)
  rw [hX] at hr;clear hX
  simp only [Prod.mk.injEq] at hr;obtain ⟨rfl,rfl⟩:=hr
  refine cL aa [0] 1 rfl rfl rfl rfl rfl rfl ?_ ?_
  all_goals first|rfl|(simp [az,aX,bc];done)|(simp [az,aX,bc];omega)
 have hc1':=hc1;try simp only [bu,bR] at hc1'
 refine cG ?_
 have hX:eF s e t=(s,e21):=by
   unfold eF;simp only [hr0,hr1];(repeat' split)<;>first|rfl|omega|(exfalso;omega)|(simp_all;done)|(simp_all;omega)
 rw [hX] at hr;clear hX
 simp only [Prod.mk.injEq] at hr;obtain ⟨rfl,rfl⟩:=hr
 refine cL aa [0] 1 rfl rfl rfl rfl rfl rfl ?_ ?_
 all_goals first|rfl|(simp [az,aX,bc];done)|(simp [az,aX,bc];omega)
theorem CL (x:Nat->Value) (hx:∀ i,(x i).oneCell'=true) (s:bY) (e:Int) (t:bq) (hI:∀ t∈s.kept,eX t.number) (s2:bY) (e2:Int) (hr:eF s e t=(s2,e2)):cJ Try.prog 82 [(.c (.p 0 0 0 0)),(.c (cI 1)),(.g [(cI t.number),(cI t.kind),(cI t.aZ),(cI t.sum)])] [(0,(.box 147 ((((bc x).set 7 (cI s.bz)).set 8 (cw s.kept)).set 19 (cI e))))] [0] (.t []) [(0,(.box 147 ((((bc x).set 7 (cI s2.bz)).set 8 (cw s2.kept)).set 19 (cI e2))))]:=by
 refine cJ.mk 31 [(0,(aC (.p 0 0 0 0))),(1,(aI 1)),(2,(aG [(cI t.number),(cI t.kind),(cI t.aZ),(cI t.sum)]))] 1 Try.func82 rfl rfl rfl rfl rfl rfl rfl rfl rfl ?_
 intro W0 F0 T0 pg
 refine ae aa 1 rfl ?_
 refine ag ?_
 obtain ⟨xr0,e0,hr0⟩:∃ (xr0:bY) (e0:Int),gj s t=(xr0,e0):=⟨_,_,rfl⟩
 refine dd [0,1,5] [1,0] mixed rfl rfl ?_
 refine bP (kn:=[]) aa 5 rfl trivial ?_
 refine bU (n':=2) [13,10] [0] rfl rfl (.inl ⟨(ah.plain rfl),aE.cast (cE (i:=1) rfl rfl rfl Try.underlying35 ju rfl (by decide)) rfl⟩) rfl ?_
 refine bP (kn:=[]) aa 2 rfl trivial ?_
 refine bU (n':=2) [15,16] [] rfl rfl (.inl ⟨(ah.plain rfl),aE.cast (bX 2 (Fn.frozen (av':=(.t [(.g [(cI xr0.bz),(cw xr0.kept)]),(.c (cI e0))])) (qY s t (by first|assumption|exact ka (by assumption) (by omega)|exact jh (by assumption) (by assumption)|(simp [eX];done)) xr0 e0 hr0) ⟨⟨.inl ⟨_,rfl,rfl⟩,.inr ⟨_,_,_,_,_,rfl,rfl,rfl,by simp⟩,trivial⟩,.inl ⟨_,rfl,rfl⟩,trivial⟩) Ce rfl rfl ⟨⟨_,rfl,.g ⟨.d _,.d _,trivial⟩⟩,⟨_,rfl,.g ⟨.d _,.d _,.d _,.d _,trivial⟩⟩,trivial⟩ ⟨⟨trivial,trivial,trivial⟩,trivial,trivial⟩ trivial rfl rfl rfl rfl) rfl⟩) rfl ?_
 refine bP (n':=3) (kn:=[]) aa 6 rfl trivial ?_
 refine dJ [0,1,6,7] [2,0] rfl rfl (by kernel_rfl) ?_
 refine then_ok ?_
 refine aF aa 2 rfl ?_
 obtain ⟨e21,hr1⟩:∃ (e21:Int),dz e e0=e21:=⟨_,rfl⟩
 refine aQ 3 [0,2] (cq id id (ms:=(dw.set 19 (some (cI e)))) (ms':=(dw.set 19 (some (cI e21)))) (fun x hx=>jJ x hx e e0 e21 hr1) nj rfl rfl ⟨⟨_,rfl,.inl ⟨rfl,rfl⟩⟩,⟨_,rfl,.inr (.c (.d _))⟩,trivial⟩ rfl rfl rfl rfl rfl rfl rfl trivial rfl rfl rfl rfl rfl rfl rfl rfl rfl rfl rfl rfl rfl) rfl ?_
 refine ad aa 1 rfl ?_
 refine af ?_
 refine aj rfl (fun hc1=>?_) (fun hc1=>?_)
 ·
  have hc1':=hc1;try simp only [bu,bR] at hc1'
  refine aW [0,1,6] [0,2] mixed rfl rfl ?_
  refine au (kn:=[]) aa 6 rfl trivial ?_
  refine aM (n':=3) [29,25] [0] rfl rfl (.inl ⟨(ah.plain rfl),aE.cast (cE (i:=1) rfl rfl rfl Try.underlying35 ju rfl (by decide)) rfl⟩) rfl ?_
  refine br [0,2] rfl rfl rfl rfl (by kernel_rfl) ?_
  refine ad aa 1 rfl ?_
  refine cf ?_
  have hX:eF s e t=(xr0,e21):=by
    unfold eF;simp only [hr0,hr1];(repeat' split)<;>first|rfl|omega|(exfalso;omega)|(simp_all;done)|(simp_all;omega)
  rw [hX] at hr;clear hX
  simp only [Prod.mk.injEq] at hr;obtain ⟨rfl,rfl⟩:=hr
  refine cL aa [0] 1 rfl rfl rfl rfl rfl rfl ?_ ?_
  all_goals first|rfl|(simp [az,aX,bc];done)|(simp [az,aX,bc];omega)
 have hc1':=hc1;try simp only [bu,bR] at hc1'
 refine cG ?_
 have hX:eF s e t=(s,e21):=by
   unfold eF;simp only [hr0,hr1];(repeat' split)<;>first|rfl|omega|(exfalso;omega)|(simp_all;done)|(simp_all;omega)
 rw [hX] at hr;clear hX
 simp only [Prod.mk.injEq] at hr;obtain ⟨rfl,rfl⟩:=hr
 refine cL aa [0] 1 rfl rfl rfl rfl rfl rfl ?_ ?_
 all_goals first|rfl|(simp [az,aX,bc];done)|(simp [az,aX,bc];omega)
theorem zJ (x:Nat->Value) (hx:∀ i,(x i).oneCell'=true) (ax:List bH) (due:List Int) (aq:List bI) (book:List Entry) (e:Int) (t:bq) (ht:0<=t.aZ/\t.aZ < ax.length) (hA:∀ a∈ax,0<=a.aN/\a.aN < aq.length/\0<=a.aD/\a.aD < due.length) (hc:aq.length<=8) (hd:due.length<=8) (due2:List Int) (cards2:List bI) (book2:List Entry) (e2:Int) (hr:eE ax due aq book e t=(due2,cards2,book2,e2)):cJ Try.prog 89 [(.c (.p 0 0 0 0)),(.g [(cI t.number),(cI t.kind),(cI t.aZ),(cI t.sum)])] [(0,(.box 147 ((((((bc x).set 2 (.s 1 0 6 aq.length)).set 3 (.s 2 0 1 due.length)).set 4 (.s 3 0 8 ax.length)).set 18 (de book)).set 19 (cI e)))),(1,(dO aq)),(2,(dF due)),(3,(dR ax))] [0] (.t []) [(0,(.box 147 ((((((bc x).set 2 (.s 1 0 6 cards2.length)).set 3 (.s 2 0 1 due2.length)).set 4 (.s 3 0 8 ax.length)).set 18 (de book2)).set 19 (cI e2)))),(1,(dO cards2)),(2,(dF due2)),(3,(dR ax))]:=by
 refine cJ.mk 77 [(0,(aC (.p 0 0 0 0))),(1,(aG [(cI t.number),(cI t.kind),(cI t.aZ),(cI t.sum)]))] 4 Try.func89 rfl rfl rfl rfl rfl rfl rfl rfl rfl ?_
 intro W0 F0 T0 pg
 refine ae aa 1 rfl ?_
 refine ag ?_
 obtain ⟨x1,hx1⟩:=cb (xs:=ax) (i:=Int.toNat (t.aZ)) (by first|omega|(simp;done)|(simp;omega))
 have hx1A:=hA x1 (List.mem_of_getElem? hx1)
 refine aW [0,3] [4,0,1,2,3] mixed rfl rfl ?_
 refine au (kn:=[]) aa 7 rfl trivial ?_
 refine aM (n':=5) [11,13] [3] rfl rfl (.inl ⟨(ah.plain rfl),aE.cast (bw (i:=Int.toNat (t.aZ)) rfl rfl rfl Try.underlying31 kG (by first|omega|(simp;done)|(simp;omega)) (by first|omega|(simp;done)|(simp;omega))) rfl⟩) rfl ?_
 refine aM (n':=5) [14] [3] rfl rfl (.inl ⟨(ah.plain rfl),aE.cast (di rfl rfl rfl Try.underlying67 rfl kG (bf hx1) rfl) rfl⟩) rfl ?_
 refine au (n':=6) (kn:=[]) aa 1 rfl trivial ?_
 refine br [5,4,0,1,2,3] rfl rfl rfl rfl (by kernel_rfl) ?_
 refine ad aa 1 rfl ?_
 refine af ?_
 refine ag ?_
 refine aW [0,3,4] [5,4,0,1,2,3] mixed rfl rfl ?_
 refine au (kn:=[]) aa 2 rfl trivial ?_
 refine aM (n':=6) [17] [] rfl rfl (.inl ⟨(ah.plain rfl),aE.cast (aK rfl rfl rfl (aL (by first|omega|(simp;done)|(simp;omega)))) rfl⟩) rfl ?_
 refine au (kn:=[]) aa 2 rfl trivial ?_
 refine aM (n':=6) [20] [] rfl rfl (.inl ⟨(ah.plain rfl),aE.cast (aK rfl rfl rfl (aL (by first|omega|(simp;done)|(simp;omega)))) rfl⟩) rfl ?_
 refine au (kn:=[]) aa 2 rfl trivial ?_
 refine br [5,4,0,1,2,3] rfl rfl rfl rfl (by kernel_rfl) ?_
 refine af ?_
 refine ae aa 2 rfl ?_
 refine aU ?_
 refine ae aa 2 rfl ?_
 refine aj rfl (fun hc1=>?_) (fun hc1=>?_)
 ·
  have hc1':=of_decide_eq_true hc1
  refine ag ?_
  obtain ⟨x2,hx2⟩:=cb (xs:=due) (i:=Int.toNat (x1.aD)) (by first|omega|(simp;done)|(simp;omega))
  refine aW [0,3,4,5] [5,4,0,1,2,3] mixed rfl rfl ?_
  refine au (kn:=[]) aa 7 rfl trivial ?_
  refine aM (n':=6) [30,32] [2] rfl rfl (.inl ⟨(ah.plain rfl),aE.cast (bw (i:=Int.toNat (x1.aD)) rfl rfl rfl Try.underlying30 fF (by first|omega|(simp;done)|(simp;omega)) (by first|omega|(simp;done)|(simp;omega))) rfl⟩) rfl ?_
  refine aM (n':=6) [33] [2] rfl rfl (.inl ⟨(ah.plain rfl),aE.cast (eH rfl rfl rfl Try.underlying3 rfl (bf hx2) rfl) rfl⟩) rfl ?_
  refine au (kn:=[]) aa 3 rfl trivial ?_
  refine aM (n':=6) [30,32] [2] rfl rfl (.inl ⟨(ah.plain rfl),aE.cast (bw (i:=Int.toNat (x1.aD)) rfl rfl rfl Try.underlying30 fF (by first|omega|(simp;done)|(simp;omega)) (by first|omega|(simp;done)|(simp;omega))) rfl⟩) rfl ?_
  refine br [5,4,0,1,2,3] rfl rfl rfl rfl (by kernel_rfl) ?_
  refine fZ [5,4,0,1,2,3] (dM (ds:=[(dI (IntKind.i64.wrap (x2+t.sum)))]) rfl rfl rfl rfl rfl fF rfl (Nat.le_of_ble_eq_true rfl) (bf hx2) rfl (eK (x':=(IntKind.i64.wrap (x2+t.sum))) rfl)) rfl ?_
  refine af ?_
  refine fw (k:=0) (q:=3) (c':=(.s 2 0 1 (((due).set (Int.toNat (x1.aD)) (IntKind.i64.wrap (x2+t.sum))).length))) rfl rfl (by first|rfl|(simp;done)|(congr 1;omega)) rfl ?_
  refine aw ?_
  refine ad aa 4 rfl ?_
  obtain ⟨l20,e20,hr0⟩:∃ (l20:List Entry) (e20:Int),dV book e 1 (50+x1.aD) t.sum=(l20,e20):=⟨_,_,rfl⟩
  refine aQ 6 [0,5,4,1,2,3] (cq id id (ms:=((dw.set 18 (some (de book))).set 19 (some (cI e)))) (ms':=((dw.set 18 (some (de l20))).set 19 (some (cI e20)))) (fun x hx=>iY x hx book e 1 (50+x1.aD) t.sum l20 e20 hr0) me rfl rfl ⟨⟨_,rfl,.inl ⟨rfl,rfl⟩⟩,⟨_,rfl,.inr (.c (.d _))⟩,⟨_,rfl,.inr (.c (.d _))⟩,⟨_,rfl,.inr (.c (.d _))⟩,trivial⟩ rfl rfl rfl rfl rfl rfl rfl trivial rfl rfl rfl rfl rfl rfl rfl rfl rfl rfl rfl rfl rfl) rfl ?_
  refine cf ?_
  refine bl ?_
  have hX:eE ax due aq book e t=((due).set (Int.toNat (x1.aD)) (IntKind.i64.wrap (x2+t.sum)),aq,l20,e20):=by
    unfold eE;rw [hx1];dsimp only;simp only [List.getD_eq_getElem?_getD,hx2,Option.getD_some,hr0];(repeat' split)<;>first|rfl|omega|(exfalso;omega)|(simp_all;done)|(simp_all;omega)
  rw [hX] at hr;clear hX
  simp only [Prod.mk.injEq] at hr;obtain ⟨rfl,rfl,rfl,rfl⟩:=hr
  refine cL aa [0,1,2,3] 4 rfl rfl rfl rfl rfl rfl ?_ ?_
  all_goals first|rfl|(simp [az,aX,bc];done)|(simp [az,aX,bc];omega)
 have hc1':=of_decide_eq_false hc1
 refine ae aa 2 rfl ?_
 refine aj rfl (fun hc2=>?_) (fun hc2=>?_)
 ·
  have hc2':=of_decide_eq_true hc2
  refine aF aa 5 rfl ?_
  obtain ⟨l21,e21,hr1⟩:∃ (l21:List bI) (e21:Int),cH aq e x1.aN 0 t.sum=(l21,e21):=⟨_,_,rfl⟩
  refine aQ 7 [0,6,5,4,2,3] (cq id (bb [0,6]) (ms:=((dw.set 2 (some (.s 1 0 6 aq.length))).set 19 (some (cI e)))) (ms':=((dw.set 2 (some (.s 1 0 6 l21.length))).set 19 (some (cI e21)))) (fun x hx=>iK x hx aq e x1.aN 0 t.sum (by first|omega|(simp;done)|(simp;omega)) l21 e21 hr1) nk rfl rfl ⟨⟨_,rfl,.inl ⟨rfl,rfl⟩⟩,⟨_,rfl,.inr (.c (.d _))⟩,⟨_,rfl,.inr (.c (.d _))⟩,⟨_,rfl,.inr (.c (.d _))⟩,trivial⟩ rfl rfl rfl rfl rfl rfl rfl ⟨rfl,trivial⟩ rfl rfl rfl rfl rfl rfl rfl rfl rfl rfl rfl rfl rfl) rfl ?_
  refine af ?_
  refine aw ?_
  refine ad aa 4 rfl ?_
  obtain ⟨l22,e22,hr2⟩:∃ (l22:List Entry) (e22:Int),dV book e21 1 (10+x1.aN) t.sum=(l22,e22):=⟨_,_,rfl⟩
  refine aQ 7 [0,6,5,4,2,3] (cq id id (ms:=((dw.set 18 (some (de book))).set 19 (some (cI e21)))) (ms':=((dw.set 18 (some (de l22))).set 19 (some (cI e22)))) (fun x hx=>iY x hx book e21 1 (10+x1.aN) t.sum l22 e22 hr2) me rfl rfl ⟨⟨_,rfl,.inl ⟨rfl,rfl⟩⟩,⟨_,rfl,.inr (.c (.d _))⟩,⟨_,rfl,.inr (.c (.d _))⟩,⟨_,rfl,.inr (.c (.d _))⟩,trivial⟩ rfl rfl rfl rfl rfl rfl rfl trivial rfl rfl rfl rfl rfl rfl rfl rfl rfl rfl rfl rfl rfl) rfl ?_
  refine cf ?_
  refine bl ?_
  have hX:eE ax due aq book e t=(due,l21,l22,e22):=by
    unfold eE;rw [hx1];dsimp only;simp only [List.getD_eq_getElem?_getD,Option.getD_some,hr1,hr2];(repeat' split)<;>first|rfl|omega|(exfalso;omega)|(simp_all;done)|(simp_all;omega)
  rw [hX] at hr;clear hX
  simp only [Prod.mk.injEq] at hr;obtain ⟨rfl,rfl,rfl,rfl⟩:=hr
  refine cL aa [0,6,2,3] 4 rfl rfl rfl rfl rfl rfl ?_ ?_
  all_goals first|rfl|(simp [az,aX,bc];done)|(simp [az,aX,bc];omega)
 have hc2':=of_decide_eq_false hc2
 refine ae aa 2 rfl ?_
 refine aj rfl (fun hc3=>?_) (fun hc3=>?_)
 ·
  have hc3':=of_decide_eq_true hc3
  refine ag ?_
  obtain ⟨x2,hx2⟩:=cb (xs:=due) (i:=Int.toNat (x1.aD)) (by first|omega|(simp;done)|(simp;omega))
  refine aW [0,3,4,5] [5,4,0,1,2,3] mixed rfl rfl ?_
  refine au (kn:=[]) aa 7 rfl trivial ?_
  refine aM (n':=6) [63,65] [2] rfl rfl (.inl ⟨(ah.plain rfl),aE.cast (bw (i:=Int.toNat (x1.aD)) rfl rfl rfl Try.underlying30 fF (by first|omega|(simp;done)|(simp;omega)) (by first|omega|(simp;done)|(simp;omega))) rfl⟩) rfl ?_
  refine aM (n':=6) [66] [2] rfl rfl (.inl ⟨(ah.plain rfl),aE.cast (eH rfl rfl rfl Try.underlying3 rfl (bf hx2) rfl) rfl⟩) rfl ?_
  refine au (kn:=[]) aa 3 rfl trivial ?_
  refine aM (n':=6) [63,65] [2] rfl rfl (.inl ⟨(ah.plain rfl),aE.cast (bw (i:=Int.toNat (x1.aD)) rfl rfl rfl Try.underlying30 fF (by first|omega|(simp;done)|(simp;omega)) (by first|omega|(simp;done)|(simp;omega))) rfl⟩) rfl ?_
  refine br [5,4,0,1,2,3] rfl rfl rfl rfl (by kernel_rfl) ?_
  refine fZ [5,4,0,1,2,3] (dM (ds:=[(dI (IntKind.i64.wrap (x2 - t.sum)))]) rfl rfl rfl rfl rfl fF rfl (Nat.le_of_ble_eq_true rfl) (bf hx2) rfl (eK (x':=(IntKind.i64.wrap (x2 - t.sum))) rfl)) rfl ?_
  refine af ?_
  refine fw (k:=0) (q:=3) (c':=(.s 2 0 1 (((due).set (Int.toNat (x1.aD)) (IntKind.i64.wrap (x2 - t.sum))).length))) rfl rfl (by first|rfl|(simp;done)|(congr 1;omega)) rfl ?_
  refine aw ?_
  refine ad aa 4 rfl ?_
  obtain ⟨l23,e23,hr3⟩:∃ (l23:List Entry) (e23:Int),dV book e (50+x1.aD) 2 t.sum=(l23,e23):=⟨_,_,rfl⟩
  refine aQ 6 [0,5,4,1,2,3] (cq id id (ms:=((dw.set 18 (some (de book))).set 19 (some (cI e)))) (ms':=((dw.set 18 (some (de l23))).set 19 (some (cI e23)))) (fun x hx=>iY x hx book e (50+x1.aD) 2 t.sum l23 e23 hr3) me rfl rfl ⟨⟨_,rfl,.inl ⟨rfl,rfl⟩⟩,⟨_,rfl,.inr (.c (.d _))⟩,⟨_,rfl,.inr (.c (.d _))⟩,⟨_,rfl,.inr (.c (.d _))⟩,trivial⟩ rfl rfl rfl rfl rfl rfl rfl trivial rfl rfl rfl rfl rfl rfl rfl rfl rfl rfl rfl rfl rfl) rfl ?_
  refine cf ?_
  refine bl ?_
  have hX:eE ax due aq book e t=((due).set (Int.toNat (x1.aD)) (IntKind.i64.wrap (x2 - t.sum)),aq,l23,e23):=by
    unfold eE;rw [hx1];dsimp only;simp only [List.getD_eq_getElem?_getD,hx2,Option.getD_some,hr3];(repeat' split)<;>first|rfl|omega|(exfalso;omega)|(simp_all;done)|(simp_all;omega)
  rw [hX] at hr;clear hX
  simp only [Prod.mk.injEq] at hr;obtain ⟨rfl,rfl,rfl,rfl⟩:=hr
  refine cL aa [0,1,2,3] 4 rfl rfl rfl rfl rfl rfl ?_ ?_
  all_goals first|rfl|(simp [az,aX,bc];done)|(simp [az,aX,bc];omega)
 have hc3':=of_decide_eq_false hc3
 refine cG ?_
 refine bl ?_
 have hX:eE ax due aq book e t=(due,aq,book,e):=by
   unfold eE;rw [hx1];dsimp only;simp only [List.getD_eq_getElem?_getD,Option.getD_some,hx1];(repeat' split)<;>first|rfl|omega|(exfalso;omega)|(simp_all;done)|(simp_all;omega)
 rw [hX] at hr;clear hX
 simp only [Prod.mk.injEq] at hr;obtain ⟨rfl,rfl,rfl,rfl⟩:=hr
 refine cL aa [0,1,2,3] 4 rfl rfl rfl rfl rfl rfl ?_ ?_
 all_goals first|rfl|(simp [az,aX,bc];done)|(simp [az,aX,bc];omega)

theorem vx (l:List bH) (hl:l.length * 64<=140737488355328):Fn Try.prog 96 [(.c (iu l))] (aC (.s 0 0 8 l.length)) [(0,.arr 67 8 (l.map iH))]:=by
 refine Fn.mk' 8 [(0,(aC (iu l)))] Try.func96 rfl rfl rfl rfl ?_
 intro W0 T0
 refine dj 0 rfl (fun hlen0=>?_)
 refine ae aa 1 rfl ?_
 refine ag ?_
 refine aF aa 1 rfl ?_
 refine ie (ah.plain rfl) rfl rfl Try.underlying31 rfl rfl (fun bn1 hbn1=>?_)
 refine af ?_
 refine aj rfl (fun hc2=>?_) (fun hc2=>?_)
 ·
  have hc2':=hc2;try simp only [bu,bR] at hc2'
  refine ae aa 1 rfl ?_
  refine ay ?_
  refine ar ?_
  refine da (aH.nil 2 67 8 (by decide) rfl) ?_
  refine an aa [0] 1 rfl rfl rfl rfl rfl rfl ?_ ?_
  ·(have h0:=hbn1 (by assumption);have h1:l=[]:=by (cases l with|nil=>rfl|cons=>simp at h0));subst h1;rfl
  ·(have h0:=hbn1 (by assumption);have h1:l=[]:=by (cases l with|nil=>rfl|cons=>simp at h0));subst h1;rfl
 have hc2':=hc2;try simp only [bu,bR] at hc2'
 refine aP ?_
 refine fa ?_
 refine aQ 1 [0] (dW (ys:=[]) (rows:=(([]:List bH)).map iH) 0 ru rfl (by decide) trivial rfl rfl rfl rfl) rfl ?_
 refine ad aa 1 rfl ?_
 refine aQ 2 [1] (dx (m:=l.length) (N:=l.length) (k2:=1) (ys:=(l).map iH) ru rfl rfl rfl rfl rfl rfl (by first|omega|(simp;omega)|(simp;done)) rfl (.d _ _) (by first|omega|(simp;omega)|(simp;done)) (by first|omega|(simp;omega)|(simp;done)) rfl (by decide) (by first|omega|(simp;omega)|(simp;done)) (by first|omega|(simp;omega)|(simp;done))) rfl ?_
 refine ad aa 1 rfl ?_
 refine af ?_
 refine ay ?_
 refine an aa [1] 1 rfl rfl rfl rfl rfl rfl ?_ ?_
 ·first|rfl|simp [fL,aC]
 ·first|rfl|simp
theorem mA (l:List cp) (hl:l.length * 40<=140737488355328):Fn Try.prog 85 [(.c (cW l))] (aC (.s 0 0 5 l.length)) [(0,.arr 113 5 (l.map fk))]:=by
 refine Fn.mk' 8 [(0,(aC (cW l)))] Try.func85 rfl rfl rfl rfl ?_
 intro W0 T0
 refine dj 0 rfl (fun hlen0=>?_)
 refine ae aa 1 rfl ?_
 refine ag ?_
 refine aF aa 1 rfl ?_
 refine ie (ah.plain rfl) rfl rfl Try.underlying37 rfl rfl (fun bn1 hbn1=>?_)
 refine af ?_
 refine aj rfl (fun hc2=>?_) (fun hc2=>?_)
 ·
  have hc2':=hc2;try simp only [bu,bR] at hc2'
  refine ae aa 1 rfl ?_
  refine ay ?_
  refine ar ?_
  refine da (aH.nil 2 113 5 (by decide) rfl) ?_
  refine an aa [0] 1 rfl rfl rfl rfl rfl rfl ?_ ?_
  ·(have h0:=hbn1 (by assumption);have h1:l=[]:=by (cases l with|nil=>rfl|cons=>simp at h0));subst h1;rfl
  ·(have h0:=hbn1 (by assumption);have h1:l=[]:=by (cases l with|nil=>rfl|cons=>simp at h0));subst h1;rfl
 have hc2':=hc2;try simp only [bu,bR] at hc2'
 refine aP ?_
 refine fa ?_
 refine aQ 1 [0] (dW (ys:=[]) (rows:=(([]:List cp)).map fk) 0 lX rfl (by decide) trivial rfl rfl rfl rfl) rfl ?_
 refine ad aa 1 rfl ?_
 refine aQ 2 [1] (dx (m:=l.length) (N:=l.length) (k2:=1) (ys:=(l).map fk) lX rfl rfl rfl rfl rfl rfl (by first|omega|(simp;omega)|(simp;done)) rfl (.d _ _) (by first|omega|(simp;omega)|(simp;done)) (by first|omega|(simp;omega)|(simp;done)) rfl (by decide) (by first|omega|(simp;omega)|(simp;done)) (by first|omega|(simp;omega)|(simp;done))) rfl ?_
 refine ad aa 1 rfl ?_
 refine af ?_
 refine ay ?_
 refine an aa [1] 1 rfl rfl rfl rfl rfl rfl ?_ ?_
 ·first|rfl|simp [fL,aC]
 ·first|rfl|simp
theorem vw (l:List (List D)) (hl:l.length * 64<=140737488355328):Fn Try.prog 94 [(.c (cR 6 ((l).map id)))] (aC (.s 0 0 6 l.length)) [(0,.arr 61 6 (l.map id))]:=by
 refine Fn.mk' 8 [(0,(aC (cR 6 ((l).map id))))] Try.func94 rfl rfl rfl rfl ?_
 intro W0 T0
 refine dj 0 rfl (fun hlen0=>?_)
 refine ae aa 1 rfl ?_
 refine ag ?_
 refine aF aa 1 rfl ?_
 refine ie (ah.plain rfl) rfl rfl Try.underlying29 rfl rfl (fun bn1 hbn1=>?_)
 refine af ?_
 refine aj rfl (fun hc2=>?_) (fun hc2=>?_)
 ·
  have hc2':=hc2;try simp only [bu,bR] at hc2'
  refine ae aa 1 rfl ?_
  refine ay ?_
  refine ar ?_
  refine da (aH.nil 2 61 6 (by decide) rfl) ?_
  refine an aa [0] 1 rfl rfl rfl rfl rfl rfl ?_ ?_
  ·(have h0:=hbn1 (by assumption);have h1:l=[]:=by (cases l with|nil=>rfl|cons=>simp at h0));subst h1;rfl
  ·(have h0:=hbn1 (by assumption);have h1:l=[]:=by (cases l with|nil=>rfl|cons=>simp at h0));subst h1;rfl
 have hc2':=hc2;try simp only [bu,bR] at hc2'
 refine aP ?_
 refine fa ?_
 refine aQ 1 [0] (dW (ys:=[]) (rows:=(([]:List (List D))).map id) 0 xu rfl (by decide) trivial rfl rfl rfl rfl) rfl ?_
 refine ad aa 1 rfl ?_
 refine aQ 2 [1] (dx (m:=l.length) (N:=0+l.length) (k2:=1) (ys:=(l).map id) xu rfl rfl rfl rfl rfl rfl (by first|omega|(simp;omega)|(simp;done)) rfl (.d _ _) (by first|omega|(simp;omega)|(simp;done)) (by first|omega|(simp;omega)|(simp;done)) fA (by decide) (by first|omega|(simp;omega)|(simp;done)) (by first|omega|(simp;omega)|(simp;done))) rfl ?_
 refine ad aa 1 rfl ?_
 refine af ?_
 refine ay ?_
 refine an aa [1] 1 rfl rfl rfl rfl rfl rfl ?_ ?_
 ·first|rfl|simp [fL,aC]
 ·first|rfl|simp

theorem ke (v w:Value) (b:Bk) (l1:b.aq.length<=8) (l2:b.due.length<=8) (l3:b.ax.length<=30) (l4:b.aR.length<=100):cJ Try.prog 74 [(.c (.p 0 0 0 0))] [(0,(.box 98 (aX b 1 2 3 4 (.d (.v v)) (.d (.v w))))),(1,(dO b.aq)),(2,(dF b.due)),(3,(dR b.ax)),(4,(cP b.aR))] [0] (.v (.c (.p 1 0 0 0))) [(0,(.box 98 (aX b 2 3 4 5 (.d (.v v)) (.d (.v w))))),(1,(.box 147 (aX b 6 7 8 9 (.d (.v v)) (cI 0)))),(2,(dO b.aq)),(3,(dF b.due)),(4,(dR b.ax)),(5,(cP b.aR)),(6,(dO b.aq)),(7,(dF b.due)),(8,(dR b.ax)),(9,(cP b.aR))]:=by
 refine cJ.mk 51 [(0,(aC (.p 0 0 0 0)))] 5 Try.func74 rfl rfl rfl rfl rfl rfl rfl rfl rfl ?_
 intro W0 F0 T0 pg
 refine ae aa 1 rfl ?_
 refine ae aa 7 rfl ?_
 refine ag ?_
 refine dd [0,3] [5,0,1,2,3,4] mixed rfl rfl ?_
 refine bP (kn:=[]) aa 9 rfl trivial ?_
 refine bU (n':=7) [18] [1] rfl rfl (.inl ⟨(ah.plain rfl),aE.cast (Be 6 (fun l hl=>vw l (by rw [hl];first|omega|(simp;done)|(simp;omega))) Gj rfl rfl rfl rfl rfl (by simp)) rfl⟩) rfl ?_
 refine bP (kn:=[]) aa 5 rfl trivial ?_
 refine bU (n':=8) [24] [2] rfl rfl (.inl ⟨(ah.plain rfl),aE.cast (fP 7 [2] (pC b.due (by first|omega|(simp;done)|(simp;omega))) DS rfl rfl ⟨⟨_,rfl,.c (.s rfl (by decide) (by first|omega|(simp;done)|(simp;omega)))⟩,trivial⟩ trivial ⟨(Dv _),trivial⟩ rfl rfl rfl rfl) rfl⟩) rfl ?_
 refine bP (kn:=[]) aa 5 rfl trivial ?_
 refine bU (n':=9) [30] [3] rfl rfl (.inl ⟨(ah.plain rfl),aE.cast (fP 8 [3] (vx b.ax (by first|omega|(simp;done)|(simp;omega))) Gi rfl rfl ⟨⟨_,rfl,.c (.s rfl (by decide) (by first|omega|(simp;done)|(simp;omega)))⟩,trivial⟩ trivial ⟨(zl _),trivial⟩ rfl rfl rfl rfl) rfl⟩) rfl ?_
 refine bP (kn:=[]) aa 5 rfl trivial ?_
 refine bU (n':=10) [36] [4] rfl rfl (.inl ⟨(ah.plain rfl),aE.cast (fP 9 [4] (mz b.aR (by first|omega|(simp;done)|(simp;omega))) Ee rfl rfl ⟨⟨_,rfl,.c (.s rfl (by decide) (by first|omega|(simp;done)|(simp;omega)))⟩,trivial⟩ trivial ⟨(vP _),trivial⟩ rfl rfl rfl rfl) rfl⟩) rfl ?_
 refine bP (kn:=[]) aa 16 rfl trivial ?_
 refine dJ [3] [5,9,8,7,6,0,1,2,3,4] rfl rfl (by kernel_rfl) ?_
 refine then_ok ?_
 refine ae aa 2 rfl ?_
 refine ay ?_
 refine an aa [0,5,1,2,3,4,6,7,8,9] 10 rfl rfl rfl rfl rfl rfl ?_ ?_
 all_goals first|rfl|(simp [az,aX,bc];done)|(simp [az,aX,bc];omega)
theorem fi (v w:Value) (b c:Bk) (e:Int) (he:e=0):cJ Try.prog 77 [(.c (.p 0 0 0 0)),(.c (.p 1 0 0 0))] [(0,(.box 98 (aX b 2 3 4 5 (.d (.v v)) (.d (.v w))))),(1,(.box 147 (aX c 6 7 8 9 (.d (.v v)) (cI e)))),(2,(dO b.aq)),(3,(dF b.due)),(4,(dR b.ax)),(5,(cP b.aR)),(6,(dO c.aq)),(7,(dF c.due)),(8,(dR c.ax)),(9,(cP c.aR))] [0] (.v (.c (cI e))) [(0,(.box 98 (aX c 1 2 3 4 (.d (.v v)) (.d (.v w))))),(1,(dO c.aq)),(2,(dF c.due)),(3,(dR c.ax)),(4,(cP c.aR))]:=by
 refine cJ.mk 21 [(0,(aC (.p 0 0 0 0))),(1,(aC (.p 1 0 0 0)))] 10 Try.func77 rfl rfl rfl rfl rfl rfl rfl rfl rfl ?_
 intro W0 F0 T0 pg
 refine ae aa 1 rfl ?_
 refine ag ?_
 refine ae aa 5 rfl ?_
 refine aj rfl (fun hc1=>?_) (fun hc1=>?_)
 ·
  have hc1':=of_decide_eq_true hc1
  refine aw ?_
  refine ad aa 8 rfl ?_
  refine af ?_
  refine ae aa 5 rfl ?_
  refine ay ?_
  refine an aa [0,6,7,8,9] 5 rfl rfl rfl rfl rfl rfl ?_ ?_
  all_goals first|rfl|(simp [az,aX,bc];done)|(simp [az,aX,bc];omega)
 have hc1':=of_decide_eq_false hc1
 (exfalso;simp_all)
theorem fS (v w:Value) (b c:Bk) (e:Int) (he:¬e=0):cJ Try.prog 77 [(.c (.p 0 0 0 0)),(.c (.p 1 0 0 0))] [(0,(.box 98 (aX b 2 3 4 5 (.d (.v v)) (.d (.v w))))),(1,(.box 147 (aX c 6 7 8 9 (.d (.v v)) (cI e)))),(2,(dO b.aq)),(3,(dF b.due)),(4,(dR b.ax)),(5,(cP b.aR)),(6,(dO c.aq)),(7,(dF c.due)),(8,(dR c.ax)),(9,(cP c.aR))] [0] (.v (.c (cI e))) [(0,(.box 98 (aX b 1 2 3 4 (.d (.v v)) (.d (.v w))))),(1,(dO b.aq)),(2,(dF b.due)),(3,(dR b.ax)),(4,(cP b.aR))]:=by
 refine cJ.mk 21 [(0,(aC (.p 0 0 0 0))),(1,(aC (.p 1 0 0 0)))] 10 Try.func77 rfl rfl rfl rfl rfl rfl rfl rfl rfl ?_
 intro W0 F0 T0 pg
 refine ae aa 1 rfl ?_
 refine ag ?_
 refine ae aa 5 rfl ?_
 refine aj rfl (fun hc1=>?_) (fun hc1=>?_)
 ·
  have hc1':=of_decide_eq_true hc1
  (exfalso;simp_all)
 have hc1':=of_decide_eq_false hc1
 refine aP ?_
 refine ae aa 5 rfl ?_
 refine ay ?_
 refine an aa [0,2,3,4,5] 5 rfl rfl rfl rfl rfl rfl ?_ ?_
 all_goals first|rfl|(simp [az,aX,bc];done)|(simp [az,aX,bc];omega)

theorem BB (x:Nat->Value) (hx:∀ i,(x i).oneCell'=true) (s0 s1:bY) (n0 n1:Int) (w0 w1:List cp) (idn kind aD move sum:Int) (l0:w0.length<=60) (l1:w1.length<=60) (m0:s0.kept.length<=40) (m1:s1.kept.length<=40) (v0:List cp) (v1:List cp) (a2:Answer) (hr:ew s0 s1 n0 n1 w0 w1 (⟨idn,kind,0,aD,move,sum⟩:bB)=(v0,v1,a2)):cJ Try.prog 66 [(.c (.p 0 0 0 0)),(.c (.q (df (⟨idn,kind,0,aD,move,sum⟩:bB)) 0))] [(0,(.box 98 (((((((((bc x).set 5 (cI s0.bz)).set 6 (cw s0.kept)).set 7 (cI s1.bz)).set 8 (cw s1.kept)).set 9 (cI n0)).set 10 (cI n1)).set 11 (cW w0)).set 12 (cW w1))))] [0] (.v (.g [cI a2.err,cI a2.aZ])) [(0,(.box 98 (((((((((bc x).set 5 (cI s0.bz)).set 6 (cw s0.kept)).set 7 (cI s1.bz)).set 8 (cw s1.kept)).set 9 (cI n0)).set 10 (cI n1)).set 11 (cW v0)).set 12 (cW v1))))]:=by
 refine cJ.Dt 83 [(0,(aC (.p 0 0 0 0))),(1,(aC (.q (df (⟨idn,kind,0,aD,move,sum⟩:bB)) 0)))] 1 Try.func66 rfl rfl rfl rfl rfl rfl rfl rfl rfl ?_
 intro W0 F0 T0 pg hF
 have hF0:∀ b,F0 b->(pg 0).g=b:=fun b hb=>by obtain ⟨k,hk,h⟩:=hF b hb;rw [List.mem_singleton.1 hk] at h;exact h
 refine ae aa 1 rfl ?_
 refine ag ?_
 refine ck 20 (false) ?_ ?_
 ·
  refine aw ?_
  refine ad aa 4 rfl ?_
  refine aA (aK rfl rfl rfl (show _=some (Value.bool false) from rfl)) rfl ?_
  refine ad aa 7 rfl ?_
  refine af ?_
  exact aH.bA 12 rfl rfl (by first|(simp [];done)|(simp_all;done)|(exfalso;simp_all;done)|(simp_all;omega)) rfl
 refine aj rfl (fun hno=>by cases hno) (fun _=>?_)
 refine aP ?_
 refine ae aa 6 rfl ?_
 refine aF aa 5 rfl ?_
 refine aA (cE (i:=1) rfl rfl rfl Try.underlying38 gr rfl (by decide)) rfl ?_
 refine ad aa 1 rfl ?_
 refine aQ 3 [2,1,0] (bX 2 (mA w1 (by first|omega|(simp;done)|(simp;omega))) DX rfl rfl ⟨⟨_,rfl,.c (.d _)⟩,trivial⟩ trivial ⟨(fun _ _ _ _=>trivial),trivial⟩ rfl rfl rfl rfl) rfl ?_
 refine ad aa 1 rfl ?_
 refine af ?_
 refine ag ?_
 refine ag ?_
 refine aW [0,1,4,5,6] [2,1,0] mixed rfl rfl ?_
 refine au (kn:=[]) aa 8 rfl trivial ?_
 refine aM (n':=3) [42,39] [0] rfl rfl (.inl ⟨(ah.plain rfl),aE.cast (cE (i:=0) rfl rfl rfl Try.underlying35 ju rfl (by decide)) rfl⟩) rfl ?_
 refine au (kn:=[]) aa 2 rfl trivial ?_
 refine aM (n':=3) [45] [] rfl rfl (.inl ⟨(ah.plain rfl),aE.cast (bQ rfl rfl rfl rfl rfl Try.underlying32) rfl⟩) rfl ?_
 refine au (kn:=[]) aa 1 rfl trivial ?_
 refine br [2,1,0] rfl rfl rfl rfl (by kernel_rfl) ?_
 refine af ?_
 refine aU ?_
 refine cj (β:=Nat×List cp) (fun (p:Nat×List cp)=>match p with|(q,m)=>⟨[(0,(aC (.p 0 0 0 0))),(1,(aC (.q (df (⟨idn,kind,0,aD,move,sum⟩:bB)) 0))),(4,(aC (.p 1 0 0 0))),(5,(aI 1)),(6,(aC (.s 2 0 5 m.length))),(45,(aC (cw s0.kept))),(46,(aI (↑s0.kept.length:Int))),(47,(aI (↑q:Int)))],[(2,(EG m)),(1,(.box 65 [(cI 0),(cI 0)])),(0,(.box 98 (((((((((bc x).set 5 (cI s0.bz)).set 6 (cw s0.kept)).set 7 (cI s1.bz)).set 8 (cw s1.kept)).set 9 (cI n0)).set 10 (cI n1)).set 11 (cW w0)).set 12 (cW w1))))],3⟩) (fun (p:Nat×List cp)=>match p with|(q,m)=>q<=s0.kept.length/\m=w1++(s0.kept.take q).map (fun t=>(⟨t,-1⟩:cp))) (fun (p:Nat×List cp)=>match p with|(q,m)=>s0.kept.length - q) (0,w1) ?_ ?_ ?_
 ·exact ⟨by omega,by simp⟩
 ·exact aH.bS id (by refine ⟨?_,?_,?_,?_,?_,?_,?_,?_,trivial⟩<;>first|rfl|(simp only [bh];done)|(congr 3;omega)|(congr 4;omega)|(simp only [bj];rfl)) (by refine ⟨?_,?_,?_,trivial⟩<;>first|rfl|(simp only [bh];done)|(congr 3;omega)|(congr 4;omega)|(simp only [bj];rfl)) rfl
 rintro ⟨q,m⟩ ⟨hi0_0,hi0_1⟩
 have hml:m.length=w1.length+q:=by rw [hi0_1];simp;omega
 refine ae aa 1 rfl ?_
 refine ag ?_
 refine aj rfl (fun hc2=>?_) (fun hc2=>?_)
 ·
  have hc2':=of_decide_eq_true hc2
  refine aP ?_
  refine ag ?_
  refine aU ?_
  refine fa ?_
  obtain ⟨x1,hx1⟩:=cb (xs:=s0.kept) (i:=q) (by first|omega|(simp;done)|(simp;omega))
  refine aA (ca (i:=q) rfl rfl rfl Try.underlying32 jP (by first|omega|(simp;done)|(simp;omega)) (bf hx1)) rfl ?_
  refine ad aa 3 rfl ?_
  refine af ?_
  refine aw ?_
  refine ad aa 3 rfl ?_
  refine aQ 5 [4,3,2,1,0] (dW (ys:=[(0,(.g [(cI x1.number),(cI x1.kind),(cI x1.aZ),(cI x1.sum),(cI (-1))]))]) (rows:=([(⟨x1,(-1)⟩:cp)]).map fk) 4 lX rfl (by decide) ⟨⟨rfl,rfl⟩,trivial⟩ rfl rfl rfl rfl) rfl ?_
  refine aQ 6 [5,4,3,1,0] (dx (m:=1) (N:=m.length+1) (k2:=5) (ys:=([(⟨x1,(-1)⟩:cp)]).map fk) lX rfl rfl rfl rfl rfl rfl (by first|omega|(simp;done)|(simp;omega)) rfl (.s rfl (by first|omega|(simp;done)|(simp;omega))) (by first|omega|(simp;done)|(simp;omega)) (by first|omega|(simp;done)|(simp;omega)) fA (by decide) (by first|omega|(simp;done)|(simp;omega)) (by first|omega|(simp;done)|(simp;omega))) rfl ?_
  refine ad aa 1 rfl ?_
  refine cf ?_
  refine bl ?_
  refine then_ok ?_
  refine aw ?_
  refine aA (aK rfl rfl rfl (aL (by first|omega|(simp;done)|(simp;omega)))) rfl ?_
  refine ad aa 1 rfl ?_
  refine af ?_
  refine ⟨(q+1,m++([(⟨x1,(-1)⟩:cp)])),⟨by omega,by rw [List.take_add_one,hx1,List.map_append,<-List.append_assoc,<-hi0_1];rfl⟩,by first|omega|(simp;done)|(simp;omega),aH.bS (fun k=>if k=2 then 5 else k) (by refine ⟨?_,?_,?_,?_,?_,?_,?_,?_,trivial⟩<;>first|rfl|(simp only [bh];done)|(congr 3;omega)|(congr 4;omega)|(simp only [bj];rfl)|(first|exact cU rfl (by omega)|exact nU rfl (by simp only [List.length_append,List.length_cons,List.length_nil];omega))) (by refine ⟨?_,?_,?_,trivial⟩<;>first|rfl|(simp only [bh];done)|(congr 3;omega)|(congr 4;omega)|(simp only [bj];rfl)) rfl⟩
 have hc2':=of_decide_eq_false hc2
 refine bZ ?_
 refine aO ?_
 refine aO ?_
 refine bF ?_
 refine then_ok ?_
 refine ag ?_
 refine aW [0,1,4,5,6,45,46,47] [2,1,0] mixed rfl rfl ?_
 refine au (kn:=[]) aa 9 rfl trivial ?_
 refine aM (n':=3) [65,62] [0] rfl rfl (.inl ⟨(ah.plain rfl),aE.cast (cE (i:=0) rfl rfl rfl Try.underlying36 fF rfl (by decide)) rfl⟩) rfl ?_
 refine au (kn:=[]) aa 2 rfl trivial ?_
 refine aM (n':=4) [68] [] rfl rfl (.inl ⟨(ah.plain rfl),aE.cast (dW (ys:=[(0,(.g [(cI 0),(cI 0),(cI 0),(cI 0),(cI n0)]))]) (rows:=([(⟨(⟨0,0,0,0⟩:bq),n0⟩:cp)]).map fk) 3 lX rfl (by decide) ⟨⟨rfl,rfl⟩,trivial⟩ rfl rfl rfl rfl) rfl⟩) rfl ?_
 refine aM (n':=5) [57,69] [3,2] rfl rfl (.inl ⟨(ah.plain rfl),aE.cast (dx (m:=1) (N:=m.length+1) (k2:=4) (ys:=([(⟨(⟨0,0,0,0⟩:bq),n0⟩:cp)]).map fk) lX rfl rfl rfl rfl rfl rfl (by first|omega|(simp;done)|(simp;omega)) rfl (.s rfl (by first|omega|(simp;done)|(simp;omega))) (by first|omega|(simp;done)|(simp;omega)) (by first|omega|(simp;done)|(simp;omega)) fA (by decide) (by first|omega|(simp;done)|(simp;omega)) (by first|omega|(simp;done)|(simp;omega))) rfl⟩) rfl ?_
 refine br [4,1,0] rfl rfl rfl rfl (by kernel_rfl) ?_
 refine ad aa 1 rfl ?_
 refine af ?_
 refine ag ?_
 refine aF aa 1 rfl ?_
 refine aA (du rfl rfl rfl rfl rfl Try.underlying37) rfl ?_
 refine ad aa 1 rfl ?_
 refine af ?_
 refine aj rfl (fun hc3=>?_) (fun hc3=>?_)
 ·
  have hc3':=of_decide_eq_true hc3
  refine ae aa 2 rfl ?_
  refine ay ?_
  refine ar ?_
  have hX:ew s0 s1 n0 n1 w0 w1 (⟨idn,kind,0,aD,move,sum⟩:bB)=(w0,w1,(⟨5,0⟩:Answer)):=by
    (have ht:s0.kept.take q=s0.kept:=List.take_of_length_le (by omega));rw [ht] at hi0_1;unfold ew;dsimp only;rw [if_pos rfl];unfold ja lK;rw [<-hi0_1];first|rw [if_pos (by simp;omega)]|rw [if_neg (by simp;omega)]
  rw [hX] at hr;clear hX
  simp only [Prod.mk.injEq] at hr;obtain ⟨rfl,rfl,rfl⟩:=hr
  refine an aa [0,1] 1 rfl rfl rfl rfl rfl rfl ?_ ?_
  all_goals first|rfl|(simp [az,aX,bc];done)|(simp [az,aX,bc];omega)
 have hc3':=of_decide_eq_false hc3
 refine aP ?_
 refine rq (s':=[(0,(aC (.p 0 0 0 0))),(1,(aC (.q (df (⟨idn,kind,0,aD,move,sum⟩:bB)) 0))),(4,(aC (.p 1 0 0 0))),(5,(aI 1)),(6,(aC (cW (m++([(⟨(⟨0,0,0,0⟩:bq),n0⟩:cp)]))))),(45,(aC (cw s0.kept))),(46,(aI (↑s0.kept.length:Int))),(47,(aI (↑q:Int))),(70,(aC (cW (m++([(⟨(⟨0,0,0,0⟩:bq),n0⟩:cp)]))))),(71,(aC (cW (m++([(⟨(⟨0,0,0,0⟩:bq),n0⟩:cp)]))))),(72,(aI (↑(m.length+1):Int))),(73,(aB (decide ((↑(m.length+1):Int) > 60))))]) (h':=[(1,(.box 65 [(cI 0),(cI 0)])),(0,(.box 98 (((((((((bc x).set 5 (cI s0.bz)).set 6 (cw s0.kept)).set 7 (cI s1.bz)).set 8 (cw s1.kept)).set 9 (cI n0)).set 10 (cI n1)).set 11 (cW w0)).set 12 (cW w1))))]) hF0 4 rfl rfl ⟨⟨_,rfl,.inl ⟨rfl,rfl⟩⟩,⟨_,rfl,.inl ⟨rfl,rfl⟩⟩,⟨_,rfl,.inl ⟨rfl,rfl⟩⟩,⟨_,rfl,.inl ⟨rfl,rfl⟩⟩,⟨_,rfl,.inr ⟨_,_,rfl,rfl,.s rfl (by decide) (by first|omega|(simp;done)|(simp;omega))⟩⟩,⟨_,rfl,.inl ⟨rfl,rfl⟩⟩,⟨_,rfl,.inl ⟨rfl,rfl⟩⟩,⟨_,rfl,.inl ⟨rfl,rfl⟩⟩,⟨_,rfl,.inr ⟨_,_,rfl,rfl,.s rfl (by decide) (by first|omega|(simp;done)|(simp;omega))⟩⟩,⟨_,rfl,.inr ⟨_,_,rfl,rfl,.s rfl (by decide) (by first|omega|(simp;done)|(simp;omega))⟩⟩,⟨_,rfl,.inl ⟨rfl,rfl⟩⟩,⟨_,rfl,.inl ⟨rfl,rfl⟩⟩,trivial⟩ ⟨rfl,rfl,trivial⟩ rfl ?_
 refine aF aa 6 rfl ?_
 refine aA (cE (i:=1) rfl rfl rfl Try.underlying38 gr rfl (by decide)) rfl ?_
 refine ad aa 1 rfl ?_
 refine af ?_
 refine ae aa 2 rfl ?_
 refine ay ?_
 have hX:ew s0 s1 n0 n1 w0 w1 (⟨idn,kind,0,aD,move,sum⟩:bB)=(w0,m++([(⟨(⟨0,0,0,0⟩:bq),n0⟩:cp)]),(⟨0,0⟩:Answer)):=by
   (have ht:s0.kept.take q=s0.kept:=List.take_of_length_le (by omega));rw [ht] at hi0_1;unfold ew;dsimp only;rw [if_pos rfl];unfold ja lK;rw [<-hi0_1];first|rw [if_pos (by simp;omega)]|rw [if_neg (by simp;omega)]
 rw [hX] at hr;clear hX
 simp only [Prod.mk.injEq] at hr;obtain ⟨rfl,rfl,rfl⟩:=hr
 refine an aa [0,1] 1 rfl rfl rfl rfl rfl rfl ?_ ?_
 all_goals first|rfl|(simp [az,aX,bc];done)|(simp [az,aX,bc];omega)
theorem BA (x:Nat->Value) (hx:∀ i,(x i).oneCell'=true) (s0 s1:bY) (n0 n1:Int) (w0 w1:List cp) (idn kind aD move sum:Int) (l0:w0.length<=60) (l1:w1.length<=60) (m0:s0.kept.length<=40) (m1:s1.kept.length<=40) (v0:List cp) (v1:List cp) (a2:Answer) (hr:ew s0 s1 n0 n1 w0 w1 (⟨idn,kind,1,aD,move,sum⟩:bB)=(v0,v1,a2)):cJ Try.prog 66 [(.c (.p 0 0 0 0)),(.c (.q (df (⟨idn,kind,1,aD,move,sum⟩:bB)) 0))] [(0,(.box 98 (((((((((bc x).set 5 (cI s0.bz)).set 6 (cw s0.kept)).set 7 (cI s1.bz)).set 8 (cw s1.kept)).set 9 (cI n0)).set 10 (cI n1)).set 11 (cW w0)).set 12 (cW w1))))] [0] (.v (.g [cI a2.err,cI a2.aZ])) [(0,(.box 98 (((((((((bc x).set 5 (cI s0.bz)).set 6 (cw s0.kept)).set 7 (cI s1.bz)).set 8 (cw s1.kept)).set 9 (cI n0)).set 10 (cI n1)).set 11 (cW v0)).set 12 (cW v1))))]:=by
 refine cJ.Dt 83 [(0,(aC (.p 0 0 0 0))),(1,(aC (.q (df (⟨idn,kind,1,aD,move,sum⟩:bB)) 0)))] 1 Try.func66 rfl rfl rfl rfl rfl rfl rfl rfl rfl ?_
 intro W0 F0 T0 pg hF
 have hF0:∀ b,F0 b->(pg 0).g=b:=fun b hb=>by obtain ⟨k,hk,h⟩:=hF b hb;rw [List.mem_singleton.1 hk] at h;exact h
 refine ae aa 1 rfl ?_
 refine ag ?_
 refine ck 20 (false) ?_ ?_
 ·
  refine aw ?_
  refine ad aa 4 rfl ?_
  refine aA (aK rfl rfl rfl (show _=some (Value.bool true) from rfl)) rfl ?_
  refine ad aa 5 rfl ?_
  refine cC (ah.yes rfl rfl rfl) (aK rfl rfl rfl (show _=some (Value.bool false) from rfl)) rfl rfl ?_
  refine ad aa 1 rfl ?_
  refine af ?_
  exact aH.bA 12 rfl rfl (by first|(simp [];done)|(simp_all;done)|(exfalso;simp_all;done)|(simp_all;omega)) rfl
 refine aj rfl (fun hno=>by cases hno) (fun _=>?_)
 refine aP ?_
 refine ae aa 6 rfl ?_
 refine aF aa 5 rfl ?_
 refine aA (cE (i:=0) rfl rfl rfl Try.underlying38 gr rfl (by decide)) rfl ?_
 refine ad aa 1 rfl ?_
 refine aQ 3 [2,1,0] (bX 2 (mA w0 (by first|omega|(simp;done)|(simp;omega))) DX rfl rfl ⟨⟨_,rfl,.c (.d _)⟩,trivial⟩ trivial ⟨(fun _ _ _ _=>trivial),trivial⟩ rfl rfl rfl rfl) rfl ?_
 refine ad aa 1 rfl ?_
 refine af ?_
 refine ag ?_
 refine ag ?_
 refine aW [0,1,4,5,6] [2,1,0] mixed rfl rfl ?_
 refine au (kn:=[]) aa 8 rfl trivial ?_
 refine aM (n':=3) [42,39] [0] rfl rfl (.inl ⟨(ah.plain rfl),aE.cast (cE (i:=1) rfl rfl rfl Try.underlying35 ju rfl (by decide)) rfl⟩) rfl ?_
 refine au (kn:=[]) aa 2 rfl trivial ?_
 refine aM (n':=3) [45] [] rfl rfl (.inl ⟨(ah.plain rfl),aE.cast (bQ rfl rfl rfl rfl rfl Try.underlying32) rfl⟩) rfl ?_
 refine au (kn:=[]) aa 1 rfl trivial ?_
 refine br [2,1,0] rfl rfl rfl rfl (by kernel_rfl) ?_
 refine af ?_
 refine aU ?_
 refine cj (β:=Nat×List cp) (fun (p:Nat×List cp)=>match p with|(q,m)=>⟨[(0,(aC (.p 0 0 0 0))),(1,(aC (.q (df (⟨idn,kind,1,aD,move,sum⟩:bB)) 0))),(4,(aC (.p 1 0 0 0))),(5,(aI 0)),(6,(aC (.s 2 0 5 m.length))),(45,(aC (cw s1.kept))),(46,(aI (↑s1.kept.length:Int))),(47,(aI (↑q:Int)))],[(2,(EG m)),(1,(.box 65 [(cI 0),(cI 0)])),(0,(.box 98 (((((((((bc x).set 5 (cI s0.bz)).set 6 (cw s0.kept)).set 7 (cI s1.bz)).set 8 (cw s1.kept)).set 9 (cI n0)).set 10 (cI n1)).set 11 (cW w0)).set 12 (cW w1))))],3⟩) (fun (p:Nat×List cp)=>match p with|(q,m)=>q<=s1.kept.length/\m=w0++(s1.kept.take q).map (fun t=>(⟨t,-1⟩:cp))) (fun (p:Nat×List cp)=>match p with|(q,m)=>s1.kept.length - q) (0,w0) ?_ ?_ ?_
 ·exact ⟨by omega,by simp⟩
 ·exact aH.bS id (by refine ⟨?_,?_,?_,?_,?_,?_,?_,?_,trivial⟩<;>first|rfl|(simp only [bh];done)|(congr 3;omega)|(congr 4;omega)|(simp only [bj];rfl)) (by refine ⟨?_,?_,?_,trivial⟩<;>first|rfl|(simp only [bh];done)|(congr 3;omega)|(congr 4;omega)|(simp only [bj];rfl)) rfl
 rintro ⟨q,m⟩ ⟨hi0_0,hi0_1⟩
 have hml:m.length=w0.length+q:=by rw [hi0_1];simp;omega
 refine ae aa 1 rfl ?_
 refine ag ?_
 refine aj rfl (fun hc2=>?_) (fun hc2=>?_)
 ·
  have hc2':=of_decide_eq_true hc2
  refine aP ?_
  refine ag ?_
  refine aU ?_
  refine fa ?_
  obtain ⟨x1,hx1⟩:=cb (xs:=s1.kept) (i:=q) (by first|omega|(simp;done)|(simp;omega))
  refine aA (ca (i:=q) rfl rfl rfl Try.underlying32 jP (by first|omega|(simp;done)|(simp;omega)) (bf hx1)) rfl ?_
  refine ad aa 3 rfl ?_
  refine af ?_
  refine aw ?_
  refine ad aa 3 rfl ?_
  refine aQ 5 [4,3,2,1,0] (dW (ys:=[(0,(.g [(cI x1.number),(cI x1.kind),(cI x1.aZ),(cI x1.sum),(cI (-1))]))]) (rows:=([(⟨x1,(-1)⟩:cp)]).map fk) 4 lX rfl (by decide) ⟨⟨rfl,rfl⟩,trivial⟩ rfl rfl rfl rfl) rfl ?_
  refine aQ 6 [5,4,3,1,0] (dx (m:=1) (N:=m.length+1) (k2:=5) (ys:=([(⟨x1,(-1)⟩:cp)]).map fk) lX rfl rfl rfl rfl rfl rfl (by first|omega|(simp;done)|(simp;omega)) rfl (.s rfl (by first|omega|(simp;done)|(simp;omega))) (by first|omega|(simp;done)|(simp;omega)) (by first|omega|(simp;done)|(simp;omega)) fA (by decide) (by first|omega|(simp;done)|(simp;omega)) (by first|omega|(simp;done)|(simp;omega))) rfl ?_
  refine ad aa 1 rfl ?_
  refine cf ?_
  refine bl ?_
  refine then_ok ?_
  refine aw ?_
  refine aA (aK rfl rfl rfl (aL (by first|omega|(simp;done)|(simp;omega)))) rfl ?_
  refine ad aa 1 rfl ?_
  refine af ?_
  refine ⟨(q+1,m++([(⟨x1,(-1)⟩:cp)])),⟨by omega,by rw [List.take_add_one,hx1,List.map_append,<-List.append_assoc,<-hi0_1];rfl⟩,by first|omega|(simp;done)|(simp;omega),aH.bS (fun k=>if k=2 then 5 else k) (by refine ⟨?_,?_,?_,?_,?_,?_,?_,?_,trivial⟩<;>first|rfl|(simp only [bh];done)|(congr 3;omega)|(congr 4;omega)|(simp only [bj];rfl)|(first|exact cU rfl (by omega)|exact nU rfl (by simp only [List.length_append,List.length_cons,List.length_nil];omega))) (by refine ⟨?_,?_,?_,trivial⟩<;>first|rfl|(simp only [bh];done)|(congr 3;omega)|(congr 4;omega)|(simp only [bj];rfl)) rfl⟩
 have hc2':=of_decide_eq_false hc2
 refine bZ ?_
 refine aO ?_
 refine aO ?_
 refine bF ?_
 refine then_ok ?_
 refine ag ?_
 refine aW [0,1,4,5,6,45,46,47] [2,1,0] mixed rfl rfl ?_
 refine au (kn:=[]) aa 9 rfl trivial ?_
 refine aM (n':=3) [65,62] [0] rfl rfl (.inl ⟨(ah.plain rfl),aE.cast (cE (i:=1) rfl rfl rfl Try.underlying36 fF rfl (by decide)) rfl⟩) rfl ?_
 refine au (kn:=[]) aa 2 rfl trivial ?_
 refine aM (n':=4) [68] [] rfl rfl (.inl ⟨(ah.plain rfl),aE.cast (dW (ys:=[(0,(.g [(cI 0),(cI 0),(cI 0),(cI 0),(cI n1)]))]) (rows:=([(⟨(⟨0,0,0,0⟩:bq),n1⟩:cp)]).map fk) 3 lX rfl (by decide) ⟨⟨rfl,rfl⟩,trivial⟩ rfl rfl rfl rfl) rfl⟩) rfl ?_
 refine aM (n':=5) [57,69] [3,2] rfl rfl (.inl ⟨(ah.plain rfl),aE.cast (dx (m:=1) (N:=m.length+1) (k2:=4) (ys:=([(⟨(⟨0,0,0,0⟩:bq),n1⟩:cp)]).map fk) lX rfl rfl rfl rfl rfl rfl (by first|omega|(simp;done)|(simp;omega)) rfl (.s rfl (by first|omega|(simp;done)|(simp;omega))) (by first|omega|(simp;done)|(simp;omega)) (by first|omega|(simp;done)|(simp;omega)) fA (by decide) (by first|omega|(simp;done)|(simp;omega)) (by first|omega|(simp;done)|(simp;omega))) rfl⟩) rfl ?_
 refine br [4,1,0] rfl rfl rfl rfl (by kernel_rfl) ?_
 refine ad aa 1 rfl ?_
 refine af ?_
 refine ag ?_
 refine aF aa 1 rfl ?_
 refine aA (du rfl rfl rfl rfl rfl Try.underlying37) rfl ?_
 refine ad aa 1 rfl ?_
 refine af ?_
 refine aj rfl (fun hc3=>?_) (fun hc3=>?_)
 ·
  have hc3':=of_decide_eq_true hc3
  refine ae aa 2 rfl ?_
  refine ay ?_
  refine ar ?_
  have hX:ew s0 s1 n0 n1 w0 w1 (⟨idn,kind,1,aD,move,sum⟩:bB)=(w0,w1,(⟨5,0⟩:Answer)):=by
    (have ht:s1.kept.take q=s1.kept:=List.take_of_length_le (by omega));rw [ht] at hi0_1;unfold ew;dsimp only;rw [if_neg (by decide),if_pos rfl];unfold ja lK;rw [<-hi0_1];first|rw [if_pos (by simp;omega)]|rw [if_neg (by simp;omega)]
  rw [hX] at hr;clear hX
  simp only [Prod.mk.injEq] at hr;obtain ⟨rfl,rfl,rfl⟩:=hr
  refine an aa [0,1] 1 rfl rfl rfl rfl rfl rfl ?_ ?_
  all_goals first|rfl|(simp [az,aX,bc];done)|(simp [az,aX,bc];omega)
 have hc3':=of_decide_eq_false hc3
 refine aP ?_
 refine rq (s':=[(0,(aC (.p 0 0 0 0))),(1,(aC (.q (df (⟨idn,kind,1,aD,move,sum⟩:bB)) 0))),(4,(aC (.p 1 0 0 0))),(5,(aI 0)),(6,(aC (cW (m++([(⟨(⟨0,0,0,0⟩:bq),n1⟩:cp)]))))),(45,(aC (cw s1.kept))),(46,(aI (↑s1.kept.length:Int))),(47,(aI (↑q:Int))),(70,(aC (cW (m++([(⟨(⟨0,0,0,0⟩:bq),n1⟩:cp)]))))),(71,(aC (cW (m++([(⟨(⟨0,0,0,0⟩:bq),n1⟩:cp)]))))),(72,(aI (↑(m.length+1):Int))),(73,(aB (decide ((↑(m.length+1):Int) > 60))))]) (h':=[(1,(.box 65 [(cI 0),(cI 0)])),(0,(.box 98 (((((((((bc x).set 5 (cI s0.bz)).set 6 (cw s0.kept)).set 7 (cI s1.bz)).set 8 (cw s1.kept)).set 9 (cI n0)).set 10 (cI n1)).set 11 (cW w0)).set 12 (cW w1))))]) hF0 4 rfl rfl ⟨⟨_,rfl,.inl ⟨rfl,rfl⟩⟩,⟨_,rfl,.inl ⟨rfl,rfl⟩⟩,⟨_,rfl,.inl ⟨rfl,rfl⟩⟩,⟨_,rfl,.inl ⟨rfl,rfl⟩⟩,⟨_,rfl,.inr ⟨_,_,rfl,rfl,.s rfl (by decide) (by first|omega|(simp;done)|(simp;omega))⟩⟩,⟨_,rfl,.inl ⟨rfl,rfl⟩⟩,⟨_,rfl,.inl ⟨rfl,rfl⟩⟩,⟨_,rfl,.inl ⟨rfl,rfl⟩⟩,⟨_,rfl,.inr ⟨_,_,rfl,rfl,.s rfl (by decide) (by first|omega|(simp;done)|(simp;omega))⟩⟩,⟨_,rfl,.inr ⟨_,_,rfl,rfl,.s rfl (by decide) (by first|omega|(simp;done)|(simp;omega))⟩⟩,⟨_,rfl,.inl ⟨rfl,rfl⟩⟩,⟨_,rfl,.inl ⟨rfl,rfl⟩⟩,trivial⟩ ⟨rfl,rfl,trivial⟩ rfl ?_
 refine aF aa 6 rfl ?_
 refine aA (cE (i:=0) rfl rfl rfl Try.underlying38 gr rfl (by decide)) rfl ?_
 refine ad aa 1 rfl ?_
 refine af ?_
 refine ae aa 2 rfl ?_
 refine ay ?_
 have hX:ew s0 s1 n0 n1 w0 w1 (⟨idn,kind,1,aD,move,sum⟩:bB)=(m++([(⟨(⟨0,0,0,0⟩:bq),n1⟩:cp)]),w1,(⟨0,0⟩:Answer)):=by
   (have ht:s1.kept.take q=s1.kept:=List.take_of_length_le (by omega));rw [ht] at hi0_1;unfold ew;dsimp only;rw [if_neg (by decide),if_pos rfl];unfold ja lK;rw [<-hi0_1];first|rw [if_pos (by simp;omega)]|rw [if_neg (by simp;omega)]
 rw [hX] at hr;clear hX
 simp only [Prod.mk.injEq] at hr;obtain ⟨rfl,rfl,rfl⟩:=hr
 refine an aa [0,1] 1 rfl rfl rfl rfl rfl rfl ?_ ?_
 all_goals first|rfl|(simp [az,aX,bc];done)|(simp [az,aX,bc];omega)
theorem Bz (x:Nat->Value) (hx:∀ i,(x i).oneCell'=true) (s0 s1:bY) (n0 n1:Int) (w0 w1:List cp) (d:bB) (l0:w0.length<=60) (l1:w1.length<=60) (m0:s0.kept.length<=40) (m1:s1.kept.length<=40) (hn:¬d.n=0/\¬d.n=1) (v0:List cp) (v1:List cp) (a2:Answer) (hr:ew s0 s1 n0 n1 w0 w1 d=(v0,v1,a2)):cJ Try.prog 66 [(.c (.p 0 0 0 0)),(.c (.q (df d) 0))] [(0,(.box 98 (((((((((bc x).set 5 (cI s0.bz)).set 6 (cw s0.kept)).set 7 (cI s1.bz)).set 8 (cw s1.kept)).set 9 (cI n0)).set 10 (cI n1)).set 11 (cW w0)).set 12 (cW w1))))] [0] (.v (.g [cI a2.err,cI a2.aZ])) [(0,(.box 98 (((((((((bc x).set 5 (cI s0.bz)).set 6 (cw s0.kept)).set 7 (cI s1.bz)).set 8 (cw s1.kept)).set 9 (cI n0)).set 10 (cI n1)).set 11 (cW v0)).set 12 (cW v1))))]:=by
 refine cJ.Dt 83 [(0,(aC (.p 0 0 0 0))),(1,(aC (.q (df d) 0)))] 1 Try.func66 rfl rfl rfl rfl rfl rfl rfl rfl rfl ?_
 intro W0 F0 T0 pg hF
 have hF0:∀ b,F0 b->(pg 0).g=b:=fun b hb=>by obtain ⟨k,hk,h⟩:=hF b hb;rw [List.mem_singleton.1 hk] at h;exact h
 refine ae aa 1 rfl ?_
 refine ag ?_
 refine ck 20 ((decide (¬d.n=0)) && (decide (¬d.n=1))) ?_ ?_
 ·
  refine aw ?_
  refine ad aa 6 rfl ?_
  refine bE (t:=14) rfl (fun hb1=>?_) (fun hb1=>?_)
  ·
   have hb1':=of_decide_eq_true hb1
   refine ad aa 6 rfl ?_
   refine af ?_
   exact aH.bA 13 rfl rfl (by first|(simp [hb1];done)|(simp_all;done)|(exfalso;simp_all;done)|(simp_all;omega)) rfl
  have hb1':=of_decide_eq_false hb1
  refine ad aa 6 rfl ?_
  refine af ?_
  exact aH.bA 13 rfl rfl (by first|(simp [hb1];done)|(simp_all;done)|(exfalso;simp_all;done)|(simp_all;omega)) rfl
 refine aj rfl (fun hc2=>?_) (fun hc2=>?_)
 ·
  have hc2':=hc2;try simp only [bu,bR] at hc2'
  refine ae aa 2 rfl ?_
  refine ay ?_
  refine ar ?_
  have hX:ew s0 s1 n0 n1 w0 w1 d=(w0,w1,(⟨6,0⟩:Answer)):=by
    unfold ew;rw [if_neg hn.1,if_neg hn.2]
  rw [hX] at hr;clear hX
  simp only [Prod.mk.injEq] at hr;obtain ⟨rfl,rfl,rfl⟩:=hr
  refine an aa [0,1] 1 rfl rfl rfl rfl rfl rfl ?_ ?_
  all_goals first|rfl|(simp [az,aX,bc];done)|(simp [az,aX,bc];omega)
 have hc2':=hc2;try simp only [bu,bR] at hc2'
 (exfalso;simp at *;omega)
theorem Eu (x:Nat->Value) (hx:∀ i,(x i).oneCell'=true) (aR:List al) (days:List (List Int)) (l0:aR.length<=100) (l1:days.length<=1000) (today2:List al) (days2:List (List Int)) (a2:Answer) (hr:gC aR days=(today2,days2,a2)):cJ Try.prog 69 [(.c (.p 0 0 0 0))] [(0,(.box 98 (((bc x).set 16 (.s 1 0 4 aR.length)).set 17 (.s 2 0 1 days.length)))),(1,(cP aR)),(2,(pF days))] [0] (.v (.g [cI a2.err,cI a2.aZ])) [(0,(.box 98 (((bc x).set 16 (.s 1 0 4 today2.length)).set 17 (.s 2 0 1 days2.length)))),(1,(cP today2)),(2,(pF days2))]:=by
 refine cJ.mk 37 [(0,(aC (.p 0 0 0 0)))] 3 Try.func69 rfl rfl rfl rfl rfl rfl rfl rfl rfl ?_
 intro W0 F0 T0 pg
 refine ae aa 1 rfl ?_
 refine aF aa 5 rfl ?_
 obtain ⟨xr0,f0,hr0⟩:∃ (xr0:List Int) (f0:cY),jL aR=(xr0,f0):=⟨_,_,rfl⟩
 refine EL (av':=(.t [(.c (CS xr0)),(.g [(cI f0.err),(cI f0.at_)])])) (ah.plain rfl) (fP 4 [1] (vY aR (by first|omega|(simp;done)|(simp;omega)) xr0 f0 hr0) Gk rfl rfl ⟨⟨_,rfl,.c (.s rfl (by decide) (by first|omega|(simp;done)|(simp;omega)))⟩,trivial⟩ ⟨trivial,⟨rfl,rfl,trivial⟩,trivial⟩ ⟨(Cy _),trivial⟩ rfl rfl rfl rfl) ⟨.inr ⟨_,_,_,_,_,rfl,rfl,rfl,by simp⟩,⟨.inl ⟨_,rfl,rfl⟩,.inl ⟨_,rfl,rfl⟩,trivial⟩,trivial⟩ rfl rfl rfl ?_
 refine ad aa 6 rfl ?_
 refine af ?_
 refine ag ?_
 refine ae aa 3 rfl ?_
 refine aj rfl (fun hc1=>?_) (fun hc1=>?_)
 ·
  have hc1':=of_decide_eq_true hc1
  refine ae aa 4 rfl ?_
  refine ay ?_
  refine ar ?_
  have hX:gC aR days=(aR,days,(⟨f0.err,0⟩:Answer)):=by
    unfold gC;simp only [hr0];(repeat' split)<;>first|rfl|omega|(simp_all;done)
  rw [hX] at hr;clear hX
  simp only [Prod.mk.injEq] at hr;obtain ⟨rfl,rfl,rfl⟩:=hr
  refine an aa [0,1,2,3] 3 rfl rfl rfl rfl rfl rfl ?_ ?_
  all_goals first|rfl|(simp [az,aX,bc];done)|(simp [az,aX,bc];omega)
 have hc1':=of_decide_eq_false hc1
 refine aP ?_
 refine aF aa 7 rfl ?_
 refine aQ 6 [5,4,3,0,1,2] (dW (ys:=[(0,(.c (CS xr0)))]) (rows:=([xr0]).map rD) 5 De rfl (by decide) ⟨⟨rfl,rfl⟩,trivial⟩ rfl rfl rfl rfl) rfl ?_
 refine aQ 7 [6,5,4,3,0,1] (dx (m:=1) (N:=days.length+1) (k2:=6) (ys:=([xr0]).map rD) De rfl rfl rfl rfl rfl rfl (by first|omega|(simp;done)|(simp;omega)) rfl (.s rfl (by first|omega|(simp;done)|(simp;omega))) (by first|omega|(simp;done)|(simp;omega)) (by first|omega|(simp;done)|(simp;omega)) fA (by decide) (by first|omega|(simp;done)|(simp;omega)) (by first|omega|(simp;done)|(simp;omega))) rfl ?_
 refine ad aa 4 rfl ?_
 refine af ?_
 refine fw (k:=0) (q:=17) (c':=(.s 6 0 1 ((days++([xr0])).length))) rfl rfl (by first|rfl|(simp;done)|(congr 1;omega)) rfl ?_
 refine ae aa 5 rfl ?_
 refine ae aa 2 rfl ?_
 refine ay ?_
 refine cm 0 16 83 4 rfl rfl rfl ?_
 have hX:gC aR days=(([]:List al),days++([xr0]),(⟨0,0⟩:Answer)):=by
   unfold gC;simp only [hr0];(repeat' split)<;>first|rfl|omega|(simp_all;done)
 rw [hX] at hr;clear hX
 simp only [Prod.mk.injEq] at hr;obtain ⟨rfl,rfl,rfl⟩:=hr
 refine an aa [0,7,6,3] 3 rfl rfl rfl rfl rfl rfl ?_ ?_
 all_goals first|rfl|(simp [az,aX,bc];done)|(simp [az,aX,bc];omega)
end Go.Proofs.Ytegepioggeggaaa.Dev
