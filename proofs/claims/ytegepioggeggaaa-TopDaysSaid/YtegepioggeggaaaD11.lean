/- A part of the proof: Sort6, Sort7, Day1, Day4, Day5, Bank1, Bank2, Bank3, Clones, Bank4. No condition. -/
import Derived.Test.YtegepioggeggaaaD10
import Derived.Test.YtegepioggeggaaaD08
set_option linter.unusedVariables false
set_option linter.unusedSimpArgs false
set_option maxHeartbeats 4000000
set_option maxRecDepth 100000
namespace Go.Proofs.Ytegepioggeggaaa.Dev
open Go.RowKit

theorem DT (d:List aj) (N n:Nat) (fn:FuncId) (bj:List (List D)) (hp:∀ x y:aj,Fn Try.prog fn ([.g [cI x.aD,cI x.bc,cI x.kind,cI x.sum],.g [cI y.aD,cI y.bc,cI y.kind,cI y.sum]]++bj.map fun r=>GV.c (.q r 0)) (aI (ik x y)) []) (hen:bl Try.prog fn) (hl:d.length * 32<=140737488355328) (hN:N=d.length) (h0_:n=d.length) (h1_:0 < d.length) (r:List aj) (hr:dJ d=r):cJ Try.prog 61 [(.c (.s 0 0 4 N)),(.c (cI (↑n:Int))),(.c (.d (.f fn bj)))] [(0,(cS d))] [0] (.t []) [(0,(cS r))]:=by
 refine cJ.mk 63 [(0,(aC (.s 0 0 4 N))),(1,(aI (↑n:Int))),(2,(aC (.d (.f fn bj))))] 1 Try.func61 rfl rfl rfl rfl rfl rfl rfl rfl rfl ?_
 intro W0 F0 T0 pg
 refine gn 0 rfl (fun hlen0=>?_)
 refine ae aa 1 rfl ?_
 refine ae aa 3 rfl ?_
 refine ag ?_
 refine aX ?_
 refine cw (β:=Nat×Nat×List aj) (fun (p:Nat×Nat×List aj)=>match p with|(a,b,d1)=>⟨[(0,(aC (.s 0 0 4 N))),(1,(aI (↑n:Int))),(2,(aC (.d (.f fn bj)))),(6,(aI 20)),(7,(aI (↑a:Int))),(8,(aI (↑b:Int)))],[(0,(cS d1))],1⟩) (fun (p:Nat×Nat×List aj)=>match p with|(a,b,d1)=>b=a+20/\a<=n/\uj 20 a d1/\Same d d1/\d1.length=d.length) (fun (p:Nat×Nat×List aj)=>match p with|(a,b,d1)=>n+20 - b) (0,20,d) ?_ ?_ ?_
 ·exact ⟨by omega,by omega,sV (by omega),Same.refl _,rfl⟩
 ·exact aF.bW id (by refine ⟨?_,?_,?_,?_,?_,?_,trivial⟩<;>first|rfl|(simp only [bm];done)|(congr 3;omega)|(congr 4;omega)|(simp only [bn];rfl)|(exact cz rfl (by omega))) (⟨by first|rfl|(simp only [bm];done)|(congr 3;omega)|(congr 4;omega)|(simp only [bn];rfl),trivial⟩) rfl
 rintro ⟨a,b,d1⟩ ⟨hi0_0,hi0_1,hi0_2,hi0_3,hi0_4⟩
 refine ag ?_
 refine ae aa 3 rfl ?_
 refine ah rfl (fun hc1=>?_) (fun hc1=>?_)
 ·
  have hc1':=of_decide_eq_true hc1
  refine aQ ?_
  refine aX ?_
  refine aH aa 4 rfl ?_
  obtain ⟨r0,hr0⟩:∃ (r0:List aj),jH a (b - (a+1)) d1=r0:=⟨_,rfl⟩
  have hlr0:r0.length=d1.length:=by rw [<-hr0];exact rB _ _ _
  have hp0:Part d1 r0 a b:=by rw [<-hr0];exact uU (by omega) (by omega)
  refine aN 1 [0] (dV id id (pR (↑a:Int) (↑b:Int) d1 N a b fn bj hp hen (by first|omega|(simp;done)|(simp;omega)) (by first|omega|(simp;done)|(simp;omega)) (by first|omega|(simp;done)|(simp;omega)) (by first|omega|(simp;done)|(simp;omega)) (by first|omega|(simp;done)|(simp;omega)) (by first|omega|(simp;done)|(simp;omega)) r0 hr0) Dy rfl rfl ⟨⟨_,rfl,.inl ⟨rfl,rfl⟩⟩,⟨_,rfl,.inr (.c (.d _))⟩,⟨_,rfl,.inr (.c (.d _))⟩,⟨_,rfl,.inr (.c (.d _))⟩,trivial⟩ ⟨rfl,trivial⟩ rfl rfl ⟨.inr ⟨_,_,_,rfl,by first|(simp;omega)|(simp only [List.length_map];omega)⟩,trivial⟩ rfl rfl rfl trivial ⟨(fun _ _ _ _=>trivial),trivial⟩ rfl rfl rfl rfl) rfl ?_
  refine af ?_
  refine ae aa 2 rfl ?_
  refine au ?_
  refine ad aa 2 rfl ?_
  refine aA (aL rfl rfl rfl (aJ (by first|omega|(simp;done)|(simp;omega)))) rfl ?_
  refine ad aa 1 rfl ?_
  refine bY ?_
  refine bh ?_
  refine then_ok ?_
  refine ⟨(b,b+20,r0),⟨by omega,by omega,by rw [hi0_0] at hp0 ⊢;exact vf (by omega) hi0_2 hp0,hi0_3.trans hp0.m,by omega⟩,by first|omega|(simp;done)|(simp;omega),aF.bW id (by refine ⟨?_,?_,?_,?_,?_,?_,trivial⟩<;>first|rfl|(simp only [bm];done)|(congr 3;omega)|(congr 4;omega)|(simp only [bn];rfl)|(exact cz rfl (by omega))) (⟨by first|rfl|(simp only [bm];done)|(congr 3;omega)|(congr 4;omega)|(simp only [bn];rfl),trivial⟩) rfl⟩
 have hc1':=of_decide_eq_false hc1
 refine cj ?_
 refine aP ?_
 refine aP ?_
 refine bK ?_
 refine then_ok ?_
 refine aH aa 4 rfl ?_
 obtain ⟨r1,hr1⟩:∃ (r1:List aj),jH a (n - (a+1)) d1=r1:=⟨_,rfl⟩
 have hlr1:r1.length=d1.length:=by rw [<-hr1];exact rB _ _ _
 have hp1:Part d1 r1 a n:=by rw [<-hr1];exact uU (by omega) (by omega)
 refine aN 1 [0] (dV id id (pR (↑a:Int) (↑n:Int) d1 N a n fn bj hp hen (by first|omega|(simp;done)|(simp;omega)) (by first|omega|(simp;done)|(simp;omega)) (by first|omega|(simp;done)|(simp;omega)) (by first|omega|(simp;done)|(simp;omega)) (by first|omega|(simp;done)|(simp;omega)) (by first|omega|(simp;done)|(simp;omega)) r1 hr1) Dy rfl rfl ⟨⟨_,rfl,.inl ⟨rfl,rfl⟩⟩,⟨_,rfl,.inr (.c (.d _))⟩,⟨_,rfl,.inr (.c (.d _))⟩,⟨_,rfl,.inr (.c (.d _))⟩,trivial⟩ ⟨rfl,trivial⟩ rfl rfl ⟨.inr ⟨_,_,_,rfl,by first|(simp;omega)|(simp only [List.length_map];omega)⟩,trivial⟩ rfl rfl rfl trivial ⟨(fun _ _ _ _=>trivial),trivial⟩ rfl rfl rfl rfl) rfl ?_
 refine af ?_
 refine aX ?_
 refine cw (β:=Nat×List aj) (fun (p:Nat×List aj)=>match p with|(s,d2)=>⟨[(0,(aC (.s 0 0 4 N))),(1,(aI (↑n:Int))),(2,(aC (.d (.f fn bj)))),(6,(aI (↑s:Int)))],[(0,(cS d2))],1⟩) (fun (p:Nat×List aj)=>match p with|(s,d2)=>20<=s/\ui s d2/\Same d d2/\d2.length=d.length) (fun (p:Nat×List aj)=>match p with|(s,d2)=>n - s) (20,r1) ?_ ?_ ?_
 ·exact ⟨by omega,xi (by omega) hi0_2 (by omega) (by rw [show r1.length=n by omega];exact hp1) (by omega),hi0_3.trans hp1.m,by omega⟩
 ·exact aF.bW id (by refine ⟨?_,?_,?_,?_,trivial⟩<;>first|rfl|(simp only [bm];done)|(congr 3;omega)|(congr 4;omega)|(simp only [bn];rfl)|(exact cz rfl (by omega))) (⟨by first|rfl|(simp only [bm];done)|(congr 3;omega)|(congr 4;omega)|(simp only [bn];rfl),trivial⟩) rfl
 rintro ⟨s,d2⟩ ⟨hi1_0,hi1_1,hi1_2,hi1_3⟩
 refine ag ?_
 refine ae aa 3 rfl ?_
 refine ah rfl (fun hc2=>?_) (fun hc2=>?_)
 ·
  have hc2':=of_decide_eq_true hc2
  refine aQ ?_
  refine aX ?_
  refine aH aa 1 rfl ?_
  refine aA (aL rfl rfl rfl (aJ (by first|omega|(simp;done)|(simp;omega)))) rfl ?_
  refine ad aa 2 rfl ?_
  refine af ?_
  refine ag ?_
  refine aX ?_
  refine cw (β:=Nat×Nat×List aj) (fun (p:Nat×Nat×List aj)=>match p with|(a2,b2,d3)=>⟨[(0,(aC (.s 0 0 4 N))),(1,(aI (↑n:Int))),(2,(aC (.d (.f fn bj)))),(6,(aI (↑s:Int))),(7,(aI (↑a2:Int))),(8,(aI (↑b2:Int)))],[(0,(cS d3))],1⟩) (fun (p:Nat×Nat×List aj)=>match p with|(a2,b2,d3)=>b2=a2+2 * s/\a2<=n/\nr s a2 d3/\Same d d3/\d3.length=d.length) (fun (p:Nat×Nat×List aj)=>match p with|(a2,b2,d3)=>n+2 * s - b2) (0,2 * s,d2) ?_ ?_ ?_
  ·exact ⟨by omega,by omega,zN (by omega) hi1_1,hi1_2,hi1_3⟩
  ·exact aF.bW id (by refine ⟨?_,?_,?_,?_,?_,?_,trivial⟩<;>first|rfl|(simp only [bm];done)|(congr 3;omega)|(congr 4;omega)|(simp only [bn];rfl)|(exact cz rfl (by omega))) (⟨by first|rfl|(simp only [bm];done)|(congr 3;omega)|(congr 4;omega)|(simp only [bn];rfl),trivial⟩) rfl
  rintro ⟨a2,b2,d3⟩ ⟨hi2_0,hi2_1,hi2_2,hi2_3,hi2_4⟩
  refine ag ?_
  refine ae aa 3 rfl ?_
  refine ah rfl (fun hc3=>?_) (fun hc3=>?_)
  ·
   have hc3':=of_decide_eq_true hc3
   refine aQ ?_
   refine aX ?_
   refine aH aa 4 rfl ?_
   refine aA (aL rfl rfl rfl (aJ (by first|omega|(simp;done)|(simp;omega)))) rfl ?_
   refine ad aa 2 rfl ?_
   obtain ⟨r2,hr2⟩:∃ (r2:List aj),dK (b2 - a2) a2 ((a2)+(s)) b2 d3=r2:=⟨_,rfl⟩
   have hlr2:r2.length=d3.length:=by rw [<-hr2];exact eX _ _ _ _ _
   have hp2:Part d3 r2 a2 b2:=by rw [<-hr2];exact vU (by omega) hi2_2 (by omega) (by omega) (by omega)
   refine aN 1 [0] (dV id id (BV (↑a2:Int) ((↑a2:Int)+(↑s:Int)) (↑b2:Int) d3 N a2 ((a2)+(s)) b2 fn bj hp hen (by first|omega|(simp;done)|(simp;omega)) (by first|omega|(simp;done)|(simp;omega)) (by first|omega|(simp;done)|(simp;omega)) (by first|omega|(simp;done)|(simp;omega)) (by first|omega|(simp;done)|(simp;omega)) (by first|omega|(simp;done)|(simp;omega)) (by first|omega|(simp;done)|(simp;omega)) (by first|omega|(simp;done)|(simp;omega)) r2 hr2) kA rfl rfl ⟨⟨_,rfl,.inl ⟨rfl,rfl⟩⟩,⟨_,rfl,.inr (.c (.d _))⟩,⟨_,rfl,.inr (.c (.d _))⟩,⟨_,rfl,.inr (.c (.d _))⟩,⟨_,rfl,.inr (.c (.d _))⟩,trivial⟩ ⟨rfl,trivial⟩ rfl rfl ⟨.inr ⟨_,_,_,rfl,by first|(simp;omega)|(simp only [List.length_map];omega)⟩,trivial⟩ rfl rfl rfl trivial ⟨(fun _ _ _ _=>trivial),trivial⟩ rfl rfl rfl rfl) rfl ?_
   refine af ?_
   refine ae aa 2 rfl ?_
   refine au ?_
   refine ad aa 2 rfl ?_
   refine aA (aL rfl rfl rfl (aJ (by first|omega|(simp;done)|(simp;omega)))) rfl ?_
   refine aA (aL rfl rfl rfl (aJ (by first|omega|(simp;done)|(simp;omega)))) rfl ?_
   refine ad aa 1 rfl ?_
   refine bY ?_
   refine bh ?_
   refine then_ok ?_
   refine ⟨(b2,b2+2 * s,r2),⟨by omega,by omega,by rw [hi2_0] at hp2 ⊢;exact BE (by omega) hi2_2 hp2,hi2_3.trans hp2.m,by omega⟩,by first|omega|(simp;done)|(simp;omega),aF.bW id (by refine ⟨?_,?_,?_,?_,?_,?_,trivial⟩<;>first|rfl|(simp only [bm];done)|(congr 3;omega)|(congr 4;omega)|(simp only [bn];rfl)|(exact cz rfl (by omega))) (⟨by first|rfl|(simp only [bm];done)|(congr 3;omega)|(congr 4;omega)|(simp only [bn];rfl),trivial⟩) rfl⟩
  have hc3':=of_decide_eq_false hc3
  refine cj ?_
  refine aP ?_
  refine aP ?_
  refine bK ?_
  refine then_ok ?_
  refine ag ?_
  refine aH aa 2 rfl ?_
  refine aA (aL rfl rfl rfl (aJ (by first|omega|(simp;done)|(simp;omega)))) rfl ?_
  refine ad aa 1 rfl ?_
  refine af ?_
  refine ae aa 3 rfl ?_
  refine ah rfl (fun hc4=>?_) (fun hc4=>?_)
  ·
   have hc4':=of_decide_eq_true hc4
   refine au ?_
   refine ad aa 5 rfl ?_
   obtain ⟨r3,hr3⟩:∃ (r3:List aj),dK (n - a2) a2 ((a2)+(s)) n d3=r3:=⟨_,rfl⟩
   have hlr3:r3.length=d3.length:=by rw [<-hr3];exact eX _ _ _ _ _
   have hp3:Part d3 r3 a2 n:=by rw [<-hr3];exact vU (by omega) hi2_2 (by omega) (by omega) (by omega)
   refine aN 1 [0] (dV id id (BV (↑a2:Int) ((↑a2:Int)+(↑s:Int)) (↑n:Int) d3 N a2 ((a2)+(s)) n fn bj hp hen (by first|omega|(simp;done)|(simp;omega)) (by first|omega|(simp;done)|(simp;omega)) (by first|omega|(simp;done)|(simp;omega)) (by first|omega|(simp;done)|(simp;omega)) (by first|omega|(simp;done)|(simp;omega)) (by first|omega|(simp;done)|(simp;omega)) (by first|omega|(simp;done)|(simp;omega)) (by first|omega|(simp;done)|(simp;omega)) r3 hr3) kA rfl rfl ⟨⟨_,rfl,.inl ⟨rfl,rfl⟩⟩,⟨_,rfl,.inr (.c (.d _))⟩,⟨_,rfl,.inr (.c (.d _))⟩,⟨_,rfl,.inr (.c (.d _))⟩,⟨_,rfl,.inr (.c (.d _))⟩,trivial⟩ ⟨rfl,trivial⟩ rfl rfl ⟨.inr ⟨_,_,_,rfl,by first|(simp;omega)|(simp only [List.length_map];omega)⟩,trivial⟩ rfl rfl rfl trivial ⟨(fun _ _ _ _=>trivial),trivial⟩ rfl rfl rfl rfl) rfl ?_
   refine af ?_
   refine au ?_
   refine ad aa 1 rfl ?_
   refine aA (aL rfl rfl rfl (aJ (by first|omega|(simp;done)|(simp;omega)))) rfl ?_
   refine ad aa 1 rfl ?_
   refine bY ?_
   refine bh ?_
   refine then_ok ?_
   refine ⟨(s * 2,r3),⟨by omega,Di (by omega) hi2_2 (by omega) (by rw [show r3.length=n by omega];exact hp3) (by omega),hi2_3.trans hp3.m,by omega⟩,by first|omega|(simp;done)|(simp;omega),aF.bW id (by refine ⟨?_,?_,?_,?_,trivial⟩<;>first|rfl|(simp only [bm];done)|(congr 3;omega)|(congr 4;omega)|(simp only [bn];rfl)|(exact cz rfl (by omega))) (⟨by first|rfl|(simp only [bm];done)|(congr 3;omega)|(congr 4;omega)|(simp only [bn];rfl),trivial⟩) rfl⟩
  have hc4':=of_decide_eq_false hc4
  refine aQ ?_
  refine au ?_
  refine ad aa 1 rfl ?_
  refine aA (aL rfl rfl rfl (aJ (by first|omega|(simp;done)|(simp;omega)))) rfl ?_
  refine ad aa 1 rfl ?_
  refine bY ?_
  refine bh ?_
  refine then_ok ?_
  refine ⟨(s * 2,d3),⟨by omega,BF (by omega) hi2_2 (by omega),hi2_3,by omega⟩,by first|omega|(simp;done)|(simp;omega),aF.bW id (by refine ⟨?_,?_,?_,?_,trivial⟩<;>first|rfl|(simp only [bm];done)|(congr 3;omega)|(congr 4;omega)|(simp only [bn];rfl)|(exact cz rfl (by omega))) (⟨by first|rfl|(simp only [bm];done)|(congr 3;omega)|(congr 4;omega)|(simp only [bn];rfl),trivial⟩) rfl⟩
 have hc2':=of_decide_eq_false hc2
 refine cj ?_
 refine aP ?_
 refine aP ?_
 refine bK ?_
 have hX:dJ d=d2:=by
   exact sj (CJ hi1_1 (by omega)) hi1_2
 rw [hX] at hr;clear hX
 subst hr
 refine cP aa [0] 1 rfl rfl rfl rfl rfl rfl ?_ ?_
 all_goals first|rfl|(simp [ay];done)|(simp [ay];omega)
theorem BW (ni:Int) (d:List aj) (N n:Nat) (fn:FuncId) (bj:List (List D)) (hp:∀ x y:aj,Fn Try.prog fn ([.g [cI x.aD,cI x.bc,cI x.kind,cI x.sum],.g [cI y.aD,cI y.bc,cI y.kind,cI y.sum]]++bj.map fun r=>GV.c (.q r 0)) (aI (ik x y)) []) (hen:bl Try.prog fn) (en_:ni=(↑n:Int)) (hl:d.length * 32<=140737488355328) (hN:N=d.length) (h0_:n=d.length) (h1_:0 < d.length) (r:List aj) (hr:dJ d=r):cJ Try.prog 61 [(.c (.s 0 0 4 N)),(.c (cI ni)),(.c (.d (.f fn bj)))] [(0,(cS d))] [0] (.t []) [(0,(cS r))]:=by
  subst en_
  exact DT d N n fn bj hp hen hl hN h0_ h1_ r hr

theorem xp (d:List aj) (a b:Int) (fn:FuncId) (bj:List (List D)) (hp:∀ x y:aj,Fn Try.prog fn ([.g [cI x.aD,cI x.bc,cI x.kind,cI x.sum],.g [cI y.aD,cI y.bc,cI y.kind,cI y.sum]]++bj.map fun r=>GV.c (.q r 0)) (aI (ik x y)) []) (hen:bl Try.prog fn) (h1:b<=a+1) (h2:0<=a/\a<=9223372036854775806):Fn Try.prog 72 [(.c (iy d)),(.c (cI a)),(.c (cI b)),(.c (.d (.f fn bj)))] (.t []) []:=by
 refine Fn.mk' 53 [(0,(aC (iy d))),(1,(aI a)),(2,(aI b)),(3,(aC (.d (.f fn bj))))] Try.func72 rfl rfl rfl rfl ?_
 intro W0 T0
 refine dr 0 rfl (fun hlen0=>?_)
 refine aH aa 1 rfl ?_
 refine aA (aL rfl rfl rfl (aJ (by first|omega|(simp;done)|(simp;omega)))) rfl ?_
 refine ad aa 1 rfl ?_
 refine af ?_
 refine aX ?_
 refine cw (β:=Nat) (fun (z:Nat)=>⟨[(0,(aC (iy d))),(1,(aI a)),(2,(aI b)),(3,(aC (.d (.f fn bj)))),(8,(aI (a+1)))],[],0⟩) (fun (z:Nat)=>True) (fun (z:Nat)=>0) 0 ?_ ?_ ?_
 ·trivial
 ·exact aF.bW id (by refine ⟨?_,?_,?_,?_,?_,trivial⟩<;>first|rfl|(simp only [bm];done)|(congr 3;omega)|(congr 4;omega)|(simp only [bn];rfl)) (trivial) rfl
 rintro z _
 refine ag ?_
 refine ae aa 3 rfl ?_
 refine ah rfl (fun hc1=>?_) (fun hc1=>?_)
 ·
  have hc1':=of_decide_eq_true hc1
  exfalso;omega
 have hc1':=of_decide_eq_false hc1
 refine cj ?_
 refine aP ?_
 refine aP ?_
 refine bK ?_
 refine cP aa [] 0 rfl rfl rfl rfl rfl rfl ?_ ?_
 all_goals first|rfl|(simp [ay];done)|(simp [ay];omega)
theorem BX (d:List aj) (n:Int) (fn:FuncId) (bj:List (List D)) (hp:∀ x y:aj,Fn Try.prog fn ([.g [cI x.aD,cI x.bc,cI x.kind,cI x.sum],.g [cI y.aD,cI y.bc,cI y.kind,cI y.sum]]++bj.map fun r=>GV.c (.q r 0)) (aI (ik x y)) []) (hen:bl Try.prog fn) (h:n=0):Fn Try.prog 61 [(.c (iy d)),(.c (cI n)),(.c (.d (.f fn bj)))] (.t []) []:=by
 refine Fn.mk' 63 [(0,(aC (iy d))),(1,(aI n)),(2,(aC (.d (.f fn bj))))] Try.func61 rfl rfl rfl rfl ?_
 intro W0 T0
 refine dr 0 rfl (fun hlen0=>?_)
 refine ae aa 1 rfl ?_
 refine ae aa 3 rfl ?_
 refine ag ?_
 refine aX ?_
 refine cw (β:=Nat) (fun (z:Nat)=>⟨[(0,(aC (iy d))),(1,(aI n)),(2,(aC (.d (.f fn bj)))),(6,(aI 20)),(7,(aI 0)),(8,(aI 20))],[],0⟩) (fun (z:Nat)=>True) (fun (z:Nat)=>0) 0 ?_ ?_ ?_
 ·trivial
 ·exact aF.bW id (by refine ⟨?_,?_,?_,?_,?_,?_,trivial⟩<;>first|rfl|(simp only [bm];done)|(congr 3;omega)|(congr 4;omega)|(simp only [bn];rfl)) (trivial) rfl
 rintro z _
 refine ag ?_
 refine ae aa 3 rfl ?_
 refine ah rfl (fun hc1=>?_) (fun hc1=>?_)
 ·
  have hc1':=of_decide_eq_true hc1
  exfalso;omega
 have hc1':=of_decide_eq_false hc1
 refine cj ?_
 refine aP ?_
 refine aP ?_
 refine bK ?_
 refine then_ok ?_
 refine aH aa 4 rfl ?_
 refine aN 0 [] (bQ 0 (xp d 0 n fn bj hp hen (by first|omega|(simp;done)|(simp;omega)) (by first|omega|(simp;done)|(simp;omega))) Dy rfl rfl ⟨⟨_,rfl,.c (.d _)⟩,⟨_,rfl,.c (.d _)⟩,⟨_,rfl,.c (.d _)⟩,⟨_,rfl,.c (.d _)⟩,trivial⟩ trivial trivial rfl rfl rfl rfl) rfl ?_
 refine af ?_
 refine aX ?_
 refine cw (β:=Nat) (fun (z:Nat)=>⟨[(0,(aC (iy d))),(1,(aI n)),(2,(aC (.d (.f fn bj)))),(6,(aI 20))],[],0⟩) (fun (z:Nat)=>True) (fun (z:Nat)=>0) 0 ?_ ?_ ?_
 ·trivial
 ·exact aF.bW id (by refine ⟨?_,?_,?_,?_,trivial⟩<;>first|rfl|(simp only [bm];done)|(congr 3;omega)|(congr 4;omega)|(simp only [bn];rfl)) (trivial) rfl
 rintro z _
 refine ag ?_
 refine ae aa 3 rfl ?_
 refine ah rfl (fun hc2=>?_) (fun hc2=>?_)
 ·
  have hc2':=of_decide_eq_true hc2
  exfalso;omega
 have hc2':=of_decide_eq_false hc2
 refine cj ?_
 refine aP ?_
 refine aP ?_
 refine bK ?_
 refine cP aa [] 0 rfl rfl rfl rfl rfl rfl ?_ ?_
 all_goals first|rfl|(simp [ay];done)|(simp [ay];omega)
theorem vB (d:List aj) (fn:FuncId) (bj:List (List D)) (hp:∀ x y:aj,Fn Try.prog fn ([.g [cI x.aD,cI x.bc,cI x.kind,cI x.sum],.g [cI y.aD,cI y.bc,cI y.kind,cI y.sum]]++bj.map fun r=>GV.c (.q r 0)) (aI (ik x y)) []) (hen:bl Try.prog fn) (h:d.length=0):Fn Try.prog 55 [(.c (iy d)),(.c (.d (.f fn bj)))] (.t []) []:=by
 refine Fn.mk' 9 [(0,(aC (iy d))),(1,(aC (.d (.f fn bj))))] Try.func55 rfl rfl rfl rfl ?_
 intro W0 T0
 refine dr 0 rfl (fun hlen0=>?_)
 refine au ?_
 refine ad aa 2 rfl ?_
 refine aA (cM rfl rfl rfl rfl rfl Try.underlying42) rfl ?_
 refine ad aa 1 rfl ?_
 refine aN 0 [] (bQ 0 (BX d (↑d.length:Int) fn bj hp hen (by first|omega|(simp;done)|(simp;omega))) GO rfl rfl ⟨⟨_,rfl,.c (.d _)⟩,⟨_,rfl,.c (.d _)⟩,⟨_,rfl,.c (.d _)⟩,trivial⟩ trivial trivial rfl rfl rfl rfl) rfl ?_
 refine bY ?_
 refine cP aa [] 0 rfl rfl rfl rfl rfl rfl ?_ ?_
 all_goals first|rfl|(simp [ay];done)|(simp [ay];omega)
theorem xy (d:List aj) (N:Nat) (fn:FuncId) (bj:List (List D)) (hp:∀ x y:aj,Fn Try.prog fn ([.g [cI x.aD,cI x.bc,cI x.kind,cI x.sum],.g [cI y.aD,cI y.bc,cI y.kind,cI y.sum]]++bj.map fun r=>GV.c (.q r 0)) (aI (ik x y)) []) (hen:bl Try.prog fn) (hl:d.length * 32<=140737488355328) (hN:N=d.length) (h0_:0 < d.length) (r:List aj) (hr:dJ d=r):cJ Try.prog 55 [(.c (.s 0 0 4 N)),(.c (.d (.f fn bj)))] [(0,(cS d))] [0] (.t []) [(0,(cS r))]:=by
 refine cJ.mk 9 [(0,(aC (.s 0 0 4 N))),(1,(aC (.d (.f fn bj))))] 1 Try.func55 rfl rfl rfl rfl rfl rfl rfl rfl rfl ?_
 intro W0 F0 T0 pg
 refine gn 0 rfl (fun hlen0=>?_)
 refine au ?_
 refine ad aa 2 rfl ?_
 refine aA (dz rfl rfl rfl rfl rfl Try.underlying42) rfl ?_
 refine ad aa 1 rfl ?_
 obtain ⟨r0,hr0⟩:∃ (r0:List aj),dJ d=r0:=⟨_,rfl⟩
 refine aN 1 [0] (dV id id (BW (↑N:Int) d N N fn bj hp hen (by first|omega|(simp;done)|(simp;omega)) (by first|omega|(simp;done)|(simp;omega)) (by first|omega|(simp;done)|(simp;omega)) (by first|omega|(simp;done)|(simp;omega)) (by first|omega|(simp;done)|(simp;omega)) r0 hr0) GO rfl rfl ⟨⟨_,rfl,.inl ⟨rfl,rfl⟩⟩,⟨_,rfl,.inr (.c (.d _))⟩,⟨_,rfl,.inr (.c (.d _))⟩,trivial⟩ ⟨rfl,trivial⟩ rfl rfl ⟨.inr ⟨_,_,_,rfl,by first|(simp;omega)|(simp only [List.length_map];omega)⟩,trivial⟩ rfl rfl rfl trivial ⟨(fun _ _ _ _=>trivial),trivial⟩ rfl rfl rfl rfl) rfl ?_
 refine bY ?_
 have hX:dJ d=r0:=by
   exact hr0
 rw [hX] at hr;clear hX
 subst hr
 refine cP aa [0] 1 rfl rfl rfl rfl rfl rfl ?_ ?_
 all_goals first|rfl|(simp [ay];done)|(simp [ay];omega)
theorem Ea (l:List aj) (hl:l.length * 32<=140737488355328) (r:List aj) (hr:dJ l=r):Fn Try.prog 37 [(.c (iy l))] (.v (.c (.s 0 0 4 r.length))) [(0,(cS r))]:=by
 refine Fn.mk' 9 [(0,(aC (iy l)))] Try.func37 rfl rfl rfl rfl ?_
 intro W0 T0
 refine dr 0 rfl (fun hlen0=>?_)
 refine ae aa 1 rfl ?_
 refine aH aa 1 rfl ?_
 refine aN 1 [0] (bQ 0 (nG l (by first|omega|(simp;done)|(simp;omega))) GQ rfl rfl ⟨⟨_,rfl,.c (.d _)⟩,trivial⟩ trivial ⟨(fun _ _ _ _=>trivial),trivial⟩ rfl rfl rfl rfl) rfl ?_
 refine ad aa 1 rfl ?_
 refine af ?_
 rcases (show l.length=0\/0 < l.length from by omega) with hs1|hs1
 ·
  refine aH aa 1 rfl ?_
  refine aN 1 [0] (ff 1 [0] (vB l 53 ([]) (fun x y=>uc x y) DA (by first|omega|(simp;done)|(simp;omega))) GP rfl rfl ⟨⟨_,rfl,.c (.s rfl (by decide) (by first|omega|(simp;done)|(simp;omega)))⟩,⟨_,rfl,.c (.fn trivial)⟩,trivial⟩ trivial trivial rfl rfl rfl rfl) rfl ?_
  refine af ?_
  refine ae aa 2 rfl ?_
  refine az ?_
  have hX:dJ l=l:=by
    exact AM (by assumption)
  rw [hX] at hr;clear hX
  subst hr
  refine an aa [0] 1 rfl rfl rfl rfl rfl rfl ?_ ?_
  all_goals first|rfl|(simp [ay];done)|(simp [ay];omega)
 refine aH aa 1 rfl ?_
 obtain ⟨r0,hr0⟩:∃ (r0:List aj),dJ l=r0:=⟨_,rfl⟩
 have hlr0:r0.length=l.length:=by rw [<-hr0];exact jV _
 refine aN 1 [0] (dV id id (xy l l.length 53 ([]) (fun x y=>uc x y) DA (by first|omega|(simp;done)|(simp;omega)) (by first|omega|(simp;done)|(simp;omega)) (by first|omega|(simp;done)|(simp;omega)) r0 hr0) GP rfl rfl ⟨⟨_,rfl,.inl ⟨rfl,rfl⟩⟩,⟨_,rfl,.inr (.c (.fn trivial))⟩,trivial⟩ ⟨rfl,trivial⟩ rfl rfl ⟨.inr ⟨_,_,_,rfl,by first|(simp;omega)|(simp only [List.length_map];omega)⟩,trivial⟩ rfl rfl rfl trivial ⟨(fun _ _ _ _=>trivial),trivial⟩ rfl rfl rfl rfl) rfl ?_
 refine af ?_
 refine ae aa 2 rfl ?_
 refine az ?_
 have hX:dJ l=r0:=by
   exact hr0
 rw [hX] at hr;clear hX
 subst hr
 refine an aa [0] 1 rfl rfl rfl rfl rfl rfl ?_ ?_
 all_goals first|rfl|(simp [ay];done)|(simp [ay];omega)

theorem qT (l:List aj) (f:dc) (hr:eO l=f):Fn Try.prog 31 [(.c (iy l))] (.v (.g [(cI f.err),(cI f.at_)])) []:=by
 refine Fn.mk' 58 [(0,(aC (iy l)))] Try.func31 rfl rfl rfl rfl ?_
 intro W0 T0
 refine dr 0 rfl (fun hlen0=>?_)
 refine ae aa 1 rfl ?_
 refine ag ?_
 refine aH aa 1 rfl ?_
 refine aA (cM rfl rfl rfl rfl rfl Try.underlying42) rfl ?_
 refine ad aa 1 rfl ?_
 refine af ?_
 refine ah rfl (fun hc1=>?_) (fun hc1=>?_)
 ·
  have hc1':=of_decide_eq_true hc1
  refine ae aa 2 rfl ?_
  refine az ?_
  refine aq ?_
  have hX:eO l=(⟨5,0⟩:dc):=by
    unfold eO;rw [if_pos (by omega)]
  rw [hX] at hr;clear hX
  subst hr
  refine an aa [0] 0 rfl rfl rfl rfl rfl rfl ?_ ?_
  all_goals first|rfl|(simp [ay];done)|(simp [ay];omega)
 have hc1':=of_decide_eq_false hc1
 refine aQ ?_
 refine ag ?_
 refine aH aa 1 rfl ?_
 refine aA (cM rfl rfl rfl rfl rfl Try.underlying42) rfl ?_
 refine ad aa 1 rfl ?_
 refine af ?_
 refine aX ?_
 refine cw (β:=Nat) (fun (q:Nat)=>⟨[(2,(aC (.p 0 0 0 0))),(9,(aC (iy l))),(10,(aI (↑l.length:Int))),(11,(aI (↑q:Int)))],[(0,(.box 50 [(cI 0),(cI 0)]))],1⟩) (fun (q:Nat)=>q<=l.length/\nk l 0=nk (l.drop q) q) (fun (q:Nat)=>l.length - q) 0 ?_ ?_ ?_
 ·exact ⟨by omega,rfl⟩
 ·exact aF.bW id (by refine ⟨?_,?_,?_,?_,trivial⟩<;>first|rfl|(simp only [bm];done)|(congr 3;omega)|(congr 4;omega)|(simp only [bn];rfl)) (⟨by first|rfl|(simp only [bm];done)|(congr 3;omega)|(congr 4;omega)|(simp only [bn];rfl),trivial⟩) rfl
 rintro q ⟨hi0_0,hi0_1⟩
 refine ae aa 1 rfl ?_
 refine ag ?_
 refine ah rfl (fun hc2=>?_) (fun hc2=>?_)
 ·
  have hc2':=of_decide_eq_true hc2
  refine aQ ?_
  refine ag ?_
  refine aX ?_
  refine aH aa 1 rfl ?_
  obtain ⟨x1,hx1⟩:=ck (xs:=l) (i:=q) (by first|omega|(simp;done)|(simp;omega))
  refine aA (cH (i:=q) rfl rfl rfl Try.underlying42 dt (by first|omega|(simp;done)|(simp;omega)) (bw hx1)) rfl ?_
  refine ad aa 4 rfl ?_
  refine af ?_
  refine ag ?_
  refine cx 23 ((decide (x1.kind < 1))||(decide (x1.kind > 8))) ?_ ?_
  ·
   refine au ?_
   refine ad aa 4 rfl ?_
   refine bI (t:=19) rfl (fun hb3=>?_) (fun hb3=>?_)
   ·
    have hb3':=of_decide_eq_true hb3
    refine ad aa 4 rfl ?_
    refine af ?_
    exact aF.bH 9 rfl rfl (by first|(simp [hb3];done)|(simp_all;done)|(exfalso;simp_all;done)|(simp_all;omega)) rfl
   have hb3':=of_decide_eq_false hb3
   refine ad aa 4 rfl ?_
   refine af ?_
   exact aF.bH 9 rfl rfl (by first|(simp [hb3];done)|(simp_all;done)|(exfalso;simp_all;done)|(simp_all;omega)) rfl
  refine ah rfl (fun hc4=>?_) (fun hc4=>?_)
  ·
   have hc4':=hc4;try simp only [bu,bU] at hc4'
   refine ae aa 3 rfl ?_
   refine az ?_
   refine aq ?_
   refine bp ?_
   refine aq ?_
   refine aq ?_
   refine bp ?_
   refine aq ?_
   have hX:eO l=(⟨1,(↑q:Int)⟩:dc):=by
     unfold eO;rw [if_neg (by omega),hi0_1,pn hx1,if_pos (by unfold lJ;omega)]
   rw [hX] at hr;clear hX
   subst hr
   refine an aa [0] 0 rfl rfl rfl rfl rfl rfl ?_ ?_
   all_goals first|rfl|(simp [ay];done)|(simp [ay];omega)
  have hc4':=hc4;try simp only [bu,bU] at hc4'
  refine aQ ?_
  refine cx 53 ((((((decide (x1.aD < 0))||(decide (x1.aD>=8)))||(decide (x1.bc < 0)))||(decide (x1.bc>=30)))||(decide (x1.sum < 1)))||(decide (x1.sum > 1000000))) ?_ ?_
  ·
   refine au ?_
   refine ad aa 4 rfl ?_
   refine bI (t:=29) rfl (fun hb5=>?_) (fun hb5=>?_)
   ·
    have hb5':=of_decide_eq_true hb5
    refine ad aa 24 rfl ?_
    refine af ?_
    exact aF.bH 29 rfl rfl (by first|(simp [hb5];done)|(simp_all;done)|(exfalso;simp_all;done)|(simp_all;omega)) rfl
   have hb5':=of_decide_eq_false hb5
   refine ad aa 5 rfl ?_
   refine bI (t:=34) rfl (fun hb6=>?_) (fun hb6=>?_)
   ·
    have hb6':=of_decide_eq_true hb6
    refine ad aa 19 rfl ?_
    refine af ?_
    exact aF.bH 30 rfl rfl (by first|(simp [hb5,hb6];done)|(simp_all;done)|(exfalso;simp_all;done)|(simp_all;omega)) rfl
   have hb6':=of_decide_eq_false hb6
   refine ad aa 5 rfl ?_
   refine bI (t:=39) rfl (fun hb7=>?_) (fun hb7=>?_)
   ·
    have hb7':=of_decide_eq_true hb7
    refine ad aa 14 rfl ?_
    refine af ?_
    exact aF.bH 31 rfl rfl (by first|(simp [hb5,hb6,hb7];done)|(simp_all;done)|(exfalso;simp_all;done)|(simp_all;omega)) rfl
   have hb7':=of_decide_eq_false hb7
   refine ad aa 5 rfl ?_
   refine bI (t:=44) rfl (fun hb8=>?_) (fun hb8=>?_)
   ·
    have hb8':=of_decide_eq_true hb8
    refine ad aa 9 rfl ?_
    refine af ?_
    exact aF.bH 32 rfl rfl (by first|(simp [hb5,hb6,hb7,hb8];done)|(simp_all;done)|(exfalso;simp_all;done)|(simp_all;omega)) rfl
   have hb8':=of_decide_eq_false hb8
   refine ad aa 5 rfl ?_
   refine bI (t:=49) rfl (fun hb9=>?_) (fun hb9=>?_)
   ·
    have hb9':=of_decide_eq_true hb9
    refine ad aa 4 rfl ?_
    refine af ?_
    exact aF.bH 33 rfl rfl (by first|(simp [hb5,hb6,hb7,hb8,hb9];done)|(simp_all;done)|(exfalso;simp_all;done)|(simp_all;omega)) rfl
   have hb9':=of_decide_eq_false hb9
   refine ad aa 4 rfl ?_
   refine af ?_
   exact aF.bH 33 rfl rfl (by first|(simp [hb5,hb6,hb7,hb8,hb9];done)|(simp_all;done)|(exfalso;simp_all;done)|(simp_all;omega)) rfl
  refine ah rfl (fun hc10=>?_) (fun hc10=>?_)
  ·
   have hc10':=hc10;try simp only [bu,bU] at hc10'
   refine ae aa 3 rfl ?_
   refine az ?_
   refine bp ?_
   refine aq ?_
   refine aq ?_
   refine bp ?_
   refine aq ?_
   have hX:eO l=(⟨3,(↑q:Int)⟩:dc):=by
     unfold eO;rw [if_neg (by omega),hi0_1,pn hx1,if_neg (by unfold lJ;omega),if_pos (by unfold mA;omega)]
   rw [hX] at hr;clear hX
   subst hr
   refine an aa [0] 0 rfl rfl rfl rfl rfl rfl ?_ ?_
   all_goals first|rfl|(simp [ay];done)|(simp [ay];omega)
  have hc10':=hc10;try simp only [bu,bU] at hc10'
  refine cZ ?_
  refine bh ?_
  refine then_ok ?_
  refine au ?_
  refine aA (aL rfl rfl rfl (aJ (by first|omega|(simp;done)|(simp;omega)))) rfl ?_
  refine ad aa 1 rfl ?_
  refine af ?_
  refine ⟨q+1,⟨by omega,by rw [hi0_1,pn hx1,if_neg (by unfold lJ;omega),if_neg (by unfold mA;omega)]⟩,by first|omega|(simp;done)|(simp;omega),aF.bW id (by refine ⟨?_,?_,?_,?_,trivial⟩<;>first|rfl|(simp only [bm];done)|(congr 3;omega)|(congr 4;omega)|(simp only [bn];rfl)) (⟨by first|rfl|(simp only [bm];done)|(congr 3;omega)|(congr 4;omega)|(simp only [bn];rfl),trivial⟩) rfl⟩
 have hc2':=of_decide_eq_false hc2
 refine cj ?_
 refine aP ?_
 refine aP ?_
 refine bK ?_
 refine then_ok ?_
 refine ae aa 2 rfl ?_
 refine az ?_
 have hX:eO l=(⟨0,0⟩:dc):=by
   unfold eO;rw [if_neg (by omega),hi0_1,AZ (by omega)]
 rw [hX] at hr;clear hX
 subst hr
 refine an aa [0] 0 rfl rfl rfl rfl rfl rfl ?_ ?_
 all_goals first|rfl|(simp [ay];done)|(simp [ay];omega)

theorem vj (b:List Int) (N:Nat) (n:Int) (z:Nat) (hN:N=b.length) (hz:z<=8) (hl:b.length+z<=1000000) (r:List Int) (hr:b++iu n z=r):cJ Try.prog 109 [(.c (.s 0 0 1 N)),(.c (cI n)),(.c (cI (↑z:Int)))] [(0,(zh b))] [] (.v (.c (.s 0 0 1 r.length))) [(0,(zh r))]:=by
 refine cJ.mk 23 [(0,(aC (.s 0 0 1 N))),(1,(aI n)),(2,(aI (↑z:Int)))] 1 Try.func109 rfl rfl rfl rfl rfl rfl rfl rfl rfl ?_
 intro W0 F0 T0 pg
 refine gn 0 rfl (fun hlen0=>?_)
 refine ae aa 1 rfl ?_
 refine ag ?_
 refine aH aa 1 rfl ?_
 refine aA (aL rfl rfl rfl (aJ (by first|omega|(simp;done)|(simp;omega)))) rfl ?_
 refine ad aa 1 rfl ?_
 refine af ?_
 refine aX ?_
 refine cw (β:=Nat×List Int) (fun (p:Nat×List Int)=>match p with|(k,m)=>⟨[(0,(aC (.s 0 0 1 m.length))),(1,(aI n)),(6,(aC cN)),(7,(aI ((↑k:Int) - 1)))],[(0,(zh m))],1⟩) (fun (p:Nat×List Int)=>match p with|(k,m)=>k<=z/\m++iu n k=b++iu n z/\m.length+k=b.length+z) (fun (p:Nat×List Int)=>match p with|(k,m)=>k) (z,b) ?_ ?_ ?_
 ·exact ⟨by omega,rfl,rfl⟩
 ·exact aF.bW id (by refine ⟨?_,?_,?_,?_,trivial⟩<;>first|rfl|(simp only [bm];done)|(congr 3;omega)|(congr 4;omega)|(simp only [bn];rfl)|(first|exact cz rfl (by omega)|exact fD rfl (by omega))) (⟨by first|rfl|(simp only [bm];done)|(congr 3;omega)|(congr 4;omega)|(simp only [bn];rfl),trivial⟩) rfl
 rintro ⟨k,m⟩ ⟨hi0_0,hi0_1,hi0_2⟩
 refine ag ?_
 refine ae aa 2 rfl ?_
 refine ah rfl (fun hc1=>?_) (fun hc1=>?_)
 ·
  have hc1':=of_decide_eq_true hc1
  refine aQ ?_
  refine ag ?_
  refine aX ?_
  refine au ?_
  refine ad aa 3 rfl ?_
  refine aA (aL rfl rfl rfl (aJ (by first|omega|(simp;done)|(simp;omega)))) rfl ?_
  refine aA (Gl rfl rfl rfl (by first|omega|(simp;done)|(simp;omega)) rfl (Iz (k:=k) (by omega) rfl)) rfl ?_
  refine aA (eI rfl rfl (by rw [Try.underlying3];rfl) Try.underlying5 nF) rfl ?_
  refine aN 2 [1,0] (dy (ys:=[(0,(.c (.d (.v (.int .u8 ((n / 256 ^ (k - 1)) % 256))))))]) (rows:=([(n / 256 ^ (k - 1)) % 256]).map fK) 1 wb rfl (by decide) ⟨⟨rfl,rfl⟩,trivial⟩ rfl rfl rfl rfl) rfl ?_
  refine aN 3 [2,1] (cX (m:=1) (N:=m.length+1) (k2:=2) (ys:=([(n / 256 ^ (k - 1)) % 256]).map fK) wb rfl rfl rfl rfl rfl rfl (by first|omega|(simp;done)|(simp;omega)) rfl (.s rfl (by first|omega|(simp;done)|(simp;omega))) (by first|omega|(simp;done)|(simp;omega)) (by first|omega|(simp;done)|(simp;omega)) eH (by decide) (by first|omega|(simp;done)|(simp;omega)) (by first|omega|(simp;done)|(simp;omega))) rfl ?_
  refine ad aa 1 rfl ?_
  refine bY ?_
  refine bh ?_
  refine then_ok ?_
  refine au ?_
  refine ad aa 1 rfl ?_
  refine aA (aL rfl rfl rfl (aJ (by first|omega|(simp;done)|(simp;omega)))) rfl ?_
  refine ad aa 1 rfl ?_
  refine af ?_
  refine ⟨(k - 1,m++([(n / 256 ^ (k - 1)) % 256])),⟨by omega,by rw [<-hi0_1,Ec (k:=k) (by omega),List.append_assoc];rfl,by simp only [List.length_append,List.length_cons,List.length_nil];omega⟩,by first|omega|(simp;done)|(simp;omega),aF.bW (fun k=>if k=0 then 2 else k) (by refine ⟨?_,?_,?_,?_,trivial⟩<;>first|rfl|(simp only [bm];done)|(congr 3;omega)|(congr 4;omega)|(simp only [bn];rfl)|(first|exact cz rfl (by omega)|exact fD rfl (by simp only [List.length_append,List.length_cons,List.length_nil];omega))) (⟨by first|rfl|(simp only [bm];done)|(congr 3;omega)|(congr 4;omega)|(simp only [bn];rfl),trivial⟩) rfl⟩
 have hc1':=of_decide_eq_false hc1
 refine cj ?_
 refine aP ?_
 refine aP ?_
 refine bK ?_
 refine then_ok ?_
 refine ae aa 2 rfl ?_
 refine az ?_
 have hX:b++iu n z=m:=by
   (obtain rfl:k=0:=by omega);rw [<-hi0_1];simp [iu]
 rw [hX] at hr;clear hX
 subst hr
 refine an aa [0] 1 rfl rfl rfl rfl rfl rfl ?_ ?_
 all_goals first|rfl|(simp [ay];done)|(simp [ay];omega)
theorem rQ (l:List Int) (hb:∀ c∈l,0<=c/\c<=255) (hl:l.length<=4) (n:Int) (hr:gq l=n):Fn Try.prog 51 [(.c (qB l))] (.v (.c (cI n))) []:=by
 refine Fn.mk' 19 [(0,(aC (qB l)))] Try.func51 rfl rfl rfl rfl ?_
 intro W0 T0
 refine dr 0 rfl (fun hlen0=>?_)
 refine ae aa 1 rfl ?_
 refine ae aa 1 rfl ?_
 refine ag ?_
 refine aH aa 1 rfl ?_
 refine aA (cM rfl rfl rfl rfl rfl Try.underlying86) rfl ?_
 refine ad aa 1 rfl ?_
 refine af ?_
 refine aX ?_
 refine cw (β:=Nat×Int) (fun (p:Nat×Int)=>match p with|(q,m)=>⟨[(2,(aI 0)),(3,(aI m)),(6,(aC (qB l))),(7,(aI (↑l.length:Int))),(8,(aI (↑q:Int)))],[],0⟩) (fun (p:Nat×Int)=>match p with|(q,m)=>q<=l.length/\m=gq (l.take q)/\0<=m/\(q=0->m=0)/\(q=1->m<=255)/\(q=2->m<=65535)/\(q=3->m<=16777215)/\(q=4->m<=4294967295)) (fun (p:Nat×Int)=>match p with|(q,m)=>l.length - q) (0,0) ?_ ?_ ?_
 ·exact ⟨by omega,rfl,by omega⟩
 ·exact aF.bW id (by refine ⟨?_,?_,?_,?_,?_,trivial⟩<;>first|rfl|(simp only [bm];done)|(congr 3;omega)|(congr 4;omega)|(simp only [bn];rfl)) (trivial) rfl
 rintro ⟨q,m⟩ ⟨hi0_0,hi0_1,hi0_2⟩
 refine ae aa 1 rfl ?_
 refine ag ?_
 refine ah rfl (fun hc1=>?_) (fun hc1=>?_)
 ·
  have hc1':=of_decide_eq_true hc1
  refine aQ ?_
  refine ag ?_
  refine aX ?_
  refine eB ?_
  obtain ⟨x1,hx1⟩:=ck (xs:=l) (i:=q) (by first|omega|(simp;done)|(simp;omega))
  have hx1b:=hb x1 (List.mem_of_getElem? hx1)
  refine aA (cH (i:=q) rfl rfl rfl Try.underlying86 sg (by first|omega|(simp;done)|(simp;omega)) (bw hx1)) rfl ?_
  refine ad aa 2 rfl ?_
  refine af ?_
  refine au ?_
  refine ad aa 1 rfl ?_
  refine aA (Gm rfl rfl rfl (aJ (by first|omega|(simp;done)|(simp;omega)))) rfl ?_
  refine ad aa 1 rfl ?_
  refine aA (eI rfl rfl (by rw [Try.underlying5];rfl) Try.underlying3 (gR (by first|omega|(simp;done)|(simp;omega)))) rfl ?_
  refine aA (HK (n:=m) rfl rfl rfl rfl (by first|omega|(simp;done)|(simp;omega)) (by first|omega|(simp;done)|(simp;omega)) rfl) rfl ?_
  refine ad aa 1 rfl ?_
  refine bY ?_
  refine bh ?_
  refine then_ok ?_
  refine au ?_
  refine aA (aL rfl rfl rfl (aJ (by first|omega|(simp;done)|(simp;omega)))) rfl ?_
  refine ad aa 1 rfl ?_
  refine af ?_
  refine ⟨(q+1,(m * 256)+(x1:Int)),⟨by omega,by rw [Bf hx1,<-hi0_1],by omega⟩,by first|omega|(simp;done)|(simp;omega),aF.bW id (by refine ⟨?_,?_,?_,?_,?_,trivial⟩<;>first|rfl|(simp only [bm];done)|(congr 3;omega)|(congr 4;omega)|(simp only [bn];rfl)) (trivial) rfl⟩
 have hc1':=of_decide_eq_false hc1
 refine cj ?_
 refine aP ?_
 refine aP ?_
 refine bK ?_
 refine then_ok ?_
 refine ae aa 2 rfl ?_
 refine az ?_
 have hX:gq l=m:=by
   rw [hi0_1,List.take_of_length_le (by omega)]
 rw [hX] at hr;clear hX
 subst hr
 refine an aa [] 0 rfl rfl rfl rfl rfl rfl ?_ ?_
 all_goals first|rfl|(simp [ay];done)|(simp [ay];omega)
theorem Ak (l : List aj) (fn : FuncId) (bj : List (List D)) (hp : ∀ x y : aj, Fn Try.prog fn ([.g [cI x.aD, cI x.bc, cI x.kind, cI x.sum], .g [cI y.aD, cI y.bc, cI y.kind, cI y.sum]] ++ bj.map fun r => GV.c (.q r 0)) (aI (ik x y)) []) (hen : bl Try.prog fn) (r : Bool) (hr : oX l = r) : Fn Try.prog 52 [(.c (iy l)), (.c (.d (.f fn bj)))] (.v (.c (cB r))) [] := by
 refine Fn.mk' 25 [(0, (aC (iy l))), (1, (aC (.d (.f fn bj))))] Try.func52 rfl rfl rfl rfl ?_
 intro W0 T0
 refine dr 0 rfl (fun hlen0 => ?_)
 refine ae aa 1 rfl ?_
 refine ag ?_
 refine aH aa 1 rfl ?_
 refine aA (cM rfl rfl rfl rfl rfl Try.underlying42) rfl ?_
 refine aA (aL rfl rfl rfl (aJ (by first | omega | (simp; done) | (simp; omega)))) rfl ?_
 refine ad aa 1 rfl ?_
 refine af ?_
 refine aX ?_
 refine cw (β := Nat) (fun (q : Nat) => ⟨[(0, (aC (iy l))), (1, (aC (.d (.f fn bj)))), (5, (aI ((↑q : Int) - 1)))], [], 0⟩) (fun (q : Nat) => q ≤ l.length ∧ (∀ i, q ≤ i → 1 ≤ i → ∀ x y, l[i]? = some x → l[i - 1]? = some y → fM y x)) (fun (q : Nat) => q) l.length ?_ ?_ ?_
 · exact ⟨by omega, fun i hi h1 x y hx hy => by have := (List.getElem?_eq_some_iff.1 hx).1; omega⟩
 · exact aF.bW id (by refine ⟨?_, ?_, ?_,  trivial⟩ <;> first | rfl | (simp only [bm]; done) | (congr 3; omega) | (congr 4; omega) | (simp only [bn]; rfl) | (exact cz rfl (by omega))) (trivial) rfl
 ·
  rintro q ⟨hi0_0, hi0_1⟩
  refine ag ?_
  refine ae aa 2 rfl ?_
  refine ah rfl (fun hc1 => ?_) (fun hc1 => ?_)
  ·
   have hc1' := of_decide_eq_true hc1
   refine aQ ?_
   refine ag ?_
   refine aX ?_
   refine ag ?_
   obtain ⟨x1, hx1⟩ := ck (xs := l) (i := (q) - 1) (by first | omega | (simp; done) | (simp; omega))
   obtain ⟨x2, hx2⟩ := ck (xs := l) (i := ((q) - 1) - 1) (by first | omega | (simp; done) | (simp; omega))
   refine ba [0, 1, 5] [] mixed rfl rfl ?_
   refine aE (kn := []) aa 3 rfl trivial ?_
   refine aU (n' := 0) [14, 15] [] rfl rfl (.inl ⟨(ak.plain rfl), aM.cast (cH (i := (q) - 1) rfl rfl rfl Try.underlying42 dt (by first | omega | (simp; done) | (simp; omega)) (bw hx1)) rfl⟩) rfl ?_
   refine aE (kn := []) aa 3 rfl trivial ?_
   refine aU (n' := 0) [19] [] rfl rfl (.inl ⟨(ak.plain rfl), aM.cast (aL rfl rfl rfl (aJ (by first | omega | (simp; done) | (simp; omega)))) rfl⟩) rfl ?_
   refine aU (n' := 0) [18, 20] [] rfl rfl (.inl ⟨(ak.plain rfl), aM.cast (cH (i := ((q) - 1) - 1) rfl rfl rfl Try.underlying42 dt (by first | omega | (simp; done) | (simp; omega)) (bw hx2)) rfl⟩) rfl ?_
   refine aE (kn := []) aa 1 rfl trivial ?_
   refine aU (n' := 0) [13, 17, 22] [] rfl rfl (.inl ⟨(ak.plain rfl), aM.cast (gW (ins := [(.g [(cI x1.aD), (cI x1.bc), (cI x1.kind), (cI x1.sum)]), (.g [(cI x2.aD), (cI x2.bc), (cI x2.kind), (cI x2.sum)])]) 0 (hp x1 x2) hen rfl rfl rfl ⟨⟨_, rfl, .g ⟨.d _, .d _, .d _, .d _,  trivial⟩⟩, ⟨_, rfl, .g ⟨.d _, .d _, .d _, .d _,  trivial⟩⟩,  trivial⟩ trivial trivial rfl rfl rfl rfl) rfl⟩) rfl ?_
   refine aE (kn := []) aa 1 rfl trivial ?_
   refine bC [] rfl rfl rfl rfl (by kernel_rfl) ?_
   refine af ?_
   refine ah rfl (fun hc2 => ?_) (fun hc2 => ?_)
   ·
    have hc2' := of_decide_eq_true hc2
    refine ae aa 1 rfl ?_
    refine az ?_
    refine bp ?_
    refine aq ?_
    refine aq ?_
    refine bp ?_
    refine aq ?_
    have hX : oX l = false := by
      exact EL (q := q - 1) (by omega) hx1 hx2 (kN.1 (by assumption))
    rw [hX] at hr; clear hX
    subst hr
    refine an aa [] 0 rfl rfl rfl rfl rfl rfl ?_ ?_
    all_goals first | rfl | (simp [ay]; done) | (simp [ay]; omega)
   ·
    have hc2' := of_decide_eq_false hc2
    refine cZ ?_
    refine bh ?_
    refine then_ok ?_
    refine au ?_
    refine ad aa 1 rfl ?_
    refine aA (aL rfl rfl rfl (aJ (by first | omega | (simp; done) | (simp; omega)))) rfl ?_
    refine ad aa 1 rfl ?_
    refine af ?_
    refine ⟨q - 1, ⟨by omega, fun i hi h1 x y hx hy => by
            by_cases hiq : i = q - 1
            · subst hiq
              rw [hx1] at hx; rw [hx2] at hy; injection hx with hx; injection hy with hy; subst hx hy
              exact qk.1 (kO (by assumption))
            · exact hi0_1 i (by omega) h1 x y hx hy⟩, by first | omega | (simp; done) | (simp; omega), aF.bW id (by refine ⟨?_, ?_, ?_,  trivial⟩ <;> first | rfl | (simp only [bm]; done) | (congr 3; omega) | (congr 4; omega) | (simp only [bn]; rfl) | (exact cz rfl (by omega))) (trivial) rfl⟩
  ·
   have hc1' := of_decide_eq_false hc1
   refine cj ?_
   refine aP ?_
   refine aP ?_
   refine bK ?_
   refine then_ok ?_
   refine ae aa 1 rfl ?_
   refine az ?_
   have hX : oX l = true := by
     exact CF (q := q) (by omega) hi0_1
   rw [hX] at hr; clear hX
   subst hr
   refine an aa [] 0 rfl rfl rfl rfl rfl rfl ?_ ?_
   all_goals first | rfl | (simp [ay]; done) | (simp [ay]; omega)

theorem yj (l:List aj) (hl:l.length * 32<=140737488355328) (x:List Int) (f:dc) (hr:ei l=(x,f)):Fn Try.prog 92 [(.c (iy l))] (.t [(.c (.s 0 0 1 x.length)),(.g [(cI f.err),(cI f.at_)])]) [(0,(zh x))]:=by
 refine Fn.mk' 50 [(0,(aC (iy l)))] Try.func92 rfl rfl rfl rfl ?_
 intro W0 T0
 refine dr 0 rfl (fun hlen0=>?_)
 refine ae aa 2 rfl ?_
 refine ag ?_
 refine aH aa 1 rfl ?_
 obtain ⟨f0,hr0⟩:∃ (f0:dc),eO l=f0:=⟨_,rfl⟩
 refine aN 1 [0] (bQ 1 (qT l f0 hr0) GS rfl rfl ⟨⟨_,rfl,.c (.d _)⟩,trivial⟩ ⟨trivial,trivial,trivial⟩ trivial rfl rfl rfl rfl) rfl ?_
 refine ad aa 2 rfl ?_
 refine af ?_
 refine ae aa 3 rfl ?_
 refine ah rfl (fun hc1=>?_) (fun hc1=>?_)
 ·
  have hc1':=of_decide_eq_true hc1
  refine ag ?_
  refine ba [0,3,4] [1,0] mixed rfl rfl ?_
  refine aE (kn:=[]) aa 2 rfl trivial ?_
  refine bC [1,0] rfl rfl rfl rfl (by kernel_rfl) ?_
  refine ad aa 1 rfl ?_
  refine af ?_
  refine az ?_
  refine aq ?_
  refine cT (aF.nil 2 5 1 (by decide) rfl) ?_
  have hX:ei l=(([]:List Int),f0):=by
    unfold ei;rw [if_neg (by rw [hr0];omega),hr0]
  rw [hX] at hr;clear hX
  simp only [Prod.mk.injEq] at hr;obtain ⟨rfl,rfl⟩:=hr
  refine an aa [2,0] 1 rfl rfl rfl rfl rfl rfl ?_ ?_
  all_goals first|rfl|(simp [ay];done)|(simp [ay];omega)
 have hc1':=of_decide_eq_false hc1
 refine aQ ?_
 have hw:(eO l).err=0:=by rw [hr0];omega
 have hok:=jg.1 hw
 refine aH aa 1 rfl ?_
 refine aA (cM rfl rfl rfl rfl rfl Try.underlying42) rfl ?_
 refine aA (eI rfl rfl (by rw [Try.underlying3];rfl) Try.underlying5 nF) rfl ?_
 refine aN 3 [2,1,0] (dy (ys:=[(0,(.c (.d (.v (.int .u8 ((↑l.length:Int) % 256))))))]) (rows:=([(↑l.length:Int) % 256]).map fK) 2 wb rfl (by decide) ⟨⟨rfl,rfl⟩,trivial⟩ rfl rfl rfl rfl) rfl ?_
 refine ad aa 1 rfl ?_
 refine af ?_
 refine ae aa 1 rfl ?_
 refine ag ?_
 refine aH aa 1 rfl ?_
 obtain ⟨r1,hr1⟩:∃ (r1:List aj),dJ l=r1:=⟨_,rfl⟩
 have hlr:r1.length=l.length:=by rw [<-hr1];exact jV _
 have hrok:∀ x∈r1,nA x:=fun x hx=>hok.2 x ((ju l).mem.2 (by rw [hr1];exact hx))
 refine aN 4 [3,2,1,0] (bQ 3 (Ea l (by first|omega|(simp;done)|(simp;omega)) r1 hr1) Jp rfl rfl ⟨⟨_,rfl,.c (.d _)⟩,trivial⟩ trivial ⟨(fun _ _ _ _=>trivial),trivial⟩ rfl rfl rfl rfl) rfl ?_
 refine aA (dz rfl rfl rfl rfl rfl Try.underlying42) rfl ?_
 refine ad aa 1 rfl ?_
 refine af ?_
 refine aX ?_
 refine cw (β:=Nat×List Int×Int) (fun (p:Nat×List Int×Int)=>match p with|(q,m,all)=>⟨[(2,(aC cN)),(3,(aC (.p 0 0 0 0))),(5,(aC (.s 2 0 1 m.length))),(6,(aI all)),(20,(aC (.s 3 0 4 r1.length))),(21,(aI (↑r1.length:Int))),(22,(aI (↑q:Int)))],[(3,(cS r1)),(2,(zh m)),(0,(.box 50 [(cI 0),(cI 0)]))],4⟩) (fun (p:Nat×List Int×Int)=>match p with|(q,m,all)=>q<=r1.length/\m=gT l (r1.take q)/\all=eK (r1.take q)/\0<=all/\all<=1000000 * (q:Int)) (fun (p:Nat×List Int×Int)=>match p with|(q,m,all)=>r1.length - q) (0,[(↑l.length:Int) % 256],0) ?_ ?_ ?_
 ·exact ⟨by omega,by simp [gT],rfl,by omega⟩
 ·exact aF.bW id (by refine ⟨?_,?_,?_,?_,?_,?_,?_,trivial⟩<;>first|rfl|(simp only [bm];done)|(congr 3;omega)|(congr 4;omega)|(simp only [bn];rfl)) (by refine ⟨?_,?_,?_,trivial⟩<;>first|rfl|(simp only [bm];done)|(congr 3;omega)|(congr 4;omega)|(simp only [bn];rfl)) rfl
 rintro ⟨q,m,all⟩ ⟨hi0_0,hi0_1,hi0_2,hi0_3⟩
 have hml:m.length=1+6 * q:=by rw [hi0_1,ke,List.length_take];omega
 refine ae aa 1 rfl ?_
 refine ag ?_
 refine ah rfl (fun hc2=>?_) (fun hc2=>?_)
 ·
  have hc2':=of_decide_eq_true hc2
  refine aQ ?_
  refine ag ?_
  refine aX ?_
  refine eB ?_
  refine aA (bA (i:=q) rfl rfl rfl Try.underlying42 dt (by first|omega|(simp;done)|(simp;omega)) (by first|omega|(simp;done)|(simp;omega))) rfl ?_
  obtain ⟨x1,hx1⟩:=ck (xs:=r1) (i:=q) (by first|omega|(simp;done)|(simp;omega))
  have hx1b:=vI (hrok x1 (List.mem_of_getElem? hx1))
  refine aA (dm rfl rfl rfl Try.underlying83 rfl dt (bw hx1) rfl) rfl ?_
  refine ad aa 2 rfl ?_
  refine af ?_
  refine ag ?_
  obtain ⟨r2,hr2⟩:∃ (r2:List Int),(m++([x1.aD % 256,x1.bc % 256,x1.kind % 256]))++iu x1.sum 3=r2:=⟨_,rfl⟩
  have hlr2:r2.length=m.length+6:=by rw [<-hr2];simp [me]
  refine ba [2,3,5,6,20,21,22,8] [4,3,2,0] mixed rfl rfl ?_
  refine aE (kn:=[]) aa 3 rfl trivial ?_
  refine aU (n':=5) [28] [] rfl rfl (.inl ⟨(ak.plain rfl),aM.cast (eI rfl rfl (by rw [Try.underlying3];rfl) Try.underlying5 nF) rfl⟩) rfl ?_
  refine aE (kn:=[]) aa 2 rfl trivial ?_
  refine aU (n':=5) [31] [] rfl rfl (.inl ⟨(ak.plain rfl),aM.cast (eI rfl rfl (by rw [Try.underlying3];rfl) Try.underlying5 nF) rfl⟩) rfl ?_
  refine aE (kn:=[]) aa 2 rfl trivial ?_
  refine aU (n':=5) [34] [] rfl rfl (.inl ⟨(ak.plain rfl),aM.cast (eI rfl rfl (by rw [Try.underlying3];rfl) Try.underlying5 nF) rfl⟩) rfl ?_
  refine aU (n':=6) [29,32,35] [] rfl rfl (.inl ⟨(ak.plain rfl),aM.cast (dy (ys:=[(0,(.c (.d (.v (.int .u8 (x1.aD % 256)))))),(1,(.c (.d (.v (.int .u8 (x1.bc % 256)))))),(2,(.c (.d (.v (.int .u8 (x1.kind % 256))))))]) (rows:=([x1.aD % 256,x1.bc % 256,x1.kind % 256]).map fK) 5 wb rfl (by decide) ⟨⟨rfl,rfl⟩,⟨rfl,rfl⟩,⟨rfl,rfl⟩,trivial⟩ rfl rfl rfl rfl) rfl⟩) rfl ?_
  refine aU (n':=7) [26,36] [5,2] rfl rfl (.inl ⟨(ak.plain rfl),aM.cast (cX (m:=3) (N:=m.length+3) (k2:=6) (ys:=([x1.aD % 256,x1.bc % 256,x1.kind % 256]).map fK) wb rfl rfl rfl rfl rfl rfl (by first|omega|(simp;done)|(simp;omega)) rfl (.s rfl (by first|omega|(simp;done)|(simp;omega))) (by first|omega|(simp;done)|(simp;omega)) (by first|omega|(simp;done)|(simp;omega)) eH (by decide) (by first|omega|(simp;done)|(simp;omega)) (by first|omega|(simp;done)|(simp;omega))) rfl⟩) rfl ?_
  refine aE (kn:=[]) aa 2 rfl trivial ?_
  refine aU (n':=8) [37,39] [6] rfl rfl (.inl ⟨(ak.plain rfl),aM.cast (cL (bd [6]) (bd [7]) (vj (m++([x1.aD % 256,x1.bc % 256,x1.kind % 256])) (m.length+3) x1.sum 3 (by first|omega|(simp;done)|(simp;omega)) (by first|omega|(simp;done)|(simp;omega)) (by first|omega|(simp;done)|(simp;omega)) r2 hr2) EA rfl rfl ⟨⟨_,rfl,.inl ⟨rfl,rfl⟩⟩,⟨_,rfl,.inr (.c (.d _))⟩,⟨_,rfl,.inr (.c (.d _))⟩,trivial⟩ ⟨rfl,trivial⟩ rfl rfl rfl rfl rfl rfl trivial ⟨(fun _ _ _ _=>trivial),trivial⟩ rfl rfl rfl rfl) rfl⟩) rfl ?_
  refine bC [7,4,3,0] rfl rfl rfl rfl (by kernel_rfl) ?_
  refine ad aa 1 rfl ?_
  refine af ?_
  refine au ?_
  refine ad aa 3 rfl ?_
  refine aA (aL rfl rfl rfl (aJ (by first|omega|(simp;done)|(simp;omega)))) rfl ?_
  refine ad aa 1 rfl ?_
  refine bY ?_
  refine bh ?_
  refine then_ok ?_
  refine au ?_
  refine aA (aL rfl rfl rfl (aJ (by first|omega|(simp;done)|(simp;omega)))) rfl ?_
  refine ad aa 1 rfl ?_
  refine af ?_
  refine ⟨(q+1,r2,all+x1.sum),⟨by omega,by rw [zM hx1,<-hi0_1,<-hr2];simp [jG],by rw [AH hx1,<-hi0_2],by omega⟩,by first|omega|(simp;done)|(simp;omega),aF.bW (fun k=>if k=2 then 7 else k) (by refine ⟨?_,?_,?_,?_,?_,?_,?_,trivial⟩<;>first|rfl|(simp only [bm];done)|(congr 3;omega)|(congr 4;omega)|(simp only [bn];rfl)|(first|exact cz rfl (by omega)|exact fD rfl (by simp only [List.length_append,List.length_take,List.length_drop,List.length_cons,List.length_nil];omega))) (by refine ⟨?_,?_,?_,trivial⟩<;>first|rfl|(simp only [bm];done)|(congr 3;omega)|(congr 4;omega)|(simp only [bn];rfl)) rfl⟩
 have hc2':=of_decide_eq_false hc2
 refine cj ?_
 refine aP ?_
 refine aP ?_
 refine bK ?_
 refine then_ok ?_
 refine aH aa 2 rfl ?_
 obtain ⟨r3,hr3⟩:∃ (r3:List Int),m++iu all 4=r3:=⟨_,rfl⟩
 have hlr3:r3.length=m.length+4:=by rw [<-hr3];simp [me]
 refine aN 5 [4,3,0] (cL (bd [2]) (bd [4]) (vj m m.length all 4 (by first|omega|(simp;done)|(simp;omega)) (by first|omega|(simp;done)|(simp;omega)) (by first|omega|(simp;done)|(simp;omega)) r3 hr3) EA rfl rfl ⟨⟨_,rfl,.inl ⟨rfl,rfl⟩⟩,⟨_,rfl,.inr (.c (.d _))⟩,⟨_,rfl,.inr (.c (.d _))⟩,trivial⟩ ⟨rfl,trivial⟩ rfl rfl rfl rfl rfl rfl trivial ⟨(fun _ _ _ _=>trivial),trivial⟩ rfl rfl rfl rfl) rfl ?_
 refine ad aa 3 rfl ?_
 refine af ?_
 refine az ?_
 have hX:ei l=(r3,(⟨0,0⟩:dc)):=by
   have ht:r1.take q=r1:=List.take_of_length_le (by omega)
   rw [ht] at hi0_1 hi0_2
   unfold ei
   rw [if_pos hw,hr1,<-hi0_1,<-hi0_2]
   rw [hr3]
 rw [hX] at hr;clear hX
 simp only [Prod.mk.injEq] at hr;obtain ⟨rfl,rfl⟩:=hr
 refine an aa [4,0] 1 rfl rfl rfl rfl rfl rfl ?_ ?_
 all_goals first|rfl|(simp [ay];done)|(simp [ay];omega)

theorem kD (x:Nat->Value) (hx:∀ i,(x i).oneCell'=true) (e err:Int) (e2:Int) (hr:dD e err=e2):cJ Try.prog 87 [(.c (.p 0 0 0 0)),(.c (cI err))] [(0,(.box 147 ((bf x).set 19 (cI e))))] [0] (.v (.c (cB (decide (¬e2=0))))) [(0,(.box 147 ((bf x).set 19 (cI e2))))]:=by
 refine cJ.mk 19 [(0,(aC (.p 0 0 0 0))),(1,(aI err))] 1 Try.func87 rfl rfl rfl rfl rfl rfl rfl rfl rfl ?_
 intro W0 F0 T0 pg
 refine ae aa 1 rfl ?_
 refine ag ?_
 refine ae aa 5 rfl ?_
 refine ah rfl (fun hc1=>?_) (fun hc1=>?_)
 ·
  have hc1':=of_decide_eq_true hc1
  refine au ?_
  refine ad aa 5 rfl ?_
  refine af ?_
  refine ae aa 6 rfl ?_
  refine az ?_
  have hX:dD e err=err:=by
    (unfold dD;try dsimp only);(repeat' split)<;>first|rfl|omega|(exfalso;omega)|(subst_vars;rfl)|(simp_all;done)|(simp_all;omega)
  rw [hX] at hr;clear hX
  subst hr
  refine an aa [0] 1 rfl rfl rfl rfl rfl rfl ?_ ?_
  all_goals first|rfl|(simp [ay,aY,bf];done)|(simp [ay,aY,bf];omega)
 have hc1':=of_decide_eq_false hc1
 refine aQ ?_
 refine ae aa 6 rfl ?_
 refine az ?_
 have hX:dD e err=e:=by
   (unfold dD;try dsimp only);(repeat' split)<;>first|rfl|omega|(exfalso;omega)|(subst_vars;rfl)|(simp_all;done)|(simp_all;omega)
 rw [hX] at hr;clear hX
 subst hr
 refine an aa [0] 1 rfl rfl rfl rfl rfl rfl ?_ ?_
 all_goals first|rfl|(simp [ay,aY,bf];done)|(simp [ay,aY,bf];omega)

theorem jM (x:Nat->Value) (hx:∀ i,(x i).oneCell'=true) (l:List Entry) (e src dst n:Int) (l2:List Entry) (e2:Int) (hr:dY l e src dst n=(l2,e2)):cJ Try.prog 76 [(.c (.p 0 0 0 0)),(.c (cI src)),(.c (cI dst)),(.c (cI n))] [(0,(.box 147 (((bf x).set 18 (eb l)).set 19 (cI e))))] [0] (.t []) [(0,(.box 147 (((bf x).set 18 (eb l2)).set 19 (cI e2))))]:=by
 refine cJ.mk 31 [(0,(aC (.p 0 0 0 0))),(1,(aI src)),(2,(aI dst)),(3,(aI n))] 1 Try.func76 rfl rfl rfl rfl rfl rfl rfl rfl rfl ?_
 intro W0 F0 T0 pg
 refine aH aa 8 rfl ?_
 obtain ⟨r0,e0,hr0⟩:∃ (r0:List Entry) (e0:Int),jw l src dst n=(r0,e0):=⟨_,_,rfl⟩
 refine aN 1 [0] (bQ 1 (Fn.frozen (av':=(.t [(.c (eb r0)),(.c (cI e0))])) (yl l src dst n r0 e0 hr0) ⟨.inr ⟨_,_,_,_,_,rfl,rfl,rfl,by simp⟩,.inl ⟨_,rfl,rfl⟩,trivial⟩) IJ rfl rfl ⟨⟨_,rfl,.c (.d _)⟩,⟨_,rfl,.c (.d _)⟩,⟨_,rfl,.c (.d _)⟩,⟨_,rfl,.c (.d _)⟩,trivial⟩ ⟨trivial,trivial,trivial⟩ trivial rfl rfl rfl rfl) rfl ?_
 refine ad aa 5 rfl ?_
 refine af ?_
 refine aH aa 2 rfl ?_
 obtain ⟨e21,hr1⟩:∃ (e21:Int),dD e e0=e21:=⟨_,rfl⟩
 refine aN 1 [0] (cr id id (ms:=(dG.set 19 (some (cI e)))) (ms':=(dG.set 19 (some (cI e21)))) (fun x hx=>kD x hx e e0 e21 hr1) ov rfl rfl ⟨⟨_,rfl,.inl ⟨rfl,rfl⟩⟩,⟨_,rfl,.inr (.c (.d _))⟩,trivial⟩ rfl rfl rfl rfl rfl rfl rfl trivial rfl rfl rfl rfl rfl rfl rfl rfl rfl rfl rfl rfl rfl) rfl ?_
 refine ad aa 1 rfl ?_
 refine af ?_
 refine ah rfl (fun hc1=>?_) (fun hc1=>?_)
 ·
  have hc1':=hc1;try simp only [bu,bU] at hc1'
  refine au ?_
  refine ad aa 6 rfl ?_
  refine bY ?_
  have hX:dY l e src dst n=(r0,e21):=by
    unfold dY;simp only [hr0,hr1];(repeat' split)<;>first|rfl|omega|(exfalso;omega)|(simp_all;done)|(simp_all;omega)
  rw [hX] at hr;clear hX
  simp only [Prod.mk.injEq] at hr;obtain ⟨rfl,rfl⟩:=hr
  refine cP aa [0] 1 rfl rfl rfl rfl rfl rfl ?_ ?_
  all_goals first|rfl|(simp [ay,aY,bf];done)|(simp [ay,aY,bf];omega)
 have hc1':=hc1;try simp only [bu,bU] at hc1'
 refine cZ ?_
 have hX:dY l e src dst n=(l,e21):=by
   unfold dY;simp only [hr0,hr1];(repeat' split)<;>first|rfl|omega|(exfalso;omega)|(simp_all;done)|(simp_all;omega)
 rw [hX] at hr;clear hX
 simp only [Prod.mk.injEq] at hr;obtain ⟨rfl,rfl⟩:=hr
 refine cP aa [0] 1 rfl rfl rfl rfl rfl rfl ?_ ?_
 all_goals first|rfl|(simp [ay,aY,bf];done)|(simp [ay,aY,bf];omega)
theorem jy (x:Nat->Value) (hx:∀ i,(x i).oneCell'=true) (l:List bE) (e k held bx:Int) (hk:0<=k/\k < l.length) (l2:List bE) (e2:Int) (hr:cG l e k held bx=(l2,e2)):cJ Try.prog 75 [(.c (.p 0 0 0 0)),(.c (cI k)),(.c (cI held)),(.c (cI bx))] [(0,(.box 147 (((bf x).set 2 (.s 1 0 6 l.length)).set 19 (cI e)))),(1,(dW l))] [0] (.t []) [(0,(.box 147 (((bf x).set 2 (.s 1 0 6 l2.length)).set 19 (cI e2)))),(1,(dW l2))]:=by
 refine cJ.mk 36 [(0,(aC (.p 0 0 0 0))),(1,(aI k)),(2,(aI held)),(3,(aI bx))] 2 Try.func75 rfl rfl rfl rfl rfl rfl rfl rfl rfl ?_
 intro W0 F0 T0 pg
 refine aH aa 6 rfl ?_
 refine aA (bA (i:=Int.toNat (k)) rfl rfl rfl Try.underlying29 jE (by first|omega|(simp;done)|(simp;omega)) (by first|omega|(simp;done)|(simp;omega))) rfl ?_
 obtain ⟨x1,hx1⟩:=ck (xs:=l) (i:=Int.toNat (k)) (by first|omega|(simp;done)|(simp;omega))
 refine aA (dm rfl rfl rfl Try.underlying61 rfl jE (bw hx1) rfl) rfl ?_
 refine ad aa 2 rfl ?_
 obtain ⟨xr0,e0,hr0⟩:∃ (xr0:bE) (e0:Int),ec x1 held bx=(xr0,e0):=⟨_,_,rfl⟩
 refine aN 2 [0,1] (bQ 2 (Fn.frozen (av':=(.t [(.g [(cI xr0.bx),(cI xr0.held),(cI xr0.ch.cU),(cI xr0.ch.count),(cI xr0.ch.sum),(fI xr0.cO)]),(.c (cI e0))])) (xq x1 held bx xr0 e0 hr0) ⟨⟨.inl ⟨_,rfl,rfl⟩,.inl ⟨_,rfl,rfl⟩,.inl ⟨_,rfl,rfl⟩,.inl ⟨_,rfl,rfl⟩,.inl ⟨_,rfl,rfl⟩,.inr ⟨_,_,_,_,_,rfl,rfl,rfl,by simp⟩,trivial⟩,.inl ⟨_,rfl,rfl⟩,trivial⟩) IK rfl rfl ⟨⟨_,rfl,.g ⟨.d _,.d _,.d _,.d _,.d _,.d _,trivial⟩⟩,⟨_,rfl,.c (.d _)⟩,⟨_,rfl,.c (.d _)⟩,trivial⟩ ⟨⟨trivial,trivial,trivial,trivial,trivial,trivial,trivial⟩,trivial,trivial⟩ trivial rfl rfl rfl rfl) rfl ?_
 refine ad aa 6 rfl ?_
 refine af ?_
 refine aH aa 2 rfl ?_
 obtain ⟨e21,hr1⟩:∃ (e21:Int),dD e e0=e21:=⟨_,rfl⟩
 refine aN 3 [0,2,1] (cr id id (ms:=(dG.set 19 (some (cI e)))) (ms':=(dG.set 19 (some (cI e21)))) (fun x hx=>kD x hx e e0 e21 hr1) ov rfl rfl ⟨⟨_,rfl,.inl ⟨rfl,rfl⟩⟩,⟨_,rfl,.inr (.c (.d _))⟩,trivial⟩ rfl rfl rfl rfl rfl rfl rfl trivial rfl rfl rfl rfl rfl rfl rfl rfl rfl rfl rfl rfl rfl) rfl ?_
 refine ad aa 1 rfl ?_
 refine af ?_
 refine ah rfl (fun hc1=>?_) (fun hc1=>?_)
 ·
  have hc1':=hc1;try simp only [bu,bU] at hc1'
  refine ba [0,1,8] [0,2,1] mixed rfl rfl ?_
  refine aE (kn:=[]) aa 7 rfl trivial ?_
  refine aU (n':=3) [32,33] [1] rfl rfl (.inl ⟨(ak.plain rfl),aM.cast (bA (i:=Int.toNat (k)) rfl rfl rfl Try.underlying29 jE (by first|omega|(simp;done)|(simp;omega)) (by first|omega|(simp;done)|(simp;omega))) rfl⟩) rfl ?_
  refine bC [0,2,1] rfl rfl rfl rfl (by kernel_rfl) ?_
  refine gI [0,2,1] (dU (ds:=[(dI xr0.bx),(dI xr0.held),(dI xr0.ch.cU),(dI xr0.ch.count),(dI xr0.ch.sum),(GZ xr0.cO)]) rfl rfl rfl rfl rfl jE rfl (Nat.le_of_ble_eq_true rfl) (bw hx1) rfl (eZ (x':=xr0) rfl)) rfl ?_
  refine bY ?_
  have hX:cG l e k held bx=((l).set (Int.toNat (k)) xr0,e21):=by
    rw [pb hx1];simp only [hr0,hr1];(repeat' split)<;>first|rfl|omega|(exfalso;omega)|(simp_all;done)|(simp_all;omega)
  rw [hX] at hr;clear hX
  simp only [Prod.mk.injEq] at hr;obtain ⟨rfl,rfl⟩:=hr
  refine cP aa [0,1] 2 rfl rfl rfl rfl rfl rfl ?_ ?_
  all_goals first|rfl|(simp [ay,aY,bf];done)|(simp [ay,aY,bf];omega)
 have hc1':=hc1;try simp only [bu,bU] at hc1'
 refine cZ ?_
 have hX:cG l e k held bx=(l,e21):=by
   rw [pb hx1];simp only [hr0,hr1];(repeat' split)<;>first|rfl|omega|(exfalso;omega)|(simp_all;done)|(simp_all;omega)
 rw [hX] at hr;clear hX
 simp only [Prod.mk.injEq] at hr;obtain ⟨rfl,rfl⟩:=hr
 refine cP aa [0,1] 2 rfl rfl rfl rfl rfl rfl ?_ ?_
 all_goals first|rfl|(simp [ay,aY,bf];done)|(simp [ay,aY,bf];omega)
theorem Hf (x:Nat->Value) (hx:∀ i,(x i).oneCell'=true) (l:List aj) (e:Int) (r:aj) (hl:l.length<=100) (l2:List aj) (e2:Int) (hr:iO l e r=(l2,e2)):cJ Try.prog 83 [(.c (.p 0 0 0 0)),(.g [(cI r.aD),(cI r.bc),(cI r.kind),(cI r.sum)])] [(0,(.box 147 (((bf x).set 16 (.s 1 0 4 l.length)).set 19 (cI e)))),(1,(cS l))] [0] (.t []) [(0,(.box 147 (((bf x).set 16 (.s 1 0 4 l2.length)).set 19 (cI e2)))),(1,(cS l2))]:=by
 refine cJ.mk 25 [(0,(aC (.p 0 0 0 0))),(1,(aG [(cI r.aD),(cI r.bc),(cI r.kind),(cI r.sum)]))] 2 Try.func83 rfl rfl rfl rfl rfl rfl rfl rfl rfl ?_
 intro W0 F0 T0 pg
 refine ae aa 1 rfl ?_
 refine ag ?_
 refine aH aa 5 rfl ?_
 refine aA (dz rfl rfl rfl rfl rfl Try.underlying42) rfl ?_
 refine ad aa 1 rfl ?_
 refine af ?_
 refine ah rfl (fun hc1=>?_) (fun hc1=>?_)
 ·
  have hc1':=of_decide_eq_true hc1
  refine aH aa 1 rfl ?_
  obtain ⟨e20,hr0⟩:∃ (e20:Int),dD e 5=e20:=⟨_,rfl⟩
  refine aN 3 [0,2,1] (cr id id (ms:=(dG.set 19 (some (cI e)))) (ms':=(dG.set 19 (some (cI e20)))) (fun x hx=>kD x hx e 5 e20 hr0) ov rfl rfl ⟨⟨_,rfl,.inl ⟨rfl,rfl⟩⟩,⟨_,rfl,.inr (.c (.d _))⟩,trivial⟩ rfl rfl rfl rfl rfl rfl rfl trivial rfl rfl rfl rfl rfl rfl rfl rfl rfl rfl rfl rfl rfl) rfl ?_
  refine af ?_
  refine az ?_
  refine aq ?_
  have hX:iO l e r=(l,e20):=by
    unfold iO;first|(rw [if_pos (by omega),hr0];done)|(rw [if_neg (by omega)];done)
  rw [hX] at hr;clear hX
  simp only [Prod.mk.injEq] at hr;obtain ⟨rfl,rfl⟩:=hr
  refine an aa [0,1] 2 rfl rfl rfl rfl rfl rfl ?_ ?_
  all_goals first|rfl|(simp [ay,aY,bf];done)|(simp [ay,aY,bf];omega)
 have hc1':=of_decide_eq_false hc1
 refine aQ ?_
 refine ba [0,3] [2,0,1] mixed rfl rfl ?_
 refine aE (kn:=[]) aa 7 rfl trivial ?_
 refine aU (n':=4) [19] [] rfl rfl (.inl ⟨(ak.plain rfl),aM.cast (dy (ys:=[(0,(.g [(cI r.aD),(cI r.bc),(cI r.kind),(cI r.sum)]))]) (rows:=([r]).map gj) 3 tE rfl (by decide) ⟨⟨rfl,rfl⟩,trivial⟩ rfl rfl rfl rfl) rfl⟩) rfl ?_
 refine aU (n':=5) [18,20] [3,1] rfl rfl (.inl ⟨(ak.plain rfl),aM.cast (cX (m:=1) (N:=l.length+1) (k2:=4) (ys:=([r]).map gj) tE rfl rfl rfl rfl rfl rfl (by first|omega|(simp;done)|(simp;omega)) rfl (.s rfl (by first|omega|(simp;done)|(simp;omega))) (by first|omega|(simp;done)|(simp;omega)) (by first|omega|(simp;done)|(simp;omega)) eH (by decide) (by first|omega|(simp;done)|(simp;omega)) (by first|omega|(simp;done)|(simp;omega))) rfl⟩) rfl ?_
 refine aE (kn:=[]) aa 3 rfl trivial ?_
 refine bC [4,2,0] rfl rfl rfl rfl (by kernel_rfl) ?_
 refine ad aa 1 rfl ?_
 refine bY ?_
 have hX:iO l e r=(l++([r]),e):=by
   unfold iO;first|(rw [if_pos (by omega),hr0];done)|(rw [if_neg (by omega)];done)
 rw [hX] at hr;clear hX
 simp only [Prod.mk.injEq] at hr;obtain ⟨rfl,rfl⟩:=hr
 refine cP aa [0,4] 2 rfl rfl rfl rfl rfl rfl ?_ ?_
 all_goals first|rfl|(simp [ay,aY,bf];done)|(simp [ay,aY,bf];omega)

theorem ub (x:Nat->Value) (hx:∀ i,(x i).oneCell'=true) (s:bX) (e:Int) (t:aT) (hI:∀ t∈s.kept,gi t.number) (s2:bX) (e2:Int) (hr:eM s e t=(s2,e2)):cJ Try.prog 82 [(.c (.p 0 0 0 0)),(.c (cI 0)),(.g [(cI t.number),(cI t.kind),(cI t.bc),(cI t.sum)])] [(0,(.box 147 ((((bf x).set 5 (cI s.bL)).set 6 (dn s.kept)).set 19 (cI e))))] [0] (.t []) [(0,(.box 147 ((((bf x).set 5 (cI s2.bL)).set 6 (dn s2.kept)).set 19 (cI e2))))]:=by
 refine cJ.mk 31 [(0,(aC (.p 0 0 0 0))),(1,(aI 0)),(2,(aG [(cI t.number),(cI t.kind),(cI t.bc),(cI t.sum)]))] 1 Try.func82 rfl rfl rfl rfl rfl rfl rfl rfl rfl ?_
 intro W0 F0 T0 pg
 refine ae aa 1 rfl ?_
 refine ag ?_
 obtain ⟨xr0,e0,hr0⟩:∃ (xr0:bX) (e0:Int),fL s t=(xr0,e0):=⟨_,_,rfl⟩
 refine dg [0,1,5] [1,0] mixed rfl rfl ?_
 refine ca (kn:=[]) aa 5 rfl trivial ?_
 refine cg (n':=2) [13,10] [0] rfl rfl (.inl ⟨(ak.plain rfl),aM.cast (dv (i:=0) rfl rfl rfl Try.underlying35 nd rfl (by decide)) rfl⟩) rfl ?_
 refine ca (kn:=[]) aa 2 rfl trivial ?_
 refine cg (n':=2) [15,16] [] rfl rfl (.inl ⟨(ak.plain rfl),aM.cast (bQ 2 (Fn.frozen (av':=(.t [(.g [(cI xr0.bL),(dn xr0.kept)]),(.c (cI e0))])) (sX s t (by first|assumption|exact kR (by assumption) (by omega)|exact jT (by assumption) (by assumption)|(simp [gi];done)) xr0 e0 hr0) ⟨⟨.inl ⟨_,rfl,rfl⟩,.inr ⟨_,_,_,_,_,rfl,rfl,rfl,by simp⟩,trivial⟩,.inl ⟨_,rfl,rfl⟩,trivial⟩) ED rfl rfl ⟨⟨_,rfl,.g ⟨.d _,.d _,trivial⟩⟩,⟨_,rfl,.g ⟨.d _,.d _,.d _,.d _,trivial⟩⟩,trivial⟩ ⟨⟨trivial,trivial,trivial⟩,trivial,trivial⟩ trivial rfl rfl rfl rfl) rfl⟩) rfl ?_
 refine ca (n':=3) (kn:=[]) aa 6 rfl trivial ?_
 refine dX [0,1,6,7] [2,0] rfl rfl (by kernel_rfl) ?_
 refine then_ok ?_
 refine aH aa 2 rfl ?_
 obtain ⟨e21,hr1⟩:∃ (e21:Int),dD e e0=e21:=⟨_,rfl⟩
 refine aN 3 [0,2] (cr id id (ms:=(dG.set 19 (some (cI e)))) (ms':=(dG.set 19 (some (cI e21)))) (fun x hx=>kD x hx e e0 e21 hr1) ov rfl rfl ⟨⟨_,rfl,.inl ⟨rfl,rfl⟩⟩,⟨_,rfl,.inr (.c (.d _))⟩,trivial⟩ rfl rfl rfl rfl rfl rfl rfl trivial rfl rfl rfl rfl rfl rfl rfl rfl rfl rfl rfl rfl rfl) rfl ?_
 refine ad aa 1 rfl ?_
 refine af ?_
 refine ah rfl (fun hc1=>?_) (fun hc1=>?_)
 ·
  have hc1':=hc1;try simp only [bu,bU] at hc1'
  refine ba [0,1,6] [0,2] mixed rfl rfl ?_
  refine aE (kn:=[]) aa 6 rfl trivial ?_
  refine aU (n':=3) [29,25] [0] rfl rfl (.inl ⟨(ak.plain rfl),aM.cast (dv (i:=0) rfl rfl rfl Try.underlying35 nd rfl (by decide)) rfl⟩) rfl ?_
  refine bC [0,2] rfl rfl rfl rfl (by kernel_rfl) ?_
  refine ad aa 1 rfl ?_
  refine bY ?_
  have hX:eM s e t=(xr0,e21):=by
    unfold eM;simp only [hr0,hr1];(repeat' split)<;>first|rfl|omega|(exfalso;omega)|(simp_all;done)|(simp_all;omega)
  rw [hX] at hr;clear hX
  simp only [Prod.mk.injEq] at hr;obtain ⟨rfl,rfl⟩:=hr
  refine cP aa [0] 1 rfl rfl rfl rfl rfl rfl ?_ ?_
  all_goals first|rfl|(simp [ay,aY,bf];done)|(simp [ay,aY,bf];omega)
 have hc1':=hc1;try simp only [bu,bU] at hc1'
 refine cZ ?_
 have hX:eM s e t=(s,e21):=by
   unfold eM;simp only [hr0,hr1];(repeat' split)<;>first|rfl|omega|(exfalso;omega)|(simp_all;done)|(simp_all;omega)
 rw [hX] at hr;clear hX
 simp only [Prod.mk.injEq] at hr;obtain ⟨rfl,rfl⟩:=hr
 refine cP aa [0] 1 rfl rfl rfl rfl rfl rfl ?_ ?_
 all_goals first|rfl|(simp [ay,aY,bf];done)|(simp [ay,aY,bf];omega)
theorem Fy (x:Nat->Value) (hx:∀ i,(x i).oneCell'=true) (s:bX) (e:Int) (t:aT) (hI:∀ t∈s.kept,gi t.number) (s2:bX) (e2:Int) (hr:eM s e t=(s2,e2)):cJ Try.prog 82 [(.c (.p 0 0 0 0)),(.c (cI 1)),(.g [(cI t.number),(cI t.kind),(cI t.bc),(cI t.sum)])] [(0,(.box 147 ((((bf x).set 7 (cI s.bL)).set 8 (dn s.kept)).set 19 (cI e))))] [0] (.t []) [(0,(.box 147 ((((bf x).set 7 (cI s2.bL)).set 8 (dn s2.kept)).set 19 (cI e2))))]:=by
 refine cJ.mk 31 [(0,(aC (.p 0 0 0 0))),(1,(aI 1)),(2,(aG [(cI t.number),(cI t.kind),(cI t.bc),(cI t.sum)]))] 1 Try.func82 rfl rfl rfl rfl rfl rfl rfl rfl rfl ?_
 intro W0 F0 T0 pg
 refine ae aa 1 rfl ?_
 refine ag ?_
 obtain ⟨xr0,e0,hr0⟩:∃ (xr0:bX) (e0:Int),fL s t=(xr0,e0):=⟨_,_,rfl⟩
 refine dg [0,1,5] [1,0] mixed rfl rfl ?_
 refine ca (kn:=[]) aa 5 rfl trivial ?_
 refine cg (n':=2) [13,10] [0] rfl rfl (.inl ⟨(ak.plain rfl),aM.cast (dv (i:=1) rfl rfl rfl Try.underlying35 nd rfl (by decide)) rfl⟩) rfl ?_
 refine ca (kn:=[]) aa 2 rfl trivial ?_
 refine cg (n':=2) [15,16] [] rfl rfl (.inl ⟨(ak.plain rfl),aM.cast (bQ 2 (Fn.frozen (av':=(.t [(.g [(cI xr0.bL),(dn xr0.kept)]),(.c (cI e0))])) (sX s t (by first|assumption|exact kR (by assumption) (by omega)|exact jT (by assumption) (by assumption)|(simp [gi];done)) xr0 e0 hr0) ⟨⟨.inl ⟨_,rfl,rfl⟩,.inr ⟨_,_,_,_,_,rfl,rfl,rfl,by simp⟩,trivial⟩,.inl ⟨_,rfl,rfl⟩,trivial⟩) ED rfl rfl ⟨⟨_,rfl,.g ⟨.d _,.d _,trivial⟩⟩,⟨_,rfl,.g ⟨.d _,.d _,.d _,.d _,trivial⟩⟩,trivial⟩ ⟨⟨trivial,trivial,trivial⟩,trivial,trivial⟩ trivial rfl rfl rfl rfl) rfl⟩) rfl ?_
 refine ca (n':=3) (kn:=[]) aa 6 rfl trivial ?_
 refine dX [0,1,6,7] [2,0] rfl rfl (by kernel_rfl) ?_
 refine then_ok ?_
 refine aH aa 2 rfl ?_
 obtain ⟨e21,hr1⟩:∃ (e21:Int),dD e e0=e21:=⟨_,rfl⟩
 refine aN 3 [0,2] (cr id id (ms:=(dG.set 19 (some (cI e)))) (ms':=(dG.set 19 (some (cI e21)))) (fun x hx=>kD x hx e e0 e21 hr1) ov rfl rfl ⟨⟨_,rfl,.inl ⟨rfl,rfl⟩⟩,⟨_,rfl,.inr (.c (.d _))⟩,trivial⟩ rfl rfl rfl rfl rfl rfl rfl trivial rfl rfl rfl rfl rfl rfl rfl rfl rfl rfl rfl rfl rfl) rfl ?_
 refine ad aa 1 rfl ?_
 refine af ?_
 refine ah rfl (fun hc1=>?_) (fun hc1=>?_)
 ·
  have hc1':=hc1;try simp only [bu,bU] at hc1'
  refine ba [0,1,6] [0,2] mixed rfl rfl ?_
  refine aE (kn:=[]) aa 6 rfl trivial ?_
  refine aU (n':=3) [29,25] [0] rfl rfl (.inl ⟨(ak.plain rfl),aM.cast (dv (i:=1) rfl rfl rfl Try.underlying35 nd rfl (by decide)) rfl⟩) rfl ?_
  refine bC [0,2] rfl rfl rfl rfl (by kernel_rfl) ?_
  refine ad aa 1 rfl ?_
  refine bY ?_
  have hX:eM s e t=(xr0,e21):=by
    unfold eM;simp only [hr0,hr1];(repeat' split)<;>first|rfl|omega|(exfalso;omega)|(simp_all;done)|(simp_all;omega)
  rw [hX] at hr;clear hX
  simp only [Prod.mk.injEq] at hr;obtain ⟨rfl,rfl⟩:=hr
  refine cP aa [0] 1 rfl rfl rfl rfl rfl rfl ?_ ?_
  all_goals first|rfl|(simp [ay,aY,bf];done)|(simp [ay,aY,bf];omega)
 have hc1':=hc1;try simp only [bu,bU] at hc1'
 refine cZ ?_
 have hX:eM s e t=(s,e21):=by
   unfold eM;simp only [hr0,hr1];(repeat' split)<;>first|rfl|omega|(exfalso;omega)|(simp_all;done)|(simp_all;omega)
 rw [hX] at hr;clear hX
 simp only [Prod.mk.injEq] at hr;obtain ⟨rfl,rfl⟩:=hr
 refine cP aa [0] 1 rfl rfl rfl rfl rfl rfl ?_ ?_
 all_goals first|rfl|(simp [ay,aY,bf];done)|(simp [ay,aY,bf];omega)
theorem BU (x:Nat->Value) (hx:∀ i,(x i).oneCell'=true) (ax:List bF) (due:List Int) (aw:List bE) (book:List Entry) (e:Int) (t:aT) (ht:0<=t.bc/\t.bc < ax.length) (hA:∀ a∈ax,0<=a.aO/\a.aO < aw.length/\0<=a.aD/\a.aD < due.length) (hc:aw.length<=8) (hd:due.length<=8) (due2:List Int) (cards2:List bE) (book2:List Entry) (e2:Int) (hr:ef ax due aw book e t=(due2,cards2,book2,e2)):cJ Try.prog 89 [(.c (.p 0 0 0 0)),(.g [(cI t.number),(cI t.kind),(cI t.bc),(cI t.sum)])] [(0,(.box 147 ((((((bf x).set 2 (.s 1 0 6 aw.length)).set 3 (.s 2 0 1 due.length)).set 4 (.s 3 0 8 ax.length)).set 18 (eb book)).set 19 (cI e)))),(1,(dW aw)),(2,(dP due)),(3,(ed ax))] [0] (.t []) [(0,(.box 147 ((((((bf x).set 2 (.s 1 0 6 cards2.length)).set 3 (.s 2 0 1 due2.length)).set 4 (.s 3 0 8 ax.length)).set 18 (eb book2)).set 19 (cI e2)))),(1,(dW cards2)),(2,(dP due2)),(3,(ed ax))]:=by
 refine cJ.mk 77 [(0,(aC (.p 0 0 0 0))),(1,(aG [(cI t.number),(cI t.kind),(cI t.bc),(cI t.sum)]))] 4 Try.func89 rfl rfl rfl rfl rfl rfl rfl rfl rfl ?_
 intro W0 F0 T0 pg
 refine ae aa 1 rfl ?_
 refine ag ?_
 obtain ⟨x1,hx1⟩:=ck (xs:=ax) (i:=Int.toNat (t.bc)) (by first|omega|(simp;done)|(simp;omega))
 have hx1A:=hA x1 (List.mem_of_getElem? hx1)
 refine ba [0,3] [4,0,1,2,3] mixed rfl rfl ?_
 refine aE (kn:=[]) aa 7 rfl trivial ?_
 refine aU (n':=5) [11,13] [3] rfl rfl (.inl ⟨(ak.plain rfl),aM.cast (bA (i:=Int.toNat (t.bc)) rfl rfl rfl Try.underlying31 nc (by first|omega|(simp;done)|(simp;omega)) (by first|omega|(simp;done)|(simp;omega))) rfl⟩) rfl ?_
 refine aU (n':=5) [14] [3] rfl rfl (.inl ⟨(ak.plain rfl),aM.cast (dm rfl rfl rfl Try.underlying67 rfl nc (bw hx1) rfl) rfl⟩) rfl ?_
 refine aE (n':=6) (kn:=[]) aa 1 rfl trivial ?_
 refine bC [5,4,0,1,2,3] rfl rfl rfl rfl (by kernel_rfl) ?_
 refine ad aa 1 rfl ?_
 refine af ?_
 refine ag ?_
 refine ba [0,3,4] [5,4,0,1,2,3] mixed rfl rfl ?_
 refine aE (kn:=[]) aa 2 rfl trivial ?_
 refine aU (n':=6) [17] [] rfl rfl (.inl ⟨(ak.plain rfl),aM.cast (aL rfl rfl rfl (aJ (by first|omega|(simp;done)|(simp;omega)))) rfl⟩) rfl ?_
 refine aE (kn:=[]) aa 2 rfl trivial ?_
 refine aU (n':=6) [20] [] rfl rfl (.inl ⟨(ak.plain rfl),aM.cast (aL rfl rfl rfl (aJ (by first|omega|(simp;done)|(simp;omega)))) rfl⟩) rfl ?_
 refine aE (kn:=[]) aa 2 rfl trivial ?_
 refine bC [5,4,0,1,2,3] rfl rfl rfl rfl (by kernel_rfl) ?_
 refine af ?_
 refine ae aa 2 rfl ?_
 refine aX ?_
 refine ae aa 2 rfl ?_
 refine ah rfl (fun hc1=>?_) (fun hc1=>?_)
 ·
  have hc1':=of_decide_eq_true hc1
  refine ag ?_
  obtain ⟨x2,hx2⟩:=ck (xs:=due) (i:=Int.toNat (x1.aD)) (by first|omega|(simp;done)|(simp;omega))
  refine ba [0,3,4,5] [5,4,0,1,2,3] mixed rfl rfl ?_
  refine aE (kn:=[]) aa 7 rfl trivial ?_
  refine aU (n':=6) [30,32] [2] rfl rfl (.inl ⟨(ak.plain rfl),aM.cast (bA (i:=Int.toNat (x1.aD)) rfl rfl rfl Try.underlying30 fX (by first|omega|(simp;done)|(simp;omega)) (by first|omega|(simp;done)|(simp;omega))) rfl⟩) rfl ?_
  refine aU (n':=6) [33] [2] rfl rfl (.inl ⟨(ak.plain rfl),aM.cast (eU rfl rfl rfl Try.underlying3 rfl (bw hx2) rfl) rfl⟩) rfl ?_
  refine aE (kn:=[]) aa 3 rfl trivial ?_
  refine aU (n':=6) [30,32] [2] rfl rfl (.inl ⟨(ak.plain rfl),aM.cast (bA (i:=Int.toNat (x1.aD)) rfl rfl rfl Try.underlying30 fX (by first|omega|(simp;done)|(simp;omega)) (by first|omega|(simp;done)|(simp;omega))) rfl⟩) rfl ?_
  refine bC [5,4,0,1,2,3] rfl rfl rfl rfl (by kernel_rfl) ?_
  refine gI [5,4,0,1,2,3] (dU (ds:=[(dI (IntKind.i64.wrap (x2+t.sum)))]) rfl rfl rfl rfl rfl fX rfl (Nat.le_of_ble_eq_true rfl) (bw hx2) rfl (eZ (x':=(IntKind.i64.wrap (x2+t.sum))) rfl)) rfl ?_
  refine af ?_
  refine fP (k:=0) (q:=3) (c':=(.s 2 0 1 (((due).set (Int.toNat (x1.aD)) (IntKind.i64.wrap (x2+t.sum))).length))) rfl rfl (by first|rfl|(simp;done)|(congr 1;omega)) rfl ?_
  refine au ?_
  refine ad aa 4 rfl ?_
  obtain ⟨l20,e20,hr0⟩:∃ (l20:List Entry) (e20:Int),dY book e 1 (50+x1.aD) t.sum=(l20,e20):=⟨_,_,rfl⟩
  refine aN 6 [0,5,4,1,2,3] (cr id id (ms:=((dG.set 18 (some (eb book))).set 19 (some (cI e)))) (ms':=((dG.set 18 (some (eb l20))).set 19 (some (cI e20)))) (fun x hx=>jM x hx book e 1 (50+x1.aD) t.sum l20 e20 hr0) nn rfl rfl ⟨⟨_,rfl,.inl ⟨rfl,rfl⟩⟩,⟨_,rfl,.inr (.c (.d _))⟩,⟨_,rfl,.inr (.c (.d _))⟩,⟨_,rfl,.inr (.c (.d _))⟩,trivial⟩ rfl rfl rfl rfl rfl rfl rfl trivial rfl rfl rfl rfl rfl rfl rfl rfl rfl rfl rfl rfl rfl) rfl ?_
  refine bY ?_
  refine bh ?_
  have hX:ef ax due aw book e t=((due).set (Int.toNat (x1.aD)) (IntKind.i64.wrap (x2+t.sum)),aw,l20,e20):=by
    unfold ef;rw [hx1];dsimp only;simp only [List.getD_eq_getElem?_getD,hx2,Option.getD_some,hr0];(repeat' split)<;>first|rfl|omega|(exfalso;omega)|(simp_all;done)|(simp_all;omega)
  rw [hX] at hr;clear hX
  simp only [Prod.mk.injEq] at hr;obtain ⟨rfl,rfl,rfl,rfl⟩:=hr
  refine cP aa [0,1,2,3] 4 rfl rfl rfl rfl rfl rfl ?_ ?_
  all_goals first|rfl|(simp [ay,aY,bf];done)|(simp [ay,aY,bf];omega)
 have hc1':=of_decide_eq_false hc1
 refine ae aa 2 rfl ?_
 refine ah rfl (fun hc2=>?_) (fun hc2=>?_)
 ·
  have hc2':=of_decide_eq_true hc2
  refine aH aa 5 rfl ?_
  obtain ⟨l21,e21,hr1⟩:∃ (l21:List bE) (e21:Int),cG aw e x1.aO 0 t.sum=(l21,e21):=⟨_,_,rfl⟩
  refine aN 7 [0,6,5,4,2,3] (cr id (bd [0,6]) (ms:=((dG.set 2 (some (.s 1 0 6 aw.length))).set 19 (some (cI e)))) (ms':=((dG.set 2 (some (.s 1 0 6 l21.length))).set 19 (some (cI e21)))) (fun x hx=>jy x hx aw e x1.aO 0 t.sum (by first|omega|(simp;done)|(simp;omega)) l21 e21 hr1) ow rfl rfl ⟨⟨_,rfl,.inl ⟨rfl,rfl⟩⟩,⟨_,rfl,.inr (.c (.d _))⟩,⟨_,rfl,.inr (.c (.d _))⟩,⟨_,rfl,.inr (.c (.d _))⟩,trivial⟩ rfl rfl rfl rfl rfl rfl rfl ⟨rfl,trivial⟩ rfl rfl rfl rfl rfl rfl rfl rfl rfl rfl rfl rfl rfl) rfl ?_
  refine af ?_
  refine au ?_
  refine ad aa 4 rfl ?_
  obtain ⟨l22,e22,hr2⟩:∃ (l22:List Entry) (e22:Int),dY book e21 1 (10+x1.aO) t.sum=(l22,e22):=⟨_,_,rfl⟩
  refine aN 7 [0,6,5,4,2,3] (cr id id (ms:=((dG.set 18 (some (eb book))).set 19 (some (cI e21)))) (ms':=((dG.set 18 (some (eb l22))).set 19 (some (cI e22)))) (fun x hx=>jM x hx book e21 1 (10+x1.aO) t.sum l22 e22 hr2) nn rfl rfl ⟨⟨_,rfl,.inl ⟨rfl,rfl⟩⟩,⟨_,rfl,.inr (.c (.d _))⟩,⟨_,rfl,.inr (.c (.d _))⟩,⟨_,rfl,.inr (.c (.d _))⟩,trivial⟩ rfl rfl rfl rfl rfl rfl rfl trivial rfl rfl rfl rfl rfl rfl rfl rfl rfl rfl rfl rfl rfl) rfl ?_
  refine bY ?_
  refine bh ?_
  have hX:ef ax due aw book e t=(due,l21,l22,e22):=by
    unfold ef;rw [hx1];dsimp only;simp only [List.getD_eq_getElem?_getD,Option.getD_some,hr1,hr2];(repeat' split)<;>first|rfl|omega|(exfalso;omega)|(simp_all;done)|(simp_all;omega)
  rw [hX] at hr;clear hX
  simp only [Prod.mk.injEq] at hr;obtain ⟨rfl,rfl,rfl,rfl⟩:=hr
  refine cP aa [0,6,2,3] 4 rfl rfl rfl rfl rfl rfl ?_ ?_
  all_goals first|rfl|(simp [ay,aY,bf];done)|(simp [ay,aY,bf];omega)
 have hc2':=of_decide_eq_false hc2
 refine ae aa 2 rfl ?_
 refine ah rfl (fun hc3=>?_) (fun hc3=>?_)
 ·
  have hc3':=of_decide_eq_true hc3
  refine ag ?_
  obtain ⟨x2,hx2⟩:=ck (xs:=due) (i:=Int.toNat (x1.aD)) (by first|omega|(simp;done)|(simp;omega))
  refine ba [0,3,4,5] [5,4,0,1,2,3] mixed rfl rfl ?_
  refine aE (kn:=[]) aa 7 rfl trivial ?_
  refine aU (n':=6) [63,65] [2] rfl rfl (.inl ⟨(ak.plain rfl),aM.cast (bA (i:=Int.toNat (x1.aD)) rfl rfl rfl Try.underlying30 fX (by first|omega|(simp;done)|(simp;omega)) (by first|omega|(simp;done)|(simp;omega))) rfl⟩) rfl ?_
  refine aU (n':=6) [66] [2] rfl rfl (.inl ⟨(ak.plain rfl),aM.cast (eU rfl rfl rfl Try.underlying3 rfl (bw hx2) rfl) rfl⟩) rfl ?_
  refine aE (kn:=[]) aa 3 rfl trivial ?_
  refine aU (n':=6) [63,65] [2] rfl rfl (.inl ⟨(ak.plain rfl),aM.cast (bA (i:=Int.toNat (x1.aD)) rfl rfl rfl Try.underlying30 fX (by first|omega|(simp;done)|(simp;omega)) (by first|omega|(simp;done)|(simp;omega))) rfl⟩) rfl ?_
  refine bC [5,4,0,1,2,3] rfl rfl rfl rfl (by kernel_rfl) ?_
  refine gI [5,4,0,1,2,3] (dU (ds:=[(dI (IntKind.i64.wrap (x2 - t.sum)))]) rfl rfl rfl rfl rfl fX rfl (Nat.le_of_ble_eq_true rfl) (bw hx2) rfl (eZ (x':=(IntKind.i64.wrap (x2 - t.sum))) rfl)) rfl ?_
  refine af ?_
  refine fP (k:=0) (q:=3) (c':=(.s 2 0 1 (((due).set (Int.toNat (x1.aD)) (IntKind.i64.wrap (x2 - t.sum))).length))) rfl rfl (by first|rfl|(simp;done)|(congr 1;omega)) rfl ?_
  refine au ?_
  refine ad aa 4 rfl ?_
  obtain ⟨l23,e23,hr3⟩:∃ (l23:List Entry) (e23:Int),dY book e (50+x1.aD) 2 t.sum=(l23,e23):=⟨_,_,rfl⟩
  refine aN 6 [0,5,4,1,2,3] (cr id id (ms:=((dG.set 18 (some (eb book))).set 19 (some (cI e)))) (ms':=((dG.set 18 (some (eb l23))).set 19 (some (cI e23)))) (fun x hx=>jM x hx book e (50+x1.aD) 2 t.sum l23 e23 hr3) nn rfl rfl ⟨⟨_,rfl,.inl ⟨rfl,rfl⟩⟩,⟨_,rfl,.inr (.c (.d _))⟩,⟨_,rfl,.inr (.c (.d _))⟩,⟨_,rfl,.inr (.c (.d _))⟩,trivial⟩ rfl rfl rfl rfl rfl rfl rfl trivial rfl rfl rfl rfl rfl rfl rfl rfl rfl rfl rfl rfl rfl) rfl ?_
  refine bY ?_
  refine bh ?_
  have hX:ef ax due aw book e t=((due).set (Int.toNat (x1.aD)) (IntKind.i64.wrap (x2 - t.sum)),aw,l23,e23):=by
    unfold ef;rw [hx1];dsimp only;simp only [List.getD_eq_getElem?_getD,hx2,Option.getD_some,hr3];(repeat' split)<;>first|rfl|omega|(exfalso;omega)|(simp_all;done)|(simp_all;omega)
  rw [hX] at hr;clear hX
  simp only [Prod.mk.injEq] at hr;obtain ⟨rfl,rfl,rfl,rfl⟩:=hr
  refine cP aa [0,1,2,3] 4 rfl rfl rfl rfl rfl rfl ?_ ?_
  all_goals first|rfl|(simp [ay,aY,bf];done)|(simp [ay,aY,bf];omega)
 have hc3':=of_decide_eq_false hc3
 refine cZ ?_
 refine bh ?_
 have hX:ef ax due aw book e t=(due,aw,book,e):=by
   unfold ef;rw [hx1];dsimp only;simp only [List.getD_eq_getElem?_getD,Option.getD_some,hx1];(repeat' split)<;>first|rfl|omega|(exfalso;omega)|(simp_all;done)|(simp_all;omega)
 rw [hX] at hr;clear hX
 simp only [Prod.mk.injEq] at hr;obtain ⟨rfl,rfl,rfl,rfl⟩:=hr
 refine cP aa [0,1,2,3] 4 rfl rfl rfl rfl rfl rfl ?_ ?_
 all_goals first|rfl|(simp [ay,aY,bf];done)|(simp [ay,aY,bf];omega)

theorem xB (l:List bF) (hl:l.length * 64<=140737488355328):Fn Try.prog 96 [(.c (Ax l))] (aC (.s 0 0 8 l.length)) [(0,.arr 67 8 (l.map jv))]:=by
 refine Fn.mk' 8 [(0,(aC (Ax l)))] Try.func96 rfl rfl rfl rfl ?_
 intro W0 T0
 refine dr 0 rfl (fun hlen0=>?_)
 refine ae aa 1 rfl ?_
 refine ag ?_
 refine aH aa 1 rfl ?_
 refine iQ (ak.plain rfl) rfl rfl Try.underlying31 rfl rfl (fun bn1 hbn1=>?_)
 refine af ?_
 refine ah rfl (fun hc2=>?_) (fun hc2=>?_)
 ·
  have hc2':=hc2;try simp only [bu,bU] at hc2'
  refine ae aa 1 rfl ?_
  refine az ?_
  refine aq ?_
  refine cT (aF.nil 2 67 8 (by decide) rfl) ?_
  refine an aa [0] 1 rfl rfl rfl rfl rfl rfl ?_ ?_
  ·(have h0:=hbn1 (by assumption);have h1:l=[]:=by (cases l with|nil=>rfl|cons=>simp at h0));subst h1;rfl
  ·(have h0:=hbn1 (by assumption);have h1:l=[]:=by (cases l with|nil=>rfl|cons=>simp at h0));subst h1;rfl
 have hc2':=hc2;try simp only [bu,bU] at hc2'
 refine aQ ?_
 refine eB ?_
 refine aN 1 [0] (dy (ys:=[]) (rows:=(([]:List bF)).map jv) 0 tF rfl (by decide) trivial rfl rfl rfl rfl) rfl ?_
 refine ad aa 1 rfl ?_
 refine aN 2 [1] (cX (m:=l.length) (N:=l.length) (k2:=1) (ys:=(l).map jv) tF rfl rfl rfl rfl rfl rfl (by first|omega|(simp;omega)|(simp;done)) rfl (.d _ _) (by first|omega|(simp;omega)|(simp;done)) (by first|omega|(simp;omega)|(simp;done)) rfl (by decide) (by first|omega|(simp;omega)|(simp;done)) (by first|omega|(simp;omega)|(simp;done))) rfl ?_
 refine ad aa 1 rfl ?_
 refine af ?_
 refine az ?_
 refine an aa [1] 1 rfl rfl rfl rfl rfl rfl ?_ ?_
 ·first|rfl|simp [fS,aC]
 ·first|rfl|simp
theorem nH (l:List cf) (hl:l.length * 40<=140737488355328):Fn Try.prog 85 [(.c (eD l))] (aC (.s 0 0 5 l.length)) [(0,.arr 113 5 (l.map fC))]:=by
 refine Fn.mk' 8 [(0,(aC (eD l)))] Try.func85 rfl rfl rfl rfl ?_
 intro W0 T0
 refine dr 0 rfl (fun hlen0=>?_)
 refine ae aa 1 rfl ?_
 refine ag ?_
 refine aH aa 1 rfl ?_
 refine iQ (ak.plain rfl) rfl rfl Try.underlying37 rfl rfl (fun bn1 hbn1=>?_)
 refine af ?_
 refine ah rfl (fun hc2=>?_) (fun hc2=>?_)
 ·
  have hc2':=hc2;try simp only [bu,bU] at hc2'
  refine ae aa 1 rfl ?_
  refine az ?_
  refine aq ?_
  refine cT (aF.nil 2 113 5 (by decide) rfl) ?_
  refine an aa [0] 1 rfl rfl rfl rfl rfl rfl ?_ ?_
  ·(have h0:=hbn1 (by assumption);have h1:l=[]:=by (cases l with|nil=>rfl|cons=>simp at h0));subst h1;rfl
  ·(have h0:=hbn1 (by assumption);have h1:l=[]:=by (cases l with|nil=>rfl|cons=>simp at h0));subst h1;rfl
 have hc2':=hc2;try simp only [bu,bU] at hc2'
 refine aQ ?_
 refine eB ?_
 refine aN 1 [0] (dy (ys:=[]) (rows:=(([]:List cf)).map fC) 0 ng rfl (by decide) trivial rfl rfl rfl rfl) rfl ?_
 refine ad aa 1 rfl ?_
 refine aN 2 [1] (cX (m:=l.length) (N:=l.length) (k2:=1) (ys:=(l).map fC) ng rfl rfl rfl rfl rfl rfl (by first|omega|(simp;omega)|(simp;done)) rfl (.d _ _) (by first|omega|(simp;omega)|(simp;done)) (by first|omega|(simp;omega)|(simp;done)) rfl (by decide) (by first|omega|(simp;omega)|(simp;done)) (by first|omega|(simp;omega)|(simp;done))) rfl ?_
 refine ad aa 1 rfl ?_
 refine af ?_
 refine az ?_
 refine an aa [1] 1 rfl rfl rfl rfl rfl rfl ?_ ?_
 ·first|rfl|simp [fS,aC]
 ·first|rfl|simp
theorem xA (l:List (List D)) (hl:l.length * 64<=140737488355328):Fn Try.prog 94 [(.c (cR 6 ((l).map id)))] (aC (.s 0 0 6 l.length)) [(0,.arr 61 6 (l.map id))]:=by
 refine Fn.mk' 8 [(0,(aC (cR 6 ((l).map id))))] Try.func94 rfl rfl rfl rfl ?_
 intro W0 T0
 refine dr 0 rfl (fun hlen0=>?_)
 refine ae aa 1 rfl ?_
 refine ag ?_
 refine aH aa 1 rfl ?_
 refine iQ (ak.plain rfl) rfl rfl Try.underlying29 rfl rfl (fun bn1 hbn1=>?_)
 refine af ?_
 refine ah rfl (fun hc2=>?_) (fun hc2=>?_)
 ·
  have hc2':=hc2;try simp only [bu,bU] at hc2'
  refine ae aa 1 rfl ?_
  refine az ?_
  refine aq ?_
  refine cT (aF.nil 2 61 6 (by decide) rfl) ?_
  refine an aa [0] 1 rfl rfl rfl rfl rfl rfl ?_ ?_
  ·(have h0:=hbn1 (by assumption);have h1:l=[]:=by (cases l with|nil=>rfl|cons=>simp at h0));subst h1;rfl
  ·(have h0:=hbn1 (by assumption);have h1:l=[]:=by (cases l with|nil=>rfl|cons=>simp at h0));subst h1;rfl
 have hc2':=hc2;try simp only [bu,bU] at hc2'
 refine aQ ?_
 refine eB ?_
 refine aN 1 [0] (dy (ys:=[]) (rows:=(([]:List (List D))).map id) 0 zr rfl (by decide) trivial rfl rfl rfl rfl) rfl ?_
 refine ad aa 1 rfl ?_
 refine aN 2 [1] (cX (m:=l.length) (N:=0+l.length) (k2:=1) (ys:=(l).map id) zr rfl rfl rfl rfl rfl rfl (by first|omega|(simp;omega)|(simp;done)) rfl (.d _ _) (by first|omega|(simp;omega)|(simp;done)) (by first|omega|(simp;omega)|(simp;done)) eH (by decide) (by first|omega|(simp;omega)|(simp;done)) (by first|omega|(simp;omega)|(simp;done))) rfl ?_
 refine ad aa 1 rfl ?_
 refine af ?_
 refine az ?_
 refine an aa [1] 1 rfl rfl rfl rfl rfl rfl ?_ ?_
 ·first|rfl|simp [fS,aC]
 ·first|rfl|simp

theorem kW (v w:Value) (b:Bk) (l1:b.aw.length<=8) (l2:b.due.length<=8) (l3:b.ax.length<=30) (l4:b.aR.length<=100):cJ Try.prog 74 [(.c (.p 0 0 0 0))] [(0,(.box 98 (aY b 1 2 3 4 (.d (.v v)) (.d (.v w))))),(1,(dW b.aw)),(2,(dP b.due)),(3,(ed b.ax)),(4,(cS b.aR))] [0] (.v (.c (.p 1 0 0 0))) [(0,(.box 98 (aY b 2 3 4 5 (.d (.v v)) (.d (.v w))))),(1,(.box 147 (aY b 6 7 8 9 (.d (.v v)) (cI 0)))),(2,(dW b.aw)),(3,(dP b.due)),(4,(ed b.ax)),(5,(cS b.aR)),(6,(dW b.aw)),(7,(dP b.due)),(8,(ed b.ax)),(9,(cS b.aR))]:=by
 refine cJ.mk 51 [(0,(aC (.p 0 0 0 0)))] 5 Try.func74 rfl rfl rfl rfl rfl rfl rfl rfl rfl ?_
 intro W0 F0 T0 pg
 refine ae aa 1 rfl ?_
 refine ae aa 7 rfl ?_
 refine ag ?_
 refine dg [0,3] [5,0,1,2,3,4] mixed rfl rfl ?_
 refine ca (kn:=[]) aa 9 rfl trivial ?_
 refine cg (n':=7) [18] [1] rfl rfl (.inl ⟨(ak.plain rfl),aM.cast (Dt 6 (fun l hl=>xA l (by rw [hl];first|omega|(simp;done)|(simp;omega))) IM rfl rfl rfl rfl rfl (by simp)) rfl⟩) rfl ?_
 refine ca (kn:=[]) aa 5 rfl trivial ?_
 refine cg (n':=8) [24] [2] rfl rfl (.inl ⟨(ak.plain rfl),aM.cast (ff 7 [2] (qW b.due (by first|omega|(simp;done)|(simp;omega))) GD rfl rfl ⟨⟨_,rfl,.c (.s rfl (by decide) (by first|omega|(simp;done)|(simp;omega)))⟩,trivial⟩ trivial ⟨(Gf _),trivial⟩ rfl rfl rfl rfl) rfl⟩) rfl ?_
 refine ca (kn:=[]) aa 5 rfl trivial ?_
 refine cg (n':=9) [30] [3] rfl rfl (.inl ⟨(ak.plain rfl),aM.cast (ff 8 [3] (xB b.ax (by first|omega|(simp;done)|(simp;omega))) IL rfl rfl ⟨⟨_,rfl,.c (.s rfl (by decide) (by first|omega|(simp;done)|(simp;omega)))⟩,trivial⟩ trivial ⟨(Bw _),trivial⟩ rfl rfl rfl rfl) rfl⟩) rfl ?_
 refine ca (kn:=[]) aa 5 rfl trivial ?_
 refine cg (n':=10) [36] [4] rfl rfl (.inl ⟨(ak.plain rfl),aM.cast (ff 9 [4] (nG b.aR (by first|omega|(simp;done)|(simp;omega))) GQ rfl rfl ⟨⟨_,rfl,.c (.s rfl (by decide) (by first|omega|(simp;done)|(simp;omega)))⟩,trivial⟩ trivial ⟨(xY _),trivial⟩ rfl rfl rfl rfl) rfl⟩) rfl ?_
 refine ca (kn:=[]) aa 16 rfl trivial ?_
 refine dX [3] [5,9,8,7,6,0,1,2,3,4] rfl rfl (by kernel_rfl) ?_
 refine then_ok ?_
 refine ae aa 2 rfl ?_
 refine az ?_
 refine an aa [0,5,1,2,3,4,6,7,8,9] 10 rfl rfl rfl rfl rfl rfl ?_ ?_
 all_goals first|rfl|(simp [ay,aY,bf];done)|(simp [ay,aY,bf];omega)
theorem fz (v w:Value) (b c:Bk) (e:Int) (he:e=0):cJ Try.prog 77 [(.c (.p 0 0 0 0)),(.c (.p 1 0 0 0))] [(0,(.box 98 (aY b 2 3 4 5 (.d (.v v)) (.d (.v w))))),(1,(.box 147 (aY c 6 7 8 9 (.d (.v v)) (cI e)))),(2,(dW b.aw)),(3,(dP b.due)),(4,(ed b.ax)),(5,(cS b.aR)),(6,(dW c.aw)),(7,(dP c.due)),(8,(ed c.ax)),(9,(cS c.aR))] [0] (.v (.c (cI e))) [(0,(.box 98 (aY c 1 2 3 4 (.d (.v v)) (.d (.v w))))),(1,(dW c.aw)),(2,(dP c.due)),(3,(ed c.ax)),(4,(cS c.aR))]:=by
 refine cJ.mk 21 [(0,(aC (.p 0 0 0 0))),(1,(aC (.p 1 0 0 0)))] 10 Try.func77 rfl rfl rfl rfl rfl rfl rfl rfl rfl ?_
 intro W0 F0 T0 pg
 refine ae aa 1 rfl ?_
 refine ag ?_
 refine ae aa 5 rfl ?_
 refine ah rfl (fun hc1=>?_) (fun hc1=>?_)
 ·
  have hc1':=of_decide_eq_true hc1
  refine au ?_
  refine ad aa 8 rfl ?_
  refine af ?_
  refine ae aa 5 rfl ?_
  refine az ?_
  refine an aa [0,6,7,8,9] 5 rfl rfl rfl rfl rfl rfl ?_ ?_
  all_goals first|rfl|(simp [ay,aY,bf];done)|(simp [ay,aY,bf];omega)
 have hc1':=of_decide_eq_false hc1
 (exfalso;simp_all)
theorem gu (v w:Value) (b c:Bk) (e:Int) (he:¬e=0):cJ Try.prog 77 [(.c (.p 0 0 0 0)),(.c (.p 1 0 0 0))] [(0,(.box 98 (aY b 2 3 4 5 (.d (.v v)) (.d (.v w))))),(1,(.box 147 (aY c 6 7 8 9 (.d (.v v)) (cI e)))),(2,(dW b.aw)),(3,(dP b.due)),(4,(ed b.ax)),(5,(cS b.aR)),(6,(dW c.aw)),(7,(dP c.due)),(8,(ed c.ax)),(9,(cS c.aR))] [0] (.v (.c (cI e))) [(0,(.box 98 (aY b 1 2 3 4 (.d (.v v)) (.d (.v w))))),(1,(dW b.aw)),(2,(dP b.due)),(3,(ed b.ax)),(4,(cS b.aR))]:=by
 refine cJ.mk 21 [(0,(aC (.p 0 0 0 0))),(1,(aC (.p 1 0 0 0)))] 10 Try.func77 rfl rfl rfl rfl rfl rfl rfl rfl rfl ?_
 intro W0 F0 T0 pg
 refine ae aa 1 rfl ?_
 refine ag ?_
 refine ae aa 5 rfl ?_
 refine ah rfl (fun hc1=>?_) (fun hc1=>?_)
 ·
  have hc1':=of_decide_eq_true hc1
  (exfalso;simp_all)
 have hc1':=of_decide_eq_false hc1
 refine aQ ?_
 refine ae aa 5 rfl ?_
 refine az ?_
 refine an aa [0,2,3,4,5] 5 rfl rfl rfl rfl rfl rfl ?_ ?_
 all_goals first|rfl|(simp [ay,aY,bf];done)|(simp [ay,aY,bf];omega)
end Go.Proofs.Ytegepioggeggaaa.Dev
