/- A part of the proof: Sort3, Sort5, Sort4. No condition. -/
import Derived.Test.YtegepioggeggaaaD09
set_option linter.unusedVariables false
set_option linter.unusedSimpArgs false
set_option maxHeartbeats 4000000
set_option maxRecDepth 100000
namespace Go.Proofs.Ytegepioggeggaaa.Dev
open Go.RowKit

theorem DU (d:List aj) (N a m b:Nat) (fn:FuncId) (bj:List (List D)) (hp:∀ x y:aj,Fn Try.prog fn ([.g [cI x.aD,cI x.bc,cI x.kind,cI x.sum],.g [cI y.aD,cI y.bc,cI y.kind,cI y.sum]]++bj.map fun r=>GV.c (.q r 0)) (aI (ik x y)) []) (hen:bl Try.prog fn) (hl:d.length * 32<=140737488355328) (hN:N=d.length) (h0_:a < m) (h1_:m < b) (h2_:b<=d.length) (r:List aj) (hr:jA m (m - a) (b - m) d=r):cJ Try.prog 93 [(.c (.s 0 0 4 N)),(.c (cI (↑a:Int))),(.c (cI (↑m:Int))),(.c (cI (↑b:Int))),(.c (.d (.f fn bj)))] [(0,(cS d))] [0] (.t []) [(0,(cS r))]:=by
 refine cJ.mk 58 [(0,(aC (.s 0 0 4 N))),(1,(aI (↑a:Int))),(2,(aI (↑m:Int))),(3,(aI (↑b:Int))),(4,(aC (.d (.f fn bj))))] 1 Try.func93 rfl rfl rfl rfl rfl rfl rfl rfl rfl ?_
 intro W0 F0 T0 pg
 refine gn 0 rfl (fun hlen0=>?_)
 refine aH aa 2 rfl ?_
 refine aA (aL rfl rfl rfl (aJ (by first|omega|(simp;done)|(simp;omega)))) rfl ?_
 refine ad aa 1 rfl ?_
 refine af ?_
 refine aH aa 2 rfl ?_
 refine aA (aL rfl rfl rfl (aJ (by first|omega|(simp;done)|(simp;omega)))) rfl ?_
 refine ad aa 1 rfl ?_
 refine af ?_
 refine ag ?_
 refine aX ?_
 refine cw (β:=Nat×Nat×List aj) (fun (p:Nat×Nat×List aj)=>match p with|(i,j,d1)=>⟨[(0,(aC (.s 0 0 4 N))),(2,(aI (↑m:Int))),(4,(aC (.d (.f fn bj)))),(10,(aI (↑i:Int))),(11,(aI (↑j:Int)))],[(0,(cS d1))],1⟩) (fun (p:Nat×Nat×List aj)=>match p with|(i,j,d1)=>0 < i/\0 < j/\i+a<=m/\m+j<=b/\jA m i j d1=jA m (m - a) (b - m) d/\d1.length=d.length) (fun (p:Nat×Nat×List aj)=>match p with|(i,j,d1)=>i+j) (m - a,b - m,d) ?_ ?_ ?_
 ·exact ⟨by omega,by omega,by omega,by omega,rfl,rfl⟩
 ·exact aF.bW id (by refine ⟨?_,?_,?_,?_,?_,trivial⟩<;>first|rfl|(simp only [bm];done)|(congr 3;omega)|(congr 4;omega)|(simp only [bn];rfl)|(exact cz rfl (by omega))) (⟨by first|rfl|(simp only [bm];done)|(congr 3;omega)|(congr 4;omega)|(simp only [bn];rfl),trivial⟩) rfl
 rintro ⟨i,j,d1⟩ ⟨hi0_0,hi0_1,hi0_2,hi0_3,hi0_4,hi0_5⟩
 refine ag ?_
 refine ae aa 3 rfl ?_
 refine ah rfl (fun hc1=>?_) (fun hc1=>?_)
 ·
  have hc1':=of_decide_eq_true hc1
  refine aQ ?_
  refine aX ?_
  refine ae aa 3 rfl ?_
  refine ah rfl (fun hc2=>?_) (fun hc2=>?_)
  ·
   have hc2':=of_decide_eq_true hc2
   refine aH aa 3 rfl ?_
   refine aA (aL rfl rfl rfl (aJ (by first|omega|(simp;done)|(simp;omega)))) rfl ?_
   refine ad aa 3 rfl ?_
   obtain ⟨r0,hr0⟩:∃ (r0:List aj),gD ((m) - (i)) m j d1=r0:=⟨_,rfl⟩
   have hlr0:r0.length=d1.length:=by rw [<-hr0];exact jk _ _ _ _
   refine aN 1 [0] (dV id id (mv ((↑m:Int) - (↑i:Int)) (↑m:Int) (↑j:Int) d1 N ((m) - (i)) m j fn bj hp hen (by first|omega|(simp;done)|(simp;omega)) (by first|omega|(simp;done)|(simp;omega)) (by first|omega|(simp;done)|(simp;omega)) (by first|omega|(simp;done)|(simp;omega)) (by first|omega|(simp;done)|(simp;omega)) (by first|omega|(simp;done)|(simp;omega)) (by first|omega|(simp;done)|(simp;omega)) r0 hr0) Ab rfl rfl ⟨⟨_,rfl,.inl ⟨rfl,rfl⟩⟩,⟨_,rfl,.inr (.c (.d _))⟩,⟨_,rfl,.inr (.c (.d _))⟩,⟨_,rfl,.inr (.c (.d _))⟩,⟨_,rfl,.inr (.c (.d _))⟩,trivial⟩ ⟨rfl,trivial⟩ rfl rfl ⟨.inr ⟨_,_,_,rfl,by first|(simp;omega)|(simp only [List.length_map];omega)⟩,trivial⟩ rfl rfl rfl trivial ⟨(fun _ _ _ _=>trivial),trivial⟩ rfl rfl rfl rfl) rfl ?_
   refine af ?_
   refine au ?_
   refine ad aa 2 rfl ?_
   refine aA (aL rfl rfl rfl (aJ (by first|omega|(simp;done)|(simp;omega)))) rfl ?_
   refine ad aa 1 rfl ?_
   refine bY ?_
   refine bh ?_
   refine then_ok ?_
   refine ⟨((i) - (j),j,r0),⟨by omega,by omega,by omega,by omega,by rw [<-hr0,<-AW (by omega) (by omega)];exact hi0_4,by omega⟩,by first|omega|(simp;done)|(simp;omega),aF.bW id (by refine ⟨?_,?_,?_,?_,?_,trivial⟩<;>first|rfl|(simp only [bm];done)|(congr 3;omega)|(congr 4;omega)|(simp only [bn];rfl)|(exact cz rfl (by omega))) (⟨by first|rfl|(simp only [bm];done)|(congr 3;omega)|(congr 4;omega)|(simp only [bn];rfl),trivial⟩) rfl⟩
  have hc2':=of_decide_eq_false hc2
  refine aH aa 3 rfl ?_
  refine aA (aL rfl rfl rfl (aJ (by first|omega|(simp;done)|(simp;omega)))) rfl ?_
  refine ad aa 2 rfl ?_
  refine aA (aL rfl rfl rfl (aJ (by first|omega|(simp;done)|(simp;omega)))) rfl ?_
  refine ad aa 1 rfl ?_
  refine aA (aL rfl rfl rfl (aJ (by first|omega|(simp;done)|(simp;omega)))) rfl ?_
  refine ad aa 2 rfl ?_
  obtain ⟨r1,hr1⟩:∃ (r1:List aj),gD ((m) - (i)) (((m)+(j)) - (i)) i d1=r1:=⟨_,rfl⟩
  have hlr1:r1.length=d1.length:=by rw [<-hr1];exact jk _ _ _ _
  refine aN 1 [0] (dV id id (mv ((↑m:Int) - (↑i:Int)) (((↑m:Int)+(↑j:Int)) - (↑i:Int)) (↑i:Int) d1 N ((m) - (i)) (((m)+(j)) - (i)) i fn bj hp hen (by first|omega|(simp;done)|(simp;omega)) (by first|omega|(simp;done)|(simp;omega)) (by first|omega|(simp;done)|(simp;omega)) (by first|omega|(simp;done)|(simp;omega)) (by first|omega|(simp;done)|(simp;omega)) (by first|omega|(simp;done)|(simp;omega)) (by first|omega|(simp;done)|(simp;omega)) r1 hr1) Ab rfl rfl ⟨⟨_,rfl,.inl ⟨rfl,rfl⟩⟩,⟨_,rfl,.inr (.c (.d _))⟩,⟨_,rfl,.inr (.c (.d _))⟩,⟨_,rfl,.inr (.c (.d _))⟩,⟨_,rfl,.inr (.c (.d _))⟩,trivial⟩ ⟨rfl,trivial⟩ rfl rfl ⟨.inr ⟨_,_,_,rfl,by first|(simp;omega)|(simp only [List.length_map];omega)⟩,trivial⟩ rfl rfl rfl trivial ⟨(fun _ _ _ _=>trivial),trivial⟩ rfl rfl rfl rfl) rfl ?_
  refine af ?_
  refine au ?_
  refine ad aa 2 rfl ?_
  refine aA (aL rfl rfl rfl (aJ (by first|omega|(simp;done)|(simp;omega)))) rfl ?_
  refine ad aa 1 rfl ?_
  refine bY ?_
  refine bh ?_
  refine then_ok ?_
  refine ⟨(i,(j) - (i),r1),⟨by omega,by omega,by omega,by omega,by rw [<-hr1,<-AU (by omega) (by omega)];exact hi0_4,by omega⟩,by first|omega|(simp;done)|(simp;omega),aF.bW id (by refine ⟨?_,?_,?_,?_,?_,trivial⟩<;>first|rfl|(simp only [bm];done)|(congr 3;omega)|(congr 4;omega)|(simp only [bn];rfl)|(exact cz rfl (by omega))) (⟨by first|rfl|(simp only [bm];done)|(congr 3;omega)|(congr 4;omega)|(simp only [bn];rfl),trivial⟩) rfl⟩
 have hc1':=of_decide_eq_false hc1
 refine cj ?_
 refine aP ?_
 refine aP ?_
 refine bK ?_
 refine then_ok ?_
 refine au ?_
 refine ad aa 3 rfl ?_
 refine aA (aL rfl rfl rfl (aJ (by first|omega|(simp;done)|(simp;omega)))) rfl ?_
 refine ad aa 3 rfl ?_
 obtain ⟨r2,hr2⟩:∃ (r2:List aj),gD ((m) - (i)) m i d1=r2:=⟨_,rfl⟩
 have hlr2:r2.length=d1.length:=by rw [<-hr2];exact jk _ _ _ _
 refine aN 1 [0] (dV id id (mv ((↑m:Int) - (↑i:Int)) (↑m:Int) (↑i:Int) d1 N ((m) - (i)) m i fn bj hp hen (by first|omega|(simp;done)|(simp;omega)) (by first|omega|(simp;done)|(simp;omega)) (by first|omega|(simp;done)|(simp;omega)) (by first|omega|(simp;done)|(simp;omega)) (by first|omega|(simp;done)|(simp;omega)) (by first|omega|(simp;done)|(simp;omega)) (by first|omega|(simp;done)|(simp;omega)) r2 hr2) Ab rfl rfl ⟨⟨_,rfl,.inl ⟨rfl,rfl⟩⟩,⟨_,rfl,.inr (.c (.d _))⟩,⟨_,rfl,.inr (.c (.d _))⟩,⟨_,rfl,.inr (.c (.d _))⟩,⟨_,rfl,.inr (.c (.d _))⟩,trivial⟩ ⟨rfl,trivial⟩ rfl rfl ⟨.inr ⟨_,_,_,rfl,by first|(simp;omega)|(simp only [List.length_map];omega)⟩,trivial⟩ rfl rfl rfl trivial ⟨(fun _ _ _ _=>trivial),trivial⟩ rfl rfl rfl rfl) rfl ?_
 refine bY ?_
 have hX:jA m (m - a) (b - m) d=r2:=by
   have hij:i=j:=by omega
   subst hij;rw [<-hi0_4,AX (by omega)];exact hr2
 rw [hX] at hr;clear hX
 subst hr
 refine cP aa [0] 1 rfl rfl rfl rfl rfl rfl ?_ ?_
 all_goals first|rfl|(simp [ay];done)|(simp [ay];omega)
theorem vi (ai mi bi:Int) (d:List aj) (N a m b:Nat) (fn:FuncId) (bj:List (List D)) (hp:∀ x y:aj,Fn Try.prog fn ([.g [cI x.aD,cI x.bc,cI x.kind,cI x.sum],.g [cI y.aD,cI y.bc,cI y.kind,cI y.sum]]++bj.map fun r=>GV.c (.q r 0)) (aI (ik x y)) []) (hen:bl Try.prog fn) (ea_:ai=(↑a:Int)) (em_:mi=(↑m:Int)) (eb_:bi=(↑b:Int)) (hl:d.length * 32<=140737488355328) (hN:N=d.length) (h0_:a < m) (h1_:m < b) (h2_:b<=d.length) (r:List aj) (hr:jA m (m - a) (b - m) d=r):cJ Try.prog 93 [(.c (.s 0 0 4 N)),(.c (cI ai)),(.c (cI mi)),(.c (cI bi)),(.c (.d (.f fn bj)))] [(0,(cS d))] [0] (.t []) [(0,(cS r))]:=by
  subst ea_ em_ eb_
  exact DU d N a m b fn bj hp hen hl hN h0_ h1_ h2_ r hr

theorem Ag (f:Nat) (ih:∀ (ai mi bi:Int) (d:List aj) (N a m b:Nat) (fn:FuncId) (bj:List (List D)) (hp:∀ x y:aj,Fn Try.prog fn ([.g [cI x.aD,cI x.bc,cI x.kind,cI x.sum],.g [cI y.aD,cI y.bc,cI y.kind,cI y.sum]]++bj.map fun r=>GV.c (.q r 0)) (aI (ik x y)) []) (hen:bl Try.prog fn) (ea_:ai=(↑a:Int)) (em_:mi=(↑m:Int)) (eb_:bi=(↑b:Int)) (hl:d.length * 32<=140737488355328) (hN:N=d.length) (h0_:a < m) (h1_:m < b) (h2_:b<=d.length) (h3_:b - a<=f) (r:List aj) (hr:dK f a m b d=r),cJ Try.prog 73 [(.c (.s 0 0 4 N)),(.c (cI ai)),(.c (cI mi)),(.c (cI bi)),(.c (.d (.f fn bj)))] [(0,(cS d))] [0] (.t []) [(0,(cS r))]) (d:List aj) (N a m b:Nat) (fn:FuncId) (bj:List (List D)) (hp:∀ x y:aj,Fn Try.prog fn ([.g [cI x.aD,cI x.bc,cI x.kind,cI x.sum],.g [cI y.aD,cI y.bc,cI y.kind,cI y.sum]]++bj.map fun r=>GV.c (.q r 0)) (aI (ik x y)) []) (hen:bl Try.prog fn) (hl:d.length * 32<=140737488355328) (hN:N=d.length) (h0_:a < m) (h1_:m < b) (h2_:b<=d.length) (h3_:b - a<=f+1) (r:List aj) (hr:dK (f+1) a m b d=r):cJ Try.prog 73 [(.c (.s 0 0 4 N)),(.c (cI (↑a:Int))),(.c (cI (↑m:Int))),(.c (cI (↑b:Int))),(.c (.d (.f fn bj)))] [(0,(cS d))] [0] (.t []) [(0,(cS r))]:=by
 refine cJ.mk 220 [(0,(aC (.s 0 0 4 N))),(1,(aI (↑a:Int))),(2,(aI (↑m:Int))),(3,(aI (↑b:Int))),(4,(aC (.d (.f fn bj))))] 1 Try.func73 rfl rfl rfl rfl rfl rfl rfl rfl rfl ?_
 intro W0 F0 T0 pg
 refine gn 0 rfl (fun hlen0=>?_)
 refine ag ?_
 refine aH aa 2 rfl ?_
 refine aA (aL rfl rfl rfl (aJ (by first|omega|(simp;done)|(simp;omega)))) rfl ?_
 refine ad aa 1 rfl ?_
 refine af ?_
 refine ah rfl (fun hc1=>?_) (fun hc1=>?_)
 ·
  have hc1':=of_decide_eq_true hc1
  refine ae aa 2 rfl ?_
  refine ae aa 2 rfl ?_
  refine ag ?_
  refine aX ?_
  refine cw (β:=Nat×Nat) (fun (p:Nat×Nat)=>match p with|(i,j)=>⟨[(0,(aC (.s 0 0 4 N))),(1,(aI (↑a:Int))),(2,(aI (↑m:Int))),(3,(aI (↑b:Int))),(4,(aC (.d (.f fn bj)))),(10,(aI (↑i:Int))),(11,(aI (↑j:Int)))],[(0,(cS d))],1⟩) (fun (p:Nat×Nat)=>match p with|(i,j)=>m<=i/\i<=j/\j<=b/\fY (fun h=>dA d h a) i j=fY (fun h=>dA d h a) m b) (fun (p:Nat×Nat)=>match p with|(i,j)=>j - i) (m,b) ?_ ?_ ?_
  ·exact ⟨by omega,by omega,by omega,rfl⟩
  ·exact aF.bW id (by refine ⟨?_,?_,?_,?_,?_,?_,?_,trivial⟩<;>first|rfl|(simp only [bm];done)|(congr 3;omega)|(congr 4;omega)|(simp only [bn];rfl)|(exact cz rfl (by omega))) (⟨by first|rfl|(simp only [bm];done)|(congr 3;omega)|(congr 4;omega)|(simp only [bn];rfl),trivial⟩) rfl
  rintro ⟨i,j⟩ ⟨hi0_0,hi0_1,hi0_2,hi0_3⟩
  refine ag ?_
  refine ae aa 3 rfl ?_
  refine ah rfl (fun hc2=>?_) (fun hc2=>?_)
  ·
   have hc2':=of_decide_eq_true hc2
   refine aQ ?_
   refine aX ?_
   refine aH aa 2 rfl ?_
   refine aA (aL rfl rfl rfl (aJ (by first|omega|(simp;done)|(simp;omega)))) rfl ?_
   refine aA (eI rfl rfl (by rw [Try.underlying3];rfl) Try.underlying128 (kV (by first|omega|(simp;done)|(simp;omega)))) rfl ?_
   refine aA (nE (r:=(↑(((i)+(j)) / 2):Int)) rfl rfl rfl (by omega)) rfl ?_
   refine aA (eI rfl rfl (by rw [Try.underlying128];rfl) Try.underlying3 (gR (by first|omega|(simp;done)|(simp;omega)))) rfl ?_
   refine ad aa 1 rfl ?_
   refine af ?_
   obtain ⟨h,hh⟩:∃ z:Nat,z=(i+j) / 2:=⟨_,rfl⟩
   refine js (i:=12) (v:=(aI (↑h:Int))) (cz (ρ:=id) rfl (by omega)) ?_
   refine ag ?_
   obtain ⟨x1,hx1⟩:=ck (xs:=d) (i:=h) (by first|omega|(simp;done)|(simp;omega))
   obtain ⟨x2,hx2⟩:=ck (xs:=d) (i:=a) (by first|omega|(simp;done)|(simp;omega))
   refine ba [0,1,2,3,4,10,11,12] [0] mixed rfl rfl ?_
   refine aE (kn:=[]) aa 3 rfl trivial ?_
   refine aU (n':=1) [41,42] [0] rfl rfl (.inl ⟨(ak.plain rfl),aM.cast (bA (i:=h) rfl rfl rfl Try.underlying42 dt (by first|omega|(simp;done)|(simp;omega)) (by first|omega|(simp;done)|(simp;omega))) rfl⟩) rfl ?_
   refine aU (n':=1) [43] [0] rfl rfl (.inl ⟨(ak.plain rfl),aM.cast (dm rfl rfl rfl Try.underlying83 rfl dt (bw hx1) rfl) rfl⟩) rfl ?_
   refine aE (kn:=[]) aa 2 rfl trivial ?_
   refine aU (n':=1) [45,46] [0] rfl rfl (.inl ⟨(ak.plain rfl),aM.cast (bA (i:=a) rfl rfl rfl Try.underlying42 dt (by first|omega|(simp;done)|(simp;omega)) (by first|omega|(simp;done)|(simp;omega))) rfl⟩) rfl ?_
   refine aU (n':=1) [47] [0] rfl rfl (.inl ⟨(ak.plain rfl),aM.cast (dm rfl rfl rfl Try.underlying83 rfl dt (bw hx2) rfl) rfl⟩) rfl ?_
   refine aU (n':=1) [40,44,48] [] rfl rfl (.inl ⟨(ak.plain rfl),aM.cast (gW (ins:=[(.g [(cI x1.aD),(cI x1.bc),(cI x1.kind),(cI x1.sum)]),(.g [(cI x2.aD),(cI x2.bc),(cI x2.kind),(cI x2.sum)])]) 1 (hp x1 x2) hen rfl rfl rfl ⟨⟨_,rfl,.g ⟨.d _,.d _,.d _,.d _,trivial⟩⟩,⟨_,rfl,.g ⟨.d _,.d _,.d _,.d _,trivial⟩⟩,trivial⟩ trivial trivial rfl rfl rfl rfl) rfl⟩) rfl ?_
   refine aE (kn:=[]) aa 1 rfl trivial ?_
   refine bC [0] rfl rfl rfl rfl (by kernel_rfl) ?_
   refine af ?_
   refine ah rfl (fun hc3=>?_) (fun hc3=>?_)
   ·
    have hc3':=of_decide_eq_true hc3
    refine au ?_
    refine ad aa 1 rfl ?_
    refine aA (aL rfl rfl rfl (aJ (by first|omega|(simp;done)|(simp;omega)))) rfl ?_
    refine ad aa 1 rfl ?_
    refine bY ?_
    refine bh ?_
    refine then_ok ?_
    refine ⟨(h+1,j),⟨by omega,by omega,by omega,tb hi0_3 (by omega) hh (by show dA _ _ _=true;rw [gm hx1 hx2,kN.1 (by assumption)])⟩,by first|omega|(simp;done)|(simp;omega),aF.bW id (by refine ⟨?_,?_,?_,?_,?_,?_,?_,trivial⟩<;>first|rfl|(simp only [bm];done)|(congr 3;omega)|(congr 4;omega)|(simp only [bn];rfl)|(exact cz rfl (by omega))) (⟨by first|rfl|(simp only [bm];done)|(congr 3;omega)|(congr 4;omega)|(simp only [bn];rfl),trivial⟩) rfl⟩
   have hc3':=of_decide_eq_false hc3
   refine au ?_
   refine ad aa 2 rfl ?_
   refine bY ?_
   refine bh ?_
   refine then_ok ?_
   refine ⟨(i,h),⟨by omega,by omega,by omega,tc hi0_3 (by omega) hh (by show dA _ _ _=false;rw [gm hx1 hx2,kO (by assumption)])⟩,by first|omega|(simp;done)|(simp;omega),aF.bW id (by refine ⟨?_,?_,?_,?_,?_,?_,?_,trivial⟩<;>first|rfl|(simp only [bm];done)|(congr 3;omega)|(congr 4;omega)|(simp only [bn];rfl)|(exact cz rfl (by omega))) (⟨by first|rfl|(simp only [bm];done)|(congr 3;omega)|(congr 4;omega)|(simp only [bn];rfl),trivial⟩) rfl⟩
  have hc2':=of_decide_eq_false hc2
  refine cj ?_
  refine aP ?_
  refine aP ?_
  refine bK ?_
  refine then_ok ?_
  refine ag ?_
  refine ae aa 2 rfl ?_
  refine aX ?_
  refine cw (β:=Nat×List aj) (fun (p:Nat×List aj)=>match p with|(k,d1)=>⟨[(0,(aC (.s 0 0 4 N))),(1,(aI (↑a:Int))),(2,(aI (↑m:Int))),(3,(aI (↑b:Int))),(4,(aC (.d (.f fn bj)))),(10,(aI (↑i:Int))),(11,(aI (↑j:Int))),(13,(aI (↑k:Int)))],[(0,(cS d1))],1⟩) (fun (p:Nat×List aj)=>match p with|(k,d1)=>a<=k/\k+1<=i/\d1=oK a (k - a) d/\d1.length=d.length) (fun (p:Nat×List aj)=>match p with|(k,d1)=>i - k) (a,d) ?_ ?_ ?_
  ·exact ⟨by omega,by omega,by rw [Nat.sub_self];rfl,rfl⟩
  ·exact aF.bW id (by refine ⟨?_,?_,?_,?_,?_,?_,?_,?_,trivial⟩<;>first|rfl|(simp only [bm];done)|(congr 3;omega)|(congr 4;omega)|(simp only [bn];rfl)|(exact cz rfl (by omega))) (⟨by first|rfl|(simp only [bm];done)|(congr 3;omega)|(congr 4;omega)|(simp only [bn];rfl),trivial⟩) rfl
  rintro ⟨k,d1⟩ ⟨hi1_0,hi1_1,hi1_2,hi1_3⟩
  refine ag ?_
  refine aH aa 2 rfl ?_
  refine aA (aL rfl rfl rfl (aJ (by first|omega|(simp;done)|(simp;omega)))) rfl ?_
  refine ad aa 1 rfl ?_
  refine af ?_
  refine ah rfl (fun hc4=>?_) (fun hc4=>?_)
  ·
   have hc4':=of_decide_eq_true hc4
   refine aQ ?_
   refine ag ?_
   refine aX ?_
   obtain ⟨x1,hx1⟩:=ck (xs:=d1) (i:=(k)+1) (by first|omega|(simp;done)|(simp;omega))
   obtain ⟨x2,hx2⟩:=ck (xs:=d1) (i:=k) (by first|omega|(simp;done)|(simp;omega))
   obtain ⟨x3,hx3⟩:=ck (xs:=((d1).set k x1)) (i:=(k)+1) (by first|omega|(simp;done)|(simp;omega))
   refine dg [0,1,2,3,4,10,11,13] [0] mixed rfl rfl ?_
   refine ca (kn:=[]) aa 4 rfl trivial ?_
   refine cg (n':=1) [64] [] rfl rfl (.inl ⟨(ak.plain rfl),aM.cast (aL rfl rfl rfl (aJ (by first|omega|(simp;done)|(simp;omega)))) rfl⟩) rfl ?_
   refine ca (kn:=[]) aa 2 rfl trivial ?_
   refine cg (n':=1) [67] [] rfl rfl (.inl ⟨(ak.plain rfl),aM.cast (aL rfl rfl rfl (aJ (by first|omega|(simp;done)|(simp;omega)))) rfl⟩) rfl ?_
   refine cg (n':=1) [66,68] [0] rfl rfl (.inl ⟨(ak.plain rfl),aM.cast (bA (i:=(k)+1) rfl rfl rfl Try.underlying42 dt (by first|omega|(simp;done)|(simp;omega)) (by first|omega|(simp;done)|(simp;omega))) rfl⟩) rfl ?_
   refine cg (n':=1) [69] [0] rfl rfl (.inl ⟨(ak.plain rfl),aM.cast (dm rfl rfl rfl Try.underlying83 rfl dt (bw hx1) rfl) rfl⟩) rfl ?_
   refine ca (kn:=[]) aa 2 rfl trivial ?_
   refine cg (n':=1) [71,72] [0] rfl rfl (.inl ⟨(ak.plain rfl),aM.cast (bA (i:=k) rfl rfl rfl Try.underlying42 dt (by first|omega|(simp;done)|(simp;omega)) (by first|omega|(simp;done)|(simp;omega))) rfl⟩) rfl ?_
   refine cg (n':=1) [73] [0] rfl rfl (.inl ⟨(ak.plain rfl),aM.cast (dm rfl rfl rfl Try.underlying83 rfl dt (bw hx2) rfl) rfl⟩) rfl ?_
   refine cg (n':=1) [61,62] [0] rfl rfl (.inl ⟨(ak.plain rfl),aM.cast (bA (i:=k) rfl rfl rfl Try.underlying42 dt (by first|omega|(simp;done)|(simp;omega)) (by first|omega|(simp;done)|(simp;omega))) rfl⟩) rfl ?_
   refine cg (n':=1) [75,70] [0] rfl rfl (.inl ⟨(ak.plain rfl),aM.cast (dU (ds:=[(dI x1.aD),(dI x1.bc),(dI x1.kind),(dI x1.sum)]) rfl rfl rfl rfl rfl dt rfl (Nat.le_of_ble_eq_true rfl) (bw hx2) rfl (eZ (x':=x1) rfl)) rfl⟩) rfl ?_
   refine cg (n':=1) [63,65] [0] rfl rfl (.inl ⟨(ak.plain rfl),aM.cast (bA (i:=(k)+1) rfl rfl rfl Try.underlying42 dt (by first|omega|(simp;done)|(simp;omega)) (by first|omega|(simp;done)|(simp;omega))) rfl⟩) rfl ?_
   refine cg (n':=1) [76,74] [0] rfl rfl (.inl ⟨(ak.plain rfl),aM.cast (dU (ds:=[(dI x2.aD),(dI x2.bc),(dI x2.kind),(dI x2.sum)]) rfl rfl rfl rfl rfl dt rfl (Nat.le_of_ble_eq_true rfl) (bw hx3) rfl (eZ (x':=x2) rfl)) rfl⟩) rfl ?_
   refine dX [0,1,2,3,4,10,11,13] [0] rfl rfl (by kernel_rfl) ?_
   refine bh ?_
   refine then_ok ?_
   refine au ?_
   refine ad aa 1 rfl ?_
   refine aA (aL rfl rfl rfl (aJ (by first|omega|(simp;done)|(simp;omega)))) rfl ?_
   refine ad aa 1 rfl ?_
   refine af ?_
   refine ⟨(k+1,((d1).set k x1).set ((k)+1) x2),⟨by omega,by omega,by rw [CZ hi1_0,<-hi1_2];exact (mj hx2 hx1).symm,by simp only [List.length_set];exact hi1_3⟩,by first|omega|(simp;done)|(simp;omega),aF.bW id (by refine ⟨?_,?_,?_,?_,?_,?_,?_,?_,trivial⟩<;>first|rfl|(simp only [bm];done)|(congr 3;omega)|(congr 4;omega)|(simp only [bn];rfl)|(exact cz rfl (by omega))) (⟨by first|rfl|(simp only [bm];done)|(congr 3;omega)|(congr 4;omega)|(simp only [bn];rfl),trivial⟩) rfl⟩
  have hc4':=of_decide_eq_false hc4
  refine cj ?_
  refine aP ?_
  refine aP ?_
  refine bK ?_
  refine then_ok ?_
  refine az ?_
  refine aq ?_
  have hX:dK (f+1) a m b d=d1:=by
    rw [dK.eq_2,if_pos (by omega),<-hi0_3,eV (by omega),hi1_2]
    exact congrArg (fun z=>oK a z d) (by omega)
  rw [hX] at hr;clear hX
  subst hr
  refine an aa [0] 1 rfl rfl rfl rfl rfl rfl ?_ ?_
  all_goals first|rfl|(simp [ay];done)|(simp [ay];omega)
 have hc1':=of_decide_eq_false hc1
 refine aQ ?_
 refine ag ?_
 refine aH aa 2 rfl ?_
 refine aA (aL rfl rfl rfl (aJ (by first|omega|(simp;done)|(simp;omega)))) rfl ?_
 refine ad aa 1 rfl ?_
 refine af ?_
 refine ah rfl (fun hc5=>?_) (fun hc5=>?_)
 ·
  have hc5':=of_decide_eq_true hc5
  refine ae aa 2 rfl ?_
  refine ae aa 2 rfl ?_
  refine ag ?_
  refine aX ?_
  refine cw (β:=Nat×Nat) (fun (p:Nat×Nat)=>match p with|(i2,j2)=>⟨[(0,(aC (.s 0 0 4 N))),(1,(aI (↑a:Int))),(2,(aI (↑m:Int))),(3,(aI (↑b:Int))),(4,(aC (.d (.f fn bj)))),(14,(aI (↑i2:Int))),(15,(aI (↑j2:Int)))],[(0,(cS d))],1⟩) (fun (p:Nat×Nat)=>match p with|(i2,j2)=>a<=i2/\i2<=j2/\j2<=m/\fY (fun h=>!dA d m h) i2 j2=fY (fun h=>!dA d m h) a m) (fun (p:Nat×Nat)=>match p with|(i2,j2)=>j2 - i2) (a,m) ?_ ?_ ?_
  ·exact ⟨by omega,by omega,by omega,rfl⟩
  ·exact aF.bW id (by refine ⟨?_,?_,?_,?_,?_,?_,?_,trivial⟩<;>first|rfl|(simp only [bm];done)|(congr 3;omega)|(congr 4;omega)|(simp only [bn];rfl)|(exact cz rfl (by omega))) (⟨by first|rfl|(simp only [bm];done)|(congr 3;omega)|(congr 4;omega)|(simp only [bn];rfl),trivial⟩) rfl
  rintro ⟨i2,j2⟩ ⟨hi2_0,hi2_1,hi2_2,hi2_3⟩
  refine ag ?_
  refine ae aa 3 rfl ?_
  refine ah rfl (fun hc6=>?_) (fun hc6=>?_)
  ·
   have hc6':=of_decide_eq_true hc6
   refine aQ ?_
   refine aX ?_
   refine aH aa 2 rfl ?_
   refine aA (aL rfl rfl rfl (aJ (by first|omega|(simp;done)|(simp;omega)))) rfl ?_
   refine aA (eI rfl rfl (by rw [Try.underlying3];rfl) Try.underlying128 (kV (by first|omega|(simp;done)|(simp;omega)))) rfl ?_
   refine aA (nE (r:=(↑(((i2)+(j2)) / 2):Int)) rfl rfl rfl (by omega)) rfl ?_
   refine aA (eI rfl rfl (by rw [Try.underlying128];rfl) Try.underlying3 (gR (by first|omega|(simp;done)|(simp;omega)))) rfl ?_
   refine ad aa 1 rfl ?_
   refine af ?_
   obtain ⟨h2,hh2⟩:∃ z:Nat,z=(i2+j2) / 2:=⟨_,rfl⟩
   refine js (i:=16) (v:=(aI (↑h2:Int))) (cz (ρ:=id) rfl (by omega)) ?_
   refine ag ?_
   obtain ⟨x1,hx1⟩:=ck (xs:=d) (i:=m) (by first|omega|(simp;done)|(simp;omega))
   obtain ⟨x2,hx2⟩:=ck (xs:=d) (i:=h2) (by first|omega|(simp;done)|(simp;omega))
   refine ba [0,1,2,3,4,14,15,16] [0] mixed rfl rfl ?_
   refine aE (kn:=[]) aa 3 rfl trivial ?_
   refine aU (n':=1) [93,94] [0] rfl rfl (.inl ⟨(ak.plain rfl),aM.cast (bA (i:=m) rfl rfl rfl Try.underlying42 dt (by first|omega|(simp;done)|(simp;omega)) (by first|omega|(simp;done)|(simp;omega))) rfl⟩) rfl ?_
   refine aU (n':=1) [95] [0] rfl rfl (.inl ⟨(ak.plain rfl),aM.cast (dm rfl rfl rfl Try.underlying83 rfl dt (bw hx1) rfl) rfl⟩) rfl ?_
   refine aE (kn:=[]) aa 2 rfl trivial ?_
   refine aU (n':=1) [97,98] [0] rfl rfl (.inl ⟨(ak.plain rfl),aM.cast (bA (i:=h2) rfl rfl rfl Try.underlying42 dt (by first|omega|(simp;done)|(simp;omega)) (by first|omega|(simp;done)|(simp;omega))) rfl⟩) rfl ?_
   refine aU (n':=1) [99] [0] rfl rfl (.inl ⟨(ak.plain rfl),aM.cast (dm rfl rfl rfl Try.underlying83 rfl dt (bw hx2) rfl) rfl⟩) rfl ?_
   refine aU (n':=1) [92,96,100] [] rfl rfl (.inl ⟨(ak.plain rfl),aM.cast (gW (ins:=[(.g [(cI x1.aD),(cI x1.bc),(cI x1.kind),(cI x1.sum)]),(.g [(cI x2.aD),(cI x2.bc),(cI x2.kind),(cI x2.sum)])]) 1 (hp x1 x2) hen rfl rfl rfl ⟨⟨_,rfl,.g ⟨.d _,.d _,.d _,.d _,trivial⟩⟩,⟨_,rfl,.g ⟨.d _,.d _,.d _,.d _,trivial⟩⟩,trivial⟩ trivial trivial rfl rfl rfl rfl) rfl⟩) rfl ?_
   refine aE (kn:=[]) aa 2 rfl trivial ?_
   refine bC [0] rfl rfl rfl rfl (by kernel_rfl) ?_
   refine af ?_
   refine ah rfl (fun hc7=>?_) (fun hc7=>?_)
   ·
    have hc7':=hc7;try simp only [bu,bU] at hc7'
    refine au ?_
    refine ad aa 1 rfl ?_
    refine aA (aL rfl rfl rfl (aJ (by first|omega|(simp;done)|(simp;omega)))) rfl ?_
    refine ad aa 1 rfl ?_
    refine bY ?_
    refine bh ?_
    refine then_ok ?_
    refine ⟨(h2+1,j2),⟨by omega,by omega,by omega,tb hi2_3 (by omega) hh2 (by show (!dA _ _ _)=true;rw [gm hx1 hx2,kO (by assumption)];rfl)⟩,by first|omega|(simp;done)|(simp;omega),aF.bW id (by refine ⟨?_,?_,?_,?_,?_,?_,?_,trivial⟩<;>first|rfl|(simp only [bm];done)|(congr 3;omega)|(congr 4;omega)|(simp only [bn];rfl)|(exact cz rfl (by omega))) (⟨by first|rfl|(simp only [bm];done)|(congr 3;omega)|(congr 4;omega)|(simp only [bn];rfl),trivial⟩) rfl⟩
   have hc7':=hc7;try simp only [bu,bU] at hc7'
   refine au ?_
   refine ad aa 2 rfl ?_
   refine bY ?_
   refine bh ?_
   refine then_ok ?_
   refine ⟨(i2,h2),⟨by omega,by omega,by omega,tc hi2_3 (by omega) hh2 (by show (!dA _ _ _)=false;rw [gm hx1 hx2,kN.1 (by assumption)];rfl)⟩,by first|omega|(simp;done)|(simp;omega),aF.bW id (by refine ⟨?_,?_,?_,?_,?_,?_,?_,trivial⟩<;>first|rfl|(simp only [bm];done)|(congr 3;omega)|(congr 4;omega)|(simp only [bn];rfl)|(exact cz rfl (by omega))) (⟨by first|rfl|(simp only [bm];done)|(congr 3;omega)|(congr 4;omega)|(simp only [bn];rfl),trivial⟩) rfl⟩
  have hc6':=of_decide_eq_false hc6
  refine cj ?_
  refine aP ?_
  refine aP ?_
  refine bK ?_
  refine then_ok ?_
  refine ag ?_
  refine ae aa 2 rfl ?_
  refine aX ?_
  refine cw (β:=Nat×List aj) (fun (p:Nat×List aj)=>match p with|(k,d1)=>⟨[(0,(aC (.s 0 0 4 N))),(1,(aI (↑a:Int))),(2,(aI (↑m:Int))),(3,(aI (↑b:Int))),(4,(aC (.d (.f fn bj)))),(14,(aI (↑i2:Int))),(15,(aI (↑j2:Int))),(17,(aI (↑k:Int)))],[(0,(cS d1))],1⟩) (fun (p:Nat×List aj)=>match p with|(k,d1)=>i2<=k/\k<=m/\d1=oL m (m - k) d/\d1.length=d.length) (fun (p:Nat×List aj)=>match p with|(k,d1)=>k) (m,d) ?_ ?_ ?_
  ·exact ⟨by omega,by omega,by rw [Nat.sub_self];rfl,rfl⟩
  ·exact aF.bW id (by refine ⟨?_,?_,?_,?_,?_,?_,?_,?_,trivial⟩<;>first|rfl|(simp only [bm];done)|(congr 3;omega)|(congr 4;omega)|(simp only [bn];rfl)|(exact cz rfl (by omega))) (⟨by first|rfl|(simp only [bm];done)|(congr 3;omega)|(congr 4;omega)|(simp only [bn];rfl),trivial⟩) rfl
  rintro ⟨k,d1⟩ ⟨hi3_0,hi3_1,hi3_2,hi3_3⟩
  refine ag ?_
  refine ae aa 3 rfl ?_
  refine ah rfl (fun hc8=>?_) (fun hc8=>?_)
  ·
   have hc8':=of_decide_eq_true hc8
   refine aQ ?_
   refine ag ?_
   refine aX ?_
   obtain ⟨x1,hx1⟩:=ck (xs:=d1) (i:=(k) - 1) (by first|omega|(simp;done)|(simp;omega))
   obtain ⟨x2,hx2⟩:=ck (xs:=d1) (i:=k) (by first|omega|(simp;done)|(simp;omega))
   obtain ⟨x3,hx3⟩:=ck (xs:=((d1).set k x1)) (i:=(k) - 1) (by first|omega|(simp;done)|(simp;omega))
   refine dg [0,1,2,3,4,14,15,17] [0] mixed rfl rfl ?_
   refine ca (kn:=[]) aa 4 rfl trivial ?_
   refine cg (n':=1) [116] [] rfl rfl (.inl ⟨(ak.plain rfl),aM.cast (aL rfl rfl rfl (aJ (by first|omega|(simp;done)|(simp;omega)))) rfl⟩) rfl ?_
   refine ca (kn:=[]) aa 2 rfl trivial ?_
   refine cg (n':=1) [119] [] rfl rfl (.inl ⟨(ak.plain rfl),aM.cast (aL rfl rfl rfl (aJ (by first|omega|(simp;done)|(simp;omega)))) rfl⟩) rfl ?_
   refine cg (n':=1) [118,120] [0] rfl rfl (.inl ⟨(ak.plain rfl),aM.cast (bA (i:=(k) - 1) rfl rfl rfl Try.underlying42 dt (by first|omega|(simp;done)|(simp;omega)) (by first|omega|(simp;done)|(simp;omega))) rfl⟩) rfl ?_
   refine cg (n':=1) [121] [0] rfl rfl (.inl ⟨(ak.plain rfl),aM.cast (dm rfl rfl rfl Try.underlying83 rfl dt (bw hx1) rfl) rfl⟩) rfl ?_
   refine ca (kn:=[]) aa 2 rfl trivial ?_
   refine cg (n':=1) [123,124] [0] rfl rfl (.inl ⟨(ak.plain rfl),aM.cast (bA (i:=k) rfl rfl rfl Try.underlying42 dt (by first|omega|(simp;done)|(simp;omega)) (by first|omega|(simp;done)|(simp;omega))) rfl⟩) rfl ?_
   refine cg (n':=1) [125] [0] rfl rfl (.inl ⟨(ak.plain rfl),aM.cast (dm rfl rfl rfl Try.underlying83 rfl dt (bw hx2) rfl) rfl⟩) rfl ?_
   refine cg (n':=1) [113,114] [0] rfl rfl (.inl ⟨(ak.plain rfl),aM.cast (bA (i:=k) rfl rfl rfl Try.underlying42 dt (by first|omega|(simp;done)|(simp;omega)) (by first|omega|(simp;done)|(simp;omega))) rfl⟩) rfl ?_
   refine cg (n':=1) [127,122] [0] rfl rfl (.inl ⟨(ak.plain rfl),aM.cast (dU (ds:=[(dI x1.aD),(dI x1.bc),(dI x1.kind),(dI x1.sum)]) rfl rfl rfl rfl rfl dt rfl (Nat.le_of_ble_eq_true rfl) (bw hx2) rfl (eZ (x':=x1) rfl)) rfl⟩) rfl ?_
   refine cg (n':=1) [115,117] [0] rfl rfl (.inl ⟨(ak.plain rfl),aM.cast (bA (i:=(k) - 1) rfl rfl rfl Try.underlying42 dt (by first|omega|(simp;done)|(simp;omega)) (by first|omega|(simp;done)|(simp;omega))) rfl⟩) rfl ?_
   refine cg (n':=1) [128,126] [0] rfl rfl (.inl ⟨(ak.plain rfl),aM.cast (dU (ds:=[(dI x2.aD),(dI x2.bc),(dI x2.kind),(dI x2.sum)]) rfl rfl rfl rfl rfl dt rfl (Nat.le_of_ble_eq_true rfl) (bw hx3) rfl (eZ (x':=x2) rfl)) rfl⟩) rfl ?_
   refine dX [0,1,2,3,4,14,15,17] [0] rfl rfl (by kernel_rfl) ?_
   refine bh ?_
   refine then_ok ?_
   refine au ?_
   refine ad aa 1 rfl ?_
   refine aA (aL rfl rfl rfl (aJ (by first|omega|(simp;done)|(simp;omega)))) rfl ?_
   refine ad aa 1 rfl ?_
   refine af ?_
   refine ⟨(k - 1,((d1).set k x1).set ((k) - 1) x2),⟨by omega,by omega,by rw [Da hi3_1 (by omega),<-hi3_2];exact (mj hx2 hx1).symm,by simp only [List.length_set];exact hi3_3⟩,by first|omega|(simp;done)|(simp;omega),aF.bW id (by refine ⟨?_,?_,?_,?_,?_,?_,?_,?_,trivial⟩<;>first|rfl|(simp only [bm];done)|(congr 3;omega)|(congr 4;omega)|(simp only [bn];rfl)|(exact cz rfl (by omega))) (⟨by first|rfl|(simp only [bm];done)|(congr 3;omega)|(congr 4;omega)|(simp only [bn];rfl),trivial⟩) rfl⟩
  have hc8':=of_decide_eq_false hc8
  refine cj ?_
  refine aP ?_
  refine aP ?_
  refine bK ?_
  refine then_ok ?_
  refine az ?_
  refine aq ?_
  have hX:dK (f+1) a m b d=d1:=by
    rw [dK.eq_2,if_neg (by omega),if_pos (by omega),<-hi2_3,eV (by omega),hi3_2]
    exact congrArg (fun z=>oL m z d) (by omega)
  rw [hX] at hr;clear hX
  subst hr
  refine an aa [0] 1 rfl rfl rfl rfl rfl rfl ?_ ?_
  all_goals first|rfl|(simp [ay];done)|(simp [ay];omega)
 have hc5':=of_decide_eq_false hc5
 refine aQ ?_
 refine aH aa 2 rfl ?_
 refine aA (aL rfl rfl rfl (aJ (by first|omega|(simp;done)|(simp;omega)))) rfl ?_
 refine aA (eI rfl rfl (by rw [Try.underlying3];rfl) Try.underlying128 (kV (by first|omega|(simp;done)|(simp;omega)))) rfl ?_
 refine aA (nE (r:=(↑(((a)+(b)) / 2):Int)) rfl rfl rfl (by omega)) rfl ?_
 refine aA (eI rfl rfl (by rw [Try.underlying128];rfl) Try.underlying3 (gR (by first|omega|(simp;done)|(simp;omega)))) rfl ?_
 refine ad aa 1 rfl ?_
 refine af ?_
 obtain ⟨mid,hmid⟩:∃ z:Nat,z=(a+b) / 2:=⟨_,rfl⟩
 refine js (i:=18) (v:=(aI (↑mid:Int))) (cz (ρ:=id) rfl (by omega)) ?_
 refine aH aa 2 rfl ?_
 refine aA (aL rfl rfl rfl (aJ (by first|omega|(simp;done)|(simp;omega)))) rfl ?_
 refine ad aa 1 rfl ?_
 refine af ?_
 refine ae aa 2 rfl ?_
 refine ag ?_
 refine ae aa 3 rfl ?_
 refine ah rfl (fun hc9=>?_) (fun hc9=>?_)
 ·
  have hc9':=of_decide_eq_true hc9
  refine aH aa 2 rfl ?_
  refine aA (aL rfl rfl rfl (aJ (by first|omega|(simp;done)|(simp;omega)))) rfl ?_
  refine ad aa 1 rfl ?_
  refine af ?_
  refine au ?_
  refine ad aa 2 rfl ?_
  refine af ?_
  refine aH aa 1 rfl ?_
  refine aA (aL rfl rfl rfl (aJ (by first|omega|(simp;done)|(simp;omega)))) rfl ?_
  refine ad aa 1 rfl ?_
  refine af ?_
  refine ag ?_
  refine aX ?_
  refine cw (β:=Nat×Nat) (fun (p:Nat×Nat)=>match p with|(s,u1)=>⟨[(0,(aC (.s 0 0 4 N))),(1,(aI (↑a:Int))),(2,(aI (↑m:Int))),(3,(aI (↑b:Int))),(4,(aC (.d (.f fn bj)))),(18,(aI (↑mid:Int))),(19,(aI ((↑mid:Int)+(↑m:Int)))),(20,(aI (↑s:Int))),(21,(aI (↑u1:Int))),(22,(aI (((↑mid:Int)+(↑m:Int)) - 1)))],[(0,(cS d))],1⟩) (fun (p:Nat×Nat)=>match p with|(s,u1)=>((mid)+(m)) - (b)<=s/\s<=u1/\u1<=mid/\fY (fun c=>!dA d (mid+m - 1 - c) c) s u1=fY (fun c=>!dA d (mid+m - 1 - c) c) (((mid)+(m)) - (b)) mid) (fun (p:Nat×Nat)=>match p with|(s,u1)=>u1 - s) (((mid)+(m)) - (b),mid) ?_ ?_ ?_
  ·exact ⟨by omega,by omega,by omega,rfl⟩
  ·exact aF.bW id (by refine ⟨?_,?_,?_,?_,?_,?_,?_,?_,?_,?_,trivial⟩<;>first|rfl|(simp only [bm];done)|(congr 3;omega)|(congr 4;omega)|(simp only [bn];rfl)|(exact cz rfl (by omega))) (⟨by first|rfl|(simp only [bm];done)|(congr 3;omega)|(congr 4;omega)|(simp only [bn];rfl),trivial⟩) rfl
  rintro ⟨s,u1⟩ ⟨hi4_0,hi4_1,hi4_2,hi4_3⟩
  refine ag ?_
  refine ae aa 3 rfl ?_
  refine ah rfl (fun hc10=>?_) (fun hc10=>?_)
  ·
   have hc10':=of_decide_eq_true hc10
   refine aQ ?_
   refine aX ?_
   refine aH aa 2 rfl ?_
   refine aA (aL rfl rfl rfl (aJ (by first|omega|(simp;done)|(simp;omega)))) rfl ?_
   refine aA (eI rfl rfl (by rw [Try.underlying3];rfl) Try.underlying128 (kV (by first|omega|(simp;done)|(simp;omega)))) rfl ?_
   refine aA (nE (r:=(↑(((s)+(u1)) / 2):Int)) rfl rfl rfl (by omega)) rfl ?_
   refine aA (eI rfl rfl (by rw [Try.underlying128];rfl) Try.underlying3 (gR (by first|omega|(simp;done)|(simp;omega)))) rfl ?_
   refine ad aa 1 rfl ?_
   refine af ?_
   obtain ⟨c,hc⟩:∃ z:Nat,z=(s+u1) / 2:=⟨_,rfl⟩
   refine js (i:=23) (v:=(aI (↑c:Int))) (cz (ρ:=id) rfl (by omega)) ?_
   refine ag ?_
   obtain ⟨x1,hx1⟩:=ck (xs:=d) (i:=(((mid)+(m)) - 1) - (c)) (by first|omega|(simp;done)|(simp;omega))
   obtain ⟨x2,hx2⟩:=ck (xs:=d) (i:=c) (by first|omega|(simp;done)|(simp;omega))
   refine ba [0,1,2,3,4,18,19,20,21,22,23] [0] mixed rfl rfl ?_
   refine aE (kn:=[]) aa 4 rfl trivial ?_
   refine aU (n':=1) [160,161] [] rfl rfl (.inl ⟨(ak.plain rfl),aM.cast (aL rfl rfl rfl (aJ (by first|omega|(simp;done)|(simp;omega)))) rfl⟩) rfl ?_
   refine aU (n':=1) [159,162] [0] rfl rfl (.inl ⟨(ak.plain rfl),aM.cast (bA (i:=(((mid)+(m)) - 1) - (c)) rfl rfl rfl Try.underlying42 dt (by first|omega|(simp;done)|(simp;omega)) (by first|omega|(simp;done)|(simp;omega))) rfl⟩) rfl ?_
   refine aU (n':=1) [163] [0] rfl rfl (.inl ⟨(ak.plain rfl),aM.cast (dm rfl rfl rfl Try.underlying83 rfl dt (bw hx1) rfl) rfl⟩) rfl ?_
   refine aE (kn:=[]) aa 2 rfl trivial ?_
   refine aU (n':=1) [165,166] [0] rfl rfl (.inl ⟨(ak.plain rfl),aM.cast (bA (i:=c) rfl rfl rfl Try.underlying42 dt (by first|omega|(simp;done)|(simp;omega)) (by first|omega|(simp;done)|(simp;omega))) rfl⟩) rfl ?_
   refine aU (n':=1) [167] [0] rfl rfl (.inl ⟨(ak.plain rfl),aM.cast (dm rfl rfl rfl Try.underlying83 rfl dt (bw hx2) rfl) rfl⟩) rfl ?_
   refine aU (n':=1) [158,164,168] [] rfl rfl (.inl ⟨(ak.plain rfl),aM.cast (gW (ins:=[(.g [(cI x1.aD),(cI x1.bc),(cI x1.kind),(cI x1.sum)]),(.g [(cI x2.aD),(cI x2.bc),(cI x2.kind),(cI x2.sum)])]) 1 (hp x1 x2) hen rfl rfl rfl ⟨⟨_,rfl,.g ⟨.d _,.d _,.d _,.d _,trivial⟩⟩,⟨_,rfl,.g ⟨.d _,.d _,.d _,.d _,trivial⟩⟩,trivial⟩ trivial trivial rfl rfl rfl rfl) rfl⟩) rfl ?_
   refine aE (kn:=[]) aa 2 rfl trivial ?_
   refine bC [0] rfl rfl rfl rfl (by kernel_rfl) ?_
   refine af ?_
   refine ah rfl (fun hc11=>?_) (fun hc11=>?_)
   ·
    have hc11':=hc11;try simp only [bu,bU] at hc11'
    refine au ?_
    refine ad aa 1 rfl ?_
    refine aA (aL rfl rfl rfl (aJ (by first|omega|(simp;done)|(simp;omega)))) rfl ?_
    refine ad aa 1 rfl ?_
    refine bY ?_
    refine bh ?_
    refine then_ok ?_
    refine ⟨(c+1,u1),⟨by omega,by omega,by omega,tb hi4_3 (by omega) hc (by show (!dA _ _ _)=true;rw [gm hx1 hx2,kO (by assumption)];rfl)⟩,by first|omega|(simp;done)|(simp;omega),aF.bW id (by refine ⟨?_,?_,?_,?_,?_,?_,?_,?_,?_,?_,trivial⟩<;>first|rfl|(simp only [bm];done)|(congr 3;omega)|(congr 4;omega)|(simp only [bn];rfl)|(exact cz rfl (by omega))) (⟨by first|rfl|(simp only [bm];done)|(congr 3;omega)|(congr 4;omega)|(simp only [bn];rfl),trivial⟩) rfl⟩
   have hc11':=hc11;try simp only [bu,bU] at hc11'
   refine au ?_
   refine ad aa 2 rfl ?_
   refine bY ?_
   refine bh ?_
   refine then_ok ?_
   refine ⟨(s,c),⟨by omega,by omega,by omega,tc hi4_3 (by omega) hc (by show (!dA _ _ _)=false;rw [gm hx1 hx2,kN.1 (by assumption)];rfl)⟩,by first|omega|(simp;done)|(simp;omega),aF.bW id (by refine ⟨?_,?_,?_,?_,?_,?_,?_,?_,?_,?_,trivial⟩<;>first|rfl|(simp only [bm];done)|(congr 3;omega)|(congr 4;omega)|(simp only [bn];rfl)|(exact cz rfl (by omega))) (⟨by first|rfl|(simp only [bm];done)|(congr 3;omega)|(congr 4;omega)|(simp only [bn];rfl),trivial⟩) rfl⟩
  have hc10':=of_decide_eq_false hc10
  refine cj ?_
  refine aP ?_
  refine aP ?_
  refine bK ?_
  refine then_ok ?_
  refine aH aa 2 rfl ?_
  refine aA (aL rfl rfl rfl (aJ (by first|omega|(simp;done)|(simp;omega)))) rfl ?_
  refine ad aa 1 rfl ?_
  refine af ?_
  refine ag ?_
  obtain ⟨e,he⟩:∃ z:Nat,z=mid+m - s:=⟨_,rfl⟩
  refine js (i:=24) (v:=(aI (↑e:Int))) (cz (ρ:=id) rfl (by omega)) ?_
  refine cx 185 ((decide ((↑s:Int) < (↑m:Int))) && (decide ((↑m:Int) < (↑e:Int)))) ?_ ?_
  ·
   refine au ?_
   refine ad aa 4 rfl ?_
   refine bI (t:=181) rfl (fun hb12=>?_) (fun hb12=>?_)
   ·
    have hb12':=of_decide_eq_true hb12
    refine ad aa 4 rfl ?_
    refine af ?_
    exact aF.bH 9 rfl rfl (by first|(simp [hb12];done)|(simp_all;done)|(exfalso;simp_all;done)|(simp_all;omega)) rfl
   have hb12':=of_decide_eq_false hb12
   refine ad aa 4 rfl ?_
   refine af ?_
   exact aF.bH 9 rfl rfl (by first|(simp [hb12];done)|(simp_all;done)|(exfalso;simp_all;done)|(simp_all;omega)) rfl
  refine ah rfl (fun hc13=>?_) (fun hc13=>?_)
  ·
   have hc13':=hc13;try simp only [bu,bU] at hc13'
   refine au ?_
   refine ad aa 5 rfl ?_
   obtain ⟨r0,hr0⟩:∃ (r0:List aj),jA m (m - s) (e - m) d=r0:=⟨_,rfl⟩
   have hlr0:r0.length=d.length:=by rw [<-hr0];exact ny _ _ _ _ _ (Nat.le_refl _)
   refine aN 1 [0] (dV id id (vi (↑s:Int) (↑m:Int) (↑e:Int) d N s m e fn bj hp hen (by first|omega|(simp;done)|(simp;omega)) (by first|omega|(simp;done)|(simp;omega)) (by first|omega|(simp;done)|(simp;omega)) (by first|omega|(simp;done)|(simp;omega)) (by first|omega|(simp;done)|(simp;omega)) (by first|omega|(simp;done)|(simp;omega)) (by first|omega|(simp;done)|(simp;omega)) (by first|omega|(simp;done)|(simp;omega)) r0 hr0) GF rfl rfl ⟨⟨_,rfl,.inl ⟨rfl,rfl⟩⟩,⟨_,rfl,.inr (.c (.d _))⟩,⟨_,rfl,.inr (.c (.d _))⟩,⟨_,rfl,.inr (.c (.d _))⟩,⟨_,rfl,.inr (.c (.d _))⟩,trivial⟩ ⟨rfl,trivial⟩ rfl rfl ⟨.inr ⟨_,_,_,rfl,by first|(simp;omega)|(simp only [List.length_map];omega)⟩,trivial⟩ rfl rfl rfl trivial ⟨(fun _ _ _ _=>trivial),trivial⟩ rfl rfl rfl rfl) rfl ?_
   refine af ?_
   refine ag ?_
   refine cx 199 ((decide ((↑a:Int) < (↑s:Int))) && (decide ((↑s:Int) < (↑mid:Int)))) ?_ ?_
   ·
    refine au ?_
    refine ad aa 4 rfl ?_
    refine bI (t:=195) rfl (fun hb14=>?_) (fun hb14=>?_)
    ·
     have hb14':=of_decide_eq_true hb14
     refine ad aa 4 rfl ?_
     refine af ?_
     exact aF.bH 9 rfl rfl (by first|(simp [hb14];done)|(simp_all;done)|(exfalso;simp_all;done)|(simp_all;omega)) rfl
    have hb14':=of_decide_eq_false hb14
    refine ad aa 4 rfl ?_
    refine af ?_
    exact aF.bH 9 rfl rfl (by first|(simp [hb14];done)|(simp_all;done)|(exfalso;simp_all;done)|(simp_all;omega)) rfl
   refine ah rfl (fun hc15=>?_) (fun hc15=>?_)
   ·
    have hc15':=hc15;try simp only [bu,bU] at hc15'
    refine au ?_
    refine ad aa 5 rfl ?_
    obtain ⟨r1,hr1⟩:∃ (r1:List aj),dK f a s mid r0=r1:=⟨_,rfl⟩
    have hlr1:r1.length=r0.length:=by rw [<-hr1];exact eX _ _ _ _ _
    refine aN 1 [0] (dV id id (ih (↑a:Int) (↑s:Int) (↑mid:Int) r0 N a s mid fn bj hp hen (by first|omega|(simp;done)|(simp;omega)) (by first|omega|(simp;done)|(simp;omega)) (by first|omega|(simp;done)|(simp;omega)) (by first|omega|(simp;done)|(simp;omega)) (by first|omega|(simp;done)|(simp;omega)) (by first|omega|(simp;done)|(simp;omega)) (by first|omega|(simp;done)|(simp;omega)) (by first|omega|(simp;done)|(simp;omega)) (by first|omega|(simp;done)|(simp;omega)) r1 hr1) kA rfl rfl ⟨⟨_,rfl,.inl ⟨rfl,rfl⟩⟩,⟨_,rfl,.inr (.c (.d _))⟩,⟨_,rfl,.inr (.c (.d _))⟩,⟨_,rfl,.inr (.c (.d _))⟩,⟨_,rfl,.inr (.c (.d _))⟩,trivial⟩ ⟨rfl,trivial⟩ rfl rfl ⟨.inr ⟨_,_,_,rfl,by first|(simp;omega)|(simp only [List.length_map];omega)⟩,trivial⟩ rfl rfl rfl trivial ⟨(fun _ _ _ _=>trivial),trivial⟩ rfl rfl rfl rfl) rfl ?_
    refine af ?_
    refine cx 213 ((decide ((↑mid:Int) < (↑e:Int))) && (decide ((↑e:Int) < (↑b:Int)))) ?_ ?_
    ·
     refine au ?_
     refine ad aa 4 rfl ?_
     refine bI (t:=209) rfl (fun hb16=>?_) (fun hb16=>?_)
     ·
      have hb16':=of_decide_eq_true hb16
      refine ad aa 4 rfl ?_
      refine af ?_
      exact aF.bH 9 rfl rfl (by first|(simp [hb16];done)|(simp_all;done)|(exfalso;simp_all;done)|(simp_all;omega)) rfl
     have hb16':=of_decide_eq_false hb16
     refine ad aa 4 rfl ?_
     refine af ?_
     exact aF.bH 9 rfl rfl (by first|(simp [hb16];done)|(simp_all;done)|(exfalso;simp_all;done)|(simp_all;omega)) rfl
    refine ah rfl (fun hc17=>?_) (fun hc17=>?_)
    ·
     have hc17':=hc17;try simp only [bu,bU] at hc17'
     refine au ?_
     refine ad aa 5 rfl ?_
     obtain ⟨r2,hr2⟩:∃ (r2:List aj),dK f mid e b r1=r2:=⟨_,rfl⟩
     have hlr2:r2.length=r1.length:=by rw [<-hr2];exact eX _ _ _ _ _
     refine aN 1 [0] (dV id id (ih (↑mid:Int) (↑e:Int) (↑b:Int) r1 N mid e b fn bj hp hen (by first|omega|(simp;done)|(simp;omega)) (by first|omega|(simp;done)|(simp;omega)) (by first|omega|(simp;done)|(simp;omega)) (by first|omega|(simp;done)|(simp;omega)) (by first|omega|(simp;done)|(simp;omega)) (by first|omega|(simp;done)|(simp;omega)) (by first|omega|(simp;done)|(simp;omega)) (by first|omega|(simp;done)|(simp;omega)) (by first|omega|(simp;done)|(simp;omega)) r2 hr2) kA rfl rfl ⟨⟨_,rfl,.inl ⟨rfl,rfl⟩⟩,⟨_,rfl,.inr (.c (.d _))⟩,⟨_,rfl,.inr (.c (.d _))⟩,⟨_,rfl,.inr (.c (.d _))⟩,⟨_,rfl,.inr (.c (.d _))⟩,trivial⟩ ⟨rfl,trivial⟩ rfl rfl ⟨.inr ⟨_,_,_,rfl,by first|(simp;omega)|(simp only [List.length_map];omega)⟩,trivial⟩ rfl rfl rfl trivial ⟨(fun _ _ _ _=>trivial),trivial⟩ rfl rfl rfl rfl) rfl ?_
     refine bY ?_
     have hX:dK (f+1) a m b d=r2:=by
       exact ea (mid:=mid) (s:=s) (e:=e) (d1:=r0) (d2:=r1) (by omega) (by omega) hmid (by unfold er;rw [<-hmid,<-eV (p:=(fun c=>!dA d (mid+m - 1 - c) c)) (i:=s) (j:=u1) (by omega),hi4_3];first|exact if_pos (by omega)|exact if_neg (by omega)) he.symm (by unfold fj;rw [if_pos (by omega)];exact hr0) (by rw [if_pos (by omega)];exact hr1) (by rw [if_pos (by omega)];exact hr2)
     rw [hX] at hr;clear hX
     subst hr
     refine cP aa [0] 1 rfl rfl rfl rfl rfl rfl ?_ ?_
     all_goals first|rfl|(simp [ay];done)|(simp [ay];omega)
    have hc17':=hc17;try simp only [bu,bU] at hc17'
    refine cZ ?_
    have hX:dK (f+1) a m b d=r1:=by
      exact ea (mid:=mid) (s:=s) (e:=e) (d1:=r0) (d2:=r1) (by omega) (by omega) hmid (by unfold er;rw [<-hmid,<-eV (p:=(fun c=>!dA d (mid+m - 1 - c) c)) (i:=s) (j:=u1) (by omega),hi4_3];first|exact if_pos (by omega)|exact if_neg (by omega)) he.symm (by unfold fj;rw [if_pos (by omega)];exact hr0) (by rw [if_pos (by omega)];exact hr1) (by rw [if_neg (by omega)])
    rw [hX] at hr;clear hX
    subst hr
    refine cP aa [0] 1 rfl rfl rfl rfl rfl rfl ?_ ?_
    all_goals first|rfl|(simp [ay];done)|(simp [ay];omega)
   have hc15':=hc15;try simp only [bu,bU] at hc15'
   refine aQ ?_
   refine cx 213 ((decide ((↑mid:Int) < (↑e:Int))) && (decide ((↑e:Int) < (↑b:Int)))) ?_ ?_
   ·
    refine au ?_
    refine ad aa 4 rfl ?_
    refine bI (t:=209) rfl (fun hb18=>?_) (fun hb18=>?_)
    ·
     have hb18':=of_decide_eq_true hb18
     refine ad aa 4 rfl ?_
     refine af ?_
     exact aF.bH 9 rfl rfl (by first|(simp [hb18];done)|(simp_all;done)|(exfalso;simp_all;done)|(simp_all;omega)) rfl
    have hb18':=of_decide_eq_false hb18
    refine ad aa 4 rfl ?_
    refine af ?_
    exact aF.bH 9 rfl rfl (by first|(simp [hb18];done)|(simp_all;done)|(exfalso;simp_all;done)|(simp_all;omega)) rfl
   refine ah rfl (fun hc19=>?_) (fun hc19=>?_)
   ·
    have hc19':=hc19;try simp only [bu,bU] at hc19'
    refine au ?_
    refine ad aa 5 rfl ?_
    obtain ⟨r3,hr3⟩:∃ (r3:List aj),dK f mid e b r0=r3:=⟨_,rfl⟩
    have hlr3:r3.length=r0.length:=by rw [<-hr3];exact eX _ _ _ _ _
    refine aN 1 [0] (dV id id (ih (↑mid:Int) (↑e:Int) (↑b:Int) r0 N mid e b fn bj hp hen (by first|omega|(simp;done)|(simp;omega)) (by first|omega|(simp;done)|(simp;omega)) (by first|omega|(simp;done)|(simp;omega)) (by first|omega|(simp;done)|(simp;omega)) (by first|omega|(simp;done)|(simp;omega)) (by first|omega|(simp;done)|(simp;omega)) (by first|omega|(simp;done)|(simp;omega)) (by first|omega|(simp;done)|(simp;omega)) (by first|omega|(simp;done)|(simp;omega)) r3 hr3) kA rfl rfl ⟨⟨_,rfl,.inl ⟨rfl,rfl⟩⟩,⟨_,rfl,.inr (.c (.d _))⟩,⟨_,rfl,.inr (.c (.d _))⟩,⟨_,rfl,.inr (.c (.d _))⟩,⟨_,rfl,.inr (.c (.d _))⟩,trivial⟩ ⟨rfl,trivial⟩ rfl rfl ⟨.inr ⟨_,_,_,rfl,by first|(simp;omega)|(simp only [List.length_map];omega)⟩,trivial⟩ rfl rfl rfl trivial ⟨(fun _ _ _ _=>trivial),trivial⟩ rfl rfl rfl rfl) rfl ?_
    refine bY ?_
    have hX:dK (f+1) a m b d=r3:=by
      exact ea (mid:=mid) (s:=s) (e:=e) (d1:=r0) (d2:=r0) (by omega) (by omega) hmid (by unfold er;rw [<-hmid,<-eV (p:=(fun c=>!dA d (mid+m - 1 - c) c)) (i:=s) (j:=u1) (by omega),hi4_3];first|exact if_pos (by omega)|exact if_neg (by omega)) he.symm (by unfold fj;rw [if_pos (by omega)];exact hr0) (by rw [if_neg (by omega)]) (by rw [if_pos (by omega)];exact hr3)
    rw [hX] at hr;clear hX
    subst hr
    refine cP aa [0] 1 rfl rfl rfl rfl rfl rfl ?_ ?_
    all_goals first|rfl|(simp [ay];done)|(simp [ay];omega)
   have hc19':=hc19;try simp only [bu,bU] at hc19'
   refine cZ ?_
   have hX:dK (f+1) a m b d=r0:=by
     exact ea (mid:=mid) (s:=s) (e:=e) (d1:=r0) (d2:=r0) (by omega) (by omega) hmid (by unfold er;rw [<-hmid,<-eV (p:=(fun c=>!dA d (mid+m - 1 - c) c)) (i:=s) (j:=u1) (by omega),hi4_3];first|exact if_pos (by omega)|exact if_neg (by omega)) he.symm (by unfold fj;rw [if_pos (by omega)];exact hr0) (by rw [if_neg (by omega)]) (by rw [if_neg (by omega)])
   rw [hX] at hr;clear hX
   subst hr
   refine cP aa [0] 1 rfl rfl rfl rfl rfl rfl ?_ ?_
   all_goals first|rfl|(simp [ay];done)|(simp [ay];omega)
  have hc13':=hc13;try simp only [bu,bU] at hc13'
  refine aQ ?_
  refine ag ?_
  refine cx 199 ((decide ((↑a:Int) < (↑s:Int))) && (decide ((↑s:Int) < (↑mid:Int)))) ?_ ?_
  ·
   refine au ?_
   refine ad aa 4 rfl ?_
   refine bI (t:=195) rfl (fun hb20=>?_) (fun hb20=>?_)
   ·
    have hb20':=of_decide_eq_true hb20
    refine ad aa 4 rfl ?_
    refine af ?_
    exact aF.bH 9 rfl rfl (by first|(simp [hb20];done)|(simp_all;done)|(exfalso;simp_all;done)|(simp_all;omega)) rfl
   have hb20':=of_decide_eq_false hb20
   refine ad aa 4 rfl ?_
   refine af ?_
   exact aF.bH 9 rfl rfl (by first|(simp [hb20];done)|(simp_all;done)|(exfalso;simp_all;done)|(simp_all;omega)) rfl
  refine ah rfl (fun hc21=>?_) (fun hc21=>?_)
  ·
   have hc21':=hc21;try simp only [bu,bU] at hc21'
   refine au ?_
   refine ad aa 5 rfl ?_
   obtain ⟨r4,hr4⟩:∃ (r4:List aj),dK f a s mid d=r4:=⟨_,rfl⟩
   have hlr4:r4.length=d.length:=by rw [<-hr4];exact eX _ _ _ _ _
   refine aN 1 [0] (dV id id (ih (↑a:Int) (↑s:Int) (↑mid:Int) d N a s mid fn bj hp hen (by first|omega|(simp;done)|(simp;omega)) (by first|omega|(simp;done)|(simp;omega)) (by first|omega|(simp;done)|(simp;omega)) (by first|omega|(simp;done)|(simp;omega)) (by first|omega|(simp;done)|(simp;omega)) (by first|omega|(simp;done)|(simp;omega)) (by first|omega|(simp;done)|(simp;omega)) (by first|omega|(simp;done)|(simp;omega)) (by first|omega|(simp;done)|(simp;omega)) r4 hr4) kA rfl rfl ⟨⟨_,rfl,.inl ⟨rfl,rfl⟩⟩,⟨_,rfl,.inr (.c (.d _))⟩,⟨_,rfl,.inr (.c (.d _))⟩,⟨_,rfl,.inr (.c (.d _))⟩,⟨_,rfl,.inr (.c (.d _))⟩,trivial⟩ ⟨rfl,trivial⟩ rfl rfl ⟨.inr ⟨_,_,_,rfl,by first|(simp;omega)|(simp only [List.length_map];omega)⟩,trivial⟩ rfl rfl rfl trivial ⟨(fun _ _ _ _=>trivial),trivial⟩ rfl rfl rfl rfl) rfl ?_
   refine af ?_
   refine cx 213 ((decide ((↑mid:Int) < (↑e:Int))) && (decide ((↑e:Int) < (↑b:Int)))) ?_ ?_
   ·
    refine au ?_
    refine ad aa 4 rfl ?_
    refine bI (t:=209) rfl (fun hb22=>?_) (fun hb22=>?_)
    ·
     have hb22':=of_decide_eq_true hb22
     refine ad aa 4 rfl ?_
     refine af ?_
     exact aF.bH 9 rfl rfl (by first|(simp [hb22];done)|(simp_all;done)|(exfalso;simp_all;done)|(simp_all;omega)) rfl
    have hb22':=of_decide_eq_false hb22
    refine ad aa 4 rfl ?_
    refine af ?_
    exact aF.bH 9 rfl rfl (by first|(simp [hb22];done)|(simp_all;done)|(exfalso;simp_all;done)|(simp_all;omega)) rfl
   refine ah rfl (fun hc23=>?_) (fun hc23=>?_)
   ·
    have hc23':=hc23;try simp only [bu,bU] at hc23'
    refine au ?_
    refine ad aa 5 rfl ?_
    obtain ⟨r5,hr5⟩:∃ (r5:List aj),dK f mid e b r4=r5:=⟨_,rfl⟩
    have hlr5:r5.length=r4.length:=by rw [<-hr5];exact eX _ _ _ _ _
    refine aN 1 [0] (dV id id (ih (↑mid:Int) (↑e:Int) (↑b:Int) r4 N mid e b fn bj hp hen (by first|omega|(simp;done)|(simp;omega)) (by first|omega|(simp;done)|(simp;omega)) (by first|omega|(simp;done)|(simp;omega)) (by first|omega|(simp;done)|(simp;omega)) (by first|omega|(simp;done)|(simp;omega)) (by first|omega|(simp;done)|(simp;omega)) (by first|omega|(simp;done)|(simp;omega)) (by first|omega|(simp;done)|(simp;omega)) (by first|omega|(simp;done)|(simp;omega)) r5 hr5) kA rfl rfl ⟨⟨_,rfl,.inl ⟨rfl,rfl⟩⟩,⟨_,rfl,.inr (.c (.d _))⟩,⟨_,rfl,.inr (.c (.d _))⟩,⟨_,rfl,.inr (.c (.d _))⟩,⟨_,rfl,.inr (.c (.d _))⟩,trivial⟩ ⟨rfl,trivial⟩ rfl rfl ⟨.inr ⟨_,_,_,rfl,by first|(simp;omega)|(simp only [List.length_map];omega)⟩,trivial⟩ rfl rfl rfl trivial ⟨(fun _ _ _ _=>trivial),trivial⟩ rfl rfl rfl rfl) rfl ?_
    refine bY ?_
    have hX:dK (f+1) a m b d=r5:=by
      exact ea (mid:=mid) (s:=s) (e:=e) (d1:=d) (d2:=r4) (by omega) (by omega) hmid (by unfold er;rw [<-hmid,<-eV (p:=(fun c=>!dA d (mid+m - 1 - c) c)) (i:=s) (j:=u1) (by omega),hi4_3];first|exact if_pos (by omega)|exact if_neg (by omega)) he.symm (by unfold fj;rw [if_neg (by omega)]) (by rw [if_pos (by omega)];exact hr4) (by rw [if_pos (by omega)];exact hr5)
    rw [hX] at hr;clear hX
    subst hr
    refine cP aa [0] 1 rfl rfl rfl rfl rfl rfl ?_ ?_
    all_goals first|rfl|(simp [ay];done)|(simp [ay];omega)
   have hc23':=hc23;try simp only [bu,bU] at hc23'
   refine cZ ?_
   have hX:dK (f+1) a m b d=r4:=by
     exact ea (mid:=mid) (s:=s) (e:=e) (d1:=d) (d2:=r4) (by omega) (by omega) hmid (by unfold er;rw [<-hmid,<-eV (p:=(fun c=>!dA d (mid+m - 1 - c) c)) (i:=s) (j:=u1) (by omega),hi4_3];first|exact if_pos (by omega)|exact if_neg (by omega)) he.symm (by unfold fj;rw [if_neg (by omega)]) (by rw [if_pos (by omega)];exact hr4) (by rw [if_neg (by omega)])
   rw [hX] at hr;clear hX
   subst hr
   refine cP aa [0] 1 rfl rfl rfl rfl rfl rfl ?_ ?_
   all_goals first|rfl|(simp [ay];done)|(simp [ay];omega)
  have hc21':=hc21;try simp only [bu,bU] at hc21'
  refine aQ ?_
  refine cx 213 ((decide ((↑mid:Int) < (↑e:Int))) && (decide ((↑e:Int) < (↑b:Int)))) ?_ ?_
  ·
   refine au ?_
   refine ad aa 4 rfl ?_
   refine bI (t:=209) rfl (fun hb24=>?_) (fun hb24=>?_)
   ·
    have hb24':=of_decide_eq_true hb24
    refine ad aa 4 rfl ?_
    refine af ?_
    exact aF.bH 9 rfl rfl (by first|(simp [hb24];done)|(simp_all;done)|(exfalso;simp_all;done)|(simp_all;omega)) rfl
   have hb24':=of_decide_eq_false hb24
   refine ad aa 4 rfl ?_
   refine af ?_
   exact aF.bH 9 rfl rfl (by first|(simp [hb24];done)|(simp_all;done)|(exfalso;simp_all;done)|(simp_all;omega)) rfl
  refine ah rfl (fun hc25=>?_) (fun hc25=>?_)
  ·
   have hc25':=hc25;try simp only [bu,bU] at hc25'
   refine au ?_
   refine ad aa 5 rfl ?_
   obtain ⟨r6,hr6⟩:∃ (r6:List aj),dK f mid e b d=r6:=⟨_,rfl⟩
   have hlr6:r6.length=d.length:=by rw [<-hr6];exact eX _ _ _ _ _
   refine aN 1 [0] (dV id id (ih (↑mid:Int) (↑e:Int) (↑b:Int) d N mid e b fn bj hp hen (by first|omega|(simp;done)|(simp;omega)) (by first|omega|(simp;done)|(simp;omega)) (by first|omega|(simp;done)|(simp;omega)) (by first|omega|(simp;done)|(simp;omega)) (by first|omega|(simp;done)|(simp;omega)) (by first|omega|(simp;done)|(simp;omega)) (by first|omega|(simp;done)|(simp;omega)) (by first|omega|(simp;done)|(simp;omega)) (by first|omega|(simp;done)|(simp;omega)) r6 hr6) kA rfl rfl ⟨⟨_,rfl,.inl ⟨rfl,rfl⟩⟩,⟨_,rfl,.inr (.c (.d _))⟩,⟨_,rfl,.inr (.c (.d _))⟩,⟨_,rfl,.inr (.c (.d _))⟩,⟨_,rfl,.inr (.c (.d _))⟩,trivial⟩ ⟨rfl,trivial⟩ rfl rfl ⟨.inr ⟨_,_,_,rfl,by first|(simp;omega)|(simp only [List.length_map];omega)⟩,trivial⟩ rfl rfl rfl trivial ⟨(fun _ _ _ _=>trivial),trivial⟩ rfl rfl rfl rfl) rfl ?_
   refine bY ?_
   have hX:dK (f+1) a m b d=r6:=by
     exact ea (mid:=mid) (s:=s) (e:=e) (d1:=d) (d2:=d) (by omega) (by omega) hmid (by unfold er;rw [<-hmid,<-eV (p:=(fun c=>!dA d (mid+m - 1 - c) c)) (i:=s) (j:=u1) (by omega),hi4_3];first|exact if_pos (by omega)|exact if_neg (by omega)) he.symm (by unfold fj;rw [if_neg (by omega)]) (by rw [if_neg (by omega)]) (by rw [if_pos (by omega)];exact hr6)
   rw [hX] at hr;clear hX
   subst hr
   refine cP aa [0] 1 rfl rfl rfl rfl rfl rfl ?_ ?_
   all_goals first|rfl|(simp [ay];done)|(simp [ay];omega)
  have hc25':=hc25;try simp only [bu,bU] at hc25'
  refine cZ ?_
  have hX:dK (f+1) a m b d=d:=by
    exact ea (mid:=mid) (s:=s) (e:=e) (d1:=d) (d2:=d) (by omega) (by omega) hmid (by unfold er;rw [<-hmid,<-eV (p:=(fun c=>!dA d (mid+m - 1 - c) c)) (i:=s) (j:=u1) (by omega),hi4_3];first|exact if_pos (by omega)|exact if_neg (by omega)) he.symm (by unfold fj;rw [if_neg (by omega)]) (by rw [if_neg (by omega)]) (by rw [if_neg (by omega)])
  rw [hX] at hr;clear hX
  subst hr
  refine cP aa [0] 1 rfl rfl rfl rfl rfl rfl ?_ ?_
  all_goals first|rfl|(simp [ay];done)|(simp [ay];omega)
 have hc9':=of_decide_eq_false hc9
 refine ae aa 2 rfl ?_
 refine au ?_
 refine ad aa 2 rfl ?_
 refine af ?_
 refine aH aa 1 rfl ?_
 refine aA (aL rfl rfl rfl (aJ (by first|omega|(simp;done)|(simp;omega)))) rfl ?_
 refine ad aa 1 rfl ?_
 refine af ?_
 refine ag ?_
 refine aX ?_
 refine cw (β:=Nat×Nat) (fun (p:Nat×Nat)=>match p with|(s,u1)=>⟨[(0,(aC (.s 0 0 4 N))),(1,(aI (↑a:Int))),(2,(aI (↑m:Int))),(3,(aI (↑b:Int))),(4,(aC (.d (.f fn bj)))),(18,(aI (↑mid:Int))),(19,(aI ((↑mid:Int)+(↑m:Int)))),(20,(aI (↑s:Int))),(21,(aI (↑u1:Int))),(22,(aI (((↑mid:Int)+(↑m:Int)) - 1)))],[(0,(cS d))],1⟩) (fun (p:Nat×Nat)=>match p with|(s,u1)=>a<=s/\s<=u1/\u1<=m/\fY (fun c=>!dA d (mid+m - 1 - c) c) s u1=fY (fun c=>!dA d (mid+m - 1 - c) c) a m) (fun (p:Nat×Nat)=>match p with|(s,u1)=>u1 - s) (a,m) ?_ ?_ ?_
 ·exact ⟨by omega,by omega,by omega,rfl⟩
 ·exact aF.bW id (by refine ⟨?_,?_,?_,?_,?_,?_,?_,?_,?_,?_,trivial⟩<;>first|rfl|(simp only [bm];done)|(congr 3;omega)|(congr 4;omega)|(simp only [bn];rfl)|(exact cz rfl (by omega))) (⟨by first|rfl|(simp only [bm];done)|(congr 3;omega)|(congr 4;omega)|(simp only [bn];rfl),trivial⟩) rfl
 rintro ⟨s,u1⟩ ⟨hi4_0,hi4_1,hi4_2,hi4_3⟩
 refine ag ?_
 refine ae aa 3 rfl ?_
 refine ah rfl (fun hc26=>?_) (fun hc26=>?_)
 ·
  have hc26':=of_decide_eq_true hc26
  refine aQ ?_
  refine aX ?_
  refine aH aa 2 rfl ?_
  refine aA (aL rfl rfl rfl (aJ (by first|omega|(simp;done)|(simp;omega)))) rfl ?_
  refine aA (eI rfl rfl (by rw [Try.underlying3];rfl) Try.underlying128 (kV (by first|omega|(simp;done)|(simp;omega)))) rfl ?_
  refine aA (nE (r:=(↑(((s)+(u1)) / 2):Int)) rfl rfl rfl (by omega)) rfl ?_
  refine aA (eI rfl rfl (by rw [Try.underlying128];rfl) Try.underlying3 (gR (by first|omega|(simp;done)|(simp;omega)))) rfl ?_
  refine ad aa 1 rfl ?_
  refine af ?_
  obtain ⟨c,hc⟩:∃ z:Nat,z=(s+u1) / 2:=⟨_,rfl⟩
  refine js (i:=23) (v:=(aI (↑c:Int))) (cz (ρ:=id) rfl (by omega)) ?_
  refine ag ?_
  obtain ⟨x1,hx1⟩:=ck (xs:=d) (i:=(((mid)+(m)) - 1) - (c)) (by first|omega|(simp;done)|(simp;omega))
  obtain ⟨x2,hx2⟩:=ck (xs:=d) (i:=c) (by first|omega|(simp;done)|(simp;omega))
  refine ba [0,1,2,3,4,18,19,20,21,22,23] [0] mixed rfl rfl ?_
  refine aE (kn:=[]) aa 4 rfl trivial ?_
  refine aU (n':=1) [160,161] [] rfl rfl (.inl ⟨(ak.plain rfl),aM.cast (aL rfl rfl rfl (aJ (by first|omega|(simp;done)|(simp;omega)))) rfl⟩) rfl ?_
  refine aU (n':=1) [159,162] [0] rfl rfl (.inl ⟨(ak.plain rfl),aM.cast (bA (i:=(((mid)+(m)) - 1) - (c)) rfl rfl rfl Try.underlying42 dt (by first|omega|(simp;done)|(simp;omega)) (by first|omega|(simp;done)|(simp;omega))) rfl⟩) rfl ?_
  refine aU (n':=1) [163] [0] rfl rfl (.inl ⟨(ak.plain rfl),aM.cast (dm rfl rfl rfl Try.underlying83 rfl dt (bw hx1) rfl) rfl⟩) rfl ?_
  refine aE (kn:=[]) aa 2 rfl trivial ?_
  refine aU (n':=1) [165,166] [0] rfl rfl (.inl ⟨(ak.plain rfl),aM.cast (bA (i:=c) rfl rfl rfl Try.underlying42 dt (by first|omega|(simp;done)|(simp;omega)) (by first|omega|(simp;done)|(simp;omega))) rfl⟩) rfl ?_
  refine aU (n':=1) [167] [0] rfl rfl (.inl ⟨(ak.plain rfl),aM.cast (dm rfl rfl rfl Try.underlying83 rfl dt (bw hx2) rfl) rfl⟩) rfl ?_
  refine aU (n':=1) [158,164,168] [] rfl rfl (.inl ⟨(ak.plain rfl),aM.cast (gW (ins:=[(.g [(cI x1.aD),(cI x1.bc),(cI x1.kind),(cI x1.sum)]),(.g [(cI x2.aD),(cI x2.bc),(cI x2.kind),(cI x2.sum)])]) 1 (hp x1 x2) hen rfl rfl rfl ⟨⟨_,rfl,.g ⟨.d _,.d _,.d _,.d _,trivial⟩⟩,⟨_,rfl,.g ⟨.d _,.d _,.d _,.d _,trivial⟩⟩,trivial⟩ trivial trivial rfl rfl rfl rfl) rfl⟩) rfl ?_
  refine aE (kn:=[]) aa 2 rfl trivial ?_
  refine bC [0] rfl rfl rfl rfl (by kernel_rfl) ?_
  refine af ?_
  refine ah rfl (fun hc27=>?_) (fun hc27=>?_)
  ·
   have hc27':=hc27;try simp only [bu,bU] at hc27'
   refine au ?_
   refine ad aa 1 rfl ?_
   refine aA (aL rfl rfl rfl (aJ (by first|omega|(simp;done)|(simp;omega)))) rfl ?_
   refine ad aa 1 rfl ?_
   refine bY ?_
   refine bh ?_
   refine then_ok ?_
   refine ⟨(c+1,u1),⟨by omega,by omega,by omega,tb hi4_3 (by omega) hc (by show (!dA _ _ _)=true;rw [gm hx1 hx2,kO (by assumption)];rfl)⟩,by first|omega|(simp;done)|(simp;omega),aF.bW id (by refine ⟨?_,?_,?_,?_,?_,?_,?_,?_,?_,?_,trivial⟩<;>first|rfl|(simp only [bm];done)|(congr 3;omega)|(congr 4;omega)|(simp only [bn];rfl)|(exact cz rfl (by omega))) (⟨by first|rfl|(simp only [bm];done)|(congr 3;omega)|(congr 4;omega)|(simp only [bn];rfl),trivial⟩) rfl⟩
  have hc27':=hc27;try simp only [bu,bU] at hc27'
  refine au ?_
  refine ad aa 2 rfl ?_
  refine bY ?_
  refine bh ?_
  refine then_ok ?_
  refine ⟨(s,c),⟨by omega,by omega,by omega,tc hi4_3 (by omega) hc (by show (!dA _ _ _)=false;rw [gm hx1 hx2,kN.1 (by assumption)];rfl)⟩,by first|omega|(simp;done)|(simp;omega),aF.bW id (by refine ⟨?_,?_,?_,?_,?_,?_,?_,?_,?_,?_,trivial⟩<;>first|rfl|(simp only [bm];done)|(congr 3;omega)|(congr 4;omega)|(simp only [bn];rfl)|(exact cz rfl (by omega))) (⟨by first|rfl|(simp only [bm];done)|(congr 3;omega)|(congr 4;omega)|(simp only [bn];rfl),trivial⟩) rfl⟩
 have hc26':=of_decide_eq_false hc26
 refine cj ?_
 refine aP ?_
 refine aP ?_
 refine bK ?_
 refine then_ok ?_
 refine aH aa 2 rfl ?_
 refine aA (aL rfl rfl rfl (aJ (by first|omega|(simp;done)|(simp;omega)))) rfl ?_
 refine ad aa 1 rfl ?_
 refine af ?_
 refine ag ?_
 obtain ⟨e,he⟩:∃ z:Nat,z=mid+m - s:=⟨_,rfl⟩
 refine js (i:=24) (v:=(aI (↑e:Int))) (cz (ρ:=id) rfl (by omega)) ?_
 refine cx 185 ((decide ((↑s:Int) < (↑m:Int))) && (decide ((↑m:Int) < (↑e:Int)))) ?_ ?_
 ·
  refine au ?_
  refine ad aa 4 rfl ?_
  refine bI (t:=181) rfl (fun hb28=>?_) (fun hb28=>?_)
  ·
   have hb28':=of_decide_eq_true hb28
   refine ad aa 4 rfl ?_
   refine af ?_
   exact aF.bH 9 rfl rfl (by first|(simp [hb28];done)|(simp_all;done)|(exfalso;simp_all;done)|(simp_all;omega)) rfl
  have hb28':=of_decide_eq_false hb28
  refine ad aa 4 rfl ?_
  refine af ?_
  exact aF.bH 9 rfl rfl (by first|(simp [hb28];done)|(simp_all;done)|(exfalso;simp_all;done)|(simp_all;omega)) rfl
 refine ah rfl (fun hc29=>?_) (fun hc29=>?_)
 ·
  have hc29':=hc29;try simp only [bu,bU] at hc29'
  refine au ?_
  refine ad aa 5 rfl ?_
  obtain ⟨r7,hr7⟩:∃ (r7:List aj),jA m (m - s) (e - m) d=r7:=⟨_,rfl⟩
  have hlr7:r7.length=d.length:=by rw [<-hr7];exact ny _ _ _ _ _ (Nat.le_refl _)
  refine aN 1 [0] (dV id id (vi (↑s:Int) (↑m:Int) (↑e:Int) d N s m e fn bj hp hen (by first|omega|(simp;done)|(simp;omega)) (by first|omega|(simp;done)|(simp;omega)) (by first|omega|(simp;done)|(simp;omega)) (by first|omega|(simp;done)|(simp;omega)) (by first|omega|(simp;done)|(simp;omega)) (by first|omega|(simp;done)|(simp;omega)) (by first|omega|(simp;done)|(simp;omega)) (by first|omega|(simp;done)|(simp;omega)) r7 hr7) GF rfl rfl ⟨⟨_,rfl,.inl ⟨rfl,rfl⟩⟩,⟨_,rfl,.inr (.c (.d _))⟩,⟨_,rfl,.inr (.c (.d _))⟩,⟨_,rfl,.inr (.c (.d _))⟩,⟨_,rfl,.inr (.c (.d _))⟩,trivial⟩ ⟨rfl,trivial⟩ rfl rfl ⟨.inr ⟨_,_,_,rfl,by first|(simp;omega)|(simp only [List.length_map];omega)⟩,trivial⟩ rfl rfl rfl trivial ⟨(fun _ _ _ _=>trivial),trivial⟩ rfl rfl rfl rfl) rfl ?_
  refine af ?_
  refine ag ?_
  refine cx 199 ((decide ((↑a:Int) < (↑s:Int))) && (decide ((↑s:Int) < (↑mid:Int)))) ?_ ?_
  ·
   refine au ?_
   refine ad aa 4 rfl ?_
   refine bI (t:=195) rfl (fun hb30=>?_) (fun hb30=>?_)
   ·
    have hb30':=of_decide_eq_true hb30
    refine ad aa 4 rfl ?_
    refine af ?_
    exact aF.bH 9 rfl rfl (by first|(simp [hb30];done)|(simp_all;done)|(exfalso;simp_all;done)|(simp_all;omega)) rfl
   have hb30':=of_decide_eq_false hb30
   refine ad aa 4 rfl ?_
   refine af ?_
   exact aF.bH 9 rfl rfl (by first|(simp [hb30];done)|(simp_all;done)|(exfalso;simp_all;done)|(simp_all;omega)) rfl
  refine ah rfl (fun hc31=>?_) (fun hc31=>?_)
  ·
   have hc31':=hc31;try simp only [bu,bU] at hc31'
   refine au ?_
   refine ad aa 5 rfl ?_
   obtain ⟨r8,hr8⟩:∃ (r8:List aj),dK f a s mid r7=r8:=⟨_,rfl⟩
   have hlr8:r8.length=r7.length:=by rw [<-hr8];exact eX _ _ _ _ _
   refine aN 1 [0] (dV id id (ih (↑a:Int) (↑s:Int) (↑mid:Int) r7 N a s mid fn bj hp hen (by first|omega|(simp;done)|(simp;omega)) (by first|omega|(simp;done)|(simp;omega)) (by first|omega|(simp;done)|(simp;omega)) (by first|omega|(simp;done)|(simp;omega)) (by first|omega|(simp;done)|(simp;omega)) (by first|omega|(simp;done)|(simp;omega)) (by first|omega|(simp;done)|(simp;omega)) (by first|omega|(simp;done)|(simp;omega)) (by first|omega|(simp;done)|(simp;omega)) r8 hr8) kA rfl rfl ⟨⟨_,rfl,.inl ⟨rfl,rfl⟩⟩,⟨_,rfl,.inr (.c (.d _))⟩,⟨_,rfl,.inr (.c (.d _))⟩,⟨_,rfl,.inr (.c (.d _))⟩,⟨_,rfl,.inr (.c (.d _))⟩,trivial⟩ ⟨rfl,trivial⟩ rfl rfl ⟨.inr ⟨_,_,_,rfl,by first|(simp;omega)|(simp only [List.length_map];omega)⟩,trivial⟩ rfl rfl rfl trivial ⟨(fun _ _ _ _=>trivial),trivial⟩ rfl rfl rfl rfl) rfl ?_
   refine af ?_
   refine cx 213 ((decide ((↑mid:Int) < (↑e:Int))) && (decide ((↑e:Int) < (↑b:Int)))) ?_ ?_
   ·
    refine au ?_
    refine ad aa 4 rfl ?_
    refine bI (t:=209) rfl (fun hb32=>?_) (fun hb32=>?_)
    ·
     have hb32':=of_decide_eq_true hb32
     refine ad aa 4 rfl ?_
     refine af ?_
     exact aF.bH 9 rfl rfl (by first|(simp [hb32];done)|(simp_all;done)|(exfalso;simp_all;done)|(simp_all;omega)) rfl
    have hb32':=of_decide_eq_false hb32
    refine ad aa 4 rfl ?_
    refine af ?_
    exact aF.bH 9 rfl rfl (by first|(simp [hb32];done)|(simp_all;done)|(exfalso;simp_all;done)|(simp_all;omega)) rfl
   refine ah rfl (fun hc33=>?_) (fun hc33=>?_)
   ·
    have hc33':=hc33;try simp only [bu,bU] at hc33'
    refine au ?_
    refine ad aa 5 rfl ?_
    obtain ⟨r9,hr9⟩:∃ (r9:List aj),dK f mid e b r8=r9:=⟨_,rfl⟩
    have hlr9:r9.length=r8.length:=by rw [<-hr9];exact eX _ _ _ _ _
    refine aN 1 [0] (dV id id (ih (↑mid:Int) (↑e:Int) (↑b:Int) r8 N mid e b fn bj hp hen (by first|omega|(simp;done)|(simp;omega)) (by first|omega|(simp;done)|(simp;omega)) (by first|omega|(simp;done)|(simp;omega)) (by first|omega|(simp;done)|(simp;omega)) (by first|omega|(simp;done)|(simp;omega)) (by first|omega|(simp;done)|(simp;omega)) (by first|omega|(simp;done)|(simp;omega)) (by first|omega|(simp;done)|(simp;omega)) (by first|omega|(simp;done)|(simp;omega)) r9 hr9) kA rfl rfl ⟨⟨_,rfl,.inl ⟨rfl,rfl⟩⟩,⟨_,rfl,.inr (.c (.d _))⟩,⟨_,rfl,.inr (.c (.d _))⟩,⟨_,rfl,.inr (.c (.d _))⟩,⟨_,rfl,.inr (.c (.d _))⟩,trivial⟩ ⟨rfl,trivial⟩ rfl rfl ⟨.inr ⟨_,_,_,rfl,by first|(simp;omega)|(simp only [List.length_map];omega)⟩,trivial⟩ rfl rfl rfl trivial ⟨(fun _ _ _ _=>trivial),trivial⟩ rfl rfl rfl rfl) rfl ?_
    refine bY ?_
    have hX:dK (f+1) a m b d=r9:=by
      exact ea (mid:=mid) (s:=s) (e:=e) (d1:=r7) (d2:=r8) (by omega) (by omega) hmid (by unfold er;rw [<-hmid,<-eV (p:=(fun c=>!dA d (mid+m - 1 - c) c)) (i:=s) (j:=u1) (by omega),hi4_3];first|exact if_pos (by omega)|exact if_neg (by omega)) he.symm (by unfold fj;rw [if_pos (by omega)];exact hr7) (by rw [if_pos (by omega)];exact hr8) (by rw [if_pos (by omega)];exact hr9)
    rw [hX] at hr;clear hX
    subst hr
    refine cP aa [0] 1 rfl rfl rfl rfl rfl rfl ?_ ?_
    all_goals first|rfl|(simp [ay];done)|(simp [ay];omega)
   have hc33':=hc33;try simp only [bu,bU] at hc33'
   refine cZ ?_
   have hX:dK (f+1) a m b d=r8:=by
     exact ea (mid:=mid) (s:=s) (e:=e) (d1:=r7) (d2:=r8) (by omega) (by omega) hmid (by unfold er;rw [<-hmid,<-eV (p:=(fun c=>!dA d (mid+m - 1 - c) c)) (i:=s) (j:=u1) (by omega),hi4_3];first|exact if_pos (by omega)|exact if_neg (by omega)) he.symm (by unfold fj;rw [if_pos (by omega)];exact hr7) (by rw [if_pos (by omega)];exact hr8) (by rw [if_neg (by omega)])
   rw [hX] at hr;clear hX
   subst hr
   refine cP aa [0] 1 rfl rfl rfl rfl rfl rfl ?_ ?_
   all_goals first|rfl|(simp [ay];done)|(simp [ay];omega)
  have hc31':=hc31;try simp only [bu,bU] at hc31'
  refine aQ ?_
  refine cx 213 ((decide ((↑mid:Int) < (↑e:Int))) && (decide ((↑e:Int) < (↑b:Int)))) ?_ ?_
  ·
   refine au ?_
   refine ad aa 4 rfl ?_
   refine bI (t:=209) rfl (fun hb34=>?_) (fun hb34=>?_)
   ·
    have hb34':=of_decide_eq_true hb34
    refine ad aa 4 rfl ?_
    refine af ?_
    exact aF.bH 9 rfl rfl (by first|(simp [hb34];done)|(simp_all;done)|(exfalso;simp_all;done)|(simp_all;omega)) rfl
   have hb34':=of_decide_eq_false hb34
   refine ad aa 4 rfl ?_
   refine af ?_
   exact aF.bH 9 rfl rfl (by first|(simp [hb34];done)|(simp_all;done)|(exfalso;simp_all;done)|(simp_all;omega)) rfl
  refine ah rfl (fun hc35=>?_) (fun hc35=>?_)
  ·
   have hc35':=hc35;try simp only [bu,bU] at hc35'
   refine au ?_
   refine ad aa 5 rfl ?_
   obtain ⟨r10,hr10⟩:∃ (r10:List aj),dK f mid e b r7=r10:=⟨_,rfl⟩
   have hlr10:r10.length=r7.length:=by rw [<-hr10];exact eX _ _ _ _ _
   refine aN 1 [0] (dV id id (ih (↑mid:Int) (↑e:Int) (↑b:Int) r7 N mid e b fn bj hp hen (by first|omega|(simp;done)|(simp;omega)) (by first|omega|(simp;done)|(simp;omega)) (by first|omega|(simp;done)|(simp;omega)) (by first|omega|(simp;done)|(simp;omega)) (by first|omega|(simp;done)|(simp;omega)) (by first|omega|(simp;done)|(simp;omega)) (by first|omega|(simp;done)|(simp;omega)) (by first|omega|(simp;done)|(simp;omega)) (by first|omega|(simp;done)|(simp;omega)) r10 hr10) kA rfl rfl ⟨⟨_,rfl,.inl ⟨rfl,rfl⟩⟩,⟨_,rfl,.inr (.c (.d _))⟩,⟨_,rfl,.inr (.c (.d _))⟩,⟨_,rfl,.inr (.c (.d _))⟩,⟨_,rfl,.inr (.c (.d _))⟩,trivial⟩ ⟨rfl,trivial⟩ rfl rfl ⟨.inr ⟨_,_,_,rfl,by first|(simp;omega)|(simp only [List.length_map];omega)⟩,trivial⟩ rfl rfl rfl trivial ⟨(fun _ _ _ _=>trivial),trivial⟩ rfl rfl rfl rfl) rfl ?_
   refine bY ?_
   have hX:dK (f+1) a m b d=r10:=by
     exact ea (mid:=mid) (s:=s) (e:=e) (d1:=r7) (d2:=r7) (by omega) (by omega) hmid (by unfold er;rw [<-hmid,<-eV (p:=(fun c=>!dA d (mid+m - 1 - c) c)) (i:=s) (j:=u1) (by omega),hi4_3];first|exact if_pos (by omega)|exact if_neg (by omega)) he.symm (by unfold fj;rw [if_pos (by omega)];exact hr7) (by rw [if_neg (by omega)]) (by rw [if_pos (by omega)];exact hr10)
   rw [hX] at hr;clear hX
   subst hr
   refine cP aa [0] 1 rfl rfl rfl rfl rfl rfl ?_ ?_
   all_goals first|rfl|(simp [ay];done)|(simp [ay];omega)
  have hc35':=hc35;try simp only [bu,bU] at hc35'
  refine cZ ?_
  have hX:dK (f+1) a m b d=r7:=by
    exact ea (mid:=mid) (s:=s) (e:=e) (d1:=r7) (d2:=r7) (by omega) (by omega) hmid (by unfold er;rw [<-hmid,<-eV (p:=(fun c=>!dA d (mid+m - 1 - c) c)) (i:=s) (j:=u1) (by omega),hi4_3];first|exact if_pos (by omega)|exact if_neg (by omega)) he.symm (by unfold fj;rw [if_pos (by omega)];exact hr7) (by rw [if_neg (by omega)]) (by rw [if_neg (by omega)])
  rw [hX] at hr;clear hX
  subst hr
  refine cP aa [0] 1 rfl rfl rfl rfl rfl rfl ?_ ?_
  all_goals first|rfl|(simp [ay];done)|(simp [ay];omega)
 have hc29':=hc29;try simp only [bu,bU] at hc29'
 refine aQ ?_
 refine ag ?_
 refine cx 199 ((decide ((↑a:Int) < (↑s:Int))) && (decide ((↑s:Int) < (↑mid:Int)))) ?_ ?_
 ·
  refine au ?_
  refine ad aa 4 rfl ?_
  refine bI (t:=195) rfl (fun hb36=>?_) (fun hb36=>?_)
  ·
   have hb36':=of_decide_eq_true hb36
   refine ad aa 4 rfl ?_
   refine af ?_
   exact aF.bH 9 rfl rfl (by first|(simp [hb36];done)|(simp_all;done)|(exfalso;simp_all;done)|(simp_all;omega)) rfl
  have hb36':=of_decide_eq_false hb36
  refine ad aa 4 rfl ?_
  refine af ?_
  exact aF.bH 9 rfl rfl (by first|(simp [hb36];done)|(simp_all;done)|(exfalso;simp_all;done)|(simp_all;omega)) rfl
 refine ah rfl (fun hc37=>?_) (fun hc37=>?_)
 ·
  have hc37':=hc37;try simp only [bu,bU] at hc37'
  refine au ?_
  refine ad aa 5 rfl ?_
  obtain ⟨r11,hr11⟩:∃ (r11:List aj),dK f a s mid d=r11:=⟨_,rfl⟩
  have hlr11:r11.length=d.length:=by rw [<-hr11];exact eX _ _ _ _ _
  refine aN 1 [0] (dV id id (ih (↑a:Int) (↑s:Int) (↑mid:Int) d N a s mid fn bj hp hen (by first|omega|(simp;done)|(simp;omega)) (by first|omega|(simp;done)|(simp;omega)) (by first|omega|(simp;done)|(simp;omega)) (by first|omega|(simp;done)|(simp;omega)) (by first|omega|(simp;done)|(simp;omega)) (by first|omega|(simp;done)|(simp;omega)) (by first|omega|(simp;done)|(simp;omega)) (by first|omega|(simp;done)|(simp;omega)) (by first|omega|(simp;done)|(simp;omega)) r11 hr11) kA rfl rfl ⟨⟨_,rfl,.inl ⟨rfl,rfl⟩⟩,⟨_,rfl,.inr (.c (.d _))⟩,⟨_,rfl,.inr (.c (.d _))⟩,⟨_,rfl,.inr (.c (.d _))⟩,⟨_,rfl,.inr (.c (.d _))⟩,trivial⟩ ⟨rfl,trivial⟩ rfl rfl ⟨.inr ⟨_,_,_,rfl,by first|(simp;omega)|(simp only [List.length_map];omega)⟩,trivial⟩ rfl rfl rfl trivial ⟨(fun _ _ _ _=>trivial),trivial⟩ rfl rfl rfl rfl) rfl ?_
  refine af ?_
  refine cx 213 ((decide ((↑mid:Int) < (↑e:Int))) && (decide ((↑e:Int) < (↑b:Int)))) ?_ ?_
  ·
   refine au ?_
   refine ad aa 4 rfl ?_
   refine bI (t:=209) rfl (fun hb38=>?_) (fun hb38=>?_)
   ·
    have hb38':=of_decide_eq_true hb38
    refine ad aa 4 rfl ?_
    refine af ?_
    exact aF.bH 9 rfl rfl (by first|(simp [hb38];done)|(simp_all;done)|(exfalso;simp_all;done)|(simp_all;omega)) rfl
   have hb38':=of_decide_eq_false hb38
   refine ad aa 4 rfl ?_
   refine af ?_
   exact aF.bH 9 rfl rfl (by first|(simp [hb38];done)|(simp_all;done)|(exfalso;simp_all;done)|(simp_all;omega)) rfl
  refine ah rfl (fun hc39=>?_) (fun hc39=>?_)
  ·
   have hc39':=hc39;try simp only [bu,bU] at hc39'
   refine au ?_
   refine ad aa 5 rfl ?_
   obtain ⟨r12,hr12⟩:∃ (r12:List aj),dK f mid e b r11=r12:=⟨_,rfl⟩
   have hlr12:r12.length=r11.length:=by rw [<-hr12];exact eX _ _ _ _ _
   refine aN 1 [0] (dV id id (ih (↑mid:Int) (↑e:Int) (↑b:Int) r11 N mid e b fn bj hp hen (by first|omega|(simp;done)|(simp;omega)) (by first|omega|(simp;done)|(simp;omega)) (by first|omega|(simp;done)|(simp;omega)) (by first|omega|(simp;done)|(simp;omega)) (by first|omega|(simp;done)|(simp;omega)) (by first|omega|(simp;done)|(simp;omega)) (by first|omega|(simp;done)|(simp;omega)) (by first|omega|(simp;done)|(simp;omega)) (by first|omega|(simp;done)|(simp;omega)) r12 hr12) kA rfl rfl ⟨⟨_,rfl,.inl ⟨rfl,rfl⟩⟩,⟨_,rfl,.inr (.c (.d _))⟩,⟨_,rfl,.inr (.c (.d _))⟩,⟨_,rfl,.inr (.c (.d _))⟩,⟨_,rfl,.inr (.c (.d _))⟩,trivial⟩ ⟨rfl,trivial⟩ rfl rfl ⟨.inr ⟨_,_,_,rfl,by first|(simp;omega)|(simp only [List.length_map];omega)⟩,trivial⟩ rfl rfl rfl trivial ⟨(fun _ _ _ _=>trivial),trivial⟩ rfl rfl rfl rfl) rfl ?_
   refine bY ?_
   have hX:dK (f+1) a m b d=r12:=by
     exact ea (mid:=mid) (s:=s) (e:=e) (d1:=d) (d2:=r11) (by omega) (by omega) hmid (by unfold er;rw [<-hmid,<-eV (p:=(fun c=>!dA d (mid+m - 1 - c) c)) (i:=s) (j:=u1) (by omega),hi4_3];first|exact if_pos (by omega)|exact if_neg (by omega)) he.symm (by unfold fj;rw [if_neg (by omega)]) (by rw [if_pos (by omega)];exact hr11) (by rw [if_pos (by omega)];exact hr12)
   rw [hX] at hr;clear hX
   subst hr
   refine cP aa [0] 1 rfl rfl rfl rfl rfl rfl ?_ ?_
   all_goals first|rfl|(simp [ay];done)|(simp [ay];omega)
  have hc39':=hc39;try simp only [bu,bU] at hc39'
  refine cZ ?_
  have hX:dK (f+1) a m b d=r11:=by
    exact ea (mid:=mid) (s:=s) (e:=e) (d1:=d) (d2:=r11) (by omega) (by omega) hmid (by unfold er;rw [<-hmid,<-eV (p:=(fun c=>!dA d (mid+m - 1 - c) c)) (i:=s) (j:=u1) (by omega),hi4_3];first|exact if_pos (by omega)|exact if_neg (by omega)) he.symm (by unfold fj;rw [if_neg (by omega)]) (by rw [if_pos (by omega)];exact hr11) (by rw [if_neg (by omega)])
  rw [hX] at hr;clear hX
  subst hr
  refine cP aa [0] 1 rfl rfl rfl rfl rfl rfl ?_ ?_
  all_goals first|rfl|(simp [ay];done)|(simp [ay];omega)
 have hc37':=hc37;try simp only [bu,bU] at hc37'
 refine aQ ?_
 refine cx 213 ((decide ((↑mid:Int) < (↑e:Int))) && (decide ((↑e:Int) < (↑b:Int)))) ?_ ?_
 ·
  refine au ?_
  refine ad aa 4 rfl ?_
  refine bI (t:=209) rfl (fun hb40=>?_) (fun hb40=>?_)
  ·
   have hb40':=of_decide_eq_true hb40
   refine ad aa 4 rfl ?_
   refine af ?_
   exact aF.bH 9 rfl rfl (by first|(simp [hb40];done)|(simp_all;done)|(exfalso;simp_all;done)|(simp_all;omega)) rfl
  have hb40':=of_decide_eq_false hb40
  refine ad aa 4 rfl ?_
  refine af ?_
  exact aF.bH 9 rfl rfl (by first|(simp [hb40];done)|(simp_all;done)|(exfalso;simp_all;done)|(simp_all;omega)) rfl
 refine ah rfl (fun hc41=>?_) (fun hc41=>?_)
 ·
  have hc41':=hc41;try simp only [bu,bU] at hc41'
  refine au ?_
  refine ad aa 5 rfl ?_
  obtain ⟨r13,hr13⟩:∃ (r13:List aj),dK f mid e b d=r13:=⟨_,rfl⟩
  have hlr13:r13.length=d.length:=by rw [<-hr13];exact eX _ _ _ _ _
  refine aN 1 [0] (dV id id (ih (↑mid:Int) (↑e:Int) (↑b:Int) d N mid e b fn bj hp hen (by first|omega|(simp;done)|(simp;omega)) (by first|omega|(simp;done)|(simp;omega)) (by first|omega|(simp;done)|(simp;omega)) (by first|omega|(simp;done)|(simp;omega)) (by first|omega|(simp;done)|(simp;omega)) (by first|omega|(simp;done)|(simp;omega)) (by first|omega|(simp;done)|(simp;omega)) (by first|omega|(simp;done)|(simp;omega)) (by first|omega|(simp;done)|(simp;omega)) r13 hr13) kA rfl rfl ⟨⟨_,rfl,.inl ⟨rfl,rfl⟩⟩,⟨_,rfl,.inr (.c (.d _))⟩,⟨_,rfl,.inr (.c (.d _))⟩,⟨_,rfl,.inr (.c (.d _))⟩,⟨_,rfl,.inr (.c (.d _))⟩,trivial⟩ ⟨rfl,trivial⟩ rfl rfl ⟨.inr ⟨_,_,_,rfl,by first|(simp;omega)|(simp only [List.length_map];omega)⟩,trivial⟩ rfl rfl rfl trivial ⟨(fun _ _ _ _=>trivial),trivial⟩ rfl rfl rfl rfl) rfl ?_
  refine bY ?_
  have hX:dK (f+1) a m b d=r13:=by
    exact ea (mid:=mid) (s:=s) (e:=e) (d1:=d) (d2:=d) (by omega) (by omega) hmid (by unfold er;rw [<-hmid,<-eV (p:=(fun c=>!dA d (mid+m - 1 - c) c)) (i:=s) (j:=u1) (by omega),hi4_3];first|exact if_pos (by omega)|exact if_neg (by omega)) he.symm (by unfold fj;rw [if_neg (by omega)]) (by rw [if_neg (by omega)]) (by rw [if_pos (by omega)];exact hr13)
  rw [hX] at hr;clear hX
  subst hr
  refine cP aa [0] 1 rfl rfl rfl rfl rfl rfl ?_ ?_
  all_goals first|rfl|(simp [ay];done)|(simp [ay];omega)
 have hc41':=hc41;try simp only [bu,bU] at hc41'
 refine cZ ?_
 have hX:dK (f+1) a m b d=d:=by
   exact ea (mid:=mid) (s:=s) (e:=e) (d1:=d) (d2:=d) (by omega) (by omega) hmid (by unfold er;rw [<-hmid,<-eV (p:=(fun c=>!dA d (mid+m - 1 - c) c)) (i:=s) (j:=u1) (by omega),hi4_3];first|exact if_pos (by omega)|exact if_neg (by omega)) he.symm (by unfold fj;rw [if_neg (by omega)]) (by rw [if_neg (by omega)]) (by rw [if_neg (by omega)])
 rw [hX] at hr;clear hX
 subst hr
 refine cP aa [0] 1 rfl rfl rfl rfl rfl rfl ?_ ?_
 all_goals first|rfl|(simp [ay];done)|(simp [ay];omega)
theorem Ah:∀ (f:Nat) (ai mi bi:Int) (d:List aj) (N a m b:Nat) (fn:FuncId) (bj:List (List D)) (hp:∀ x y:aj,Fn Try.prog fn ([.g [cI x.aD,cI x.bc,cI x.kind,cI x.sum],.g [cI y.aD,cI y.bc,cI y.kind,cI y.sum]]++bj.map fun r=>GV.c (.q r 0)) (aI (ik x y)) []) (hen:bl Try.prog fn) (ea_:ai=(↑a:Int)) (em_:mi=(↑m:Int)) (eb_:bi=(↑b:Int)) (hl:d.length * 32<=140737488355328) (hN:N=d.length) (h0_:a < m) (h1_:m < b) (h2_:b<=d.length) (h3_:b - a<=f) (r:List aj) (hr:dK f a m b d=r),cJ Try.prog 73 [(.c (.s 0 0 4 N)),(.c (cI ai)),(.c (cI mi)),(.c (cI bi)),(.c (.d (.f fn bj)))] [(0,(cS d))] [0] (.t []) [(0,(cS r))]:=by
  intro f
  induction f with
  |zero=>intro ai mi bi d N a m b fn bj hp hen ea_ em_ eb_ hl hN h0_ h1_ h2_ h3_;exfalso;omega
  |succ f ih=>
    intro ai mi bi d N a m b fn bj hp hen ea_ em_ eb_ hl hN h0_ h1_ h2_ h3_ r hr
    subst ea_ em_ eb_
    exact Ag f ih d N a m b fn bj hp hen hl hN h0_ h1_ h2_ h3_ r hr
theorem BV (ai mi bi:Int) (d:List aj) (N a m b:Nat) (fn:FuncId) (bj:List (List D)) (hp:∀ x y:aj,Fn Try.prog fn ([.g [cI x.aD,cI x.bc,cI x.kind,cI x.sum],.g [cI y.aD,cI y.bc,cI y.kind,cI y.sum]]++bj.map fun r=>GV.c (.q r 0)) (aI (ik x y)) []) (hen:bl Try.prog fn) (ea_:ai=(↑a:Int)) (em_:mi=(↑m:Int)) (eb_:bi=(↑b:Int)) (hl:d.length * 32<=140737488355328) (hN:N=d.length) (h0_:a < m) (h1_:m < b) (h2_:b<=d.length) (r:List aj) (hr:dK (b - a) a m b d=r):cJ Try.prog 73 [(.c (.s 0 0 4 N)),(.c (cI ai)),(.c (cI mi)),(.c (cI bi)),(.c (.d (.f fn bj)))] [(0,(cS d))] [0] (.t []) [(0,(cS r))]:=Ah (b - a) ai mi bi d N a m b fn bj hp hen ea_ em_ eb_ hl hN h0_ h1_ h2_ (Nat.le_refl _) r hr

theorem yh (d:List aj) (N a b:Nat) (fn:FuncId) (bj:List (List D)) (hp:∀ x y:aj,Fn Try.prog fn ([.g [cI x.aD,cI x.bc,cI x.kind,cI x.sum],.g [cI y.aD,cI y.bc,cI y.kind,cI y.sum]]++bj.map fun r=>GV.c (.q r 0)) (aI (ik x y)) []) (hen:bl Try.prog fn) (hl:d.length * 32<=140737488355328) (hN:N=d.length) (h0_:a<=b) (h1_:b<=d.length) (r:List aj) (hr:jH a (b - (a+1)) d=r):cJ Try.prog 72 [(.c (.s 0 0 4 N)),(.c (cI (↑a:Int))),(.c (cI (↑b:Int))),(.c (.d (.f fn bj)))] [(0,(cS d))] [0] (.t []) [(0,(cS r))]:=by
 refine cJ.mk 53 [(0,(aC (.s 0 0 4 N))),(1,(aI (↑a:Int))),(2,(aI (↑b:Int))),(3,(aC (.d (.f fn bj))))] 1 Try.func72 rfl rfl rfl rfl rfl rfl rfl rfl rfl ?_
 intro W0 F0 T0 pg
 refine gn 0 rfl (fun hlen0=>?_)
 refine aH aa 1 rfl ?_
 refine aA (aL rfl rfl rfl (aJ (by first|omega|(simp;done)|(simp;omega)))) rfl ?_
 refine ad aa 1 rfl ?_
 refine af ?_
 refine aX ?_
 refine cw (β:=Nat×List aj) (fun (p:Nat×List aj)=>match p with|(i,d1)=>⟨[(0,(aC (.s 0 0 4 N))),(1,(aI (↑a:Int))),(2,(aI (↑b:Int))),(3,(aC (.d (.f fn bj)))),(8,(aI (↑i:Int)))],[(0,(cS d1))],1⟩) (fun (p:Nat×List aj)=>match p with|(i,d1)=>a+1<=i/\(i<=b\/i=a+1)/\d1=jH a (i - (a+1)) d/\d1.length=d.length) (fun (p:Nat×List aj)=>match p with|(i,d1)=>b - i) (a+1,d) ?_ ?_ ?_
 ·exact ⟨by omega,by omega,by rw [Nat.sub_self];rfl,rfl⟩
 ·exact aF.bW id (by refine ⟨?_,?_,?_,?_,?_,trivial⟩<;>first|rfl|(simp only [bm];done)|(congr 3;omega)|(congr 4;omega)|(simp only [bn];rfl)|(exact cz rfl (by omega))) (⟨by first|rfl|(simp only [bm];done)|(congr 3;omega)|(congr 4;omega)|(simp only [bn];rfl),trivial⟩) rfl
 rintro ⟨i,d1⟩ ⟨hi0_0,hi0_1,hi0_2,hi0_3⟩
 refine ag ?_
 refine ae aa 3 rfl ?_
 refine ah rfl (fun hc1=>?_) (fun hc1=>?_)
 ·
  have hc1':=of_decide_eq_true hc1
  refine aQ ?_
  refine ag ?_
  refine aX ?_
  refine ae aa 2 rfl ?_
  refine aX ?_
  refine cw (β:=Nat×List aj) (fun (p:Nat×List aj)=>match p with|(j,d2)=>⟨[(0,(aC (.s 0 0 4 N))),(1,(aI (↑a:Int))),(2,(aI (↑b:Int))),(3,(aC (.d (.f fn bj)))),(8,(aI (↑i:Int))),(9,(aI (↑j:Int)))],[(0,(cS d2))],1⟩) (fun (p:Nat×List aj)=>match p with|(j,d2)=>a<=j/\j<=i/\jS a j d2=jS a i d1/\d2.length=d.length) (fun (p:Nat×List aj)=>match p with|(j,d2)=>j) (i,d1) ?_ ?_ ?_
  ·exact ⟨by omega,by omega,rfl,by omega⟩
  ·exact aF.bW id (by refine ⟨?_,?_,?_,?_,?_,?_,trivial⟩<;>first|rfl|(simp only [bm];done)|(congr 3;omega)|(congr 4;omega)|(simp only [bn];rfl)|(exact cz rfl (by omega))) (⟨by first|rfl|(simp only [bm];done)|(congr 3;omega)|(congr 4;omega)|(simp only [bn];rfl),trivial⟩) rfl
  rintro ⟨j,d2⟩ ⟨hi1_0,hi1_1,hi1_2,hi1_3⟩
  refine ag ?_
  refine ag ?_
  rcases Bool.eq_false_or_eq_true (decide ((↑j:Int) > (↑a:Int))) with hb2|hb2
  ·
   have hb2':=of_decide_eq_true hb2
   obtain ⟨x1,hx1⟩:=ck (xs:=d2) (i:=j) (by first|omega|(simp;done)|(simp;omega))
   obtain ⟨x2,hx2⟩:=ck (xs:=d2) (i:=(j) - 1) (by first|omega|(simp;done)|(simp;omega))
   refine ba [0,1,2,3,8,9] [0] mixed rfl rfl ?_
   refine aE (kn:=[(20,true)]) aa 7 rfl ⟨hb2,trivial⟩ ?_
   refine aU (n':=1) [23,24,21] [0] rfl rfl (.inl ⟨(ak.yes rfl rfl rfl),aM.cast (bA (i:=j) rfl rfl rfl Try.underlying42 dt (by first|omega|(simp;done)|(simp;omega)) (by first|omega|(simp;done)|(simp;omega))) rfl⟩) rfl ?_
   refine aU (n':=1) [25,21] [0] rfl rfl (.inl ⟨(ak.yes rfl rfl rfl),aM.cast (dm rfl rfl rfl Try.underlying83 rfl dt (bw hx1) rfl) rfl⟩) rfl ?_
   refine aE (kn:=[]) aa 2 rfl trivial ?_
   refine aU (n':=1) [28,21] [] rfl rfl (.inl ⟨(ak.yes rfl rfl rfl),aM.cast (aL rfl rfl rfl (aJ (by first|omega|(simp;done)|(simp;omega)))) rfl⟩) rfl ?_
   refine aU (n':=1) [27,29,21] [0] rfl rfl (.inl ⟨(ak.yes rfl rfl rfl),aM.cast (bA (i:=(j) - 1) rfl rfl rfl Try.underlying42 dt (by first|omega|(simp;done)|(simp;omega)) (by first|omega|(simp;done)|(simp;omega))) rfl⟩) rfl ?_
   refine aU (n':=1) [30,21] [0] rfl rfl (.inl ⟨(ak.yes rfl rfl rfl),aM.cast (dm rfl rfl rfl Try.underlying83 rfl dt (bw hx2) rfl) rfl⟩) rfl ?_
   refine aU (n':=1) [22,26,31,21] [] rfl rfl (.inl ⟨(ak.yes rfl rfl rfl),aM.cast (gW (ins:=[(.g [(cI x1.aD),(cI x1.bc),(cI x1.kind),(cI x1.sum)]),(.g [(cI x2.aD),(cI x2.bc),(cI x2.kind),(cI x2.sum)])]) 1 (hp x1 x2) hen rfl rfl rfl ⟨⟨_,rfl,.g ⟨.d _,.d _,.d _,.d _,trivial⟩⟩,⟨_,rfl,.g ⟨.d _,.d _,.d _,.d _,trivial⟩⟩,trivial⟩ trivial trivial rfl rfl rfl rfl) rfl⟩) rfl ?_
   refine aE (kn:=[]) aa 2 rfl trivial ?_
   refine bC [0] rfl rfl rfl rfl (by kernel_rfl) ?_
   refine af ?_
   refine ah rfl (fun hc3=>?_) (fun hc3=>?_)
   ·
    have hc3':=of_decide_eq_true hc3
    refine aQ ?_
    refine ag ?_
    refine aX ?_
    obtain ⟨x3,hx3⟩:=ck (xs:=((d2).set j x2)) (i:=(j) - 1) (by first|omega|(simp;done)|(simp;omega))
    refine dg [0,1,2,3,8,9] [0] mixed rfl rfl ?_
    refine ca (kn:=[]) aa 4 rfl trivial ?_
    refine cg (n':=1) [40] [] rfl rfl (.inl ⟨(ak.plain rfl),aM.cast (aL rfl rfl rfl (aJ (by first|omega|(simp;done)|(simp;omega)))) rfl⟩) rfl ?_
    refine ca (kn:=[]) aa 2 rfl trivial ?_
    refine cg (n':=1) [43] [] rfl rfl (.inl ⟨(ak.plain rfl),aM.cast (aL rfl rfl rfl (aJ (by first|omega|(simp;done)|(simp;omega)))) rfl⟩) rfl ?_
    refine cg (n':=1) [42,44] [0] rfl rfl (.inl ⟨(ak.plain rfl),aM.cast (bA (i:=(j) - 1) rfl rfl rfl Try.underlying42 dt (by first|omega|(simp;done)|(simp;omega)) (by first|omega|(simp;done)|(simp;omega))) rfl⟩) rfl ?_
    refine cg (n':=1) [45] [0] rfl rfl (.inl ⟨(ak.plain rfl),aM.cast (dm rfl rfl rfl Try.underlying83 rfl dt (bw hx2) rfl) rfl⟩) rfl ?_
    refine ca (kn:=[]) aa 2 rfl trivial ?_
    refine cg (n':=1) [47,48] [0] rfl rfl (.inl ⟨(ak.plain rfl),aM.cast (bA (i:=j) rfl rfl rfl Try.underlying42 dt (by first|omega|(simp;done)|(simp;omega)) (by first|omega|(simp;done)|(simp;omega))) rfl⟩) rfl ?_
    refine cg (n':=1) [49] [0] rfl rfl (.inl ⟨(ak.plain rfl),aM.cast (dm rfl rfl rfl Try.underlying83 rfl dt (bw hx1) rfl) rfl⟩) rfl ?_
    refine cg (n':=1) [37,38] [0] rfl rfl (.inl ⟨(ak.plain rfl),aM.cast (bA (i:=j) rfl rfl rfl Try.underlying42 dt (by first|omega|(simp;done)|(simp;omega)) (by first|omega|(simp;done)|(simp;omega))) rfl⟩) rfl ?_
    refine cg (n':=1) [51,46] [0] rfl rfl (.inl ⟨(ak.plain rfl),aM.cast (dU (ds:=[(dI x2.aD),(dI x2.bc),(dI x2.kind),(dI x2.sum)]) rfl rfl rfl rfl rfl dt rfl (Nat.le_of_ble_eq_true rfl) (bw hx1) rfl (eZ (x':=x2) rfl)) rfl⟩) rfl ?_
    refine cg (n':=1) [39,41] [0] rfl rfl (.inl ⟨(ak.plain rfl),aM.cast (bA (i:=(j) - 1) rfl rfl rfl Try.underlying42 dt (by first|omega|(simp;done)|(simp;omega)) (by first|omega|(simp;done)|(simp;omega))) rfl⟩) rfl ?_
    refine cg (n':=1) [52,50] [0] rfl rfl (.inl ⟨(ak.plain rfl),aM.cast (dU (ds:=[(dI x1.aD),(dI x1.bc),(dI x1.kind),(dI x1.sum)]) rfl rfl rfl rfl rfl dt rfl (Nat.le_of_ble_eq_true rfl) (bw hx3) rfl (eZ (x':=x1) rfl)) rfl⟩) rfl ?_
    refine dX [0,1,2,3,8,9] [0] rfl rfl (by kernel_rfl) ?_
    refine bh ?_
    refine then_ok ?_
    refine au ?_
    refine ad aa 1 rfl ?_
    refine aA (aL rfl rfl rfl (aJ (by first|omega|(simp;done)|(simp;omega)))) rfl ?_
    refine ad aa 1 rfl ?_
    refine af ?_
    refine ⟨(j - 1,((d2).set j x2).set ((j) - 1) x1),⟨by omega,by omega,by rw [<-hi1_2,yS (by omega) hx1 hx2 (kN.1 (by assumption)),mj hx1 hx2],by simp only [List.length_set];exact hi1_3⟩,by first|omega|(simp;done)|(simp;omega),aF.bW id (by refine ⟨?_,?_,?_,?_,?_,?_,trivial⟩<;>first|rfl|(simp only [bm];done)|(congr 3;omega)|(congr 4;omega)|(simp only [bn];rfl)|(exact cz rfl (by omega))) (⟨by first|rfl|(simp only [bm];done)|(congr 3;omega)|(congr 4;omega)|(simp only [bn];rfl),trivial⟩) rfl⟩
   have hc3':=of_decide_eq_false hc3
   refine cj ?_
   refine aP ?_
   refine aP ?_
   refine bK ?_
   refine bh ?_
   refine then_ok ?_
   refine au ?_
   refine ad aa 1 rfl ?_
   refine aA (aL rfl rfl rfl (aJ (by first|omega|(simp;done)|(simp;omega)))) rfl ?_
   refine ad aa 1 rfl ?_
   refine af ?_
   refine ⟨(i+1,d2),⟨by omega,by omega,by rw [uT hi0_0,<-hi0_2,<-hi1_2];first|exact (rC (by omega)).symm|exact (pF hx1 hx2 (kO (by assumption))).symm,by omega⟩,by first|omega|(simp;done)|(simp;omega),aF.bW id (by refine ⟨?_,?_,?_,?_,?_,trivial⟩<;>first|rfl|(simp only [bm];done)|(congr 3;omega)|(congr 4;omega)|(simp only [bn];rfl)|(exact cz rfl (by omega))) (⟨by first|rfl|(simp only [bm];done)|(congr 3;omega)|(congr 4;omega)|(simp only [bn];rfl),trivial⟩) rfl⟩
  have hb2':=of_decide_eq_false hb2
  refine ba [0,1,2,3,8,9] [0] mixed rfl rfl ?_
  refine aE (kn:=[(20,false)]) aa 17 rfl ⟨hb2,trivial⟩ ?_
  refine bC [0] rfl rfl rfl rfl (by kernel_rfl) ?_
  refine af ?_
  refine ah rfl (fun hno=>by cases hno) (fun _=>?_)
  refine cj ?_
  refine aP ?_
  refine aP ?_
  refine bK ?_
  refine bh ?_
  refine then_ok ?_
  refine au ?_
  refine ad aa 1 rfl ?_
  refine aA (aL rfl rfl rfl (aJ (by first|omega|(simp;done)|(simp;omega)))) rfl ?_
  refine ad aa 1 rfl ?_
  refine af ?_
  refine ⟨(i+1,d2),⟨by omega,by omega,by rw [uT hi0_0,<-hi0_2,<-hi1_2];first|exact (rC (by omega)).symm|exact (pF hx1 hx2 (kO (by assumption))).symm,by omega⟩,by first|omega|(simp;done)|(simp;omega),aF.bW id (by refine ⟨?_,?_,?_,?_,?_,trivial⟩<;>first|rfl|(simp only [bm];done)|(congr 3;omega)|(congr 4;omega)|(simp only [bn];rfl)|(exact cz rfl (by omega))) (⟨by first|rfl|(simp only [bm];done)|(congr 3;omega)|(congr 4;omega)|(simp only [bn];rfl),trivial⟩) rfl⟩
 have hc1':=of_decide_eq_false hc1
 refine cj ?_
 refine aP ?_
 refine aP ?_
 refine bK ?_
 have hX:jH a (b - (a+1)) d=d1:=by
   rw [hi0_2];congr 1;omega
 rw [hX] at hr;clear hX
 subst hr
 refine cP aa [0] 1 rfl rfl rfl rfl rfl rfl ?_ ?_
 all_goals first|rfl|(simp [ay];done)|(simp [ay];omega)
theorem pR (ai bi:Int) (d:List aj) (N a b:Nat) (fn:FuncId) (bj:List (List D)) (hp:∀ x y:aj,Fn Try.prog fn ([.g [cI x.aD,cI x.bc,cI x.kind,cI x.sum],.g [cI y.aD,cI y.bc,cI y.kind,cI y.sum]]++bj.map fun r=>GV.c (.q r 0)) (aI (ik x y)) []) (hen:bl Try.prog fn) (ea_:ai=(↑a:Int)) (eb_:bi=(↑b:Int)) (hl:d.length * 32<=140737488355328) (hN:N=d.length) (h0_:a<=b) (h1_:b<=d.length) (r:List aj) (hr:jH a (b - (a+1)) d=r):cJ Try.prog 72 [(.c (.s 0 0 4 N)),(.c (cI ai)),(.c (cI bi)),(.c (.d (.f fn bj)))] [(0,(cS d))] [0] (.t []) [(0,(cS r))]:=by
  subst ea_ eb_
  exact yh d N a b fn bj hp hen hl hN h0_ h1_ r hr
end Go.Proofs.Ytegepioggeggaaa.Dev
