/- A part of the proof: Sort5, Sort4, Sort6. No condition. -/
import Derived.Test.YtegepioggeggaaaD09
set_option linter.unusedVariables false
set_option linter.unusedSimpArgs false
set_option maxHeartbeats 4000000
set_option maxRecDepth 100000
namespace Go.Proofs.Ytegepioggeggaaa.Dev
open Go.RowKit

theorem zo (f:Nat) (ih:∀ (ai mi bi:Int) (d:List ah) (N a m b:Nat) (fn:FuncId) (bg:List (List D)) (hp:∀ x y:ah,Fn Try.prog fn ([.g [cI x.aE,cI x.ba,cI x.kind,cI x.sum],.g [cI y.aE,cI y.ba,cI y.kind,cI y.sum]]++bg.map fun r=>GV.c (.q r 0)) (aI (ic x y)) []) (hen:bl Try.prog fn) (ea_:ai=(↑a:Int)) (em_:mi=(↑m:Int)) (eb_:bi=(↑b:Int)) (hl:d.length * 32<=140737488355328) (hN:N=d.length) (h0_:a < m) (h1_:m < b) (h2_:b<=d.length) (h3_:b - a<=f) (r:List ah) (hr:dH f a m b d=r),cJ Try.prog 73 [(.c (.s 0 0 4 N)),(.c (cI ai)),(.c (cI mi)),(.c (cI bi)),(.c (.d (.f fn bg)))] [(0,(cM d))] [0] (.t []) [(0,(cM r))]) (d:List ah) (N a m b:Nat) (fn:FuncId) (bg:List (List D)) (hp:∀ x y:ah,Fn Try.prog fn ([.g [cI x.aE,cI x.ba,cI x.kind,cI x.sum],.g [cI y.aE,cI y.ba,cI y.kind,cI y.sum]]++bg.map fun r=>GV.c (.q r 0)) (aI (ic x y)) []) (hen:bl Try.prog fn) (hl:d.length * 32<=140737488355328) (hN:N=d.length) (h0_:a < m) (h1_:m < b) (h2_:b<=d.length) (h3_:b - a<=f+1) (r:List ah) (hr:dH (f+1) a m b d=r):cJ Try.prog 73 [(.c (.s 0 0 4 N)),(.c (cI (↑a:Int))),(.c (cI (↑m:Int))),(.c (cI (↑b:Int))),(.c (.d (.f fn bg)))] [(0,(cM d))] [0] (.t []) [(0,(cM r))]:=by
 refine cJ.mk 220 [(0,(aC (.s 0 0 4 N))),(1,(aI (↑a:Int))),(2,(aI (↑m:Int))),(3,(aI (↑b:Int))),(4,(aC (.d (.f fn bg))))] 1 Try.func73 rfl rfl rfl rfl rfl rfl rfl rfl rfl ?_
 intro W0 F0 T0 pg
 refine gJ 0 rfl (fun hlen0=>?_)
 refine ag ?_
 refine aF aa 2 rfl ?_
 refine aA (aM rfl rfl rfl (aL (by first|omega|(simp;done)|(simp;omega)))) rfl ?_
 refine ad aa 1 rfl ?_
 refine af ?_
 refine aj rfl (fun hc1=>?_) (fun hc1=>?_)
 ·
  have hc1':=of_decide_eq_true hc1
  refine ae aa 2 rfl ?_
  refine ae aa 2 rfl ?_
  refine ag ?_
  refine aY ?_
  refine cE (β:=Nat×Nat) (fun (p:Nat×Nat)=>match p with|(i,j)=>⟨[(0,(aC (.s 0 0 4 N))),(1,(aI (↑a:Int))),(2,(aI (↑m:Int))),(3,(aI (↑b:Int))),(4,(aC (.d (.f fn bg)))),(10,(aI (↑i:Int))),(11,(aI (↑j:Int)))],[(0,(cM d))],1⟩) (fun (p:Nat×Nat)=>match p with|(i,j)=>m<=i/\i<=j/\j<=b/\fY (fun h=>dC d h a) i j=fY (fun h=>dC d h a) m b) (fun (p:Nat×Nat)=>match p with|(i,j)=>j - i) (m,b) ?_ ?_ ?_
  ·exact ⟨by omega,by omega,by omega,rfl⟩
  ·exact aH.ca id (by refine ⟨?_,?_,?_,?_,?_,?_,?_,trivial⟩<;>first|rfl|(simp only [bu];done)|(congr 3;omega)|(congr 4;omega)|(simp only [bw];rfl)|(exact cK rfl (by omega))) (⟨by first|rfl|(simp only [bu];done)|(congr 3;omega)|(congr 4;omega)|(simp only [bw];rfl),trivial⟩) rfl
  rintro ⟨i,j⟩ ⟨hi0_0,hi0_1,hi0_2,hi0_3⟩
  refine ag ?_
  refine ae aa 3 rfl ?_
  refine aj rfl (fun hc2=>?_) (fun hc2=>?_)
  ·
   have hc2':=of_decide_eq_true hc2
   refine aS ?_
   refine aY ?_
   refine aF aa 2 rfl ?_
   refine aA (aM rfl rfl rfl (aL (by first|omega|(simp;done)|(simp;omega)))) rfl ?_
   refine aA (eE rfl rfl (by rw [Try.underlying3];rfl) Try.underlying128 (kJ (by first|omega|(simp;done)|(simp;omega)))) rfl ?_
   refine aA (mX (r:=(↑(((i)+(j)) / 2):Int)) rfl rfl rfl (by omega)) rfl ?_
   refine aA (eE rfl rfl (by rw [Try.underlying128];rfl) Try.underlying3 (gR (by first|omega|(simp;done)|(simp;omega)))) rfl ?_
   refine ad aa 1 rfl ?_
   refine af ?_
   obtain ⟨h,hh⟩:∃ z:Nat,z=(i+j) / 2:=⟨_,rfl⟩
   refine jd (i:=12) (v:=(aI (↑h:Int))) (cK (ρ:=id) rfl (by omega)) ?_
   refine ag ?_
   obtain ⟨x1,hx1⟩:=cf (xs:=d) (i:=h) (by first|omega|(simp;done)|(simp;omega))
   obtain ⟨x2,hx2⟩:=cf (xs:=d) (i:=a) (by first|omega|(simp;done)|(simp;omega))
   refine aX [0,1,2,3,4,10,11,12] [0] mixed rfl rfl ?_
   refine aD (kn:=[]) aa 3 rfl trivial ?_
   refine aT (n':=1) [41,42] [0] rfl rfl (.inl ⟨(ak.plain rfl),aK.cast (bz (i:=h) rfl rfl rfl Try.underlying42 dn (by first|omega|(simp;done)|(simp;omega)) (by first|omega|(simp;done)|(simp;omega))) rfl⟩) rfl ?_
   refine aT (n':=1) [43] [0] rfl rfl (.inl ⟨(ak.plain rfl),aK.cast (dm rfl rfl rfl Try.underlying83 rfl dn (bp hx1) rfl) rfl⟩) rfl ?_
   refine aD (kn:=[]) aa 2 rfl trivial ?_
   refine aT (n':=1) [45,46] [0] rfl rfl (.inl ⟨(ak.plain rfl),aK.cast (bz (i:=a) rfl rfl rfl Try.underlying42 dn (by first|omega|(simp;done)|(simp;omega)) (by first|omega|(simp;done)|(simp;omega))) rfl⟩) rfl ?_
   refine aT (n':=1) [47] [0] rfl rfl (.inl ⟨(ak.plain rfl),aK.cast (dm rfl rfl rfl Try.underlying83 rfl dn (bp hx2) rfl) rfl⟩) rfl ?_
   refine aT (n':=1) [40,44,48] [] rfl rfl (.inl ⟨(ak.plain rfl),aK.cast (gZ (ins:=[(.g [(cI x1.aE),(cI x1.ba),(cI x1.kind),(cI x1.sum)]),(.g [(cI x2.aE),(cI x2.ba),(cI x2.kind),(cI x2.sum)])]) 1 (hp x1 x2) hen rfl rfl rfl ⟨⟨_,rfl,.g ⟨.d _,.d _,.d _,.d _,trivial⟩⟩,⟨_,rfl,.g ⟨.d _,.d _,.d _,.d _,trivial⟩⟩,trivial⟩ trivial trivial rfl rfl rfl rfl) rfl⟩) rfl ?_
   refine aD (kn:=[]) aa 1 rfl trivial ?_
   refine bA [0] rfl rfl rfl rfl (by kernel_rfl) ?_
   refine af ?_
   refine aj rfl (fun hc3=>?_) (fun hc3=>?_)
   ·
    have hc3':=of_decide_eq_true hc3
    refine ax ?_
    refine ad aa 1 rfl ?_
    refine aA (aM rfl rfl rfl (aL (by first|omega|(simp;done)|(simp;omega)))) rfl ?_
    refine ad aa 1 rfl ?_
    refine bZ ?_
    refine bm ?_
    refine then_ok ?_
    refine ⟨(h+1,j),⟨by omega,by omega,by omega,su hi0_3 (by omega) hh (by show dC _ _ _=true;rw [gi hx1 hx2,kB.1 (by assumption)])⟩,by first|omega|(simp;done)|(simp;omega),aH.ca id (by refine ⟨?_,?_,?_,?_,?_,?_,?_,trivial⟩<;>first|rfl|(simp only [bu];done)|(congr 3;omega)|(congr 4;omega)|(simp only [bw];rfl)|(exact cK rfl (by omega))) (⟨by first|rfl|(simp only [bu];done)|(congr 3;omega)|(congr 4;omega)|(simp only [bw];rfl),trivial⟩) rfl⟩
   have hc3':=of_decide_eq_false hc3
   refine ax ?_
   refine ad aa 2 rfl ?_
   refine bZ ?_
   refine bm ?_
   refine then_ok ?_
   refine ⟨(i,h),⟨by omega,by omega,by omega,sw hi0_3 (by omega) hh (by show dC _ _ _=false;rw [gi hx1 hx2,kC (by assumption)])⟩,by first|omega|(simp;done)|(simp;omega),aH.ca id (by refine ⟨?_,?_,?_,?_,?_,?_,?_,trivial⟩<;>first|rfl|(simp only [bu];done)|(congr 3;omega)|(congr 4;omega)|(simp only [bw];rfl)|(exact cK rfl (by omega))) (⟨by first|rfl|(simp only [bu];done)|(congr 3;omega)|(congr 4;omega)|(simp only [bw];rfl),trivial⟩) rfl⟩
  have hc2':=of_decide_eq_false hc2
  refine cv ?_
  refine aU ?_
  refine aU ?_
  refine bS ?_
  refine then_ok ?_
  refine ag ?_
  refine ae aa 2 rfl ?_
  refine aY ?_
  refine cE (β:=Nat×List ah) (fun (p:Nat×List ah)=>match p with|(k,d1)=>⟨[(0,(aC (.s 0 0 4 N))),(1,(aI (↑a:Int))),(2,(aI (↑m:Int))),(3,(aI (↑b:Int))),(4,(aC (.d (.f fn bg)))),(10,(aI (↑i:Int))),(11,(aI (↑j:Int))),(13,(aI (↑k:Int)))],[(0,(cM d1))],1⟩) (fun (p:Nat×List ah)=>match p with|(k,d1)=>a<=k/\k+1<=i/\d1=nV a (k - a) d/\d1.length=d.length) (fun (p:Nat×List ah)=>match p with|(k,d1)=>i - k) (a,d) ?_ ?_ ?_
  ·exact ⟨by omega,by omega,by rw [Nat.sub_self];rfl,rfl⟩
  ·exact aH.ca id (by refine ⟨?_,?_,?_,?_,?_,?_,?_,?_,trivial⟩<;>first|rfl|(simp only [bu];done)|(congr 3;omega)|(congr 4;omega)|(simp only [bw];rfl)|(exact cK rfl (by omega))) (⟨by first|rfl|(simp only [bu];done)|(congr 3;omega)|(congr 4;omega)|(simp only [bw];rfl),trivial⟩) rfl
  rintro ⟨k,d1⟩ ⟨hi1_0,hi1_1,hi1_2,hi1_3⟩
  refine ag ?_
  refine aF aa 2 rfl ?_
  refine aA (aM rfl rfl rfl (aL (by first|omega|(simp;done)|(simp;omega)))) rfl ?_
  refine ad aa 1 rfl ?_
  refine af ?_
  refine aj rfl (fun hc4=>?_) (fun hc4=>?_)
  ·
   have hc4':=of_decide_eq_true hc4
   refine aS ?_
   refine ag ?_
   refine aY ?_
   obtain ⟨x1,hx1⟩:=cf (xs:=d1) (i:=(k)+1) (by first|omega|(simp;done)|(simp;omega))
   obtain ⟨x2,hx2⟩:=cf (xs:=d1) (i:=k) (by first|omega|(simp;done)|(simp;omega))
   obtain ⟨x3,hx3⟩:=cf (xs:=((d1).set k x1)) (i:=(k)+1) (by first|omega|(simp;done)|(simp;omega))
   refine df [0,1,2,3,4,10,11,13] [0] mixed rfl rfl ?_
   refine bT (kn:=[]) aa 4 rfl trivial ?_
   refine bW (n':=1) [64] [] rfl rfl (.inl ⟨(ak.plain rfl),aK.cast (aM rfl rfl rfl (aL (by first|omega|(simp;done)|(simp;omega)))) rfl⟩) rfl ?_
   refine bT (kn:=[]) aa 2 rfl trivial ?_
   refine bW (n':=1) [67] [] rfl rfl (.inl ⟨(ak.plain rfl),aK.cast (aM rfl rfl rfl (aL (by first|omega|(simp;done)|(simp;omega)))) rfl⟩) rfl ?_
   refine bW (n':=1) [66,68] [0] rfl rfl (.inl ⟨(ak.plain rfl),aK.cast (bz (i:=(k)+1) rfl rfl rfl Try.underlying42 dn (by first|omega|(simp;done)|(simp;omega)) (by first|omega|(simp;done)|(simp;omega))) rfl⟩) rfl ?_
   refine bW (n':=1) [69] [0] rfl rfl (.inl ⟨(ak.plain rfl),aK.cast (dm rfl rfl rfl Try.underlying83 rfl dn (bp hx1) rfl) rfl⟩) rfl ?_
   refine bT (kn:=[]) aa 2 rfl trivial ?_
   refine bW (n':=1) [71,72] [0] rfl rfl (.inl ⟨(ak.plain rfl),aK.cast (bz (i:=k) rfl rfl rfl Try.underlying42 dn (by first|omega|(simp;done)|(simp;omega)) (by first|omega|(simp;done)|(simp;omega))) rfl⟩) rfl ?_
   refine bW (n':=1) [73] [0] rfl rfl (.inl ⟨(ak.plain rfl),aK.cast (dm rfl rfl rfl Try.underlying83 rfl dn (bp hx2) rfl) rfl⟩) rfl ?_
   refine bW (n':=1) [61,62] [0] rfl rfl (.inl ⟨(ak.plain rfl),aK.cast (bz (i:=k) rfl rfl rfl Try.underlying42 dn (by first|omega|(simp;done)|(simp;omega)) (by first|omega|(simp;done)|(simp;omega))) rfl⟩) rfl ?_
   refine bW (n':=1) [75,70] [0] rfl rfl (.inl ⟨(ak.plain rfl),aK.cast (dR (ds:=[(dI x1.aE),(dI x1.ba),(dI x1.kind),(dI x1.sum)]) rfl rfl rfl rfl rfl dn rfl (Nat.le_of_ble_eq_true rfl) (bp hx2) rfl (eX (x':=x1) rfl)) rfl⟩) rfl ?_
   refine bW (n':=1) [63,65] [0] rfl rfl (.inl ⟨(ak.plain rfl),aK.cast (bz (i:=(k)+1) rfl rfl rfl Try.underlying42 dn (by first|omega|(simp;done)|(simp;omega)) (by first|omega|(simp;done)|(simp;omega))) rfl⟩) rfl ?_
   refine bW (n':=1) [76,74] [0] rfl rfl (.inl ⟨(ak.plain rfl),aK.cast (dR (ds:=[(dI x2.aE),(dI x2.ba),(dI x2.kind),(dI x2.sum)]) rfl rfl rfl rfl rfl dn rfl (Nat.le_of_ble_eq_true rfl) (bp hx3) rfl (eX (x':=x2) rfl)) rfl⟩) rfl ?_
   refine dU [0,1,2,3,4,10,11,13] [0] rfl rfl (by kernel_rfl) ?_
   refine bm ?_
   refine then_ok ?_
   refine ax ?_
   refine ad aa 1 rfl ?_
   refine aA (aM rfl rfl rfl (aL (by first|omega|(simp;done)|(simp;omega)))) rfl ?_
   refine ad aa 1 rfl ?_
   refine af ?_
   refine ⟨(k+1,((d1).set k x1).set ((k)+1) x2),⟨by omega,by omega,by rw [Ck hi1_0,<-hi1_2];exact (lT hx2 hx1).symm,by simp only [List.length_set];exact hi1_3⟩,by first|omega|(simp;done)|(simp;omega),aH.ca id (by refine ⟨?_,?_,?_,?_,?_,?_,?_,?_,trivial⟩<;>first|rfl|(simp only [bu];done)|(congr 3;omega)|(congr 4;omega)|(simp only [bw];rfl)|(exact cK rfl (by omega))) (⟨by first|rfl|(simp only [bu];done)|(congr 3;omega)|(congr 4;omega)|(simp only [bw];rfl),trivial⟩) rfl⟩
  have hc4':=of_decide_eq_false hc4
  refine cv ?_
  refine aU ?_
  refine aU ?_
  refine bS ?_
  refine then_ok ?_
  refine az ?_
  refine an ?_
  have hX:dH (f+1) a m b d=d1:=by
    rw [dH.eq_2,if_pos (by omega),<-hi0_3,eT (by omega),hi1_2]
    exact congrArg (fun z=>nV a z d) (by omega)
  rw [hX] at hr;clear hX
  subst hr
  refine al aa [0] 1 rfl rfl rfl rfl rfl rfl ?_ ?_
  all_goals first|rfl|(simp [aw];done)|(simp [aw];omega)
 have hc1':=of_decide_eq_false hc1
 refine aS ?_
 refine ag ?_
 refine aF aa 2 rfl ?_
 refine aA (aM rfl rfl rfl (aL (by first|omega|(simp;done)|(simp;omega)))) rfl ?_
 refine ad aa 1 rfl ?_
 refine af ?_
 refine aj rfl (fun hc5=>?_) (fun hc5=>?_)
 ·
  have hc5':=of_decide_eq_true hc5
  refine ae aa 2 rfl ?_
  refine ae aa 2 rfl ?_
  refine ag ?_
  refine aY ?_
  refine cE (β:=Nat×Nat) (fun (p:Nat×Nat)=>match p with|(i2,j2)=>⟨[(0,(aC (.s 0 0 4 N))),(1,(aI (↑a:Int))),(2,(aI (↑m:Int))),(3,(aI (↑b:Int))),(4,(aC (.d (.f fn bg)))),(14,(aI (↑i2:Int))),(15,(aI (↑j2:Int)))],[(0,(cM d))],1⟩) (fun (p:Nat×Nat)=>match p with|(i2,j2)=>a<=i2/\i2<=j2/\j2<=m/\fY (fun h=>!dC d m h) i2 j2=fY (fun h=>!dC d m h) a m) (fun (p:Nat×Nat)=>match p with|(i2,j2)=>j2 - i2) (a,m) ?_ ?_ ?_
  ·exact ⟨by omega,by omega,by omega,rfl⟩
  ·exact aH.ca id (by refine ⟨?_,?_,?_,?_,?_,?_,?_,trivial⟩<;>first|rfl|(simp only [bu];done)|(congr 3;omega)|(congr 4;omega)|(simp only [bw];rfl)|(exact cK rfl (by omega))) (⟨by first|rfl|(simp only [bu];done)|(congr 3;omega)|(congr 4;omega)|(simp only [bw];rfl),trivial⟩) rfl
  rintro ⟨i2,j2⟩ ⟨hi2_0,hi2_1,hi2_2,hi2_3⟩
  refine ag ?_
  refine ae aa 3 rfl ?_
  refine aj rfl (fun hc6=>?_) (fun hc6=>?_)
  ·
   have hc6':=of_decide_eq_true hc6
   refine aS ?_
   refine aY ?_
   refine aF aa 2 rfl ?_
   refine aA (aM rfl rfl rfl (aL (by first|omega|(simp;done)|(simp;omega)))) rfl ?_
   refine aA (eE rfl rfl (by rw [Try.underlying3];rfl) Try.underlying128 (kJ (by first|omega|(simp;done)|(simp;omega)))) rfl ?_
   refine aA (mX (r:=(↑(((i2)+(j2)) / 2):Int)) rfl rfl rfl (by omega)) rfl ?_
   refine aA (eE rfl rfl (by rw [Try.underlying128];rfl) Try.underlying3 (gR (by first|omega|(simp;done)|(simp;omega)))) rfl ?_
   refine ad aa 1 rfl ?_
   refine af ?_
   obtain ⟨h2,hh2⟩:∃ z:Nat,z=(i2+j2) / 2:=⟨_,rfl⟩
   refine jd (i:=16) (v:=(aI (↑h2:Int))) (cK (ρ:=id) rfl (by omega)) ?_
   refine ag ?_
   obtain ⟨x1,hx1⟩:=cf (xs:=d) (i:=m) (by first|omega|(simp;done)|(simp;omega))
   obtain ⟨x2,hx2⟩:=cf (xs:=d) (i:=h2) (by first|omega|(simp;done)|(simp;omega))
   refine aX [0,1,2,3,4,14,15,16] [0] mixed rfl rfl ?_
   refine aD (kn:=[]) aa 3 rfl trivial ?_
   refine aT (n':=1) [93,94] [0] rfl rfl (.inl ⟨(ak.plain rfl),aK.cast (bz (i:=m) rfl rfl rfl Try.underlying42 dn (by first|omega|(simp;done)|(simp;omega)) (by first|omega|(simp;done)|(simp;omega))) rfl⟩) rfl ?_
   refine aT (n':=1) [95] [0] rfl rfl (.inl ⟨(ak.plain rfl),aK.cast (dm rfl rfl rfl Try.underlying83 rfl dn (bp hx1) rfl) rfl⟩) rfl ?_
   refine aD (kn:=[]) aa 2 rfl trivial ?_
   refine aT (n':=1) [97,98] [0] rfl rfl (.inl ⟨(ak.plain rfl),aK.cast (bz (i:=h2) rfl rfl rfl Try.underlying42 dn (by first|omega|(simp;done)|(simp;omega)) (by first|omega|(simp;done)|(simp;omega))) rfl⟩) rfl ?_
   refine aT (n':=1) [99] [0] rfl rfl (.inl ⟨(ak.plain rfl),aK.cast (dm rfl rfl rfl Try.underlying83 rfl dn (bp hx2) rfl) rfl⟩) rfl ?_
   refine aT (n':=1) [92,96,100] [] rfl rfl (.inl ⟨(ak.plain rfl),aK.cast (gZ (ins:=[(.g [(cI x1.aE),(cI x1.ba),(cI x1.kind),(cI x1.sum)]),(.g [(cI x2.aE),(cI x2.ba),(cI x2.kind),(cI x2.sum)])]) 1 (hp x1 x2) hen rfl rfl rfl ⟨⟨_,rfl,.g ⟨.d _,.d _,.d _,.d _,trivial⟩⟩,⟨_,rfl,.g ⟨.d _,.d _,.d _,.d _,trivial⟩⟩,trivial⟩ trivial trivial rfl rfl rfl rfl) rfl⟩) rfl ?_
   refine aD (kn:=[]) aa 2 rfl trivial ?_
   refine bA [0] rfl rfl rfl rfl (by kernel_rfl) ?_
   refine af ?_
   refine aj rfl (fun hc7=>?_) (fun hc7=>?_)
   ·
    have hc7':=hc7;try simp only [br,bR] at hc7'
    refine ax ?_
    refine ad aa 1 rfl ?_
    refine aA (aM rfl rfl rfl (aL (by first|omega|(simp;done)|(simp;omega)))) rfl ?_
    refine ad aa 1 rfl ?_
    refine bZ ?_
    refine bm ?_
    refine then_ok ?_
    refine ⟨(h2+1,j2),⟨by omega,by omega,by omega,su hi2_3 (by omega) hh2 (by show (!dC _ _ _)=true;rw [gi hx1 hx2,kC (by assumption)];rfl)⟩,by first|omega|(simp;done)|(simp;omega),aH.ca id (by refine ⟨?_,?_,?_,?_,?_,?_,?_,trivial⟩<;>first|rfl|(simp only [bu];done)|(congr 3;omega)|(congr 4;omega)|(simp only [bw];rfl)|(exact cK rfl (by omega))) (⟨by first|rfl|(simp only [bu];done)|(congr 3;omega)|(congr 4;omega)|(simp only [bw];rfl),trivial⟩) rfl⟩
   have hc7':=hc7;try simp only [br,bR] at hc7'
   refine ax ?_
   refine ad aa 2 rfl ?_
   refine bZ ?_
   refine bm ?_
   refine then_ok ?_
   refine ⟨(i2,h2),⟨by omega,by omega,by omega,sw hi2_3 (by omega) hh2 (by show (!dC _ _ _)=false;rw [gi hx1 hx2,kB.1 (by assumption)];rfl)⟩,by first|omega|(simp;done)|(simp;omega),aH.ca id (by refine ⟨?_,?_,?_,?_,?_,?_,?_,trivial⟩<;>first|rfl|(simp only [bu];done)|(congr 3;omega)|(congr 4;omega)|(simp only [bw];rfl)|(exact cK rfl (by omega))) (⟨by first|rfl|(simp only [bu];done)|(congr 3;omega)|(congr 4;omega)|(simp only [bw];rfl),trivial⟩) rfl⟩
  have hc6':=of_decide_eq_false hc6
  refine cv ?_
  refine aU ?_
  refine aU ?_
  refine bS ?_
  refine then_ok ?_
  refine ag ?_
  refine ae aa 2 rfl ?_
  refine aY ?_
  refine cE (β:=Nat×List ah) (fun (p:Nat×List ah)=>match p with|(k,d1)=>⟨[(0,(aC (.s 0 0 4 N))),(1,(aI (↑a:Int))),(2,(aI (↑m:Int))),(3,(aI (↑b:Int))),(4,(aC (.d (.f fn bg)))),(14,(aI (↑i2:Int))),(15,(aI (↑j2:Int))),(17,(aI (↑k:Int)))],[(0,(cM d1))],1⟩) (fun (p:Nat×List ah)=>match p with|(k,d1)=>i2<=k/\k<=m/\d1=nW m (m - k) d/\d1.length=d.length) (fun (p:Nat×List ah)=>match p with|(k,d1)=>k) (m,d) ?_ ?_ ?_
  ·exact ⟨by omega,by omega,by rw [Nat.sub_self];rfl,rfl⟩
  ·exact aH.ca id (by refine ⟨?_,?_,?_,?_,?_,?_,?_,?_,trivial⟩<;>first|rfl|(simp only [bu];done)|(congr 3;omega)|(congr 4;omega)|(simp only [bw];rfl)|(exact cK rfl (by omega))) (⟨by first|rfl|(simp only [bu];done)|(congr 3;omega)|(congr 4;omega)|(simp only [bw];rfl),trivial⟩) rfl
  rintro ⟨k,d1⟩ ⟨hi3_0,hi3_1,hi3_2,hi3_3⟩
  refine ag ?_
  refine ae aa 3 rfl ?_
  refine aj rfl (fun hc8=>?_) (fun hc8=>?_)
  ·
   have hc8':=of_decide_eq_true hc8
   refine aS ?_
   refine ag ?_
   refine aY ?_
   obtain ⟨x1,hx1⟩:=cf (xs:=d1) (i:=(k) - 1) (by first|omega|(simp;done)|(simp;omega))
   obtain ⟨x2,hx2⟩:=cf (xs:=d1) (i:=k) (by first|omega|(simp;done)|(simp;omega))
   obtain ⟨x3,hx3⟩:=cf (xs:=((d1).set k x1)) (i:=(k) - 1) (by first|omega|(simp;done)|(simp;omega))
   refine df [0,1,2,3,4,14,15,17] [0] mixed rfl rfl ?_
   refine bT (kn:=[]) aa 4 rfl trivial ?_
   refine bW (n':=1) [116] [] rfl rfl (.inl ⟨(ak.plain rfl),aK.cast (aM rfl rfl rfl (aL (by first|omega|(simp;done)|(simp;omega)))) rfl⟩) rfl ?_
   refine bT (kn:=[]) aa 2 rfl trivial ?_
   refine bW (n':=1) [119] [] rfl rfl (.inl ⟨(ak.plain rfl),aK.cast (aM rfl rfl rfl (aL (by first|omega|(simp;done)|(simp;omega)))) rfl⟩) rfl ?_
   refine bW (n':=1) [118,120] [0] rfl rfl (.inl ⟨(ak.plain rfl),aK.cast (bz (i:=(k) - 1) rfl rfl rfl Try.underlying42 dn (by first|omega|(simp;done)|(simp;omega)) (by first|omega|(simp;done)|(simp;omega))) rfl⟩) rfl ?_
   refine bW (n':=1) [121] [0] rfl rfl (.inl ⟨(ak.plain rfl),aK.cast (dm rfl rfl rfl Try.underlying83 rfl dn (bp hx1) rfl) rfl⟩) rfl ?_
   refine bT (kn:=[]) aa 2 rfl trivial ?_
   refine bW (n':=1) [123,124] [0] rfl rfl (.inl ⟨(ak.plain rfl),aK.cast (bz (i:=k) rfl rfl rfl Try.underlying42 dn (by first|omega|(simp;done)|(simp;omega)) (by first|omega|(simp;done)|(simp;omega))) rfl⟩) rfl ?_
   refine bW (n':=1) [125] [0] rfl rfl (.inl ⟨(ak.plain rfl),aK.cast (dm rfl rfl rfl Try.underlying83 rfl dn (bp hx2) rfl) rfl⟩) rfl ?_
   refine bW (n':=1) [113,114] [0] rfl rfl (.inl ⟨(ak.plain rfl),aK.cast (bz (i:=k) rfl rfl rfl Try.underlying42 dn (by first|omega|(simp;done)|(simp;omega)) (by first|omega|(simp;done)|(simp;omega))) rfl⟩) rfl ?_
   refine bW (n':=1) [127,122] [0] rfl rfl (.inl ⟨(ak.plain rfl),aK.cast (dR (ds:=[(dI x1.aE),(dI x1.ba),(dI x1.kind),(dI x1.sum)]) rfl rfl rfl rfl rfl dn rfl (Nat.le_of_ble_eq_true rfl) (bp hx2) rfl (eX (x':=x1) rfl)) rfl⟩) rfl ?_
   refine bW (n':=1) [115,117] [0] rfl rfl (.inl ⟨(ak.plain rfl),aK.cast (bz (i:=(k) - 1) rfl rfl rfl Try.underlying42 dn (by first|omega|(simp;done)|(simp;omega)) (by first|omega|(simp;done)|(simp;omega))) rfl⟩) rfl ?_
   refine bW (n':=1) [128,126] [0] rfl rfl (.inl ⟨(ak.plain rfl),aK.cast (dR (ds:=[(dI x2.aE),(dI x2.ba),(dI x2.kind),(dI x2.sum)]) rfl rfl rfl rfl rfl dn rfl (Nat.le_of_ble_eq_true rfl) (bp hx3) rfl (eX (x':=x2) rfl)) rfl⟩) rfl ?_
   refine dU [0,1,2,3,4,14,15,17] [0] rfl rfl (by kernel_rfl) ?_
   refine bm ?_
   refine then_ok ?_
   refine ax ?_
   refine ad aa 1 rfl ?_
   refine aA (aM rfl rfl rfl (aL (by first|omega|(simp;done)|(simp;omega)))) rfl ?_
   refine ad aa 1 rfl ?_
   refine af ?_
   refine ⟨(k - 1,((d1).set k x1).set ((k) - 1) x2),⟨by omega,by omega,by rw [Cl hi3_1 (by omega),<-hi3_2];exact (lT hx2 hx1).symm,by simp only [List.length_set];exact hi3_3⟩,by first|omega|(simp;done)|(simp;omega),aH.ca id (by refine ⟨?_,?_,?_,?_,?_,?_,?_,?_,trivial⟩<;>first|rfl|(simp only [bu];done)|(congr 3;omega)|(congr 4;omega)|(simp only [bw];rfl)|(exact cK rfl (by omega))) (⟨by first|rfl|(simp only [bu];done)|(congr 3;omega)|(congr 4;omega)|(simp only [bw];rfl),trivial⟩) rfl⟩
  have hc8':=of_decide_eq_false hc8
  refine cv ?_
  refine aU ?_
  refine aU ?_
  refine bS ?_
  refine then_ok ?_
  refine az ?_
  refine an ?_
  have hX:dH (f+1) a m b d=d1:=by
    rw [dH.eq_2,if_neg (by omega),if_pos (by omega),<-hi2_3,eT (by omega),hi3_2]
    exact congrArg (fun z=>nW m z d) (by omega)
  rw [hX] at hr;clear hX
  subst hr
  refine al aa [0] 1 rfl rfl rfl rfl rfl rfl ?_ ?_
  all_goals first|rfl|(simp [aw];done)|(simp [aw];omega)
 have hc5':=of_decide_eq_false hc5
 refine aS ?_
 refine aF aa 2 rfl ?_
 refine aA (aM rfl rfl rfl (aL (by first|omega|(simp;done)|(simp;omega)))) rfl ?_
 refine aA (eE rfl rfl (by rw [Try.underlying3];rfl) Try.underlying128 (kJ (by first|omega|(simp;done)|(simp;omega)))) rfl ?_
 refine aA (mX (r:=(↑(((a)+(b)) / 2):Int)) rfl rfl rfl (by omega)) rfl ?_
 refine aA (eE rfl rfl (by rw [Try.underlying128];rfl) Try.underlying3 (gR (by first|omega|(simp;done)|(simp;omega)))) rfl ?_
 refine ad aa 1 rfl ?_
 refine af ?_
 obtain ⟨mid,hmid⟩:∃ z:Nat,z=(a+b) / 2:=⟨_,rfl⟩
 refine jd (i:=18) (v:=(aI (↑mid:Int))) (cK (ρ:=id) rfl (by omega)) ?_
 refine aF aa 2 rfl ?_
 refine aA (aM rfl rfl rfl (aL (by first|omega|(simp;done)|(simp;omega)))) rfl ?_
 refine ad aa 1 rfl ?_
 refine af ?_
 refine ae aa 2 rfl ?_
 refine ag ?_
 refine ae aa 3 rfl ?_
 refine aj rfl (fun hc9=>?_) (fun hc9=>?_)
 ·
  have hc9':=of_decide_eq_true hc9
  refine aF aa 2 rfl ?_
  refine aA (aM rfl rfl rfl (aL (by first|omega|(simp;done)|(simp;omega)))) rfl ?_
  refine ad aa 1 rfl ?_
  refine af ?_
  refine ax ?_
  refine ad aa 2 rfl ?_
  refine af ?_
  refine aF aa 1 rfl ?_
  refine aA (aM rfl rfl rfl (aL (by first|omega|(simp;done)|(simp;omega)))) rfl ?_
  refine ad aa 1 rfl ?_
  refine af ?_
  refine ag ?_
  refine aY ?_
  refine cE (β:=Nat×Nat) (fun (p:Nat×Nat)=>match p with|(s,u1)=>⟨[(0,(aC (.s 0 0 4 N))),(1,(aI (↑a:Int))),(2,(aI (↑m:Int))),(3,(aI (↑b:Int))),(4,(aC (.d (.f fn bg)))),(18,(aI (↑mid:Int))),(19,(aI ((↑mid:Int)+(↑m:Int)))),(20,(aI (↑s:Int))),(21,(aI (↑u1:Int))),(22,(aI (((↑mid:Int)+(↑m:Int)) - 1)))],[(0,(cM d))],1⟩) (fun (p:Nat×Nat)=>match p with|(s,u1)=>((mid)+(m)) - (b)<=s/\s<=u1/\u1<=mid/\fY (fun c=>!dC d (mid+m - 1 - c) c) s u1=fY (fun c=>!dC d (mid+m - 1 - c) c) (((mid)+(m)) - (b)) mid) (fun (p:Nat×Nat)=>match p with|(s,u1)=>u1 - s) (((mid)+(m)) - (b),mid) ?_ ?_ ?_
  ·exact ⟨by omega,by omega,by omega,rfl⟩
  ·exact aH.ca id (by refine ⟨?_,?_,?_,?_,?_,?_,?_,?_,?_,?_,trivial⟩<;>first|rfl|(simp only [bu];done)|(congr 3;omega)|(congr 4;omega)|(simp only [bw];rfl)|(exact cK rfl (by omega))) (⟨by first|rfl|(simp only [bu];done)|(congr 3;omega)|(congr 4;omega)|(simp only [bw];rfl),trivial⟩) rfl
  rintro ⟨s,u1⟩ ⟨hi4_0,hi4_1,hi4_2,hi4_3⟩
  refine ag ?_
  refine ae aa 3 rfl ?_
  refine aj rfl (fun hc10=>?_) (fun hc10=>?_)
  ·
   have hc10':=of_decide_eq_true hc10
   refine aS ?_
   refine aY ?_
   refine aF aa 2 rfl ?_
   refine aA (aM rfl rfl rfl (aL (by first|omega|(simp;done)|(simp;omega)))) rfl ?_
   refine aA (eE rfl rfl (by rw [Try.underlying3];rfl) Try.underlying128 (kJ (by first|omega|(simp;done)|(simp;omega)))) rfl ?_
   refine aA (mX (r:=(↑(((s)+(u1)) / 2):Int)) rfl rfl rfl (by omega)) rfl ?_
   refine aA (eE rfl rfl (by rw [Try.underlying128];rfl) Try.underlying3 (gR (by first|omega|(simp;done)|(simp;omega)))) rfl ?_
   refine ad aa 1 rfl ?_
   refine af ?_
   obtain ⟨c,hc⟩:∃ z:Nat,z=(s+u1) / 2:=⟨_,rfl⟩
   refine jd (i:=23) (v:=(aI (↑c:Int))) (cK (ρ:=id) rfl (by omega)) ?_
   refine ag ?_
   obtain ⟨x1,hx1⟩:=cf (xs:=d) (i:=(((mid)+(m)) - 1) - (c)) (by first|omega|(simp;done)|(simp;omega))
   obtain ⟨x2,hx2⟩:=cf (xs:=d) (i:=c) (by first|omega|(simp;done)|(simp;omega))
   refine aX [0,1,2,3,4,18,19,20,21,22,23] [0] mixed rfl rfl ?_
   refine aD (kn:=[]) aa 4 rfl trivial ?_
   refine aT (n':=1) [160,161] [] rfl rfl (.inl ⟨(ak.plain rfl),aK.cast (aM rfl rfl rfl (aL (by first|omega|(simp;done)|(simp;omega)))) rfl⟩) rfl ?_
   refine aT (n':=1) [159,162] [0] rfl rfl (.inl ⟨(ak.plain rfl),aK.cast (bz (i:=(((mid)+(m)) - 1) - (c)) rfl rfl rfl Try.underlying42 dn (by first|omega|(simp;done)|(simp;omega)) (by first|omega|(simp;done)|(simp;omega))) rfl⟩) rfl ?_
   refine aT (n':=1) [163] [0] rfl rfl (.inl ⟨(ak.plain rfl),aK.cast (dm rfl rfl rfl Try.underlying83 rfl dn (bp hx1) rfl) rfl⟩) rfl ?_
   refine aD (kn:=[]) aa 2 rfl trivial ?_
   refine aT (n':=1) [165,166] [0] rfl rfl (.inl ⟨(ak.plain rfl),aK.cast (bz (i:=c) rfl rfl rfl Try.underlying42 dn (by first|omega|(simp;done)|(simp;omega)) (by first|omega|(simp;done)|(simp;omega))) rfl⟩) rfl ?_
   refine aT (n':=1) [167] [0] rfl rfl (.inl ⟨(ak.plain rfl),aK.cast (dm rfl rfl rfl Try.underlying83 rfl dn (bp hx2) rfl) rfl⟩) rfl ?_
   refine aT (n':=1) [158,164,168] [] rfl rfl (.inl ⟨(ak.plain rfl),aK.cast (gZ (ins:=[(.g [(cI x1.aE),(cI x1.ba),(cI x1.kind),(cI x1.sum)]),(.g [(cI x2.aE),(cI x2.ba),(cI x2.kind),(cI x2.sum)])]) 1 (hp x1 x2) hen rfl rfl rfl ⟨⟨_,rfl,.g ⟨.d _,.d _,.d _,.d _,trivial⟩⟩,⟨_,rfl,.g ⟨.d _,.d _,.d _,.d _,trivial⟩⟩,trivial⟩ trivial trivial rfl rfl rfl rfl) rfl⟩) rfl ?_
   refine aD (kn:=[]) aa 2 rfl trivial ?_
   refine bA [0] rfl rfl rfl rfl (by kernel_rfl) ?_
   refine af ?_
   refine aj rfl (fun hc11=>?_) (fun hc11=>?_)
   ·
    have hc11':=hc11;try simp only [br,bR] at hc11'
    refine ax ?_
    refine ad aa 1 rfl ?_
    refine aA (aM rfl rfl rfl (aL (by first|omega|(simp;done)|(simp;omega)))) rfl ?_
    refine ad aa 1 rfl ?_
    refine bZ ?_
    refine bm ?_
    refine then_ok ?_
    refine ⟨(c+1,u1),⟨by omega,by omega,by omega,su hi4_3 (by omega) hc (by show (!dC _ _ _)=true;rw [gi hx1 hx2,kC (by assumption)];rfl)⟩,by first|omega|(simp;done)|(simp;omega),aH.ca id (by refine ⟨?_,?_,?_,?_,?_,?_,?_,?_,?_,?_,trivial⟩<;>first|rfl|(simp only [bu];done)|(congr 3;omega)|(congr 4;omega)|(simp only [bw];rfl)|(exact cK rfl (by omega))) (⟨by first|rfl|(simp only [bu];done)|(congr 3;omega)|(congr 4;omega)|(simp only [bw];rfl),trivial⟩) rfl⟩
   have hc11':=hc11;try simp only [br,bR] at hc11'
   refine ax ?_
   refine ad aa 2 rfl ?_
   refine bZ ?_
   refine bm ?_
   refine then_ok ?_
   refine ⟨(s,c),⟨by omega,by omega,by omega,sw hi4_3 (by omega) hc (by show (!dC _ _ _)=false;rw [gi hx1 hx2,kB.1 (by assumption)];rfl)⟩,by first|omega|(simp;done)|(simp;omega),aH.ca id (by refine ⟨?_,?_,?_,?_,?_,?_,?_,?_,?_,?_,trivial⟩<;>first|rfl|(simp only [bu];done)|(congr 3;omega)|(congr 4;omega)|(simp only [bw];rfl)|(exact cK rfl (by omega))) (⟨by first|rfl|(simp only [bu];done)|(congr 3;omega)|(congr 4;omega)|(simp only [bw];rfl),trivial⟩) rfl⟩
  have hc10':=of_decide_eq_false hc10
  refine cv ?_
  refine aU ?_
  refine aU ?_
  refine bS ?_
  refine then_ok ?_
  refine aF aa 2 rfl ?_
  refine aA (aM rfl rfl rfl (aL (by first|omega|(simp;done)|(simp;omega)))) rfl ?_
  refine ad aa 1 rfl ?_
  refine af ?_
  refine ag ?_
  obtain ⟨e,he⟩:∃ z:Nat,z=mid+m - s:=⟨_,rfl⟩
  refine jd (i:=24) (v:=(aI (↑e:Int))) (cK (ρ:=id) rfl (by omega)) ?_
  refine cw 185 ((decide ((↑s:Int) < (↑m:Int))) && (decide ((↑m:Int) < (↑e:Int)))) ?_ ?_
  ·
   refine ax ?_
   refine ad aa 4 rfl ?_
   refine bE (t:=181) rfl (fun hb12=>?_) (fun hb12=>?_)
   ·
    have hb12':=of_decide_eq_true hb12
    refine ad aa 4 rfl ?_
    refine af ?_
    exact aH.bD 9 rfl rfl (by first|(simp [hb12];done)|(simp_all;done)|(exfalso;simp_all;done)|(simp_all;omega)) rfl
   have hb12':=of_decide_eq_false hb12
   refine ad aa 4 rfl ?_
   refine af ?_
   exact aH.bD 9 rfl rfl (by first|(simp [hb12];done)|(simp_all;done)|(exfalso;simp_all;done)|(simp_all;omega)) rfl
  refine aj rfl (fun hc13=>?_) (fun hc13=>?_)
  ·
   have hc13':=hc13;try simp only [br,bR] at hc13'
   refine ax ?_
   refine ad aa 5 rfl ?_
   obtain ⟨r0,hr0⟩:∃ (r0:List ah),jm m (m - s) (e - m) d=r0:=⟨_,rfl⟩
   have hlr0:r0.length=d.length:=by rw [<-hr0];exact mS _ _ _ _ _ (Nat.le_refl _)
   refine aQ 1 [0] (dS id id (uy (↑s:Int) (↑m:Int) (↑e:Int) d N s m e fn bg hp hen (by first|omega|(simp;done)|(simp;omega)) (by first|omega|(simp;done)|(simp;omega)) (by first|omega|(simp;done)|(simp;omega)) (by first|omega|(simp;done)|(simp;omega)) (by first|omega|(simp;done)|(simp;omega)) (by first|omega|(simp;done)|(simp;omega)) (by first|omega|(simp;done)|(simp;omega)) (by first|omega|(simp;done)|(simp;omega)) r0 hr0) FF rfl rfl ⟨⟨_,rfl,.inl ⟨rfl,rfl⟩⟩,⟨_,rfl,.inr (.c (.d _))⟩,⟨_,rfl,.inr (.c (.d _))⟩,⟨_,rfl,.inr (.c (.d _))⟩,⟨_,rfl,.inr (.c (.d _))⟩,trivial⟩ ⟨rfl,trivial⟩ rfl rfl ⟨.inr ⟨_,_,_,rfl,by first|(simp;omega)|(simp only [List.length_map];omega)⟩,trivial⟩ rfl rfl rfl trivial ⟨(fun _ _ _ _=>trivial),trivial⟩ rfl rfl rfl rfl) rfl ?_
   refine af ?_
   refine ag ?_
   refine cw 199 ((decide ((↑a:Int) < (↑s:Int))) && (decide ((↑s:Int) < (↑mid:Int)))) ?_ ?_
   ·
    refine ax ?_
    refine ad aa 4 rfl ?_
    refine bE (t:=195) rfl (fun hb14=>?_) (fun hb14=>?_)
    ·
     have hb14':=of_decide_eq_true hb14
     refine ad aa 4 rfl ?_
     refine af ?_
     exact aH.bD 9 rfl rfl (by first|(simp [hb14];done)|(simp_all;done)|(exfalso;simp_all;done)|(simp_all;omega)) rfl
    have hb14':=of_decide_eq_false hb14
    refine ad aa 4 rfl ?_
    refine af ?_
    exact aH.bD 9 rfl rfl (by first|(simp [hb14];done)|(simp_all;done)|(exfalso;simp_all;done)|(simp_all;omega)) rfl
   refine aj rfl (fun hc15=>?_) (fun hc15=>?_)
   ·
    have hc15':=hc15;try simp only [br,bR] at hc15'
    refine ax ?_
    refine ad aa 5 rfl ?_
    obtain ⟨r1,hr1⟩:∃ (r1:List ah),dH f a s mid r0=r1:=⟨_,rfl⟩
    have hlr1:r1.length=r0.length:=by rw [<-hr1];exact eW _ _ _ _ _
    refine aQ 1 [0] (dS id id (ih (↑a:Int) (↑s:Int) (↑mid:Int) r0 N a s mid fn bg hp hen (by first|omega|(simp;done)|(simp;omega)) (by first|omega|(simp;done)|(simp;omega)) (by first|omega|(simp;done)|(simp;omega)) (by first|omega|(simp;done)|(simp;omega)) (by first|omega|(simp;done)|(simp;omega)) (by first|omega|(simp;done)|(simp;omega)) (by first|omega|(simp;done)|(simp;omega)) (by first|omega|(simp;done)|(simp;omega)) (by first|omega|(simp;done)|(simp;omega)) r1 hr1) kj rfl rfl ⟨⟨_,rfl,.inl ⟨rfl,rfl⟩⟩,⟨_,rfl,.inr (.c (.d _))⟩,⟨_,rfl,.inr (.c (.d _))⟩,⟨_,rfl,.inr (.c (.d _))⟩,⟨_,rfl,.inr (.c (.d _))⟩,trivial⟩ ⟨rfl,trivial⟩ rfl rfl ⟨.inr ⟨_,_,_,rfl,by first|(simp;omega)|(simp only [List.length_map];omega)⟩,trivial⟩ rfl rfl rfl trivial ⟨(fun _ _ _ _=>trivial),trivial⟩ rfl rfl rfl rfl) rfl ?_
    refine af ?_
    refine cw 213 ((decide ((↑mid:Int) < (↑e:Int))) && (decide ((↑e:Int) < (↑b:Int)))) ?_ ?_
    ·
     refine ax ?_
     refine ad aa 4 rfl ?_
     refine bE (t:=209) rfl (fun hb16=>?_) (fun hb16=>?_)
     ·
      have hb16':=of_decide_eq_true hb16
      refine ad aa 4 rfl ?_
      refine af ?_
      exact aH.bD 9 rfl rfl (by first|(simp [hb16];done)|(simp_all;done)|(exfalso;simp_all;done)|(simp_all;omega)) rfl
     have hb16':=of_decide_eq_false hb16
     refine ad aa 4 rfl ?_
     refine af ?_
     exact aH.bD 9 rfl rfl (by first|(simp [hb16];done)|(simp_all;done)|(exfalso;simp_all;done)|(simp_all;omega)) rfl
    refine aj rfl (fun hc17=>?_) (fun hc17=>?_)
    ·
     have hc17':=hc17;try simp only [br,bR] at hc17'
     refine ax ?_
     refine ad aa 5 rfl ?_
     obtain ⟨r2,hr2⟩:∃ (r2:List ah),dH f mid e b r1=r2:=⟨_,rfl⟩
     have hlr2:r2.length=r1.length:=by rw [<-hr2];exact eW _ _ _ _ _
     refine aQ 1 [0] (dS id id (ih (↑mid:Int) (↑e:Int) (↑b:Int) r1 N mid e b fn bg hp hen (by first|omega|(simp;done)|(simp;omega)) (by first|omega|(simp;done)|(simp;omega)) (by first|omega|(simp;done)|(simp;omega)) (by first|omega|(simp;done)|(simp;omega)) (by first|omega|(simp;done)|(simp;omega)) (by first|omega|(simp;done)|(simp;omega)) (by first|omega|(simp;done)|(simp;omega)) (by first|omega|(simp;done)|(simp;omega)) (by first|omega|(simp;done)|(simp;omega)) r2 hr2) kj rfl rfl ⟨⟨_,rfl,.inl ⟨rfl,rfl⟩⟩,⟨_,rfl,.inr (.c (.d _))⟩,⟨_,rfl,.inr (.c (.d _))⟩,⟨_,rfl,.inr (.c (.d _))⟩,⟨_,rfl,.inr (.c (.d _))⟩,trivial⟩ ⟨rfl,trivial⟩ rfl rfl ⟨.inr ⟨_,_,_,rfl,by first|(simp;omega)|(simp only [List.length_map];omega)⟩,trivial⟩ rfl rfl rfl trivial ⟨(fun _ _ _ _=>trivial),trivial⟩ rfl rfl rfl rfl) rfl ?_
     refine bZ ?_
     have hX:dH (f+1) a m b d=r2:=by
       exact dY (mid:=mid) (s:=s) (e:=e) (d1:=r0) (d2:=r1) (by omega) (by omega) hmid (by unfold ew;rw [<-hmid,<-eT (p:=(fun c=>!dC d (mid+m - 1 - c) c)) (i:=s) (j:=u1) (by omega),hi4_3];first|exact if_pos (by omega)|exact if_neg (by omega)) he.symm (by unfold fi;rw [if_pos (by omega)];exact hr0) (by rw [if_pos (by omega)];exact hr1) (by rw [if_pos (by omega)];exact hr2)
     rw [hX] at hr;clear hX
     subst hr
     refine cO aa [0] 1 rfl rfl rfl rfl rfl rfl ?_ ?_
     all_goals first|rfl|(simp [aw];done)|(simp [aw];omega)
    have hc17':=hc17;try simp only [br,bR] at hc17'
    refine da ?_
    have hX:dH (f+1) a m b d=r1:=by
      exact dY (mid:=mid) (s:=s) (e:=e) (d1:=r0) (d2:=r1) (by omega) (by omega) hmid (by unfold ew;rw [<-hmid,<-eT (p:=(fun c=>!dC d (mid+m - 1 - c) c)) (i:=s) (j:=u1) (by omega),hi4_3];first|exact if_pos (by omega)|exact if_neg (by omega)) he.symm (by unfold fi;rw [if_pos (by omega)];exact hr0) (by rw [if_pos (by omega)];exact hr1) (by rw [if_neg (by omega)])
    rw [hX] at hr;clear hX
    subst hr
    refine cO aa [0] 1 rfl rfl rfl rfl rfl rfl ?_ ?_
    all_goals first|rfl|(simp [aw];done)|(simp [aw];omega)
   have hc15':=hc15;try simp only [br,bR] at hc15'
   refine aS ?_
   refine cw 213 ((decide ((↑mid:Int) < (↑e:Int))) && (decide ((↑e:Int) < (↑b:Int)))) ?_ ?_
   ·
    refine ax ?_
    refine ad aa 4 rfl ?_
    refine bE (t:=209) rfl (fun hb18=>?_) (fun hb18=>?_)
    ·
     have hb18':=of_decide_eq_true hb18
     refine ad aa 4 rfl ?_
     refine af ?_
     exact aH.bD 9 rfl rfl (by first|(simp [hb18];done)|(simp_all;done)|(exfalso;simp_all;done)|(simp_all;omega)) rfl
    have hb18':=of_decide_eq_false hb18
    refine ad aa 4 rfl ?_
    refine af ?_
    exact aH.bD 9 rfl rfl (by first|(simp [hb18];done)|(simp_all;done)|(exfalso;simp_all;done)|(simp_all;omega)) rfl
   refine aj rfl (fun hc19=>?_) (fun hc19=>?_)
   ·
    have hc19':=hc19;try simp only [br,bR] at hc19'
    refine ax ?_
    refine ad aa 5 rfl ?_
    obtain ⟨r3,hr3⟩:∃ (r3:List ah),dH f mid e b r0=r3:=⟨_,rfl⟩
    have hlr3:r3.length=r0.length:=by rw [<-hr3];exact eW _ _ _ _ _
    refine aQ 1 [0] (dS id id (ih (↑mid:Int) (↑e:Int) (↑b:Int) r0 N mid e b fn bg hp hen (by first|omega|(simp;done)|(simp;omega)) (by first|omega|(simp;done)|(simp;omega)) (by first|omega|(simp;done)|(simp;omega)) (by first|omega|(simp;done)|(simp;omega)) (by first|omega|(simp;done)|(simp;omega)) (by first|omega|(simp;done)|(simp;omega)) (by first|omega|(simp;done)|(simp;omega)) (by first|omega|(simp;done)|(simp;omega)) (by first|omega|(simp;done)|(simp;omega)) r3 hr3) kj rfl rfl ⟨⟨_,rfl,.inl ⟨rfl,rfl⟩⟩,⟨_,rfl,.inr (.c (.d _))⟩,⟨_,rfl,.inr (.c (.d _))⟩,⟨_,rfl,.inr (.c (.d _))⟩,⟨_,rfl,.inr (.c (.d _))⟩,trivial⟩ ⟨rfl,trivial⟩ rfl rfl ⟨.inr ⟨_,_,_,rfl,by first|(simp;omega)|(simp only [List.length_map];omega)⟩,trivial⟩ rfl rfl rfl trivial ⟨(fun _ _ _ _=>trivial),trivial⟩ rfl rfl rfl rfl) rfl ?_
    refine bZ ?_
    have hX:dH (f+1) a m b d=r3:=by
      exact dY (mid:=mid) (s:=s) (e:=e) (d1:=r0) (d2:=r0) (by omega) (by omega) hmid (by unfold ew;rw [<-hmid,<-eT (p:=(fun c=>!dC d (mid+m - 1 - c) c)) (i:=s) (j:=u1) (by omega),hi4_3];first|exact if_pos (by omega)|exact if_neg (by omega)) he.symm (by unfold fi;rw [if_pos (by omega)];exact hr0) (by rw [if_neg (by omega)]) (by rw [if_pos (by omega)];exact hr3)
    rw [hX] at hr;clear hX
    subst hr
    refine cO aa [0] 1 rfl rfl rfl rfl rfl rfl ?_ ?_
    all_goals first|rfl|(simp [aw];done)|(simp [aw];omega)
   have hc19':=hc19;try simp only [br,bR] at hc19'
   refine da ?_
   have hX:dH (f+1) a m b d=r0:=by
     exact dY (mid:=mid) (s:=s) (e:=e) (d1:=r0) (d2:=r0) (by omega) (by omega) hmid (by unfold ew;rw [<-hmid,<-eT (p:=(fun c=>!dC d (mid+m - 1 - c) c)) (i:=s) (j:=u1) (by omega),hi4_3];first|exact if_pos (by omega)|exact if_neg (by omega)) he.symm (by unfold fi;rw [if_pos (by omega)];exact hr0) (by rw [if_neg (by omega)]) (by rw [if_neg (by omega)])
   rw [hX] at hr;clear hX
   subst hr
   refine cO aa [0] 1 rfl rfl rfl rfl rfl rfl ?_ ?_
   all_goals first|rfl|(simp [aw];done)|(simp [aw];omega)
  have hc13':=hc13;try simp only [br,bR] at hc13'
  refine aS ?_
  refine ag ?_
  refine cw 199 ((decide ((↑a:Int) < (↑s:Int))) && (decide ((↑s:Int) < (↑mid:Int)))) ?_ ?_
  ·
   refine ax ?_
   refine ad aa 4 rfl ?_
   refine bE (t:=195) rfl (fun hb20=>?_) (fun hb20=>?_)
   ·
    have hb20':=of_decide_eq_true hb20
    refine ad aa 4 rfl ?_
    refine af ?_
    exact aH.bD 9 rfl rfl (by first|(simp [hb20];done)|(simp_all;done)|(exfalso;simp_all;done)|(simp_all;omega)) rfl
   have hb20':=of_decide_eq_false hb20
   refine ad aa 4 rfl ?_
   refine af ?_
   exact aH.bD 9 rfl rfl (by first|(simp [hb20];done)|(simp_all;done)|(exfalso;simp_all;done)|(simp_all;omega)) rfl
  refine aj rfl (fun hc21=>?_) (fun hc21=>?_)
  ·
   have hc21':=hc21;try simp only [br,bR] at hc21'
   refine ax ?_
   refine ad aa 5 rfl ?_
   obtain ⟨r4,hr4⟩:∃ (r4:List ah),dH f a s mid d=r4:=⟨_,rfl⟩
   have hlr4:r4.length=d.length:=by rw [<-hr4];exact eW _ _ _ _ _
   refine aQ 1 [0] (dS id id (ih (↑a:Int) (↑s:Int) (↑mid:Int) d N a s mid fn bg hp hen (by first|omega|(simp;done)|(simp;omega)) (by first|omega|(simp;done)|(simp;omega)) (by first|omega|(simp;done)|(simp;omega)) (by first|omega|(simp;done)|(simp;omega)) (by first|omega|(simp;done)|(simp;omega)) (by first|omega|(simp;done)|(simp;omega)) (by first|omega|(simp;done)|(simp;omega)) (by first|omega|(simp;done)|(simp;omega)) (by first|omega|(simp;done)|(simp;omega)) r4 hr4) kj rfl rfl ⟨⟨_,rfl,.inl ⟨rfl,rfl⟩⟩,⟨_,rfl,.inr (.c (.d _))⟩,⟨_,rfl,.inr (.c (.d _))⟩,⟨_,rfl,.inr (.c (.d _))⟩,⟨_,rfl,.inr (.c (.d _))⟩,trivial⟩ ⟨rfl,trivial⟩ rfl rfl ⟨.inr ⟨_,_,_,rfl,by first|(simp;omega)|(simp only [List.length_map];omega)⟩,trivial⟩ rfl rfl rfl trivial ⟨(fun _ _ _ _=>trivial),trivial⟩ rfl rfl rfl rfl) rfl ?_
   refine af ?_
   refine cw 213 ((decide ((↑mid:Int) < (↑e:Int))) && (decide ((↑e:Int) < (↑b:Int)))) ?_ ?_
   ·
    refine ax ?_
    refine ad aa 4 rfl ?_
    refine bE (t:=209) rfl (fun hb22=>?_) (fun hb22=>?_)
    ·
     have hb22':=of_decide_eq_true hb22
     refine ad aa 4 rfl ?_
     refine af ?_
     exact aH.bD 9 rfl rfl (by first|(simp [hb22];done)|(simp_all;done)|(exfalso;simp_all;done)|(simp_all;omega)) rfl
    have hb22':=of_decide_eq_false hb22
    refine ad aa 4 rfl ?_
    refine af ?_
    exact aH.bD 9 rfl rfl (by first|(simp [hb22];done)|(simp_all;done)|(exfalso;simp_all;done)|(simp_all;omega)) rfl
   refine aj rfl (fun hc23=>?_) (fun hc23=>?_)
   ·
    have hc23':=hc23;try simp only [br,bR] at hc23'
    refine ax ?_
    refine ad aa 5 rfl ?_
    obtain ⟨r5,hr5⟩:∃ (r5:List ah),dH f mid e b r4=r5:=⟨_,rfl⟩
    have hlr5:r5.length=r4.length:=by rw [<-hr5];exact eW _ _ _ _ _
    refine aQ 1 [0] (dS id id (ih (↑mid:Int) (↑e:Int) (↑b:Int) r4 N mid e b fn bg hp hen (by first|omega|(simp;done)|(simp;omega)) (by first|omega|(simp;done)|(simp;omega)) (by first|omega|(simp;done)|(simp;omega)) (by first|omega|(simp;done)|(simp;omega)) (by first|omega|(simp;done)|(simp;omega)) (by first|omega|(simp;done)|(simp;omega)) (by first|omega|(simp;done)|(simp;omega)) (by first|omega|(simp;done)|(simp;omega)) (by first|omega|(simp;done)|(simp;omega)) r5 hr5) kj rfl rfl ⟨⟨_,rfl,.inl ⟨rfl,rfl⟩⟩,⟨_,rfl,.inr (.c (.d _))⟩,⟨_,rfl,.inr (.c (.d _))⟩,⟨_,rfl,.inr (.c (.d _))⟩,⟨_,rfl,.inr (.c (.d _))⟩,trivial⟩ ⟨rfl,trivial⟩ rfl rfl ⟨.inr ⟨_,_,_,rfl,by first|(simp;omega)|(simp only [List.length_map];omega)⟩,trivial⟩ rfl rfl rfl trivial ⟨(fun _ _ _ _=>trivial),trivial⟩ rfl rfl rfl rfl) rfl ?_
    refine bZ ?_
    have hX:dH (f+1) a m b d=r5:=by
      exact dY (mid:=mid) (s:=s) (e:=e) (d1:=d) (d2:=r4) (by omega) (by omega) hmid (by unfold ew;rw [<-hmid,<-eT (p:=(fun c=>!dC d (mid+m - 1 - c) c)) (i:=s) (j:=u1) (by omega),hi4_3];first|exact if_pos (by omega)|exact if_neg (by omega)) he.symm (by unfold fi;rw [if_neg (by omega)]) (by rw [if_pos (by omega)];exact hr4) (by rw [if_pos (by omega)];exact hr5)
    rw [hX] at hr;clear hX
    subst hr
    refine cO aa [0] 1 rfl rfl rfl rfl rfl rfl ?_ ?_
    all_goals first|rfl|(simp [aw];done)|(simp [aw];omega)
   have hc23':=hc23;try simp only [br,bR] at hc23'
   refine da ?_
   have hX:dH (f+1) a m b d=r4:=by
     exact dY (mid:=mid) (s:=s) (e:=e) (d1:=d) (d2:=r4) (by omega) (by omega) hmid (by unfold ew;rw [<-hmid,<-eT (p:=(fun c=>!dC d (mid+m - 1 - c) c)) (i:=s) (j:=u1) (by omega),hi4_3];first|exact if_pos (by omega)|exact if_neg (by omega)) he.symm (by unfold fi;rw [if_neg (by omega)]) (by rw [if_pos (by omega)];exact hr4) (by rw [if_neg (by omega)])
   rw [hX] at hr;clear hX
   subst hr
   refine cO aa [0] 1 rfl rfl rfl rfl rfl rfl ?_ ?_
   all_goals first|rfl|(simp [aw];done)|(simp [aw];omega)
  have hc21':=hc21;try simp only [br,bR] at hc21'
  refine aS ?_
  refine cw 213 ((decide ((↑mid:Int) < (↑e:Int))) && (decide ((↑e:Int) < (↑b:Int)))) ?_ ?_
  ·
   refine ax ?_
   refine ad aa 4 rfl ?_
   refine bE (t:=209) rfl (fun hb24=>?_) (fun hb24=>?_)
   ·
    have hb24':=of_decide_eq_true hb24
    refine ad aa 4 rfl ?_
    refine af ?_
    exact aH.bD 9 rfl rfl (by first|(simp [hb24];done)|(simp_all;done)|(exfalso;simp_all;done)|(simp_all;omega)) rfl
   have hb24':=of_decide_eq_false hb24
   refine ad aa 4 rfl ?_
   refine af ?_
   exact aH.bD 9 rfl rfl (by first|(simp [hb24];done)|(simp_all;done)|(exfalso;simp_all;done)|(simp_all;omega)) rfl
  refine aj rfl (fun hc25=>?_) (fun hc25=>?_)
  ·
   have hc25':=hc25;try simp only [br,bR] at hc25'
   refine ax ?_
   refine ad aa 5 rfl ?_
   obtain ⟨r6,hr6⟩:∃ (r6:List ah),dH f mid e b d=r6:=⟨_,rfl⟩
   have hlr6:r6.length=d.length:=by rw [<-hr6];exact eW _ _ _ _ _
   refine aQ 1 [0] (dS id id (ih (↑mid:Int) (↑e:Int) (↑b:Int) d N mid e b fn bg hp hen (by first|omega|(simp;done)|(simp;omega)) (by first|omega|(simp;done)|(simp;omega)) (by first|omega|(simp;done)|(simp;omega)) (by first|omega|(simp;done)|(simp;omega)) (by first|omega|(simp;done)|(simp;omega)) (by first|omega|(simp;done)|(simp;omega)) (by first|omega|(simp;done)|(simp;omega)) (by first|omega|(simp;done)|(simp;omega)) (by first|omega|(simp;done)|(simp;omega)) r6 hr6) kj rfl rfl ⟨⟨_,rfl,.inl ⟨rfl,rfl⟩⟩,⟨_,rfl,.inr (.c (.d _))⟩,⟨_,rfl,.inr (.c (.d _))⟩,⟨_,rfl,.inr (.c (.d _))⟩,⟨_,rfl,.inr (.c (.d _))⟩,trivial⟩ ⟨rfl,trivial⟩ rfl rfl ⟨.inr ⟨_,_,_,rfl,by first|(simp;omega)|(simp only [List.length_map];omega)⟩,trivial⟩ rfl rfl rfl trivial ⟨(fun _ _ _ _=>trivial),trivial⟩ rfl rfl rfl rfl) rfl ?_
   refine bZ ?_
   have hX:dH (f+1) a m b d=r6:=by
     exact dY (mid:=mid) (s:=s) (e:=e) (d1:=d) (d2:=d) (by omega) (by omega) hmid (by unfold ew;rw [<-hmid,<-eT (p:=(fun c=>!dC d (mid+m - 1 - c) c)) (i:=s) (j:=u1) (by omega),hi4_3];first|exact if_pos (by omega)|exact if_neg (by omega)) he.symm (by unfold fi;rw [if_neg (by omega)]) (by rw [if_neg (by omega)]) (by rw [if_pos (by omega)];exact hr6)
   rw [hX] at hr;clear hX
   subst hr
   refine cO aa [0] 1 rfl rfl rfl rfl rfl rfl ?_ ?_
   all_goals first|rfl|(simp [aw];done)|(simp [aw];omega)
  have hc25':=hc25;try simp only [br,bR] at hc25'
  refine da ?_
  have hX:dH (f+1) a m b d=d:=by
    exact dY (mid:=mid) (s:=s) (e:=e) (d1:=d) (d2:=d) (by omega) (by omega) hmid (by unfold ew;rw [<-hmid,<-eT (p:=(fun c=>!dC d (mid+m - 1 - c) c)) (i:=s) (j:=u1) (by omega),hi4_3];first|exact if_pos (by omega)|exact if_neg (by omega)) he.symm (by unfold fi;rw [if_neg (by omega)]) (by rw [if_neg (by omega)]) (by rw [if_neg (by omega)])
  rw [hX] at hr;clear hX
  subst hr
  refine cO aa [0] 1 rfl rfl rfl rfl rfl rfl ?_ ?_
  all_goals first|rfl|(simp [aw];done)|(simp [aw];omega)
 have hc9':=of_decide_eq_false hc9
 refine ae aa 2 rfl ?_
 refine ax ?_
 refine ad aa 2 rfl ?_
 refine af ?_
 refine aF aa 1 rfl ?_
 refine aA (aM rfl rfl rfl (aL (by first|omega|(simp;done)|(simp;omega)))) rfl ?_
 refine ad aa 1 rfl ?_
 refine af ?_
 refine ag ?_
 refine aY ?_
 refine cE (β:=Nat×Nat) (fun (p:Nat×Nat)=>match p with|(s,u1)=>⟨[(0,(aC (.s 0 0 4 N))),(1,(aI (↑a:Int))),(2,(aI (↑m:Int))),(3,(aI (↑b:Int))),(4,(aC (.d (.f fn bg)))),(18,(aI (↑mid:Int))),(19,(aI ((↑mid:Int)+(↑m:Int)))),(20,(aI (↑s:Int))),(21,(aI (↑u1:Int))),(22,(aI (((↑mid:Int)+(↑m:Int)) - 1)))],[(0,(cM d))],1⟩) (fun (p:Nat×Nat)=>match p with|(s,u1)=>a<=s/\s<=u1/\u1<=m/\fY (fun c=>!dC d (mid+m - 1 - c) c) s u1=fY (fun c=>!dC d (mid+m - 1 - c) c) a m) (fun (p:Nat×Nat)=>match p with|(s,u1)=>u1 - s) (a,m) ?_ ?_ ?_
 ·exact ⟨by omega,by omega,by omega,rfl⟩
 ·exact aH.ca id (by refine ⟨?_,?_,?_,?_,?_,?_,?_,?_,?_,?_,trivial⟩<;>first|rfl|(simp only [bu];done)|(congr 3;omega)|(congr 4;omega)|(simp only [bw];rfl)|(exact cK rfl (by omega))) (⟨by first|rfl|(simp only [bu];done)|(congr 3;omega)|(congr 4;omega)|(simp only [bw];rfl),trivial⟩) rfl
 rintro ⟨s,u1⟩ ⟨hi4_0,hi4_1,hi4_2,hi4_3⟩
 refine ag ?_
 refine ae aa 3 rfl ?_
 refine aj rfl (fun hc26=>?_) (fun hc26=>?_)
 ·
  have hc26':=of_decide_eq_true hc26
  refine aS ?_
  refine aY ?_
  refine aF aa 2 rfl ?_
  refine aA (aM rfl rfl rfl (aL (by first|omega|(simp;done)|(simp;omega)))) rfl ?_
  refine aA (eE rfl rfl (by rw [Try.underlying3];rfl) Try.underlying128 (kJ (by first|omega|(simp;done)|(simp;omega)))) rfl ?_
  refine aA (mX (r:=(↑(((s)+(u1)) / 2):Int)) rfl rfl rfl (by omega)) rfl ?_
  refine aA (eE rfl rfl (by rw [Try.underlying128];rfl) Try.underlying3 (gR (by first|omega|(simp;done)|(simp;omega)))) rfl ?_
  refine ad aa 1 rfl ?_
  refine af ?_
  obtain ⟨c,hc⟩:∃ z:Nat,z=(s+u1) / 2:=⟨_,rfl⟩
  refine jd (i:=23) (v:=(aI (↑c:Int))) (cK (ρ:=id) rfl (by omega)) ?_
  refine ag ?_
  obtain ⟨x1,hx1⟩:=cf (xs:=d) (i:=(((mid)+(m)) - 1) - (c)) (by first|omega|(simp;done)|(simp;omega))
  obtain ⟨x2,hx2⟩:=cf (xs:=d) (i:=c) (by first|omega|(simp;done)|(simp;omega))
  refine aX [0,1,2,3,4,18,19,20,21,22,23] [0] mixed rfl rfl ?_
  refine aD (kn:=[]) aa 4 rfl trivial ?_
  refine aT (n':=1) [160,161] [] rfl rfl (.inl ⟨(ak.plain rfl),aK.cast (aM rfl rfl rfl (aL (by first|omega|(simp;done)|(simp;omega)))) rfl⟩) rfl ?_
  refine aT (n':=1) [159,162] [0] rfl rfl (.inl ⟨(ak.plain rfl),aK.cast (bz (i:=(((mid)+(m)) - 1) - (c)) rfl rfl rfl Try.underlying42 dn (by first|omega|(simp;done)|(simp;omega)) (by first|omega|(simp;done)|(simp;omega))) rfl⟩) rfl ?_
  refine aT (n':=1) [163] [0] rfl rfl (.inl ⟨(ak.plain rfl),aK.cast (dm rfl rfl rfl Try.underlying83 rfl dn (bp hx1) rfl) rfl⟩) rfl ?_
  refine aD (kn:=[]) aa 2 rfl trivial ?_
  refine aT (n':=1) [165,166] [0] rfl rfl (.inl ⟨(ak.plain rfl),aK.cast (bz (i:=c) rfl rfl rfl Try.underlying42 dn (by first|omega|(simp;done)|(simp;omega)) (by first|omega|(simp;done)|(simp;omega))) rfl⟩) rfl ?_
  refine aT (n':=1) [167] [0] rfl rfl (.inl ⟨(ak.plain rfl),aK.cast (dm rfl rfl rfl Try.underlying83 rfl dn (bp hx2) rfl) rfl⟩) rfl ?_
  refine aT (n':=1) [158,164,168] [] rfl rfl (.inl ⟨(ak.plain rfl),aK.cast (gZ (ins:=[(.g [(cI x1.aE),(cI x1.ba),(cI x1.kind),(cI x1.sum)]),(.g [(cI x2.aE),(cI x2.ba),(cI x2.kind),(cI x2.sum)])]) 1 (hp x1 x2) hen rfl rfl rfl ⟨⟨_,rfl,.g ⟨.d _,.d _,.d _,.d _,trivial⟩⟩,⟨_,rfl,.g ⟨.d _,.d _,.d _,.d _,trivial⟩⟩,trivial⟩ trivial trivial rfl rfl rfl rfl) rfl⟩) rfl ?_
  refine aD (kn:=[]) aa 2 rfl trivial ?_
  refine bA [0] rfl rfl rfl rfl (by kernel_rfl) ?_
  refine af ?_
  refine aj rfl (fun hc27=>?_) (fun hc27=>?_)
  ·
   have hc27':=hc27;try simp only [br,bR] at hc27'
   refine ax ?_
   refine ad aa 1 rfl ?_
   refine aA (aM rfl rfl rfl (aL (by first|omega|(simp;done)|(simp;omega)))) rfl ?_
   refine ad aa 1 rfl ?_
   refine bZ ?_
   refine bm ?_
   refine then_ok ?_
   refine ⟨(c+1,u1),⟨by omega,by omega,by omega,su hi4_3 (by omega) hc (by show (!dC _ _ _)=true;rw [gi hx1 hx2,kC (by assumption)];rfl)⟩,by first|omega|(simp;done)|(simp;omega),aH.ca id (by refine ⟨?_,?_,?_,?_,?_,?_,?_,?_,?_,?_,trivial⟩<;>first|rfl|(simp only [bu];done)|(congr 3;omega)|(congr 4;omega)|(simp only [bw];rfl)|(exact cK rfl (by omega))) (⟨by first|rfl|(simp only [bu];done)|(congr 3;omega)|(congr 4;omega)|(simp only [bw];rfl),trivial⟩) rfl⟩
  have hc27':=hc27;try simp only [br,bR] at hc27'
  refine ax ?_
  refine ad aa 2 rfl ?_
  refine bZ ?_
  refine bm ?_
  refine then_ok ?_
  refine ⟨(s,c),⟨by omega,by omega,by omega,sw hi4_3 (by omega) hc (by show (!dC _ _ _)=false;rw [gi hx1 hx2,kB.1 (by assumption)];rfl)⟩,by first|omega|(simp;done)|(simp;omega),aH.ca id (by refine ⟨?_,?_,?_,?_,?_,?_,?_,?_,?_,?_,trivial⟩<;>first|rfl|(simp only [bu];done)|(congr 3;omega)|(congr 4;omega)|(simp only [bw];rfl)|(exact cK rfl (by omega))) (⟨by first|rfl|(simp only [bu];done)|(congr 3;omega)|(congr 4;omega)|(simp only [bw];rfl),trivial⟩) rfl⟩
 have hc26':=of_decide_eq_false hc26
 refine cv ?_
 refine aU ?_
 refine aU ?_
 refine bS ?_
 refine then_ok ?_
 refine aF aa 2 rfl ?_
 refine aA (aM rfl rfl rfl (aL (by first|omega|(simp;done)|(simp;omega)))) rfl ?_
 refine ad aa 1 rfl ?_
 refine af ?_
 refine ag ?_
 obtain ⟨e,he⟩:∃ z:Nat,z=mid+m - s:=⟨_,rfl⟩
 refine jd (i:=24) (v:=(aI (↑e:Int))) (cK (ρ:=id) rfl (by omega)) ?_
 refine cw 185 ((decide ((↑s:Int) < (↑m:Int))) && (decide ((↑m:Int) < (↑e:Int)))) ?_ ?_
 ·
  refine ax ?_
  refine ad aa 4 rfl ?_
  refine bE (t:=181) rfl (fun hb28=>?_) (fun hb28=>?_)
  ·
   have hb28':=of_decide_eq_true hb28
   refine ad aa 4 rfl ?_
   refine af ?_
   exact aH.bD 9 rfl rfl (by first|(simp [hb28];done)|(simp_all;done)|(exfalso;simp_all;done)|(simp_all;omega)) rfl
  have hb28':=of_decide_eq_false hb28
  refine ad aa 4 rfl ?_
  refine af ?_
  exact aH.bD 9 rfl rfl (by first|(simp [hb28];done)|(simp_all;done)|(exfalso;simp_all;done)|(simp_all;omega)) rfl
 refine aj rfl (fun hc29=>?_) (fun hc29=>?_)
 ·
  have hc29':=hc29;try simp only [br,bR] at hc29'
  refine ax ?_
  refine ad aa 5 rfl ?_
  obtain ⟨r7,hr7⟩:∃ (r7:List ah),jm m (m - s) (e - m) d=r7:=⟨_,rfl⟩
  have hlr7:r7.length=d.length:=by rw [<-hr7];exact mS _ _ _ _ _ (Nat.le_refl _)
  refine aQ 1 [0] (dS id id (uy (↑s:Int) (↑m:Int) (↑e:Int) d N s m e fn bg hp hen (by first|omega|(simp;done)|(simp;omega)) (by first|omega|(simp;done)|(simp;omega)) (by first|omega|(simp;done)|(simp;omega)) (by first|omega|(simp;done)|(simp;omega)) (by first|omega|(simp;done)|(simp;omega)) (by first|omega|(simp;done)|(simp;omega)) (by first|omega|(simp;done)|(simp;omega)) (by first|omega|(simp;done)|(simp;omega)) r7 hr7) FF rfl rfl ⟨⟨_,rfl,.inl ⟨rfl,rfl⟩⟩,⟨_,rfl,.inr (.c (.d _))⟩,⟨_,rfl,.inr (.c (.d _))⟩,⟨_,rfl,.inr (.c (.d _))⟩,⟨_,rfl,.inr (.c (.d _))⟩,trivial⟩ ⟨rfl,trivial⟩ rfl rfl ⟨.inr ⟨_,_,_,rfl,by first|(simp;omega)|(simp only [List.length_map];omega)⟩,trivial⟩ rfl rfl rfl trivial ⟨(fun _ _ _ _=>trivial),trivial⟩ rfl rfl rfl rfl) rfl ?_
  refine af ?_
  refine ag ?_
  refine cw 199 ((decide ((↑a:Int) < (↑s:Int))) && (decide ((↑s:Int) < (↑mid:Int)))) ?_ ?_
  ·
   refine ax ?_
   refine ad aa 4 rfl ?_
   refine bE (t:=195) rfl (fun hb30=>?_) (fun hb30=>?_)
   ·
    have hb30':=of_decide_eq_true hb30
    refine ad aa 4 rfl ?_
    refine af ?_
    exact aH.bD 9 rfl rfl (by first|(simp [hb30];done)|(simp_all;done)|(exfalso;simp_all;done)|(simp_all;omega)) rfl
   have hb30':=of_decide_eq_false hb30
   refine ad aa 4 rfl ?_
   refine af ?_
   exact aH.bD 9 rfl rfl (by first|(simp [hb30];done)|(simp_all;done)|(exfalso;simp_all;done)|(simp_all;omega)) rfl
  refine aj rfl (fun hc31=>?_) (fun hc31=>?_)
  ·
   have hc31':=hc31;try simp only [br,bR] at hc31'
   refine ax ?_
   refine ad aa 5 rfl ?_
   obtain ⟨r8,hr8⟩:∃ (r8:List ah),dH f a s mid r7=r8:=⟨_,rfl⟩
   have hlr8:r8.length=r7.length:=by rw [<-hr8];exact eW _ _ _ _ _
   refine aQ 1 [0] (dS id id (ih (↑a:Int) (↑s:Int) (↑mid:Int) r7 N a s mid fn bg hp hen (by first|omega|(simp;done)|(simp;omega)) (by first|omega|(simp;done)|(simp;omega)) (by first|omega|(simp;done)|(simp;omega)) (by first|omega|(simp;done)|(simp;omega)) (by first|omega|(simp;done)|(simp;omega)) (by first|omega|(simp;done)|(simp;omega)) (by first|omega|(simp;done)|(simp;omega)) (by first|omega|(simp;done)|(simp;omega)) (by first|omega|(simp;done)|(simp;omega)) r8 hr8) kj rfl rfl ⟨⟨_,rfl,.inl ⟨rfl,rfl⟩⟩,⟨_,rfl,.inr (.c (.d _))⟩,⟨_,rfl,.inr (.c (.d _))⟩,⟨_,rfl,.inr (.c (.d _))⟩,⟨_,rfl,.inr (.c (.d _))⟩,trivial⟩ ⟨rfl,trivial⟩ rfl rfl ⟨.inr ⟨_,_,_,rfl,by first|(simp;omega)|(simp only [List.length_map];omega)⟩,trivial⟩ rfl rfl rfl trivial ⟨(fun _ _ _ _=>trivial),trivial⟩ rfl rfl rfl rfl) rfl ?_
   refine af ?_
   refine cw 213 ((decide ((↑mid:Int) < (↑e:Int))) && (decide ((↑e:Int) < (↑b:Int)))) ?_ ?_
   ·
    refine ax ?_
    refine ad aa 4 rfl ?_
    refine bE (t:=209) rfl (fun hb32=>?_) (fun hb32=>?_)
    ·
     have hb32':=of_decide_eq_true hb32
     refine ad aa 4 rfl ?_
     refine af ?_
     exact aH.bD 9 rfl rfl (by first|(simp [hb32];done)|(simp_all;done)|(exfalso;simp_all;done)|(simp_all;omega)) rfl
    have hb32':=of_decide_eq_false hb32
    refine ad aa 4 rfl ?_
    refine af ?_
    exact aH.bD 9 rfl rfl (by first|(simp [hb32];done)|(simp_all;done)|(exfalso;simp_all;done)|(simp_all;omega)) rfl
   refine aj rfl (fun hc33=>?_) (fun hc33=>?_)
   ·
    have hc33':=hc33;try simp only [br,bR] at hc33'
    refine ax ?_
    refine ad aa 5 rfl ?_
    obtain ⟨r9,hr9⟩:∃ (r9:List ah),dH f mid e b r8=r9:=⟨_,rfl⟩
    have hlr9:r9.length=r8.length:=by rw [<-hr9];exact eW _ _ _ _ _
    refine aQ 1 [0] (dS id id (ih (↑mid:Int) (↑e:Int) (↑b:Int) r8 N mid e b fn bg hp hen (by first|omega|(simp;done)|(simp;omega)) (by first|omega|(simp;done)|(simp;omega)) (by first|omega|(simp;done)|(simp;omega)) (by first|omega|(simp;done)|(simp;omega)) (by first|omega|(simp;done)|(simp;omega)) (by first|omega|(simp;done)|(simp;omega)) (by first|omega|(simp;done)|(simp;omega)) (by first|omega|(simp;done)|(simp;omega)) (by first|omega|(simp;done)|(simp;omega)) r9 hr9) kj rfl rfl ⟨⟨_,rfl,.inl ⟨rfl,rfl⟩⟩,⟨_,rfl,.inr (.c (.d _))⟩,⟨_,rfl,.inr (.c (.d _))⟩,⟨_,rfl,.inr (.c (.d _))⟩,⟨_,rfl,.inr (.c (.d _))⟩,trivial⟩ ⟨rfl,trivial⟩ rfl rfl ⟨.inr ⟨_,_,_,rfl,by first|(simp;omega)|(simp only [List.length_map];omega)⟩,trivial⟩ rfl rfl rfl trivial ⟨(fun _ _ _ _=>trivial),trivial⟩ rfl rfl rfl rfl) rfl ?_
    refine bZ ?_
    have hX:dH (f+1) a m b d=r9:=by
      exact dY (mid:=mid) (s:=s) (e:=e) (d1:=r7) (d2:=r8) (by omega) (by omega) hmid (by unfold ew;rw [<-hmid,<-eT (p:=(fun c=>!dC d (mid+m - 1 - c) c)) (i:=s) (j:=u1) (by omega),hi4_3];first|exact if_pos (by omega)|exact if_neg (by omega)) he.symm (by unfold fi;rw [if_pos (by omega)];exact hr7) (by rw [if_pos (by omega)];exact hr8) (by rw [if_pos (by omega)];exact hr9)
    rw [hX] at hr;clear hX
    subst hr
    refine cO aa [0] 1 rfl rfl rfl rfl rfl rfl ?_ ?_
    all_goals first|rfl|(simp [aw];done)|(simp [aw];omega)
   have hc33':=hc33;try simp only [br,bR] at hc33'
   refine da ?_
   have hX:dH (f+1) a m b d=r8:=by
     exact dY (mid:=mid) (s:=s) (e:=e) (d1:=r7) (d2:=r8) (by omega) (by omega) hmid (by unfold ew;rw [<-hmid,<-eT (p:=(fun c=>!dC d (mid+m - 1 - c) c)) (i:=s) (j:=u1) (by omega),hi4_3];first|exact if_pos (by omega)|exact if_neg (by omega)) he.symm (by unfold fi;rw [if_pos (by omega)];exact hr7) (by rw [if_pos (by omega)];exact hr8) (by rw [if_neg (by omega)])
   rw [hX] at hr;clear hX
   subst hr
   refine cO aa [0] 1 rfl rfl rfl rfl rfl rfl ?_ ?_
   all_goals first|rfl|(simp [aw];done)|(simp [aw];omega)
  have hc31':=hc31;try simp only [br,bR] at hc31'
  refine aS ?_
  refine cw 213 ((decide ((↑mid:Int) < (↑e:Int))) && (decide ((↑e:Int) < (↑b:Int)))) ?_ ?_
  ·
   refine ax ?_
   refine ad aa 4 rfl ?_
   refine bE (t:=209) rfl (fun hb34=>?_) (fun hb34=>?_)
   ·
    have hb34':=of_decide_eq_true hb34
    refine ad aa 4 rfl ?_
    refine af ?_
    exact aH.bD 9 rfl rfl (by first|(simp [hb34];done)|(simp_all;done)|(exfalso;simp_all;done)|(simp_all;omega)) rfl
   have hb34':=of_decide_eq_false hb34
   refine ad aa 4 rfl ?_
   refine af ?_
   exact aH.bD 9 rfl rfl (by first|(simp [hb34];done)|(simp_all;done)|(exfalso;simp_all;done)|(simp_all;omega)) rfl
  refine aj rfl (fun hc35=>?_) (fun hc35=>?_)
  ·
   have hc35':=hc35;try simp only [br,bR] at hc35'
   refine ax ?_
   refine ad aa 5 rfl ?_
   obtain ⟨r10,hr10⟩:∃ (r10:List ah),dH f mid e b r7=r10:=⟨_,rfl⟩
   have hlr10:r10.length=r7.length:=by rw [<-hr10];exact eW _ _ _ _ _
   refine aQ 1 [0] (dS id id (ih (↑mid:Int) (↑e:Int) (↑b:Int) r7 N mid e b fn bg hp hen (by first|omega|(simp;done)|(simp;omega)) (by first|omega|(simp;done)|(simp;omega)) (by first|omega|(simp;done)|(simp;omega)) (by first|omega|(simp;done)|(simp;omega)) (by first|omega|(simp;done)|(simp;omega)) (by first|omega|(simp;done)|(simp;omega)) (by first|omega|(simp;done)|(simp;omega)) (by first|omega|(simp;done)|(simp;omega)) (by first|omega|(simp;done)|(simp;omega)) r10 hr10) kj rfl rfl ⟨⟨_,rfl,.inl ⟨rfl,rfl⟩⟩,⟨_,rfl,.inr (.c (.d _))⟩,⟨_,rfl,.inr (.c (.d _))⟩,⟨_,rfl,.inr (.c (.d _))⟩,⟨_,rfl,.inr (.c (.d _))⟩,trivial⟩ ⟨rfl,trivial⟩ rfl rfl ⟨.inr ⟨_,_,_,rfl,by first|(simp;omega)|(simp only [List.length_map];omega)⟩,trivial⟩ rfl rfl rfl trivial ⟨(fun _ _ _ _=>trivial),trivial⟩ rfl rfl rfl rfl) rfl ?_
   refine bZ ?_
   have hX:dH (f+1) a m b d=r10:=by
     exact dY (mid:=mid) (s:=s) (e:=e) (d1:=r7) (d2:=r7) (by omega) (by omega) hmid (by unfold ew;rw [<-hmid,<-eT (p:=(fun c=>!dC d (mid+m - 1 - c) c)) (i:=s) (j:=u1) (by omega),hi4_3];first|exact if_pos (by omega)|exact if_neg (by omega)) he.symm (by unfold fi;rw [if_pos (by omega)];exact hr7) (by rw [if_neg (by omega)]) (by rw [if_pos (by omega)];exact hr10)
   rw [hX] at hr;clear hX
   subst hr
   refine cO aa [0] 1 rfl rfl rfl rfl rfl rfl ?_ ?_
   all_goals first|rfl|(simp [aw];done)|(simp [aw];omega)
  have hc35':=hc35;try simp only [br,bR] at hc35'
  refine da ?_
  have hX:dH (f+1) a m b d=r7:=by
    exact dY (mid:=mid) (s:=s) (e:=e) (d1:=r7) (d2:=r7) (by omega) (by omega) hmid (by unfold ew;rw [<-hmid,<-eT (p:=(fun c=>!dC d (mid+m - 1 - c) c)) (i:=s) (j:=u1) (by omega),hi4_3];first|exact if_pos (by omega)|exact if_neg (by omega)) he.symm (by unfold fi;rw [if_pos (by omega)];exact hr7) (by rw [if_neg (by omega)]) (by rw [if_neg (by omega)])
  rw [hX] at hr;clear hX
  subst hr
  refine cO aa [0] 1 rfl rfl rfl rfl rfl rfl ?_ ?_
  all_goals first|rfl|(simp [aw];done)|(simp [aw];omega)
 have hc29':=hc29;try simp only [br,bR] at hc29'
 refine aS ?_
 refine ag ?_
 refine cw 199 ((decide ((↑a:Int) < (↑s:Int))) && (decide ((↑s:Int) < (↑mid:Int)))) ?_ ?_
 ·
  refine ax ?_
  refine ad aa 4 rfl ?_
  refine bE (t:=195) rfl (fun hb36=>?_) (fun hb36=>?_)
  ·
   have hb36':=of_decide_eq_true hb36
   refine ad aa 4 rfl ?_
   refine af ?_
   exact aH.bD 9 rfl rfl (by first|(simp [hb36];done)|(simp_all;done)|(exfalso;simp_all;done)|(simp_all;omega)) rfl
  have hb36':=of_decide_eq_false hb36
  refine ad aa 4 rfl ?_
  refine af ?_
  exact aH.bD 9 rfl rfl (by first|(simp [hb36];done)|(simp_all;done)|(exfalso;simp_all;done)|(simp_all;omega)) rfl
 refine aj rfl (fun hc37=>?_) (fun hc37=>?_)
 ·
  have hc37':=hc37;try simp only [br,bR] at hc37'
  refine ax ?_
  refine ad aa 5 rfl ?_
  obtain ⟨r11,hr11⟩:∃ (r11:List ah),dH f a s mid d=r11:=⟨_,rfl⟩
  have hlr11:r11.length=d.length:=by rw [<-hr11];exact eW _ _ _ _ _
  refine aQ 1 [0] (dS id id (ih (↑a:Int) (↑s:Int) (↑mid:Int) d N a s mid fn bg hp hen (by first|omega|(simp;done)|(simp;omega)) (by first|omega|(simp;done)|(simp;omega)) (by first|omega|(simp;done)|(simp;omega)) (by first|omega|(simp;done)|(simp;omega)) (by first|omega|(simp;done)|(simp;omega)) (by first|omega|(simp;done)|(simp;omega)) (by first|omega|(simp;done)|(simp;omega)) (by first|omega|(simp;done)|(simp;omega)) (by first|omega|(simp;done)|(simp;omega)) r11 hr11) kj rfl rfl ⟨⟨_,rfl,.inl ⟨rfl,rfl⟩⟩,⟨_,rfl,.inr (.c (.d _))⟩,⟨_,rfl,.inr (.c (.d _))⟩,⟨_,rfl,.inr (.c (.d _))⟩,⟨_,rfl,.inr (.c (.d _))⟩,trivial⟩ ⟨rfl,trivial⟩ rfl rfl ⟨.inr ⟨_,_,_,rfl,by first|(simp;omega)|(simp only [List.length_map];omega)⟩,trivial⟩ rfl rfl rfl trivial ⟨(fun _ _ _ _=>trivial),trivial⟩ rfl rfl rfl rfl) rfl ?_
  refine af ?_
  refine cw 213 ((decide ((↑mid:Int) < (↑e:Int))) && (decide ((↑e:Int) < (↑b:Int)))) ?_ ?_
  ·
   refine ax ?_
   refine ad aa 4 rfl ?_
   refine bE (t:=209) rfl (fun hb38=>?_) (fun hb38=>?_)
   ·
    have hb38':=of_decide_eq_true hb38
    refine ad aa 4 rfl ?_
    refine af ?_
    exact aH.bD 9 rfl rfl (by first|(simp [hb38];done)|(simp_all;done)|(exfalso;simp_all;done)|(simp_all;omega)) rfl
   have hb38':=of_decide_eq_false hb38
   refine ad aa 4 rfl ?_
   refine af ?_
   exact aH.bD 9 rfl rfl (by first|(simp [hb38];done)|(simp_all;done)|(exfalso;simp_all;done)|(simp_all;omega)) rfl
  refine aj rfl (fun hc39=>?_) (fun hc39=>?_)
  ·
   have hc39':=hc39;try simp only [br,bR] at hc39'
   refine ax ?_
   refine ad aa 5 rfl ?_
   obtain ⟨r12,hr12⟩:∃ (r12:List ah),dH f mid e b r11=r12:=⟨_,rfl⟩
   have hlr12:r12.length=r11.length:=by rw [<-hr12];exact eW _ _ _ _ _
   refine aQ 1 [0] (dS id id (ih (↑mid:Int) (↑e:Int) (↑b:Int) r11 N mid e b fn bg hp hen (by first|omega|(simp;done)|(simp;omega)) (by first|omega|(simp;done)|(simp;omega)) (by first|omega|(simp;done)|(simp;omega)) (by first|omega|(simp;done)|(simp;omega)) (by first|omega|(simp;done)|(simp;omega)) (by first|omega|(simp;done)|(simp;omega)) (by first|omega|(simp;done)|(simp;omega)) (by first|omega|(simp;done)|(simp;omega)) (by first|omega|(simp;done)|(simp;omega)) r12 hr12) kj rfl rfl ⟨⟨_,rfl,.inl ⟨rfl,rfl⟩⟩,⟨_,rfl,.inr (.c (.d _))⟩,⟨_,rfl,.inr (.c (.d _))⟩,⟨_,rfl,.inr (.c (.d _))⟩,⟨_,rfl,.inr (.c (.d _))⟩,trivial⟩ ⟨rfl,trivial⟩ rfl rfl ⟨.inr ⟨_,_,_,rfl,by first|(simp;omega)|(simp only [List.length_map];omega)⟩,trivial⟩ rfl rfl rfl trivial ⟨(fun _ _ _ _=>trivial),trivial⟩ rfl rfl rfl rfl) rfl ?_
   refine bZ ?_
   have hX:dH (f+1) a m b d=r12:=by
     exact dY (mid:=mid) (s:=s) (e:=e) (d1:=d) (d2:=r11) (by omega) (by omega) hmid (by unfold ew;rw [<-hmid,<-eT (p:=(fun c=>!dC d (mid+m - 1 - c) c)) (i:=s) (j:=u1) (by omega),hi4_3];first|exact if_pos (by omega)|exact if_neg (by omega)) he.symm (by unfold fi;rw [if_neg (by omega)]) (by rw [if_pos (by omega)];exact hr11) (by rw [if_pos (by omega)];exact hr12)
   rw [hX] at hr;clear hX
   subst hr
   refine cO aa [0] 1 rfl rfl rfl rfl rfl rfl ?_ ?_
   all_goals first|rfl|(simp [aw];done)|(simp [aw];omega)
  have hc39':=hc39;try simp only [br,bR] at hc39'
  refine da ?_
  have hX:dH (f+1) a m b d=r11:=by
    exact dY (mid:=mid) (s:=s) (e:=e) (d1:=d) (d2:=r11) (by omega) (by omega) hmid (by unfold ew;rw [<-hmid,<-eT (p:=(fun c=>!dC d (mid+m - 1 - c) c)) (i:=s) (j:=u1) (by omega),hi4_3];first|exact if_pos (by omega)|exact if_neg (by omega)) he.symm (by unfold fi;rw [if_neg (by omega)]) (by rw [if_pos (by omega)];exact hr11) (by rw [if_neg (by omega)])
  rw [hX] at hr;clear hX
  subst hr
  refine cO aa [0] 1 rfl rfl rfl rfl rfl rfl ?_ ?_
  all_goals first|rfl|(simp [aw];done)|(simp [aw];omega)
 have hc37':=hc37;try simp only [br,bR] at hc37'
 refine aS ?_
 refine cw 213 ((decide ((↑mid:Int) < (↑e:Int))) && (decide ((↑e:Int) < (↑b:Int)))) ?_ ?_
 ·
  refine ax ?_
  refine ad aa 4 rfl ?_
  refine bE (t:=209) rfl (fun hb40=>?_) (fun hb40=>?_)
  ·
   have hb40':=of_decide_eq_true hb40
   refine ad aa 4 rfl ?_
   refine af ?_
   exact aH.bD 9 rfl rfl (by first|(simp [hb40];done)|(simp_all;done)|(exfalso;simp_all;done)|(simp_all;omega)) rfl
  have hb40':=of_decide_eq_false hb40
  refine ad aa 4 rfl ?_
  refine af ?_
  exact aH.bD 9 rfl rfl (by first|(simp [hb40];done)|(simp_all;done)|(exfalso;simp_all;done)|(simp_all;omega)) rfl
 refine aj rfl (fun hc41=>?_) (fun hc41=>?_)
 ·
  have hc41':=hc41;try simp only [br,bR] at hc41'
  refine ax ?_
  refine ad aa 5 rfl ?_
  obtain ⟨r13,hr13⟩:∃ (r13:List ah),dH f mid e b d=r13:=⟨_,rfl⟩
  have hlr13:r13.length=d.length:=by rw [<-hr13];exact eW _ _ _ _ _
  refine aQ 1 [0] (dS id id (ih (↑mid:Int) (↑e:Int) (↑b:Int) d N mid e b fn bg hp hen (by first|omega|(simp;done)|(simp;omega)) (by first|omega|(simp;done)|(simp;omega)) (by first|omega|(simp;done)|(simp;omega)) (by first|omega|(simp;done)|(simp;omega)) (by first|omega|(simp;done)|(simp;omega)) (by first|omega|(simp;done)|(simp;omega)) (by first|omega|(simp;done)|(simp;omega)) (by first|omega|(simp;done)|(simp;omega)) (by first|omega|(simp;done)|(simp;omega)) r13 hr13) kj rfl rfl ⟨⟨_,rfl,.inl ⟨rfl,rfl⟩⟩,⟨_,rfl,.inr (.c (.d _))⟩,⟨_,rfl,.inr (.c (.d _))⟩,⟨_,rfl,.inr (.c (.d _))⟩,⟨_,rfl,.inr (.c (.d _))⟩,trivial⟩ ⟨rfl,trivial⟩ rfl rfl ⟨.inr ⟨_,_,_,rfl,by first|(simp;omega)|(simp only [List.length_map];omega)⟩,trivial⟩ rfl rfl rfl trivial ⟨(fun _ _ _ _=>trivial),trivial⟩ rfl rfl rfl rfl) rfl ?_
  refine bZ ?_
  have hX:dH (f+1) a m b d=r13:=by
    exact dY (mid:=mid) (s:=s) (e:=e) (d1:=d) (d2:=d) (by omega) (by omega) hmid (by unfold ew;rw [<-hmid,<-eT (p:=(fun c=>!dC d (mid+m - 1 - c) c)) (i:=s) (j:=u1) (by omega),hi4_3];first|exact if_pos (by omega)|exact if_neg (by omega)) he.symm (by unfold fi;rw [if_neg (by omega)]) (by rw [if_neg (by omega)]) (by rw [if_pos (by omega)];exact hr13)
  rw [hX] at hr;clear hX
  subst hr
  refine cO aa [0] 1 rfl rfl rfl rfl rfl rfl ?_ ?_
  all_goals first|rfl|(simp [aw];done)|(simp [aw];omega)
 have hc41':=hc41;try simp only [br,bR] at hc41'
 refine da ?_
 have hX:dH (f+1) a m b d=d:=by
   exact dY (mid:=mid) (s:=s) (e:=e) (d1:=d) (d2:=d) (by omega) (by omega) hmid (by unfold ew;rw [<-hmid,<-eT (p:=(fun c=>!dC d (mid+m - 1 - c) c)) (i:=s) (j:=u1) (by omega),hi4_3];first|exact if_pos (by omega)|exact if_neg (by omega)) he.symm (by unfold fi;rw [if_neg (by omega)]) (by rw [if_neg (by omega)]) (by rw [if_neg (by omega)])
 rw [hX] at hr;clear hX
 subst hr
 refine cO aa [0] 1 rfl rfl rfl rfl rfl rfl ?_ ?_
 all_goals first|rfl|(simp [aw];done)|(simp [aw];omega)
theorem zp:∀ (f:Nat) (ai mi bi:Int) (d:List ah) (N a m b:Nat) (fn:FuncId) (bg:List (List D)) (hp:∀ x y:ah,Fn Try.prog fn ([.g [cI x.aE,cI x.ba,cI x.kind,cI x.sum],.g [cI y.aE,cI y.ba,cI y.kind,cI y.sum]]++bg.map fun r=>GV.c (.q r 0)) (aI (ic x y)) []) (hen:bl Try.prog fn) (ea_:ai=(↑a:Int)) (em_:mi=(↑m:Int)) (eb_:bi=(↑b:Int)) (hl:d.length * 32<=140737488355328) (hN:N=d.length) (h0_:a < m) (h1_:m < b) (h2_:b<=d.length) (h3_:b - a<=f) (r:List ah) (hr:dH f a m b d=r),cJ Try.prog 73 [(.c (.s 0 0 4 N)),(.c (cI ai)),(.c (cI mi)),(.c (cI bi)),(.c (.d (.f fn bg)))] [(0,(cM d))] [0] (.t []) [(0,(cM r))]:=by
  intro f
  induction f with
  |zero=>intro ai mi bi d N a m b fn bg hp hen ea_ em_ eb_ hl hN h0_ h1_ h2_ h3_;exfalso;omega
  |succ f ih=>
    intro ai mi bi d N a m b fn bg hp hen ea_ em_ eb_ hl hN h0_ h1_ h2_ h3_ r hr
    subst ea_ em_ eb_
    exact zo f ih d N a m b fn bg hp hen hl hN h0_ h1_ h2_ h3_ r hr
theorem Bi (ai mi bi:Int) (d:List ah) (N a m b:Nat) (fn:FuncId) (bg:List (List D)) (hp:∀ x y:ah,Fn Try.prog fn ([.g [cI x.aE,cI x.ba,cI x.kind,cI x.sum],.g [cI y.aE,cI y.ba,cI y.kind,cI y.sum]]++bg.map fun r=>GV.c (.q r 0)) (aI (ic x y)) []) (hen:bl Try.prog fn) (ea_:ai=(↑a:Int)) (em_:mi=(↑m:Int)) (eb_:bi=(↑b:Int)) (hl:d.length * 32<=140737488355328) (hN:N=d.length) (h0_:a < m) (h1_:m < b) (h2_:b<=d.length) (r:List ah) (hr:dH (b - a) a m b d=r):cJ Try.prog 73 [(.c (.s 0 0 4 N)),(.c (cI ai)),(.c (cI mi)),(.c (cI bi)),(.c (.d (.f fn bg)))] [(0,(cM d))] [0] (.t []) [(0,(cM r))]:=zp (b - a) ai mi bi d N a m b fn bg hp hen ea_ em_ eb_ hl hN h0_ h1_ h2_ (Nat.le_refl _) r hr

theorem xp (d:List ah) (N a b:Nat) (fn:FuncId) (bg:List (List D)) (hp:∀ x y:ah,Fn Try.prog fn ([.g [cI x.aE,cI x.ba,cI x.kind,cI x.sum],.g [cI y.aE,cI y.ba,cI y.kind,cI y.sum]]++bg.map fun r=>GV.c (.q r 0)) (aI (ic x y)) []) (hen:bl Try.prog fn) (hl:d.length * 32<=140737488355328) (hN:N=d.length) (h0_:a<=b) (h1_:b<=d.length) (r:List ah) (hr:js a (b - (a+1)) d=r):cJ Try.prog 72 [(.c (.s 0 0 4 N)),(.c (cI (↑a:Int))),(.c (cI (↑b:Int))),(.c (.d (.f fn bg)))] [(0,(cM d))] [0] (.t []) [(0,(cM r))]:=by
 refine cJ.mk 53 [(0,(aC (.s 0 0 4 N))),(1,(aI (↑a:Int))),(2,(aI (↑b:Int))),(3,(aC (.d (.f fn bg))))] 1 Try.func72 rfl rfl rfl rfl rfl rfl rfl rfl rfl ?_
 intro W0 F0 T0 pg
 refine gJ 0 rfl (fun hlen0=>?_)
 refine aF aa 1 rfl ?_
 refine aA (aM rfl rfl rfl (aL (by first|omega|(simp;done)|(simp;omega)))) rfl ?_
 refine ad aa 1 rfl ?_
 refine af ?_
 refine aY ?_
 refine cE (β:=Nat×List ah) (fun (p:Nat×List ah)=>match p with|(i,d1)=>⟨[(0,(aC (.s 0 0 4 N))),(1,(aI (↑a:Int))),(2,(aI (↑b:Int))),(3,(aC (.d (.f fn bg)))),(8,(aI (↑i:Int)))],[(0,(cM d1))],1⟩) (fun (p:Nat×List ah)=>match p with|(i,d1)=>a+1<=i/\(i<=b\/i=a+1)/\d1=js a (i - (a+1)) d/\d1.length=d.length) (fun (p:Nat×List ah)=>match p with|(i,d1)=>b - i) (a+1,d) ?_ ?_ ?_
 ·exact ⟨by omega,by omega,by rw [Nat.sub_self];rfl,rfl⟩
 ·exact aH.ca id (by refine ⟨?_,?_,?_,?_,?_,trivial⟩<;>first|rfl|(simp only [bu];done)|(congr 3;omega)|(congr 4;omega)|(simp only [bw];rfl)|(exact cK rfl (by omega))) (⟨by first|rfl|(simp only [bu];done)|(congr 3;omega)|(congr 4;omega)|(simp only [bw];rfl),trivial⟩) rfl
 rintro ⟨i,d1⟩ ⟨hi0_0,hi0_1,hi0_2,hi0_3⟩
 refine ag ?_
 refine ae aa 3 rfl ?_
 refine aj rfl (fun hc1=>?_) (fun hc1=>?_)
 ·
  have hc1':=of_decide_eq_true hc1
  refine aS ?_
  refine ag ?_
  refine aY ?_
  refine ae aa 2 rfl ?_
  refine aY ?_
  refine cE (β:=Nat×List ah) (fun (p:Nat×List ah)=>match p with|(j,d2)=>⟨[(0,(aC (.s 0 0 4 N))),(1,(aI (↑a:Int))),(2,(aI (↑b:Int))),(3,(aC (.d (.f fn bg)))),(8,(aI (↑i:Int))),(9,(aI (↑j:Int)))],[(0,(cM d2))],1⟩) (fun (p:Nat×List ah)=>match p with|(j,d2)=>a<=j/\j<=i/\jF a j d2=jF a i d1/\d2.length=d.length) (fun (p:Nat×List ah)=>match p with|(j,d2)=>j) (i,d1) ?_ ?_ ?_
  ·exact ⟨by omega,by omega,rfl,by omega⟩
  ·exact aH.ca id (by refine ⟨?_,?_,?_,?_,?_,?_,trivial⟩<;>first|rfl|(simp only [bu];done)|(congr 3;omega)|(congr 4;omega)|(simp only [bw];rfl)|(exact cK rfl (by omega))) (⟨by first|rfl|(simp only [bu];done)|(congr 3;omega)|(congr 4;omega)|(simp only [bw];rfl),trivial⟩) rfl
  rintro ⟨j,d2⟩ ⟨hi1_0,hi1_1,hi1_2,hi1_3⟩
  refine ag ?_
  refine ag ?_
  rcases Bool.eq_false_or_eq_true (decide ((↑j:Int) > (↑a:Int))) with hb2|hb2
  ·
   have hb2':=of_decide_eq_true hb2
   obtain ⟨x1,hx1⟩:=cf (xs:=d2) (i:=j) (by first|omega|(simp;done)|(simp;omega))
   obtain ⟨x2,hx2⟩:=cf (xs:=d2) (i:=(j) - 1) (by first|omega|(simp;done)|(simp;omega))
   refine aX [0,1,2,3,8,9] [0] mixed rfl rfl ?_
   refine aD (kn:=[(20,true)]) aa 7 rfl ⟨hb2,trivial⟩ ?_
   refine aT (n':=1) [23,24,21] [0] rfl rfl (.inl ⟨(ak.yes rfl rfl rfl),aK.cast (bz (i:=j) rfl rfl rfl Try.underlying42 dn (by first|omega|(simp;done)|(simp;omega)) (by first|omega|(simp;done)|(simp;omega))) rfl⟩) rfl ?_
   refine aT (n':=1) [25,21] [0] rfl rfl (.inl ⟨(ak.yes rfl rfl rfl),aK.cast (dm rfl rfl rfl Try.underlying83 rfl dn (bp hx1) rfl) rfl⟩) rfl ?_
   refine aD (kn:=[]) aa 2 rfl trivial ?_
   refine aT (n':=1) [28,21] [] rfl rfl (.inl ⟨(ak.yes rfl rfl rfl),aK.cast (aM rfl rfl rfl (aL (by first|omega|(simp;done)|(simp;omega)))) rfl⟩) rfl ?_
   refine aT (n':=1) [27,29,21] [0] rfl rfl (.inl ⟨(ak.yes rfl rfl rfl),aK.cast (bz (i:=(j) - 1) rfl rfl rfl Try.underlying42 dn (by first|omega|(simp;done)|(simp;omega)) (by first|omega|(simp;done)|(simp;omega))) rfl⟩) rfl ?_
   refine aT (n':=1) [30,21] [0] rfl rfl (.inl ⟨(ak.yes rfl rfl rfl),aK.cast (dm rfl rfl rfl Try.underlying83 rfl dn (bp hx2) rfl) rfl⟩) rfl ?_
   refine aT (n':=1) [22,26,31,21] [] rfl rfl (.inl ⟨(ak.yes rfl rfl rfl),aK.cast (gZ (ins:=[(.g [(cI x1.aE),(cI x1.ba),(cI x1.kind),(cI x1.sum)]),(.g [(cI x2.aE),(cI x2.ba),(cI x2.kind),(cI x2.sum)])]) 1 (hp x1 x2) hen rfl rfl rfl ⟨⟨_,rfl,.g ⟨.d _,.d _,.d _,.d _,trivial⟩⟩,⟨_,rfl,.g ⟨.d _,.d _,.d _,.d _,trivial⟩⟩,trivial⟩ trivial trivial rfl rfl rfl rfl) rfl⟩) rfl ?_
   refine aD (kn:=[]) aa 2 rfl trivial ?_
   refine bA [0] rfl rfl rfl rfl (by kernel_rfl) ?_
   refine af ?_
   refine aj rfl (fun hc3=>?_) (fun hc3=>?_)
   ·
    have hc3':=of_decide_eq_true hc3
    refine aS ?_
    refine ag ?_
    refine aY ?_
    obtain ⟨x3,hx3⟩:=cf (xs:=((d2).set j x2)) (i:=(j) - 1) (by first|omega|(simp;done)|(simp;omega))
    refine df [0,1,2,3,8,9] [0] mixed rfl rfl ?_
    refine bT (kn:=[]) aa 4 rfl trivial ?_
    refine bW (n':=1) [40] [] rfl rfl (.inl ⟨(ak.plain rfl),aK.cast (aM rfl rfl rfl (aL (by first|omega|(simp;done)|(simp;omega)))) rfl⟩) rfl ?_
    refine bT (kn:=[]) aa 2 rfl trivial ?_
    refine bW (n':=1) [43] [] rfl rfl (.inl ⟨(ak.plain rfl),aK.cast (aM rfl rfl rfl (aL (by first|omega|(simp;done)|(simp;omega)))) rfl⟩) rfl ?_
    refine bW (n':=1) [42,44] [0] rfl rfl (.inl ⟨(ak.plain rfl),aK.cast (bz (i:=(j) - 1) rfl rfl rfl Try.underlying42 dn (by first|omega|(simp;done)|(simp;omega)) (by first|omega|(simp;done)|(simp;omega))) rfl⟩) rfl ?_
    refine bW (n':=1) [45] [0] rfl rfl (.inl ⟨(ak.plain rfl),aK.cast (dm rfl rfl rfl Try.underlying83 rfl dn (bp hx2) rfl) rfl⟩) rfl ?_
    refine bT (kn:=[]) aa 2 rfl trivial ?_
    refine bW (n':=1) [47,48] [0] rfl rfl (.inl ⟨(ak.plain rfl),aK.cast (bz (i:=j) rfl rfl rfl Try.underlying42 dn (by first|omega|(simp;done)|(simp;omega)) (by first|omega|(simp;done)|(simp;omega))) rfl⟩) rfl ?_
    refine bW (n':=1) [49] [0] rfl rfl (.inl ⟨(ak.plain rfl),aK.cast (dm rfl rfl rfl Try.underlying83 rfl dn (bp hx1) rfl) rfl⟩) rfl ?_
    refine bW (n':=1) [37,38] [0] rfl rfl (.inl ⟨(ak.plain rfl),aK.cast (bz (i:=j) rfl rfl rfl Try.underlying42 dn (by first|omega|(simp;done)|(simp;omega)) (by first|omega|(simp;done)|(simp;omega))) rfl⟩) rfl ?_
    refine bW (n':=1) [51,46] [0] rfl rfl (.inl ⟨(ak.plain rfl),aK.cast (dR (ds:=[(dI x2.aE),(dI x2.ba),(dI x2.kind),(dI x2.sum)]) rfl rfl rfl rfl rfl dn rfl (Nat.le_of_ble_eq_true rfl) (bp hx1) rfl (eX (x':=x2) rfl)) rfl⟩) rfl ?_
    refine bW (n':=1) [39,41] [0] rfl rfl (.inl ⟨(ak.plain rfl),aK.cast (bz (i:=(j) - 1) rfl rfl rfl Try.underlying42 dn (by first|omega|(simp;done)|(simp;omega)) (by first|omega|(simp;done)|(simp;omega))) rfl⟩) rfl ?_
    refine bW (n':=1) [52,50] [0] rfl rfl (.inl ⟨(ak.plain rfl),aK.cast (dR (ds:=[(dI x1.aE),(dI x1.ba),(dI x1.kind),(dI x1.sum)]) rfl rfl rfl rfl rfl dn rfl (Nat.le_of_ble_eq_true rfl) (bp hx3) rfl (eX (x':=x1) rfl)) rfl⟩) rfl ?_
    refine dU [0,1,2,3,8,9] [0] rfl rfl (by kernel_rfl) ?_
    refine bm ?_
    refine then_ok ?_
    refine ax ?_
    refine ad aa 1 rfl ?_
    refine aA (aM rfl rfl rfl (aL (by first|omega|(simp;done)|(simp;omega)))) rfl ?_
    refine ad aa 1 rfl ?_
    refine af ?_
    refine ⟨(j - 1,((d2).set j x2).set ((j) - 1) x1),⟨by omega,by omega,by rw [<-hi1_2,yb (by omega) hx1 hx2 (kB.1 (by assumption)),lT hx1 hx2],by simp only [List.length_set];exact hi1_3⟩,by first|omega|(simp;done)|(simp;omega),aH.ca id (by refine ⟨?_,?_,?_,?_,?_,?_,trivial⟩<;>first|rfl|(simp only [bu];done)|(congr 3;omega)|(congr 4;omega)|(simp only [bw];rfl)|(exact cK rfl (by omega))) (⟨by first|rfl|(simp only [bu];done)|(congr 3;omega)|(congr 4;omega)|(simp only [bw];rfl),trivial⟩) rfl⟩
   have hc3':=of_decide_eq_false hc3
   refine cv ?_
   refine aU ?_
   refine aU ?_
   refine bS ?_
   refine bm ?_
   refine then_ok ?_
   refine ax ?_
   refine ad aa 1 rfl ?_
   refine aA (aM rfl rfl rfl (aL (by first|omega|(simp;done)|(simp;omega)))) rfl ?_
   refine ad aa 1 rfl ?_
   refine af ?_
   refine ⟨(i+1,d2),⟨by omega,by omega,by rw [ue hi0_0,<-hi0_2,<-hi1_2];first|exact (qU (by omega)).symm|exact (oS hx1 hx2 (kC (by assumption))).symm,by omega⟩,by first|omega|(simp;done)|(simp;omega),aH.ca id (by refine ⟨?_,?_,?_,?_,?_,trivial⟩<;>first|rfl|(simp only [bu];done)|(congr 3;omega)|(congr 4;omega)|(simp only [bw];rfl)|(exact cK rfl (by omega))) (⟨by first|rfl|(simp only [bu];done)|(congr 3;omega)|(congr 4;omega)|(simp only [bw];rfl),trivial⟩) rfl⟩
  have hb2':=of_decide_eq_false hb2
  refine aX [0,1,2,3,8,9] [0] mixed rfl rfl ?_
  refine aD (kn:=[(20,false)]) aa 17 rfl ⟨hb2,trivial⟩ ?_
  refine bA [0] rfl rfl rfl rfl (by kernel_rfl) ?_
  refine af ?_
  refine aj rfl (fun hno=>by cases hno) (fun _=>?_)
  refine cv ?_
  refine aU ?_
  refine aU ?_
  refine bS ?_
  refine bm ?_
  refine then_ok ?_
  refine ax ?_
  refine ad aa 1 rfl ?_
  refine aA (aM rfl rfl rfl (aL (by first|omega|(simp;done)|(simp;omega)))) rfl ?_
  refine ad aa 1 rfl ?_
  refine af ?_
  refine ⟨(i+1,d2),⟨by omega,by omega,by rw [ue hi0_0,<-hi0_2,<-hi1_2];first|exact (qU (by omega)).symm|exact (oS hx1 hx2 (kC (by assumption))).symm,by omega⟩,by first|omega|(simp;done)|(simp;omega),aH.ca id (by refine ⟨?_,?_,?_,?_,?_,trivial⟩<;>first|rfl|(simp only [bu];done)|(congr 3;omega)|(congr 4;omega)|(simp only [bw];rfl)|(exact cK rfl (by omega))) (⟨by first|rfl|(simp only [bu];done)|(congr 3;omega)|(congr 4;omega)|(simp only [bw];rfl),trivial⟩) rfl⟩
 have hc1':=of_decide_eq_false hc1
 refine cv ?_
 refine aU ?_
 refine aU ?_
 refine bS ?_
 have hX:js a (b - (a+1)) d=d1:=by
   rw [hi0_2];congr 1;omega
 rw [hX] at hr;clear hX
 subst hr
 refine cO aa [0] 1 rfl rfl rfl rfl rfl rfl ?_ ?_
 all_goals first|rfl|(simp [aw];done)|(simp [aw];omega)
theorem pf (ai bi:Int) (d:List ah) (N a b:Nat) (fn:FuncId) (bg:List (List D)) (hp:∀ x y:ah,Fn Try.prog fn ([.g [cI x.aE,cI x.ba,cI x.kind,cI x.sum],.g [cI y.aE,cI y.ba,cI y.kind,cI y.sum]]++bg.map fun r=>GV.c (.q r 0)) (aI (ic x y)) []) (hen:bl Try.prog fn) (ea_:ai=(↑a:Int)) (eb_:bi=(↑b:Int)) (hl:d.length * 32<=140737488355328) (hN:N=d.length) (h0_:a<=b) (h1_:b<=d.length) (r:List ah) (hr:js a (b - (a+1)) d=r):cJ Try.prog 72 [(.c (.s 0 0 4 N)),(.c (cI ai)),(.c (cI bi)),(.c (.d (.f fn bg)))] [(0,(cM d))] [0] (.t []) [(0,(cM r))]:=by
  subst ea_ eb_
  exact xp d N a b fn bg hp hen hl hN h0_ h1_ r hr

theorem CZ (d:List ah) (N n:Nat) (fn:FuncId) (bg:List (List D)) (hp:∀ x y:ah,Fn Try.prog fn ([.g [cI x.aE,cI x.ba,cI x.kind,cI x.sum],.g [cI y.aE,cI y.ba,cI y.kind,cI y.sum]]++bg.map fun r=>GV.c (.q r 0)) (aI (ic x y)) []) (hen:bl Try.prog fn) (hl:d.length * 32<=140737488355328) (hN:N=d.length) (h0_:n=d.length) (h1_:0 < d.length) (r:List ah) (hr:dF d=r):cJ Try.prog 61 [(.c (.s 0 0 4 N)),(.c (cI (↑n:Int))),(.c (.d (.f fn bg)))] [(0,(cM d))] [0] (.t []) [(0,(cM r))]:=by
 refine cJ.mk 63 [(0,(aC (.s 0 0 4 N))),(1,(aI (↑n:Int))),(2,(aC (.d (.f fn bg))))] 1 Try.func61 rfl rfl rfl rfl rfl rfl rfl rfl rfl ?_
 intro W0 F0 T0 pg
 refine gJ 0 rfl (fun hlen0=>?_)
 refine ae aa 1 rfl ?_
 refine ae aa 3 rfl ?_
 refine ag ?_
 refine aY ?_
 refine cE (β:=Nat×Nat×List ah) (fun (p:Nat×Nat×List ah)=>match p with|(a,b,d1)=>⟨[(0,(aC (.s 0 0 4 N))),(1,(aI (↑n:Int))),(2,(aC (.d (.f fn bg)))),(6,(aI 20)),(7,(aI (↑a:Int))),(8,(aI (↑b:Int)))],[(0,(cM d1))],1⟩) (fun (p:Nat×Nat×List ah)=>match p with|(a,b,d1)=>b=a+20/\a<=n/\tx 20 a d1/\Same d d1/\d1.length=d.length) (fun (p:Nat×Nat×List ah)=>match p with|(a,b,d1)=>n+20 - b) (0,20,d) ?_ ?_ ?_
 ·exact ⟨by omega,by omega,sm (by omega),Same.refl _,rfl⟩
 ·exact aH.ca id (by refine ⟨?_,?_,?_,?_,?_,?_,trivial⟩<;>first|rfl|(simp only [bu];done)|(congr 3;omega)|(congr 4;omega)|(simp only [bw];rfl)|(exact cK rfl (by omega))) (⟨by first|rfl|(simp only [bu];done)|(congr 3;omega)|(congr 4;omega)|(simp only [bw];rfl),trivial⟩) rfl
 rintro ⟨a,b,d1⟩ ⟨hi0_0,hi0_1,hi0_2,hi0_3,hi0_4⟩
 refine ag ?_
 refine ae aa 3 rfl ?_
 refine aj rfl (fun hc1=>?_) (fun hc1=>?_)
 ·
  have hc1':=of_decide_eq_true hc1
  refine aS ?_
  refine aY ?_
  refine aF aa 4 rfl ?_
  obtain ⟨r0,hr0⟩:∃ (r0:List ah),js a (b - (a+1)) d1=r0:=⟨_,rfl⟩
  have hlr0:r0.length=d1.length:=by rw [<-hr0];exact qT _ _ _
  have hp0:Part d1 r0 a b:=by rw [<-hr0];exact uf (by omega) (by omega)
  refine aQ 1 [0] (dS id id (pf (↑a:Int) (↑b:Int) d1 N a b fn bg hp hen (by first|omega|(simp;done)|(simp;omega)) (by first|omega|(simp;done)|(simp;omega)) (by first|omega|(simp;done)|(simp;omega)) (by first|omega|(simp;done)|(simp;omega)) (by first|omega|(simp;done)|(simp;omega)) (by first|omega|(simp;done)|(simp;omega)) r0 hr0) CK rfl rfl ⟨⟨_,rfl,.inl ⟨rfl,rfl⟩⟩,⟨_,rfl,.inr (.c (.d _))⟩,⟨_,rfl,.inr (.c (.d _))⟩,⟨_,rfl,.inr (.c (.d _))⟩,trivial⟩ ⟨rfl,trivial⟩ rfl rfl ⟨.inr ⟨_,_,_,rfl,by first|(simp;omega)|(simp only [List.length_map];omega)⟩,trivial⟩ rfl rfl rfl trivial ⟨(fun _ _ _ _=>trivial),trivial⟩ rfl rfl rfl rfl) rfl ?_
  refine af ?_
  refine ae aa 2 rfl ?_
  refine ax ?_
  refine ad aa 2 rfl ?_
  refine aA (aM rfl rfl rfl (aL (by first|omega|(simp;done)|(simp;omega)))) rfl ?_
  refine ad aa 1 rfl ?_
  refine bZ ?_
  refine bm ?_
  refine then_ok ?_
  refine ⟨(b,b+20,r0),⟨by omega,by omega,by rw [hi0_0] at hp0 ⊢;exact uv (by omega) hi0_2 hp0,hi0_3.trans hp0.m,by omega⟩,by first|omega|(simp;done)|(simp;omega),aH.ca id (by refine ⟨?_,?_,?_,?_,?_,?_,trivial⟩<;>first|rfl|(simp only [bu];done)|(congr 3;omega)|(congr 4;omega)|(simp only [bw];rfl)|(exact cK rfl (by omega))) (⟨by first|rfl|(simp only [bu];done)|(congr 3;omega)|(congr 4;omega)|(simp only [bw];rfl),trivial⟩) rfl⟩
 have hc1':=of_decide_eq_false hc1
 refine cv ?_
 refine aU ?_
 refine aU ?_
 refine bS ?_
 refine then_ok ?_
 refine aF aa 4 rfl ?_
 obtain ⟨r1,hr1⟩:∃ (r1:List ah),js a (n - (a+1)) d1=r1:=⟨_,rfl⟩
 have hlr1:r1.length=d1.length:=by rw [<-hr1];exact qT _ _ _
 have hp1:Part d1 r1 a n:=by rw [<-hr1];exact uf (by omega) (by omega)
 refine aQ 1 [0] (dS id id (pf (↑a:Int) (↑n:Int) d1 N a n fn bg hp hen (by first|omega|(simp;done)|(simp;omega)) (by first|omega|(simp;done)|(simp;omega)) (by first|omega|(simp;done)|(simp;omega)) (by first|omega|(simp;done)|(simp;omega)) (by first|omega|(simp;done)|(simp;omega)) (by first|omega|(simp;done)|(simp;omega)) r1 hr1) CK rfl rfl ⟨⟨_,rfl,.inl ⟨rfl,rfl⟩⟩,⟨_,rfl,.inr (.c (.d _))⟩,⟨_,rfl,.inr (.c (.d _))⟩,⟨_,rfl,.inr (.c (.d _))⟩,trivial⟩ ⟨rfl,trivial⟩ rfl rfl ⟨.inr ⟨_,_,_,rfl,by first|(simp;omega)|(simp only [List.length_map];omega)⟩,trivial⟩ rfl rfl rfl trivial ⟨(fun _ _ _ _=>trivial),trivial⟩ rfl rfl rfl rfl) rfl ?_
 refine af ?_
 refine aY ?_
 refine cE (β:=Nat×List ah) (fun (p:Nat×List ah)=>match p with|(s,d2)=>⟨[(0,(aC (.s 0 0 4 N))),(1,(aI (↑n:Int))),(2,(aC (.d (.f fn bg)))),(6,(aI (↑s:Int)))],[(0,(cM d2))],1⟩) (fun (p:Nat×List ah)=>match p with|(s,d2)=>20<=s/\tw s d2/\Same d d2/\d2.length=d.length) (fun (p:Nat×List ah)=>match p with|(s,d2)=>n - s) (20,r1) ?_ ?_ ?_
 ·exact ⟨by omega,wv (by omega) hi0_2 (by omega) (by rw [show r1.length=n by omega];exact hp1) (by omega),hi0_3.trans hp1.m,by omega⟩
 ·exact aH.ca id (by refine ⟨?_,?_,?_,?_,trivial⟩<;>first|rfl|(simp only [bu];done)|(congr 3;omega)|(congr 4;omega)|(simp only [bw];rfl)|(exact cK rfl (by omega))) (⟨by first|rfl|(simp only [bu];done)|(congr 3;omega)|(congr 4;omega)|(simp only [bw];rfl),trivial⟩) rfl
 rintro ⟨s,d2⟩ ⟨hi1_0,hi1_1,hi1_2,hi1_3⟩
 refine ag ?_
 refine ae aa 3 rfl ?_
 refine aj rfl (fun hc2=>?_) (fun hc2=>?_)
 ·
  have hc2':=of_decide_eq_true hc2
  refine aS ?_
  refine aY ?_
  refine aF aa 1 rfl ?_
  refine aA (aM rfl rfl rfl (aL (by first|omega|(simp;done)|(simp;omega)))) rfl ?_
  refine ad aa 2 rfl ?_
  refine af ?_
  refine ag ?_
  refine aY ?_
  refine cE (β:=Nat×Nat×List ah) (fun (p:Nat×Nat×List ah)=>match p with|(a2,b2,d3)=>⟨[(0,(aC (.s 0 0 4 N))),(1,(aI (↑n:Int))),(2,(aC (.d (.f fn bg)))),(6,(aI (↑s:Int))),(7,(aI (↑a2:Int))),(8,(aI (↑b2:Int)))],[(0,(cM d3))],1⟩) (fun (p:Nat×Nat×List ah)=>match p with|(a2,b2,d3)=>b2=a2+2 * s/\a2<=n/\mN s a2 d3/\Same d d3/\d3.length=d.length) (fun (p:Nat×Nat×List ah)=>match p with|(a2,b2,d3)=>n+2 * s - b2) (0,2 * s,d2) ?_ ?_ ?_
  ·exact ⟨by omega,by omega,yX (by omega) hi1_1,hi1_2,hi1_3⟩
  ·exact aH.ca id (by refine ⟨?_,?_,?_,?_,?_,?_,trivial⟩<;>first|rfl|(simp only [bu];done)|(congr 3;omega)|(congr 4;omega)|(simp only [bw];rfl)|(exact cK rfl (by omega))) (⟨by first|rfl|(simp only [bu];done)|(congr 3;omega)|(congr 4;omega)|(simp only [bw];rfl),trivial⟩) rfl
  rintro ⟨a2,b2,d3⟩ ⟨hi2_0,hi2_1,hi2_2,hi2_3,hi2_4⟩
  refine ag ?_
  refine ae aa 3 rfl ?_
  refine aj rfl (fun hc3=>?_) (fun hc3=>?_)
  ·
   have hc3':=of_decide_eq_true hc3
   refine aS ?_
   refine aY ?_
   refine aF aa 4 rfl ?_
   refine aA (aM rfl rfl rfl (aL (by first|omega|(simp;done)|(simp;omega)))) rfl ?_
   refine ad aa 2 rfl ?_
   obtain ⟨r2,hr2⟩:∃ (r2:List ah),dH (b2 - a2) a2 ((a2)+(s)) b2 d3=r2:=⟨_,rfl⟩
   have hlr2:r2.length=d3.length:=by rw [<-hr2];exact eW _ _ _ _ _
   have hp2:Part d3 r2 a2 b2:=by rw [<-hr2];exact vg (by omega) hi2_2 (by omega) (by omega) (by omega)
   refine aQ 1 [0] (dS id id (Bi (↑a2:Int) ((↑a2:Int)+(↑s:Int)) (↑b2:Int) d3 N a2 ((a2)+(s)) b2 fn bg hp hen (by first|omega|(simp;done)|(simp;omega)) (by first|omega|(simp;done)|(simp;omega)) (by first|omega|(simp;done)|(simp;omega)) (by first|omega|(simp;done)|(simp;omega)) (by first|omega|(simp;done)|(simp;omega)) (by first|omega|(simp;done)|(simp;omega)) (by first|omega|(simp;done)|(simp;omega)) (by first|omega|(simp;done)|(simp;omega)) r2 hr2) kj rfl rfl ⟨⟨_,rfl,.inl ⟨rfl,rfl⟩⟩,⟨_,rfl,.inr (.c (.d _))⟩,⟨_,rfl,.inr (.c (.d _))⟩,⟨_,rfl,.inr (.c (.d _))⟩,⟨_,rfl,.inr (.c (.d _))⟩,trivial⟩ ⟨rfl,trivial⟩ rfl rfl ⟨.inr ⟨_,_,_,rfl,by first|(simp;omega)|(simp only [List.length_map];omega)⟩,trivial⟩ rfl rfl rfl trivial ⟨(fun _ _ _ _=>trivial),trivial⟩ rfl rfl rfl rfl) rfl ?_
   refine af ?_
   refine ae aa 2 rfl ?_
   refine ax ?_
   refine ad aa 2 rfl ?_
   refine aA (aM rfl rfl rfl (aL (by first|omega|(simp;done)|(simp;omega)))) rfl ?_
   refine aA (aM rfl rfl rfl (aL (by first|omega|(simp;done)|(simp;omega)))) rfl ?_
   refine ad aa 1 rfl ?_
   refine bZ ?_
   refine bm ?_
   refine then_ok ?_
   refine ⟨(b2,b2+2 * s,r2),⟨by omega,by omega,by rw [hi2_0] at hp2 ⊢;exact AK (by omega) hi2_2 hp2,hi2_3.trans hp2.m,by omega⟩,by first|omega|(simp;done)|(simp;omega),aH.ca id (by refine ⟨?_,?_,?_,?_,?_,?_,trivial⟩<;>first|rfl|(simp only [bu];done)|(congr 3;omega)|(congr 4;omega)|(simp only [bw];rfl)|(exact cK rfl (by omega))) (⟨by first|rfl|(simp only [bu];done)|(congr 3;omega)|(congr 4;omega)|(simp only [bw];rfl),trivial⟩) rfl⟩
  have hc3':=of_decide_eq_false hc3
  refine cv ?_
  refine aU ?_
  refine aU ?_
  refine bS ?_
  refine then_ok ?_
  refine ag ?_
  refine aF aa 2 rfl ?_
  refine aA (aM rfl rfl rfl (aL (by first|omega|(simp;done)|(simp;omega)))) rfl ?_
  refine ad aa 1 rfl ?_
  refine af ?_
  refine ae aa 3 rfl ?_
  refine aj rfl (fun hc4=>?_) (fun hc4=>?_)
  ·
   have hc4':=of_decide_eq_true hc4
   refine ax ?_
   refine ad aa 5 rfl ?_
   obtain ⟨r3,hr3⟩:∃ (r3:List ah),dH (n - a2) a2 ((a2)+(s)) n d3=r3:=⟨_,rfl⟩
   have hlr3:r3.length=d3.length:=by rw [<-hr3];exact eW _ _ _ _ _
   have hp3:Part d3 r3 a2 n:=by rw [<-hr3];exact vg (by omega) hi2_2 (by omega) (by omega) (by omega)
   refine aQ 1 [0] (dS id id (Bi (↑a2:Int) ((↑a2:Int)+(↑s:Int)) (↑n:Int) d3 N a2 ((a2)+(s)) n fn bg hp hen (by first|omega|(simp;done)|(simp;omega)) (by first|omega|(simp;done)|(simp;omega)) (by first|omega|(simp;done)|(simp;omega)) (by first|omega|(simp;done)|(simp;omega)) (by first|omega|(simp;done)|(simp;omega)) (by first|omega|(simp;done)|(simp;omega)) (by first|omega|(simp;done)|(simp;omega)) (by first|omega|(simp;done)|(simp;omega)) r3 hr3) kj rfl rfl ⟨⟨_,rfl,.inl ⟨rfl,rfl⟩⟩,⟨_,rfl,.inr (.c (.d _))⟩,⟨_,rfl,.inr (.c (.d _))⟩,⟨_,rfl,.inr (.c (.d _))⟩,⟨_,rfl,.inr (.c (.d _))⟩,trivial⟩ ⟨rfl,trivial⟩ rfl rfl ⟨.inr ⟨_,_,_,rfl,by first|(simp;omega)|(simp only [List.length_map];omega)⟩,trivial⟩ rfl rfl rfl trivial ⟨(fun _ _ _ _=>trivial),trivial⟩ rfl rfl rfl rfl) rfl ?_
   refine af ?_
   refine ax ?_
   refine ad aa 1 rfl ?_
   refine aA (aM rfl rfl rfl (aL (by first|omega|(simp;done)|(simp;omega)))) rfl ?_
   refine ad aa 1 rfl ?_
   refine bZ ?_
   refine bm ?_
   refine then_ok ?_
   refine ⟨(s * 2,r3),⟨by omega,Cu (by omega) hi2_2 (by omega) (by rw [show r3.length=n by omega];exact hp3) (by omega),hi2_3.trans hp3.m,by omega⟩,by first|omega|(simp;done)|(simp;omega),aH.ca id (by refine ⟨?_,?_,?_,?_,trivial⟩<;>first|rfl|(simp only [bu];done)|(congr 3;omega)|(congr 4;omega)|(simp only [bw];rfl)|(exact cK rfl (by omega))) (⟨by first|rfl|(simp only [bu];done)|(congr 3;omega)|(congr 4;omega)|(simp only [bw];rfl),trivial⟩) rfl⟩
  have hc4':=of_decide_eq_false hc4
  refine aS ?_
  refine ax ?_
  refine ad aa 1 rfl ?_
  refine aA (aM rfl rfl rfl (aL (by first|omega|(simp;done)|(simp;omega)))) rfl ?_
  refine ad aa 1 rfl ?_
  refine bZ ?_
  refine bm ?_
  refine then_ok ?_
  refine ⟨(s * 2,d3),⟨by omega,AM (by omega) hi2_2 (by omega),hi2_3,by omega⟩,by first|omega|(simp;done)|(simp;omega),aH.ca id (by refine ⟨?_,?_,?_,?_,trivial⟩<;>first|rfl|(simp only [bu];done)|(congr 3;omega)|(congr 4;omega)|(simp only [bw];rfl)|(exact cK rfl (by omega))) (⟨by first|rfl|(simp only [bu];done)|(congr 3;omega)|(congr 4;omega)|(simp only [bw];rfl),trivial⟩) rfl⟩
 have hc2':=of_decide_eq_false hc2
 refine cv ?_
 refine aU ?_
 refine aU ?_
 refine bS ?_
 have hX:dF d=d2:=by
   exact rK (BU hi1_1 (by omega)) hi1_2
 rw [hX] at hr;clear hX
 subst hr
 refine cO aa [0] 1 rfl rfl rfl rfl rfl rfl ?_ ?_
 all_goals first|rfl|(simp [aw];done)|(simp [aw];omega)
theorem Bj (ni:Int) (d:List ah) (N n:Nat) (fn:FuncId) (bg:List (List D)) (hp:∀ x y:ah,Fn Try.prog fn ([.g [cI x.aE,cI x.ba,cI x.kind,cI x.sum],.g [cI y.aE,cI y.ba,cI y.kind,cI y.sum]]++bg.map fun r=>GV.c (.q r 0)) (aI (ic x y)) []) (hen:bl Try.prog fn) (en_:ni=(↑n:Int)) (hl:d.length * 32<=140737488355328) (hN:N=d.length) (h0_:n=d.length) (h1_:0 < d.length) (r:List ah) (hr:dF d=r):cJ Try.prog 61 [(.c (.s 0 0 4 N)),(.c (cI ni)),(.c (.d (.f fn bg)))] [(0,(cM d))] [0] (.t []) [(0,(cM r))]:=by
  subst en_
  exact CZ d N n fn bg hp hen hl hN h0_ h1_ r hr
end Go.Proofs.Ytegepioggeggaaa.Dev
