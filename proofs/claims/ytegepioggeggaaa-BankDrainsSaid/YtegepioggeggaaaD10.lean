/- A part of the proof: Sort5, Sort4, Sort6. No condition. -/
import Derived.Test.YtegepioggeggaaaD09
set_option linter.unusedVariables false
set_option linter.unusedSimpArgs false
set_option maxHeartbeats 4000000
set_option maxRecDepth 100000
namespace Go.Proofs.Ytegepioggeggaaa.Dev
open Go.RowKit

theorem AF (f:Nat) (ih:∀ (ai mi bi:Int) (d:List au) (N a m b:Nat) (fn:FuncId) (bh:List (List D)) (hp:∀ x y:au,Fn Try.prog fn ([.g [cI x.az,cI x.ba,cI x.kind,cI x.sum],.g [cI y.az,cI y.ba,cI y.kind,cI y.sum]]++bh.map fun r=>GV.c (.q r 0)) (aI (iB x y)) []) (hen:bp Try.prog fn) (ea_:ai=(↑a:Int)) (em_:mi=(↑m:Int)) (eb_:bi=(↑b:Int)) (hl:d.length * 32<=140737488355328) (hN:N=d.length) (h0_:a < m) (h1_:m < b) (h2_:b<=d.length) (h3_:b - a<=f) (r:List au) (hr:dT f a m b d=r),cL Try.prog 73 [(.c (.s 0 0 4 N)),(.c (cI ai)),(.c (cI mi)),(.c (cI bi)),(.c (.d (.f fn bh)))] [(0,(cU d))] [0] (.t []) [(0,(cU r))]) (d:List au) (N a m b:Nat) (fn:FuncId) (bh:List (List D)) (hp:∀ x y:au,Fn Try.prog fn ([.g [cI x.az,cI x.ba,cI x.kind,cI x.sum],.g [cI y.az,cI y.ba,cI y.kind,cI y.sum]]++bh.map fun r=>GV.c (.q r 0)) (aI (iB x y)) []) (hen:bp Try.prog fn) (hl:d.length * 32<=140737488355328) (hN:N=d.length) (h0_:a < m) (h1_:m < b) (h2_:b<=d.length) (h3_:b - a<=f+1) (r:List au) (hr:dT (f+1) a m b d=r):cL Try.prog 73 [(.c (.s 0 0 4 N)),(.c (cI (↑a:Int))),(.c (cI (↑m:Int))),(.c (cI (↑b:Int))),(.c (.d (.f fn bh)))] [(0,(cU d))] [0] (.t []) [(0,(cU r))]:=by
 refine cL.mk 220 [(0,(aC (.s 0 0 4 N))),(1,(aI (↑a:Int))),(2,(aI (↑m:Int))),(3,(aI (↑b:Int))),(4,(aC (.d (.f fn bh))))] 1 Try.func73 rfl rfl rfl rfl rfl rfl rfl rfl rfl ?_
 intro W0 F0 T0 pg
 refine gU 0 rfl (fun hlen0=>?_)
 refine ah ?_
 refine aH aa 2 rfl ?_
 refine aE (aN rfl rfl rfl (aK (by first|omega|(simp;done)|(simp;omega)))) rfl ?_
 refine ad aa 1 rfl ?_
 refine af ?_
 refine an rfl (fun hc1=>?_) (fun hc1=>?_)
 ·
  have hc1':=of_decide_eq_true hc1
  refine ae aa 2 rfl ?_
  refine ae aa 2 rfl ?_
  refine ah ?_
  refine aY ?_
  refine cz (β:=Nat×Nat) (fun (p:Nat×Nat)=>match p with|(i,j)=>⟨[(0,(aC (.s 0 0 4 N))),(1,(aI (↑a:Int))),(2,(aI (↑m:Int))),(3,(aI (↑b:Int))),(4,(aC (.d (.f fn bh)))),(10,(aI (↑i:Int))),(11,(aI (↑j:Int)))],[(0,(cU d))],1⟩) (fun (p:Nat×Nat)=>match p with|(i,j)=>m<=i/\i<=j/\j<=b/\gp (fun h=>dM d h a) i j=gp (fun h=>dM d h a) m b) (fun (p:Nat×Nat)=>match p with|(i,j)=>j - i) (m,b) ?_ ?_ ?_
  ·exact ⟨by omega,by omega,by omega,rfl⟩
  ·exact aJ.cc id (by refine ⟨?_,?_,?_,?_,?_,?_,?_,trivial⟩<;>first|rfl|(simp only [bn];done)|(congr 3;omega)|(congr 4;omega)|(simp only [bo];rfl)|(exact cD rfl (by omega))) (⟨by first|rfl|(simp only [bn];done)|(congr 3;omega)|(congr 4;omega)|(simp only [bo];rfl),trivial⟩) rfl
  rintro ⟨i,j⟩ ⟨hi0_0,hi0_1,hi0_2,hi0_3⟩
  refine ah ?_
  refine ae aa 3 rfl ?_
  refine an rfl (fun hc2=>?_) (fun hc2=>?_)
  ·
   have hc2':=of_decide_eq_true hc2
   refine aU ?_
   refine aY ?_
   refine aH aa 2 rfl ?_
   refine aE (aN rfl rfl rfl (aK (by first|omega|(simp;done)|(simp;omega)))) rfl ?_
   refine aE (fQ rfl rfl (by rw [Try.underlying3];rfl) Try.underlying128 (kU (by first|omega|(simp;done)|(simp;omega)))) rfl ?_
   refine aE (nL (r:=(↑(((i)+(j)) / 2):Int)) rfl rfl rfl (by omega)) rfl ?_
   refine aE (fQ rfl rfl (by rw [Try.underlying128];rfl) Try.underlying3 (kV (by first|omega|(simp;done)|(simp;omega)))) rfl ?_
   refine ad aa 1 rfl ?_
   refine af ?_
   obtain ⟨h,hh⟩:∃ z:Nat,z=(i+j) / 2:=⟨_,rfl⟩
   refine ji (i:=12) (v:=(aI (↑h:Int))) (cD (ρ:=id) rfl (by omega)) ?_
   refine ah ?_
   obtain ⟨x1,hx1⟩:=cr (xs:=d) (i:=h) (by first|omega|(simp;done)|(simp;omega))
   obtain ⟨x2,hx2⟩:=cr (xs:=d) (i:=a) (by first|omega|(simp;done)|(simp;omega))
   refine bd [0,1,2,3,4,10,11,12] [0] mixed rfl rfl ?_
   refine aF (kn:=[]) aa 3 rfl trivial ?_
   refine aX (n':=1) [41,42] [0] rfl rfl (.inl ⟨(aq.plain rfl),aM.cast (br (i:=h) rfl rfl rfl Try.underlying42 dK (by first|omega|(simp;done)|(simp;omega)) (by first|omega|(simp;done)|(simp;omega))) rfl⟩) rfl ?_
   refine aX (n':=1) [43] [0] rfl rfl (.inl ⟨(aq.plain rfl),aM.cast (dy rfl rfl rfl Try.underlying83 rfl dK (bz hx1) rfl) rfl⟩) rfl ?_
   refine aF (kn:=[]) aa 2 rfl trivial ?_
   refine aX (n':=1) [45,46] [0] rfl rfl (.inl ⟨(aq.plain rfl),aM.cast (br (i:=a) rfl rfl rfl Try.underlying42 dK (by first|omega|(simp;done)|(simp;omega)) (by first|omega|(simp;done)|(simp;omega))) rfl⟩) rfl ?_
   refine aX (n':=1) [47] [0] rfl rfl (.inl ⟨(aq.plain rfl),aM.cast (dy rfl rfl rfl Try.underlying83 rfl dK (bz hx2) rfl) rfl⟩) rfl ?_
   refine aX (n':=1) [40,44,48] [] rfl rfl (.inl ⟨(aq.plain rfl),aM.cast (iD (ins:=[(.g [(cI x1.az),(cI x1.ba),(cI x1.kind),(cI x1.sum)]),(.g [(cI x2.az),(cI x2.ba),(cI x2.kind),(cI x2.sum)])]) 1 (hp x1 x2) hen rfl rfl rfl ⟨⟨_,rfl,.g ⟨.d _,.d _,.d _,.d _,trivial⟩⟩,⟨_,rfl,.g ⟨.d _,.d _,.d _,.d _,trivial⟩⟩,trivial⟩ trivial trivial rfl rfl rfl rfl) rfl⟩) rfl ?_
   refine aF (kn:=[]) aa 1 rfl trivial ?_
   refine bF [0] rfl rfl rfl rfl (by kernel_rfl) ?_
   refine af ?_
   refine an rfl (fun hc3=>?_) (fun hc3=>?_)
   ·
    have hc3':=of_decide_eq_true hc3
    refine ay ?_
    refine ad aa 1 rfl ?_
    refine aE (aN rfl rfl rfl (aK (by first|omega|(simp;done)|(simp;omega)))) rfl ?_
    refine ad aa 1 rfl ?_
    refine cf ?_
    refine bq ?_
    refine then_ok ?_
    refine ⟨(h+1,j),⟨by omega,by omega,by omega,tC hi0_3 (by omega) hh (by show dM _ _ _=true;rw [gD hx1 hx2,mg.1 (by assumption)])⟩,by first|omega|(simp;done)|(simp;omega),aJ.cc id (by refine ⟨?_,?_,?_,?_,?_,?_,?_,trivial⟩<;>first|rfl|(simp only [bn];done)|(congr 3;omega)|(congr 4;omega)|(simp only [bo];rfl)|(exact cD rfl (by omega))) (⟨by first|rfl|(simp only [bn];done)|(congr 3;omega)|(congr 4;omega)|(simp only [bo];rfl),trivial⟩) rfl⟩
   have hc3':=of_decide_eq_false hc3
   refine ay ?_
   refine ad aa 2 rfl ?_
   refine cf ?_
   refine bq ?_
   refine then_ok ?_
   refine ⟨(i,h),⟨by omega,by omega,by omega,tD hi0_3 (by omega) hh (by show dM _ _ _=false;rw [gD hx1 hx2,mh (by assumption)])⟩,by first|omega|(simp;done)|(simp;omega),aJ.cc id (by refine ⟨?_,?_,?_,?_,?_,?_,?_,trivial⟩<;>first|rfl|(simp only [bn];done)|(congr 3;omega)|(congr 4;omega)|(simp only [bo];rfl)|(exact cD rfl (by omega))) (⟨by first|rfl|(simp only [bn];done)|(congr 3;omega)|(congr 4;omega)|(simp only [bo];rfl),trivial⟩) rfl⟩
  have hc2':=of_decide_eq_false hc2
  refine cp ?_
  refine aR ?_
  refine aR ?_
  refine bM ?_
  refine then_ok ?_
  refine ah ?_
  refine ae aa 2 rfl ?_
  refine aY ?_
  refine cz (β:=Nat×List au) (fun (p:Nat×List au)=>match p with|(k,d1)=>⟨[(0,(aC (.s 0 0 4 N))),(1,(aI (↑a:Int))),(2,(aI (↑m:Int))),(3,(aI (↑b:Int))),(4,(aC (.d (.f fn bh)))),(10,(aI (↑i:Int))),(11,(aI (↑j:Int))),(13,(aI (↑k:Int)))],[(0,(cU d1))],1⟩) (fun (p:Nat×List au)=>match p with|(k,d1)=>a<=k/\k+1<=i/\d1=pd a (k - a) d/\d1.length=d.length) (fun (p:Nat×List au)=>match p with|(k,d1)=>i - k) (a,d) ?_ ?_ ?_
  ·exact ⟨by omega,by omega,by rw [Nat.sub_self];rfl,rfl⟩
  ·exact aJ.cc id (by refine ⟨?_,?_,?_,?_,?_,?_,?_,?_,trivial⟩<;>first|rfl|(simp only [bn];done)|(congr 3;omega)|(congr 4;omega)|(simp only [bo];rfl)|(exact cD rfl (by omega))) (⟨by first|rfl|(simp only [bn];done)|(congr 3;omega)|(congr 4;omega)|(simp only [bo];rfl),trivial⟩) rfl
  rintro ⟨k,d1⟩ ⟨hi1_0,hi1_1,hi1_2,hi1_3⟩
  refine ah ?_
  refine aH aa 2 rfl ?_
  refine aE (aN rfl rfl rfl (aK (by first|omega|(simp;done)|(simp;omega)))) rfl ?_
  refine ad aa 1 rfl ?_
  refine af ?_
  refine an rfl (fun hc4=>?_) (fun hc4=>?_)
  ·
   have hc4':=of_decide_eq_true hc4
   refine aU ?_
   refine ah ?_
   refine aY ?_
   obtain ⟨x1,hx1⟩:=cr (xs:=d1) (i:=(k)+1) (by first|omega|(simp;done)|(simp;omega))
   obtain ⟨x2,hx2⟩:=cr (xs:=d1) (i:=k) (by first|omega|(simp;done)|(simp;omega))
   obtain ⟨x3,hx3⟩:=cr (xs:=((d1).set k x1)) (i:=(k)+1) (by first|omega|(simp;done)|(simp;omega))
   refine dr [0,1,2,3,4,10,11,13] [0] mixed rfl rfl ?_
   refine bU (kn:=[]) aa 4 rfl trivial ?_
   refine ca (n':=1) [64] [] rfl rfl (.inl ⟨(aq.plain rfl),aM.cast (aN rfl rfl rfl (aK (by first|omega|(simp;done)|(simp;omega)))) rfl⟩) rfl ?_
   refine bU (kn:=[]) aa 2 rfl trivial ?_
   refine ca (n':=1) [67] [] rfl rfl (.inl ⟨(aq.plain rfl),aM.cast (aN rfl rfl rfl (aK (by first|omega|(simp;done)|(simp;omega)))) rfl⟩) rfl ?_
   refine ca (n':=1) [66,68] [0] rfl rfl (.inl ⟨(aq.plain rfl),aM.cast (br (i:=(k)+1) rfl rfl rfl Try.underlying42 dK (by first|omega|(simp;done)|(simp;omega)) (by first|omega|(simp;done)|(simp;omega))) rfl⟩) rfl ?_
   refine ca (n':=1) [69] [0] rfl rfl (.inl ⟨(aq.plain rfl),aM.cast (dy rfl rfl rfl Try.underlying83 rfl dK (bz hx1) rfl) rfl⟩) rfl ?_
   refine bU (kn:=[]) aa 2 rfl trivial ?_
   refine ca (n':=1) [71,72] [0] rfl rfl (.inl ⟨(aq.plain rfl),aM.cast (br (i:=k) rfl rfl rfl Try.underlying42 dK (by first|omega|(simp;done)|(simp;omega)) (by first|omega|(simp;done)|(simp;omega))) rfl⟩) rfl ?_
   refine ca (n':=1) [73] [0] rfl rfl (.inl ⟨(aq.plain rfl),aM.cast (dy rfl rfl rfl Try.underlying83 rfl dK (bz hx2) rfl) rfl⟩) rfl ?_
   refine ca (n':=1) [61,62] [0] rfl rfl (.inl ⟨(aq.plain rfl),aM.cast (br (i:=k) rfl rfl rfl Try.underlying42 dK (by first|omega|(simp;done)|(simp;omega)) (by first|omega|(simp;done)|(simp;omega))) rfl⟩) rfl ?_
   refine ca (n':=1) [75,70] [0] rfl rfl (.inl ⟨(aq.plain rfl),aM.cast (dW (ds:=[(dI x1.az),(dI x1.ba),(dI x1.kind),(dI x1.sum)]) rfl rfl rfl rfl rfl dK rfl (Nat.le_of_ble_eq_true rfl) (bz hx2) rfl (eU (x':=x1) rfl)) rfl⟩) rfl ?_
   refine ca (n':=1) [63,65] [0] rfl rfl (.inl ⟨(aq.plain rfl),aM.cast (br (i:=(k)+1) rfl rfl rfl Try.underlying42 dK (by first|omega|(simp;done)|(simp;omega)) (by first|omega|(simp;done)|(simp;omega))) rfl⟩) rfl ?_
   refine ca (n':=1) [76,74] [0] rfl rfl (.inl ⟨(aq.plain rfl),aM.cast (dW (ds:=[(dI x2.az),(dI x2.ba),(dI x2.kind),(dI x2.sum)]) rfl rfl rfl rfl rfl dK rfl (Nat.le_of_ble_eq_true rfl) (bz hx3) rfl (eU (x':=x2) rfl)) rfl⟩) rfl ?_
   refine ef [0,1,2,3,4,10,11,13] [0] rfl rfl (by kernel_rfl) ?_
   refine bq ?_
   refine then_ok ?_
   refine ay ?_
   refine ad aa 1 rfl ?_
   refine aE (aN rfl rfl rfl (aK (by first|omega|(simp;done)|(simp;omega)))) rfl ?_
   refine ad aa 1 rfl ?_
   refine af ?_
   refine ⟨(k+1,((d1).set k x1).set ((k)+1) x2),⟨by omega,by omega,by rw [DT hi1_0,<-hi1_2];exact (mr hx2 hx1).symm,by simp only [List.length_set];exact hi1_3⟩,by first|omega|(simp;done)|(simp;omega),aJ.cc id (by refine ⟨?_,?_,?_,?_,?_,?_,?_,?_,trivial⟩<;>first|rfl|(simp only [bn];done)|(congr 3;omega)|(congr 4;omega)|(simp only [bo];rfl)|(exact cD rfl (by omega))) (⟨by first|rfl|(simp only [bn];done)|(congr 3;omega)|(congr 4;omega)|(simp only [bo];rfl),trivial⟩) rfl⟩
  have hc4':=of_decide_eq_false hc4
  refine cp ?_
  refine aR ?_
  refine aR ?_
  refine bM ?_
  refine then_ok ?_
  refine aA ?_
  refine ax ?_
  have hX:dT (f+1) a m b d=d1:=by
    rw [dT.eq_2,if_pos (by omega),<-hi0_3,ff (by omega),hi1_2]
    exact congrArg (fun z=>pd a z d) (by omega)
  rw [hX] at hr;clear hX
  subst hr
  refine aw aa [0] 1 rfl rfl rfl rfl rfl rfl ?_ ?_
  all_goals first|rfl|(simp [aD];done)|(simp [aD];omega)
 have hc1':=of_decide_eq_false hc1
 refine aU ?_
 refine ah ?_
 refine aH aa 2 rfl ?_
 refine aE (aN rfl rfl rfl (aK (by first|omega|(simp;done)|(simp;omega)))) rfl ?_
 refine ad aa 1 rfl ?_
 refine af ?_
 refine an rfl (fun hc5=>?_) (fun hc5=>?_)
 ·
  have hc5':=of_decide_eq_true hc5
  refine ae aa 2 rfl ?_
  refine ae aa 2 rfl ?_
  refine ah ?_
  refine aY ?_
  refine cz (β:=Nat×Nat) (fun (p:Nat×Nat)=>match p with|(i2,j2)=>⟨[(0,(aC (.s 0 0 4 N))),(1,(aI (↑a:Int))),(2,(aI (↑m:Int))),(3,(aI (↑b:Int))),(4,(aC (.d (.f fn bh)))),(14,(aI (↑i2:Int))),(15,(aI (↑j2:Int)))],[(0,(cU d))],1⟩) (fun (p:Nat×Nat)=>match p with|(i2,j2)=>a<=i2/\i2<=j2/\j2<=m/\gp (fun h=>!dM d m h) i2 j2=gp (fun h=>!dM d m h) a m) (fun (p:Nat×Nat)=>match p with|(i2,j2)=>j2 - i2) (a,m) ?_ ?_ ?_
  ·exact ⟨by omega,by omega,by omega,rfl⟩
  ·exact aJ.cc id (by refine ⟨?_,?_,?_,?_,?_,?_,?_,trivial⟩<;>first|rfl|(simp only [bn];done)|(congr 3;omega)|(congr 4;omega)|(simp only [bo];rfl)|(exact cD rfl (by omega))) (⟨by first|rfl|(simp only [bn];done)|(congr 3;omega)|(congr 4;omega)|(simp only [bo];rfl),trivial⟩) rfl
  rintro ⟨i2,j2⟩ ⟨hi2_0,hi2_1,hi2_2,hi2_3⟩
  refine ah ?_
  refine ae aa 3 rfl ?_
  refine an rfl (fun hc6=>?_) (fun hc6=>?_)
  ·
   have hc6':=of_decide_eq_true hc6
   refine aU ?_
   refine aY ?_
   refine aH aa 2 rfl ?_
   refine aE (aN rfl rfl rfl (aK (by first|omega|(simp;done)|(simp;omega)))) rfl ?_
   refine aE (fQ rfl rfl (by rw [Try.underlying3];rfl) Try.underlying128 (kU (by first|omega|(simp;done)|(simp;omega)))) rfl ?_
   refine aE (nL (r:=(↑(((i2)+(j2)) / 2):Int)) rfl rfl rfl (by omega)) rfl ?_
   refine aE (fQ rfl rfl (by rw [Try.underlying128];rfl) Try.underlying3 (kV (by first|omega|(simp;done)|(simp;omega)))) rfl ?_
   refine ad aa 1 rfl ?_
   refine af ?_
   obtain ⟨h2,hh2⟩:∃ z:Nat,z=(i2+j2) / 2:=⟨_,rfl⟩
   refine ji (i:=16) (v:=(aI (↑h2:Int))) (cD (ρ:=id) rfl (by omega)) ?_
   refine ah ?_
   obtain ⟨x1,hx1⟩:=cr (xs:=d) (i:=m) (by first|omega|(simp;done)|(simp;omega))
   obtain ⟨x2,hx2⟩:=cr (xs:=d) (i:=h2) (by first|omega|(simp;done)|(simp;omega))
   refine bd [0,1,2,3,4,14,15,16] [0] mixed rfl rfl ?_
   refine aF (kn:=[]) aa 3 rfl trivial ?_
   refine aX (n':=1) [93,94] [0] rfl rfl (.inl ⟨(aq.plain rfl),aM.cast (br (i:=m) rfl rfl rfl Try.underlying42 dK (by first|omega|(simp;done)|(simp;omega)) (by first|omega|(simp;done)|(simp;omega))) rfl⟩) rfl ?_
   refine aX (n':=1) [95] [0] rfl rfl (.inl ⟨(aq.plain rfl),aM.cast (dy rfl rfl rfl Try.underlying83 rfl dK (bz hx1) rfl) rfl⟩) rfl ?_
   refine aF (kn:=[]) aa 2 rfl trivial ?_
   refine aX (n':=1) [97,98] [0] rfl rfl (.inl ⟨(aq.plain rfl),aM.cast (br (i:=h2) rfl rfl rfl Try.underlying42 dK (by first|omega|(simp;done)|(simp;omega)) (by first|omega|(simp;done)|(simp;omega))) rfl⟩) rfl ?_
   refine aX (n':=1) [99] [0] rfl rfl (.inl ⟨(aq.plain rfl),aM.cast (dy rfl rfl rfl Try.underlying83 rfl dK (bz hx2) rfl) rfl⟩) rfl ?_
   refine aX (n':=1) [92,96,100] [] rfl rfl (.inl ⟨(aq.plain rfl),aM.cast (iD (ins:=[(.g [(cI x1.az),(cI x1.ba),(cI x1.kind),(cI x1.sum)]),(.g [(cI x2.az),(cI x2.ba),(cI x2.kind),(cI x2.sum)])]) 1 (hp x1 x2) hen rfl rfl rfl ⟨⟨_,rfl,.g ⟨.d _,.d _,.d _,.d _,trivial⟩⟩,⟨_,rfl,.g ⟨.d _,.d _,.d _,.d _,trivial⟩⟩,trivial⟩ trivial trivial rfl rfl rfl rfl) rfl⟩) rfl ?_
   refine aF (kn:=[]) aa 2 rfl trivial ?_
   refine bF [0] rfl rfl rfl rfl (by kernel_rfl) ?_
   refine af ?_
   refine an rfl (fun hc7=>?_) (fun hc7=>?_)
   ·
    have hc7':=hc7;try simp only [bA,bW] at hc7'
    refine ay ?_
    refine ad aa 1 rfl ?_
    refine aE (aN rfl rfl rfl (aK (by first|omega|(simp;done)|(simp;omega)))) rfl ?_
    refine ad aa 1 rfl ?_
    refine cf ?_
    refine bq ?_
    refine then_ok ?_
    refine ⟨(h2+1,j2),⟨by omega,by omega,by omega,tC hi2_3 (by omega) hh2 (by show (!dM _ _ _)=true;rw [gD hx1 hx2,mh (by assumption)];rfl)⟩,by first|omega|(simp;done)|(simp;omega),aJ.cc id (by refine ⟨?_,?_,?_,?_,?_,?_,?_,trivial⟩<;>first|rfl|(simp only [bn];done)|(congr 3;omega)|(congr 4;omega)|(simp only [bo];rfl)|(exact cD rfl (by omega))) (⟨by first|rfl|(simp only [bn];done)|(congr 3;omega)|(congr 4;omega)|(simp only [bo];rfl),trivial⟩) rfl⟩
   have hc7':=hc7;try simp only [bA,bW] at hc7'
   refine ay ?_
   refine ad aa 2 rfl ?_
   refine cf ?_
   refine bq ?_
   refine then_ok ?_
   refine ⟨(i2,h2),⟨by omega,by omega,by omega,tD hi2_3 (by omega) hh2 (by show (!dM _ _ _)=false;rw [gD hx1 hx2,mg.1 (by assumption)];rfl)⟩,by first|omega|(simp;done)|(simp;omega),aJ.cc id (by refine ⟨?_,?_,?_,?_,?_,?_,?_,trivial⟩<;>first|rfl|(simp only [bn];done)|(congr 3;omega)|(congr 4;omega)|(simp only [bo];rfl)|(exact cD rfl (by omega))) (⟨by first|rfl|(simp only [bn];done)|(congr 3;omega)|(congr 4;omega)|(simp only [bo];rfl),trivial⟩) rfl⟩
  have hc6':=of_decide_eq_false hc6
  refine cp ?_
  refine aR ?_
  refine aR ?_
  refine bM ?_
  refine then_ok ?_
  refine ah ?_
  refine ae aa 2 rfl ?_
  refine aY ?_
  refine cz (β:=Nat×List au) (fun (p:Nat×List au)=>match p with|(k,d1)=>⟨[(0,(aC (.s 0 0 4 N))),(1,(aI (↑a:Int))),(2,(aI (↑m:Int))),(3,(aI (↑b:Int))),(4,(aC (.d (.f fn bh)))),(14,(aI (↑i2:Int))),(15,(aI (↑j2:Int))),(17,(aI (↑k:Int)))],[(0,(cU d1))],1⟩) (fun (p:Nat×List au)=>match p with|(k,d1)=>i2<=k/\k<=m/\d1=pe m (m - k) d/\d1.length=d.length) (fun (p:Nat×List au)=>match p with|(k,d1)=>k) (m,d) ?_ ?_ ?_
  ·exact ⟨by omega,by omega,by rw [Nat.sub_self];rfl,rfl⟩
  ·exact aJ.cc id (by refine ⟨?_,?_,?_,?_,?_,?_,?_,?_,trivial⟩<;>first|rfl|(simp only [bn];done)|(congr 3;omega)|(congr 4;omega)|(simp only [bo];rfl)|(exact cD rfl (by omega))) (⟨by first|rfl|(simp only [bn];done)|(congr 3;omega)|(congr 4;omega)|(simp only [bo];rfl),trivial⟩) rfl
  rintro ⟨k,d1⟩ ⟨hi3_0,hi3_1,hi3_2,hi3_3⟩
  refine ah ?_
  refine ae aa 3 rfl ?_
  refine an rfl (fun hc8=>?_) (fun hc8=>?_)
  ·
   have hc8':=of_decide_eq_true hc8
   refine aU ?_
   refine ah ?_
   refine aY ?_
   obtain ⟨x1,hx1⟩:=cr (xs:=d1) (i:=(k) - 1) (by first|omega|(simp;done)|(simp;omega))
   obtain ⟨x2,hx2⟩:=cr (xs:=d1) (i:=k) (by first|omega|(simp;done)|(simp;omega))
   obtain ⟨x3,hx3⟩:=cr (xs:=((d1).set k x1)) (i:=(k) - 1) (by first|omega|(simp;done)|(simp;omega))
   refine dr [0,1,2,3,4,14,15,17] [0] mixed rfl rfl ?_
   refine bU (kn:=[]) aa 4 rfl trivial ?_
   refine ca (n':=1) [116] [] rfl rfl (.inl ⟨(aq.plain rfl),aM.cast (aN rfl rfl rfl (aK (by first|omega|(simp;done)|(simp;omega)))) rfl⟩) rfl ?_
   refine bU (kn:=[]) aa 2 rfl trivial ?_
   refine ca (n':=1) [119] [] rfl rfl (.inl ⟨(aq.plain rfl),aM.cast (aN rfl rfl rfl (aK (by first|omega|(simp;done)|(simp;omega)))) rfl⟩) rfl ?_
   refine ca (n':=1) [118,120] [0] rfl rfl (.inl ⟨(aq.plain rfl),aM.cast (br (i:=(k) - 1) rfl rfl rfl Try.underlying42 dK (by first|omega|(simp;done)|(simp;omega)) (by first|omega|(simp;done)|(simp;omega))) rfl⟩) rfl ?_
   refine ca (n':=1) [121] [0] rfl rfl (.inl ⟨(aq.plain rfl),aM.cast (dy rfl rfl rfl Try.underlying83 rfl dK (bz hx1) rfl) rfl⟩) rfl ?_
   refine bU (kn:=[]) aa 2 rfl trivial ?_
   refine ca (n':=1) [123,124] [0] rfl rfl (.inl ⟨(aq.plain rfl),aM.cast (br (i:=k) rfl rfl rfl Try.underlying42 dK (by first|omega|(simp;done)|(simp;omega)) (by first|omega|(simp;done)|(simp;omega))) rfl⟩) rfl ?_
   refine ca (n':=1) [125] [0] rfl rfl (.inl ⟨(aq.plain rfl),aM.cast (dy rfl rfl rfl Try.underlying83 rfl dK (bz hx2) rfl) rfl⟩) rfl ?_
   refine ca (n':=1) [113,114] [0] rfl rfl (.inl ⟨(aq.plain rfl),aM.cast (br (i:=k) rfl rfl rfl Try.underlying42 dK (by first|omega|(simp;done)|(simp;omega)) (by first|omega|(simp;done)|(simp;omega))) rfl⟩) rfl ?_
   refine ca (n':=1) [127,122] [0] rfl rfl (.inl ⟨(aq.plain rfl),aM.cast (dW (ds:=[(dI x1.az),(dI x1.ba),(dI x1.kind),(dI x1.sum)]) rfl rfl rfl rfl rfl dK rfl (Nat.le_of_ble_eq_true rfl) (bz hx2) rfl (eU (x':=x1) rfl)) rfl⟩) rfl ?_
   refine ca (n':=1) [115,117] [0] rfl rfl (.inl ⟨(aq.plain rfl),aM.cast (br (i:=(k) - 1) rfl rfl rfl Try.underlying42 dK (by first|omega|(simp;done)|(simp;omega)) (by first|omega|(simp;done)|(simp;omega))) rfl⟩) rfl ?_
   refine ca (n':=1) [128,126] [0] rfl rfl (.inl ⟨(aq.plain rfl),aM.cast (dW (ds:=[(dI x2.az),(dI x2.ba),(dI x2.kind),(dI x2.sum)]) rfl rfl rfl rfl rfl dK rfl (Nat.le_of_ble_eq_true rfl) (bz hx3) rfl (eU (x':=x2) rfl)) rfl⟩) rfl ?_
   refine ef [0,1,2,3,4,14,15,17] [0] rfl rfl (by kernel_rfl) ?_
   refine bq ?_
   refine then_ok ?_
   refine ay ?_
   refine ad aa 1 rfl ?_
   refine aE (aN rfl rfl rfl (aK (by first|omega|(simp;done)|(simp;omega)))) rfl ?_
   refine ad aa 1 rfl ?_
   refine af ?_
   refine ⟨(k - 1,((d1).set k x1).set ((k) - 1) x2),⟨by omega,by omega,by rw [DU hi3_1 (by omega),<-hi3_2];exact (mr hx2 hx1).symm,by simp only [List.length_set];exact hi3_3⟩,by first|omega|(simp;done)|(simp;omega),aJ.cc id (by refine ⟨?_,?_,?_,?_,?_,?_,?_,?_,trivial⟩<;>first|rfl|(simp only [bn];done)|(congr 3;omega)|(congr 4;omega)|(simp only [bo];rfl)|(exact cD rfl (by omega))) (⟨by first|rfl|(simp only [bn];done)|(congr 3;omega)|(congr 4;omega)|(simp only [bo];rfl),trivial⟩) rfl⟩
  have hc8':=of_decide_eq_false hc8
  refine cp ?_
  refine aR ?_
  refine aR ?_
  refine bM ?_
  refine then_ok ?_
  refine aA ?_
  refine ax ?_
  have hX:dT (f+1) a m b d=d1:=by
    rw [dT.eq_2,if_neg (by omega),if_pos (by omega),<-hi2_3,ff (by omega),hi3_2]
    exact congrArg (fun z=>pe m z d) (by omega)
  rw [hX] at hr;clear hX
  subst hr
  refine aw aa [0] 1 rfl rfl rfl rfl rfl rfl ?_ ?_
  all_goals first|rfl|(simp [aD];done)|(simp [aD];omega)
 have hc5':=of_decide_eq_false hc5
 refine aU ?_
 refine aH aa 2 rfl ?_
 refine aE (aN rfl rfl rfl (aK (by first|omega|(simp;done)|(simp;omega)))) rfl ?_
 refine aE (fQ rfl rfl (by rw [Try.underlying3];rfl) Try.underlying128 (kU (by first|omega|(simp;done)|(simp;omega)))) rfl ?_
 refine aE (nL (r:=(↑(((a)+(b)) / 2):Int)) rfl rfl rfl (by omega)) rfl ?_
 refine aE (fQ rfl rfl (by rw [Try.underlying128];rfl) Try.underlying3 (kV (by first|omega|(simp;done)|(simp;omega)))) rfl ?_
 refine ad aa 1 rfl ?_
 refine af ?_
 obtain ⟨mid,hmid⟩:∃ z:Nat,z=(a+b) / 2:=⟨_,rfl⟩
 refine ji (i:=18) (v:=(aI (↑mid:Int))) (cD (ρ:=id) rfl (by omega)) ?_
 refine aH aa 2 rfl ?_
 refine aE (aN rfl rfl rfl (aK (by first|omega|(simp;done)|(simp;omega)))) rfl ?_
 refine ad aa 1 rfl ?_
 refine af ?_
 refine ae aa 2 rfl ?_
 refine ah ?_
 refine ae aa 3 rfl ?_
 refine an rfl (fun hc9=>?_) (fun hc9=>?_)
 ·
  have hc9':=of_decide_eq_true hc9
  refine aH aa 2 rfl ?_
  refine aE (aN rfl rfl rfl (aK (by first|omega|(simp;done)|(simp;omega)))) rfl ?_
  refine ad aa 1 rfl ?_
  refine af ?_
  refine ay ?_
  refine ad aa 2 rfl ?_
  refine af ?_
  refine aH aa 1 rfl ?_
  refine aE (aN rfl rfl rfl (aK (by first|omega|(simp;done)|(simp;omega)))) rfl ?_
  refine ad aa 1 rfl ?_
  refine af ?_
  refine ah ?_
  refine aY ?_
  refine cz (β:=Nat×Nat) (fun (p:Nat×Nat)=>match p with|(s,u1)=>⟨[(0,(aC (.s 0 0 4 N))),(1,(aI (↑a:Int))),(2,(aI (↑m:Int))),(3,(aI (↑b:Int))),(4,(aC (.d (.f fn bh)))),(18,(aI (↑mid:Int))),(19,(aI ((↑mid:Int)+(↑m:Int)))),(20,(aI (↑s:Int))),(21,(aI (↑u1:Int))),(22,(aI (((↑mid:Int)+(↑m:Int)) - 1)))],[(0,(cU d))],1⟩) (fun (p:Nat×Nat)=>match p with|(s,u1)=>((mid)+(m)) - (b)<=s/\s<=u1/\u1<=mid/\gp (fun c=>!dM d (mid+m - 1 - c) c) s u1=gp (fun c=>!dM d (mid+m - 1 - c) c) (((mid)+(m)) - (b)) mid) (fun (p:Nat×Nat)=>match p with|(s,u1)=>u1 - s) (((mid)+(m)) - (b),mid) ?_ ?_ ?_
  ·exact ⟨by omega,by omega,by omega,rfl⟩
  ·exact aJ.cc id (by refine ⟨?_,?_,?_,?_,?_,?_,?_,?_,?_,?_,trivial⟩<;>first|rfl|(simp only [bn];done)|(congr 3;omega)|(congr 4;omega)|(simp only [bo];rfl)|(exact cD rfl (by omega))) (⟨by first|rfl|(simp only [bn];done)|(congr 3;omega)|(congr 4;omega)|(simp only [bo];rfl),trivial⟩) rfl
  rintro ⟨s,u1⟩ ⟨hi4_0,hi4_1,hi4_2,hi4_3⟩
  refine ah ?_
  refine ae aa 3 rfl ?_
  refine an rfl (fun hc10=>?_) (fun hc10=>?_)
  ·
   have hc10':=of_decide_eq_true hc10
   refine aU ?_
   refine aY ?_
   refine aH aa 2 rfl ?_
   refine aE (aN rfl rfl rfl (aK (by first|omega|(simp;done)|(simp;omega)))) rfl ?_
   refine aE (fQ rfl rfl (by rw [Try.underlying3];rfl) Try.underlying128 (kU (by first|omega|(simp;done)|(simp;omega)))) rfl ?_
   refine aE (nL (r:=(↑(((s)+(u1)) / 2):Int)) rfl rfl rfl (by omega)) rfl ?_
   refine aE (fQ rfl rfl (by rw [Try.underlying128];rfl) Try.underlying3 (kV (by first|omega|(simp;done)|(simp;omega)))) rfl ?_
   refine ad aa 1 rfl ?_
   refine af ?_
   obtain ⟨c,hc⟩:∃ z:Nat,z=(s+u1) / 2:=⟨_,rfl⟩
   refine ji (i:=23) (v:=(aI (↑c:Int))) (cD (ρ:=id) rfl (by omega)) ?_
   refine ah ?_
   obtain ⟨x1,hx1⟩:=cr (xs:=d) (i:=(((mid)+(m)) - 1) - (c)) (by first|omega|(simp;done)|(simp;omega))
   obtain ⟨x2,hx2⟩:=cr (xs:=d) (i:=c) (by first|omega|(simp;done)|(simp;omega))
   refine bd [0,1,2,3,4,18,19,20,21,22,23] [0] mixed rfl rfl ?_
   refine aF (kn:=[]) aa 4 rfl trivial ?_
   refine aX (n':=1) [160,161] [] rfl rfl (.inl ⟨(aq.plain rfl),aM.cast (aN rfl rfl rfl (aK (by first|omega|(simp;done)|(simp;omega)))) rfl⟩) rfl ?_
   refine aX (n':=1) [159,162] [0] rfl rfl (.inl ⟨(aq.plain rfl),aM.cast (br (i:=(((mid)+(m)) - 1) - (c)) rfl rfl rfl Try.underlying42 dK (by first|omega|(simp;done)|(simp;omega)) (by first|omega|(simp;done)|(simp;omega))) rfl⟩) rfl ?_
   refine aX (n':=1) [163] [0] rfl rfl (.inl ⟨(aq.plain rfl),aM.cast (dy rfl rfl rfl Try.underlying83 rfl dK (bz hx1) rfl) rfl⟩) rfl ?_
   refine aF (kn:=[]) aa 2 rfl trivial ?_
   refine aX (n':=1) [165,166] [0] rfl rfl (.inl ⟨(aq.plain rfl),aM.cast (br (i:=c) rfl rfl rfl Try.underlying42 dK (by first|omega|(simp;done)|(simp;omega)) (by first|omega|(simp;done)|(simp;omega))) rfl⟩) rfl ?_
   refine aX (n':=1) [167] [0] rfl rfl (.inl ⟨(aq.plain rfl),aM.cast (dy rfl rfl rfl Try.underlying83 rfl dK (bz hx2) rfl) rfl⟩) rfl ?_
   refine aX (n':=1) [158,164,168] [] rfl rfl (.inl ⟨(aq.plain rfl),aM.cast (iD (ins:=[(.g [(cI x1.az),(cI x1.ba),(cI x1.kind),(cI x1.sum)]),(.g [(cI x2.az),(cI x2.ba),(cI x2.kind),(cI x2.sum)])]) 1 (hp x1 x2) hen rfl rfl rfl ⟨⟨_,rfl,.g ⟨.d _,.d _,.d _,.d _,trivial⟩⟩,⟨_,rfl,.g ⟨.d _,.d _,.d _,.d _,trivial⟩⟩,trivial⟩ trivial trivial rfl rfl rfl rfl) rfl⟩) rfl ?_
   refine aF (kn:=[]) aa 2 rfl trivial ?_
   refine bF [0] rfl rfl rfl rfl (by kernel_rfl) ?_
   refine af ?_
   refine an rfl (fun hc11=>?_) (fun hc11=>?_)
   ·
    have hc11':=hc11;try simp only [bA,bW] at hc11'
    refine ay ?_
    refine ad aa 1 rfl ?_
    refine aE (aN rfl rfl rfl (aK (by first|omega|(simp;done)|(simp;omega)))) rfl ?_
    refine ad aa 1 rfl ?_
    refine cf ?_
    refine bq ?_
    refine then_ok ?_
    refine ⟨(c+1,u1),⟨by omega,by omega,by omega,tC hi4_3 (by omega) hc (by show (!dM _ _ _)=true;rw [gD hx1 hx2,mh (by assumption)];rfl)⟩,by first|omega|(simp;done)|(simp;omega),aJ.cc id (by refine ⟨?_,?_,?_,?_,?_,?_,?_,?_,?_,?_,trivial⟩<;>first|rfl|(simp only [bn];done)|(congr 3;omega)|(congr 4;omega)|(simp only [bo];rfl)|(exact cD rfl (by omega))) (⟨by first|rfl|(simp only [bn];done)|(congr 3;omega)|(congr 4;omega)|(simp only [bo];rfl),trivial⟩) rfl⟩
   have hc11':=hc11;try simp only [bA,bW] at hc11'
   refine ay ?_
   refine ad aa 2 rfl ?_
   refine cf ?_
   refine bq ?_
   refine then_ok ?_
   refine ⟨(s,c),⟨by omega,by omega,by omega,tD hi4_3 (by omega) hc (by show (!dM _ _ _)=false;rw [gD hx1 hx2,mg.1 (by assumption)];rfl)⟩,by first|omega|(simp;done)|(simp;omega),aJ.cc id (by refine ⟨?_,?_,?_,?_,?_,?_,?_,?_,?_,?_,trivial⟩<;>first|rfl|(simp only [bn];done)|(congr 3;omega)|(congr 4;omega)|(simp only [bo];rfl)|(exact cD rfl (by omega))) (⟨by first|rfl|(simp only [bn];done)|(congr 3;omega)|(congr 4;omega)|(simp only [bo];rfl),trivial⟩) rfl⟩
  have hc10':=of_decide_eq_false hc10
  refine cp ?_
  refine aR ?_
  refine aR ?_
  refine bM ?_
  refine then_ok ?_
  refine aH aa 2 rfl ?_
  refine aE (aN rfl rfl rfl (aK (by first|omega|(simp;done)|(simp;omega)))) rfl ?_
  refine ad aa 1 rfl ?_
  refine af ?_
  refine ah ?_
  obtain ⟨e,he⟩:∃ z:Nat,z=mid+m - s:=⟨_,rfl⟩
  refine ji (i:=24) (v:=(aI (↑e:Int))) (cD (ρ:=id) rfl (by omega)) ?_
  refine cA 185 ((decide ((↑s:Int) < (↑m:Int))) && (decide ((↑m:Int) < (↑e:Int)))) ?_ ?_
  ·
   refine ay ?_
   refine ad aa 4 rfl ?_
   refine bH (t:=181) rfl (fun hb12=>?_) (fun hb12=>?_)
   ·
    have hb12':=of_decide_eq_true hb12
    refine ad aa 4 rfl ?_
    refine af ?_
    exact aJ.bK 9 rfl rfl (by first|(simp [hb12];done)|(simp_all;done)|(exfalso;simp_all;done)|(simp_all;omega)) rfl
   have hb12':=of_decide_eq_false hb12
   refine ad aa 4 rfl ?_
   refine af ?_
   exact aJ.bK 9 rfl rfl (by first|(simp [hb12];done)|(simp_all;done)|(exfalso;simp_all;done)|(simp_all;omega)) rfl
  refine an rfl (fun hc13=>?_) (fun hc13=>?_)
  ·
   have hc13':=hc13;try simp only [bA,bW] at hc13'
   refine ay ?_
   refine ad aa 5 rfl ?_
   obtain ⟨r0,hr0⟩:∃ (r0:List au),ju m (m - s) (e - m) d=r0:=⟨_,rfl⟩
   have hlr0:r0.length=d.length:=by rw [<-hr0];exact nG _ _ _ _ _ (Nat.le_refl _)
   refine aP 1 [0] (ej id id (vt (↑s:Int) (↑m:Int) (↑e:Int) d N s m e fn bh hp hen (by first|omega|(simp;done)|(simp;omega)) (by first|omega|(simp;done)|(simp;omega)) (by first|omega|(simp;done)|(simp;omega)) (by first|omega|(simp;done)|(simp;omega)) (by first|omega|(simp;done)|(simp;omega)) (by first|omega|(simp;done)|(simp;omega)) (by first|omega|(simp;done)|(simp;omega)) (by first|omega|(simp;done)|(simp;omega)) r0 hr0) Hp rfl rfl ⟨⟨_,rfl,.inl ⟨rfl,rfl⟩⟩,⟨_,rfl,.inr (.c (.d _))⟩,⟨_,rfl,.inr (.c (.d _))⟩,⟨_,rfl,.inr (.c (.d _))⟩,⟨_,rfl,.inr (.c (.d _))⟩,trivial⟩ ⟨rfl,trivial⟩ rfl rfl ⟨.inr ⟨_,_,_,rfl,by first|(simp;omega)|(simp only [List.length_map];omega)⟩,trivial⟩ rfl rfl rfl trivial ⟨(fun _ _ _ _=>trivial),trivial⟩ rfl rfl rfl rfl) rfl ?_
   refine af ?_
   refine ah ?_
   refine cA 199 ((decide ((↑a:Int) < (↑s:Int))) && (decide ((↑s:Int) < (↑mid:Int)))) ?_ ?_
   ·
    refine ay ?_
    refine ad aa 4 rfl ?_
    refine bH (t:=195) rfl (fun hb14=>?_) (fun hb14=>?_)
    ·
     have hb14':=of_decide_eq_true hb14
     refine ad aa 4 rfl ?_
     refine af ?_
     exact aJ.bK 9 rfl rfl (by first|(simp [hb14];done)|(simp_all;done)|(exfalso;simp_all;done)|(simp_all;omega)) rfl
    have hb14':=of_decide_eq_false hb14
    refine ad aa 4 rfl ?_
    refine af ?_
    exact aJ.bK 9 rfl rfl (by first|(simp [hb14];done)|(simp_all;done)|(exfalso;simp_all;done)|(simp_all;omega)) rfl
   refine an rfl (fun hc15=>?_) (fun hc15=>?_)
   ·
    have hc15':=hc15;try simp only [bA,bW] at hc15'
    refine ay ?_
    refine ad aa 5 rfl ?_
    obtain ⟨r1,hr1⟩:∃ (r1:List au),dT f a s mid r0=r1:=⟨_,rfl⟩
    have hlr1:r1.length=r0.length:=by rw [<-hr1];exact fk _ _ _ _ _
    refine aP 1 [0] (ej id id (ih (↑a:Int) (↑s:Int) (↑mid:Int) r0 N a s mid fn bh hp hen (by first|omega|(simp;done)|(simp;omega)) (by first|omega|(simp;done)|(simp;omega)) (by first|omega|(simp;done)|(simp;omega)) (by first|omega|(simp;done)|(simp;omega)) (by first|omega|(simp;done)|(simp;omega)) (by first|omega|(simp;done)|(simp;omega)) (by first|omega|(simp;done)|(simp;omega)) (by first|omega|(simp;done)|(simp;omega)) (by first|omega|(simp;done)|(simp;omega)) r1 hr1) ku rfl rfl ⟨⟨_,rfl,.inl ⟨rfl,rfl⟩⟩,⟨_,rfl,.inr (.c (.d _))⟩,⟨_,rfl,.inr (.c (.d _))⟩,⟨_,rfl,.inr (.c (.d _))⟩,⟨_,rfl,.inr (.c (.d _))⟩,trivial⟩ ⟨rfl,trivial⟩ rfl rfl ⟨.inr ⟨_,_,_,rfl,by first|(simp;omega)|(simp only [List.length_map];omega)⟩,trivial⟩ rfl rfl rfl trivial ⟨(fun _ _ _ _=>trivial),trivial⟩ rfl rfl rfl rfl) rfl ?_
    refine af ?_
    refine cA 213 ((decide ((↑mid:Int) < (↑e:Int))) && (decide ((↑e:Int) < (↑b:Int)))) ?_ ?_
    ·
     refine ay ?_
     refine ad aa 4 rfl ?_
     refine bH (t:=209) rfl (fun hb16=>?_) (fun hb16=>?_)
     ·
      have hb16':=of_decide_eq_true hb16
      refine ad aa 4 rfl ?_
      refine af ?_
      exact aJ.bK 9 rfl rfl (by first|(simp [hb16];done)|(simp_all;done)|(exfalso;simp_all;done)|(simp_all;omega)) rfl
     have hb16':=of_decide_eq_false hb16
     refine ad aa 4 rfl ?_
     refine af ?_
     exact aJ.bK 9 rfl rfl (by first|(simp [hb16];done)|(simp_all;done)|(exfalso;simp_all;done)|(simp_all;omega)) rfl
    refine an rfl (fun hc17=>?_) (fun hc17=>?_)
    ·
     have hc17':=hc17;try simp only [bA,bW] at hc17'
     refine ay ?_
     refine ad aa 5 rfl ?_
     obtain ⟨r2,hr2⟩:∃ (r2:List au),dT f mid e b r1=r2:=⟨_,rfl⟩
     have hlr2:r2.length=r1.length:=by rw [<-hr2];exact fk _ _ _ _ _
     refine aP 1 [0] (ej id id (ih (↑mid:Int) (↑e:Int) (↑b:Int) r1 N mid e b fn bh hp hen (by first|omega|(simp;done)|(simp;omega)) (by first|omega|(simp;done)|(simp;omega)) (by first|omega|(simp;done)|(simp;omega)) (by first|omega|(simp;done)|(simp;omega)) (by first|omega|(simp;done)|(simp;omega)) (by first|omega|(simp;done)|(simp;omega)) (by first|omega|(simp;done)|(simp;omega)) (by first|omega|(simp;done)|(simp;omega)) (by first|omega|(simp;done)|(simp;omega)) r2 hr2) ku rfl rfl ⟨⟨_,rfl,.inl ⟨rfl,rfl⟩⟩,⟨_,rfl,.inr (.c (.d _))⟩,⟨_,rfl,.inr (.c (.d _))⟩,⟨_,rfl,.inr (.c (.d _))⟩,⟨_,rfl,.inr (.c (.d _))⟩,trivial⟩ ⟨rfl,trivial⟩ rfl rfl ⟨.inr ⟨_,_,_,rfl,by first|(simp;omega)|(simp only [List.length_map];omega)⟩,trivial⟩ rfl rfl rfl trivial ⟨(fun _ _ _ _=>trivial),trivial⟩ rfl rfl rfl rfl) rfl ?_
     refine cf ?_
     have hX:dT (f+1) a m b d=r2:=by
       exact en (mid:=mid) (s:=s) (e:=e) (d1:=r0) (d2:=r1) (by omega) (by omega) hmid (by unfold eG;rw [<-hmid,<-ff (p:=(fun c=>!dM d (mid+m - 1 - c) c)) (i:=s) (j:=u1) (by omega),hi4_3];first|exact if_pos (by omega)|exact if_neg (by omega)) he.symm (by unfold fw;rw [if_pos (by omega)];exact hr0) (by rw [if_pos (by omega)];exact hr1) (by rw [if_pos (by omega)];exact hr2)
     rw [hX] at hr;clear hX
     subst hr
     refine cP aa [0] 1 rfl rfl rfl rfl rfl rfl ?_ ?_
     all_goals first|rfl|(simp [aD];done)|(simp [aD];omega)
    have hc17':=hc17;try simp only [bA,bW] at hc17'
    refine dg ?_
    have hX:dT (f+1) a m b d=r1:=by
      exact en (mid:=mid) (s:=s) (e:=e) (d1:=r0) (d2:=r1) (by omega) (by omega) hmid (by unfold eG;rw [<-hmid,<-ff (p:=(fun c=>!dM d (mid+m - 1 - c) c)) (i:=s) (j:=u1) (by omega),hi4_3];first|exact if_pos (by omega)|exact if_neg (by omega)) he.symm (by unfold fw;rw [if_pos (by omega)];exact hr0) (by rw [if_pos (by omega)];exact hr1) (by rw [if_neg (by omega)])
    rw [hX] at hr;clear hX
    subst hr
    refine cP aa [0] 1 rfl rfl rfl rfl rfl rfl ?_ ?_
    all_goals first|rfl|(simp [aD];done)|(simp [aD];omega)
   have hc15':=hc15;try simp only [bA,bW] at hc15'
   refine aU ?_
   refine cA 213 ((decide ((↑mid:Int) < (↑e:Int))) && (decide ((↑e:Int) < (↑b:Int)))) ?_ ?_
   ·
    refine ay ?_
    refine ad aa 4 rfl ?_
    refine bH (t:=209) rfl (fun hb18=>?_) (fun hb18=>?_)
    ·
     have hb18':=of_decide_eq_true hb18
     refine ad aa 4 rfl ?_
     refine af ?_
     exact aJ.bK 9 rfl rfl (by first|(simp [hb18];done)|(simp_all;done)|(exfalso;simp_all;done)|(simp_all;omega)) rfl
    have hb18':=of_decide_eq_false hb18
    refine ad aa 4 rfl ?_
    refine af ?_
    exact aJ.bK 9 rfl rfl (by first|(simp [hb18];done)|(simp_all;done)|(exfalso;simp_all;done)|(simp_all;omega)) rfl
   refine an rfl (fun hc19=>?_) (fun hc19=>?_)
   ·
    have hc19':=hc19;try simp only [bA,bW] at hc19'
    refine ay ?_
    refine ad aa 5 rfl ?_
    obtain ⟨r3,hr3⟩:∃ (r3:List au),dT f mid e b r0=r3:=⟨_,rfl⟩
    have hlr3:r3.length=r0.length:=by rw [<-hr3];exact fk _ _ _ _ _
    refine aP 1 [0] (ej id id (ih (↑mid:Int) (↑e:Int) (↑b:Int) r0 N mid e b fn bh hp hen (by first|omega|(simp;done)|(simp;omega)) (by first|omega|(simp;done)|(simp;omega)) (by first|omega|(simp;done)|(simp;omega)) (by first|omega|(simp;done)|(simp;omega)) (by first|omega|(simp;done)|(simp;omega)) (by first|omega|(simp;done)|(simp;omega)) (by first|omega|(simp;done)|(simp;omega)) (by first|omega|(simp;done)|(simp;omega)) (by first|omega|(simp;done)|(simp;omega)) r3 hr3) ku rfl rfl ⟨⟨_,rfl,.inl ⟨rfl,rfl⟩⟩,⟨_,rfl,.inr (.c (.d _))⟩,⟨_,rfl,.inr (.c (.d _))⟩,⟨_,rfl,.inr (.c (.d _))⟩,⟨_,rfl,.inr (.c (.d _))⟩,trivial⟩ ⟨rfl,trivial⟩ rfl rfl ⟨.inr ⟨_,_,_,rfl,by first|(simp;omega)|(simp only [List.length_map];omega)⟩,trivial⟩ rfl rfl rfl trivial ⟨(fun _ _ _ _=>trivial),trivial⟩ rfl rfl rfl rfl) rfl ?_
    refine cf ?_
    have hX:dT (f+1) a m b d=r3:=by
      exact en (mid:=mid) (s:=s) (e:=e) (d1:=r0) (d2:=r0) (by omega) (by omega) hmid (by unfold eG;rw [<-hmid,<-ff (p:=(fun c=>!dM d (mid+m - 1 - c) c)) (i:=s) (j:=u1) (by omega),hi4_3];first|exact if_pos (by omega)|exact if_neg (by omega)) he.symm (by unfold fw;rw [if_pos (by omega)];exact hr0) (by rw [if_neg (by omega)]) (by rw [if_pos (by omega)];exact hr3)
    rw [hX] at hr;clear hX
    subst hr
    refine cP aa [0] 1 rfl rfl rfl rfl rfl rfl ?_ ?_
    all_goals first|rfl|(simp [aD];done)|(simp [aD];omega)
   have hc19':=hc19;try simp only [bA,bW] at hc19'
   refine dg ?_
   have hX:dT (f+1) a m b d=r0:=by
     exact en (mid:=mid) (s:=s) (e:=e) (d1:=r0) (d2:=r0) (by omega) (by omega) hmid (by unfold eG;rw [<-hmid,<-ff (p:=(fun c=>!dM d (mid+m - 1 - c) c)) (i:=s) (j:=u1) (by omega),hi4_3];first|exact if_pos (by omega)|exact if_neg (by omega)) he.symm (by unfold fw;rw [if_pos (by omega)];exact hr0) (by rw [if_neg (by omega)]) (by rw [if_neg (by omega)])
   rw [hX] at hr;clear hX
   subst hr
   refine cP aa [0] 1 rfl rfl rfl rfl rfl rfl ?_ ?_
   all_goals first|rfl|(simp [aD];done)|(simp [aD];omega)
  have hc13':=hc13;try simp only [bA,bW] at hc13'
  refine aU ?_
  refine ah ?_
  refine cA 199 ((decide ((↑a:Int) < (↑s:Int))) && (decide ((↑s:Int) < (↑mid:Int)))) ?_ ?_
  ·
   refine ay ?_
   refine ad aa 4 rfl ?_
   refine bH (t:=195) rfl (fun hb20=>?_) (fun hb20=>?_)
   ·
    have hb20':=of_decide_eq_true hb20
    refine ad aa 4 rfl ?_
    refine af ?_
    exact aJ.bK 9 rfl rfl (by first|(simp [hb20];done)|(simp_all;done)|(exfalso;simp_all;done)|(simp_all;omega)) rfl
   have hb20':=of_decide_eq_false hb20
   refine ad aa 4 rfl ?_
   refine af ?_
   exact aJ.bK 9 rfl rfl (by first|(simp [hb20];done)|(simp_all;done)|(exfalso;simp_all;done)|(simp_all;omega)) rfl
  refine an rfl (fun hc21=>?_) (fun hc21=>?_)
  ·
   have hc21':=hc21;try simp only [bA,bW] at hc21'
   refine ay ?_
   refine ad aa 5 rfl ?_
   obtain ⟨r4,hr4⟩:∃ (r4:List au),dT f a s mid d=r4:=⟨_,rfl⟩
   have hlr4:r4.length=d.length:=by rw [<-hr4];exact fk _ _ _ _ _
   refine aP 1 [0] (ej id id (ih (↑a:Int) (↑s:Int) (↑mid:Int) d N a s mid fn bh hp hen (by first|omega|(simp;done)|(simp;omega)) (by first|omega|(simp;done)|(simp;omega)) (by first|omega|(simp;done)|(simp;omega)) (by first|omega|(simp;done)|(simp;omega)) (by first|omega|(simp;done)|(simp;omega)) (by first|omega|(simp;done)|(simp;omega)) (by first|omega|(simp;done)|(simp;omega)) (by first|omega|(simp;done)|(simp;omega)) (by first|omega|(simp;done)|(simp;omega)) r4 hr4) ku rfl rfl ⟨⟨_,rfl,.inl ⟨rfl,rfl⟩⟩,⟨_,rfl,.inr (.c (.d _))⟩,⟨_,rfl,.inr (.c (.d _))⟩,⟨_,rfl,.inr (.c (.d _))⟩,⟨_,rfl,.inr (.c (.d _))⟩,trivial⟩ ⟨rfl,trivial⟩ rfl rfl ⟨.inr ⟨_,_,_,rfl,by first|(simp;omega)|(simp only [List.length_map];omega)⟩,trivial⟩ rfl rfl rfl trivial ⟨(fun _ _ _ _=>trivial),trivial⟩ rfl rfl rfl rfl) rfl ?_
   refine af ?_
   refine cA 213 ((decide ((↑mid:Int) < (↑e:Int))) && (decide ((↑e:Int) < (↑b:Int)))) ?_ ?_
   ·
    refine ay ?_
    refine ad aa 4 rfl ?_
    refine bH (t:=209) rfl (fun hb22=>?_) (fun hb22=>?_)
    ·
     have hb22':=of_decide_eq_true hb22
     refine ad aa 4 rfl ?_
     refine af ?_
     exact aJ.bK 9 rfl rfl (by first|(simp [hb22];done)|(simp_all;done)|(exfalso;simp_all;done)|(simp_all;omega)) rfl
    have hb22':=of_decide_eq_false hb22
    refine ad aa 4 rfl ?_
    refine af ?_
    exact aJ.bK 9 rfl rfl (by first|(simp [hb22];done)|(simp_all;done)|(exfalso;simp_all;done)|(simp_all;omega)) rfl
   refine an rfl (fun hc23=>?_) (fun hc23=>?_)
   ·
    have hc23':=hc23;try simp only [bA,bW] at hc23'
    refine ay ?_
    refine ad aa 5 rfl ?_
    obtain ⟨r5,hr5⟩:∃ (r5:List au),dT f mid e b r4=r5:=⟨_,rfl⟩
    have hlr5:r5.length=r4.length:=by rw [<-hr5];exact fk _ _ _ _ _
    refine aP 1 [0] (ej id id (ih (↑mid:Int) (↑e:Int) (↑b:Int) r4 N mid e b fn bh hp hen (by first|omega|(simp;done)|(simp;omega)) (by first|omega|(simp;done)|(simp;omega)) (by first|omega|(simp;done)|(simp;omega)) (by first|omega|(simp;done)|(simp;omega)) (by first|omega|(simp;done)|(simp;omega)) (by first|omega|(simp;done)|(simp;omega)) (by first|omega|(simp;done)|(simp;omega)) (by first|omega|(simp;done)|(simp;omega)) (by first|omega|(simp;done)|(simp;omega)) r5 hr5) ku rfl rfl ⟨⟨_,rfl,.inl ⟨rfl,rfl⟩⟩,⟨_,rfl,.inr (.c (.d _))⟩,⟨_,rfl,.inr (.c (.d _))⟩,⟨_,rfl,.inr (.c (.d _))⟩,⟨_,rfl,.inr (.c (.d _))⟩,trivial⟩ ⟨rfl,trivial⟩ rfl rfl ⟨.inr ⟨_,_,_,rfl,by first|(simp;omega)|(simp only [List.length_map];omega)⟩,trivial⟩ rfl rfl rfl trivial ⟨(fun _ _ _ _=>trivial),trivial⟩ rfl rfl rfl rfl) rfl ?_
    refine cf ?_
    have hX:dT (f+1) a m b d=r5:=by
      exact en (mid:=mid) (s:=s) (e:=e) (d1:=d) (d2:=r4) (by omega) (by omega) hmid (by unfold eG;rw [<-hmid,<-ff (p:=(fun c=>!dM d (mid+m - 1 - c) c)) (i:=s) (j:=u1) (by omega),hi4_3];first|exact if_pos (by omega)|exact if_neg (by omega)) he.symm (by unfold fw;rw [if_neg (by omega)]) (by rw [if_pos (by omega)];exact hr4) (by rw [if_pos (by omega)];exact hr5)
    rw [hX] at hr;clear hX
    subst hr
    refine cP aa [0] 1 rfl rfl rfl rfl rfl rfl ?_ ?_
    all_goals first|rfl|(simp [aD];done)|(simp [aD];omega)
   have hc23':=hc23;try simp only [bA,bW] at hc23'
   refine dg ?_
   have hX:dT (f+1) a m b d=r4:=by
     exact en (mid:=mid) (s:=s) (e:=e) (d1:=d) (d2:=r4) (by omega) (by omega) hmid (by unfold eG;rw [<-hmid,<-ff (p:=(fun c=>!dM d (mid+m - 1 - c) c)) (i:=s) (j:=u1) (by omega),hi4_3];first|exact if_pos (by omega)|exact if_neg (by omega)) he.symm (by unfold fw;rw [if_neg (by omega)]) (by rw [if_pos (by omega)];exact hr4) (by rw [if_neg (by omega)])
   rw [hX] at hr;clear hX
   subst hr
   refine cP aa [0] 1 rfl rfl rfl rfl rfl rfl ?_ ?_
   all_goals first|rfl|(simp [aD];done)|(simp [aD];omega)
  have hc21':=hc21;try simp only [bA,bW] at hc21'
  refine aU ?_
  refine cA 213 ((decide ((↑mid:Int) < (↑e:Int))) && (decide ((↑e:Int) < (↑b:Int)))) ?_ ?_
  ·
   refine ay ?_
   refine ad aa 4 rfl ?_
   refine bH (t:=209) rfl (fun hb24=>?_) (fun hb24=>?_)
   ·
    have hb24':=of_decide_eq_true hb24
    refine ad aa 4 rfl ?_
    refine af ?_
    exact aJ.bK 9 rfl rfl (by first|(simp [hb24];done)|(simp_all;done)|(exfalso;simp_all;done)|(simp_all;omega)) rfl
   have hb24':=of_decide_eq_false hb24
   refine ad aa 4 rfl ?_
   refine af ?_
   exact aJ.bK 9 rfl rfl (by first|(simp [hb24];done)|(simp_all;done)|(exfalso;simp_all;done)|(simp_all;omega)) rfl
  refine an rfl (fun hc25=>?_) (fun hc25=>?_)
  ·
   have hc25':=hc25;try simp only [bA,bW] at hc25'
   refine ay ?_
   refine ad aa 5 rfl ?_
   obtain ⟨r6,hr6⟩:∃ (r6:List au),dT f mid e b d=r6:=⟨_,rfl⟩
   have hlr6:r6.length=d.length:=by rw [<-hr6];exact fk _ _ _ _ _
   refine aP 1 [0] (ej id id (ih (↑mid:Int) (↑e:Int) (↑b:Int) d N mid e b fn bh hp hen (by first|omega|(simp;done)|(simp;omega)) (by first|omega|(simp;done)|(simp;omega)) (by first|omega|(simp;done)|(simp;omega)) (by first|omega|(simp;done)|(simp;omega)) (by first|omega|(simp;done)|(simp;omega)) (by first|omega|(simp;done)|(simp;omega)) (by first|omega|(simp;done)|(simp;omega)) (by first|omega|(simp;done)|(simp;omega)) (by first|omega|(simp;done)|(simp;omega)) r6 hr6) ku rfl rfl ⟨⟨_,rfl,.inl ⟨rfl,rfl⟩⟩,⟨_,rfl,.inr (.c (.d _))⟩,⟨_,rfl,.inr (.c (.d _))⟩,⟨_,rfl,.inr (.c (.d _))⟩,⟨_,rfl,.inr (.c (.d _))⟩,trivial⟩ ⟨rfl,trivial⟩ rfl rfl ⟨.inr ⟨_,_,_,rfl,by first|(simp;omega)|(simp only [List.length_map];omega)⟩,trivial⟩ rfl rfl rfl trivial ⟨(fun _ _ _ _=>trivial),trivial⟩ rfl rfl rfl rfl) rfl ?_
   refine cf ?_
   have hX:dT (f+1) a m b d=r6:=by
     exact en (mid:=mid) (s:=s) (e:=e) (d1:=d) (d2:=d) (by omega) (by omega) hmid (by unfold eG;rw [<-hmid,<-ff (p:=(fun c=>!dM d (mid+m - 1 - c) c)) (i:=s) (j:=u1) (by omega),hi4_3];first|exact if_pos (by omega)|exact if_neg (by omega)) he.symm (by unfold fw;rw [if_neg (by omega)]) (by rw [if_neg (by omega)]) (by rw [if_pos (by omega)];exact hr6)
   rw [hX] at hr;clear hX
   subst hr
   refine cP aa [0] 1 rfl rfl rfl rfl rfl rfl ?_ ?_
   all_goals first|rfl|(simp [aD];done)|(simp [aD];omega)
  have hc25':=hc25;try simp only [bA,bW] at hc25'
  refine dg ?_
  have hX:dT (f+1) a m b d=d:=by
    exact en (mid:=mid) (s:=s) (e:=e) (d1:=d) (d2:=d) (by omega) (by omega) hmid (by unfold eG;rw [<-hmid,<-ff (p:=(fun c=>!dM d (mid+m - 1 - c) c)) (i:=s) (j:=u1) (by omega),hi4_3];first|exact if_pos (by omega)|exact if_neg (by omega)) he.symm (by unfold fw;rw [if_neg (by omega)]) (by rw [if_neg (by omega)]) (by rw [if_neg (by omega)])
  rw [hX] at hr;clear hX
  subst hr
  refine cP aa [0] 1 rfl rfl rfl rfl rfl rfl ?_ ?_
  all_goals first|rfl|(simp [aD];done)|(simp [aD];omega)
 have hc9':=of_decide_eq_false hc9
 refine ae aa 2 rfl ?_
 refine ay ?_
 refine ad aa 2 rfl ?_
 refine af ?_
 refine aH aa 1 rfl ?_
 refine aE (aN rfl rfl rfl (aK (by first|omega|(simp;done)|(simp;omega)))) rfl ?_
 refine ad aa 1 rfl ?_
 refine af ?_
 refine ah ?_
 refine aY ?_
 refine cz (β:=Nat×Nat) (fun (p:Nat×Nat)=>match p with|(s,u1)=>⟨[(0,(aC (.s 0 0 4 N))),(1,(aI (↑a:Int))),(2,(aI (↑m:Int))),(3,(aI (↑b:Int))),(4,(aC (.d (.f fn bh)))),(18,(aI (↑mid:Int))),(19,(aI ((↑mid:Int)+(↑m:Int)))),(20,(aI (↑s:Int))),(21,(aI (↑u1:Int))),(22,(aI (((↑mid:Int)+(↑m:Int)) - 1)))],[(0,(cU d))],1⟩) (fun (p:Nat×Nat)=>match p with|(s,u1)=>a<=s/\s<=u1/\u1<=m/\gp (fun c=>!dM d (mid+m - 1 - c) c) s u1=gp (fun c=>!dM d (mid+m - 1 - c) c) a m) (fun (p:Nat×Nat)=>match p with|(s,u1)=>u1 - s) (a,m) ?_ ?_ ?_
 ·exact ⟨by omega,by omega,by omega,rfl⟩
 ·exact aJ.cc id (by refine ⟨?_,?_,?_,?_,?_,?_,?_,?_,?_,?_,trivial⟩<;>first|rfl|(simp only [bn];done)|(congr 3;omega)|(congr 4;omega)|(simp only [bo];rfl)|(exact cD rfl (by omega))) (⟨by first|rfl|(simp only [bn];done)|(congr 3;omega)|(congr 4;omega)|(simp only [bo];rfl),trivial⟩) rfl
 rintro ⟨s,u1⟩ ⟨hi4_0,hi4_1,hi4_2,hi4_3⟩
 refine ah ?_
 refine ae aa 3 rfl ?_
 refine an rfl (fun hc26=>?_) (fun hc26=>?_)
 ·
  have hc26':=of_decide_eq_true hc26
  refine aU ?_
  refine aY ?_
  refine aH aa 2 rfl ?_
  refine aE (aN rfl rfl rfl (aK (by first|omega|(simp;done)|(simp;omega)))) rfl ?_
  refine aE (fQ rfl rfl (by rw [Try.underlying3];rfl) Try.underlying128 (kU (by first|omega|(simp;done)|(simp;omega)))) rfl ?_
  refine aE (nL (r:=(↑(((s)+(u1)) / 2):Int)) rfl rfl rfl (by omega)) rfl ?_
  refine aE (fQ rfl rfl (by rw [Try.underlying128];rfl) Try.underlying3 (kV (by first|omega|(simp;done)|(simp;omega)))) rfl ?_
  refine ad aa 1 rfl ?_
  refine af ?_
  obtain ⟨c,hc⟩:∃ z:Nat,z=(s+u1) / 2:=⟨_,rfl⟩
  refine ji (i:=23) (v:=(aI (↑c:Int))) (cD (ρ:=id) rfl (by omega)) ?_
  refine ah ?_
  obtain ⟨x1,hx1⟩:=cr (xs:=d) (i:=(((mid)+(m)) - 1) - (c)) (by first|omega|(simp;done)|(simp;omega))
  obtain ⟨x2,hx2⟩:=cr (xs:=d) (i:=c) (by first|omega|(simp;done)|(simp;omega))
  refine bd [0,1,2,3,4,18,19,20,21,22,23] [0] mixed rfl rfl ?_
  refine aF (kn:=[]) aa 4 rfl trivial ?_
  refine aX (n':=1) [160,161] [] rfl rfl (.inl ⟨(aq.plain rfl),aM.cast (aN rfl rfl rfl (aK (by first|omega|(simp;done)|(simp;omega)))) rfl⟩) rfl ?_
  refine aX (n':=1) [159,162] [0] rfl rfl (.inl ⟨(aq.plain rfl),aM.cast (br (i:=(((mid)+(m)) - 1) - (c)) rfl rfl rfl Try.underlying42 dK (by first|omega|(simp;done)|(simp;omega)) (by first|omega|(simp;done)|(simp;omega))) rfl⟩) rfl ?_
  refine aX (n':=1) [163] [0] rfl rfl (.inl ⟨(aq.plain rfl),aM.cast (dy rfl rfl rfl Try.underlying83 rfl dK (bz hx1) rfl) rfl⟩) rfl ?_
  refine aF (kn:=[]) aa 2 rfl trivial ?_
  refine aX (n':=1) [165,166] [0] rfl rfl (.inl ⟨(aq.plain rfl),aM.cast (br (i:=c) rfl rfl rfl Try.underlying42 dK (by first|omega|(simp;done)|(simp;omega)) (by first|omega|(simp;done)|(simp;omega))) rfl⟩) rfl ?_
  refine aX (n':=1) [167] [0] rfl rfl (.inl ⟨(aq.plain rfl),aM.cast (dy rfl rfl rfl Try.underlying83 rfl dK (bz hx2) rfl) rfl⟩) rfl ?_
  refine aX (n':=1) [158,164,168] [] rfl rfl (.inl ⟨(aq.plain rfl),aM.cast (iD (ins:=[(.g [(cI x1.az),(cI x1.ba),(cI x1.kind),(cI x1.sum)]),(.g [(cI x2.az),(cI x2.ba),(cI x2.kind),(cI x2.sum)])]) 1 (hp x1 x2) hen rfl rfl rfl ⟨⟨_,rfl,.g ⟨.d _,.d _,.d _,.d _,trivial⟩⟩,⟨_,rfl,.g ⟨.d _,.d _,.d _,.d _,trivial⟩⟩,trivial⟩ trivial trivial rfl rfl rfl rfl) rfl⟩) rfl ?_
  refine aF (kn:=[]) aa 2 rfl trivial ?_
  refine bF [0] rfl rfl rfl rfl (by kernel_rfl) ?_
  refine af ?_
  refine an rfl (fun hc27=>?_) (fun hc27=>?_)
  ·
   have hc27':=hc27;try simp only [bA,bW] at hc27'
   refine ay ?_
   refine ad aa 1 rfl ?_
   refine aE (aN rfl rfl rfl (aK (by first|omega|(simp;done)|(simp;omega)))) rfl ?_
   refine ad aa 1 rfl ?_
   refine cf ?_
   refine bq ?_
   refine then_ok ?_
   refine ⟨(c+1,u1),⟨by omega,by omega,by omega,tC hi4_3 (by omega) hc (by show (!dM _ _ _)=true;rw [gD hx1 hx2,mh (by assumption)];rfl)⟩,by first|omega|(simp;done)|(simp;omega),aJ.cc id (by refine ⟨?_,?_,?_,?_,?_,?_,?_,?_,?_,?_,trivial⟩<;>first|rfl|(simp only [bn];done)|(congr 3;omega)|(congr 4;omega)|(simp only [bo];rfl)|(exact cD rfl (by omega))) (⟨by first|rfl|(simp only [bn];done)|(congr 3;omega)|(congr 4;omega)|(simp only [bo];rfl),trivial⟩) rfl⟩
  have hc27':=hc27;try simp only [bA,bW] at hc27'
  refine ay ?_
  refine ad aa 2 rfl ?_
  refine cf ?_
  refine bq ?_
  refine then_ok ?_
  refine ⟨(s,c),⟨by omega,by omega,by omega,tD hi4_3 (by omega) hc (by show (!dM _ _ _)=false;rw [gD hx1 hx2,mg.1 (by assumption)];rfl)⟩,by first|omega|(simp;done)|(simp;omega),aJ.cc id (by refine ⟨?_,?_,?_,?_,?_,?_,?_,?_,?_,?_,trivial⟩<;>first|rfl|(simp only [bn];done)|(congr 3;omega)|(congr 4;omega)|(simp only [bo];rfl)|(exact cD rfl (by omega))) (⟨by first|rfl|(simp only [bn];done)|(congr 3;omega)|(congr 4;omega)|(simp only [bo];rfl),trivial⟩) rfl⟩
 have hc26':=of_decide_eq_false hc26
 refine cp ?_
 refine aR ?_
 refine aR ?_
 refine bM ?_
 refine then_ok ?_
 refine aH aa 2 rfl ?_
 refine aE (aN rfl rfl rfl (aK (by first|omega|(simp;done)|(simp;omega)))) rfl ?_
 refine ad aa 1 rfl ?_
 refine af ?_
 refine ah ?_
 obtain ⟨e,he⟩:∃ z:Nat,z=mid+m - s:=⟨_,rfl⟩
 refine ji (i:=24) (v:=(aI (↑e:Int))) (cD (ρ:=id) rfl (by omega)) ?_
 refine cA 185 ((decide ((↑s:Int) < (↑m:Int))) && (decide ((↑m:Int) < (↑e:Int)))) ?_ ?_
 ·
  refine ay ?_
  refine ad aa 4 rfl ?_
  refine bH (t:=181) rfl (fun hb28=>?_) (fun hb28=>?_)
  ·
   have hb28':=of_decide_eq_true hb28
   refine ad aa 4 rfl ?_
   refine af ?_
   exact aJ.bK 9 rfl rfl (by first|(simp [hb28];done)|(simp_all;done)|(exfalso;simp_all;done)|(simp_all;omega)) rfl
  have hb28':=of_decide_eq_false hb28
  refine ad aa 4 rfl ?_
  refine af ?_
  exact aJ.bK 9 rfl rfl (by first|(simp [hb28];done)|(simp_all;done)|(exfalso;simp_all;done)|(simp_all;omega)) rfl
 refine an rfl (fun hc29=>?_) (fun hc29=>?_)
 ·
  have hc29':=hc29;try simp only [bA,bW] at hc29'
  refine ay ?_
  refine ad aa 5 rfl ?_
  obtain ⟨r7,hr7⟩:∃ (r7:List au),ju m (m - s) (e - m) d=r7:=⟨_,rfl⟩
  have hlr7:r7.length=d.length:=by rw [<-hr7];exact nG _ _ _ _ _ (Nat.le_refl _)
  refine aP 1 [0] (ej id id (vt (↑s:Int) (↑m:Int) (↑e:Int) d N s m e fn bh hp hen (by first|omega|(simp;done)|(simp;omega)) (by first|omega|(simp;done)|(simp;omega)) (by first|omega|(simp;done)|(simp;omega)) (by first|omega|(simp;done)|(simp;omega)) (by first|omega|(simp;done)|(simp;omega)) (by first|omega|(simp;done)|(simp;omega)) (by first|omega|(simp;done)|(simp;omega)) (by first|omega|(simp;done)|(simp;omega)) r7 hr7) Hp rfl rfl ⟨⟨_,rfl,.inl ⟨rfl,rfl⟩⟩,⟨_,rfl,.inr (.c (.d _))⟩,⟨_,rfl,.inr (.c (.d _))⟩,⟨_,rfl,.inr (.c (.d _))⟩,⟨_,rfl,.inr (.c (.d _))⟩,trivial⟩ ⟨rfl,trivial⟩ rfl rfl ⟨.inr ⟨_,_,_,rfl,by first|(simp;omega)|(simp only [List.length_map];omega)⟩,trivial⟩ rfl rfl rfl trivial ⟨(fun _ _ _ _=>trivial),trivial⟩ rfl rfl rfl rfl) rfl ?_
  refine af ?_
  refine ah ?_
  refine cA 199 ((decide ((↑a:Int) < (↑s:Int))) && (decide ((↑s:Int) < (↑mid:Int)))) ?_ ?_
  ·
   refine ay ?_
   refine ad aa 4 rfl ?_
   refine bH (t:=195) rfl (fun hb30=>?_) (fun hb30=>?_)
   ·
    have hb30':=of_decide_eq_true hb30
    refine ad aa 4 rfl ?_
    refine af ?_
    exact aJ.bK 9 rfl rfl (by first|(simp [hb30];done)|(simp_all;done)|(exfalso;simp_all;done)|(simp_all;omega)) rfl
   have hb30':=of_decide_eq_false hb30
   refine ad aa 4 rfl ?_
   refine af ?_
   exact aJ.bK 9 rfl rfl (by first|(simp [hb30];done)|(simp_all;done)|(exfalso;simp_all;done)|(simp_all;omega)) rfl
  refine an rfl (fun hc31=>?_) (fun hc31=>?_)
  ·
   have hc31':=hc31;try simp only [bA,bW] at hc31'
   refine ay ?_
   refine ad aa 5 rfl ?_
   obtain ⟨r8,hr8⟩:∃ (r8:List au),dT f a s mid r7=r8:=⟨_,rfl⟩
   have hlr8:r8.length=r7.length:=by rw [<-hr8];exact fk _ _ _ _ _
   refine aP 1 [0] (ej id id (ih (↑a:Int) (↑s:Int) (↑mid:Int) r7 N a s mid fn bh hp hen (by first|omega|(simp;done)|(simp;omega)) (by first|omega|(simp;done)|(simp;omega)) (by first|omega|(simp;done)|(simp;omega)) (by first|omega|(simp;done)|(simp;omega)) (by first|omega|(simp;done)|(simp;omega)) (by first|omega|(simp;done)|(simp;omega)) (by first|omega|(simp;done)|(simp;omega)) (by first|omega|(simp;done)|(simp;omega)) (by first|omega|(simp;done)|(simp;omega)) r8 hr8) ku rfl rfl ⟨⟨_,rfl,.inl ⟨rfl,rfl⟩⟩,⟨_,rfl,.inr (.c (.d _))⟩,⟨_,rfl,.inr (.c (.d _))⟩,⟨_,rfl,.inr (.c (.d _))⟩,⟨_,rfl,.inr (.c (.d _))⟩,trivial⟩ ⟨rfl,trivial⟩ rfl rfl ⟨.inr ⟨_,_,_,rfl,by first|(simp;omega)|(simp only [List.length_map];omega)⟩,trivial⟩ rfl rfl rfl trivial ⟨(fun _ _ _ _=>trivial),trivial⟩ rfl rfl rfl rfl) rfl ?_
   refine af ?_
   refine cA 213 ((decide ((↑mid:Int) < (↑e:Int))) && (decide ((↑e:Int) < (↑b:Int)))) ?_ ?_
   ·
    refine ay ?_
    refine ad aa 4 rfl ?_
    refine bH (t:=209) rfl (fun hb32=>?_) (fun hb32=>?_)
    ·
     have hb32':=of_decide_eq_true hb32
     refine ad aa 4 rfl ?_
     refine af ?_
     exact aJ.bK 9 rfl rfl (by first|(simp [hb32];done)|(simp_all;done)|(exfalso;simp_all;done)|(simp_all;omega)) rfl
    have hb32':=of_decide_eq_false hb32
    refine ad aa 4 rfl ?_
    refine af ?_
    exact aJ.bK 9 rfl rfl (by first|(simp [hb32];done)|(simp_all;done)|(exfalso;simp_all;done)|(simp_all;omega)) rfl
   refine an rfl (fun hc33=>?_) (fun hc33=>?_)
   ·
    have hc33':=hc33;try simp only [bA,bW] at hc33'
    refine ay ?_
    refine ad aa 5 rfl ?_
    obtain ⟨r9,hr9⟩:∃ (r9:List au),dT f mid e b r8=r9:=⟨_,rfl⟩
    have hlr9:r9.length=r8.length:=by rw [<-hr9];exact fk _ _ _ _ _
    refine aP 1 [0] (ej id id (ih (↑mid:Int) (↑e:Int) (↑b:Int) r8 N mid e b fn bh hp hen (by first|omega|(simp;done)|(simp;omega)) (by first|omega|(simp;done)|(simp;omega)) (by first|omega|(simp;done)|(simp;omega)) (by first|omega|(simp;done)|(simp;omega)) (by first|omega|(simp;done)|(simp;omega)) (by first|omega|(simp;done)|(simp;omega)) (by first|omega|(simp;done)|(simp;omega)) (by first|omega|(simp;done)|(simp;omega)) (by first|omega|(simp;done)|(simp;omega)) r9 hr9) ku rfl rfl ⟨⟨_,rfl,.inl ⟨rfl,rfl⟩⟩,⟨_,rfl,.inr (.c (.d _))⟩,⟨_,rfl,.inr (.c (.d _))⟩,⟨_,rfl,.inr (.c (.d _))⟩,⟨_,rfl,.inr (.c (.d _))⟩,trivial⟩ ⟨rfl,trivial⟩ rfl rfl ⟨.inr ⟨_,_,_,rfl,by first|(simp;omega)|(simp only [List.length_map];omega)⟩,trivial⟩ rfl rfl rfl trivial ⟨(fun _ _ _ _=>trivial),trivial⟩ rfl rfl rfl rfl) rfl ?_
    refine cf ?_
    have hX:dT (f+1) a m b d=r9:=by
      exact en (mid:=mid) (s:=s) (e:=e) (d1:=r7) (d2:=r8) (by omega) (by omega) hmid (by unfold eG;rw [<-hmid,<-ff (p:=(fun c=>!dM d (mid+m - 1 - c) c)) (i:=s) (j:=u1) (by omega),hi4_3];first|exact if_pos (by omega)|exact if_neg (by omega)) he.symm (by unfold fw;rw [if_pos (by omega)];exact hr7) (by rw [if_pos (by omega)];exact hr8) (by rw [if_pos (by omega)];exact hr9)
    rw [hX] at hr;clear hX
    subst hr
    refine cP aa [0] 1 rfl rfl rfl rfl rfl rfl ?_ ?_
    all_goals first|rfl|(simp [aD];done)|(simp [aD];omega)
   have hc33':=hc33;try simp only [bA,bW] at hc33'
   refine dg ?_
   have hX:dT (f+1) a m b d=r8:=by
     exact en (mid:=mid) (s:=s) (e:=e) (d1:=r7) (d2:=r8) (by omega) (by omega) hmid (by unfold eG;rw [<-hmid,<-ff (p:=(fun c=>!dM d (mid+m - 1 - c) c)) (i:=s) (j:=u1) (by omega),hi4_3];first|exact if_pos (by omega)|exact if_neg (by omega)) he.symm (by unfold fw;rw [if_pos (by omega)];exact hr7) (by rw [if_pos (by omega)];exact hr8) (by rw [if_neg (by omega)])
   rw [hX] at hr;clear hX
   subst hr
   refine cP aa [0] 1 rfl rfl rfl rfl rfl rfl ?_ ?_
   all_goals first|rfl|(simp [aD];done)|(simp [aD];omega)
  have hc31':=hc31;try simp only [bA,bW] at hc31'
  refine aU ?_
  refine cA 213 ((decide ((↑mid:Int) < (↑e:Int))) && (decide ((↑e:Int) < (↑b:Int)))) ?_ ?_
  ·
   refine ay ?_
   refine ad aa 4 rfl ?_
   refine bH (t:=209) rfl (fun hb34=>?_) (fun hb34=>?_)
   ·
    have hb34':=of_decide_eq_true hb34
    refine ad aa 4 rfl ?_
    refine af ?_
    exact aJ.bK 9 rfl rfl (by first|(simp [hb34];done)|(simp_all;done)|(exfalso;simp_all;done)|(simp_all;omega)) rfl
   have hb34':=of_decide_eq_false hb34
   refine ad aa 4 rfl ?_
   refine af ?_
   exact aJ.bK 9 rfl rfl (by first|(simp [hb34];done)|(simp_all;done)|(exfalso;simp_all;done)|(simp_all;omega)) rfl
  refine an rfl (fun hc35=>?_) (fun hc35=>?_)
  ·
   have hc35':=hc35;try simp only [bA,bW] at hc35'
   refine ay ?_
   refine ad aa 5 rfl ?_
   obtain ⟨r10,hr10⟩:∃ (r10:List au),dT f mid e b r7=r10:=⟨_,rfl⟩
   have hlr10:r10.length=r7.length:=by rw [<-hr10];exact fk _ _ _ _ _
   refine aP 1 [0] (ej id id (ih (↑mid:Int) (↑e:Int) (↑b:Int) r7 N mid e b fn bh hp hen (by first|omega|(simp;done)|(simp;omega)) (by first|omega|(simp;done)|(simp;omega)) (by first|omega|(simp;done)|(simp;omega)) (by first|omega|(simp;done)|(simp;omega)) (by first|omega|(simp;done)|(simp;omega)) (by first|omega|(simp;done)|(simp;omega)) (by first|omega|(simp;done)|(simp;omega)) (by first|omega|(simp;done)|(simp;omega)) (by first|omega|(simp;done)|(simp;omega)) r10 hr10) ku rfl rfl ⟨⟨_,rfl,.inl ⟨rfl,rfl⟩⟩,⟨_,rfl,.inr (.c (.d _))⟩,⟨_,rfl,.inr (.c (.d _))⟩,⟨_,rfl,.inr (.c (.d _))⟩,⟨_,rfl,.inr (.c (.d _))⟩,trivial⟩ ⟨rfl,trivial⟩ rfl rfl ⟨.inr ⟨_,_,_,rfl,by first|(simp;omega)|(simp only [List.length_map];omega)⟩,trivial⟩ rfl rfl rfl trivial ⟨(fun _ _ _ _=>trivial),trivial⟩ rfl rfl rfl rfl) rfl ?_
   refine cf ?_
   have hX:dT (f+1) a m b d=r10:=by
     exact en (mid:=mid) (s:=s) (e:=e) (d1:=r7) (d2:=r7) (by omega) (by omega) hmid (by unfold eG;rw [<-hmid,<-ff (p:=(fun c=>!dM d (mid+m - 1 - c) c)) (i:=s) (j:=u1) (by omega),hi4_3];first|exact if_pos (by omega)|exact if_neg (by omega)) he.symm (by unfold fw;rw [if_pos (by omega)];exact hr7) (by rw [if_neg (by omega)]) (by rw [if_pos (by omega)];exact hr10)
   rw [hX] at hr;clear hX
   subst hr
   refine cP aa [0] 1 rfl rfl rfl rfl rfl rfl ?_ ?_
   all_goals first|rfl|(simp [aD];done)|(simp [aD];omega)
  have hc35':=hc35;try simp only [bA,bW] at hc35'
  refine dg ?_
  have hX:dT (f+1) a m b d=r7:=by
    exact en (mid:=mid) (s:=s) (e:=e) (d1:=r7) (d2:=r7) (by omega) (by omega) hmid (by unfold eG;rw [<-hmid,<-ff (p:=(fun c=>!dM d (mid+m - 1 - c) c)) (i:=s) (j:=u1) (by omega),hi4_3];first|exact if_pos (by omega)|exact if_neg (by omega)) he.symm (by unfold fw;rw [if_pos (by omega)];exact hr7) (by rw [if_neg (by omega)]) (by rw [if_neg (by omega)])
  rw [hX] at hr;clear hX
  subst hr
  refine cP aa [0] 1 rfl rfl rfl rfl rfl rfl ?_ ?_
  all_goals first|rfl|(simp [aD];done)|(simp [aD];omega)
 have hc29':=hc29;try simp only [bA,bW] at hc29'
 refine aU ?_
 refine ah ?_
 refine cA 199 ((decide ((↑a:Int) < (↑s:Int))) && (decide ((↑s:Int) < (↑mid:Int)))) ?_ ?_
 ·
  refine ay ?_
  refine ad aa 4 rfl ?_
  refine bH (t:=195) rfl (fun hb36=>?_) (fun hb36=>?_)
  ·
   have hb36':=of_decide_eq_true hb36
   refine ad aa 4 rfl ?_
   refine af ?_
   exact aJ.bK 9 rfl rfl (by first|(simp [hb36];done)|(simp_all;done)|(exfalso;simp_all;done)|(simp_all;omega)) rfl
  have hb36':=of_decide_eq_false hb36
  refine ad aa 4 rfl ?_
  refine af ?_
  exact aJ.bK 9 rfl rfl (by first|(simp [hb36];done)|(simp_all;done)|(exfalso;simp_all;done)|(simp_all;omega)) rfl
 refine an rfl (fun hc37=>?_) (fun hc37=>?_)
 ·
  have hc37':=hc37;try simp only [bA,bW] at hc37'
  refine ay ?_
  refine ad aa 5 rfl ?_
  obtain ⟨r11,hr11⟩:∃ (r11:List au),dT f a s mid d=r11:=⟨_,rfl⟩
  have hlr11:r11.length=d.length:=by rw [<-hr11];exact fk _ _ _ _ _
  refine aP 1 [0] (ej id id (ih (↑a:Int) (↑s:Int) (↑mid:Int) d N a s mid fn bh hp hen (by first|omega|(simp;done)|(simp;omega)) (by first|omega|(simp;done)|(simp;omega)) (by first|omega|(simp;done)|(simp;omega)) (by first|omega|(simp;done)|(simp;omega)) (by first|omega|(simp;done)|(simp;omega)) (by first|omega|(simp;done)|(simp;omega)) (by first|omega|(simp;done)|(simp;omega)) (by first|omega|(simp;done)|(simp;omega)) (by first|omega|(simp;done)|(simp;omega)) r11 hr11) ku rfl rfl ⟨⟨_,rfl,.inl ⟨rfl,rfl⟩⟩,⟨_,rfl,.inr (.c (.d _))⟩,⟨_,rfl,.inr (.c (.d _))⟩,⟨_,rfl,.inr (.c (.d _))⟩,⟨_,rfl,.inr (.c (.d _))⟩,trivial⟩ ⟨rfl,trivial⟩ rfl rfl ⟨.inr ⟨_,_,_,rfl,by first|(simp;omega)|(simp only [List.length_map];omega)⟩,trivial⟩ rfl rfl rfl trivial ⟨(fun _ _ _ _=>trivial),trivial⟩ rfl rfl rfl rfl) rfl ?_
  refine af ?_
  refine cA 213 ((decide ((↑mid:Int) < (↑e:Int))) && (decide ((↑e:Int) < (↑b:Int)))) ?_ ?_
  ·
   refine ay ?_
   refine ad aa 4 rfl ?_
   refine bH (t:=209) rfl (fun hb38=>?_) (fun hb38=>?_)
   ·
    have hb38':=of_decide_eq_true hb38
    refine ad aa 4 rfl ?_
    refine af ?_
    exact aJ.bK 9 rfl rfl (by first|(simp [hb38];done)|(simp_all;done)|(exfalso;simp_all;done)|(simp_all;omega)) rfl
   have hb38':=of_decide_eq_false hb38
   refine ad aa 4 rfl ?_
   refine af ?_
   exact aJ.bK 9 rfl rfl (by first|(simp [hb38];done)|(simp_all;done)|(exfalso;simp_all;done)|(simp_all;omega)) rfl
  refine an rfl (fun hc39=>?_) (fun hc39=>?_)
  ·
   have hc39':=hc39;try simp only [bA,bW] at hc39'
   refine ay ?_
   refine ad aa 5 rfl ?_
   obtain ⟨r12,hr12⟩:∃ (r12:List au),dT f mid e b r11=r12:=⟨_,rfl⟩
   have hlr12:r12.length=r11.length:=by rw [<-hr12];exact fk _ _ _ _ _
   refine aP 1 [0] (ej id id (ih (↑mid:Int) (↑e:Int) (↑b:Int) r11 N mid e b fn bh hp hen (by first|omega|(simp;done)|(simp;omega)) (by first|omega|(simp;done)|(simp;omega)) (by first|omega|(simp;done)|(simp;omega)) (by first|omega|(simp;done)|(simp;omega)) (by first|omega|(simp;done)|(simp;omega)) (by first|omega|(simp;done)|(simp;omega)) (by first|omega|(simp;done)|(simp;omega)) (by first|omega|(simp;done)|(simp;omega)) (by first|omega|(simp;done)|(simp;omega)) r12 hr12) ku rfl rfl ⟨⟨_,rfl,.inl ⟨rfl,rfl⟩⟩,⟨_,rfl,.inr (.c (.d _))⟩,⟨_,rfl,.inr (.c (.d _))⟩,⟨_,rfl,.inr (.c (.d _))⟩,⟨_,rfl,.inr (.c (.d _))⟩,trivial⟩ ⟨rfl,trivial⟩ rfl rfl ⟨.inr ⟨_,_,_,rfl,by first|(simp;omega)|(simp only [List.length_map];omega)⟩,trivial⟩ rfl rfl rfl trivial ⟨(fun _ _ _ _=>trivial),trivial⟩ rfl rfl rfl rfl) rfl ?_
   refine cf ?_
   have hX:dT (f+1) a m b d=r12:=by
     exact en (mid:=mid) (s:=s) (e:=e) (d1:=d) (d2:=r11) (by omega) (by omega) hmid (by unfold eG;rw [<-hmid,<-ff (p:=(fun c=>!dM d (mid+m - 1 - c) c)) (i:=s) (j:=u1) (by omega),hi4_3];first|exact if_pos (by omega)|exact if_neg (by omega)) he.symm (by unfold fw;rw [if_neg (by omega)]) (by rw [if_pos (by omega)];exact hr11) (by rw [if_pos (by omega)];exact hr12)
   rw [hX] at hr;clear hX
   subst hr
   refine cP aa [0] 1 rfl rfl rfl rfl rfl rfl ?_ ?_
   all_goals first|rfl|(simp [aD];done)|(simp [aD];omega)
  have hc39':=hc39;try simp only [bA,bW] at hc39'
  refine dg ?_
  have hX:dT (f+1) a m b d=r11:=by
    exact en (mid:=mid) (s:=s) (e:=e) (d1:=d) (d2:=r11) (by omega) (by omega) hmid (by unfold eG;rw [<-hmid,<-ff (p:=(fun c=>!dM d (mid+m - 1 - c) c)) (i:=s) (j:=u1) (by omega),hi4_3];first|exact if_pos (by omega)|exact if_neg (by omega)) he.symm (by unfold fw;rw [if_neg (by omega)]) (by rw [if_pos (by omega)];exact hr11) (by rw [if_neg (by omega)])
  rw [hX] at hr;clear hX
  subst hr
  refine cP aa [0] 1 rfl rfl rfl rfl rfl rfl ?_ ?_
  all_goals first|rfl|(simp [aD];done)|(simp [aD];omega)
 have hc37':=hc37;try simp only [bA,bW] at hc37'
 refine aU ?_
 refine cA 213 ((decide ((↑mid:Int) < (↑e:Int))) && (decide ((↑e:Int) < (↑b:Int)))) ?_ ?_
 ·
  refine ay ?_
  refine ad aa 4 rfl ?_
  refine bH (t:=209) rfl (fun hb40=>?_) (fun hb40=>?_)
  ·
   have hb40':=of_decide_eq_true hb40
   refine ad aa 4 rfl ?_
   refine af ?_
   exact aJ.bK 9 rfl rfl (by first|(simp [hb40];done)|(simp_all;done)|(exfalso;simp_all;done)|(simp_all;omega)) rfl
  have hb40':=of_decide_eq_false hb40
  refine ad aa 4 rfl ?_
  refine af ?_
  exact aJ.bK 9 rfl rfl (by first|(simp [hb40];done)|(simp_all;done)|(exfalso;simp_all;done)|(simp_all;omega)) rfl
 refine an rfl (fun hc41=>?_) (fun hc41=>?_)
 ·
  have hc41':=hc41;try simp only [bA,bW] at hc41'
  refine ay ?_
  refine ad aa 5 rfl ?_
  obtain ⟨r13,hr13⟩:∃ (r13:List au),dT f mid e b d=r13:=⟨_,rfl⟩
  have hlr13:r13.length=d.length:=by rw [<-hr13];exact fk _ _ _ _ _
  refine aP 1 [0] (ej id id (ih (↑mid:Int) (↑e:Int) (↑b:Int) d N mid e b fn bh hp hen (by first|omega|(simp;done)|(simp;omega)) (by first|omega|(simp;done)|(simp;omega)) (by first|omega|(simp;done)|(simp;omega)) (by first|omega|(simp;done)|(simp;omega)) (by first|omega|(simp;done)|(simp;omega)) (by first|omega|(simp;done)|(simp;omega)) (by first|omega|(simp;done)|(simp;omega)) (by first|omega|(simp;done)|(simp;omega)) (by first|omega|(simp;done)|(simp;omega)) r13 hr13) ku rfl rfl ⟨⟨_,rfl,.inl ⟨rfl,rfl⟩⟩,⟨_,rfl,.inr (.c (.d _))⟩,⟨_,rfl,.inr (.c (.d _))⟩,⟨_,rfl,.inr (.c (.d _))⟩,⟨_,rfl,.inr (.c (.d _))⟩,trivial⟩ ⟨rfl,trivial⟩ rfl rfl ⟨.inr ⟨_,_,_,rfl,by first|(simp;omega)|(simp only [List.length_map];omega)⟩,trivial⟩ rfl rfl rfl trivial ⟨(fun _ _ _ _=>trivial),trivial⟩ rfl rfl rfl rfl) rfl ?_
  refine cf ?_
  have hX:dT (f+1) a m b d=r13:=by
    exact en (mid:=mid) (s:=s) (e:=e) (d1:=d) (d2:=d) (by omega) (by omega) hmid (by unfold eG;rw [<-hmid,<-ff (p:=(fun c=>!dM d (mid+m - 1 - c) c)) (i:=s) (j:=u1) (by omega),hi4_3];first|exact if_pos (by omega)|exact if_neg (by omega)) he.symm (by unfold fw;rw [if_neg (by omega)]) (by rw [if_neg (by omega)]) (by rw [if_pos (by omega)];exact hr13)
  rw [hX] at hr;clear hX
  subst hr
  refine cP aa [0] 1 rfl rfl rfl rfl rfl rfl ?_ ?_
  all_goals first|rfl|(simp [aD];done)|(simp [aD];omega)
 have hc41':=hc41;try simp only [bA,bW] at hc41'
 refine dg ?_
 have hX:dT (f+1) a m b d=d:=by
   exact en (mid:=mid) (s:=s) (e:=e) (d1:=d) (d2:=d) (by omega) (by omega) hmid (by unfold eG;rw [<-hmid,<-ff (p:=(fun c=>!dM d (mid+m - 1 - c) c)) (i:=s) (j:=u1) (by omega),hi4_3];first|exact if_pos (by omega)|exact if_neg (by omega)) he.symm (by unfold fw;rw [if_neg (by omega)]) (by rw [if_neg (by omega)]) (by rw [if_neg (by omega)])
 rw [hX] at hr;clear hX
 subst hr
 refine cP aa [0] 1 rfl rfl rfl rfl rfl rfl ?_ ?_
 all_goals first|rfl|(simp [aD];done)|(simp [aD];omega)
theorem AG:∀ (f:Nat) (ai mi bi:Int) (d:List au) (N a m b:Nat) (fn:FuncId) (bh:List (List D)) (hp:∀ x y:au,Fn Try.prog fn ([.g [cI x.az,cI x.ba,cI x.kind,cI x.sum],.g [cI y.az,cI y.ba,cI y.kind,cI y.sum]]++bh.map fun r=>GV.c (.q r 0)) (aI (iB x y)) []) (hen:bp Try.prog fn) (ea_:ai=(↑a:Int)) (em_:mi=(↑m:Int)) (eb_:bi=(↑b:Int)) (hl:d.length * 32<=140737488355328) (hN:N=d.length) (h0_:a < m) (h1_:m < b) (h2_:b<=d.length) (h3_:b - a<=f) (r:List au) (hr:dT f a m b d=r),cL Try.prog 73 [(.c (.s 0 0 4 N)),(.c (cI ai)),(.c (cI mi)),(.c (cI bi)),(.c (.d (.f fn bh)))] [(0,(cU d))] [0] (.t []) [(0,(cU r))]:=by
  intro f
  induction f with
  |zero=>intro ai mi bi d N a m b fn bh hp hen ea_ em_ eb_ hl hN h0_ h1_ h2_ h3_;exfalso;omega
  |succ f ih=>
    intro ai mi bi d N a m b fn bh hp hen ea_ em_ eb_ hl hN h0_ h1_ h2_ h3_ r hr
    subst ea_ em_ eb_
    exact AF f ih d N a m b fn bh hp hen hl hN h0_ h1_ h2_ h3_ r hr
theorem CK (ai mi bi:Int) (d:List au) (N a m b:Nat) (fn:FuncId) (bh:List (List D)) (hp:∀ x y:au,Fn Try.prog fn ([.g [cI x.az,cI x.ba,cI x.kind,cI x.sum],.g [cI y.az,cI y.ba,cI y.kind,cI y.sum]]++bh.map fun r=>GV.c (.q r 0)) (aI (iB x y)) []) (hen:bp Try.prog fn) (ea_:ai=(↑a:Int)) (em_:mi=(↑m:Int)) (eb_:bi=(↑b:Int)) (hl:d.length * 32<=140737488355328) (hN:N=d.length) (h0_:a < m) (h1_:m < b) (h2_:b<=d.length) (r:List au) (hr:dT (b - a) a m b d=r):cL Try.prog 73 [(.c (.s 0 0 4 N)),(.c (cI ai)),(.c (cI mi)),(.c (cI bi)),(.c (.d (.f fn bh)))] [(0,(cU d))] [0] (.t []) [(0,(cU r))]:=AG (b - a) ai mi bi d N a m b fn bh hp hen ea_ em_ eb_ hl hN h0_ h1_ h2_ (Nat.le_refl _) r hr

theorem yk (d:List au) (N a b:Nat) (fn:FuncId) (bh:List (List D)) (hp:∀ x y:au,Fn Try.prog fn ([.g [cI x.az,cI x.ba,cI x.kind,cI x.sum],.g [cI y.az,cI y.ba,cI y.kind,cI y.sum]]++bh.map fun r=>GV.c (.q r 0)) (aI (iB x y)) []) (hen:bp Try.prog fn) (hl:d.length * 32<=140737488355328) (hN:N=d.length) (h0_:a<=b) (h1_:b<=d.length) (r:List au) (hr:jy a (b - (a+1)) d=r):cL Try.prog 72 [(.c (.s 0 0 4 N)),(.c (cI (↑a:Int))),(.c (cI (↑b:Int))),(.c (.d (.f fn bh)))] [(0,(cU d))] [0] (.t []) [(0,(cU r))]:=by
 refine cL.mk 53 [(0,(aC (.s 0 0 4 N))),(1,(aI (↑a:Int))),(2,(aI (↑b:Int))),(3,(aC (.d (.f fn bh))))] 1 Try.func72 rfl rfl rfl rfl rfl rfl rfl rfl rfl ?_
 intro W0 F0 T0 pg
 refine gU 0 rfl (fun hlen0=>?_)
 refine aH aa 1 rfl ?_
 refine aE (aN rfl rfl rfl (aK (by first|omega|(simp;done)|(simp;omega)))) rfl ?_
 refine ad aa 1 rfl ?_
 refine af ?_
 refine aY ?_
 refine cz (β:=Nat×List au) (fun (p:Nat×List au)=>match p with|(i,d1)=>⟨[(0,(aC (.s 0 0 4 N))),(1,(aI (↑a:Int))),(2,(aI (↑b:Int))),(3,(aC (.d (.f fn bh)))),(8,(aI (↑i:Int)))],[(0,(cU d1))],1⟩) (fun (p:Nat×List au)=>match p with|(i,d1)=>a+1<=i/\(i<=b\/i=a+1)/\d1=jy a (i - (a+1)) d/\d1.length=d.length) (fun (p:Nat×List au)=>match p with|(i,d1)=>b - i) (a+1,d) ?_ ?_ ?_
 ·exact ⟨by omega,by omega,by rw [Nat.sub_self];rfl,rfl⟩
 ·exact aJ.cc id (by refine ⟨?_,?_,?_,?_,?_,trivial⟩<;>first|rfl|(simp only [bn];done)|(congr 3;omega)|(congr 4;omega)|(simp only [bo];rfl)|(exact cD rfl (by omega))) (⟨by first|rfl|(simp only [bn];done)|(congr 3;omega)|(congr 4;omega)|(simp only [bo];rfl),trivial⟩) rfl
 rintro ⟨i,d1⟩ ⟨hi0_0,hi0_1,hi0_2,hi0_3⟩
 refine ah ?_
 refine ae aa 3 rfl ?_
 refine an rfl (fun hc1=>?_) (fun hc1=>?_)
 ·
  have hc1':=of_decide_eq_true hc1
  refine aU ?_
  refine ah ?_
  refine aY ?_
  refine ae aa 2 rfl ?_
  refine aY ?_
  refine cz (β:=Nat×List au) (fun (p:Nat×List au)=>match p with|(j,d2)=>⟨[(0,(aC (.s 0 0 4 N))),(1,(aI (↑a:Int))),(2,(aI (↑b:Int))),(3,(aC (.d (.f fn bh)))),(8,(aI (↑i:Int))),(9,(aI (↑j:Int)))],[(0,(cU d2))],1⟩) (fun (p:Nat×List au)=>match p with|(j,d2)=>a<=j/\j<=i/\jN a j d2=jN a i d1/\d2.length=d.length) (fun (p:Nat×List au)=>match p with|(j,d2)=>j) (i,d1) ?_ ?_ ?_
  ·exact ⟨by omega,by omega,rfl,by omega⟩
  ·exact aJ.cc id (by refine ⟨?_,?_,?_,?_,?_,?_,trivial⟩<;>first|rfl|(simp only [bn];done)|(congr 3;omega)|(congr 4;omega)|(simp only [bo];rfl)|(exact cD rfl (by omega))) (⟨by first|rfl|(simp only [bn];done)|(congr 3;omega)|(congr 4;omega)|(simp only [bo];rfl),trivial⟩) rfl
  rintro ⟨j,d2⟩ ⟨hi1_0,hi1_1,hi1_2,hi1_3⟩
  refine ah ?_
  refine ah ?_
  rcases Bool.eq_false_or_eq_true (decide ((↑j:Int) > (↑a:Int))) with hb2|hb2
  ·
   have hb2':=of_decide_eq_true hb2
   obtain ⟨x1,hx1⟩:=cr (xs:=d2) (i:=j) (by first|omega|(simp;done)|(simp;omega))
   obtain ⟨x2,hx2⟩:=cr (xs:=d2) (i:=(j) - 1) (by first|omega|(simp;done)|(simp;omega))
   refine bd [0,1,2,3,8,9] [0] mixed rfl rfl ?_
   refine aF (kn:=[(20,true)]) aa 7 rfl ⟨hb2,trivial⟩ ?_
   refine aX (n':=1) [23,24,21] [0] rfl rfl (.inl ⟨(aq.yes rfl rfl rfl),aM.cast (br (i:=j) rfl rfl rfl Try.underlying42 dK (by first|omega|(simp;done)|(simp;omega)) (by first|omega|(simp;done)|(simp;omega))) rfl⟩) rfl ?_
   refine aX (n':=1) [25,21] [0] rfl rfl (.inl ⟨(aq.yes rfl rfl rfl),aM.cast (dy rfl rfl rfl Try.underlying83 rfl dK (bz hx1) rfl) rfl⟩) rfl ?_
   refine aF (kn:=[]) aa 2 rfl trivial ?_
   refine aX (n':=1) [28,21] [] rfl rfl (.inl ⟨(aq.yes rfl rfl rfl),aM.cast (aN rfl rfl rfl (aK (by first|omega|(simp;done)|(simp;omega)))) rfl⟩) rfl ?_
   refine aX (n':=1) [27,29,21] [0] rfl rfl (.inl ⟨(aq.yes rfl rfl rfl),aM.cast (br (i:=(j) - 1) rfl rfl rfl Try.underlying42 dK (by first|omega|(simp;done)|(simp;omega)) (by first|omega|(simp;done)|(simp;omega))) rfl⟩) rfl ?_
   refine aX (n':=1) [30,21] [0] rfl rfl (.inl ⟨(aq.yes rfl rfl rfl),aM.cast (dy rfl rfl rfl Try.underlying83 rfl dK (bz hx2) rfl) rfl⟩) rfl ?_
   refine aX (n':=1) [22,26,31,21] [] rfl rfl (.inl ⟨(aq.yes rfl rfl rfl),aM.cast (iD (ins:=[(.g [(cI x1.az),(cI x1.ba),(cI x1.kind),(cI x1.sum)]),(.g [(cI x2.az),(cI x2.ba),(cI x2.kind),(cI x2.sum)])]) 1 (hp x1 x2) hen rfl rfl rfl ⟨⟨_,rfl,.g ⟨.d _,.d _,.d _,.d _,trivial⟩⟩,⟨_,rfl,.g ⟨.d _,.d _,.d _,.d _,trivial⟩⟩,trivial⟩ trivial trivial rfl rfl rfl rfl) rfl⟩) rfl ?_
   refine aF (kn:=[]) aa 2 rfl trivial ?_
   refine bF [0] rfl rfl rfl rfl (by kernel_rfl) ?_
   refine af ?_
   refine an rfl (fun hc3=>?_) (fun hc3=>?_)
   ·
    have hc3':=of_decide_eq_true hc3
    refine aU ?_
    refine ah ?_
    refine aY ?_
    obtain ⟨x3,hx3⟩:=cr (xs:=((d2).set j x2)) (i:=(j) - 1) (by first|omega|(simp;done)|(simp;omega))
    refine dr [0,1,2,3,8,9] [0] mixed rfl rfl ?_
    refine bU (kn:=[]) aa 4 rfl trivial ?_
    refine ca (n':=1) [40] [] rfl rfl (.inl ⟨(aq.plain rfl),aM.cast (aN rfl rfl rfl (aK (by first|omega|(simp;done)|(simp;omega)))) rfl⟩) rfl ?_
    refine bU (kn:=[]) aa 2 rfl trivial ?_
    refine ca (n':=1) [43] [] rfl rfl (.inl ⟨(aq.plain rfl),aM.cast (aN rfl rfl rfl (aK (by first|omega|(simp;done)|(simp;omega)))) rfl⟩) rfl ?_
    refine ca (n':=1) [42,44] [0] rfl rfl (.inl ⟨(aq.plain rfl),aM.cast (br (i:=(j) - 1) rfl rfl rfl Try.underlying42 dK (by first|omega|(simp;done)|(simp;omega)) (by first|omega|(simp;done)|(simp;omega))) rfl⟩) rfl ?_
    refine ca (n':=1) [45] [0] rfl rfl (.inl ⟨(aq.plain rfl),aM.cast (dy rfl rfl rfl Try.underlying83 rfl dK (bz hx2) rfl) rfl⟩) rfl ?_
    refine bU (kn:=[]) aa 2 rfl trivial ?_
    refine ca (n':=1) [47,48] [0] rfl rfl (.inl ⟨(aq.plain rfl),aM.cast (br (i:=j) rfl rfl rfl Try.underlying42 dK (by first|omega|(simp;done)|(simp;omega)) (by first|omega|(simp;done)|(simp;omega))) rfl⟩) rfl ?_
    refine ca (n':=1) [49] [0] rfl rfl (.inl ⟨(aq.plain rfl),aM.cast (dy rfl rfl rfl Try.underlying83 rfl dK (bz hx1) rfl) rfl⟩) rfl ?_
    refine ca (n':=1) [37,38] [0] rfl rfl (.inl ⟨(aq.plain rfl),aM.cast (br (i:=j) rfl rfl rfl Try.underlying42 dK (by first|omega|(simp;done)|(simp;omega)) (by first|omega|(simp;done)|(simp;omega))) rfl⟩) rfl ?_
    refine ca (n':=1) [51,46] [0] rfl rfl (.inl ⟨(aq.plain rfl),aM.cast (dW (ds:=[(dI x2.az),(dI x2.ba),(dI x2.kind),(dI x2.sum)]) rfl rfl rfl rfl rfl dK rfl (Nat.le_of_ble_eq_true rfl) (bz hx1) rfl (eU (x':=x2) rfl)) rfl⟩) rfl ?_
    refine ca (n':=1) [39,41] [0] rfl rfl (.inl ⟨(aq.plain rfl),aM.cast (br (i:=(j) - 1) rfl rfl rfl Try.underlying42 dK (by first|omega|(simp;done)|(simp;omega)) (by first|omega|(simp;done)|(simp;omega))) rfl⟩) rfl ?_
    refine ca (n':=1) [52,50] [0] rfl rfl (.inl ⟨(aq.plain rfl),aM.cast (dW (ds:=[(dI x1.az),(dI x1.ba),(dI x1.kind),(dI x1.sum)]) rfl rfl rfl rfl rfl dK rfl (Nat.le_of_ble_eq_true rfl) (bz hx3) rfl (eU (x':=x1) rfl)) rfl⟩) rfl ?_
    refine ef [0,1,2,3,8,9] [0] rfl rfl (by kernel_rfl) ?_
    refine bq ?_
    refine then_ok ?_
    refine ay ?_
    refine ad aa 1 rfl ?_
    refine aE (aN rfl rfl rfl (aK (by first|omega|(simp;done)|(simp;omega)))) rfl ?_
    refine ad aa 1 rfl ?_
    refine af ?_
    refine ⟨(j - 1,((d2).set j x2).set ((j) - 1) x1),⟨by omega,by omega,by rw [<-hi1_2,zd (by omega) hx1 hx2 (mg.1 (by assumption)),mr hx1 hx2],by simp only [List.length_set];exact hi1_3⟩,by first|omega|(simp;done)|(simp;omega),aJ.cc id (by refine ⟨?_,?_,?_,?_,?_,?_,trivial⟩<;>first|rfl|(simp only [bn];done)|(congr 3;omega)|(congr 4;omega)|(simp only [bo];rfl)|(exact cD rfl (by omega))) (⟨by first|rfl|(simp only [bn];done)|(congr 3;omega)|(congr 4;omega)|(simp only [bo];rfl),trivial⟩) rfl⟩
   have hc3':=of_decide_eq_false hc3
   refine cp ?_
   refine aR ?_
   refine aR ?_
   refine bM ?_
   refine bq ?_
   refine then_ok ?_
   refine ay ?_
   refine ad aa 1 rfl ?_
   refine aE (aN rfl rfl rfl (aK (by first|omega|(simp;done)|(simp;omega)))) rfl ?_
   refine ad aa 1 rfl ?_
   refine af ?_
   refine ⟨(i+1,d2),⟨by omega,by omega,by rw [vb hi0_0,<-hi0_2,<-hi1_2];first|exact (rV (by omega)).symm|exact (pT hx1 hx2 (mh (by assumption))).symm,by omega⟩,by first|omega|(simp;done)|(simp;omega),aJ.cc id (by refine ⟨?_,?_,?_,?_,?_,trivial⟩<;>first|rfl|(simp only [bn];done)|(congr 3;omega)|(congr 4;omega)|(simp only [bo];rfl)|(exact cD rfl (by omega))) (⟨by first|rfl|(simp only [bn];done)|(congr 3;omega)|(congr 4;omega)|(simp only [bo];rfl),trivial⟩) rfl⟩
  have hb2':=of_decide_eq_false hb2
  refine bd [0,1,2,3,8,9] [0] mixed rfl rfl ?_
  refine aF (kn:=[(20,false)]) aa 17 rfl ⟨hb2,trivial⟩ ?_
  refine bF [0] rfl rfl rfl rfl (by kernel_rfl) ?_
  refine af ?_
  refine an rfl (fun hno=>by cases hno) (fun _=>?_)
  refine cp ?_
  refine aR ?_
  refine aR ?_
  refine bM ?_
  refine bq ?_
  refine then_ok ?_
  refine ay ?_
  refine ad aa 1 rfl ?_
  refine aE (aN rfl rfl rfl (aK (by first|omega|(simp;done)|(simp;omega)))) rfl ?_
  refine ad aa 1 rfl ?_
  refine af ?_
  refine ⟨(i+1,d2),⟨by omega,by omega,by rw [vb hi0_0,<-hi0_2,<-hi1_2];first|exact (rV (by omega)).symm|exact (pT hx1 hx2 (mh (by assumption))).symm,by omega⟩,by first|omega|(simp;done)|(simp;omega),aJ.cc id (by refine ⟨?_,?_,?_,?_,?_,trivial⟩<;>first|rfl|(simp only [bn];done)|(congr 3;omega)|(congr 4;omega)|(simp only [bo];rfl)|(exact cD rfl (by omega))) (⟨by first|rfl|(simp only [bn];done)|(congr 3;omega)|(congr 4;omega)|(simp only [bo];rfl),trivial⟩) rfl⟩
 have hc1':=of_decide_eq_false hc1
 refine cp ?_
 refine aR ?_
 refine aR ?_
 refine bM ?_
 have hX:jy a (b - (a+1)) d=d1:=by
   rw [hi0_2];congr 1;omega
 rw [hX] at hr;clear hX
 subst hr
 refine cP aa [0] 1 rfl rfl rfl rfl rfl rfl ?_ ?_
 all_goals first|rfl|(simp [aD];done)|(simp [aD];omega)
theorem qg (ai bi:Int) (d:List au) (N a b:Nat) (fn:FuncId) (bh:List (List D)) (hp:∀ x y:au,Fn Try.prog fn ([.g [cI x.az,cI x.ba,cI x.kind,cI x.sum],.g [cI y.az,cI y.ba,cI y.kind,cI y.sum]]++bh.map fun r=>GV.c (.q r 0)) (aI (iB x y)) []) (hen:bp Try.prog fn) (ea_:ai=(↑a:Int)) (eb_:bi=(↑b:Int)) (hl:d.length * 32<=140737488355328) (hN:N=d.length) (h0_:a<=b) (h1_:b<=d.length) (r:List au) (hr:jy a (b - (a+1)) d=r):cL Try.prog 72 [(.c (.s 0 0 4 N)),(.c (cI ai)),(.c (cI bi)),(.c (.d (.f fn bh)))] [(0,(cU d))] [0] (.t []) [(0,(cU r))]:=by
  subst ea_ eb_
  exact yk d N a b fn bh hp hen hl hN h0_ h1_ r hr

theorem EF (d:List au) (N n:Nat) (fn:FuncId) (bh:List (List D)) (hp:∀ x y:au,Fn Try.prog fn ([.g [cI x.az,cI x.ba,cI x.kind,cI x.sum],.g [cI y.az,cI y.ba,cI y.kind,cI y.sum]]++bh.map fun r=>GV.c (.q r 0)) (aI (iB x y)) []) (hen:bp Try.prog fn) (hl:d.length * 32<=140737488355328) (hN:N=d.length) (h0_:n=d.length) (h1_:0 < d.length) (r:List au) (hr:gY d=r):cL Try.prog 61 [(.c (.s 0 0 4 N)),(.c (cI (↑n:Int))),(.c (.d (.f fn bh)))] [(0,(cU d))] [0] (.t []) [(0,(cU r))]:=by
 refine cL.mk 63 [(0,(aC (.s 0 0 4 N))),(1,(aI (↑n:Int))),(2,(aC (.d (.f fn bh))))] 1 Try.func61 rfl rfl rfl rfl rfl rfl rfl rfl rfl ?_
 intro W0 F0 T0 pg
 refine gU 0 rfl (fun hlen0=>?_)
 refine ae aa 1 rfl ?_
 refine ae aa 3 rfl ?_
 refine ah ?_
 refine aY ?_
 refine cz (β:=Nat×Nat×List au) (fun (p:Nat×Nat×List au)=>match p with|(a,b,d1)=>⟨[(0,(aC (.s 0 0 4 N))),(1,(aI (↑n:Int))),(2,(aC (.d (.f fn bh)))),(6,(aI 20)),(7,(aI (↑a:Int))),(8,(aI (↑b:Int)))],[(0,(cU d1))],1⟩) (fun (p:Nat×Nat×List au)=>match p with|(a,b,d1)=>b=a+20/\a<=n/\uu 20 a d1/\Same d d1/\d1.length=d.length) (fun (p:Nat×Nat×List au)=>match p with|(a,b,d1)=>n+20 - b) (0,20,d) ?_ ?_ ?_
 ·exact ⟨by omega,by omega,tv (by omega),Same.refl _,rfl⟩
 ·exact aJ.cc id (by refine ⟨?_,?_,?_,?_,?_,?_,trivial⟩<;>first|rfl|(simp only [bn];done)|(congr 3;omega)|(congr 4;omega)|(simp only [bo];rfl)|(exact cD rfl (by omega))) (⟨by first|rfl|(simp only [bn];done)|(congr 3;omega)|(congr 4;omega)|(simp only [bo];rfl),trivial⟩) rfl
 rintro ⟨a,b,d1⟩ ⟨hi0_0,hi0_1,hi0_2,hi0_3,hi0_4⟩
 refine ah ?_
 refine ae aa 3 rfl ?_
 refine an rfl (fun hc1=>?_) (fun hc1=>?_)
 ·
  have hc1':=of_decide_eq_true hc1
  refine aU ?_
  refine aY ?_
  refine aH aa 4 rfl ?_
  obtain ⟨r0,hr0⟩:∃ (r0:List au),jy a (b - (a+1)) d1=r0:=⟨_,rfl⟩
  have hlr0:r0.length=d1.length:=by rw [<-hr0];exact rU _ _ _
  have hp0:Part d1 r0 a b:=by rw [<-hr0];exact vc (by omega) (by omega)
  refine aP 1 [0] (ej id id (qg (↑a:Int) (↑b:Int) d1 N a b fn bh hp hen (by first|omega|(simp;done)|(simp;omega)) (by first|omega|(simp;done)|(simp;omega)) (by first|omega|(simp;done)|(simp;omega)) (by first|omega|(simp;done)|(simp;omega)) (by first|omega|(simp;done)|(simp;omega)) (by first|omega|(simp;done)|(simp;omega)) r0 hr0) Eu rfl rfl ⟨⟨_,rfl,.inl ⟨rfl,rfl⟩⟩,⟨_,rfl,.inr (.c (.d _))⟩,⟨_,rfl,.inr (.c (.d _))⟩,⟨_,rfl,.inr (.c (.d _))⟩,trivial⟩ ⟨rfl,trivial⟩ rfl rfl ⟨.inr ⟨_,_,_,rfl,by first|(simp;omega)|(simp only [List.length_map];omega)⟩,trivial⟩ rfl rfl rfl trivial ⟨(fun _ _ _ _=>trivial),trivial⟩ rfl rfl rfl rfl) rfl ?_
  refine af ?_
  refine ae aa 2 rfl ?_
  refine ay ?_
  refine ad aa 2 rfl ?_
  refine aE (aN rfl rfl rfl (aK (by first|omega|(simp;done)|(simp;omega)))) rfl ?_
  refine ad aa 1 rfl ?_
  refine cf ?_
  refine bq ?_
  refine then_ok ?_
  refine ⟨(b,b+20,r0),⟨by omega,by omega,by rw [hi0_0] at hp0 ⊢;exact vo (by omega) hi0_2 hp0,hi0_3.trans hp0.m,by omega⟩,by first|omega|(simp;done)|(simp;omega),aJ.cc id (by refine ⟨?_,?_,?_,?_,?_,?_,trivial⟩<;>first|rfl|(simp only [bn];done)|(congr 3;omega)|(congr 4;omega)|(simp only [bo];rfl)|(exact cD rfl (by omega))) (⟨by first|rfl|(simp only [bn];done)|(congr 3;omega)|(congr 4;omega)|(simp only [bo];rfl),trivial⟩) rfl⟩
 have hc1':=of_decide_eq_false hc1
 refine cp ?_
 refine aR ?_
 refine aR ?_
 refine bM ?_
 refine then_ok ?_
 refine aH aa 4 rfl ?_
 obtain ⟨r1,hr1⟩:∃ (r1:List au),jy a (n - (a+1)) d1=r1:=⟨_,rfl⟩
 have hlr1:r1.length=d1.length:=by rw [<-hr1];exact rU _ _ _
 have hp1:Part d1 r1 a n:=by rw [<-hr1];exact vc (by omega) (by omega)
 refine aP 1 [0] (ej id id (qg (↑a:Int) (↑n:Int) d1 N a n fn bh hp hen (by first|omega|(simp;done)|(simp;omega)) (by first|omega|(simp;done)|(simp;omega)) (by first|omega|(simp;done)|(simp;omega)) (by first|omega|(simp;done)|(simp;omega)) (by first|omega|(simp;done)|(simp;omega)) (by first|omega|(simp;done)|(simp;omega)) r1 hr1) Eu rfl rfl ⟨⟨_,rfl,.inl ⟨rfl,rfl⟩⟩,⟨_,rfl,.inr (.c (.d _))⟩,⟨_,rfl,.inr (.c (.d _))⟩,⟨_,rfl,.inr (.c (.d _))⟩,trivial⟩ ⟨rfl,trivial⟩ rfl rfl ⟨.inr ⟨_,_,_,rfl,by first|(simp;omega)|(simp only [List.length_map];omega)⟩,trivial⟩ rfl rfl rfl trivial ⟨(fun _ _ _ _=>trivial),trivial⟩ rfl rfl rfl rfl) rfl ?_
 refine af ?_
 refine aY ?_
 refine cz (β:=Nat×List au) (fun (p:Nat×List au)=>match p with|(s,d2)=>⟨[(0,(aC (.s 0 0 4 N))),(1,(aI (↑n:Int))),(2,(aC (.d (.f fn bh)))),(6,(aI (↑s:Int)))],[(0,(cU d2))],1⟩) (fun (p:Nat×List au)=>match p with|(s,d2)=>20<=s/\uo s d2/\Same d d2/\d2.length=d.length) (fun (p:Nat×List au)=>match p with|(s,d2)=>n - s) (20,r1) ?_ ?_ ?_
 ·exact ⟨by omega,xn (by omega) hi0_2 (by omega) (by rw [show r1.length=n by omega];exact hp1) (by omega),hi0_3.trans hp1.m,by omega⟩
 ·exact aJ.cc id (by refine ⟨?_,?_,?_,?_,trivial⟩<;>first|rfl|(simp only [bn];done)|(congr 3;omega)|(congr 4;omega)|(simp only [bo];rfl)|(exact cD rfl (by omega))) (⟨by first|rfl|(simp only [bn];done)|(congr 3;omega)|(congr 4;omega)|(simp only [bo];rfl),trivial⟩) rfl
 rintro ⟨s,d2⟩ ⟨hi1_0,hi1_1,hi1_2,hi1_3⟩
 refine ah ?_
 refine ae aa 3 rfl ?_
 refine an rfl (fun hc2=>?_) (fun hc2=>?_)
 ·
  have hc2':=of_decide_eq_true hc2
  refine aU ?_
  refine aY ?_
  refine aH aa 1 rfl ?_
  refine aE (aN rfl rfl rfl (aK (by first|omega|(simp;done)|(simp;omega)))) rfl ?_
  refine ad aa 2 rfl ?_
  refine af ?_
  refine ah ?_
  refine aY ?_
  refine cz (β:=Nat×Nat×List au) (fun (p:Nat×Nat×List au)=>match p with|(a2,b2,d3)=>⟨[(0,(aC (.s 0 0 4 N))),(1,(aI (↑n:Int))),(2,(aC (.d (.f fn bh)))),(6,(aI (↑s:Int))),(7,(aI (↑a2:Int))),(8,(aI (↑b2:Int)))],[(0,(cU d3))],1⟩) (fun (p:Nat×Nat×List au)=>match p with|(a2,b2,d3)=>b2=a2+2 * s/\a2<=n/\nB s a2 d3/\Same d d3/\d3.length=d.length) (fun (p:Nat×Nat×List au)=>match p with|(a2,b2,d3)=>n+2 * s - b2) (0,2 * s,d2) ?_ ?_ ?_
  ·exact ⟨by omega,by omega,Ai (by omega) hi1_1,hi1_2,hi1_3⟩
  ·exact aJ.cc id (by refine ⟨?_,?_,?_,?_,?_,?_,trivial⟩<;>first|rfl|(simp only [bn];done)|(congr 3;omega)|(congr 4;omega)|(simp only [bo];rfl)|(exact cD rfl (by omega))) (⟨by first|rfl|(simp only [bn];done)|(congr 3;omega)|(congr 4;omega)|(simp only [bo];rfl),trivial⟩) rfl
  rintro ⟨a2,b2,d3⟩ ⟨hi2_0,hi2_1,hi2_2,hi2_3,hi2_4⟩
  refine ah ?_
  refine ae aa 3 rfl ?_
  refine an rfl (fun hc3=>?_) (fun hc3=>?_)
  ·
   have hc3':=of_decide_eq_true hc3
   refine aU ?_
   refine aY ?_
   refine aH aa 4 rfl ?_
   refine aE (aN rfl rfl rfl (aK (by first|omega|(simp;done)|(simp;omega)))) rfl ?_
   refine ad aa 2 rfl ?_
   obtain ⟨r2,hr2⟩:∃ (r2:List au),dT (b2 - a2) a2 ((a2)+(s)) b2 d3=r2:=⟨_,rfl⟩
   have hlr2:r2.length=d3.length:=by rw [<-hr2];exact fk _ _ _ _ _
   have hp2:Part d3 r2 a2 b2:=by rw [<-hr2];exact wa (by omega) hi2_2 (by omega) (by omega) (by omega)
   refine aP 1 [0] (ej id id (CK (↑a2:Int) ((↑a2:Int)+(↑s:Int)) (↑b2:Int) d3 N a2 ((a2)+(s)) b2 fn bh hp hen (by first|omega|(simp;done)|(simp;omega)) (by first|omega|(simp;done)|(simp;omega)) (by first|omega|(simp;done)|(simp;omega)) (by first|omega|(simp;done)|(simp;omega)) (by first|omega|(simp;done)|(simp;omega)) (by first|omega|(simp;done)|(simp;omega)) (by first|omega|(simp;done)|(simp;omega)) (by first|omega|(simp;done)|(simp;omega)) r2 hr2) ku rfl rfl ⟨⟨_,rfl,.inl ⟨rfl,rfl⟩⟩,⟨_,rfl,.inr (.c (.d _))⟩,⟨_,rfl,.inr (.c (.d _))⟩,⟨_,rfl,.inr (.c (.d _))⟩,⟨_,rfl,.inr (.c (.d _))⟩,trivial⟩ ⟨rfl,trivial⟩ rfl rfl ⟨.inr ⟨_,_,_,rfl,by first|(simp;omega)|(simp only [List.length_map];omega)⟩,trivial⟩ rfl rfl rfl trivial ⟨(fun _ _ _ _=>trivial),trivial⟩ rfl rfl rfl rfl) rfl ?_
   refine af ?_
   refine ae aa 2 rfl ?_
   refine ay ?_
   refine ad aa 2 rfl ?_
   refine aE (aN rfl rfl rfl (aK (by first|omega|(simp;done)|(simp;omega)))) rfl ?_
   refine aE (aN rfl rfl rfl (aK (by first|omega|(simp;done)|(simp;omega)))) rfl ?_
   refine ad aa 1 rfl ?_
   refine cf ?_
   refine bq ?_
   refine then_ok ?_
   refine ⟨(b2,b2+2 * s,r2),⟨by omega,by omega,by rw [hi2_0] at hp2 ⊢;exact Cq (by omega) hi2_2 hp2,hi2_3.trans hp2.m,by omega⟩,by first|omega|(simp;done)|(simp;omega),aJ.cc id (by refine ⟨?_,?_,?_,?_,?_,?_,trivial⟩<;>first|rfl|(simp only [bn];done)|(congr 3;omega)|(congr 4;omega)|(simp only [bo];rfl)|(exact cD rfl (by omega))) (⟨by first|rfl|(simp only [bn];done)|(congr 3;omega)|(congr 4;omega)|(simp only [bo];rfl),trivial⟩) rfl⟩
  have hc3':=of_decide_eq_false hc3
  refine cp ?_
  refine aR ?_
  refine aR ?_
  refine bM ?_
  refine then_ok ?_
  refine ah ?_
  refine aH aa 2 rfl ?_
  refine aE (aN rfl rfl rfl (aK (by first|omega|(simp;done)|(simp;omega)))) rfl ?_
  refine ad aa 1 rfl ?_
  refine af ?_
  refine ae aa 3 rfl ?_
  refine an rfl (fun hc4=>?_) (fun hc4=>?_)
  ·
   have hc4':=of_decide_eq_true hc4
   refine ay ?_
   refine ad aa 5 rfl ?_
   obtain ⟨r3,hr3⟩:∃ (r3:List au),dT (n - a2) a2 ((a2)+(s)) n d3=r3:=⟨_,rfl⟩
   have hlr3:r3.length=d3.length:=by rw [<-hr3];exact fk _ _ _ _ _
   have hp3:Part d3 r3 a2 n:=by rw [<-hr3];exact wa (by omega) hi2_2 (by omega) (by omega) (by omega)
   refine aP 1 [0] (ej id id (CK (↑a2:Int) ((↑a2:Int)+(↑s:Int)) (↑n:Int) d3 N a2 ((a2)+(s)) n fn bh hp hen (by first|omega|(simp;done)|(simp;omega)) (by first|omega|(simp;done)|(simp;omega)) (by first|omega|(simp;done)|(simp;omega)) (by first|omega|(simp;done)|(simp;omega)) (by first|omega|(simp;done)|(simp;omega)) (by first|omega|(simp;done)|(simp;omega)) (by first|omega|(simp;done)|(simp;omega)) (by first|omega|(simp;done)|(simp;omega)) r3 hr3) ku rfl rfl ⟨⟨_,rfl,.inl ⟨rfl,rfl⟩⟩,⟨_,rfl,.inr (.c (.d _))⟩,⟨_,rfl,.inr (.c (.d _))⟩,⟨_,rfl,.inr (.c (.d _))⟩,⟨_,rfl,.inr (.c (.d _))⟩,trivial⟩ ⟨rfl,trivial⟩ rfl rfl ⟨.inr ⟨_,_,_,rfl,by first|(simp;omega)|(simp only [List.length_map];omega)⟩,trivial⟩ rfl rfl rfl trivial ⟨(fun _ _ _ _=>trivial),trivial⟩ rfl rfl rfl rfl) rfl ?_
   refine af ?_
   refine ay ?_
   refine ad aa 1 rfl ?_
   refine aE (aN rfl rfl rfl (aK (by first|omega|(simp;done)|(simp;omega)))) rfl ?_
   refine ad aa 1 rfl ?_
   refine cf ?_
   refine bq ?_
   refine then_ok ?_
   refine ⟨(s * 2,r3),⟨by omega,Ee (by omega) hi2_2 (by omega) (by rw [show r3.length=n by omega];exact hp3) (by omega),hi2_3.trans hp3.m,by omega⟩,by first|omega|(simp;done)|(simp;omega),aJ.cc id (by refine ⟨?_,?_,?_,?_,trivial⟩<;>first|rfl|(simp only [bn];done)|(congr 3;omega)|(congr 4;omega)|(simp only [bo];rfl)|(exact cD rfl (by omega))) (⟨by first|rfl|(simp only [bn];done)|(congr 3;omega)|(congr 4;omega)|(simp only [bo];rfl),trivial⟩) rfl⟩
  have hc4':=of_decide_eq_false hc4
  refine aU ?_
  refine ay ?_
  refine ad aa 1 rfl ?_
  refine aE (aN rfl rfl rfl (aK (by first|omega|(simp;done)|(simp;omega)))) rfl ?_
  refine ad aa 1 rfl ?_
  refine cf ?_
  refine bq ?_
  refine then_ok ?_
  refine ⟨(s * 2,d3),⟨by omega,Cs (by omega) hi2_2 (by omega),hi2_3,by omega⟩,by first|omega|(simp;done)|(simp;omega),aJ.cc id (by refine ⟨?_,?_,?_,?_,trivial⟩<;>first|rfl|(simp only [bn];done)|(congr 3;omega)|(congr 4;omega)|(simp only [bo];rfl)|(exact cD rfl (by omega))) (⟨by first|rfl|(simp only [bn];done)|(congr 3;omega)|(congr 4;omega)|(simp only [bo];rfl),trivial⟩) rfl⟩
 have hc2':=of_decide_eq_false hc2
 refine cp ?_
 refine aR ?_
 refine aR ?_
 refine bM ?_
 have hX:gY d=d2:=by
   exact zI (DC hi1_1 (by omega)) hi1_2
 rw [hX] at hr;clear hX
 subst hr
 refine cP aa [0] 1 rfl rfl rfl rfl rfl rfl ?_ ?_
 all_goals first|rfl|(simp [aD];done)|(simp [aD];omega)
theorem CL (ni:Int) (d:List au) (N n:Nat) (fn:FuncId) (bh:List (List D)) (hp:∀ x y:au,Fn Try.prog fn ([.g [cI x.az,cI x.ba,cI x.kind,cI x.sum],.g [cI y.az,cI y.ba,cI y.kind,cI y.sum]]++bh.map fun r=>GV.c (.q r 0)) (aI (iB x y)) []) (hen:bp Try.prog fn) (en_:ni=(↑n:Int)) (hl:d.length * 32<=140737488355328) (hN:N=d.length) (h0_:n=d.length) (h1_:0 < d.length) (r:List au) (hr:gY d=r):cL Try.prog 61 [(.c (.s 0 0 4 N)),(.c (cI ni)),(.c (.d (.f fn bh)))] [(0,(cU d))] [0] (.t []) [(0,(cU r))]:=by
  subst en_
  exact EF d N n fn bh hp hen hl hN h0_ h1_ r hr
end Go.Proofs.Ytegepioggeggaaa.Dev
