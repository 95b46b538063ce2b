/- A part of the proof: Auth1, Auth2, Stand1, Stand2, Stand4, Stand5, Sort1, Sort2. No condition. -/
import Derived.Test.YtegepioggeggaaaD07
set_option linter.unusedVariables false
set_option linter.unusedSimpArgs false
set_option maxHeartbeats 1000000
set_option maxRecDepth 100000
namespace Go.Proofs.Ytegepioggeggaaa.Dev
open Go.RowKit


theorem II {a b c d x:Int} {q:Nat} (h:[a,b,c,d][q]?=some x):(q=0/\x=a)\/(q=1/\x=b)\/(q=2/\x=c)\/(q=3/\x=d):=by
  match q with
  |0=>left;simp_all
  |1=>right;left;simp_all
  |2=>right;right;left;simp_all
  |3=>right;right;right;simp_all
  |q+4=>simp at h

theorem pT (a:bF) (e:Int) (hr:bG a=e):Fn Try.prog 26 [(.g [(cI a.aO),(cI a.aD),(cI a.sum),(cI a.captured),(cI a.bD),(cI a.bq),(cI a.cY),(cB a.shut)])] (.v (.c (cI e))) []:=by
 refine Fn.mk' 71 [(0,(aG [(cI a.aO),(cI a.aD),(cI a.sum),(cI a.captured),(cI a.bD),(cI a.bq),(cI a.cY),(cB a.shut)]))] Try.func26 rfl rfl rfl rfl ?_
 intro W0 T0
 refine ae aa 2 rfl ?_
 refine ag ?_
 refine aH aa 8 rfl ?_
 refine aN 2 [1,0] (dy (ys:=[(0,(.c (cI a.sum))),(1,(.c (cI a.captured))),(2,(.c (cI a.bD))),(3,(.c (cI a.bq)))]) (rows:=([a.sum,a.captured,a.bD,a.bq]).map rI) 1 nh rfl (by decide) ⟨⟨rfl,rfl⟩,⟨rfl,rfl⟩,⟨rfl,rfl⟩,⟨rfl,rfl⟩,trivial⟩ rfl rfl rfl rfl) rfl ?_
 refine aA (dz rfl rfl rfl rfl rfl Try.underlying30) rfl ?_
 refine ad aa 1 rfl ?_
 refine af ?_
 refine aX ?_
 refine cw (β:=Nat) (fun (q:Nat)=>⟨[(1,(aC (.p 0 0 0 0))),(13,(aC (.s 1 0 1 4))),(14,(aI 4)),(15,(aI (↑q:Int)))],[(1,(dP ([a.sum,a.captured,a.bD,a.bq]))),(0,(.box 67 [(cI a.aO),(cI a.aD),(cI a.sum),(cI a.captured),(cI a.bD),(cI a.bq),(cI a.cY),(cB a.shut)]))],2⟩) (fun (q:Nat)=>q<=4/\(0 < q->0<=a.sum/\a.sum<=1000000)/\(1 < q->0<=a.captured/\a.captured<=1000000)/\(2 < q->0<=a.bD/\a.bD<=1000000)/\(3 < q->0<=a.bq/\a.bq<=1000000)) (fun (q:Nat)=>4 - q) 0 ?_ ?_ ?_
 ·exact ⟨by omega,by omega,by omega,by omega,by omega⟩
 ·exact aF.bW id (by refine ⟨?_,?_,?_,?_,trivial⟩<;>first|rfl|(simp only [bm];done)|(congr 3;omega)|(congr 4;omega)|(simp only [bn];rfl)) (by refine ⟨?_,?_,trivial⟩<;>first|rfl|(simp only [bm];done)|(congr 3;omega)|(congr 4;omega)|(simp only [bn];rfl)) rfl
 rintro q ⟨hi0_0,hi0_1,hi0_2,hi0_3,hi0_4⟩
 refine ae aa 1 rfl ?_
 refine ag ?_
 refine ah rfl (fun hc1=>?_) (fun hc1=>?_)
 ·
  have hc1':=of_decide_eq_true hc1
  refine aQ ?_
  refine ag ?_
  refine aX ?_
  refine eB ?_
  refine aA (bA (i:=q) rfl rfl rfl Try.underlying30 fX (by first|omega|(simp;done)|(simp;omega)) (by first|omega|(simp;done)|(simp;omega))) rfl ?_
  obtain ⟨x1,hx1⟩:=ck (xs:=([a.sum,a.captured,a.bD,a.bq]:List Int)) (i:=q) (by first|omega|(simp;done)|(simp;omega))
  have hx1v:=II hx1
  refine aA (eU rfl rfl rfl Try.underlying3 rfl (bw hx1) rfl) rfl ?_
  refine ad aa 1 rfl ?_
  refine af ?_
  refine cx 24 ((decide (x1 < 0))||(decide (x1 > 1000000))) ?_ ?_
  ·
   refine au ?_
   refine ad aa 3 rfl ?_
   refine bI (t:=21) rfl (fun hb2=>?_) (fun hb2=>?_)
   ·
    have hb2':=of_decide_eq_true hb2
    refine ad aa 3 rfl ?_
    refine af ?_
    exact aF.bH 7 rfl rfl (by first|(simp [hb2];done)|(simp_all;done)|(exfalso;simp_all;done)|(simp_all;omega)) rfl
   have hb2':=of_decide_eq_false hb2
   refine ad aa 3 rfl ?_
   refine af ?_
   exact aF.bH 7 rfl rfl (by first|(simp [hb2];done)|(simp_all;done)|(exfalso;simp_all;done)|(simp_all;omega)) rfl
  refine ah rfl (fun hc3=>?_) (fun hc3=>?_)
  ·
   have hc3':=hc3;try simp only [bu,bU] at hc3'
   refine ae aa 1 rfl ?_
   refine az ?_
   refine bp ?_
   refine aq ?_
   refine aq ?_
   refine bp ?_
   refine aq ?_
   have hX:bG a=3:=by
     (unfold bG;try dsimp only);(repeat' split)<;>first|rfl|omega|(exfalso;omega)|(subst_vars;rfl)|(simp_all;done)|(simp_all;omega)
   rw [hX] at hr;clear hX
   subst hr
   refine an aa [] 0 rfl rfl rfl rfl rfl rfl ?_ ?_
   all_goals first|rfl|(simp [ay];done)|(simp [ay];omega)
  have hc3':=hc3;try simp only [bu,bU] at hc3'
  refine cZ ?_
  refine bh ?_
  refine then_ok ?_
  refine au ?_
  refine aA (aL rfl rfl rfl (aJ (by first|omega|(simp;done)|(simp;omega)))) rfl ?_
  refine ad aa 1 rfl ?_
  refine af ?_
  refine ⟨q+1,⟨by omega,by omega,by omega,by omega,by omega⟩,by first|omega|(simp;done)|(simp;omega),aF.bW id (by refine ⟨?_,?_,?_,?_,trivial⟩<;>first|rfl|(simp only [bm];done)|(congr 3;omega)|(congr 4;omega)|(simp only [bn];rfl)) (by refine ⟨?_,?_,trivial⟩<;>first|rfl|(simp only [bm];done)|(congr 3;omega)|(congr 4;omega)|(simp only [bn];rfl)) rfl⟩
 have hc1':=of_decide_eq_false hc1
 refine cj ?_
 refine aP ?_
 refine aP ?_
 refine bK ?_
 refine then_ok ?_
 refine ag ?_
 refine aX ?_
 refine cx 26 ((((((decide (a.aO < 0))||(decide (a.aO>=8)))||(decide (a.aD < 0)))||(decide (a.aD>=8)))||(decide (a.cY < 0)))||(decide (a.cY > 1000100))) ?_ ?_
 ·
  refine au ?_
  refine ad aa 4 rfl ?_
  refine bI (t:=30) rfl (fun hb4=>?_) (fun hb4=>?_)
  ·
   have hb4':=of_decide_eq_true hb4
   refine ad aa 25 rfl ?_
   refine af ?_
   exact aF.bH 30 rfl rfl (by first|(simp [hb4];done)|(simp_all;done)|(exfalso;simp_all;done)|(simp_all;omega)) rfl
  have hb4':=of_decide_eq_false hb4
  refine ad aa 5 rfl ?_
  refine bI (t:=35) rfl (fun hb5=>?_) (fun hb5=>?_)
  ·
   have hb5':=of_decide_eq_true hb5
   refine ad aa 20 rfl ?_
   refine af ?_
   exact aF.bH 31 rfl rfl (by first|(simp [hb4,hb5];done)|(simp_all;done)|(exfalso;simp_all;done)|(simp_all;omega)) rfl
  have hb5':=of_decide_eq_false hb5
  refine ad aa 5 rfl ?_
  refine bI (t:=40) rfl (fun hb6=>?_) (fun hb6=>?_)
  ·
   have hb6':=of_decide_eq_true hb6
   refine ad aa 15 rfl ?_
   refine af ?_
   exact aF.bH 32 rfl rfl (by first|(simp [hb4,hb5,hb6];done)|(simp_all;done)|(exfalso;simp_all;done)|(simp_all;omega)) rfl
  have hb6':=of_decide_eq_false hb6
  refine ad aa 5 rfl ?_
  refine bI (t:=45) rfl (fun hb7=>?_) (fun hb7=>?_)
  ·
   have hb7':=of_decide_eq_true hb7
   refine ad aa 10 rfl ?_
   refine af ?_
   exact aF.bH 33 rfl rfl (by first|(simp [hb4,hb5,hb6,hb7];done)|(simp_all;done)|(exfalso;simp_all;done)|(simp_all;omega)) rfl
  have hb7':=of_decide_eq_false hb7
  refine ad aa 5 rfl ?_
  refine bI (t:=50) rfl (fun hb8=>?_) (fun hb8=>?_)
  ·
   have hb8':=of_decide_eq_true hb8
   refine ad aa 5 rfl ?_
   refine af ?_
   exact aF.bH 34 rfl rfl (by first|(simp [hb4,hb5,hb6,hb7,hb8];done)|(simp_all;done)|(exfalso;simp_all;done)|(simp_all;omega)) rfl
  have hb8':=of_decide_eq_false hb8
  refine ad aa 5 rfl ?_
  refine af ?_
  exact aF.bH 34 rfl rfl (by first|(simp [hb4,hb5,hb6,hb7,hb8];done)|(simp_all;done)|(exfalso;simp_all;done)|(simp_all;omega)) rfl
 refine ah rfl (fun hc9=>?_) (fun hc9=>?_)
 ·
  have hc9':=hc9;try simp only [bu,bU] at hc9'
  refine ae aa 1 rfl ?_
  refine az ?_
  refine bp ?_
  refine aq ?_
  have hX:bG a=3:=by
    (unfold bG;try dsimp only);(repeat' split)<;>first|rfl|omega|(exfalso;omega)|(subst_vars;rfl)|(simp_all;done)|(simp_all;omega)
  rw [hX] at hr;clear hX
  subst hr
  refine an aa [] 0 rfl rfl rfl rfl rfl rfl ?_ ?_
  all_goals first|rfl|(simp [ay];done)|(simp [ay];omega)
 have hc9':=hc9;try simp only [bu,bU] at hc9'
 refine cx 55 ((decide (a.captured > a.sum))||(decide ((a.bD+a.bq) > a.captured))) ?_ ?_
 ·
  refine au ?_
  refine ad aa 6 rfl ?_
  refine bI (t:=61) rfl (fun hb10=>?_) (fun hb10=>?_)
  ·
   have hb10':=of_decide_eq_true hb10
   refine ad aa 10 rfl ?_
   refine af ?_
   exact aF.bH 17 rfl rfl (by first|(simp [hb10];done)|(simp_all;done)|(exfalso;simp_all;done)|(simp_all;omega)) rfl
  have hb10':=of_decide_eq_false hb10
  refine ad aa 4 rfl ?_
  refine dQ (ak.yes rfl rfl rfl) (aL rfl rfl rfl (aJ (by first|omega|(simp;done)|(simp;omega)))) rfl rfl ?_
  refine ad aa 5 rfl ?_
  refine af ?_
  exact aF.bH 17 rfl rfl (by first|(simp [hb10];done)|(simp_all;done)|(exfalso;simp_all;done)|(simp_all;omega)) rfl
 refine ah rfl (fun hc11=>?_) (fun hc11=>?_)
 ·
  have hc11':=hc11;try simp only [bu,bU] at hc11'
  refine ae aa 1 rfl ?_
  refine az ?_
  refine bp ?_
  refine aq ?_
  have hX:bG a=8:=by
    (unfold bG;try dsimp only);(repeat' split)<;>first|rfl|omega|(exfalso;omega)|(subst_vars;rfl)|(simp_all;done)|(simp_all;omega)
  rw [hX] at hr;clear hX
  subst hr
  refine an aa [] 0 rfl rfl rfl rfl rfl rfl ?_ ?_
  all_goals first|rfl|(simp [ay];done)|(simp [ay];omega)
 have hc11':=hc11;try simp only [bu,bU] at hc11'
 refine cZ ?_
 refine bh ?_
 refine then_ok ?_
 refine ae aa 1 rfl ?_
 refine az ?_
 have hX:bG a=0:=by
   (unfold bG;try dsimp only);(repeat' split)<;>first|rfl|omega|(exfalso;omega)|(subst_vars;rfl)|(simp_all;done)|(simp_all;omega)
 rw [hX] at hr;clear hX
 subst hr
 refine an aa [] 0 rfl rfl rfl rfl rfl rfl ?_ ?_
 all_goals first|rfl|(simp [ay];done)|(simp [ay];omega)
theorem sZ (aO aD n time:Int) (b:bF) (e:Int) (hr:di aO aD n time=(b,e)):Fn Try.prog 79 [(.c (cI aO)),(.c (cI aD)),(.c (cI n)),(.c (cI time))] (.t [(.g [(cI b.aO),(cI b.aD),(cI b.sum),(cI b.captured),(cI b.bD),(cI b.bq),(cI b.cY),(cB b.shut)]),(.c (cI e))]) []:=by
 refine Fn.mk' 40 [(0,(aI aO)),(1,(aI aD)),(2,(aI n)),(3,(aI time))] Try.func79 rfl rfl rfl rfl ?_
 intro W0 T0
 refine ae aa 2 rfl ?_
 refine ag ?_
 refine cx 25 ((((decide (n < 1))||(decide (n > 1000000)))||(decide (time < 0)))||(decide (time > 1000000))) ?_ ?_
 ·
  refine au ?_
  refine ad aa 3 rfl ?_
  refine bI (t:=14) rfl (fun hb1=>?_) (fun hb1=>?_)
  ·
   have hb1':=of_decide_eq_true hb1
   refine ad aa 11 rfl ?_
   refine af ?_
   exact aF.bH 15 rfl rfl (by first|(simp [hb1];done)|(simp_all;done)|(exfalso;simp_all;done)|(simp_all;omega)) rfl
  have hb1':=of_decide_eq_false hb1
  refine ad aa 4 rfl ?_
  refine bI (t:=18) rfl (fun hb2=>?_) (fun hb2=>?_)
  ·
   have hb2':=of_decide_eq_true hb2
   refine ad aa 7 rfl ?_
   refine af ?_
   exact aF.bH 16 rfl rfl (by first|(simp [hb1,hb2];done)|(simp_all;done)|(exfalso;simp_all;done)|(simp_all;omega)) rfl
  have hb2':=of_decide_eq_false hb2
  refine ad aa 4 rfl ?_
  refine bI (t:=22) rfl (fun hb3=>?_) (fun hb3=>?_)
  ·
   have hb3':=of_decide_eq_true hb3
   refine ad aa 3 rfl ?_
   refine af ?_
   exact aF.bH 17 rfl rfl (by first|(simp [hb1,hb2,hb3];done)|(simp_all;done)|(exfalso;simp_all;done)|(simp_all;omega)) rfl
  have hb3':=of_decide_eq_false hb3
  refine ad aa 3 rfl ?_
  refine af ?_
  exact aF.bH 17 rfl rfl (by first|(simp [hb1,hb2,hb3];done)|(simp_all;done)|(exfalso;simp_all;done)|(simp_all;omega)) rfl
 refine ah rfl (fun hc4=>?_) (fun hc4=>?_)
 ·
  have hc4':=hc4;try simp only [bu,bU] at hc4'
  refine ae aa 3 rfl ?_
  refine az ?_
  refine aq ?_
  have hX:di aO aD n time=((⟨0,0,0,0,0,0,0,false⟩:bF),3):=by
    (try (unfold bG at hr0;dsimp only at hr0;(repeat' split at hr0)))<;>((unfold di;try dsimp only);(repeat' split)<;>first|rfl|omega|(exfalso;omega)|(subst_vars;rfl)|(simp_all;done)|(simp_all;omega))
  rw [hX] at hr;clear hX
  simp only [Prod.mk.injEq] at hr;obtain ⟨rfl,rfl⟩:=hr
  refine an aa [0] 0 rfl rfl rfl rfl rfl rfl ?_ ?_
  all_goals first|rfl|(simp [ay];done)|(simp [ay];omega)
 have hc4':=hc4;try simp only [bu,bU] at hc4'
 refine aQ ?_
 refine aH aa 4 rfl ?_
 refine aA (aL rfl rfl rfl (aJ (by first|omega|(simp;done)|(simp;omega)))) rfl ?_
 refine ad aa 3 rfl ?_
 refine af ?_
 refine ag ?_
 refine aH aa 1 rfl ?_
 obtain ⟨e0,hr0⟩:∃ (e0:Int),bG (⟨aO,aD,n,0,0,0,time+100,false⟩:bF)=e0:=⟨_,rfl⟩
 refine aN 2 [1,0] (bQ 2 (pT (⟨aO,aD,n,0,0,0,time+100,false⟩:bF) e0 hr0) GU rfl rfl ⟨⟨_,rfl,.g ⟨.d _,.d _,.d _,.d _,.d _,.d _,.d _,.d _,trivial⟩⟩,trivial⟩ trivial trivial rfl rfl rfl rfl) rfl ?_
 refine ad aa 1 rfl ?_
 refine af ?_
 refine ae aa 2 rfl ?_
 refine ah rfl (fun hc5=>?_) (fun hc5=>?_)
 ·
  have hc5':=of_decide_eq_true hc5
  refine ae aa 4 rfl ?_
  refine az ?_
  refine aq ?_
  have hX:di aO aD n time=((⟨0,0,0,0,0,0,0,false⟩:bF),e0):=by
    (try (unfold bG at hr0;dsimp only at hr0;(repeat' split at hr0)))<;>((unfold di;try dsimp only);(repeat' split)<;>first|rfl|omega|(exfalso;omega)|(subst_vars;rfl)|(simp_all;done)|(simp_all;omega))
  rw [hX] at hr;clear hX
  simp only [Prod.mk.injEq] at hr;obtain ⟨rfl,rfl⟩:=hr
  refine an aa [0] 0 rfl rfl rfl rfl rfl rfl ?_ ?_
  all_goals first|rfl|(simp [ay];done)|(simp [ay];omega)
 have hc5':=of_decide_eq_false hc5
 refine aQ ?_
 refine ae aa 3 rfl ?_
 refine az ?_
 have hX:di aO aD n time=((⟨aO,aD,n,0,0,0,time+100,false⟩:bF),0):=by
   (try (unfold bG at hr0;dsimp only at hr0;(repeat' split at hr0)))<;>((unfold di;try dsimp only);(repeat' split)<;>first|rfl|omega|(exfalso;omega)|(subst_vars;rfl)|(simp_all;done)|(simp_all;omega))
 rw [hX] at hr;clear hX
 simp only [Prod.mk.injEq] at hr;obtain ⟨rfl,rfl⟩:=hr
 refine an aa [0] 0 rfl rfl rfl rfl rfl rfl ?_ ?_
 all_goals first|rfl|(simp [ay];done)|(simp [ay];omega)

theorem yo (a:bF) (t:Int) (b:bF) (hr:ew a t=b):Fn Try.prog 104 [(.g [(cI a.aO),(cI a.aD),(cI a.sum),(cI a.captured),(cI a.bD),(cI a.bq),(cI a.cY),(cB a.shut)]),(.c (cI t))] (.v (.g [(cI b.aO),(cI b.aD),(cI b.sum),(cI b.captured),(cI b.bD),(cI b.bq),(cI b.cY),(cB b.shut)])) []:=by
 refine Fn.mk' 11 [(0,(aG [(cI a.aO),(cI a.aD),(cI a.sum),(cI a.captured),(cI a.bD),(cI a.bq),(cI a.cY),(cB a.shut)])),(1,(aI t))] Try.func104 rfl rfl rfl rfl ?_
 intro W0 T0
 refine ae aa 2 rfl ?_
 refine ag ?_
 refine ae aa 4 rfl ?_
 refine ah rfl (fun hc1=>?_) (fun hc1=>?_)
 ·
  have hc1':=of_decide_eq_true hc1
  refine au ?_
  refine ad aa 2 rfl ?_
  refine af ?_
  refine ae aa 2 rfl ?_
  refine az ?_
  have hX:ew a t=(⟨a.aO,a.aD,a.sum,a.captured,a.bD,a.bq,a.cY,true⟩:bF):=by
    refine xC rfl rfl rfl rfl rfl rfl rfl ?_;by_cases hT:a.cY<=t<;>first|(exfalso;omega)|simp [ew,hT]
  rw [hX] at hr;clear hX
  subst hr
  refine an aa [1] 0 rfl rfl rfl rfl rfl rfl ?_ ?_
  all_goals first|rfl|(simp [ay];done)|(simp [ay];omega)
 have hc1':=of_decide_eq_false hc1
 refine aQ ?_
 refine ae aa 2 rfl ?_
 refine az ?_
 have hX:ew a t=a:=by
   refine xC rfl rfl rfl rfl rfl rfl rfl ?_;by_cases hT:a.cY<=t<;>first|(exfalso;omega)|simp [ew,hT]
 rw [hX] at hr;clear hX
 subst hr
 refine an aa [1] 0 rfl rfl rfl rfl rfl rfl ?_ ?_
 all_goals first|rfl|(simp [ay];done)|(simp [ay];omega)
theorem lg (a:bF) (ha:bG a=0) (e:Int) (hr:bB a=e):Fn Try.prog 27 [(.g [(cI a.aO),(cI a.aD),(cI a.sum),(cI a.captured),(cI a.bD),(cI a.bq),(cI a.cY),(cB a.shut)])] (.v (.c (cI e))) []:=by
 refine Fn.mk' 10 [(0,(aG [(cI a.aO),(cI a.aD),(cI a.sum),(cI a.captured),(cI a.bD),(cI a.bq),(cI a.cY),(cB a.shut)]))] Try.func27 rfl rfl rfl rfl ?_
 intro W0 T0
 have hw:=fc ha
 refine ae aa 2 rfl ?_
 refine ag ?_
 refine ae aa 2 rfl ?_
 refine ah rfl (fun hc1=>?_) (fun hc1=>?_)
 ·
  have hc1':=hc1;try simp only [bu,bU] at hc1'
  refine ae aa 1 rfl ?_
  refine az ?_
  refine aq ?_
  have hX:bB a=0:=by
    (unfold bB;try dsimp only);(repeat' split)<;>first|rfl|omega|(exfalso;omega)|(subst_vars;rfl)|(simp_all;done)|(simp_all;omega)
  rw [hX] at hr;clear hX
  subst hr
  refine an aa [] 0 rfl rfl rfl rfl rfl rfl ?_ ?_
  all_goals first|rfl|(simp [ay];done)|(simp [ay];omega)
 have hc1':=hc1;try simp only [bu,bU] at hc1'
 refine aQ ?_
 refine aH aa 4 rfl ?_
 refine aA (aL rfl rfl rfl (aJ (by first|omega|(simp;done)|(simp;omega)))) rfl ?_
 refine ad aa 1 rfl ?_
 refine af ?_
 refine az ?_
 have hX:bB a=(a.sum - a.captured):=by
   (unfold bB;try dsimp only);(repeat' split)<;>first|rfl|omega|(exfalso;omega)|(subst_vars;rfl)|(simp_all;done)|(simp_all;omega)
 rw [hX] at hr;clear hX
 subst hr
 refine an aa [] 0 rfl rfl rfl rfl rfl rfl ?_ ?_
 all_goals first|rfl|(simp [ay];done)|(simp [ay];omega)
theorem qV (a:bF) (h:bG a=0):cJ Try.prog 101 [(.c (.p 0 0 0 0))] [(0,(.box 67 [(cI a.aO),(cI a.aD),(cI a.sum),(cI a.captured),(cI a.bD),(cI a.bq),(cI a.cY),(cB a.shut)]))] [0] (aI (a.captured - a.bD - a.bq)) [(0,(.box 67 [(cI a.aO),(cI a.aD),(cI a.sum),(cI a.captured),(cI a.bD),(cI a.bq),(cI a.cY),(cB a.shut)]))]:=by
 refine cJ.mk 17 [(0,(aC (.p 0 0 0 0)))] 1 Try.func101 rfl rfl rfl rfl rfl rfl rfl rfl rfl ?_
 intro W0 F0 T0 pg
 have hw:=fc h
 refine ae aa 1 rfl ?_
 refine ag ?_
 refine ba [0] [0] mixed rfl rfl ?_
 refine aE (kn:=[]) aa 8 rfl trivial ?_
 refine aU (n':=1) [6,10] [] rfl rfl (.inl ⟨(ak.plain rfl),aM.cast (aL rfl rfl rfl (aJ (by first|omega|(simp;done)|(simp;omega)))) rfl⟩) rfl ?_
 refine aE (kn:=[]) aa 4 rfl trivial ?_
 refine aU (n':=1) [11,15] [] rfl rfl (.inl ⟨(ak.plain rfl),aM.cast (aL rfl rfl rfl (aJ (by first|omega|(simp;done)|(simp;omega)))) rfl⟩) rfl ?_
 refine aE (kn:=[]) aa 1 rfl trivial ?_
 refine bC [0] rfl rfl rfl rfl (by kernel_rfl) ?_
 refine af ?_
 refine az ?_
 refine an aa [0] 1 rfl rfl rfl rfl rfl rfl ?_ ?_
 all_goals first|rfl|(simp [ay];done)|(simp [ay];omega)
theorem ym (a:bF) (kind n:Int) (h:bG a=0) (h1:1<=n) (h2:n<=1000000) (b:bF) (e:Int) (hr:de a kind n=(b,e)):cJ Try.prog 102 [(.c (.p 0 0 0 0)),(.c (cI kind)),(.c (cI n))] [(0,(.box 67 [(cI a.aO),(cI a.aD),(cI a.sum),(cI a.captured),(cI a.bD),(cI a.bq),(cI a.cY),(cB a.shut)]))] [0] (.v (.c (cI e))) [(0,(.box 67 [(cI b.aO),(cI b.aD),(cI b.sum),(cI b.captured),(cI b.bD),(cI b.bq),(cI b.cY),(cB b.shut)]))]:=by
 refine cJ.mk 91 [(0,(aC (.p 0 0 0 0))),(1,(aI kind)),(2,(aI n))] 1 Try.func102 rfl rfl rfl rfl rfl rfl rfl rfl rfl ?_
 intro W0 F0 T0 pg
 have hw:=fc h
 refine ae aa 1 rfl ?_
 refine ag ?_
 refine ba [0,1,2] [0] mixed rfl rfl ?_
 refine aE (kn:=[]) aa 8 rfl trivial ?_
 refine aU (n':=1) [11,15] [] rfl rfl (.inl ⟨(ak.plain rfl),aM.cast (aL rfl rfl rfl (aJ (by first|omega|(simp;done)|(simp;omega)))) rfl⟩) rfl ?_
 refine aE (kn:=[]) aa 1 rfl trivial ?_
 refine bC [0] rfl rfl rfl rfl (by kernel_rfl) ?_
 refine af ?_
 refine ag ?_
 refine aX ?_
 refine ae aa 5 rfl ?_
 refine ah rfl (fun hc1=>?_) (fun hc1=>?_)
 ·
  have hc1':=hc1;try simp only [bu,bU] at hc1'
  refine ae aa 1 rfl ?_
  refine az ?_
  refine bp ?_
  refine aq ?_
  have hX:de a kind n=(a,9):=by
    (unfold de;try dsimp only);(repeat' split)<;>first|rfl|omega|(exfalso;omega)|(subst_vars;rfl)|(simp_all;done)|(simp_all;omega)
  rw [hX] at hr;clear hX
  simp only [Prod.mk.injEq] at hr;obtain ⟨rfl,rfl⟩:=hr
  refine an aa [0] 1 rfl rfl rfl rfl rfl rfl ?_ ?_
  all_goals first|rfl|(simp [ay];done)|(simp [ay];omega)
 have hc1':=hc1;try simp only [bu,bU] at hc1'
 refine ae aa 3 rfl ?_
 refine ah rfl (fun hc2=>?_) (fun hc2=>?_)
 ·
  have hc2':=of_decide_eq_true hc2
  refine ag ?_
  refine aH aa 5 rfl ?_
  refine aA (aL rfl rfl rfl (aJ (by first|omega|(simp;done)|(simp;omega)))) rfl ?_
  refine ad aa 1 rfl ?_
  refine af ?_
  refine ah rfl (fun hc3=>?_) (fun hc3=>?_)
  ·
   have hc3':=of_decide_eq_true hc3
   refine ae aa 1 rfl ?_
   refine az ?_
   refine aq ?_
   refine bp ?_
   refine aq ?_
   have hX:de a kind n=(a,4):=by
     (unfold de;try dsimp only);(repeat' split)<;>first|rfl|omega|(exfalso;omega)|(subst_vars;rfl)|(simp_all;done)|(simp_all;omega)
   rw [hX] at hr;clear hX
   simp only [Prod.mk.injEq] at hr;obtain ⟨rfl,rfl⟩:=hr
   refine an aa [0] 1 rfl rfl rfl rfl rfl rfl ?_ ?_
   all_goals first|rfl|(simp [ay];done)|(simp [ay];omega)
  have hc3':=of_decide_eq_false hc3
  refine aQ ?_
  refine aH aa 5 rfl ?_
  refine aA (aL rfl rfl rfl (aJ (by first|omega|(simp;done)|(simp;omega)))) rfl ?_
  refine ad aa 3 rfl ?_
  refine af ?_
  refine ae aa 1 rfl ?_
  refine az ?_
  refine bp ?_
  refine aq ?_
  have hX:de a kind n=((⟨a.aO,a.aD,a.sum+n,a.captured,a.bD,a.bq,a.cY,a.shut⟩:bF),0):=by
    (unfold de;try dsimp only);(repeat' split)<;>first|rfl|omega|(exfalso;omega)|(subst_vars;rfl)|(simp_all;done)|(simp_all;omega)
  rw [hX] at hr;clear hX
  simp only [Prod.mk.injEq] at hr;obtain ⟨rfl,rfl⟩:=hr
  refine an aa [0] 1 rfl rfl rfl rfl rfl rfl ?_ ?_
  all_goals first|rfl|(simp [ay];done)|(simp [ay];omega)
 have hc2':=of_decide_eq_false hc2
 refine ae aa 4 rfl ?_
 refine ah rfl (fun hc4=>?_) (fun hc4=>?_)
 ·
  have hc4':=of_decide_eq_true hc4
  refine ae aa 1 rfl ?_
  refine az ?_
  refine bp ?_
  refine aq ?_
  have hX:de a kind n=(a,10):=by
    (unfold de;try dsimp only);(repeat' split)<;>first|rfl|omega|(exfalso;omega)|(subst_vars;rfl)|(simp_all;done)|(simp_all;omega)
  rw [hX] at hr;clear hX
  simp only [Prod.mk.injEq] at hr;obtain ⟨rfl,rfl⟩:=hr
  refine an aa [0] 1 rfl rfl rfl rfl rfl rfl ?_ ?_
  all_goals first|rfl|(simp [ay];done)|(simp [ay];omega)
 have hc4':=of_decide_eq_false hc4
 refine ae aa 3 rfl ?_
 refine ah rfl (fun hc5=>?_) (fun hc5=>?_)
 ·
  have hc5':=of_decide_eq_true hc5
  refine aH aa 5 rfl ?_
  refine aA (aL rfl rfl rfl (aJ (by first|omega|(simp;done)|(simp;omega)))) rfl ?_
  refine ad aa 3 rfl ?_
  refine af ?_
  refine ag ?_
  refine ba [0,1,2] [0] mixed rfl rfl ?_
  refine aE (kn:=[]) aa 12 rfl trivial ?_
  refine bC [0] rfl rfl rfl rfl (by kernel_rfl) ?_
  refine ad aa 1 rfl ?_
  refine af ?_
  refine ae aa 1 rfl ?_
  refine az ?_
  refine bp ?_
  refine aq ?_
  have hX:de a kind n=((⟨a.aO,a.aD,a.sum - n,a.captured,a.bD,a.bq,a.cY,decide ((a.sum - n)=a.captured)⟩:bF),0):=by
    (unfold de;try dsimp only);(repeat' split)<;>first|rfl|omega|(exfalso;omega)|(subst_vars;rfl)|(simp_all;done)|(simp_all;omega)
  rw [hX] at hr;clear hX
  simp only [Prod.mk.injEq] at hr;obtain ⟨rfl,rfl⟩:=hr
  refine an aa [0] 1 rfl rfl rfl rfl rfl rfl ?_ ?_
  all_goals first|rfl|(simp [ay];done)|(simp [ay];omega)
 have hc5':=of_decide_eq_false hc5
 refine cZ ?_
 refine bh ?_
 refine then_ok ?_
 refine aH aa 5 rfl ?_
 refine aA (aL rfl rfl rfl (aJ (by first|omega|(simp;done)|(simp;omega)))) rfl ?_
 refine ad aa 3 rfl ?_
 refine af ?_
 refine ag ?_
 rcases Bool.eq_false_or_eq_true (decide (kind=3)) with hb6|hb6
 ·
  have hb6':=of_decide_eq_true hb6
  refine ba [0,1] [0] mixed rfl rfl ?_
  refine aE (kn:=[(77,true)]) aa 16 rfl ⟨hb6,trivial⟩ ?_
  refine bC [0] rfl rfl rfl rfl (by kernel_rfl) ?_
  refine ad aa 1 rfl ?_
  refine af ?_
  refine ae aa 1 rfl ?_
  refine az ?_
  have hX:de a kind n=((⟨a.aO,a.aD,a.sum,a.captured+n,a.bD,a.bq,a.cY,true⟩:bF),0):=by
    (unfold de;try dsimp only);(repeat' split)<;>first|rfl|omega|(exfalso;omega)|(subst_vars;rfl)|(simp_all;done)|(simp_all;omega)
  rw [hX] at hr;clear hX
  simp only [Prod.mk.injEq] at hr;obtain ⟨rfl,rfl⟩:=hr
  refine an aa [0] 1 rfl rfl rfl rfl rfl rfl ?_ ?_
  all_goals first|rfl|(simp [ay];done)|(simp [ay];omega)
 have hb6':=of_decide_eq_false hb6
 refine ba [0,1] [0] mixed rfl rfl ?_
 refine aE (kn:=[(77,false)]) aa 16 rfl ⟨hb6,trivial⟩ ?_
 refine bC [0] rfl rfl rfl rfl (by kernel_rfl) ?_
 refine ad aa 1 rfl ?_
 refine af ?_
 refine ae aa 1 rfl ?_
 refine az ?_
 have hX:de a kind n=((⟨a.aO,a.aD,a.sum,a.captured+n,a.bD,a.bq,a.cY,decide ((a.captured+n)=a.sum)⟩:bF),0):=by
   (unfold de;try dsimp only);(repeat' split)<;>first|rfl|omega|(exfalso;omega)|(subst_vars;rfl)|(simp_all;done)|(simp_all;omega)
 rw [hX] at hr;clear hX
 simp only [Prod.mk.injEq] at hr;obtain ⟨rfl,rfl⟩:=hr
 refine an aa [0] 1 rfl rfl rfl rfl rfl rfl ?_ ?_
 all_goals first|rfl|(simp [ay];done)|(simp [ay];omega)
theorem yn (a:bF) (kind n:Int) (b:bF) (e:Int) (hr:bV a kind n=(b,e)):Fn Try.prog 81 [(.g [(cI a.aO),(cI a.aD),(cI a.sum),(cI a.captured),(cI a.bD),(cI a.bq),(cI a.cY),(cB a.shut)]),(.c (cI kind)),(.c (cI n))] (.t [(.g [(cI b.aO),(cI b.aD),(cI b.sum),(cI b.captured),(cI b.bD),(cI b.bq),(cI b.cY),(cB b.shut)]),(.c (cI e))]) []:=by
 refine Fn.mk' 76 [(0,(aG [(cI a.aO),(cI a.aD),(cI a.sum),(cI a.captured),(cI a.bD),(cI a.bq),(cI a.cY),(cB a.shut)])),(1,(aI kind)),(2,(aI n))] Try.func81 rfl rfl rfl rfl ?_
 intro W0 T0
 have hw:=@fc a
 refine ae aa 3 rfl ?_
 refine ag ?_
 refine aH aa 1 rfl ?_
 obtain ⟨e0,hr0⟩:∃ (e0:Int),bG a=e0:=⟨_,rfl⟩
 refine aN 2 [1,0] (bQ 2 (pT a e0 hr0) GU rfl rfl ⟨⟨_,rfl,.g ⟨.d _,.d _,.d _,.d _,.d _,.d _,.d _,.d _,trivial⟩⟩,trivial⟩ trivial trivial rfl rfl rfl rfl) rfl ?_
 refine ad aa 1 rfl ?_
 refine af ?_
 refine ae aa 2 rfl ?_
 refine ah rfl (fun hc1=>?_) (fun hc1=>?_)
 ·
  have hc1':=of_decide_eq_true hc1
  refine ae aa 4 rfl ?_
  refine az ?_
  refine aq ?_
  have hX:bV a kind n=((⟨0,0,0,0,0,0,0,false⟩:bF),e0):=by
    (unfold bV;try dsimp only);(try simp only [hr0]);(repeat' split)<;>first|rfl|omega|(exfalso;omega)|(subst_vars;rfl)|(simp_all;done)|(simp_all;omega)
  rw [hX] at hr;clear hX
  simp only [Prod.mk.injEq] at hr;obtain ⟨rfl,rfl⟩:=hr
  refine an aa [1] 0 rfl rfl rfl rfl rfl rfl ?_ ?_
  all_goals first|rfl|(simp [ay];done)|(simp [ay];omega)
 have hc1':=of_decide_eq_false hc1
 refine aQ ?_
 refine ag ?_
 refine cx 21 ((decide (kind < 1))||(decide (kind > 8))) ?_ ?_
 ·
  refine au ?_
  refine ad aa 3 rfl ?_
  refine bI (t:=18) rfl (fun hb2=>?_) (fun hb2=>?_)
  ·
   have hb2':=of_decide_eq_true hb2
   refine ad aa 3 rfl ?_
   refine af ?_
   exact aF.bH 7 rfl rfl (by first|(simp [hb2];done)|(simp_all;done)|(exfalso;simp_all;done)|(simp_all;omega)) rfl
  have hb2':=of_decide_eq_false hb2
  refine ad aa 3 rfl ?_
  refine af ?_
  exact aF.bH 7 rfl rfl (by first|(simp [hb2];done)|(simp_all;done)|(exfalso;simp_all;done)|(simp_all;omega)) rfl
 refine ah rfl (fun hc3=>?_) (fun hc3=>?_)
 ·
  have hc3':=hc3;try simp only [bu,bU] at hc3'
  refine ae aa 3 rfl ?_
  refine az ?_
  refine aq ?_
  have hX:bV a kind n=((⟨0,0,0,0,0,0,0,false⟩:bF),1):=by
    (unfold bV;try dsimp only);(try simp only [hr0]);(repeat' split)<;>first|rfl|omega|(exfalso;omega)|(subst_vars;rfl)|(simp_all;done)|(simp_all;omega)
  rw [hX] at hr;clear hX
  simp only [Prod.mk.injEq] at hr;obtain ⟨rfl,rfl⟩:=hr
  refine an aa [1] 0 rfl rfl rfl rfl rfl rfl ?_ ?_
  all_goals first|rfl|(simp [ay];done)|(simp [ay];omega)
 have hc3':=hc3;try simp only [bu,bU] at hc3'
 refine aQ ?_
 refine ag ?_
 refine cx 28 ((decide (n < 1))||(decide (n > 1000000))) ?_ ?_
 ·
  refine au ?_
  refine ad aa 3 rfl ?_
  refine bI (t:=25) rfl (fun hb4=>?_) (fun hb4=>?_)
  ·
   have hb4':=of_decide_eq_true hb4
   refine ad aa 3 rfl ?_
   refine af ?_
   exact aF.bH 7 rfl rfl (by first|(simp [hb4];done)|(simp_all;done)|(exfalso;simp_all;done)|(simp_all;omega)) rfl
  have hb4':=of_decide_eq_false hb4
  refine ad aa 3 rfl ?_
  refine af ?_
  exact aF.bH 7 rfl rfl (by first|(simp [hb4];done)|(simp_all;done)|(exfalso;simp_all;done)|(simp_all;omega)) rfl
 refine ah rfl (fun hc5=>?_) (fun hc5=>?_)
 ·
  have hc5':=hc5;try simp only [bu,bU] at hc5'
  refine ae aa 3 rfl ?_
  refine az ?_
  refine aq ?_
  have hX:bV a kind n=((⟨0,0,0,0,0,0,0,false⟩:bF),3):=by
    (unfold bV;try dsimp only);(try simp only [hr0]);(repeat' split)<;>first|rfl|omega|(exfalso;omega)|(subst_vars;rfl)|(simp_all;done)|(simp_all;omega)
  rw [hX] at hr;clear hX
  simp only [Prod.mk.injEq] at hr;obtain ⟨rfl,rfl⟩:=hr
  refine an aa [1] 0 rfl rfl rfl rfl rfl rfl ?_ ?_
  all_goals first|rfl|(simp [ay];done)|(simp [ay];omega)
 have hc5':=hc5;try simp only [bu,bU] at hc5'
 refine aQ ?_
 refine ae aa 1 rfl ?_
 refine ag ?_
 refine ae aa 1 rfl ?_
 refine aX ?_
 refine ag ?_
 refine ae aa 2 rfl ?_
 refine ah rfl (fun hc6=>?_) (fun hc6=>?_)
 ·
  have hc6':=of_decide_eq_true hc6
  refine aQ ?_
  refine ah rfl (fun _=>?_) (fun hno=>absurd (hc6.symm.trans hno) (by decide))
  refine aH aa 1 rfl ?_
  refine aN 2 [0,1] (cL id id (qV a (by first|assumption|omega)) EF rfl rfl ⟨⟨_,rfl,.inl ⟨rfl,rfl⟩⟩,trivial⟩ ⟨rfl,trivial⟩ rfl rfl rfl rfl rfl rfl trivial ⟨⟨trivial,trivial,trivial,trivial,trivial,trivial,trivial,trivial,trivial⟩,trivial⟩ rfl rfl rfl rfl) rfl ?_
  refine ad aa 1 rfl ?_
  refine af ?_
  refine ah rfl (fun hc8=>?_) (fun hc8=>?_)
  ·
   have hc8':=of_decide_eq_true hc8
   refine au ?_
   refine ad aa 1 rfl ?_
   refine bY ?_
   refine bh ?_
   refine then_ok ?_
   refine ag ?_
   refine aH aa 1 rfl ?_
   refine aA (aL rfl rfl rfl (show _=some (Value.bool true) from rfl)) rfl ?_
   refine af ?_
   refine ah rfl (fun _=>?_) (fun hno=>by cases hno)
   refine ae aa 4 rfl ?_
   refine az ?_
   refine aq ?_
   have hX:bV a kind n=((⟨0,0,0,0,0,0,0,false⟩:bF),10):=by
     (unfold bV;try dsimp only);(try simp only [hr0]);(repeat' split)<;>first|rfl|omega|(exfalso;omega)|(subst_vars;rfl)|(simp_all;done)|(simp_all;omega)
   rw [hX] at hr;clear hX
   simp only [Prod.mk.injEq] at hr;obtain ⟨rfl,rfl⟩:=hr
   refine an aa [1] 0 rfl rfl rfl rfl rfl rfl ?_ ?_
   all_goals first|rfl|(simp [ay];done)|(simp [ay];omega)
  have hc8':=of_decide_eq_false hc8
  refine ae aa 2 rfl ?_
  refine ah rfl (fun _=>?_) (fun hno=>absurd (hc6.symm.trans hno) (by decide))
  refine au ?_
  refine ad aa 3 rfl ?_
  refine aA (aL rfl rfl rfl (aJ (by first|omega|(simp;done)|(simp;omega)))) rfl ?_
  refine ad aa 2 rfl ?_
  refine bY ?_
  refine bh ?_
  refine then_ok ?_
  refine ag ?_
  refine aH aa 1 rfl ?_
  refine aA (aL rfl rfl rfl (show _=some (Value.bool false) from rfl)) rfl ?_
  refine af ?_
  refine ah rfl (fun hno=>by cases hno) (fun _=>?_)
  refine aQ ?_
  refine ae aa 3 rfl ?_
  refine az ?_
  have hX:bV a kind n=((⟨a.aO,a.aD,a.sum,a.captured,a.bD+n,a.bq,a.cY,a.shut⟩:bF),0):=by
    (unfold bV;try dsimp only);(try simp only [hr0]);(repeat' split)<;>first|rfl|omega|(exfalso;omega)|(subst_vars;rfl)|(simp_all;done)|(simp_all;omega)
  rw [hX] at hr;clear hX
  simp only [Prod.mk.injEq] at hr;obtain ⟨rfl,rfl⟩:=hr
  refine an aa [1] 0 rfl rfl rfl rfl rfl rfl ?_ ?_
  all_goals first|rfl|(simp [ay];done)|(simp [ay];omega)
 have hc6':=of_decide_eq_false hc6
 refine au ?_
 refine ad aa 2 rfl ?_
 refine af ?_
 refine ah rfl (fun hc12=>?_) (fun hc12=>?_)
 ·
  have hc12':=of_decide_eq_true hc12
  refine aH aa 1 rfl ?_
  refine aN 2 [0,1] (cL id id (qV a (by first|assumption|omega)) EF rfl rfl ⟨⟨_,rfl,.inl ⟨rfl,rfl⟩⟩,trivial⟩ ⟨rfl,trivial⟩ rfl rfl rfl rfl rfl rfl trivial ⟨⟨trivial,trivial,trivial,trivial,trivial,trivial,trivial,trivial,trivial⟩,trivial⟩ rfl rfl rfl rfl) rfl ?_
  refine ad aa 1 rfl ?_
  refine af ?_
  refine ah rfl (fun hc13=>?_) (fun hc13=>?_)
  ·
   have hc13':=of_decide_eq_true hc13
   refine au ?_
   refine ad aa 1 rfl ?_
   refine bY ?_
   refine bh ?_
   refine then_ok ?_
   refine ag ?_
   refine aH aa 1 rfl ?_
   refine aA (aL rfl rfl rfl (show _=some (Value.bool true) from rfl)) rfl ?_
   refine af ?_
   refine ah rfl (fun _=>?_) (fun hno=>by cases hno)
   refine ae aa 4 rfl ?_
   refine az ?_
   refine aq ?_
   have hX:bV a kind n=((⟨0,0,0,0,0,0,0,false⟩:bF),10):=by
     (unfold bV;try dsimp only);(try simp only [hr0]);(repeat' split)<;>first|rfl|omega|(exfalso;omega)|(subst_vars;rfl)|(simp_all;done)|(simp_all;omega)
   rw [hX] at hr;clear hX
   simp only [Prod.mk.injEq] at hr;obtain ⟨rfl,rfl⟩:=hr
   refine an aa [1] 0 rfl rfl rfl rfl rfl rfl ?_ ?_
   all_goals first|rfl|(simp [ay];done)|(simp [ay];omega)
  have hc13':=of_decide_eq_false hc13
  refine ae aa 2 rfl ?_
  refine ah rfl (fun hno=>absurd (hc6.symm.trans hno) (by decide)) (fun _=>?_)
  refine au ?_
  refine ad aa 3 rfl ?_
  refine aA (aL rfl rfl rfl (aJ (by first|omega|(simp;done)|(simp;omega)))) rfl ?_
  refine ad aa 2 rfl ?_
  refine bY ?_
  refine bh ?_
  refine then_ok ?_
  refine ag ?_
  refine aH aa 1 rfl ?_
  refine aA (aL rfl rfl rfl (show _=some (Value.bool false) from rfl)) rfl ?_
  refine af ?_
  refine ah rfl (fun hno=>by cases hno) (fun _=>?_)
  refine aQ ?_
  refine ae aa 3 rfl ?_
  refine az ?_
  have hX:bV a kind n=((⟨a.aO,a.aD,a.sum,a.captured,a.bD,a.bq+n,a.cY,a.shut⟩:bF),0):=by
    (unfold bV;try dsimp only);(try simp only [hr0]);(repeat' split)<;>first|rfl|omega|(exfalso;omega)|(subst_vars;rfl)|(simp_all;done)|(simp_all;omega)
  rw [hX] at hr;clear hX
  simp only [Prod.mk.injEq] at hr;obtain ⟨rfl,rfl⟩:=hr
  refine an aa [1] 0 rfl rfl rfl rfl rfl rfl ?_ ?_
  all_goals first|rfl|(simp [ay];done)|(simp [ay];omega)
 have hc12':=of_decide_eq_false hc12
 refine ag ?_
 refine ae aa 2 rfl ?_
 refine ah rfl (fun hc17=>?_) (fun hc17=>?_)
 ·
  have hc17':=of_decide_eq_true hc17
  refine aQ ?_
  refine ah rfl (fun _=>?_) (fun hno=>absurd (hc17.symm.trans hno) (by decide))
  refine ag ?_
  refine ae aa 4 rfl ?_
  refine ah rfl (fun hc19=>?_) (fun hc19=>?_)
  ·
   have hc19':=of_decide_eq_true hc19
   refine ae aa 1 rfl ?_
   refine cj ?_
   refine aP ?_
   refine bK ?_
   refine then_ok ?_
   refine ag ?_
   refine aH aa 1 rfl ?_
   refine aA (aL rfl rfl rfl (show _=some (Value.bool true) from rfl)) rfl ?_
   refine af ?_
   refine ah rfl (fun _=>?_) (fun hno=>by cases hno)
   refine ae aa 4 rfl ?_
   refine az ?_
   refine aq ?_
   have hX:bV a kind n=((⟨0,0,0,0,0,0,0,false⟩:bF),10):=by
     (unfold bV;try dsimp only);(try simp only [hr0]);(repeat' split)<;>first|rfl|omega|(exfalso;omega)|(subst_vars;rfl)|(simp_all;done)|(simp_all;omega)
   rw [hX] at hr;clear hX
   simp only [Prod.mk.injEq] at hr;obtain ⟨rfl,rfl⟩:=hr
   refine an aa [1] 0 rfl rfl rfl rfl rfl rfl ?_ ?_
   all_goals first|rfl|(simp [ay];done)|(simp [ay];omega)
  have hc19':=of_decide_eq_false hc19
  refine aQ ?_
  refine aH aa 3 rfl ?_
  refine aA (aL rfl rfl rfl (aJ (by first|omega|(simp;done)|(simp;omega)))) rfl ?_
  refine ad aa 2 rfl ?_
  refine af ?_
  refine ae aa 2 rfl ?_
  refine ah rfl (fun _=>?_) (fun hno=>absurd (hc17.symm.trans hno) (by decide))
  refine au ?_
  refine ad aa 3 rfl ?_
  refine aA (aL rfl rfl rfl (aJ (by first|omega|(simp;done)|(simp;omega)))) rfl ?_
  refine ad aa 2 rfl ?_
  refine bY ?_
  refine bh ?_
  refine then_ok ?_
  refine ag ?_
  refine aH aa 1 rfl ?_
  refine aA (aL rfl rfl rfl (show _=some (Value.bool false) from rfl)) rfl ?_
  refine af ?_
  refine ah rfl (fun hno=>by cases hno) (fun _=>?_)
  refine aQ ?_
  refine ae aa 3 rfl ?_
  refine az ?_
  have hX:bV a kind n=((⟨a.aO,a.aD,a.sum,a.captured,a.bD+n,a.bq - n,a.cY,a.shut⟩:bF),0):=by
    (unfold bV;try dsimp only);(try simp only [hr0]);(repeat' split)<;>first|rfl|omega|(exfalso;omega)|(subst_vars;rfl)|(simp_all;done)|(simp_all;omega)
  rw [hX] at hr;clear hX
  simp only [Prod.mk.injEq] at hr;obtain ⟨rfl,rfl⟩:=hr
  refine an aa [1] 0 rfl rfl rfl rfl rfl rfl ?_ ?_
  all_goals first|rfl|(simp [ay];done)|(simp [ay];omega)
 have hc17':=of_decide_eq_false hc17
 refine au ?_
 refine ad aa 2 rfl ?_
 refine af ?_
 refine ah rfl (fun hc23=>?_) (fun hc23=>?_)
 ·
  have hc23':=of_decide_eq_true hc23
  refine ag ?_
  refine ae aa 4 rfl ?_
  refine ah rfl (fun hc24=>?_) (fun hc24=>?_)
  ·
   have hc24':=of_decide_eq_true hc24
   refine ae aa 1 rfl ?_
   refine cj ?_
   refine aP ?_
   refine bK ?_
   refine then_ok ?_
   refine ag ?_
   refine aH aa 1 rfl ?_
   refine aA (aL rfl rfl rfl (show _=some (Value.bool true) from rfl)) rfl ?_
   refine af ?_
   refine ah rfl (fun _=>?_) (fun hno=>by cases hno)
   refine ae aa 4 rfl ?_
   refine az ?_
   refine aq ?_
   have hX:bV a kind n=((⟨0,0,0,0,0,0,0,false⟩:bF),10):=by
     (unfold bV;try dsimp only);(try simp only [hr0]);(repeat' split)<;>first|rfl|omega|(exfalso;omega)|(subst_vars;rfl)|(simp_all;done)|(simp_all;omega)
   rw [hX] at hr;clear hX
   simp only [Prod.mk.injEq] at hr;obtain ⟨rfl,rfl⟩:=hr
   refine an aa [1] 0 rfl rfl rfl rfl rfl rfl ?_ ?_
   all_goals first|rfl|(simp [ay];done)|(simp [ay];omega)
  have hc24':=of_decide_eq_false hc24
  refine aQ ?_
  refine aH aa 3 rfl ?_
  refine aA (aL rfl rfl rfl (aJ (by first|omega|(simp;done)|(simp;omega)))) rfl ?_
  refine ad aa 2 rfl ?_
  refine af ?_
  refine ae aa 2 rfl ?_
  refine ah rfl (fun hno=>absurd (hc17.symm.trans hno) (by decide)) (fun _=>?_)
  refine cZ ?_
  refine bh ?_
  refine then_ok ?_
  refine ag ?_
  refine aH aa 1 rfl ?_
  refine aA (aL rfl rfl rfl (show _=some (Value.bool false) from rfl)) rfl ?_
  refine af ?_
  refine ah rfl (fun hno=>by cases hno) (fun _=>?_)
  refine aQ ?_
  refine ae aa 3 rfl ?_
  refine az ?_
  have hX:bV a kind n=((⟨a.aO,a.aD,a.sum,a.captured,a.bD,a.bq - n,a.cY,a.shut⟩:bF),0):=by
    (unfold bV;try dsimp only);(try simp only [hr0]);(repeat' split)<;>first|rfl|omega|(exfalso;omega)|(subst_vars;rfl)|(simp_all;done)|(simp_all;omega)
  rw [hX] at hr;clear hX
  simp only [Prod.mk.injEq] at hr;obtain ⟨rfl,rfl⟩:=hr
  refine an aa [1] 0 rfl rfl rfl rfl rfl rfl ?_ ?_
  all_goals first|rfl|(simp [ay];done)|(simp [ay];omega)
 have hc23':=of_decide_eq_false hc23
 refine au ?_
 refine ad aa 2 rfl ?_
 obtain ⟨b1,e1,hr1⟩:∃ (b1:bF) (e1:Int),de a kind n=(b1,e1):=⟨_,_,rfl⟩
 refine aN 2 [0,1] (cL id id (ym a kind n (by first|assumption|omega) (by omega) (by omega) b1 e1 hr1) HZ rfl rfl ⟨⟨_,rfl,.inl ⟨rfl,rfl⟩⟩,⟨_,rfl,.inr (.c (.d _))⟩,⟨_,rfl,.inr (.c (.d _))⟩,trivial⟩ ⟨rfl,trivial⟩ rfl rfl rfl rfl rfl rfl trivial ⟨⟨trivial,trivial,trivial,trivial,trivial,trivial,trivial,trivial,trivial⟩,trivial⟩ rfl rfl rfl rfl) rfl ?_
 refine ad aa 1 rfl ?_
 refine bY ?_
 refine bh ?_
 refine then_ok ?_
 refine ag ?_
 refine ae aa 2 rfl ?_
 refine ah rfl (fun hc28=>?_) (fun hc28=>?_)
 ·
  have hc28':=of_decide_eq_true hc28
  refine ae aa 4 rfl ?_
  refine az ?_
  refine aq ?_
  have hX:bV a kind n=((⟨0,0,0,0,0,0,0,false⟩:bF),e1):=by
    (unfold bV;try dsimp only);(try simp only [hr0]);(try simp only [hr1]);(repeat' split)<;>first|rfl|omega|(exfalso;omega)|(subst_vars;rfl)|(simp_all;done)|(simp_all;omega)
  rw [hX] at hr;clear hX
  simp only [Prod.mk.injEq] at hr;obtain ⟨rfl,rfl⟩:=hr
  refine an aa [1] 0 rfl rfl rfl rfl rfl rfl ?_ ?_
  all_goals first|rfl|(simp [ay];done)|(simp [ay];omega)
 have hc28':=of_decide_eq_false hc28
 refine aQ ?_
 refine ae aa 3 rfl ?_
 refine az ?_
 have hX:bV a kind n=(b1,0):=by
   (unfold bV;try dsimp only);(try simp only [hr0]);(try simp only [hr1]);(repeat' split)<;>first|rfl|omega|(exfalso;omega)|(subst_vars;rfl)|(simp_all;done)|(simp_all;omega)
 rw [hX] at hr;clear hX
 simp only [Prod.mk.injEq] at hr;obtain ⟨rfl,rfl⟩:=hr
 refine an aa [1] 0 rfl rfl rfl rfl rfl rfl ?_ ?_
 all_goals first|rfl|(simp [ay];done)|(simp [ay];omega)

theorem vz (cap:Int) (used:List Int) (advs:List cm):Fn Try.prog 30 [(.g [(cI cap),(fB used),(iz advs)])] (aI (cb ⟨cap,used,advs⟩)) []:=by
 refine Fn.mk' 109 [(0,(aG [(cI cap),(fB used),(iz advs)]))] Try.func30 rfl rfl rfl rfl ?_
 intro W0 T0
 refine fE 0 1 rfl rfl (fun hlen0_1=>?_)
 refine fE 0 2 rfl rfl (fun hlen0_2=>?_)
 refine ae aa 2 rfl ?_
 refine ag ?_
 refine cx 17 ((decide ((↑used.length:Int) > 8))||(decide ((↑advs.length:Int) > 20))) ?_ ?_
 ·
  refine au ?_
  refine ad aa 2 rfl ?_
  refine aA (cM rfl rfl rfl rfl rfl Try.underlying30) rfl ?_
  refine ad aa 2 rfl ?_
  refine bI (t:=12) rfl (fun hb1=>?_) (fun hb1=>?_)
  ·
   have hb1':=of_decide_eq_true hb1
   refine ad aa 5 rfl ?_
   refine af ?_
   exact aF.bH 11 rfl rfl (by first|(simp [hb1];done)|(simp_all;done)|(exfalso;simp_all;done)|(simp_all;omega)) rfl
  have hb1':=of_decide_eq_false hb1
  refine ad aa 2 rfl ?_
  refine dQ (ak.yes rfl rfl rfl) (cM rfl rfl rfl rfl rfl Try.underlying39) rfl rfl ?_
  refine ad aa 2 rfl ?_
  refine af ?_
  exact aF.bH 11 rfl rfl (by first|(simp [hb1];done)|(simp_all;done)|(exfalso;simp_all;done)|(simp_all;omega)) rfl
 refine ah rfl (fun hc2=>?_) (fun hc2=>?_)
 ·
  have hc2':=hc2;try simp only [bu,bU] at hc2'
  refine ae aa 1 rfl ?_
  refine az ?_
  refine aq ?_
  refine an aa [] 0 rfl rfl rfl rfl rfl rfl ?_ ?_
  ·(have h:=oR (s:=⟨cap,used,advs⟩) (show 8 < used.length\/20 < advs.length by omega));show aI _=aI _;rw [h]
  ·rfl
 have hc2':=hc2;try simp only [bu,bU] at hc2'
 refine aQ ?_
 refine ag ?_
 refine cx 25 ((decide (cap < 0))||(decide (cap > 1000000))) ?_ ?_
 ·
  refine au ?_
  refine ad aa 4 rfl ?_
  refine bI (t:=21) rfl (fun hb3=>?_) (fun hb3=>?_)
  ·
   have hb3':=of_decide_eq_true hb3
   refine ad aa 4 rfl ?_
   refine af ?_
   exact aF.bH 9 rfl rfl (by first|(simp [hb3];done)|(simp_all;done)|(exfalso;simp_all;done)|(simp_all;omega)) rfl
  have hb3':=of_decide_eq_false hb3
  refine ad aa 4 rfl ?_
  refine af ?_
  exact aF.bH 9 rfl rfl (by first|(simp [hb3];done)|(simp_all;done)|(exfalso;simp_all;done)|(simp_all;omega)) rfl
 refine ah rfl (fun hc4=>?_) (fun hc4=>?_)
 ·
  have hc4':=hc4;try simp only [bu,bU] at hc4'
  refine ae aa 1 rfl ?_
  refine az ?_
  refine aq ?_
  refine an aa [] 0 rfl rfl rfl rfl rfl rfl ?_ ?_
  ·(have h:=ns (s:=⟨cap,used,advs⟩) (show ¬(8 < (⟨cap,used,advs⟩:cF).used.length\/20 < (⟨cap,used,advs⟩:cF).bg.length) by simp only;omega) (show gG cap=false by simp only [gG,decide_eq_false_iff_not];omega));show aI _=aI _;rw [h]
  ·rfl
 have hc4':=hc4;try simp only [bu,bU] at hc4'
 refine aQ ?_
 refine aH aa 2 rfl ?_
 refine aA (cM rfl rfl rfl rfl rfl Try.underlying30) rfl ?_
 refine aN 2 [1,0] (qm 1 nh Ep rfl rfl rfl (n:=used.length) (by first|omega|(simp;omega)|(simp [dp];omega)) (by first|omega|(simp;omega)|(simp [dp];omega)) (by first|omega|(simp;omega)|(simp [dp];omega)) (by first|omega|(simp;omega)|(simp [dp];omega))) rfl ?_
 refine ad aa 1 rfl ?_
 refine af ?_
 refine ag ?_
 refine aH aa 2 rfl ?_
 refine aA (cM rfl rfl rfl rfl rfl Try.underlying39) rfl ?_
 refine ad aa 1 rfl ?_
 refine af ?_
 refine aX ?_
 refine cw (β:=Nat) (fun (q:Nat)=>⟨[(1,(aC (.p 0 0 0 0))),(3,(aC (.s 1 0 1 used.length))),(31,(aC (iz advs))),(32,(aI (↑advs.length:Int))),(33,(aI (↑q:Int)))],[(1,(dP (jt used.length (advs.take q)))),(0,(.box 41 [(cI cap),(fB used),(iz advs)]))],2⟩) (fun (q:Nat)=>q<=advs.length/\(advs.take q).all (gS used.length)=true) (fun (q:Nat)=>advs.length - q) 0 ?_ ?_ ?_
 ·exact ⟨by omega,by simp⟩
 ·exact aF.bW id (by refine ⟨?_,?_,?_,?_,?_,trivial⟩<;>first|rfl|(simp only [bm];done)|(congr 3;omega)|(congr 4;omega)|(simp only [bn];rfl)) (by refine ⟨?_,?_,trivial⟩<;>first|rfl|(simp only [bm];done)|(congr 3;omega)|(congr 4;omega)|(simp only [bn];rfl)|((rw [List.take_zero,<-AG];rfl))) rfl
 rintro q ⟨hi0_0,hi0_1⟩
 refine ae aa 1 rfl ?_
 refine ag ?_
 refine ah rfl (fun hc5=>?_) (fun hc5=>?_)
 ·
  have hc5':=of_decide_eq_true hc5
  refine aQ ?_
  refine ag ?_
  refine aX ?_
  refine eB ?_
  obtain ⟨x1,hx1⟩:=ck (xs:=advs) (i:=q) (by first|omega|(simp [dp];omega))
  refine aA (cH (i:=q) rfl rfl rfl Try.underlying39 Et (by first|omega|(simp;omega)|(simp [dp];omega)) (bw hx1)) rfl ?_
  refine ad aa 3 rfl ?_
  refine af ?_
  refine ag ?_
  refine cx 77 ((((((((decide (x1.aO < 0))||(decide (x1.aO>=(↑used.length:Int))))||(decide (x1.aD < 0)))||(decide (x1.aD>=8)))||(decide (x1.sum < 1)))||(decide (x1.sum > 1000000)))||(decide (x1.time < 0)))||(decide (x1.time > 1000000))) ?_ ?_
  ·
   refine au ?_
   refine ad aa 4 rfl ?_
   refine bI (t:=40) rfl (fun hb6=>?_) (fun hb6=>?_)
   ·
    have hb6':=of_decide_eq_true hb6
    refine ad aa 37 rfl ?_
    refine af ?_
    exact aF.bH 42 rfl rfl (by first|(simp [hb6];done)|(simp_all;done)|(exfalso;simp_all;done)|(simp_all;omega)) rfl
   have hb6':=of_decide_eq_false hb6
   refine ad aa 4 rfl ?_
   refine dQ (ak.yes rfl rfl rfl) (cM rfl rfl rfl rfl rfl Try.underlying30) rfl rfl ?_
   refine ad aa 3 rfl ?_
   refine bI (t:=48) rfl (fun hb7=>?_) (fun hb7=>?_)
   ·
    have hb7':=of_decide_eq_true hb7
    refine ad aa 29 rfl ?_
    refine af ?_
    exact aF.bH 43 rfl rfl (by first|(simp [hb6,hb7];done)|(simp_all;done)|(exfalso;simp_all;done)|(simp_all;omega)) rfl
   have hb7':=of_decide_eq_false hb7
   refine ad aa 5 rfl ?_
   refine bI (t:=53) rfl (fun hb8=>?_) (fun hb8=>?_)
   ·
    have hb8':=of_decide_eq_true hb8
    refine ad aa 24 rfl ?_
    refine af ?_
    exact aF.bH 44 rfl rfl (by first|(simp [hb6,hb7,hb8];done)|(simp_all;done)|(exfalso;simp_all;done)|(simp_all;omega)) rfl
   have hb8':=of_decide_eq_false hb8
   refine ad aa 5 rfl ?_
   refine bI (t:=58) rfl (fun hb9=>?_) (fun hb9=>?_)
   ·
    have hb9':=of_decide_eq_true hb9
    refine ad aa 19 rfl ?_
    refine af ?_
    exact aF.bH 45 rfl rfl (by first|(simp [hb6,hb7,hb8,hb9];done)|(simp_all;done)|(exfalso;simp_all;done)|(simp_all;omega)) rfl
   have hb9':=of_decide_eq_false hb9
   refine ad aa 5 rfl ?_
   refine bI (t:=63) rfl (fun hb10=>?_) (fun hb10=>?_)
   ·
    have hb10':=of_decide_eq_true hb10
    refine ad aa 14 rfl ?_
    refine af ?_
    exact aF.bH 46 rfl rfl (by first|(simp [hb6,hb7,hb8,hb9,hb10];done)|(simp_all;done)|(exfalso;simp_all;done)|(simp_all;omega)) rfl
   have hb10':=of_decide_eq_false hb10
   refine ad aa 5 rfl ?_
   refine bI (t:=68) rfl (fun hb11=>?_) (fun hb11=>?_)
   ·
    have hb11':=of_decide_eq_true hb11
    refine ad aa 9 rfl ?_
    refine af ?_
    exact aF.bH 47 rfl rfl (by first|(simp [hb6,hb7,hb8,hb9,hb10,hb11];done)|(simp_all;done)|(exfalso;simp_all;done)|(simp_all;omega)) rfl
   have hb11':=of_decide_eq_false hb11
   refine ad aa 5 rfl ?_
   refine bI (t:=73) rfl (fun hb12=>?_) (fun hb12=>?_)
   ·
    have hb12':=of_decide_eq_true hb12
    refine ad aa 4 rfl ?_
    refine af ?_
    exact aF.bH 48 rfl rfl (by first|(simp [hb6,hb7,hb8,hb9,hb10,hb11,hb12];done)|(simp_all;done)|(exfalso;simp_all;done)|(simp_all;omega)) rfl
   have hb12':=of_decide_eq_false hb12
   refine ad aa 4 rfl ?_
   refine af ?_
   exact aF.bH 48 rfl rfl (by first|(simp [hb6,hb7,hb8,hb9,hb10,hb11,hb12];done)|(simp_all;done)|(exfalso;simp_all;done)|(simp_all;omega)) rfl
  refine ah rfl (fun hc13=>?_) (fun hc13=>?_)
  ·
   have hc13':=hc13;try simp only [bu,bU] at hc13'
   refine ae aa 1 rfl ?_
   refine az ?_
   refine aq ?_
   refine bp ?_
   refine aq ?_
   refine aq ?_
   refine bp ?_
   refine aq ?_
   refine an aa [] 0 rfl rfl rfl rfl rfl rfl ?_ ?_
   ·(have h:=kH (s:=⟨cap,used,advs⟩) (show ¬(8 < (⟨cap,used,advs⟩:cF).used.length\/20 < (⟨cap,used,advs⟩:cF).bg.length) by simp only;omega) (show gG (⟨cap,used,advs⟩:cF).cap=true by simp only [gG,decide_eq_true_eq];omega) (Hl hx1 (by simp only [gS,decide_eq_false_iff_not];omega)));show aI _=aI _;rw [h]
   ·rfl
  have hc13':=hc13;try simp only [bu,bU] at hc13'
  refine aQ ?_
  obtain ⟨x2,hx2⟩:=ck (xs:=(jt used.length (advs.take q))) (i:=Int.toNat (x1.aO)) (by first|omega|(simp [dp];omega))
  have hx2v:=uw hx2
  have hgb:=qP used.length (x1.aO) (advs.take q) hi0_1
  have hgl:(advs.take q).length<=q:=List.length_take_le _ _
  rw [Int.toNat_of_nonneg (by omega)] at hx2v
  refine ba [1,3,31,32,33,5] [2,1,0] mixed rfl rfl ?_
  refine aE (kn:=[]) aa 3 rfl trivial ?_
  refine aU (n':=3) [78,80] [1] rfl rfl (.inl ⟨(ak.plain rfl),aM.cast (bA (i:=Int.toNat (x1.aO)) rfl rfl rfl Try.underlying30 fX (by first|omega|(simp;omega)|(simp [dp];omega)) (by first|omega|(simp;omega)|(simp [dp];omega))) rfl⟩) rfl ?_
  refine aU (n':=3) [81] [1] rfl rfl (.inl ⟨(ak.plain rfl),aM.cast (eU rfl rfl rfl Try.underlying3 rfl (bw hx2) rfl) rfl⟩) rfl ?_
  refine aE (kn:=[]) aa 2 rfl trivial ?_
  refine aU (n':=3) [82,84] [] rfl rfl (.inl ⟨(ak.plain rfl),aM.cast (aL rfl rfl rfl (aJ (by first|omega|(simp;omega)|(simp [dp];omega)))) rfl⟩) rfl ?_
  refine aU (n':=3) [78,80] [1] rfl rfl (.inl ⟨(ak.plain rfl),aM.cast (bA (i:=Int.toNat (x1.aO)) rfl rfl rfl Try.underlying30 fX (by first|omega|(simp;omega)|(simp [dp];omega)) (by first|omega|(simp;omega)|(simp [dp];omega))) rfl⟩) rfl ?_
  refine bC [2,1,0] rfl rfl rfl rfl (by kernel_rfl) ?_
  refine gI [2,1,0] (dU (ds:=[(dI (x2+x1.sum))]) rfl rfl rfl rfl rfl fX rfl (Nat.le_of_ble_eq_true rfl) (bw hx2) rfl (eZ (x':=x2+x1.sum) rfl)) rfl ?_
  refine bY ?_
  refine bh ?_
  refine then_ok ?_
  refine au ?_
  refine aA (aL rfl rfl rfl (aJ (by first|omega|(simp;omega)|(simp [dp];omega)))) rfl ?_
  refine ad aa 1 rfl ?_
  refine af ?_
  refine ⟨q+1,⟨by omega,zf hi0_1 hx1 (by simp only [gS,decide_eq_true_eq];omega)⟩,by first|omega|(simp;done)|(simp;omega),aF.bW id (by refine ⟨?_,?_,?_,?_,?_,trivial⟩<;>first|rfl|(simp only [bm];done)|(congr 3;omega)|(congr 4;omega)|(simp only [bn];rfl)) (by refine ⟨?_,?_,trivial⟩<;>first|rfl|(simp only [bm];done)|(congr 3;omega)|(congr 4;omega)|(simp only [bn];rfl)|((rw [ia hx1,<-AF (i:=Int.toNat x1.aO) (v:=x2+x1.sum) (by omega) (by omega) (by rw [hx2v])];rfl))) rfl⟩
 have hc5':=of_decide_eq_false hc5
 refine cj ?_
 refine aP ?_
 refine aP ?_
 refine bK ?_
 refine then_ok ?_
 refine ag ?_
 refine aH aa 2 rfl ?_
 refine aA (cM rfl rfl rfl rfl rfl Try.underlying30) rfl ?_
 refine ad aa 1 rfl ?_
 refine af ?_
 refine aX ?_
 have hta:advs.take q=advs:=List.take_of_length_le (by omega)
 have hall:advs.all (gS used.length)=true:=by rw [<-hta];exact hi0_1
 rw [hta]
 refine cw (β:=Nat) (fun (p:Nat)=>⟨[(1,(aC (.p 0 0 0 0))),(3,(aC (.s 1 0 1 used.length))),(31,(aC (iz advs))),(32,(aI (↑advs.length:Int))),(33,(aI (↑q:Int))),(89,(aC (fB used))),(90,(aI (↑used.length:Int))),(91,(aI (↑p:Int)))],[(1,(dP (jt used.length advs))),(0,(.box 41 [(cI cap),(fB used),(iz advs)]))],2⟩) (fun (p:Nat)=>p<=used.length/\fg cap advs 0 used=fg cap advs p (used.drop p)) (fun (p:Nat)=>used.length - p) 0 ?_ ?_ ?_
 ·exact ⟨by omega,rfl⟩
 ·exact aF.bW id (by refine ⟨?_,?_,?_,?_,?_,?_,?_,?_,trivial⟩<;>first|rfl|(simp only [bm];done)|(congr 3;omega)|(congr 4;omega)|(simp only [bn];rfl)) (by refine ⟨?_,?_,trivial⟩<;>first|rfl|(simp only [bm];done)|(congr 3;omega)|(congr 4;omega)|(simp only [bn];rfl)) rfl
 rintro p ⟨hi1_0,hi1_1⟩
 refine ae aa 1 rfl ?_
 refine ag ?_
 refine ah rfl (fun hc14=>?_) (fun hc14=>?_)
 ·
  have hc14':=of_decide_eq_true hc14
  refine aQ ?_
  refine ag ?_
  refine aX ?_
  refine aH aa 1 rfl ?_
  obtain ⟨x1,hx1⟩:=ck (xs:=used) (i:=p) (by first|omega|(simp [dp];omega))
  refine aA (cH (i:=p) rfl rfl rfl Try.underlying30 fX (by first|omega|(simp;omega)|(simp [dp];omega)) (bw hx1)) rfl ?_
  refine ad aa 3 rfl ?_
  refine af ?_
  refine aH aa 3 rfl ?_
  refine aA (bA (i:=p) rfl rfl rfl Try.underlying30 fX (by first|omega|(simp;omega)|(simp [dp];omega)) (by first|omega|(simp;omega)|(simp [dp];omega))) rfl ?_
  obtain ⟨x2,hx2⟩:=ck (xs:=(jt used.length advs)) (i:=p) (by first|omega|(simp [dp];omega))
  have hx2v:=uw hx2
  refine aA (eU rfl rfl rfl Try.underlying3 rfl (bw hx2) rfl) rfl ?_
  refine ad aa 2 rfl ?_
  refine bI (t:=102) rfl (fun hb15=>?_) (fun hb15=>?_)
  ·
   have hb15':=of_decide_eq_true hb15
   refine ad aa 5 rfl ?_
   refine af ?_
   refine ah rfl (fun _=>?_) (fun hno=>by cases hno)
   refine ae aa 1 rfl ?_
   refine az ?_
   refine bp ?_
   refine aq ?_
   refine aq ?_
   refine bp ?_
   refine aq ?_
   refine an aa [] 0 rfl rfl rfl rfl rfl rfl ?_ ?_
   ·(have h:=gL (s:=⟨cap,used,advs⟩) (show ¬(8 < (⟨cap,used,advs⟩:cF).used.length\/20 < (⟨cap,used,advs⟩:cF).bg.length) by simp only;omega) (show gG (⟨cap,used,advs⟩:cF).cap=true by simp only [gG,decide_eq_true_eq];omega) hall);show aI _=aI _;rw [h];show aI _=aI (fg cap advs 0 used);rw [hi1_1,rM hx1,fg,if_neg (by omega)]
   ·rfl
  have hb15':=of_decide_eq_false hb15
  refine ad aa 5 rfl ?_
  refine af ?_
  refine ah rfl (fun hc17=>?_) (fun hc17=>?_)
  ·
   have hc17':=of_decide_eq_true hc17
   refine ae aa 1 rfl ?_
   refine az ?_
   refine bp ?_
   refine aq ?_
   refine aq ?_
   refine bp ?_
   refine aq ?_
   refine an aa [] 0 rfl rfl rfl rfl rfl rfl ?_ ?_
   ·(have h:=gL (s:=⟨cap,used,advs⟩) (show ¬(8 < (⟨cap,used,advs⟩:cF).used.length\/20 < (⟨cap,used,advs⟩:cF).bg.length) by simp only;omega) (show gG (⟨cap,used,advs⟩:cF).cap=true by simp only [gG,decide_eq_true_eq];omega) hall);show aI _=aI _;rw [h];show aI _=aI (fg cap advs 0 used);rw [hi1_1,rM hx1,fg,if_neg (by omega)]
   ·rfl
  have hc17':=of_decide_eq_false hc17
  refine cZ ?_
  refine bh ?_
  refine then_ok ?_
  refine au ?_
  refine aA (aL rfl rfl rfl (aJ (by first|omega|(simp;omega)|(simp [dp];omega)))) rfl ?_
  refine ad aa 1 rfl ?_
  refine af ?_
  refine ⟨p+1,⟨by omega,by rw [hi1_1,rM hx1,fg,if_pos (by omega),Int.natCast_add];rfl⟩,by first|omega|(simp;done)|(simp;omega),aF.bW id (by refine ⟨?_,?_,?_,?_,?_,?_,?_,?_,trivial⟩<;>first|rfl|(simp only [bm];done)|(congr 3;omega)|(congr 4;omega)|(simp only [bn];rfl)) (by refine ⟨?_,?_,trivial⟩<;>first|rfl|(simp only [bm];done)|(congr 3;omega)|(congr 4;omega)|(simp only [bn];rfl)) rfl⟩
 have hc14':=of_decide_eq_false hc14
 refine cj ?_
 refine aP ?_
 refine aP ?_
 refine bK ?_
 refine then_ok ?_
 refine ae aa 1 rfl ?_
 refine az ?_
 refine an aa [] 0 rfl rfl rfl rfl rfl rfl ?_ ?_
 ·(have h:=gL (s:=⟨cap,used,advs⟩) (show ¬(8 < (⟨cap,used,advs⟩:cF).used.length\/20 < (⟨cap,used,advs⟩:cF).bg.length) by simp only;omega) (show gG (⟨cap,used,advs⟩:cF).cap=true by simp only [gG,decide_eq_true_eq];omega) hall);show aI _=aI _;rw [h];show aI _=aI (fg cap advs 0 used);rw [hi1_1,List.drop_of_length_le (by omega)];rfl
 ·rfl


theorem jx (s:cF) (e:Int) (hr:cb s=e):Fn Try.prog 30 [(.g [cI s.cap,cR 1 (s.used.map rI),cR 4 (s.bg.map iV)])] (.v (.c (cI e))) []:=hr▸vz s.cap s.used s.bg

theorem yf (limit aw:Int) (x:cF) (e:Int) (hr:dH limit aw=(x,e)):Fn Try.prog 41 [(.c (cI limit)),(.c (cI aw))] (.t [(.g [(cI x.cap),(.s 0 0 1 x.used.length),(.s 1 0 4 x.bg.length)]),(.c (cI e))]) [(0,(dP x.used)),(1,(Co x.bg))]:=by
 refine Fn.mk' 24 [(0,(aI limit)),(1,(aI aw))] Try.func41 rfl rfl rfl rfl ?_
 intro W0 T0
 refine ae aa 2 rfl ?_
 refine ag ?_
 refine cx 11 ((decide (aw < 0))||(decide (aw > 8))) ?_ ?_
 ·
  refine au ?_
  refine ad aa 3 rfl ?_
  refine bI (t:=8) rfl (fun hb1=>?_) (fun hb1=>?_)
  ·
   have hb1':=of_decide_eq_true hb1
   refine ad aa 3 rfl ?_
   refine af ?_
   exact aF.bH 7 rfl rfl (by first|(simp [hb1];done)|(simp_all;done)|(exfalso;simp_all;done)|(simp_all;omega)) rfl
  have hb1':=of_decide_eq_false hb1
  refine ad aa 3 rfl ?_
  refine af ?_
  exact aF.bH 7 rfl rfl (by first|(simp [hb1];done)|(simp_all;done)|(exfalso;simp_all;done)|(simp_all;omega)) rfl
 refine ah rfl (fun hc2=>?_) (fun hc2=>?_)
 ·
  have hc2':=hc2;try simp only [bu,bU] at hc2'
  refine ae aa 3 rfl ?_
  refine az ?_
  refine aq ?_
  refine cp 0 1 3 1 rfl rfl rfl ?_
  refine cp 0 2 107 4 rfl rfl rfl ?_
  have hX:dH limit aw=((⟨0,([]:List Int),([]:List cm)⟩:cF),5):=by
    exact vu (by omega)
  rw [hX] at hr;clear hX
  simp only [Prod.mk.injEq] at hr;obtain ⟨rfl,rfl⟩:=hr
  refine an aa [1,2,0] 2 rfl rfl rfl rfl rfl rfl ?_ ?_
  all_goals first|rfl|(simp [ay];done)|(simp [ay];omega)
 have hc2':=hc2;try simp only [bu,bU] at hc2'
 refine aQ ?_
 refine ag ?_
 refine cx 18 ((decide (limit < 0))||(decide (limit > 1000000))) ?_ ?_
 ·
  refine au ?_
  refine ad aa 3 rfl ?_
  refine bI (t:=15) rfl (fun hb3=>?_) (fun hb3=>?_)
  ·
   have hb3':=of_decide_eq_true hb3
   refine ad aa 3 rfl ?_
   refine af ?_
   exact aF.bH 7 rfl rfl (by first|(simp [hb3];done)|(simp_all;done)|(exfalso;simp_all;done)|(simp_all;omega)) rfl
  have hb3':=of_decide_eq_false hb3
  refine ad aa 3 rfl ?_
  refine af ?_
  exact aF.bH 7 rfl rfl (by first|(simp [hb3];done)|(simp_all;done)|(exfalso;simp_all;done)|(simp_all;omega)) rfl
 refine ah rfl (fun hc4=>?_) (fun hc4=>?_)
 ·
  have hc4':=hc4;try simp only [bu,bU] at hc4'
  refine ae aa 3 rfl ?_
  refine az ?_
  refine aq ?_
  refine cp 0 1 3 1 rfl rfl rfl ?_
  refine cp 0 2 107 4 rfl rfl rfl ?_
  have hX:dH limit aw=((⟨0,([]:List Int),([]:List cm)⟩:cF),3):=by
    exact tQ (by omega) (by first|omega|(simp_all [bu];done)|(simp_all [bu];omega))
  rw [hX] at hr;clear hX
  simp only [Prod.mk.injEq] at hr;obtain ⟨rfl,rfl⟩:=hr
  refine an aa [1,2,0] 2 rfl rfl rfl rfl rfl rfl ?_ ?_
  all_goals first|rfl|(simp [ay];done)|(simp [ay];omega)
 have hc4':=hc4;try simp only [bu,bU] at hc4'
 refine aQ ?_
 refine aH aa 2 rfl ?_
 refine aN 2 [1,0] (qm 1 nh Ep rfl rfl rfl (n:=Int.toNat (aw)) (by first|omega|(simp;done)|(simp;omega)) (by first|omega|(simp;done)|(simp;omega)) (by first|omega|(simp;done)|(simp;omega)) (by first|omega|(simp;done)|(simp;omega))) rfl ?_
 refine ad aa 3 rfl ?_
 refine af ?_
 refine az ?_
 refine cp 0 2 107 4 rfl rfl rfl ?_
 have hX:dH limit aw=((⟨limit,List.replicate (Int.toNat (aw)) 0,([]:List cm)⟩:cF),0):=by
   unfold dH;rw [if_neg (by omega),if_neg (by simp only [gG,decide_eq_true_eq];first|omega|(simp_all [bu];done)|(simp_all [bu];omega))]
 rw [hX] at hr;clear hX
 simp only [Prod.mk.injEq] at hr;obtain ⟨rfl,rfl⟩:=hr
 refine an aa [1,2,0] 2 rfl rfl rfl rfl rfl rfl ?_ ?_
 all_goals first|rfl|(simp [ay];done)|(simp [ay];omega)
theorem vA (s:cF) (x:cF) (l:List cm) (e:Int) (hr:da s=(x,l,e)):Fn Try.prog 90 [(.g [(cI s.cap),(fB s.used),(iz s.bg)])] (.t [(.g [(cI x.cap),(.s 0 0 1 x.used.length),(.s 1 0 4 x.bg.length)]),(.c (.s 2 0 4 l.length)),(.c (cI e))]) [(0,(dP x.used)),(1,(Co x.bg)),(2,(Co l))]:=by
 refine Fn.mk' 22 [(0,(aG [(cI s.cap),(fB s.used),(iz s.bg)]))] Try.func90 rfl rfl rfl rfl ?_
 intro W0 T0
 refine fE 0 1 rfl rfl (fun hlen0_1=>?_)
 refine fE 0 2 rfl rfl (fun hlen0_2=>?_)
 have hrp:=@ig s
 refine ae aa 4 rfl ?_
 refine ag ?_
 refine aH aa 1 rfl ?_
 obtain ⟨e0,hr0⟩:∃ (e0:Int),cb s=e0:=⟨_,rfl⟩
 refine aN 2 [1,0] (bQ 2 (jx s e0 hr0) zY rfl rfl ⟨⟨_,rfl,.g ⟨.d _,.d _,.d _,trivial⟩⟩,trivial⟩ trivial trivial rfl rfl rfl rfl) rfl ?_
 refine ad aa 1 rfl ?_
 refine af ?_
 refine ae aa 2 rfl ?_
 refine ah rfl (fun hc1=>?_) (fun hc1=>?_)
 ·
  have hc1':=of_decide_eq_true hc1
  refine ae aa 5 rfl ?_
  refine az ?_
  refine aq ?_
  refine cp 1 1 3 1 rfl rfl rfl ?_
  refine cp 1 2 107 4 rfl rfl rfl ?_
  refine cT (aF.nil 3 107 4 (by decide) rfl) ?_
  have hX:da s=((⟨0,([]:List Int),([]:List cm)⟩:cF),([]:List cm),e0):=by
    unfold da;rw [if_pos (by omega),hr0];rfl
  rw [hX] at hr;clear hX
  simp only [Prod.mk.injEq] at hr;obtain ⟨rfl,rfl,rfl⟩:=hr
  refine an aa [2,3,4,1] 3 rfl rfl rfl rfl rfl rfl ?_ ?_
  all_goals first|rfl|(simp [ay];done)|(simp [ay];omega)
 have hc1':=of_decide_eq_false hc1
 refine aQ ?_
 refine ag ?_
 refine ba [1,2] [1,0] mixed rfl rfl ?_
 refine aE (kn:=[]) aa 4 rfl trivial ?_
 refine aU (n':=2) [15] [] rfl rfl (.inl ⟨(ak.plain rfl),aM.cast (cM rfl rfl rfl rfl rfl Try.underlying30) rfl⟩) rfl ?_
 refine aU (n':=3) [16] [] rfl rfl (.inl ⟨(ak.plain rfl),aM.cast (qm 2 nh Ep rfl rfl rfl (n:=s.used.length) (by first|omega|(simp;done)|(simp;omega)) (by first|omega|(simp;done)|(simp;omega)) (by first|omega|(simp;done)|(simp;omega)) (by first|omega|(simp;done)|(simp;omega))) rfl⟩) rfl ?_
 refine aE (kn:=[]) aa 3 rfl trivial ?_
 refine aU (n':=4) [20] [] rfl rfl (.inl ⟨(ak.plain rfl),aM.cast (bQ 3 (nI s.bg (by first|omega|(simp;done)|(simp;omega))) GC rfl rfl ⟨⟨_,rfl,.c (.d _)⟩,trivial⟩ trivial ⟨(fun _ _ _ _=>trivial),trivial⟩ rfl rfl rfl rfl) rfl⟩) rfl ?_
 refine bC [3,2,1,0] rfl rfl rfl rfl (by kernel_rfl) ?_
 refine ad aa 3 rfl ?_
 refine af ?_
 refine az ?_
 refine cp 1 2 107 4 rfl rfl rfl ?_
 have hX:da s=((⟨s.cap,List.replicate s.used.length 0,([]:List cm)⟩:cF),s.bg,0):=by
   unfold da;rw [if_neg (by omega)]
 rw [hX] at hr;clear hX
 simp only [Prod.mk.injEq] at hr;obtain ⟨rfl,rfl,rfl⟩:=hr
 refine an aa [2,4,3,1] 3 rfl rfl rfl rfl rfl rfl ?_ ?_
 all_goals first|rfl|(simp [ay];done)|(simp [ay];omega)

theorem xm (s:cF) (a:cm) (x:cF) (e:Int) (hr:cu s a=(x,e)):Fn Try.prog 78 [(.g [(cI s.cap),(fB s.used),(iz s.bg)]),(.g [(cI a.aO),(cI a.aD),(cI a.sum),(cI a.time)])] (.t [(.g [(cI x.cap),(.s 0 0 1 x.used.length),(.s 1 0 4 x.bg.length)]),(.c (cI e))]) [(0,(dP x.used)),(1,(Co x.bg))]:=by
 refine Fn.mk' 74 [(0,(aG [(cI s.cap),(fB s.used),(iz s.bg)])),(1,(aG [(cI a.aO),(cI a.aD),(cI a.sum),(cI a.time)]))] Try.func78 rfl rfl rfl rfl ?_
 intro W0 T0
 refine fE 0 1 rfl rfl (fun hlen0_1=>?_)
 refine fE 0 2 rfl rfl (fun hlen0_2=>?_)
 have hub:=@sa s
 have hrp:=@ig s
 refine ae aa 4 rfl ?_
 refine ag ?_
 refine aH aa 1 rfl ?_
 obtain ⟨e0,hr0⟩:∃ (e0:Int),cb s=e0:=⟨_,rfl⟩
 refine aN 3 [2,1,0] (bQ 3 (jx s e0 hr0) zY rfl rfl ⟨⟨_,rfl,.g ⟨.d _,.d _,.d _,trivial⟩⟩,trivial⟩ trivial trivial rfl rfl rfl rfl) rfl ?_
 refine ad aa 1 rfl ?_
 refine af ?_
 refine ae aa 2 rfl ?_
 refine ah rfl (fun hc1=>?_) (fun hc1=>?_)
 ·
  have hc1':=of_decide_eq_true hc1
  refine ae aa 4 rfl ?_
  refine az ?_
  refine aq ?_
  refine cp 2 1 3 1 rfl rfl rfl ?_
  refine cp 2 2 107 4 rfl rfl rfl ?_
  have hX:cu s a=((⟨0,([]:List Int),([]:List cm)⟩:cF),e0):=by
    rw [zO (by omega),hr0];rfl
  rw [hX] at hr;clear hX
  simp only [Prod.mk.injEq] at hr;obtain ⟨rfl,rfl⟩:=hr
  refine an aa [3,4,2] 2 rfl rfl rfl rfl rfl rfl ?_ ?_
  all_goals first|rfl|(simp [ay];done)|(simp [ay];omega)
 have hc1':=of_decide_eq_false hc1
 refine aQ ?_
 refine ag ?_
 refine aH aa 2 rfl ?_
 refine aA (cM rfl rfl rfl rfl rfl Try.underlying39) rfl ?_
 refine ad aa 1 rfl ?_
 refine af ?_
 refine ah rfl (fun hc2=>?_) (fun hc2=>?_)
 ·
  have hc2':=of_decide_eq_true hc2
  refine ae aa 3 rfl ?_
  refine az ?_
  refine aq ?_
  refine cp 2 1 3 1 rfl rfl rfl ?_
  refine cp 2 2 107 4 rfl rfl rfl ?_
  have hX:cu s a=((⟨0,([]:List Int),([]:List cm)⟩:cF),5):=by
    exact uY (by omega) (by omega)
  rw [hX] at hr;clear hX
  simp only [Prod.mk.injEq] at hr;obtain ⟨rfl,rfl⟩:=hr
  refine an aa [3,4,2] 2 rfl rfl rfl rfl rfl rfl ?_ ?_
  all_goals first|rfl|(simp [ay];done)|(simp [ay];omega)
 have hc2':=of_decide_eq_false hc2
 refine aQ ?_
 refine ag ?_
 refine ba [2,3,4] [2,1,0] mixed rfl rfl ?_
 refine aE (kn:=[]) aa 4 rfl trivial ?_
 refine aU (n':=4) [23] [] rfl rfl (.inl ⟨(ak.plain rfl),aM.cast (bQ 3 (qW s.used (by first|omega|(simp;done)|(simp;omega))) GD rfl rfl ⟨⟨_,rfl,.c (.d _)⟩,trivial⟩ trivial ⟨(fun _ _ _ _=>trivial),trivial⟩ rfl rfl rfl rfl) rfl⟩) rfl ?_
 refine aE (kn:=[]) aa 2 rfl trivial ?_
 refine aU (n':=5) [26] [] rfl rfl (.inl ⟨(ak.plain rfl),aM.cast (bQ 4 (nI s.bg (by first|omega|(simp;done)|(simp;omega))) GC rfl rfl ⟨⟨_,rfl,.c (.d _)⟩,trivial⟩ trivial ⟨(fun _ _ _ _=>trivial),trivial⟩ rfl rfl rfl rfl) rfl⟩) rfl ?_
 refine aE (kn:=[]) aa 1 rfl trivial ?_
 refine aU (n':=6) [28] [] rfl rfl (.inl ⟨(ak.plain rfl),aM.cast (dy (ys:=[(0,(.g [(cI a.aO),(cI a.aD),(cI a.sum),(cI a.time)]))]) (rows:=([a]).map iV) 5 zq rfl (by decide) ⟨⟨rfl,rfl⟩,trivial⟩ rfl rfl rfl rfl) rfl⟩) rfl ?_
 refine aU (n':=7) [27,29] [5,4] rfl rfl (.inl ⟨(ak.plain rfl),aM.cast (cX (m:=1) (N:=s.bg.length+1) (k2:=6) (ys:=([a]).map iV) zq rfl rfl rfl rfl rfl rfl (by first|omega|(simp;done)|(simp;omega)) rfl (.s rfl (by first|omega|(simp;done)|(simp;omega))) (by first|omega|(simp;done)|(simp;omega)) (by first|omega|(simp;done)|(simp;omega)) eH (by decide) (by first|omega|(simp;done)|(simp;omega)) (by first|omega|(simp;done)|(simp;omega))) rfl⟩) rfl ?_
 refine aE (n':=8) (kn:=[]) aa 2 rfl trivial ?_
 refine bC [7,6,3,2,1,0] rfl rfl rfl rfl (by kernel_rfl) ?_
 refine ad aa 1 rfl ?_
 refine af ?_
 refine ag ?_
 refine cx 52 ((((decide (a.aO>=0)) && (decide (a.aO < (↑s.used.length:Int)))) && (decide (a.sum>=1))) && (decide (a.sum<=1000000))) ?_ ?_
 ·
  refine au ?_
  refine ad aa 4 rfl ?_
  refine bI (t:=35) rfl (fun hb3=>?_) (fun hb3=>?_)
  ·
   have hb3':=of_decide_eq_true hb3
   refine ad aa 4 rfl ?_
   refine dQ (ak.yes rfl rfl rfl) (dz rfl rfl rfl rfl rfl Try.underlying30) rfl rfl ?_
   refine ad aa 3 rfl ?_
   refine bI (t:=43) rfl (fun hb4=>?_) (fun hb4=>?_)
   ·
    have hb4':=of_decide_eq_true hb4
    refine ad aa 5 rfl ?_
    refine bI (t:=48) rfl (fun hb5=>?_) (fun hb5=>?_)
    ·
     have hb5':=of_decide_eq_true hb5
     refine ad aa 4 rfl ?_
     refine af ?_
     exact aF.bH 24 rfl rfl (by first|(simp [hb3,hb4,hb5];done)|(simp_all;done)|(exfalso;simp_all;done)|(simp_all;omega)) rfl
    have hb5':=of_decide_eq_false hb5
    refine ad aa 4 rfl ?_
    refine af ?_
    exact aF.bH 24 rfl rfl (by first|(simp [hb3,hb4,hb5];done)|(simp_all;done)|(exfalso;simp_all;done)|(simp_all;omega)) rfl
   have hb4':=of_decide_eq_false hb4
   refine ad aa 9 rfl ?_
   refine af ?_
   exact aF.bH 23 rfl rfl (by first|(simp [hb3,hb4];done)|(simp_all;done)|(exfalso;simp_all;done)|(simp_all;omega)) rfl
  have hb3':=of_decide_eq_false hb3
  refine ad aa 17 rfl ?_
  refine af ?_
  exact aF.bH 22 rfl rfl (by first|(simp [hb3];done)|(simp_all;done)|(exfalso;simp_all;done)|(simp_all;omega)) rfl
 refine ah rfl (fun hc6=>?_) (fun hc6=>?_)
 ·
  have hc6':=hc6;try simp only [bu,bU] at hc6'
  obtain ⟨x1,hx1⟩:=ck (xs:=s.used) (i:=Int.toNat (a.aO)) (by first|omega|(simp;done)|(simp;omega))
  have hx1b:=sa (s:=s) (by omega) hx1
  refine ba [3,4,7] [7,6,3,2,1] mixed rfl rfl ?_
  refine aE (kn:=[]) aa 4 rfl trivial ?_
  refine aU (n':=8) [54,56] [3] rfl rfl (.inl ⟨(ak.plain rfl),aM.cast (bA (i:=Int.toNat (a.aO)) rfl rfl rfl Try.underlying30 fX (by first|omega|(simp;done)|(simp;omega)) (by first|omega|(simp;done)|(simp;omega))) rfl⟩) rfl ?_
  refine aU (n':=8) [57] [3] rfl rfl (.inl ⟨(ak.plain rfl),aM.cast (eU rfl rfl rfl Try.underlying3 rfl (bw hx1) rfl) rfl⟩) rfl ?_
  refine aE (kn:=[]) aa 2 rfl trivial ?_
  refine aU (n':=8) [58,60] [] rfl rfl (.inl ⟨(ak.plain rfl),aM.cast (aL rfl rfl rfl (aJ (by first|omega|(simp;done)|(simp;omega)))) rfl⟩) rfl ?_
  refine aU (n':=8) [54,56] [3] rfl rfl (.inl ⟨(ak.plain rfl),aM.cast (bA (i:=Int.toNat (a.aO)) rfl rfl rfl Try.underlying30 fX (by first|omega|(simp;done)|(simp;omega)) (by first|omega|(simp;done)|(simp;omega))) rfl⟩) rfl ?_
  refine bC [7,6,3,2,1] rfl rfl rfl rfl (by kernel_rfl) ?_
  refine gI [7,6,3,2,1] (dU (ds:=[(dI (x1+a.sum))]) rfl rfl rfl rfl rfl fX rfl (Nat.le_of_ble_eq_true rfl) (bw hx1) rfl (eZ (x':=x1+a.sum) rfl)) rfl ?_
  refine af ?_
  refine aH aa 1 rfl ?_
  obtain ⟨e1,hr1⟩:∃ (e1:Int),cb (⟨s.cap,(s.used).set (Int.toNat (a.aO)) (x1+a.sum),s.bg++([a])⟩:cF)=e1:=⟨_,rfl⟩
  refine aN 8 [7,6,3,2,1] (ff 8 [3,6] (jx (⟨s.cap,(s.used).set (Int.toNat (a.aO)) (x1+a.sum),s.bg++([a])⟩:cF) e1 hr1) zY rfl rfl ⟨⟨_,rfl,.g ⟨.d _,.s rfl (by decide) (by first|omega|(simp;done)|(simp;omega)),.s rfl (by decide) (by first|omega|(simp;done)|(simp;omega)),trivial⟩⟩,trivial⟩ rfl trivial rfl rfl rfl rfl) rfl ?_
  refine ad aa 1 rfl ?_
  refine af ?_
  refine ae aa 1 rfl ?_
  refine aX ?_
  refine ae aa 2 rfl ?_
  refine ah rfl (fun hc7=>?_) (fun hc7=>?_)
  ·
   have hc7':=of_decide_eq_true hc7
   refine ae aa 3 rfl ?_
   refine az ?_
   refine bp ?_
   have hX:cu s a=((⟨s.cap,(s.used).set (Int.toNat (a.aO)) (x1+a.sum),s.bg++([a])⟩:cF),0):=by
     have hx:s.used.getD a.aO.toNat 0=x1:=by rw [List.getD_eq_getElem?_getD,hx1];rfl
     have hg:=lW (a:=a) (show cb s=0 by omega) (show s.bg.length < 20 by omega)
     rw [hx,hr1] at hg
     rcases hg with ⟨p1,p2⟩|⟨p1,p2⟩|⟨p1,p2⟩<;>first|(exfalso;omega)|exact p2|(subst p1;exact p2)
   rw [hX] at hr;clear hX
   simp only [Prod.mk.injEq] at hr;obtain ⟨rfl,rfl⟩:=hr
   refine an aa [3,6,2] 2 rfl rfl rfl rfl rfl rfl ?_ ?_
   all_goals first|rfl|(simp [ay];done)|(simp [ay];omega)
  have hc7':=of_decide_eq_false hc7
  refine ae aa 2 rfl ?_
  refine ah rfl (fun hc8=>?_) (fun hc8=>?_)
  ·
   have hc8':=of_decide_eq_true hc8
   refine ae aa 3 rfl ?_
   refine az ?_
   refine bp ?_
   refine cp 2 1 3 1 rfl rfl rfl ?_
   refine cp 2 2 107 4 rfl rfl rfl ?_
   have hX:cu s a=((⟨0,([]:List Int),([]:List cm)⟩:cF),10):=by
     have hx:s.used.getD a.aO.toNat 0=x1:=by rw [List.getD_eq_getElem?_getD,hx1];rfl
     have hg:=lW (a:=a) (show cb s=0 by omega) (show s.bg.length < 20 by omega)
     rw [hx,hr1] at hg
     rcases hg with ⟨p1,p2⟩|⟨p1,p2⟩|⟨p1,p2⟩<;>first|(exfalso;omega)|exact p2|(subst p1;exact p2)
   rw [hX] at hr;clear hX
   simp only [Prod.mk.injEq] at hr;obtain ⟨rfl,rfl⟩:=hr
   refine an aa [8,9,2] 2 rfl rfl rfl rfl rfl rfl ?_ ?_
   all_goals first|rfl|(simp [ay];done)|(simp [ay];omega)
  have hc8':=of_decide_eq_false hc8
  refine ae aa 4 rfl ?_
  refine az ?_
  refine bp ?_
  refine cp 2 1 3 1 rfl rfl rfl ?_
  refine cp 2 2 107 4 rfl rfl rfl ?_
  have hX:cu s a=((⟨0,([]:List Int),([]:List cm)⟩:cF),e1):=by
    have hx:s.used.getD a.aO.toNat 0=x1:=by rw [List.getD_eq_getElem?_getD,hx1];rfl
    have hg:=lW (a:=a) (show cb s=0 by omega) (show s.bg.length < 20 by omega)
    rw [hx,hr1] at hg
    rcases hg with ⟨p1,p2⟩|⟨p1,p2⟩|⟨p1,p2⟩<;>first|(exfalso;omega)|exact p2|(subst p1;exact p2)
  rw [hX] at hr;clear hX
  simp only [Prod.mk.injEq] at hr;obtain ⟨rfl,rfl⟩:=hr
  refine an aa [8,9,2] 2 rfl rfl rfl rfl rfl rfl ?_ ?_
  all_goals first|rfl|(simp [ay];done)|(simp [ay];omega)
 have hc6':=hc6;try simp only [bu,bU] at hc6'
 refine aQ ?_
 refine aH aa 1 rfl ?_
 obtain ⟨e2,hr2⟩:∃ (e2:Int),cb (⟨s.cap,s.used,s.bg++([a])⟩:cF)=e2:=⟨_,rfl⟩
 refine aN 8 [7,6,3,2,1,0] (ff 8 [3,6] (jx (⟨s.cap,s.used,s.bg++([a])⟩:cF) e2 hr2) zY rfl rfl ⟨⟨_,rfl,.g ⟨.d _,.s rfl (by decide) (by first|omega|(simp;done)|(simp;omega)),.s rfl (by decide) (by first|omega|(simp;done)|(simp;omega)),trivial⟩⟩,trivial⟩ rfl trivial rfl rfl rfl rfl) rfl ?_
 refine ad aa 1 rfl ?_
 refine af ?_
 refine ae aa 1 rfl ?_
 refine aX ?_
 refine ae aa 2 rfl ?_
 refine ah rfl (fun hc9=>?_) (fun hc9=>?_)
 ·
  have hc9':=of_decide_eq_true hc9
  refine ae aa 3 rfl ?_
  refine az ?_
  refine bp ?_
  have hX:cu s a=((⟨s.cap,s.used,s.bg++([a])⟩:cF),0):=by
    have hg:=rD (a:=a) (show cb s=0 by omega) (show s.bg.length < 20 by omega) (by omega)
    rw [hr2] at hg
    obtain ⟨p1,p2⟩:=hg
    first|(exfalso;omega)|(subst p1;exact p2)
  rw [hX] at hr;clear hX
  simp only [Prod.mk.injEq] at hr;obtain ⟨rfl,rfl⟩:=hr
  refine an aa [3,6,2] 2 rfl rfl rfl rfl rfl rfl ?_ ?_
  all_goals first|rfl|(simp [ay];done)|(simp [ay];omega)
 have hc9':=of_decide_eq_false hc9
 refine ae aa 2 rfl ?_
 refine ah rfl (fun hc10=>?_) (fun hc10=>?_)
 ·
  have hc10':=of_decide_eq_true hc10
  refine ae aa 3 rfl ?_
  refine az ?_
  refine bp ?_
  refine cp 2 1 3 1 rfl rfl rfl ?_
  refine cp 2 2 107 4 rfl rfl rfl ?_
  have hX:cu s a=((⟨0,([]:List Int),([]:List cm)⟩:cF),10):=by
    have hg:=rD (a:=a) (show cb s=0 by omega) (show s.bg.length < 20 by omega) (by omega)
    rw [hr2] at hg
    obtain ⟨p1,p2⟩:=hg
    first|(exfalso;omega)|(subst p1;exact p2)
  rw [hX] at hr;clear hX
  simp only [Prod.mk.injEq] at hr;obtain ⟨rfl,rfl⟩:=hr
  refine an aa [8,9,2] 2 rfl rfl rfl rfl rfl rfl ?_ ?_
  all_goals first|rfl|(simp [ay];done)|(simp [ay];omega)
 have hc10':=of_decide_eq_false hc10
 refine ae aa 4 rfl ?_
 refine az ?_
 refine bp ?_
 refine cp 2 1 3 1 rfl rfl rfl ?_
 refine cp 2 2 107 4 rfl rfl rfl ?_
 have hX:cu s a=((⟨0,([]:List Int),([]:List cm)⟩:cF),e2):=by
   have hg:=rD (a:=a) (show cb s=0 by omega) (show s.bg.length < 20 by omega) (by omega)
   rw [hr2] at hg
   obtain ⟨p1,p2⟩:=hg
   first|(exfalso;omega)|(subst p1;exact p2)
 rw [hX] at hr;clear hX
 simp only [Prod.mk.injEq] at hr;obtain ⟨rfl,rfl⟩:=hr
 refine an aa [8,9,2] 2 rfl rfl rfl rfl rfl rfl ?_ ?_
 all_goals first|rfl|(simp [ay];done)|(simp [ay];omega)


def fq:List Int->Int
  |[]=>0
  |x::l=>if x=0 then fq l else x
def ik (a b:aj):Int:=fq [ey a.aD b.aD,ey a.bc b.bc]
theorem BM {l:List Int} {i:Nat} {x:Int} (hx:l[i]?=some x) (h:x=0):fq (l.drop i)=fq (l.drop (i+1)):=by
  obtain ⟨hi,rfl⟩:=List.getElem?_eq_some_iff.1 hx
  rw [List.drop_eq_getElem_cons hi,fq,if_pos h]
theorem vc {l:List Int} {i:Nat} {x:Int} (hx:l[i]?=some x) (h:¬x=0):fq (l.drop i)=x:=by
  obtain ⟨hi,rfl⟩:=List.getElem?_eq_some_iff.1 hx
  rw [List.drop_eq_getElem_cons hi,fq,if_neg h]
theorem kN {a b:aj}:ik a b < 0↔gP a b=true:=by
  rw [qj]
  have h1:=rO (a:=a.aD) (b:=b.aD)
  have h2:=pO (a:=a.aD) (b:=b.aD)
  have h3:=rO (a:=a.bc) (b:=b.bc)
  have h4:=pO (a:=a.bc) (b:=b.bc)
  unfold ik fq fq fq
  split
  ·split<;>omega
  ·omega
theorem kO {a b:aj} (h:¬ik a b < 0):gP a b=false:=by
  cases hb:gP a b with
  |false=>rfl
  |true=>exact absurd (kN.2 hb) h
theorem cz {l:List (Nat×AV)} {t:Nat} {x y:Int} {ρ:Nat->Nat} (h:look l t=some (aI x)) (e:x=y):look l t=some (AV.map ρ (aI y)):=by subst e;exact h

theorem Jy (l:List Int) (r:Int) (hr:fq l=r):Fn Try.prog 59 [(.c (fB l))] (.v (.c (cI r))) []:=by
 refine Fn.mk' 18 [(0,(aC (fB l)))] Try.func59 rfl rfl rfl rfl ?_
 intro W0 T0
 refine dr 0 rfl (fun hlen0=>?_)
 refine ae aa 1 rfl ?_
 refine ae aa 1 rfl ?_
 refine ag ?_
 refine aH aa 1 rfl ?_
 refine aA (cM rfl rfl rfl rfl rfl Try.underlying30) rfl ?_
 refine ad aa 1 rfl ?_
 refine af ?_
 refine aX ?_
 refine cw (β:=Nat) (fun (i:Nat)=>⟨[(3,(aI 0)),(6,(aC (fB l))),(7,(aI (↑l.length:Int))),(8,(aI (↑i:Int)))],[],0⟩) (fun (i:Nat)=>i<=l.length/\fq (l.drop i)=fq l) (fun (i:Nat)=>l.length - i) 0 ?_ ?_ ?_
 ·exact ⟨by omega,rfl⟩
 ·exact aF.bW id (by refine ⟨?_,?_,?_,?_,trivial⟩<;>first|rfl|(simp only [bm];done)|(congr 3;omega)|(congr 4;omega)|(simp only [bn];rfl)) (trivial) rfl
 rintro i ⟨hi0_0,hi0_1⟩
 refine ae aa 1 rfl ?_
 refine ag ?_
 refine ah rfl (fun hc1=>?_) (fun hc1=>?_)
 ·
  have hc1':=of_decide_eq_true hc1
  refine aQ ?_
  refine ag ?_
  refine aX ?_
  refine eB ?_
  obtain ⟨x1,hx1⟩:=ck (xs:=l) (i:=i) (by first|omega|(simp;done)|(simp;omega))
  refine aA (cH (i:=i) rfl rfl rfl Try.underlying30 fX (by first|omega|(simp;done)|(simp;omega)) (bw hx1)) rfl ?_
  refine ad aa 2 rfl ?_
  refine af ?_
  refine ae aa 3 rfl ?_
  refine ah rfl (fun hc2=>?_) (fun hc2=>?_)
  ·
   have hc2':=of_decide_eq_true hc2
   refine ae aa 2 rfl ?_
   refine az ?_
   refine bp ?_
   refine aq ?_
   refine aq ?_
   refine bp ?_
   refine aq ?_
   have hX:fq l=x1:=by
     rw [<-hi0_1];first|exact vc hx1 (by omega)|(rw [List.drop_of_length_le (by omega)];rfl)
   rw [hX] at hr;clear hX
   subst hr
   refine an aa [] 0 rfl rfl rfl rfl rfl rfl ?_ ?_
   all_goals first|rfl|(simp [ay];done)|(simp [ay];omega)
  have hc2':=of_decide_eq_false hc2
  refine cZ ?_
  refine bh ?_
  refine then_ok ?_
  refine au ?_
  refine aA (aL rfl rfl rfl (aJ (by first|omega|(simp;done)|(simp;omega)))) rfl ?_
  refine ad aa 1 rfl ?_
  refine af ?_
  refine ⟨i+1,⟨by omega,by rw [<-BM hx1 (by omega)];exact hi0_1⟩,by first|omega|(simp;done)|(simp;omega),aF.bW id (by refine ⟨?_,?_,?_,?_,trivial⟩<;>first|rfl|(simp only [bm];done)|(congr 3;omega)|(congr 4;omega)|(simp only [bn];rfl)) (trivial) rfl⟩
 have hc1':=of_decide_eq_false hc1
 refine cj ?_
 refine aP ?_
 refine aP ?_
 refine bK ?_
 refine then_ok ?_
 refine ae aa 2 rfl ?_
 refine az ?_
 have hX:fq l=0:=by
   rw [<-hi0_1];first|exact vc hx1 (by omega)|(rw [List.drop_of_length_le (by omega)];rfl)
 rw [hX] at hr;clear hX
 subst hr
 refine an aa [] 0 rfl rfl rfl rfl rfl rfl ?_ ?_
 all_goals first|rfl|(simp [ay];done)|(simp [ay];omega)
theorem uc (x y:aj):Fn Try.prog 53 [(.g [(cI x.aD),(cI x.bc),(cI x.kind),(cI x.sum)]),(.g [(cI y.aD),(cI y.bc),(cI y.kind),(cI y.sum)])] (aI (ik x y)) []:=by
 refine Fn.mk' 17 [(0,(aG [(cI x.aD),(cI x.bc),(cI x.kind),(cI x.sum)])),(1,(aG [(cI y.aD),(cI y.bc),(cI y.kind),(cI y.sum)]))] Try.func53 rfl rfl rfl rfl ?_
 intro W0 T0
 refine ae aa 3 rfl ?_
 refine ag ?_
 have hr0:ey x.aD y.aD=ey x.aD y.aD:=rfl
 have hr1:ey x.bc y.bc=ey x.bc y.bc:=rfl
 have hr2:fq ([ey x.aD y.aD,ey x.bc y.bc])=fq ([ey x.aD y.aD,ey x.bc y.bc]):=rfl
 refine ba [2,3] [1,0] mixed rfl rfl ?_
 refine aE (kn:=[]) aa 4 rfl trivial ?_
 refine aU (n':=2) [6,8] [] rfl rfl (.inl ⟨(ak.plain rfl),aM.cast (bQ 2 (pU x.aD y.aD (ey x.aD y.aD) hr0) Dz rfl rfl ⟨⟨_,rfl,.c (.d _)⟩,⟨_,rfl,.c (.d _)⟩,trivial⟩ trivial trivial rfl rfl rfl rfl) rfl⟩) rfl ?_
 refine aE (kn:=[]) aa 4 rfl trivial ?_
 refine aU (n':=2) [11,13] [] rfl rfl (.inl ⟨(ak.plain rfl),aM.cast (bQ 2 (pU x.bc y.bc (ey x.bc y.bc) hr1) Dz rfl rfl ⟨⟨_,rfl,.c (.d _)⟩,⟨_,rfl,.c (.d _)⟩,trivial⟩ trivial trivial rfl rfl rfl rfl) rfl⟩) rfl ?_
 refine aU (n':=3) [9,14] [] rfl rfl (.inl ⟨(ak.plain rfl),aM.cast (dy (ys:=[(0,(.c (cI (ey x.aD y.aD)))),(1,(.c (cI (ey x.bc y.bc))))]) (rows:=([ey x.aD y.aD,ey x.bc y.bc]).map rI) 2 nh rfl (by decide) ⟨⟨rfl,rfl⟩,⟨rfl,rfl⟩,trivial⟩ rfl rfl rfl rfl) rfl⟩) rfl ?_
 refine aU (n':=3) [15] [2] rfl rfl (.inl ⟨(ak.plain rfl),aM.cast (ff 3 [2] (Jy ([ey x.aD y.aD,ey x.bc y.bc]) (fq ([ey x.aD y.aD,ey x.bc y.bc])) hr2) Jh rfl rfl ⟨⟨_,rfl,.c (.s rfl (by decide) (by first|omega|(simp;done)|(simp;omega)))⟩,trivial⟩ rfl trivial rfl rfl rfl rfl) rfl⟩) rfl ?_
 refine aE (kn:=[]) aa 1 rfl trivial ?_
 refine bC [1,0] rfl rfl rfl rfl (by kernel_rfl) ?_
 refine af ?_
 refine az ?_
 refine an aa [] 0 rfl rfl rfl rfl rfl rfl ?_ ?_
 all_goals first|rfl|(simp [ay];done)|(simp [ay];omega)

theorem ye (d:List aj) (N a b n:Nat) (fn:FuncId) (bj:List (List D)) (hp:∀ x y:aj,Fn Try.prog fn ([.g [cI x.aD,cI x.bc,cI x.kind,cI x.sum],.g [cI y.aD,cI y.bc,cI y.kind,cI y.sum]]++bj.map fun r=>GV.c (.q r 0)) (aI (ik x y)) []) (hen:bl Try.prog fn) (hl:d.length * 32<=140737488355328) (hN:N=d.length) (h0_:a+n<=d.length) (h1_:b+n<=d.length) (r:List aj) (hr:gD a b n d=r):cJ Try.prog 110 [(.c (.s 0 0 4 N)),(.c (cI (↑a:Int))),(.c (cI (↑b:Int))),(.c (cI (↑n:Int))),(.c (.d (.f fn bj)))] [(0,(cS d))] [0] (.t []) [(0,(cS r))]:=by
 refine cJ.mk 38 [(0,(aC (.s 0 0 4 N))),(1,(aI (↑a:Int))),(2,(aI (↑b:Int))),(3,(aI (↑n:Int))),(4,(aC (.d (.f fn bj))))] 1 Try.func110 rfl rfl rfl rfl rfl rfl rfl rfl rfl ?_
 intro W0 F0 T0 pg
 refine gn 0 rfl (fun hlen0=>?_)
 refine ae aa 1 rfl ?_
 refine aX ?_
 refine cw (β:=Nat×List aj) (fun (p:Nat×List aj)=>match p with|(i,d1)=>⟨[(0,(aC (.s 0 0 4 N))),(1,(aI (↑a:Int))),(2,(aI (↑b:Int))),(3,(aI (↑n:Int))),(10,(aI (↑i:Int)))],[(0,(cS d1))],1⟩) (fun (p:Nat×List aj)=>match p with|(i,d1)=>i<=n/\d1=gD a b i d/\d1.length=d.length) (fun (p:Nat×List aj)=>match p with|(i,d1)=>n - i) (0,d) ?_ ?_ ?_
 ·exact ⟨by omega,rfl,rfl⟩
 ·exact aF.bW id (by refine ⟨?_,?_,?_,?_,?_,trivial⟩<;>first|rfl|(simp only [bm];done)|(congr 3;omega)|(congr 4;omega)|(simp only [bn];rfl)|(exact cz rfl (by omega))) (⟨by first|rfl|(simp only [bm];done)|(congr 3;omega)|(congr 4;omega)|(simp only [bn];rfl),trivial⟩) rfl
 rintro ⟨i,d1⟩ ⟨hi0_0,hi0_1,hi0_2⟩
 refine ag ?_
 refine ae aa 3 rfl ?_
 refine ah rfl (fun hc1=>?_) (fun hc1=>?_)
 ·
  have hc1':=of_decide_eq_true hc1
  refine aQ ?_
  refine ag ?_
  refine aX ?_
  obtain ⟨x1,hx1⟩:=ck (xs:=d1) (i:=(b)+(i)) (by first|omega|(simp;done)|(simp;omega))
  obtain ⟨x2,hx2⟩:=ck (xs:=d1) (i:=(a)+(i)) (by first|omega|(simp;done)|(simp;omega))
  obtain ⟨x3,hx3⟩:=ck (xs:=((d1).set ((a)+(i)) x1)) (i:=(b)+(i)) (by first|omega|(simp;done)|(simp;omega))
  refine dg [0,1,2,3,10] [0] mixed rfl rfl ?_
  refine ca (kn:=[]) aa 3 rfl trivial ?_
  refine cg (n':=1) [17,18] [] rfl rfl (.inl ⟨(ak.plain rfl),aM.cast (aL rfl rfl rfl (aJ (by first|omega|(simp;done)|(simp;omega)))) rfl⟩) rfl ?_
  refine ca (kn:=[]) aa 3 rfl trivial ?_
  refine cg (n':=1) [21,22] [] rfl rfl (.inl ⟨(ak.plain rfl),aM.cast (aL rfl rfl rfl (aJ (by first|omega|(simp;done)|(simp;omega)))) rfl⟩) rfl ?_
  refine ca (kn:=[]) aa 3 rfl trivial ?_
  refine cg (n':=1) [25,26] [] rfl rfl (.inl ⟨(ak.plain rfl),aM.cast (aL rfl rfl rfl (aJ (by first|omega|(simp;done)|(simp;omega)))) rfl⟩) rfl ?_
  refine cg (n':=1) [24,27] [0] rfl rfl (.inl ⟨(ak.plain rfl),aM.cast (bA (i:=(b)+(i)) rfl rfl rfl Try.underlying42 dt (by first|omega|(simp;done)|(simp;omega)) (by first|omega|(simp;done)|(simp;omega))) rfl⟩) rfl ?_
  refine cg (n':=1) [28] [0] rfl rfl (.inl ⟨(ak.plain rfl),aM.cast (dm rfl rfl rfl Try.underlying83 rfl dt (bw hx1) rfl) rfl⟩) rfl ?_
  refine ca (kn:=[]) aa 3 rfl trivial ?_
  refine cg (n':=1) [31,32] [] rfl rfl (.inl ⟨(ak.plain rfl),aM.cast (aL rfl rfl rfl (aJ (by first|omega|(simp;done)|(simp;omega)))) rfl⟩) rfl ?_
  refine cg (n':=1) [30,33] [0] rfl rfl (.inl ⟨(ak.plain rfl),aM.cast (bA (i:=(a)+(i)) rfl rfl rfl Try.underlying42 dt (by first|omega|(simp;done)|(simp;omega)) (by first|omega|(simp;done)|(simp;omega))) rfl⟩) rfl ?_
  refine cg (n':=1) [34] [0] rfl rfl (.inl ⟨(ak.plain rfl),aM.cast (dm rfl rfl rfl Try.underlying83 rfl dt (bw hx2) rfl) rfl⟩) rfl ?_
  refine cg (n':=1) [16,19] [0] rfl rfl (.inl ⟨(ak.plain rfl),aM.cast (bA (i:=(a)+(i)) rfl rfl rfl Try.underlying42 dt (by first|omega|(simp;done)|(simp;omega)) (by first|omega|(simp;done)|(simp;omega))) rfl⟩) rfl ?_
  refine cg (n':=1) [36,29] [0] rfl rfl (.inl ⟨(ak.plain rfl),aM.cast (dU (ds:=[(dI x1.aD),(dI x1.bc),(dI x1.kind),(dI x1.sum)]) rfl rfl rfl rfl rfl dt rfl (Nat.le_of_ble_eq_true rfl) (bw hx2) rfl (eZ (x':=x1) rfl)) rfl⟩) rfl ?_
  refine cg (n':=1) [20,23] [0] rfl rfl (.inl ⟨(ak.plain rfl),aM.cast (bA (i:=(b)+(i)) rfl rfl rfl Try.underlying42 dt (by first|omega|(simp;done)|(simp;omega)) (by first|omega|(simp;done)|(simp;omega))) rfl⟩) rfl ?_
  refine cg (n':=1) [37,35] [0] rfl rfl (.inl ⟨(ak.plain rfl),aM.cast (dU (ds:=[(dI x2.aD),(dI x2.bc),(dI x2.kind),(dI x2.sum)]) rfl rfl rfl rfl rfl dt rfl (Nat.le_of_ble_eq_true rfl) (bw hx3) rfl (eZ (x':=x2) rfl)) rfl⟩) rfl ?_
  refine dX [0,1,2,3,10] [0] rfl rfl (by kernel_rfl) ?_
  refine bh ?_
  refine then_ok ?_
  refine au ?_
  refine ad aa 1 rfl ?_
  refine aA (aL rfl rfl rfl (aJ (by first|omega|(simp;done)|(simp;omega)))) rfl ?_
  refine ad aa 1 rfl ?_
  refine af ?_
  refine ⟨(i+1,((d1).set ((a)+(i)) x1).set ((b)+(i)) x2),⟨by omega,by rw [gD,<-hi0_1];exact (mj hx2 hx1).symm,by simp only [List.length_set];exact hi0_2⟩,by first|omega|(simp;done)|(simp;omega),aF.bW id (by refine ⟨?_,?_,?_,?_,?_,trivial⟩<;>first|rfl|(simp only [bm];done)|(congr 3;omega)|(congr 4;omega)|(simp only [bn];rfl)|(exact cz rfl (by omega))) (⟨by first|rfl|(simp only [bm];done)|(congr 3;omega)|(congr 4;omega)|(simp only [bn];rfl),trivial⟩) rfl⟩
 have hc1':=of_decide_eq_false hc1
 refine cj ?_
 refine aP ?_
 refine aP ?_
 refine bK ?_
 have hX:gD a b n d=d1:=by
   have:i=n:=by omega
   subst this;exact hi0_1.symm
 rw [hX] at hr;clear hX
 subst hr
 refine cP aa [0] 1 rfl rfl rfl rfl rfl rfl ?_ ?_
 all_goals first|rfl|(simp [ay];done)|(simp [ay];omega)
theorem mv (ai bi ni:Int) (d:List aj) (N a b n:Nat) (fn:FuncId) (bj:List (List D)) (hp:∀ x y:aj,Fn Try.prog fn ([.g [cI x.aD,cI x.bc,cI x.kind,cI x.sum],.g [cI y.aD,cI y.bc,cI y.kind,cI y.sum]]++bj.map fun r=>GV.c (.q r 0)) (aI (ik x y)) []) (hen:bl Try.prog fn) (ea_:ai=(↑a:Int)) (eb_:bi=(↑b:Int)) (en_:ni=(↑n:Int)) (hl:d.length * 32<=140737488355328) (hN:N=d.length) (h0_:a+n<=d.length) (h1_:b+n<=d.length) (r:List aj) (hr:gD a b n d=r):cJ Try.prog 110 [(.c (.s 0 0 4 N)),(.c (cI ai)),(.c (cI bi)),(.c (cI ni)),(.c (.d (.f fn bj)))] [(0,(cS d))] [0] (.t []) [(0,(cS r))]:=by
  subst ea_ eb_ en_
  exact ye d N a b n fn bj hp hen hl hN h0_ h1_ r hr
end Go.Proofs.Ytegepioggeggaaa.Dev
